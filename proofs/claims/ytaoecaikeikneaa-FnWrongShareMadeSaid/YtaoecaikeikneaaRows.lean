/-
  No cell of these rows narrows 'for every input' (looked for: loops, veiled, ifaces, maps, wideKeys, modest, calm, conditions, laid).
  DERIVED. THE GIVEN ROWS OF THIS SEAT. 13 by the template 'for every input the law returns true; each argument reads behind the call as it read before'; 0 by the template 'total and deterministic' (their statements: YtaoecaikeikneaaTotals.lean).
  GIVEN WITH THE SEED: the statements are not yours to turn. If you find one false, say at which input.
  Laid BY PROGRAM, IN A SANDBOX (cutbox-rows.mjs): the forced cells as the released guide's own fill.sh prints them over the translation 8ec458fbb979fc0b… (all of the seat's roots in one cut). By AI agents, Wed Nov 11 2026. No macro, syntax, notation, axiom, sorry.
-/
import Derived.Test.YtaoecaikeikneaaChecked
import GoSem.Claim
import GoSem.ClaimJoined
import GoSem.ClaimMapViews
import Derived.JoinedTies
import Derived.KernelRfl
namespace Go.Proofs.Ytaoecaikeikneaa
/- THE CELL 'sum', in the pinned program and in every row, IS THE sha256 OF THE DUMP (.gsa) THAT YtaoecaikeikneaaProg.lean LOADS. Nothing in Lean hashes anything: it is a label: what it is worth is what the hold of that sum in a sandbox is worth. -/
noncomputable def Try.pinned : Pinned := { name := "ytaoecaikeikneaa", sum := "8ec458fbb979fc0b664f78d9f6d737f3d238287accb5a253cfca3087ea56428e", checked := Try.checked }
namespace Rows
def none {H : Type} : Left H := { results := [], args := [] }

/-- 'laws.FnDealSharesMore': WHATEVER THE INPUT: true; the input reads as it did. -/
def fnDealSharesMoreSpec : ChangeSpec := { name := "fnDealSharesMore", fn := fun _ => fun
  | [d] => { results := [.lit (.bool true)], args := [d] }
  | _ => none }
def fnDealSharesMoreRow : OpenClaim := { program := "ytaoecaikeikneaa", sum := "8ec458fbb979fc0b664f78d9f6d737f3d238287accb5a253cfca3087ea56428e", func := "loop.example/savingsclub/laws.FnDealSharesMore", spec := "fnDealSharesMore", unfollowed := true, recurses := true, apart := false }
def FnDealSharesMoreSaid : Prop := fnDealSharesMoreRow.holds Try.pinned (OpenSpec.ofChange fnDealSharesMoreSpec)

/-- ITS FALSE NEIGHBOUR: 'it returns false'. Refute it at one input. -/
def fnDealSharesMoreWrong : ChangeSpec := { name := "fnDealSharesMore", fn := fun _ => fun
  | [d] => { results := [.lit (.bool false)], args := [d] }
  | _ => none }
def FnDealSharesMoreWrongFalsely : Prop := fnDealSharesMoreRow.holds Try.pinned (OpenSpec.ofChange fnDealSharesMoreWrong)

/-- 'laws.FnAddShares': WHATEVER THE INPUT: true; the input reads as it did. -/
def fnAddSharesSpec : ChangeSpec := { name := "fnAddShares", fn := fun _ => fun
  | [d] => { results := [.lit (.bool true)], args := [d] }
  | _ => none }
def fnAddSharesRow : OpenClaim := { program := "ytaoecaikeikneaa", sum := "8ec458fbb979fc0b664f78d9f6d737f3d238287accb5a253cfca3087ea56428e", func := "loop.example/savingsclub/laws.FnAddShares", spec := "fnAddShares", unfollowed := true, recurses := true, apart := false }
def FnAddSharesSaid : Prop := fnAddSharesRow.holds Try.pinned (OpenSpec.ofChange fnAddSharesSpec)

/-- ITS FALSE NEIGHBOUR: 'it returns false'. Refute it at one input. -/
def fnAddSharesWrong : ChangeSpec := { name := "fnAddShares", fn := fun _ => fun
  | [d] => { results := [.lit (.bool false)], args := [d] }
  | _ => none }
def FnAddSharesWrongFalsely : Prop := fnAddSharesRow.holds Try.pinned (OpenSpec.ofChange fnAddSharesWrong)

/-- 'laws.FnOpenSecret': WHATEVER THE INPUT: true; the input reads as it did. -/
def fnOpenSecretSpec : ChangeSpec := { name := "fnOpenSecret", fn := fun _ => fun
  | [d] => { results := [.lit (.bool true)], args := [d] }
  | _ => none }
def fnOpenSecretRow : OpenClaim := { program := "ytaoecaikeikneaa", sum := "8ec458fbb979fc0b664f78d9f6d737f3d238287accb5a253cfca3087ea56428e", func := "loop.example/savingsclub/laws.FnOpenSecret", spec := "fnOpenSecret", unfollowed := true, recurses := true, apart := false }
def FnOpenSecretSaid : Prop := fnOpenSecretRow.holds Try.pinned (OpenSpec.ofChange fnOpenSecretSpec)

/-- ITS FALSE NEIGHBOUR: 'it returns false'. Refute it at one input. -/
def fnOpenSecretWrong : ChangeSpec := { name := "fnOpenSecret", fn := fun _ => fun
  | [d] => { results := [.lit (.bool false)], args := [d] }
  | _ => none }
def FnOpenSecretWrongFalsely : Prop := fnOpenSecretRow.holds Try.pinned (OpenSpec.ofChange fnOpenSecretWrong)

/-- 'laws.FnPolyThrough': WHATEVER THE INPUT: true; the input reads as it did. -/
def fnPolyThroughSpec : ChangeSpec := { name := "fnPolyThrough", fn := fun _ => fun
  | [d] => { results := [.lit (.bool true)], args := [d] }
  | _ => none }
def fnPolyThroughRow : OpenClaim := { program := "ytaoecaikeikneaa", sum := "8ec458fbb979fc0b664f78d9f6d737f3d238287accb5a253cfca3087ea56428e", func := "loop.example/savingsclub/laws.FnPolyThrough", spec := "fnPolyThrough", unfollowed := true, recurses := true, apart := false }
def FnPolyThroughSaid : Prop := fnPolyThroughRow.holds Try.pinned (OpenSpec.ofChange fnPolyThroughSpec)

/-- ITS FALSE NEIGHBOUR: 'it returns false'. Refute it at one input. -/
def fnPolyThroughWrong : ChangeSpec := { name := "fnPolyThrough", fn := fun _ => fun
  | [d] => { results := [.lit (.bool false)], args := [d] }
  | _ => none }
def FnPolyThroughWrongFalsely : Prop := fnPolyThroughRow.holds Try.pinned (OpenSpec.ofChange fnPolyThroughWrong)

/-- 'laws.FnPolyWith': WHATEVER THE INPUT: true; the input reads as it did. -/
def fnPolyWithSpec : ChangeSpec := { name := "fnPolyWith", fn := fun _ => fun
  | [d] => { results := [.lit (.bool true)], args := [d] }
  | _ => none }
def fnPolyWithRow : OpenClaim := { program := "ytaoecaikeikneaa", sum := "8ec458fbb979fc0b664f78d9f6d737f3d238287accb5a253cfca3087ea56428e", func := "loop.example/savingsclub/laws.FnPolyWith", spec := "fnPolyWith", unfollowed := true, recurses := true, apart := false }
def FnPolyWithSaid : Prop := fnPolyWithRow.holds Try.pinned (OpenSpec.ofChange fnPolyWithSpec)

/-- ITS FALSE NEIGHBOUR: 'it returns false'. Refute it at one input. -/
def fnPolyWithWrong : ChangeSpec := { name := "fnPolyWith", fn := fun _ => fun
  | [d] => { results := [.lit (.bool false)], args := [d] }
  | _ => none }
def FnPolyWithWrongFalsely : Prop := fnPolyWithRow.holds Try.pinned (OpenSpec.ofChange fnPolyWithWrong)

/-- 'laws.FnExactPolyThrough': WHATEVER THE INPUT: true; the input reads as it did. -/
def fnExactPolyThroughSpec : ChangeSpec := { name := "fnExactPolyThrough", fn := fun _ => fun
  | [d] => { results := [.lit (.bool true)], args := [d] }
  | _ => none }
def fnExactPolyThroughRow : OpenClaim := { program := "ytaoecaikeikneaa", sum := "8ec458fbb979fc0b664f78d9f6d737f3d238287accb5a253cfca3087ea56428e", func := "loop.example/savingsclub/laws.FnExactPolyThrough", spec := "fnExactPolyThrough", unfollowed := true, recurses := true, apart := false }
def FnExactPolyThroughSaid : Prop := fnExactPolyThroughRow.holds Try.pinned (OpenSpec.ofChange fnExactPolyThroughSpec)

/-- ITS FALSE NEIGHBOUR: 'it returns false'. Refute it at one input. -/
def fnExactPolyThroughWrong : ChangeSpec := { name := "fnExactPolyThrough", fn := fun _ => fun
  | [d] => { results := [.lit (.bool false)], args := [d] }
  | _ => none }
def FnExactPolyThroughWrongFalsely : Prop := fnExactPolyThroughRow.holds Try.pinned (OpenSpec.ofChange fnExactPolyThroughWrong)

/-- 'laws.FnExactPolyWith': WHATEVER THE INPUT: true; the input reads as it did. -/
def fnExactPolyWithSpec : ChangeSpec := { name := "fnExactPolyWith", fn := fun _ => fun
  | [d1, d2] => { results := [.lit (.bool true)], args := [d1, d2] }
  | _ => none }
def fnExactPolyWithRow : OpenClaim := { program := "ytaoecaikeikneaa", sum := "8ec458fbb979fc0b664f78d9f6d737f3d238287accb5a253cfca3087ea56428e", func := "loop.example/savingsclub/laws.FnExactPolyWith", spec := "fnExactPolyWith", unfollowed := true, recurses := true, apart := false }
def FnExactPolyWithSaid : Prop := fnExactPolyWithRow.holds Try.pinned (OpenSpec.ofChange fnExactPolyWithSpec)

/-- ITS FALSE NEIGHBOUR: 'it returns false'. Refute it at one input. -/
def fnExactPolyWithWrong : ChangeSpec := { name := "fnExactPolyWith", fn := fun _ => fun
  | [d1, d2] => { results := [.lit (.bool false)], args := [d1, d2] }
  | _ => none }
def FnExactPolyWithWrongFalsely : Prop := fnExactPolyWithRow.holds Try.pinned (OpenSpec.ofChange fnExactPolyWithWrong)

/-- 'laws.FnDealShares': WHATEVER THE INPUT: true; the input reads as it did. -/
def fnDealSharesSpec : ChangeSpec := { name := "fnDealShares", fn := fun _ => fun
  | [d] => { results := [.lit (.bool true)], args := [d] }
  | _ => none }
def fnDealSharesRow : OpenClaim := { program := "ytaoecaikeikneaa", sum := "8ec458fbb979fc0b664f78d9f6d737f3d238287accb5a253cfca3087ea56428e", func := "loop.example/savingsclub/laws.FnDealShares", spec := "fnDealShares", unfollowed := true, recurses := true, apart := false }
def FnDealSharesSaid : Prop := fnDealSharesRow.holds Try.pinned (OpenSpec.ofChange fnDealSharesSpec)

/-- ITS FALSE NEIGHBOUR: 'it returns false'. Refute it at one input. -/
def fnDealSharesWrong : ChangeSpec := { name := "fnDealShares", fn := fun _ => fun
  | [d] => { results := [.lit (.bool false)], args := [d] }
  | _ => none }
def FnDealSharesWrongFalsely : Prop := fnDealSharesRow.holds Try.pinned (OpenSpec.ofChange fnDealSharesWrong)

/-- 'laws.FnRefreshShares': WHATEVER THE INPUT: true; the input reads as it did. -/
def fnRefreshSharesSpec : ChangeSpec := { name := "fnRefreshShares", fn := fun _ => fun
  | [d] => { results := [.lit (.bool true)], args := [d] }
  | _ => none }
def fnRefreshSharesRow : OpenClaim := { program := "ytaoecaikeikneaa", sum := "8ec458fbb979fc0b664f78d9f6d737f3d238287accb5a253cfca3087ea56428e", func := "loop.example/savingsclub/laws.FnRefreshShares", spec := "fnRefreshShares", unfollowed := true, recurses := true, apart := false }
def FnRefreshSharesSaid : Prop := fnRefreshSharesRow.holds Try.pinned (OpenSpec.ofChange fnRefreshSharesSpec)

/-- ITS FALSE NEIGHBOUR: 'it returns false'. Refute it at one input. -/
def fnRefreshSharesWrong : ChangeSpec := { name := "fnRefreshShares", fn := fun _ => fun
  | [d] => { results := [.lit (.bool false)], args := [d] }
  | _ => none }
def FnRefreshSharesWrongFalsely : Prop := fnRefreshSharesRow.holds Try.pinned (OpenSpec.ofChange fnRefreshSharesWrong)

/-- 'laws.FnExactFitTogether': WHATEVER THE INPUT: true; the input reads as it did. -/
def fnExactFitTogetherSpec : ChangeSpec := { name := "fnExactFitTogether", fn := fun _ => fun
  | [d1, d2] => { results := [.lit (.bool true)], args := [d1, d2] }
  | _ => none }
def fnExactFitTogetherRow : OpenClaim := { program := "ytaoecaikeikneaa", sum := "8ec458fbb979fc0b664f78d9f6d737f3d238287accb5a253cfca3087ea56428e", func := "loop.example/savingsclub/laws.FnExactFitTogether", spec := "fnExactFitTogether", unfollowed := true, recurses := true, apart := false }
def FnExactFitTogetherSaid : Prop := fnExactFitTogetherRow.holds Try.pinned (OpenSpec.ofChange fnExactFitTogetherSpec)

/-- ITS FALSE NEIGHBOUR: 'it returns false'. Refute it at one input. -/
def fnExactFitTogetherWrong : ChangeSpec := { name := "fnExactFitTogether", fn := fun _ => fun
  | [d1, d2] => { results := [.lit (.bool false)], args := [d1, d2] }
  | _ => none }
def FnExactFitTogetherWrongFalsely : Prop := fnExactFitTogetherRow.holds Try.pinned (OpenSpec.ofChange fnExactFitTogetherWrong)

/-- 'laws.FnFitTogether': WHATEVER THE INPUT: true; the input reads as it did. -/
def fnFitTogetherSpec : ChangeSpec := { name := "fnFitTogether", fn := fun _ => fun
  | [d] => { results := [.lit (.bool true)], args := [d] }
  | _ => none }
def fnFitTogetherRow : OpenClaim := { program := "ytaoecaikeikneaa", sum := "8ec458fbb979fc0b664f78d9f6d737f3d238287accb5a253cfca3087ea56428e", func := "loop.example/savingsclub/laws.FnFitTogether", spec := "fnFitTogether", unfollowed := true, recurses := true, apart := false }
def FnFitTogetherSaid : Prop := fnFitTogetherRow.holds Try.pinned (OpenSpec.ofChange fnFitTogetherSpec)

/-- ITS FALSE NEIGHBOUR: 'it returns false'. Refute it at one input. -/
def fnFitTogetherWrong : ChangeSpec := { name := "fnFitTogether", fn := fun _ => fun
  | [d] => { results := [.lit (.bool false)], args := [d] }
  | _ => none }
def FnFitTogetherWrongFalsely : Prop := fnFitTogetherRow.holds Try.pinned (OpenSpec.ofChange fnFitTogetherWrong)

/-- 'laws.FnWrongShareMade': WHATEVER THE INPUT: true; the input reads as it did. -/
def fnWrongShareMadeSpec : ChangeSpec := { name := "fnWrongShareMade", fn := fun _ => fun
  | [d] => { results := [.lit (.bool true)], args := [d] }
  | _ => none }
def fnWrongShareMadeRow : OpenClaim := { program := "ytaoecaikeikneaa", sum := "8ec458fbb979fc0b664f78d9f6d737f3d238287accb5a253cfca3087ea56428e", func := "loop.example/savingsclub/laws.FnWrongShareMade", spec := "fnWrongShareMade", unfollowed := true, recurses := true, apart := false }
def FnWrongShareMadeSaid : Prop := fnWrongShareMadeRow.holds Try.pinned (OpenSpec.ofChange fnWrongShareMadeSpec)

/-- ITS FALSE NEIGHBOUR: 'it returns false'. Refute it at one input. -/
def fnWrongShareMadeWrong : ChangeSpec := { name := "fnWrongShareMade", fn := fun _ => fun
  | [d] => { results := [.lit (.bool false)], args := [d] }
  | _ => none }
def FnWrongShareMadeWrongFalsely : Prop := fnWrongShareMadeRow.holds Try.pinned (OpenSpec.ofChange fnWrongShareMadeWrong)

/-- 'laws.FnExactWrongShare': WHATEVER THE INPUT: true; the input reads as it did. -/
def fnExactWrongShareSpec : ChangeSpec := { name := "fnExactWrongShare", fn := fun _ => fun
  | [d1, d2] => { results := [.lit (.bool true)], args := [d1, d2] }
  | _ => none }
def fnExactWrongShareRow : OpenClaim := { program := "ytaoecaikeikneaa", sum := "8ec458fbb979fc0b664f78d9f6d737f3d238287accb5a253cfca3087ea56428e", func := "loop.example/savingsclub/laws.FnExactWrongShare", spec := "fnExactWrongShare", unfollowed := true, recurses := true, apart := false }
def FnExactWrongShareSaid : Prop := fnExactWrongShareRow.holds Try.pinned (OpenSpec.ofChange fnExactWrongShareSpec)

/-- ITS FALSE NEIGHBOUR: 'it returns false'. Refute it at one input. -/
def fnExactWrongShareWrong : ChangeSpec := { name := "fnExactWrongShare", fn := fun _ => fun
  | [d1, d2] => { results := [.lit (.bool false)], args := [d1, d2] }
  | _ => none }
def FnExactWrongShareWrongFalsely : Prop := fnExactWrongShareRow.holds Try.pinned (OpenSpec.ofChange fnExactWrongShareWrong)

/- THE SECOND FORM. 'bulk': how many values and letters a reading holds, each counted each time it is reached (what is shared counts as often as it is met; a slice's spare places count too). A statement '..UptoSaid' is the law's where the arguments, and the package variables that the reading takes, are together of bulk at most 1048576: NARROWER than '..Said'. Prove '..Said' where nothing that the law and all that it calls make is longer than what came in: it says more and counts as full. Else prove '..UptoSaid'. A law counts once. -/
mutual
def uptoBulk {H : Type} : DataW H → Nat
  | .lit (.string bytes) => bytes.length + 1
  | .lit _ => 1
  | .nil => 1
  | .ptr d => uptoBulk d + 1
  | .slice elems spare => uptoBulkAll elems + uptoBulkAll spare + 1
  | .agg parts => uptoBulkAll parts + 1
  | .iface _ d => uptoBulk d + 1
  | .map entries => uptoBulkEntries entries + 1
  | .held _ => 1
def uptoBulkAll {H : Type} : List (DataW H) → Nat
  | [] => 0
  | d :: r => uptoBulk d + uptoBulkAll r
def uptoBulkEntries {H : Type} : List (Lit × DataW H) → Nat
  | [] => 0
  | x :: r => uptoBulkEntry x + uptoBulkEntries r
def uptoBulkEntry {H : Type} : Lit × DataW H → Nat
  | (.string bytes, d) => bytes.length + uptoBulk d + 1
  | (_, d) => uptoBulk d + 1
 end
def uptoSmall : (H : Type) → List (DataW H) → Bool := fun _ ds => decide (uptoBulkAll ds ≤ 1048576)
def OpenSpec.upto (s : _root_.Go.ChangeSpec) : _root_.Go.OpenSpec := { _root_.Go.OpenSpec.ofChange s with cond := some uptoSmall }

/-- 'laws.FnDealSharesMore', WHERE WHAT IT READS IS OF BULK AT MOST 1048576: true; the input reads as it did. -/
def fnDealSharesMoreUptoRow : OpenClaim := { program := "ytaoecaikeikneaa", sum := "8ec458fbb979fc0b664f78d9f6d737f3d238287accb5a253cfca3087ea56428e", func := "loop.example/savingsclub/laws.FnDealSharesMore", spec := "fnDealSharesMore", unfollowed := true, recurses := true, apart := false, narrowed := true }
def FnDealSharesMoreUptoSaid : Prop := fnDealSharesMoreUptoRow.holds Try.pinned (OpenSpec.upto fnDealSharesMoreSpec)

/-- 'laws.FnAddShares', WHERE WHAT IT READS IS OF BULK AT MOST 1048576: true; the input reads as it did. -/
def fnAddSharesUptoRow : OpenClaim := { program := "ytaoecaikeikneaa", sum := "8ec458fbb979fc0b664f78d9f6d737f3d238287accb5a253cfca3087ea56428e", func := "loop.example/savingsclub/laws.FnAddShares", spec := "fnAddShares", unfollowed := true, recurses := true, apart := false, narrowed := true }
def FnAddSharesUptoSaid : Prop := fnAddSharesUptoRow.holds Try.pinned (OpenSpec.upto fnAddSharesSpec)

/-- 'laws.FnOpenSecret', WHERE WHAT IT READS IS OF BULK AT MOST 1048576: true; the input reads as it did. -/
def fnOpenSecretUptoRow : OpenClaim := { program := "ytaoecaikeikneaa", sum := "8ec458fbb979fc0b664f78d9f6d737f3d238287accb5a253cfca3087ea56428e", func := "loop.example/savingsclub/laws.FnOpenSecret", spec := "fnOpenSecret", unfollowed := true, recurses := true, apart := false, narrowed := true }
def FnOpenSecretUptoSaid : Prop := fnOpenSecretUptoRow.holds Try.pinned (OpenSpec.upto fnOpenSecretSpec)

/-- 'laws.FnPolyThrough', WHERE WHAT IT READS IS OF BULK AT MOST 1048576: true; the input reads as it did. -/
def fnPolyThroughUptoRow : OpenClaim := { program := "ytaoecaikeikneaa", sum := "8ec458fbb979fc0b664f78d9f6d737f3d238287accb5a253cfca3087ea56428e", func := "loop.example/savingsclub/laws.FnPolyThrough", spec := "fnPolyThrough", unfollowed := true, recurses := true, apart := false, narrowed := true }
def FnPolyThroughUptoSaid : Prop := fnPolyThroughUptoRow.holds Try.pinned (OpenSpec.upto fnPolyThroughSpec)

/-- 'laws.FnPolyWith', WHERE WHAT IT READS IS OF BULK AT MOST 1048576: true; the input reads as it did. -/
def fnPolyWithUptoRow : OpenClaim := { program := "ytaoecaikeikneaa", sum := "8ec458fbb979fc0b664f78d9f6d737f3d238287accb5a253cfca3087ea56428e", func := "loop.example/savingsclub/laws.FnPolyWith", spec := "fnPolyWith", unfollowed := true, recurses := true, apart := false, narrowed := true }
def FnPolyWithUptoSaid : Prop := fnPolyWithUptoRow.holds Try.pinned (OpenSpec.upto fnPolyWithSpec)

/-- 'laws.FnExactPolyThrough', WHERE WHAT IT READS IS OF BULK AT MOST 1048576: true; the input reads as it did. -/
def fnExactPolyThroughUptoRow : OpenClaim := { program := "ytaoecaikeikneaa", sum := "8ec458fbb979fc0b664f78d9f6d737f3d238287accb5a253cfca3087ea56428e", func := "loop.example/savingsclub/laws.FnExactPolyThrough", spec := "fnExactPolyThrough", unfollowed := true, recurses := true, apart := false, narrowed := true }
def FnExactPolyThroughUptoSaid : Prop := fnExactPolyThroughUptoRow.holds Try.pinned (OpenSpec.upto fnExactPolyThroughSpec)

/-- 'laws.FnExactPolyWith', WHERE WHAT IT READS IS OF BULK AT MOST 1048576: true; the input reads as it did. -/
def fnExactPolyWithUptoRow : OpenClaim := { program := "ytaoecaikeikneaa", sum := "8ec458fbb979fc0b664f78d9f6d737f3d238287accb5a253cfca3087ea56428e", func := "loop.example/savingsclub/laws.FnExactPolyWith", spec := "fnExactPolyWith", unfollowed := true, recurses := true, apart := false, narrowed := true }
def FnExactPolyWithUptoSaid : Prop := fnExactPolyWithUptoRow.holds Try.pinned (OpenSpec.upto fnExactPolyWithSpec)

/-- 'laws.FnDealShares', WHERE WHAT IT READS IS OF BULK AT MOST 1048576: true; the input reads as it did. -/
def fnDealSharesUptoRow : OpenClaim := { program := "ytaoecaikeikneaa", sum := "8ec458fbb979fc0b664f78d9f6d737f3d238287accb5a253cfca3087ea56428e", func := "loop.example/savingsclub/laws.FnDealShares", spec := "fnDealShares", unfollowed := true, recurses := true, apart := false, narrowed := true }
def FnDealSharesUptoSaid : Prop := fnDealSharesUptoRow.holds Try.pinned (OpenSpec.upto fnDealSharesSpec)

/-- 'laws.FnRefreshShares', WHERE WHAT IT READS IS OF BULK AT MOST 1048576: true; the input reads as it did. -/
def fnRefreshSharesUptoRow : OpenClaim := { program := "ytaoecaikeikneaa", sum := "8ec458fbb979fc0b664f78d9f6d737f3d238287accb5a253cfca3087ea56428e", func := "loop.example/savingsclub/laws.FnRefreshShares", spec := "fnRefreshShares", unfollowed := true, recurses := true, apart := false, narrowed := true }
def FnRefreshSharesUptoSaid : Prop := fnRefreshSharesUptoRow.holds Try.pinned (OpenSpec.upto fnRefreshSharesSpec)

/-- 'laws.FnExactFitTogether', WHERE WHAT IT READS IS OF BULK AT MOST 1048576: true; the input reads as it did. -/
def fnExactFitTogetherUptoRow : OpenClaim := { program := "ytaoecaikeikneaa", sum := "8ec458fbb979fc0b664f78d9f6d737f3d238287accb5a253cfca3087ea56428e", func := "loop.example/savingsclub/laws.FnExactFitTogether", spec := "fnExactFitTogether", unfollowed := true, recurses := true, apart := false, narrowed := true }
def FnExactFitTogetherUptoSaid : Prop := fnExactFitTogetherUptoRow.holds Try.pinned (OpenSpec.upto fnExactFitTogetherSpec)

/-- 'laws.FnFitTogether', WHERE WHAT IT READS IS OF BULK AT MOST 1048576: true; the input reads as it did. -/
def fnFitTogetherUptoRow : OpenClaim := { program := "ytaoecaikeikneaa", sum := "8ec458fbb979fc0b664f78d9f6d737f3d238287accb5a253cfca3087ea56428e", func := "loop.example/savingsclub/laws.FnFitTogether", spec := "fnFitTogether", unfollowed := true, recurses := true, apart := false, narrowed := true }
def FnFitTogetherUptoSaid : Prop := fnFitTogetherUptoRow.holds Try.pinned (OpenSpec.upto fnFitTogetherSpec)

/-- 'laws.FnWrongShareMade', WHERE WHAT IT READS IS OF BULK AT MOST 1048576: true; the input reads as it did. -/
def fnWrongShareMadeUptoRow : OpenClaim := { program := "ytaoecaikeikneaa", sum := "8ec458fbb979fc0b664f78d9f6d737f3d238287accb5a253cfca3087ea56428e", func := "loop.example/savingsclub/laws.FnWrongShareMade", spec := "fnWrongShareMade", unfollowed := true, recurses := true, apart := false, narrowed := true }
def FnWrongShareMadeUptoSaid : Prop := fnWrongShareMadeUptoRow.holds Try.pinned (OpenSpec.upto fnWrongShareMadeSpec)

/-- 'laws.FnExactWrongShare', WHERE WHAT IT READS IS OF BULK AT MOST 1048576: true; the input reads as it did. -/
def fnExactWrongShareUptoRow : OpenClaim := { program := "ytaoecaikeikneaa", sum := "8ec458fbb979fc0b664f78d9f6d737f3d238287accb5a253cfca3087ea56428e", func := "loop.example/savingsclub/laws.FnExactWrongShare", spec := "fnExactWrongShare", unfollowed := true, recurses := true, apart := false, narrowed := true }
def FnExactWrongShareUptoSaid : Prop := fnExactWrongShareUptoRow.holds Try.pinned (OpenSpec.upto fnExactWrongShareSpec)

end Rows
end Go.Proofs.Ytaoecaikeikneaa
