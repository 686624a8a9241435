/-
  No cell of these rows narrows 'for every input' (looked for: loops, veiled, ifaces, maps, wideKeys, modest, calm, conditions, laid).
  DERIVED. THE GIVEN ROWS OF THIS SEAT. 6 by the template 'for every input the law returns true; each argument reads behind the call as it read before'; 0 by the template 'total and deterministic' (their statements: YtikahkklbgndbaaTotals.lean).
  GIVEN WITH THE SEED: the statements are not yours to turn. If you find one false, say at which input.
  Laid BY PROGRAM, IN A SANDBOX (cutbox-rows.mjs): the forced cells as the released guide's own fill.sh prints them over the translation 5a27bb24a138f19f… (all of the seat's roots in one cut). By AI agents, Wed Nov 11 2026. No macro, syntax, notation, axiom, sorry.
-/
import Derived.Test.YtikahkklbgndbaaChecked
import GoSem.Claim
import GoSem.ClaimJoined
import GoSem.ClaimMapViews
import Derived.JoinedTies
import Derived.KernelRfl
namespace Go.Proofs.Ytikahkklbgndbaa
/- THE CELL 'sum', in the pinned program and in every row, IS THE sha256 OF THE DUMP (.gsa) THAT YtikahkklbgndbaaProg.lean LOADS. Nothing in Lean hashes anything: it is a label: what it is worth is what the hold of that sum in a sandbox is worth. -/
noncomputable def Try.pinned : Pinned := { name := "ytikahkklbgndbaa", sum := "5a27bb24a138f19f8a10251236370b1143520830ac914430d70d957c951aa986", checked := Try.checked }
namespace Rows
def none {H : Type} : Left H := { results := [], args := [] }

/-- 'laws.FnExactPivotsOf': WHATEVER THE INPUT: true; the input reads as it did. -/
def fnExactPivotsOfSpec : ChangeSpec := { name := "fnExactPivotsOf", fn := fun _ => fun
  | [d] => { results := [.lit (.bool true)], args := [d] }
  | _ => none }
def fnExactPivotsOfRow : OpenClaim := { program := "ytikahkklbgndbaa", sum := "5a27bb24a138f19f8a10251236370b1143520830ac914430d70d957c951aa986", func := "loop.example/savingsclub/laws.FnExactPivotsOf", spec := "fnExactPivotsOf", unfollowed := true, recurses := true, apart := false }
def FnExactPivotsOfSaid : Prop := fnExactPivotsOfRow.holds Try.pinned (OpenSpec.ofChange fnExactPivotsOfSpec)

/-- ITS FALSE NEIGHBOUR: 'it returns false'. Refute it at one input. -/
def fnExactPivotsOfWrong : ChangeSpec := { name := "fnExactPivotsOf", fn := fun _ => fun
  | [d] => { results := [.lit (.bool false)], args := [d] }
  | _ => none }
def FnExactPivotsOfWrongFalsely : Prop := fnExactPivotsOfRow.holds Try.pinned (OpenSpec.ofChange fnExactPivotsOfWrong)

/-- 'laws.FnLeastCoalitionsAll': WHATEVER THE INPUT: true; the input reads as it did. -/
def fnLeastCoalitionsAllSpec : ChangeSpec := { name := "fnLeastCoalitionsAll", fn := fun _ => fun
  | [d] => { results := [.lit (.bool true)], args := [d] }
  | _ => none }
def fnLeastCoalitionsAllRow : OpenClaim := { program := "ytikahkklbgndbaa", sum := "5a27bb24a138f19f8a10251236370b1143520830ac914430d70d957c951aa986", func := "loop.example/savingsclub/laws.FnLeastCoalitionsAll", spec := "fnLeastCoalitionsAll", apart := false }
def FnLeastCoalitionsAllSaid : Prop := fnLeastCoalitionsAllRow.holds Try.pinned (OpenSpec.ofChange fnLeastCoalitionsAllSpec)

/-- ITS FALSE NEIGHBOUR: 'it returns false'. Refute it at one input. -/
def fnLeastCoalitionsAllWrong : ChangeSpec := { name := "fnLeastCoalitionsAll", fn := fun _ => fun
  | [d] => { results := [.lit (.bool false)], args := [d] }
  | _ => none }
def FnLeastCoalitionsAllWrongFalsely : Prop := fnLeastCoalitionsAllRow.holds Try.pinned (OpenSpec.ofChange fnLeastCoalitionsAllWrong)

/-- 'laws.FnExactLeastCoalitions': WHATEVER THE INPUT: true; the input reads as it did. -/
def fnExactLeastCoalitionsSpec : ChangeSpec := { name := "fnExactLeastCoalitions", fn := fun _ => fun
  | [d] => { results := [.lit (.bool true)], args := [d] }
  | _ => none }
def fnExactLeastCoalitionsRow : OpenClaim := { program := "ytikahkklbgndbaa", sum := "5a27bb24a138f19f8a10251236370b1143520830ac914430d70d957c951aa986", func := "loop.example/savingsclub/laws.FnExactLeastCoalitions", spec := "fnExactLeastCoalitions", apart := false }
def FnExactLeastCoalitionsSaid : Prop := fnExactLeastCoalitionsRow.holds Try.pinned (OpenSpec.ofChange fnExactLeastCoalitionsSpec)

/-- ITS FALSE NEIGHBOUR: 'it returns false'. Refute it at one input. -/
def fnExactLeastCoalitionsWrong : ChangeSpec := { name := "fnExactLeastCoalitions", fn := fun _ => fun
  | [d] => { results := [.lit (.bool false)], args := [d] }
  | _ => none }
def FnExactLeastCoalitionsWrongFalsely : Prop := fnExactLeastCoalitionsRow.holds Try.pinned (OpenSpec.ofChange fnExactLeastCoalitionsWrong)

/-- 'laws.FnPivotsOf': WHATEVER THE INPUT: true; the input reads as it did. -/
def fnPivotsOfSpec : ChangeSpec := { name := "fnPivotsOf", fn := fun _ => fun
  | [d] => { results := [.lit (.bool true)], args := [d] }
  | _ => none }
def fnPivotsOfRow : OpenClaim := { program := "ytikahkklbgndbaa", sum := "5a27bb24a138f19f8a10251236370b1143520830ac914430d70d957c951aa986", func := "loop.example/savingsclub/laws.FnPivotsOf", spec := "fnPivotsOf", unfollowed := true, recurses := true, apart := false }
def FnPivotsOfSaid : Prop := fnPivotsOfRow.holds Try.pinned (OpenSpec.ofChange fnPivotsOfSpec)

/-- ITS FALSE NEIGHBOUR: 'it returns false'. Refute it at one input. -/
def fnPivotsOfWrong : ChangeSpec := { name := "fnPivotsOf", fn := fun _ => fun
  | [d] => { results := [.lit (.bool false)], args := [d] }
  | _ => none }
def FnPivotsOfWrongFalsely : Prop := fnPivotsOfRow.holds Try.pinned (OpenSpec.ofChange fnPivotsOfWrong)

/-- 'laws.FnDummies': WHATEVER THE INPUT: true; the input reads as it did. -/
def fnDummiesSpec : ChangeSpec := { name := "fnDummies", fn := fun _ => fun
  | [d] => { results := [.lit (.bool true)], args := [d] }
  | _ => none }
def fnDummiesRow : OpenClaim := { program := "ytikahkklbgndbaa", sum := "5a27bb24a138f19f8a10251236370b1143520830ac914430d70d957c951aa986", func := "loop.example/savingsclub/laws.FnDummies", spec := "fnDummies", unfollowed := true, recurses := true, apart := false }
def FnDummiesSaid : Prop := fnDummiesRow.holds Try.pinned (OpenSpec.ofChange fnDummiesSpec)

/-- ITS FALSE NEIGHBOUR: 'it returns false'. Refute it at one input. -/
def fnDummiesWrong : ChangeSpec := { name := "fnDummies", fn := fun _ => fun
  | [d] => { results := [.lit (.bool false)], args := [d] }
  | _ => none }
def FnDummiesWrongFalsely : Prop := fnDummiesRow.holds Try.pinned (OpenSpec.ofChange fnDummiesWrong)

/-- 'laws.FnLeastCoalitions': WHATEVER THE INPUT: true; the input reads as it did. -/
def fnLeastCoalitionsSpec : ChangeSpec := { name := "fnLeastCoalitions", fn := fun _ => fun
  | [d] => { results := [.lit (.bool true)], args := [d] }
  | _ => none }
def fnLeastCoalitionsRow : OpenClaim := { program := "ytikahkklbgndbaa", sum := "5a27bb24a138f19f8a10251236370b1143520830ac914430d70d957c951aa986", func := "loop.example/savingsclub/laws.FnLeastCoalitions", spec := "fnLeastCoalitions", apart := false }
def FnLeastCoalitionsSaid : Prop := fnLeastCoalitionsRow.holds Try.pinned (OpenSpec.ofChange fnLeastCoalitionsSpec)

/-- ITS FALSE NEIGHBOUR: 'it returns false'. Refute it at one input. -/
def fnLeastCoalitionsWrong : ChangeSpec := { name := "fnLeastCoalitions", fn := fun _ => fun
  | [d] => { results := [.lit (.bool false)], args := [d] }
  | _ => none }
def FnLeastCoalitionsWrongFalsely : Prop := fnLeastCoalitionsRow.holds Try.pinned (OpenSpec.ofChange fnLeastCoalitionsWrong)

/- THE SECOND FORM. 'bulk': how many values and letters a reading holds, each counted each time it is reached (what is shared counts as often as it is met; a slice's spare places count too). A statement '..UptoSaid' is the law's where the arguments, and the package variables that the reading takes, are together of bulk at most 1048576: NARROWER than '..Said'. Prove '..Said' where nothing that the law and all that it calls make is longer than what came in: it says more and counts as full. Else prove '..UptoSaid'. A law counts once. -/
mutual
def uptoBulk {H : Type} : DataW H → Nat
  | .lit (.string bytes) => bytes.length + 1
  | .lit _ => 1
  | .nil => 1
  | .ptr d => uptoBulk d + 1
  | .slice elems spare => uptoBulkAll elems + uptoBulkAll spare + 1
  | .agg parts => uptoBulkAll parts + 1
  | .iface _ d => uptoBulk d + 1
  | .map entries => uptoBulkEntries entries + 1
  | .held _ => 1
def uptoBulkAll {H : Type} : List (DataW H) → Nat
  | [] => 0
  | d :: r => uptoBulk d + uptoBulkAll r
def uptoBulkEntries {H : Type} : List (Lit × DataW H) → Nat
  | [] => 0
  | x :: r => uptoBulkEntry x + uptoBulkEntries r
def uptoBulkEntry {H : Type} : Lit × DataW H → Nat
  | (.string bytes, d) => bytes.length + uptoBulk d + 1
  | (_, d) => uptoBulk d + 1
 end
def uptoSmall : (H : Type) → List (DataW H) → Bool := fun _ ds => decide (uptoBulkAll ds ≤ 1048576)
def OpenSpec.upto (s : _root_.Go.ChangeSpec) : _root_.Go.OpenSpec := { _root_.Go.OpenSpec.ofChange s with cond := some uptoSmall }

/-- 'laws.FnExactPivotsOf', WHERE WHAT IT READS IS OF BULK AT MOST 1048576: true; the input reads as it did. -/
def fnExactPivotsOfUptoRow : OpenClaim := { program := "ytikahkklbgndbaa", sum := "5a27bb24a138f19f8a10251236370b1143520830ac914430d70d957c951aa986", func := "loop.example/savingsclub/laws.FnExactPivotsOf", spec := "fnExactPivotsOf", unfollowed := true, recurses := true, apart := false, narrowed := true }
def FnExactPivotsOfUptoSaid : Prop := fnExactPivotsOfUptoRow.holds Try.pinned (OpenSpec.upto fnExactPivotsOfSpec)

/-- 'laws.FnLeastCoalitionsAll', WHERE WHAT IT READS IS OF BULK AT MOST 1048576: true; the input reads as it did. -/
def fnLeastCoalitionsAllUptoRow : OpenClaim := { program := "ytikahkklbgndbaa", sum := "5a27bb24a138f19f8a10251236370b1143520830ac914430d70d957c951aa986", func := "loop.example/savingsclub/laws.FnLeastCoalitionsAll", spec := "fnLeastCoalitionsAll", apart := false, narrowed := true }
def FnLeastCoalitionsAllUptoSaid : Prop := fnLeastCoalitionsAllUptoRow.holds Try.pinned (OpenSpec.upto fnLeastCoalitionsAllSpec)

/-- 'laws.FnExactLeastCoalitions', WHERE WHAT IT READS IS OF BULK AT MOST 1048576: true; the input reads as it did. -/
def fnExactLeastCoalitionsUptoRow : OpenClaim := { program := "ytikahkklbgndbaa", sum := "5a27bb24a138f19f8a10251236370b1143520830ac914430d70d957c951aa986", func := "loop.example/savingsclub/laws.FnExactLeastCoalitions", spec := "fnExactLeastCoalitions", apart := false, narrowed := true }
def FnExactLeastCoalitionsUptoSaid : Prop := fnExactLeastCoalitionsUptoRow.holds Try.pinned (OpenSpec.upto fnExactLeastCoalitionsSpec)

/-- 'laws.FnPivotsOf', WHERE WHAT IT READS IS OF BULK AT MOST 1048576: true; the input reads as it did. -/
def fnPivotsOfUptoRow : OpenClaim := { program := "ytikahkklbgndbaa", sum := "5a27bb24a138f19f8a10251236370b1143520830ac914430d70d957c951aa986", func := "loop.example/savingsclub/laws.FnPivotsOf", spec := "fnPivotsOf", unfollowed := true, recurses := true, apart := false, narrowed := true }
def FnPivotsOfUptoSaid : Prop := fnPivotsOfUptoRow.holds Try.pinned (OpenSpec.upto fnPivotsOfSpec)

/-- 'laws.FnDummies', WHERE WHAT IT READS IS OF BULK AT MOST 1048576: true; the input reads as it did. -/
def fnDummiesUptoRow : OpenClaim := { program := "ytikahkklbgndbaa", sum := "5a27bb24a138f19f8a10251236370b1143520830ac914430d70d957c951aa986", func := "loop.example/savingsclub/laws.FnDummies", spec := "fnDummies", unfollowed := true, recurses := true, apart := false, narrowed := true }
def FnDummiesUptoSaid : Prop := fnDummiesUptoRow.holds Try.pinned (OpenSpec.upto fnDummiesSpec)

/-- 'laws.FnLeastCoalitions', WHERE WHAT IT READS IS OF BULK AT MOST 1048576: true; the input reads as it did. -/
def fnLeastCoalitionsUptoRow : OpenClaim := { program := "ytikahkklbgndbaa", sum := "5a27bb24a138f19f8a10251236370b1143520830ac914430d70d957c951aa986", func := "loop.example/savingsclub/laws.FnLeastCoalitions", spec := "fnLeastCoalitions", apart := false, narrowed := true }
def FnLeastCoalitionsUptoSaid : Prop := fnLeastCoalitionsUptoRow.holds Try.pinned (OpenSpec.upto fnLeastCoalitionsSpec)

end Rows
end Go.Proofs.Ytikahkklbgndbaa
