/-
  No cell of these rows narrows 'for every input' (looked for: loops, veiled, ifaces, maps, wideKeys, modest, calm, conditions, laid).
  DERIVED. THE GIVEN ROWS OF THIS SEAT. 2 by the template 'for every input the law returns true; each argument reads behind the call as it read before'; 0 by the template 'total and deterministic' (their statements: YtjkbnimgmbnjdaaTotals.lean).
  GIVEN WITH THE SEED: the statements are not yours to turn. If you find one false, say at which input.
  Laid BY PROGRAM, IN A SANDBOX (cutbox-rows.mjs): the forced cells as the released guide's own fill.sh prints them over the translation 4a396d5b30f60f6d… (all of the seat's roots in one cut). By AI agents, Wed Nov 11 2026. No macro, syntax, notation, axiom, sorry.
-/
import Derived.Test.YtjkbnimgmbnjdaaChecked
import GoSem.Claim
import GoSem.ClaimJoined
import GoSem.ClaimMapViews
import Derived.JoinedTies
import Derived.KernelRfl
namespace Go.Proofs.Ytjkbnimgmbnjdaa
/- THE CELL 'sum', in the pinned program and in every row, IS THE sha256 OF THE DUMP (.gsa) THAT YtjkbnimgmbnjdaaProg.lean LOADS. Nothing in Lean hashes anything: it is a label: what it is worth is what the hold of that sum in a sandbox is worth. -/
noncomputable def Try.pinned : Pinned := { name := "ytjkbnimgmbnjdaa", sum := "4a396d5b30f60f6d1768cfb678081c1f9a166d7373eccd5ba4f5edb55a21d624", checked := Try.checked }
namespace Rows
def none {H : Type} : Left H := { results := [], args := [] }

/-- 'laws.FnOnlyInSaldi': WHATEVER THE INPUT: true; the input reads as it did. -/
def fnOnlyInSaldiSpec : ChangeSpec := { name := "fnOnlyInSaldi", fn := fun _ => fun
  | [d] => { results := [.lit (.bool true)], args := [d] }
  | _ => none }
def fnOnlyInSaldiRow : OpenClaim := { program := "ytjkbnimgmbnjdaa", sum := "4a396d5b30f60f6d1768cfb678081c1f9a166d7373eccd5ba4f5edb55a21d624", func := "loop.example/savingsclub/laws.FnOnlyInSaldi", spec := "fnOnlyInSaldi", recurses := true, apart := false }
def FnOnlyInSaldiSaid : Prop := fnOnlyInSaldiRow.holds Try.pinned (OpenSpec.ofChange fnOnlyInSaldiSpec)

/-- ITS FALSE NEIGHBOUR: 'it returns false'. Refute it at one input. -/
def fnOnlyInSaldiWrong : ChangeSpec := { name := "fnOnlyInSaldi", fn := fun _ => fun
  | [d] => { results := [.lit (.bool false)], args := [d] }
  | _ => none }
def FnOnlyInSaldiWrongFalsely : Prop := fnOnlyInSaldiRow.holds Try.pinned (OpenSpec.ofChange fnOnlyInSaldiWrong)

/-- 'laws.FnExactRepairBook': WHATEVER THE INPUT: true; the input reads as it did. -/
def fnExactRepairBookSpec : ChangeSpec := { name := "fnExactRepairBook", fn := fun _ => fun
  | [d1, d2] => { results := [.lit (.bool true)], args := [d1, d2] }
  | _ => none }
def fnExactRepairBookRow : OpenClaim := { program := "ytjkbnimgmbnjdaa", sum := "4a396d5b30f60f6d1768cfb678081c1f9a166d7373eccd5ba4f5edb55a21d624", func := "loop.example/savingsclub/laws.FnExactRepairBook", spec := "fnExactRepairBook", apart := false }
def FnExactRepairBookSaid : Prop := fnExactRepairBookRow.holds Try.pinned (OpenSpec.ofChange fnExactRepairBookSpec)

/-- ITS FALSE NEIGHBOUR: 'it returns false'. Refute it at one input. -/
def fnExactRepairBookWrong : ChangeSpec := { name := "fnExactRepairBook", fn := fun _ => fun
  | [d1, d2] => { results := [.lit (.bool false)], args := [d1, d2] }
  | _ => none }
def FnExactRepairBookWrongFalsely : Prop := fnExactRepairBookRow.holds Try.pinned (OpenSpec.ofChange fnExactRepairBookWrong)

/- THE SECOND FORM. 'bulk': how many values and letters a reading holds, each counted each time it is reached (what is shared counts as often as it is met; a slice's spare places count too). A statement '..UptoSaid' is the law's where the arguments, and the package variables that the reading takes, are together of bulk at most 1048576: NARROWER than '..Said'. Prove '..Said' where nothing that the law and all that it calls make is longer than what came in: it says more and counts as full. Else prove '..UptoSaid'. A law counts once. -/
mutual
def uptoBulk {H : Type} : DataW H → Nat
  | .lit (.string bytes) => bytes.length + 1
  | .lit _ => 1
  | .nil => 1
  | .ptr d => uptoBulk d + 1
  | .slice elems spare => uptoBulkAll elems + uptoBulkAll spare + 1
  | .agg parts => uptoBulkAll parts + 1
  | .iface _ d => uptoBulk d + 1
  | .map entries => uptoBulkEntries entries + 1
  | .held _ => 1
def uptoBulkAll {H : Type} : List (DataW H) → Nat
  | [] => 0
  | d :: r => uptoBulk d + uptoBulkAll r
def uptoBulkEntries {H : Type} : List (Lit × DataW H) → Nat
  | [] => 0
  | x :: r => uptoBulkEntry x + uptoBulkEntries r
def uptoBulkEntry {H : Type} : Lit × DataW H → Nat
  | (.string bytes, d) => bytes.length + uptoBulk d + 1
  | (_, d) => uptoBulk d + 1
 end
def uptoSmall : (H : Type) → List (DataW H) → Bool := fun _ ds => decide (uptoBulkAll ds ≤ 1048576)
def OpenSpec.upto (s : _root_.Go.ChangeSpec) : _root_.Go.OpenSpec := { _root_.Go.OpenSpec.ofChange s with cond := some uptoSmall }

/-- 'laws.FnOnlyInSaldi', WHERE WHAT IT READS IS OF BULK AT MOST 1048576: true; the input reads as it did. -/
def fnOnlyInSaldiUptoRow : OpenClaim := { program := "ytjkbnimgmbnjdaa", sum := "4a396d5b30f60f6d1768cfb678081c1f9a166d7373eccd5ba4f5edb55a21d624", func := "loop.example/savingsclub/laws.FnOnlyInSaldi", spec := "fnOnlyInSaldi", recurses := true, apart := false, narrowed := true }
def FnOnlyInSaldiUptoSaid : Prop := fnOnlyInSaldiUptoRow.holds Try.pinned (OpenSpec.upto fnOnlyInSaldiSpec)

/-- 'laws.FnExactRepairBook', WHERE WHAT IT READS IS OF BULK AT MOST 1048576: true; the input reads as it did. -/
def fnExactRepairBookUptoRow : OpenClaim := { program := "ytjkbnimgmbnjdaa", sum := "4a396d5b30f60f6d1768cfb678081c1f9a166d7373eccd5ba4f5edb55a21d624", func := "loop.example/savingsclub/laws.FnExactRepairBook", spec := "fnExactRepairBook", apart := false, narrowed := true }
def FnExactRepairBookUptoSaid : Prop := fnExactRepairBookUptoRow.holds Try.pinned (OpenSpec.upto fnExactRepairBookSpec)

end Rows
end Go.Proofs.Ytjkbnimgmbnjdaa
