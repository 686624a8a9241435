/-
  No cell of these rows narrows 'for every input' (looked for: loops, veiled, ifaces, maps, wideKeys, modest, calm, conditions, laid).
  DERIVED. THE GIVEN ROWS OF THIS SEAT. 7 by the template 'for every input the law returns true; each argument reads behind the call as it read before'; 0 by the template 'total and deterministic' (their statements: YteknmkikpcdjbaaTotals.lean).
  GIVEN WITH THE SEED: the statements are not yours to turn. If you find one false, say at which input.
  Laid BY PROGRAM, IN A SANDBOX (cutbox-rows.mjs): the forced cells as the released guide's own fill.sh prints them over the translation a05da6291465cfd5… (all of the seat's roots in one cut). By AI agents, Wed Nov 11 2026. No macro, syntax, notation, axiom, sorry.
-/
import Derived.Test.YteknmkikpcdjbaaChecked
import GoSem.Claim
import GoSem.ClaimJoined
import GoSem.ClaimMapViews
import Derived.JoinedTies
import Derived.KernelRfl
namespace Go.Proofs.Yteknmkikpcdjbaa
/- THE CELL 'sum', in the pinned program and in every row, IS THE sha256 OF THE DUMP (.gsa) THAT YteknmkikpcdjbaaProg.lean LOADS. Nothing in Lean hashes anything: it is a label: what it is worth is what the hold of that sum in a sandbox is worth. -/
noncomputable def Try.pinned : Pinned := { name := "yteknmkikpcdjbaa", sum := "a05da6291465cfd5eb96d1aaa596b2f7be9b8e0652637a7a99b81835a6fa4992", checked := Try.checked }
namespace Rows
def none {H : Type} : Left H := { results := [], args := [] }

/-- 'laws.FnExactInheritSeats': WHATEVER THE INPUT: true; the input reads as it did. -/
def fnExactInheritSeatsSpec : ChangeSpec := { name := "fnExactInheritSeats", fn := fun _ => fun
  | [d1, d2] => { results := [.lit (.bool true)], args := [d1, d2] }
  | _ => none }
def fnExactInheritSeatsRow : OpenClaim := { program := "yteknmkikpcdjbaa", sum := "a05da6291465cfd5eb96d1aaa596b2f7be9b8e0652637a7a99b81835a6fa4992", func := "loop.example/savingsclub/laws.FnExactInheritSeats", spec := "fnExactInheritSeats", inPlace := ["slices.overlaps[int]"], apart := false }
def FnExactInheritSeatsSaid : Prop := fnExactInheritSeatsRow.holds Try.pinned (OpenSpec.ofChange fnExactInheritSeatsSpec)

/-- ITS FALSE NEIGHBOUR: 'it returns false'. Refute it at one input. -/
def fnExactInheritSeatsWrong : ChangeSpec := { name := "fnExactInheritSeats", fn := fun _ => fun
  | [d1, d2] => { results := [.lit (.bool false)], args := [d1, d2] }
  | _ => none }
def FnExactInheritSeatsWrongFalsely : Prop := fnExactInheritSeatsRow.holds Try.pinned (OpenSpec.ofChange fnExactInheritSeatsWrong)

/-- 'laws.FnInheritSeats': WHATEVER THE INPUT: true; the input reads as it did. -/
def fnInheritSeatsSpec : ChangeSpec := { name := "fnInheritSeats", fn := fun _ => fun
  | [d] => { results := [.lit (.bool true)], args := [d] }
  | _ => none }
def fnInheritSeatsRow : OpenClaim := { program := "yteknmkikpcdjbaa", sum := "a05da6291465cfd5eb96d1aaa596b2f7be9b8e0652637a7a99b81835a6fa4992", func := "loop.example/savingsclub/laws.FnInheritSeats", spec := "fnInheritSeats", inPlace := ["slices.overlaps[int]"], apart := false }
def FnInheritSeatsSaid : Prop := fnInheritSeatsRow.holds Try.pinned (OpenSpec.ofChange fnInheritSeatsSpec)

/-- ITS FALSE NEIGHBOUR: 'it returns false'. Refute it at one input. -/
def fnInheritSeatsWrong : ChangeSpec := { name := "fnInheritSeats", fn := fun _ => fun
  | [d] => { results := [.lit (.bool false)], args := [d] }
  | _ => none }
def FnInheritSeatsWrongFalsely : Prop := fnInheritSeatsRow.holds Try.pinned (OpenSpec.ofChange fnInheritSeatsWrong)

/-- 'laws.FnExactBidNets': WHATEVER THE INPUT: true; the input reads as it did. -/
def fnExactBidNetsSpec : ChangeSpec := { name := "fnExactBidNets", fn := fun _ => fun
  | [d1, d2] => { results := [.lit (.bool true)], args := [d1, d2] }
  | _ => none }
def fnExactBidNetsRow : OpenClaim := { program := "yteknmkikpcdjbaa", sum := "a05da6291465cfd5eb96d1aaa596b2f7be9b8e0652637a7a99b81835a6fa4992", func := "loop.example/savingsclub/laws.FnExactBidNets", spec := "fnExactBidNets", apart := false }
def FnExactBidNetsSaid : Prop := fnExactBidNetsRow.holds Try.pinned (OpenSpec.ofChange fnExactBidNetsSpec)

/-- ITS FALSE NEIGHBOUR: 'it returns false'. Refute it at one input. -/
def fnExactBidNetsWrong : ChangeSpec := { name := "fnExactBidNets", fn := fun _ => fun
  | [d1, d2] => { results := [.lit (.bool false)], args := [d1, d2] }
  | _ => none }
def FnExactBidNetsWrongFalsely : Prop := fnExactBidNetsRow.holds Try.pinned (OpenSpec.ofChange fnExactBidNetsWrong)

/-- 'laws.FnDrawOrder': WHATEVER THE INPUT: true; the input reads as it did. -/
def fnDrawOrderSpec : ChangeSpec := { name := "fnDrawOrder", fn := fun _ => fun
  | [d] => { results := [.lit (.bool true)], args := [d] }
  | _ => none }
def fnDrawOrderRow : OpenClaim := { program := "yteknmkikpcdjbaa", sum := "a05da6291465cfd5eb96d1aaa596b2f7be9b8e0652637a7a99b81835a6fa4992", func := "loop.example/savingsclub/laws.FnDrawOrder", spec := "fnDrawOrder", apart := false }
def FnDrawOrderSaid : Prop := fnDrawOrderRow.holds Try.pinned (OpenSpec.ofChange fnDrawOrderSpec)

/-- ITS FALSE NEIGHBOUR: 'it returns false'. Refute it at one input. -/
def fnDrawOrderWrong : ChangeSpec := { name := "fnDrawOrder", fn := fun _ => fun
  | [d] => { results := [.lit (.bool false)], args := [d] }
  | _ => none }
def FnDrawOrderWrongFalsely : Prop := fnDrawOrderRow.holds Try.pinned (OpenSpec.ofChange fnDrawOrderWrong)

/-- 'laws.FnPayoutsOf': WHATEVER THE INPUT: true; the input reads as it did. -/
def fnPayoutsOfSpec : ChangeSpec := { name := "fnPayoutsOf", fn := fun _ => fun
  | [d] => { results := [.lit (.bool true)], args := [d] }
  | _ => none }
def fnPayoutsOfRow : OpenClaim := { program := "yteknmkikpcdjbaa", sum := "a05da6291465cfd5eb96d1aaa596b2f7be9b8e0652637a7a99b81835a6fa4992", func := "loop.example/savingsclub/laws.FnPayoutsOf", spec := "fnPayoutsOf", apart := false }
def FnPayoutsOfSaid : Prop := fnPayoutsOfRow.holds Try.pinned (OpenSpec.ofChange fnPayoutsOfSpec)

/-- ITS FALSE NEIGHBOUR: 'it returns false'. Refute it at one input. -/
def fnPayoutsOfWrong : ChangeSpec := { name := "fnPayoutsOf", fn := fun _ => fun
  | [d] => { results := [.lit (.bool false)], args := [d] }
  | _ => none }
def FnPayoutsOfWrongFalsely : Prop := fnPayoutsOfRow.holds Try.pinned (OpenSpec.ofChange fnPayoutsOfWrong)

/-- 'laws.FnExactBidOrder': WHATEVER THE INPUT: true; the input reads as it did. -/
def fnExactBidOrderSpec : ChangeSpec := { name := "fnExactBidOrder", fn := fun _ => fun
  | [d1, d2] => { results := [.lit (.bool true)], args := [d1, d2] }
  | _ => none }
def fnExactBidOrderRow : OpenClaim := { program := "yteknmkikpcdjbaa", sum := "a05da6291465cfd5eb96d1aaa596b2f7be9b8e0652637a7a99b81835a6fa4992", func := "loop.example/savingsclub/laws.FnExactBidOrder", spec := "fnExactBidOrder", apart := false }
def FnExactBidOrderSaid : Prop := fnExactBidOrderRow.holds Try.pinned (OpenSpec.ofChange fnExactBidOrderSpec)

/-- ITS FALSE NEIGHBOUR: 'it returns false'. Refute it at one input. -/
def fnExactBidOrderWrong : ChangeSpec := { name := "fnExactBidOrder", fn := fun _ => fun
  | [d1, d2] => { results := [.lit (.bool false)], args := [d1, d2] }
  | _ => none }
def FnExactBidOrderWrongFalsely : Prop := fnExactBidOrderRow.holds Try.pinned (OpenSpec.ofChange fnExactBidOrderWrong)

/-- 'laws.FnBidNets': WHATEVER THE INPUT: true; the input reads as it did. -/
def fnBidNetsSpec : ChangeSpec := { name := "fnBidNets", fn := fun _ => fun
  | [d] => { results := [.lit (.bool true)], args := [d] }
  | _ => none }
def fnBidNetsRow : OpenClaim := { program := "yteknmkikpcdjbaa", sum := "a05da6291465cfd5eb96d1aaa596b2f7be9b8e0652637a7a99b81835a6fa4992", func := "loop.example/savingsclub/laws.FnBidNets", spec := "fnBidNets", apart := false }
def FnBidNetsSaid : Prop := fnBidNetsRow.holds Try.pinned (OpenSpec.ofChange fnBidNetsSpec)

/-- ITS FALSE NEIGHBOUR: 'it returns false'. Refute it at one input. -/
def fnBidNetsWrong : ChangeSpec := { name := "fnBidNets", fn := fun _ => fun
  | [d] => { results := [.lit (.bool false)], args := [d] }
  | _ => none }
def FnBidNetsWrongFalsely : Prop := fnBidNetsRow.holds Try.pinned (OpenSpec.ofChange fnBidNetsWrong)

/- THE SECOND FORM. 'bulk': how many values and letters a reading holds, each counted each time it is reached (what is shared counts as often as it is met; a slice's spare places count too). A statement '..UptoSaid' is the law's where the arguments, and the package variables that the reading takes, are together of bulk at most 1048576: NARROWER than '..Said'. Prove '..Said' where nothing that the law and all that it calls make is longer than what came in: it says more and counts as full. Else prove '..UptoSaid'. A law counts once. -/
mutual
def uptoBulk {H : Type} : DataW H → Nat
  | .lit (.string bytes) => bytes.length + 1
  | .lit _ => 1
  | .nil => 1
  | .ptr d => uptoBulk d + 1
  | .slice elems spare => uptoBulkAll elems + uptoBulkAll spare + 1
  | .agg parts => uptoBulkAll parts + 1
  | .iface _ d => uptoBulk d + 1
  | .map entries => uptoBulkEntries entries + 1
  | .held _ => 1
def uptoBulkAll {H : Type} : List (DataW H) → Nat
  | [] => 0
  | d :: r => uptoBulk d + uptoBulkAll r
def uptoBulkEntries {H : Type} : List (Lit × DataW H) → Nat
  | [] => 0
  | x :: r => uptoBulkEntry x + uptoBulkEntries r
def uptoBulkEntry {H : Type} : Lit × DataW H → Nat
  | (.string bytes, d) => bytes.length + uptoBulk d + 1
  | (_, d) => uptoBulk d + 1
 end
def uptoSmall : (H : Type) → List (DataW H) → Bool := fun _ ds => decide (uptoBulkAll ds ≤ 1048576)
def OpenSpec.upto (s : _root_.Go.ChangeSpec) : _root_.Go.OpenSpec := { _root_.Go.OpenSpec.ofChange s with cond := some uptoSmall }

/-- 'laws.FnExactInheritSeats', WHERE WHAT IT READS IS OF BULK AT MOST 1048576: true; the input reads as it did. -/
def fnExactInheritSeatsUptoRow : OpenClaim := { program := "yteknmkikpcdjbaa", sum := "a05da6291465cfd5eb96d1aaa596b2f7be9b8e0652637a7a99b81835a6fa4992", func := "loop.example/savingsclub/laws.FnExactInheritSeats", spec := "fnExactInheritSeats", inPlace := ["slices.overlaps[int]"], apart := false, narrowed := true }
def FnExactInheritSeatsUptoSaid : Prop := fnExactInheritSeatsUptoRow.holds Try.pinned (OpenSpec.upto fnExactInheritSeatsSpec)

/-- 'laws.FnInheritSeats', WHERE WHAT IT READS IS OF BULK AT MOST 1048576: true; the input reads as it did. -/
def fnInheritSeatsUptoRow : OpenClaim := { program := "yteknmkikpcdjbaa", sum := "a05da6291465cfd5eb96d1aaa596b2f7be9b8e0652637a7a99b81835a6fa4992", func := "loop.example/savingsclub/laws.FnInheritSeats", spec := "fnInheritSeats", inPlace := ["slices.overlaps[int]"], apart := false, narrowed := true }
def FnInheritSeatsUptoSaid : Prop := fnInheritSeatsUptoRow.holds Try.pinned (OpenSpec.upto fnInheritSeatsSpec)

/-- 'laws.FnExactBidNets', WHERE WHAT IT READS IS OF BULK AT MOST 1048576: true; the input reads as it did. -/
def fnExactBidNetsUptoRow : OpenClaim := { program := "yteknmkikpcdjbaa", sum := "a05da6291465cfd5eb96d1aaa596b2f7be9b8e0652637a7a99b81835a6fa4992", func := "loop.example/savingsclub/laws.FnExactBidNets", spec := "fnExactBidNets", apart := false, narrowed := true }
def FnExactBidNetsUptoSaid : Prop := fnExactBidNetsUptoRow.holds Try.pinned (OpenSpec.upto fnExactBidNetsSpec)

/-- 'laws.FnDrawOrder', WHERE WHAT IT READS IS OF BULK AT MOST 1048576: true; the input reads as it did. -/
def fnDrawOrderUptoRow : OpenClaim := { program := "yteknmkikpcdjbaa", sum := "a05da6291465cfd5eb96d1aaa596b2f7be9b8e0652637a7a99b81835a6fa4992", func := "loop.example/savingsclub/laws.FnDrawOrder", spec := "fnDrawOrder", apart := false, narrowed := true }
def FnDrawOrderUptoSaid : Prop := fnDrawOrderUptoRow.holds Try.pinned (OpenSpec.upto fnDrawOrderSpec)

/-- 'laws.FnPayoutsOf', WHERE WHAT IT READS IS OF BULK AT MOST 1048576: true; the input reads as it did. -/
def fnPayoutsOfUptoRow : OpenClaim := { program := "yteknmkikpcdjbaa", sum := "a05da6291465cfd5eb96d1aaa596b2f7be9b8e0652637a7a99b81835a6fa4992", func := "loop.example/savingsclub/laws.FnPayoutsOf", spec := "fnPayoutsOf", apart := false, narrowed := true }
def FnPayoutsOfUptoSaid : Prop := fnPayoutsOfUptoRow.holds Try.pinned (OpenSpec.upto fnPayoutsOfSpec)

/-- 'laws.FnExactBidOrder', WHERE WHAT IT READS IS OF BULK AT MOST 1048576: true; the input reads as it did. -/
def fnExactBidOrderUptoRow : OpenClaim := { program := "yteknmkikpcdjbaa", sum := "a05da6291465cfd5eb96d1aaa596b2f7be9b8e0652637a7a99b81835a6fa4992", func := "loop.example/savingsclub/laws.FnExactBidOrder", spec := "fnExactBidOrder", apart := false, narrowed := true }
def FnExactBidOrderUptoSaid : Prop := fnExactBidOrderUptoRow.holds Try.pinned (OpenSpec.upto fnExactBidOrderSpec)

/-- 'laws.FnBidNets', WHERE WHAT IT READS IS OF BULK AT MOST 1048576: true; the input reads as it did. -/
def fnBidNetsUptoRow : OpenClaim := { program := "yteknmkikpcdjbaa", sum := "a05da6291465cfd5eb96d1aaa596b2f7be9b8e0652637a7a99b81835a6fa4992", func := "loop.example/savingsclub/laws.FnBidNets", spec := "fnBidNets", apart := false, narrowed := true }
def FnBidNetsUptoSaid : Prop := fnBidNetsUptoRow.holds Try.pinned (OpenSpec.upto fnBidNetsSpec)

end Rows
end Go.Proofs.Yteknmkikpcdjbaa
