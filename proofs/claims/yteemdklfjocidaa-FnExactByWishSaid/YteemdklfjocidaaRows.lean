/-
  No cell of these rows narrows 'for every input' (looked for: loops, veiled, ifaces, maps, wideKeys, modest, calm, conditions, laid).
  DERIVED. THE GIVEN ROWS OF THIS SEAT. 7 by the template 'for every input the law returns true; each argument reads behind the call as it read before'; 0 by the template 'total and deterministic' (their statements: YteemdklfjocidaaTotals.lean).
  GIVEN WITH THE SEED: the statements are not yours to turn. If you find one false, say at which input.
  Laid BY PROGRAM, IN A SANDBOX (cutbox-rows.mjs): the forced cells as the released guide's own fill.sh prints them over the translation e261252e48b568dd… (all of the seat's roots in one cut). By AI agents, Wed Nov 11 2026. No macro, syntax, notation, axiom, sorry.
-/
import Derived.Test.YteemdklfjocidaaChecked
import GoSem.Claim
import GoSem.ClaimJoined
import GoSem.ClaimMapViews
import Derived.JoinedTies
import Derived.KernelRfl
namespace Go.Proofs.Yteemdklfjocidaa
/- THE CELL 'sum', in the pinned program and in every row, IS THE sha256 OF THE DUMP (.gsa) THAT YteemdklfjocidaaProg.lean LOADS. Nothing in Lean hashes anything: it is a label: what it is worth is what the hold of that sum in a sandbox is worth. -/
noncomputable def Try.pinned : Pinned := { name := "yteemdklfjocidaa", sum := "e261252e48b568ddee6403b43479ded2fbb887c4e36eaa9c6374a97be2282099", checked := Try.checked }
namespace Rows
def none {H : Type} : Left H := { results := [], args := [] }

/-- 'laws.FnExactByWish': WHATEVER THE INPUT: true; the input reads as it did. -/
def fnExactByWishSpec : ChangeSpec := { name := "fnExactByWish", fn := fun _ => fun
  | [d1, d2] => { results := [.lit (.bool true)], args := [d1, d2] }
  | _ => none }
def fnExactByWishRow : OpenClaim := { program := "yteemdklfjocidaa", sum := "e261252e48b568ddee6403b43479ded2fbb887c4e36eaa9c6374a97be2282099", func := "loop.example/savingsclub/laws.FnExactByWish", spec := "fnExactByWish", inPlace := ["slices.overlaps[int]"], apart := false }
def FnExactByWishSaid : Prop := fnExactByWishRow.holds Try.pinned (OpenSpec.ofChange fnExactByWishSpec)

/-- ITS FALSE NEIGHBOUR: 'it returns false'. Refute it at one input. -/
def fnExactByWishWrong : ChangeSpec := { name := "fnExactByWish", fn := fun _ => fun
  | [d1, d2] => { results := [.lit (.bool false)], args := [d1, d2] }
  | _ => none }
def FnExactByWishWrongFalsely : Prop := fnExactByWishRow.holds Try.pinned (OpenSpec.ofChange fnExactByWishWrong)

/-- 'laws.FnDissolve': WHATEVER THE INPUT: true; the input reads as it did. -/
def fnDissolveSpec : ChangeSpec := { name := "fnDissolve", fn := fun _ => fun
  | [d] => { results := [.lit (.bool true)], args := [d] }
  | _ => none }
def fnDissolveRow : OpenClaim := { program := "yteemdklfjocidaa", sum := "e261252e48b568ddee6403b43479ded2fbb887c4e36eaa9c6374a97be2282099", func := "loop.example/savingsclub/laws.FnDissolve", spec := "fnDissolve", apart := false }
def FnDissolveSaid : Prop := fnDissolveRow.holds Try.pinned (OpenSpec.ofChange fnDissolveSpec)

/-- ITS FALSE NEIGHBOUR: 'it returns false'. Refute it at one input. -/
def fnDissolveWrong : ChangeSpec := { name := "fnDissolve", fn := fun _ => fun
  | [d] => { results := [.lit (.bool false)], args := [d] }
  | _ => none }
def FnDissolveWrongFalsely : Prop := fnDissolveRow.holds Try.pinned (OpenSpec.ofChange fnDissolveWrong)

/-- 'laws.FnExactDivideGoods': WHATEVER THE INPUT: true; the input reads as it did. -/
def fnExactDivideGoodsSpec : ChangeSpec := { name := "fnExactDivideGoods", fn := fun _ => fun
  | [d1, d2] => { results := [.lit (.bool true)], args := [d1, d2] }
  | _ => none }
def fnExactDivideGoodsRow : OpenClaim := { program := "yteemdklfjocidaa", sum := "e261252e48b568ddee6403b43479ded2fbb887c4e36eaa9c6374a97be2282099", func := "loop.example/savingsclub/laws.FnExactDivideGoods", spec := "fnExactDivideGoods", inPlace := ["slices.overlaps[int]"], apart := false }
def FnExactDivideGoodsSaid : Prop := fnExactDivideGoodsRow.holds Try.pinned (OpenSpec.ofChange fnExactDivideGoodsSpec)

/-- ITS FALSE NEIGHBOUR: 'it returns false'. Refute it at one input. -/
def fnExactDivideGoodsWrong : ChangeSpec := { name := "fnExactDivideGoods", fn := fun _ => fun
  | [d1, d2] => { results := [.lit (.bool false)], args := [d1, d2] }
  | _ => none }
def FnExactDivideGoodsWrongFalsely : Prop := fnExactDivideGoodsRow.holds Try.pinned (OpenSpec.ofChange fnExactDivideGoodsWrong)

/-- 'laws.FnByWish': WHATEVER THE INPUT: true; the input reads as it did. -/
def fnByWishSpec : ChangeSpec := { name := "fnByWish", fn := fun _ => fun
  | [d] => { results := [.lit (.bool true)], args := [d] }
  | _ => none }
def fnByWishRow : OpenClaim := { program := "yteemdklfjocidaa", sum := "e261252e48b568ddee6403b43479ded2fbb887c4e36eaa9c6374a97be2282099", func := "loop.example/savingsclub/laws.FnByWish", spec := "fnByWish", inPlace := ["slices.overlaps[int]"], apart := false }
def FnByWishSaid : Prop := fnByWishRow.holds Try.pinned (OpenSpec.ofChange fnByWishSpec)

/-- ITS FALSE NEIGHBOUR: 'it returns false'. Refute it at one input. -/
def fnByWishWrong : ChangeSpec := { name := "fnByWish", fn := fun _ => fun
  | [d] => { results := [.lit (.bool false)], args := [d] }
  | _ => none }
def FnByWishWrongFalsely : Prop := fnByWishRow.holds Try.pinned (OpenSpec.ofChange fnByWishWrong)

/-- 'laws.FnDivideGoodsBest': WHATEVER THE INPUT: true; the input reads as it did. -/
def fnDivideGoodsBestSpec : ChangeSpec := { name := "fnDivideGoodsBest", fn := fun _ => fun
  | [d] => { results := [.lit (.bool true)], args := [d] }
  | _ => none }
def fnDivideGoodsBestRow : OpenClaim := { program := "yteemdklfjocidaa", sum := "e261252e48b568ddee6403b43479ded2fbb887c4e36eaa9c6374a97be2282099", func := "loop.example/savingsclub/laws.FnDivideGoodsBest", spec := "fnDivideGoodsBest", inPlace := ["slices.overlaps[int]"], apart := false }
def FnDivideGoodsBestSaid : Prop := fnDivideGoodsBestRow.holds Try.pinned (OpenSpec.ofChange fnDivideGoodsBestSpec)

/-- ITS FALSE NEIGHBOUR: 'it returns false'. Refute it at one input. -/
def fnDivideGoodsBestWrong : ChangeSpec := { name := "fnDivideGoodsBest", fn := fun _ => fun
  | [d] => { results := [.lit (.bool false)], args := [d] }
  | _ => none }
def FnDivideGoodsBestWrongFalsely : Prop := fnDivideGoodsBestRow.holds Try.pinned (OpenSpec.ofChange fnDivideGoodsBestWrong)

/-- 'laws.FnDivideGoods': WHATEVER THE INPUT: true; the input reads as it did. -/
def fnDivideGoodsSpec : ChangeSpec := { name := "fnDivideGoods", fn := fun _ => fun
  | [d] => { results := [.lit (.bool true)], args := [d] }
  | _ => none }
def fnDivideGoodsRow : OpenClaim := { program := "yteemdklfjocidaa", sum := "e261252e48b568ddee6403b43479ded2fbb887c4e36eaa9c6374a97be2282099", func := "loop.example/savingsclub/laws.FnDivideGoods", spec := "fnDivideGoods", inPlace := ["slices.overlaps[int]"], apart := false }
def FnDivideGoodsSaid : Prop := fnDivideGoodsRow.holds Try.pinned (OpenSpec.ofChange fnDivideGoodsSpec)

/-- ITS FALSE NEIGHBOUR: 'it returns false'. Refute it at one input. -/
def fnDivideGoodsWrong : ChangeSpec := { name := "fnDivideGoods", fn := fun _ => fun
  | [d] => { results := [.lit (.bool false)], args := [d] }
  | _ => none }
def FnDivideGoodsWrongFalsely : Prop := fnDivideGoodsRow.holds Try.pinned (OpenSpec.ofChange fnDivideGoodsWrong)

/-- 'laws.FnDivideGoodsHalf': WHATEVER THE INPUT: true; the input reads as it did. -/
def fnDivideGoodsHalfSpec : ChangeSpec := { name := "fnDivideGoodsHalf", fn := fun _ => fun
  | [d] => { results := [.lit (.bool true)], args := [d] }
  | _ => none }
def fnDivideGoodsHalfRow : OpenClaim := { program := "yteemdklfjocidaa", sum := "e261252e48b568ddee6403b43479ded2fbb887c4e36eaa9c6374a97be2282099", func := "loop.example/savingsclub/laws.FnDivideGoodsHalf", spec := "fnDivideGoodsHalf", inPlace := ["slices.overlaps[int]"], apart := false }
def FnDivideGoodsHalfSaid : Prop := fnDivideGoodsHalfRow.holds Try.pinned (OpenSpec.ofChange fnDivideGoodsHalfSpec)

/-- ITS FALSE NEIGHBOUR: 'it returns false'. Refute it at one input. -/
def fnDivideGoodsHalfWrong : ChangeSpec := { name := "fnDivideGoodsHalf", fn := fun _ => fun
  | [d] => { results := [.lit (.bool false)], args := [d] }
  | _ => none }
def FnDivideGoodsHalfWrongFalsely : Prop := fnDivideGoodsHalfRow.holds Try.pinned (OpenSpec.ofChange fnDivideGoodsHalfWrong)

/- THE SECOND FORM. 'bulk': how many values and letters a reading holds, each counted each time it is reached (what is shared counts as often as it is met; a slice's spare places count too). A statement '..UptoSaid' is the law's where the arguments, and the package variables that the reading takes, are together of bulk at most 1048576: NARROWER than '..Said'. Prove '..Said' where nothing that the law and all that it calls make is longer than what came in: it says more and counts as full. Else prove '..UptoSaid'. A law counts once. -/
mutual
def uptoBulk {H : Type} : DataW H → Nat
  | .lit (.string bytes) => bytes.length + 1
  | .lit _ => 1
  | .nil => 1
  | .ptr d => uptoBulk d + 1
  | .slice elems spare => uptoBulkAll elems + uptoBulkAll spare + 1
  | .agg parts => uptoBulkAll parts + 1
  | .iface _ d => uptoBulk d + 1
  | .map entries => uptoBulkEntries entries + 1
  | .held _ => 1
def uptoBulkAll {H : Type} : List (DataW H) → Nat
  | [] => 0
  | d :: r => uptoBulk d + uptoBulkAll r
def uptoBulkEntries {H : Type} : List (Lit × DataW H) → Nat
  | [] => 0
  | x :: r => uptoBulkEntry x + uptoBulkEntries r
def uptoBulkEntry {H : Type} : Lit × DataW H → Nat
  | (.string bytes, d) => bytes.length + uptoBulk d + 1
  | (_, d) => uptoBulk d + 1
 end
def uptoSmall : (H : Type) → List (DataW H) → Bool := fun _ ds => decide (uptoBulkAll ds ≤ 1048576)
def OpenSpec.upto (s : _root_.Go.ChangeSpec) : _root_.Go.OpenSpec := { _root_.Go.OpenSpec.ofChange s with cond := some uptoSmall }

/-- 'laws.FnExactByWish', WHERE WHAT IT READS IS OF BULK AT MOST 1048576: true; the input reads as it did. -/
def fnExactByWishUptoRow : OpenClaim := { program := "yteemdklfjocidaa", sum := "e261252e48b568ddee6403b43479ded2fbb887c4e36eaa9c6374a97be2282099", func := "loop.example/savingsclub/laws.FnExactByWish", spec := "fnExactByWish", inPlace := ["slices.overlaps[int]"], apart := false, narrowed := true }
def FnExactByWishUptoSaid : Prop := fnExactByWishUptoRow.holds Try.pinned (OpenSpec.upto fnExactByWishSpec)

/-- 'laws.FnDissolve', WHERE WHAT IT READS IS OF BULK AT MOST 1048576: true; the input reads as it did. -/
def fnDissolveUptoRow : OpenClaim := { program := "yteemdklfjocidaa", sum := "e261252e48b568ddee6403b43479ded2fbb887c4e36eaa9c6374a97be2282099", func := "loop.example/savingsclub/laws.FnDissolve", spec := "fnDissolve", apart := false, narrowed := true }
def FnDissolveUptoSaid : Prop := fnDissolveUptoRow.holds Try.pinned (OpenSpec.upto fnDissolveSpec)

/-- 'laws.FnExactDivideGoods', WHERE WHAT IT READS IS OF BULK AT MOST 1048576: true; the input reads as it did. -/
def fnExactDivideGoodsUptoRow : OpenClaim := { program := "yteemdklfjocidaa", sum := "e261252e48b568ddee6403b43479ded2fbb887c4e36eaa9c6374a97be2282099", func := "loop.example/savingsclub/laws.FnExactDivideGoods", spec := "fnExactDivideGoods", inPlace := ["slices.overlaps[int]"], apart := false, narrowed := true }
def FnExactDivideGoodsUptoSaid : Prop := fnExactDivideGoodsUptoRow.holds Try.pinned (OpenSpec.upto fnExactDivideGoodsSpec)

/-- 'laws.FnByWish', WHERE WHAT IT READS IS OF BULK AT MOST 1048576: true; the input reads as it did. -/
def fnByWishUptoRow : OpenClaim := { program := "yteemdklfjocidaa", sum := "e261252e48b568ddee6403b43479ded2fbb887c4e36eaa9c6374a97be2282099", func := "loop.example/savingsclub/laws.FnByWish", spec := "fnByWish", inPlace := ["slices.overlaps[int]"], apart := false, narrowed := true }
def FnByWishUptoSaid : Prop := fnByWishUptoRow.holds Try.pinned (OpenSpec.upto fnByWishSpec)

/-- 'laws.FnDivideGoodsBest', WHERE WHAT IT READS IS OF BULK AT MOST 1048576: true; the input reads as it did. -/
def fnDivideGoodsBestUptoRow : OpenClaim := { program := "yteemdklfjocidaa", sum := "e261252e48b568ddee6403b43479ded2fbb887c4e36eaa9c6374a97be2282099", func := "loop.example/savingsclub/laws.FnDivideGoodsBest", spec := "fnDivideGoodsBest", inPlace := ["slices.overlaps[int]"], apart := false, narrowed := true }
def FnDivideGoodsBestUptoSaid : Prop := fnDivideGoodsBestUptoRow.holds Try.pinned (OpenSpec.upto fnDivideGoodsBestSpec)

/-- 'laws.FnDivideGoods', WHERE WHAT IT READS IS OF BULK AT MOST 1048576: true; the input reads as it did. -/
def fnDivideGoodsUptoRow : OpenClaim := { program := "yteemdklfjocidaa", sum := "e261252e48b568ddee6403b43479ded2fbb887c4e36eaa9c6374a97be2282099", func := "loop.example/savingsclub/laws.FnDivideGoods", spec := "fnDivideGoods", inPlace := ["slices.overlaps[int]"], apart := false, narrowed := true }
def FnDivideGoodsUptoSaid : Prop := fnDivideGoodsUptoRow.holds Try.pinned (OpenSpec.upto fnDivideGoodsSpec)

/-- 'laws.FnDivideGoodsHalf', WHERE WHAT IT READS IS OF BULK AT MOST 1048576: true; the input reads as it did. -/
def fnDivideGoodsHalfUptoRow : OpenClaim := { program := "yteemdklfjocidaa", sum := "e261252e48b568ddee6403b43479ded2fbb887c4e36eaa9c6374a97be2282099", func := "loop.example/savingsclub/laws.FnDivideGoodsHalf", spec := "fnDivideGoodsHalf", inPlace := ["slices.overlaps[int]"], apart := false, narrowed := true }
def FnDivideGoodsHalfUptoSaid : Prop := fnDivideGoodsHalfUptoRow.holds Try.pinned (OpenSpec.upto fnDivideGoodsHalfSpec)

end Rows
end Go.Proofs.Yteemdklfjocidaa
