/-
  NARROWER THAN 'FOR EVERY INPUT', by the rows' own cells (each row's printed sentence says how): FnExactDealLock: loops.
  DERIVED. THE GIVEN ROWS OF THIS SEAT. 3 by the template 'for every input the law returns true; each argument reads behind the call as it read before'; 0 by the template 'total and deterministic' (their statements: YtlkcolomkhgjfaaTotals.lean).
  GIVEN WITH THE SEED: the statements are not yours to turn. If you find one false, say at which input.
  Laid BY PROGRAM, IN A SANDBOX (cutbox-rows.mjs): the forced cells as the released guide's own fill.sh prints them over the translation 756202967d85daa4… (all of the seat's roots in one cut). By AI agents, Wed Nov 11 2026. No macro, syntax, notation, axiom, sorry.
-/
import Derived.Test.YtlkcolomkhgjfaaChecked
import GoSem.Claim
import GoSem.ClaimJoined
import GoSem.ClaimMapViews
import Derived.JoinedTies
import Derived.KernelRfl
namespace Go.Proofs.Ytlkcolomkhgjfaa
/- THE CELL 'sum', in the pinned program and in every row, IS THE sha256 OF THE DUMP (.gsa) THAT YtlkcolomkhgjfaaProg.lean LOADS. Nothing in Lean hashes anything: it is a label: what it is worth is what the hold of that sum in a sandbox is worth. -/
noncomputable def Try.pinned : Pinned := { name := "ytlkcolomkhgjfaa", sum := "756202967d85daa414ed5092384c03953f2356e8a2003f14b9190962c29fc02b", checked := Try.checked }
namespace Rows
def none {H : Type} : Left H := { results := [], args := [] }

/-- 'laws.FnLeastOpenersAll': WHATEVER THE INPUT: true; the input reads as it did. -/
def fnLeastOpenersAllSpec : ChangeSpec := { name := "fnLeastOpenersAll", fn := fun _ => fun
  | [d] => { results := [.lit (.bool true)], args := [d] }
  | _ => none }
def fnLeastOpenersAllRow : OpenClaim := { program := "ytlkcolomkhgjfaa", sum := "756202967d85daa414ed5092384c03953f2356e8a2003f14b9190962c29fc02b", func := "loop.example/savingsclub/laws.FnLeastOpenersAll", spec := "fnLeastOpenersAll", recurses := true, apart := false }
def FnLeastOpenersAllSaid : Prop := fnLeastOpenersAllRow.holds Try.pinned (OpenSpec.ofChange fnLeastOpenersAllSpec)

/-- ITS FALSE NEIGHBOUR: 'it returns false'. Refute it at one input. -/
def fnLeastOpenersAllWrong : ChangeSpec := { name := "fnLeastOpenersAll", fn := fun _ => fun
  | [d] => { results := [.lit (.bool false)], args := [d] }
  | _ => none }
def FnLeastOpenersAllWrongFalsely : Prop := fnLeastOpenersAllRow.holds Try.pinned (OpenSpec.ofChange fnLeastOpenersAllWrong)

/-- 'laws.FnLeastOpeners': WHATEVER THE INPUT: true; the input reads as it did. -/
def fnLeastOpenersSpec : ChangeSpec := { name := "fnLeastOpeners", fn := fun _ => fun
  | [d] => { results := [.lit (.bool true)], args := [d] }
  | _ => none }
def fnLeastOpenersRow : OpenClaim := { program := "ytlkcolomkhgjfaa", sum := "756202967d85daa414ed5092384c03953f2356e8a2003f14b9190962c29fc02b", func := "loop.example/savingsclub/laws.FnLeastOpeners", spec := "fnLeastOpeners", recurses := true, apart := false }
def FnLeastOpenersSaid : Prop := fnLeastOpenersRow.holds Try.pinned (OpenSpec.ofChange fnLeastOpenersSpec)

/-- ITS FALSE NEIGHBOUR: 'it returns false'. Refute it at one input. -/
def fnLeastOpenersWrong : ChangeSpec := { name := "fnLeastOpeners", fn := fun _ => fun
  | [d] => { results := [.lit (.bool false)], args := [d] }
  | _ => none }
def FnLeastOpenersWrongFalsely : Prop := fnLeastOpenersRow.holds Try.pinned (OpenSpec.ofChange fnLeastOpenersWrong)

/-- 'laws.FnExactDealLock': WHATEVER THE INPUT: true; the input reads as it did. -/
def fnExactDealLockSpec : ChangeSpec := { name := "fnExactDealLock", fn := fun _ => fun
  | [d1, d2, d3] => { results := [.lit (.bool true)], args := [d1, d2, d3] }
  | _ => none }
def fnExactDealLockRow : OpenClaim := { program := "ytlkcolomkhgjfaa", sum := "756202967d85daa414ed5092384c03953f2356e8a2003f14b9190962c29fc02b", func := "loop.example/savingsclub/laws.FnExactDealLock", spec := "fnExactDealLock", unfollowed := true, recurses := true, loops := true, apart := false }
def FnExactDealLockSaid : Prop := fnExactDealLockRow.holds Try.pinned (OpenSpec.ofChange fnExactDealLockSpec)

/-- ITS FALSE NEIGHBOUR: 'it returns false'. Refute it at one input. -/
def fnExactDealLockWrong : ChangeSpec := { name := "fnExactDealLock", fn := fun _ => fun
  | [d1, d2, d3] => { results := [.lit (.bool false)], args := [d1, d2, d3] }
  | _ => none }
def FnExactDealLockWrongFalsely : Prop := fnExactDealLockRow.holds Try.pinned (OpenSpec.ofChange fnExactDealLockWrong)

/- THE SECOND FORM. 'bulk': how many values and letters a reading holds, each counted each time it is reached (what is shared counts as often as it is met; a slice's spare places count too). A statement '..UptoSaid' is the law's where the arguments, and the package variables that the reading takes, are together of bulk at most 1048576: NARROWER than '..Said'. Prove '..Said' where nothing that the law and all that it calls make is longer than what came in: it says more and counts as full. Else prove '..UptoSaid'. A law counts once. -/
mutual
def uptoBulk {H : Type} : DataW H → Nat
  | .lit (.string bytes) => bytes.length + 1
  | .lit _ => 1
  | .nil => 1
  | .ptr d => uptoBulk d + 1
  | .slice elems spare => uptoBulkAll elems + uptoBulkAll spare + 1
  | .agg parts => uptoBulkAll parts + 1
  | .iface _ d => uptoBulk d + 1
  | .map entries => uptoBulkEntries entries + 1
  | .held _ => 1
def uptoBulkAll {H : Type} : List (DataW H) → Nat
  | [] => 0
  | d :: r => uptoBulk d + uptoBulkAll r
def uptoBulkEntries {H : Type} : List (Lit × DataW H) → Nat
  | [] => 0
  | x :: r => uptoBulkEntry x + uptoBulkEntries r
def uptoBulkEntry {H : Type} : Lit × DataW H → Nat
  | (.string bytes, d) => bytes.length + uptoBulk d + 1
  | (_, d) => uptoBulk d + 1
 end
def uptoSmall : (H : Type) → List (DataW H) → Bool := fun _ ds => decide (uptoBulkAll ds ≤ 1048576)
def OpenSpec.upto (s : _root_.Go.ChangeSpec) : _root_.Go.OpenSpec := { _root_.Go.OpenSpec.ofChange s with cond := some uptoSmall }

/-- 'laws.FnLeastOpenersAll', WHERE WHAT IT READS IS OF BULK AT MOST 1048576: true; the input reads as it did. -/
def fnLeastOpenersAllUptoRow : OpenClaim := { program := "ytlkcolomkhgjfaa", sum := "756202967d85daa414ed5092384c03953f2356e8a2003f14b9190962c29fc02b", func := "loop.example/savingsclub/laws.FnLeastOpenersAll", spec := "fnLeastOpenersAll", recurses := true, apart := false, narrowed := true }
def FnLeastOpenersAllUptoSaid : Prop := fnLeastOpenersAllUptoRow.holds Try.pinned (OpenSpec.upto fnLeastOpenersAllSpec)

/-- 'laws.FnLeastOpeners', WHERE WHAT IT READS IS OF BULK AT MOST 1048576: true; the input reads as it did. -/
def fnLeastOpenersUptoRow : OpenClaim := { program := "ytlkcolomkhgjfaa", sum := "756202967d85daa414ed5092384c03953f2356e8a2003f14b9190962c29fc02b", func := "loop.example/savingsclub/laws.FnLeastOpeners", spec := "fnLeastOpeners", recurses := true, apart := false, narrowed := true }
def FnLeastOpenersUptoSaid : Prop := fnLeastOpenersUptoRow.holds Try.pinned (OpenSpec.upto fnLeastOpenersSpec)

/-- 'laws.FnExactDealLock', WHERE WHAT IT READS IS OF BULK AT MOST 1048576: true; the input reads as it did. -/
def fnExactDealLockUptoRow : OpenClaim := { program := "ytlkcolomkhgjfaa", sum := "756202967d85daa414ed5092384c03953f2356e8a2003f14b9190962c29fc02b", func := "loop.example/savingsclub/laws.FnExactDealLock", spec := "fnExactDealLock", unfollowed := true, recurses := true, loops := true, apart := false, narrowed := true }
def FnExactDealLockUptoSaid : Prop := fnExactDealLockUptoRow.holds Try.pinned (OpenSpec.upto fnExactDealLockSpec)

end Rows
end Go.Proofs.Ytlkcolomkhgjfaa
