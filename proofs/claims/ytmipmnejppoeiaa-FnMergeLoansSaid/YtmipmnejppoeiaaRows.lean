/-
  No cell of these rows narrows 'for every input' (looked for: loops, veiled, ifaces, maps, wideKeys, modest, calm, conditions, laid).
  DERIVED. THE GIVEN ROWS OF THIS SEAT. 11 by the template 'for every input the law returns true; each argument reads behind the call as it read before'; 0 by the template 'total and deterministic' (their statements: YtmipmnejppoeiaaTotals.lean).
  GIVEN WITH THE SEED: the statements are not yours to turn. If you find one false, say at which input.
  Laid BY PROGRAM, IN A SANDBOX (cutbox-rows.mjs): the forced cells as the released guide's own fill.sh prints them over the translation b944531c0cde25ec… (all of the seat's roots in one cut). By AI agents, Wed Nov 11 2026. No macro, syntax, notation, axiom, sorry.
-/
import Derived.Test.YtmipmnejppoeiaaChecked
import GoSem.Claim
import GoSem.ClaimJoined
import GoSem.ClaimMapViews
import Derived.JoinedTies
import Derived.KernelRfl
namespace Go.Proofs.Ytmipmnejppoeiaa
/- THE CELL 'sum', in the pinned program and in every row, IS THE sha256 OF THE DUMP (.gsa) THAT YtmipmnejppoeiaaProg.lean LOADS. Nothing in Lean hashes anything: it is a label: what it is worth is what the hold of that sum in a sandbox is worth. -/
noncomputable def Try.pinned : Pinned := { name := "ytmipmnejppoeiaa", sum := "b944531c0cde25ece8eb8113b41fb75e9ace11c1db18a502e9b03f14bf27d7f6", checked := Try.checked }
namespace Rows
def none {H : Type} : Left H := { results := [], args := [] }

/-- 'laws.FnPayLoan': WHATEVER THE INPUT: true; the input reads as it did. -/
def fnPayLoanSpec : ChangeSpec := { name := "fnPayLoan", fn := fun _ => fun
  | [d] => { results := [.lit (.bool true)], args := [d] }
  | _ => none }
def fnPayLoanRow : OpenClaim := { program := "ytmipmnejppoeiaa", sum := "b944531c0cde25ece8eb8113b41fb75e9ace11c1db18a502e9b03f14bf27d7f6", func := "loop.example/savingsclub/laws.FnPayLoan", spec := "fnPayLoan", apart := false }
def FnPayLoanSaid : Prop := fnPayLoanRow.holds Try.pinned (OpenSpec.ofChange fnPayLoanSpec)

/-- ITS FALSE NEIGHBOUR: 'it returns false'. Refute it at one input. -/
def fnPayLoanWrong : ChangeSpec := { name := "fnPayLoan", fn := fun _ => fun
  | [d] => { results := [.lit (.bool false)], args := [d] }
  | _ => none }
def FnPayLoanWrongFalsely : Prop := fnPayLoanRow.holds Try.pinned (OpenSpec.ofChange fnPayLoanWrong)

/-- 'laws.FnExactExposureOf': WHATEVER THE INPUT: true; the input reads as it did. -/
def fnExactExposureOfSpec : ChangeSpec := { name := "fnExactExposureOf", fn := fun _ => fun
  | [d1, d2] => { results := [.lit (.bool true)], args := [d1, d2] }
  | _ => none }
def fnExactExposureOfRow : OpenClaim := { program := "ytmipmnejppoeiaa", sum := "b944531c0cde25ece8eb8113b41fb75e9ace11c1db18a502e9b03f14bf27d7f6", func := "loop.example/savingsclub/laws.FnExactExposureOf", spec := "fnExactExposureOf", apart := false }
def FnExactExposureOfSaid : Prop := fnExactExposureOfRow.holds Try.pinned (OpenSpec.ofChange fnExactExposureOfSpec)

/-- ITS FALSE NEIGHBOUR: 'it returns false'. Refute it at one input. -/
def fnExactExposureOfWrong : ChangeSpec := { name := "fnExactExposureOf", fn := fun _ => fun
  | [d1, d2] => { results := [.lit (.bool false)], args := [d1, d2] }
  | _ => none }
def FnExactExposureOfWrongFalsely : Prop := fnExactExposureOfRow.holds Try.pinned (OpenSpec.ofChange fnExactExposureOfWrong)

/-- 'laws.FnExactLevelsOf': WHATEVER THE INPUT: true; the input reads as it did. -/
def fnExactLevelsOfSpec : ChangeSpec := { name := "fnExactLevelsOf", fn := fun _ => fun
  | [d1, d2] => { results := [.lit (.bool true)], args := [d1, d2] }
  | _ => none }
def fnExactLevelsOfRow : OpenClaim := { program := "ytmipmnejppoeiaa", sum := "b944531c0cde25ece8eb8113b41fb75e9ace11c1db18a502e9b03f14bf27d7f6", func := "loop.example/savingsclub/laws.FnExactLevelsOf", spec := "fnExactLevelsOf", apart := false }
def FnExactLevelsOfSaid : Prop := fnExactLevelsOfRow.holds Try.pinned (OpenSpec.ofChange fnExactLevelsOfSpec)

/-- ITS FALSE NEIGHBOUR: 'it returns false'. Refute it at one input. -/
def fnExactLevelsOfWrong : ChangeSpec := { name := "fnExactLevelsOf", fn := fun _ => fun
  | [d1, d2] => { results := [.lit (.bool false)], args := [d1, d2] }
  | _ => none }
def FnExactLevelsOfWrongFalsely : Prop := fnExactLevelsOfRow.holds Try.pinned (OpenSpec.ofChange fnExactLevelsOfWrong)

/-- 'laws.FnSafeLoans': WHATEVER THE INPUT: true; the input reads as it did. -/
def fnSafeLoansSpec : ChangeSpec := { name := "fnSafeLoans", fn := fun _ => fun
  | [d] => { results := [.lit (.bool true)], args := [d] }
  | _ => none }
def fnSafeLoansRow : OpenClaim := { program := "ytmipmnejppoeiaa", sum := "b944531c0cde25ece8eb8113b41fb75e9ace11c1db18a502e9b03f14bf27d7f6", func := "loop.example/savingsclub/laws.FnSafeLoans", spec := "fnSafeLoans", apart := false }
def FnSafeLoansSaid : Prop := fnSafeLoansRow.holds Try.pinned (OpenSpec.ofChange fnSafeLoansSpec)

/-- ITS FALSE NEIGHBOUR: 'it returns false'. Refute it at one input. -/
def fnSafeLoansWrong : ChangeSpec := { name := "fnSafeLoans", fn := fun _ => fun
  | [d] => { results := [.lit (.bool false)], args := [d] }
  | _ => none }
def FnSafeLoansWrongFalsely : Prop := fnSafeLoansRow.holds Try.pinned (OpenSpec.ofChange fnSafeLoansWrong)

/-- 'laws.FnExactFailLoan': WHATEVER THE INPUT: true; the input reads as it did. -/
def fnExactFailLoanSpec : ChangeSpec := { name := "fnExactFailLoan", fn := fun _ => fun
  | [d1, d2, d3] => { results := [.lit (.bool true)], args := [d1, d2, d3] }
  | _ => none }
def fnExactFailLoanRow : OpenClaim := { program := "ytmipmnejppoeiaa", sum := "b944531c0cde25ece8eb8113b41fb75e9ace11c1db18a502e9b03f14bf27d7f6", func := "loop.example/savingsclub/laws.FnExactFailLoan", spec := "fnExactFailLoan", apart := false }
def FnExactFailLoanSaid : Prop := fnExactFailLoanRow.holds Try.pinned (OpenSpec.ofChange fnExactFailLoanSpec)

/-- ITS FALSE NEIGHBOUR: 'it returns false'. Refute it at one input. -/
def fnExactFailLoanWrong : ChangeSpec := { name := "fnExactFailLoan", fn := fun _ => fun
  | [d1, d2, d3] => { results := [.lit (.bool false)], args := [d1, d2, d3] }
  | _ => none }
def FnExactFailLoanWrongFalsely : Prop := fnExactFailLoanRow.holds Try.pinned (OpenSpec.ofChange fnExactFailLoanWrong)

/-- 'laws.FnFreeStakes': WHATEVER THE INPUT: true; the input reads as it did. -/
def fnFreeStakesSpec : ChangeSpec := { name := "fnFreeStakes", fn := fun _ => fun
  | [d] => { results := [.lit (.bool true)], args := [d] }
  | _ => none }
def fnFreeStakesRow : OpenClaim := { program := "ytmipmnejppoeiaa", sum := "b944531c0cde25ece8eb8113b41fb75e9ace11c1db18a502e9b03f14bf27d7f6", func := "loop.example/savingsclub/laws.FnFreeStakes", spec := "fnFreeStakes", apart := false }
def FnFreeStakesSaid : Prop := fnFreeStakesRow.holds Try.pinned (OpenSpec.ofChange fnFreeStakesSpec)

/-- ITS FALSE NEIGHBOUR: 'it returns false'. Refute it at one input. -/
def fnFreeStakesWrong : ChangeSpec := { name := "fnFreeStakes", fn := fun _ => fun
  | [d] => { results := [.lit (.bool false)], args := [d] }
  | _ => none }
def FnFreeStakesWrongFalsely : Prop := fnFreeStakesRow.holds Try.pinned (OpenSpec.ofChange fnFreeStakesWrong)

/-- 'laws.FnExactPayLoan': WHATEVER THE INPUT: true; the input reads as it did. -/
def fnExactPayLoanSpec : ChangeSpec := { name := "fnExactPayLoan", fn := fun _ => fun
  | [d1, d2, d3, d4] => { results := [.lit (.bool true)], args := [d1, d2, d3, d4] }
  | _ => none }
def fnExactPayLoanRow : OpenClaim := { program := "ytmipmnejppoeiaa", sum := "b944531c0cde25ece8eb8113b41fb75e9ace11c1db18a502e9b03f14bf27d7f6", func := "loop.example/savingsclub/laws.FnExactPayLoan", spec := "fnExactPayLoan", apart := false }
def FnExactPayLoanSaid : Prop := fnExactPayLoanRow.holds Try.pinned (OpenSpec.ofChange fnExactPayLoanSpec)

/-- ITS FALSE NEIGHBOUR: 'it returns false'. Refute it at one input. -/
def fnExactPayLoanWrong : ChangeSpec := { name := "fnExactPayLoan", fn := fun _ => fun
  | [d1, d2, d3, d4] => { results := [.lit (.bool false)], args := [d1, d2, d3, d4] }
  | _ => none }
def FnExactPayLoanWrongFalsely : Prop := fnExactPayLoanRow.holds Try.pinned (OpenSpec.ofChange fnExactPayLoanWrong)

/-- 'laws.FnExactSafeLoans': WHATEVER THE INPUT: true; the input reads as it did. -/
def fnExactSafeLoansSpec : ChangeSpec := { name := "fnExactSafeLoans", fn := fun _ => fun
  | [d1, d2] => { results := [.lit (.bool true)], args := [d1, d2] }
  | _ => none }
def fnExactSafeLoansRow : OpenClaim := { program := "ytmipmnejppoeiaa", sum := "b944531c0cde25ece8eb8113b41fb75e9ace11c1db18a502e9b03f14bf27d7f6", func := "loop.example/savingsclub/laws.FnExactSafeLoans", spec := "fnExactSafeLoans", apart := false }
def FnExactSafeLoansSaid : Prop := fnExactSafeLoansRow.holds Try.pinned (OpenSpec.ofChange fnExactSafeLoansSpec)

/-- ITS FALSE NEIGHBOUR: 'it returns false'. Refute it at one input. -/
def fnExactSafeLoansWrong : ChangeSpec := { name := "fnExactSafeLoans", fn := fun _ => fun
  | [d1, d2] => { results := [.lit (.bool false)], args := [d1, d2] }
  | _ => none }
def FnExactSafeLoansWrongFalsely : Prop := fnExactSafeLoansRow.holds Try.pinned (OpenSpec.ofChange fnExactSafeLoansWrong)

/-- 'laws.FnMergeLoans': WHATEVER THE INPUT: true; the input reads as it did. -/
def fnMergeLoansSpec : ChangeSpec := { name := "fnMergeLoans", fn := fun _ => fun
  | [d] => { results := [.lit (.bool true)], args := [d] }
  | _ => none }
def fnMergeLoansRow : OpenClaim := { program := "ytmipmnejppoeiaa", sum := "b944531c0cde25ece8eb8113b41fb75e9ace11c1db18a502e9b03f14bf27d7f6", func := "loop.example/savingsclub/laws.FnMergeLoans", spec := "fnMergeLoans", unfollowed := true, recurses := true, apart := false }
def FnMergeLoansSaid : Prop := fnMergeLoansRow.holds Try.pinned (OpenSpec.ofChange fnMergeLoansSpec)

/-- ITS FALSE NEIGHBOUR: 'it returns false'. Refute it at one input. -/
def fnMergeLoansWrong : ChangeSpec := { name := "fnMergeLoans", fn := fun _ => fun
  | [d] => { results := [.lit (.bool false)], args := [d] }
  | _ => none }
def FnMergeLoansWrongFalsely : Prop := fnMergeLoansRow.holds Try.pinned (OpenSpec.ofChange fnMergeLoansWrong)

/-- 'laws.FnExactFreeStakes': WHATEVER THE INPUT: true; the input reads as it did. -/
def fnExactFreeStakesSpec : ChangeSpec := { name := "fnExactFreeStakes", fn := fun _ => fun
  | [d1, d2] => { results := [.lit (.bool true)], args := [d1, d2] }
  | _ => none }
def fnExactFreeStakesRow : OpenClaim := { program := "ytmipmnejppoeiaa", sum := "b944531c0cde25ece8eb8113b41fb75e9ace11c1db18a502e9b03f14bf27d7f6", func := "loop.example/savingsclub/laws.FnExactFreeStakes", spec := "fnExactFreeStakes", apart := false }
def FnExactFreeStakesSaid : Prop := fnExactFreeStakesRow.holds Try.pinned (OpenSpec.ofChange fnExactFreeStakesSpec)

/-- ITS FALSE NEIGHBOUR: 'it returns false'. Refute it at one input. -/
def fnExactFreeStakesWrong : ChangeSpec := { name := "fnExactFreeStakes", fn := fun _ => fun
  | [d1, d2] => { results := [.lit (.bool false)], args := [d1, d2] }
  | _ => none }
def FnExactFreeStakesWrongFalsely : Prop := fnExactFreeStakesRow.holds Try.pinned (OpenSpec.ofChange fnExactFreeStakesWrong)

/-- 'laws.FnFailLoan': WHATEVER THE INPUT: true; the input reads as it did. -/
def fnFailLoanSpec : ChangeSpec := { name := "fnFailLoan", fn := fun _ => fun
  | [d] => { results := [.lit (.bool true)], args := [d] }
  | _ => none }
def fnFailLoanRow : OpenClaim := { program := "ytmipmnejppoeiaa", sum := "b944531c0cde25ece8eb8113b41fb75e9ace11c1db18a502e9b03f14bf27d7f6", func := "loop.example/savingsclub/laws.FnFailLoan", spec := "fnFailLoan", apart := false }
def FnFailLoanSaid : Prop := fnFailLoanRow.holds Try.pinned (OpenSpec.ofChange fnFailLoanSpec)

/-- ITS FALSE NEIGHBOUR: 'it returns false'. Refute it at one input. -/
def fnFailLoanWrong : ChangeSpec := { name := "fnFailLoan", fn := fun _ => fun
  | [d] => { results := [.lit (.bool false)], args := [d] }
  | _ => none }
def FnFailLoanWrongFalsely : Prop := fnFailLoanRow.holds Try.pinned (OpenSpec.ofChange fnFailLoanWrong)

/- THE SECOND FORM. 'bulk': how many values and letters a reading holds, each counted each time it is reached (what is shared counts as often as it is met; a slice's spare places count too). A statement '..UptoSaid' is the law's where the arguments, and the package variables that the reading takes, are together of bulk at most 1048576: NARROWER than '..Said'. Prove '..Said' where nothing that the law and all that it calls make is longer than what came in: it says more and counts as full. Else prove '..UptoSaid'. A law counts once. -/
mutual
def uptoBulk {H : Type} : DataW H → Nat
  | .lit (.string bytes) => bytes.length + 1
  | .lit _ => 1
  | .nil => 1
  | .ptr d => uptoBulk d + 1
  | .slice elems spare => uptoBulkAll elems + uptoBulkAll spare + 1
  | .agg parts => uptoBulkAll parts + 1
  | .iface _ d => uptoBulk d + 1
  | .map entries => uptoBulkEntries entries + 1
  | .held _ => 1
def uptoBulkAll {H : Type} : List (DataW H) → Nat
  | [] => 0
  | d :: r => uptoBulk d + uptoBulkAll r
def uptoBulkEntries {H : Type} : List (Lit × DataW H) → Nat
  | [] => 0
  | x :: r => uptoBulkEntry x + uptoBulkEntries r
def uptoBulkEntry {H : Type} : Lit × DataW H → Nat
  | (.string bytes, d) => bytes.length + uptoBulk d + 1
  | (_, d) => uptoBulk d + 1
 end
def uptoSmall : (H : Type) → List (DataW H) → Bool := fun _ ds => decide (uptoBulkAll ds ≤ 1048576)
def OpenSpec.upto (s : _root_.Go.ChangeSpec) : _root_.Go.OpenSpec := { _root_.Go.OpenSpec.ofChange s with cond := some uptoSmall }

/-- 'laws.FnPayLoan', WHERE WHAT IT READS IS OF BULK AT MOST 1048576: true; the input reads as it did. -/
def fnPayLoanUptoRow : OpenClaim := { program := "ytmipmnejppoeiaa", sum := "b944531c0cde25ece8eb8113b41fb75e9ace11c1db18a502e9b03f14bf27d7f6", func := "loop.example/savingsclub/laws.FnPayLoan", spec := "fnPayLoan", apart := false, narrowed := true }
def FnPayLoanUptoSaid : Prop := fnPayLoanUptoRow.holds Try.pinned (OpenSpec.upto fnPayLoanSpec)

/-- 'laws.FnExactExposureOf', WHERE WHAT IT READS IS OF BULK AT MOST 1048576: true; the input reads as it did. -/
def fnExactExposureOfUptoRow : OpenClaim := { program := "ytmipmnejppoeiaa", sum := "b944531c0cde25ece8eb8113b41fb75e9ace11c1db18a502e9b03f14bf27d7f6", func := "loop.example/savingsclub/laws.FnExactExposureOf", spec := "fnExactExposureOf", apart := false, narrowed := true }
def FnExactExposureOfUptoSaid : Prop := fnExactExposureOfUptoRow.holds Try.pinned (OpenSpec.upto fnExactExposureOfSpec)

/-- 'laws.FnExactLevelsOf', WHERE WHAT IT READS IS OF BULK AT MOST 1048576: true; the input reads as it did. -/
def fnExactLevelsOfUptoRow : OpenClaim := { program := "ytmipmnejppoeiaa", sum := "b944531c0cde25ece8eb8113b41fb75e9ace11c1db18a502e9b03f14bf27d7f6", func := "loop.example/savingsclub/laws.FnExactLevelsOf", spec := "fnExactLevelsOf", apart := false, narrowed := true }
def FnExactLevelsOfUptoSaid : Prop := fnExactLevelsOfUptoRow.holds Try.pinned (OpenSpec.upto fnExactLevelsOfSpec)

/-- 'laws.FnSafeLoans', WHERE WHAT IT READS IS OF BULK AT MOST 1048576: true; the input reads as it did. -/
def fnSafeLoansUptoRow : OpenClaim := { program := "ytmipmnejppoeiaa", sum := "b944531c0cde25ece8eb8113b41fb75e9ace11c1db18a502e9b03f14bf27d7f6", func := "loop.example/savingsclub/laws.FnSafeLoans", spec := "fnSafeLoans", apart := false, narrowed := true }
def FnSafeLoansUptoSaid : Prop := fnSafeLoansUptoRow.holds Try.pinned (OpenSpec.upto fnSafeLoansSpec)

/-- 'laws.FnExactFailLoan', WHERE WHAT IT READS IS OF BULK AT MOST 1048576: true; the input reads as it did. -/
def fnExactFailLoanUptoRow : OpenClaim := { program := "ytmipmnejppoeiaa", sum := "b944531c0cde25ece8eb8113b41fb75e9ace11c1db18a502e9b03f14bf27d7f6", func := "loop.example/savingsclub/laws.FnExactFailLoan", spec := "fnExactFailLoan", apart := false, narrowed := true }
def FnExactFailLoanUptoSaid : Prop := fnExactFailLoanUptoRow.holds Try.pinned (OpenSpec.upto fnExactFailLoanSpec)

/-- 'laws.FnFreeStakes', WHERE WHAT IT READS IS OF BULK AT MOST 1048576: true; the input reads as it did. -/
def fnFreeStakesUptoRow : OpenClaim := { program := "ytmipmnejppoeiaa", sum := "b944531c0cde25ece8eb8113b41fb75e9ace11c1db18a502e9b03f14bf27d7f6", func := "loop.example/savingsclub/laws.FnFreeStakes", spec := "fnFreeStakes", apart := false, narrowed := true }
def FnFreeStakesUptoSaid : Prop := fnFreeStakesUptoRow.holds Try.pinned (OpenSpec.upto fnFreeStakesSpec)

/-- 'laws.FnExactPayLoan', WHERE WHAT IT READS IS OF BULK AT MOST 1048576: true; the input reads as it did. -/
def fnExactPayLoanUptoRow : OpenClaim := { program := "ytmipmnejppoeiaa", sum := "b944531c0cde25ece8eb8113b41fb75e9ace11c1db18a502e9b03f14bf27d7f6", func := "loop.example/savingsclub/laws.FnExactPayLoan", spec := "fnExactPayLoan", apart := false, narrowed := true }
def FnExactPayLoanUptoSaid : Prop := fnExactPayLoanUptoRow.holds Try.pinned (OpenSpec.upto fnExactPayLoanSpec)

/-- 'laws.FnExactSafeLoans', WHERE WHAT IT READS IS OF BULK AT MOST 1048576: true; the input reads as it did. -/
def fnExactSafeLoansUptoRow : OpenClaim := { program := "ytmipmnejppoeiaa", sum := "b944531c0cde25ece8eb8113b41fb75e9ace11c1db18a502e9b03f14bf27d7f6", func := "loop.example/savingsclub/laws.FnExactSafeLoans", spec := "fnExactSafeLoans", apart := false, narrowed := true }
def FnExactSafeLoansUptoSaid : Prop := fnExactSafeLoansUptoRow.holds Try.pinned (OpenSpec.upto fnExactSafeLoansSpec)

/-- 'laws.FnMergeLoans', WHERE WHAT IT READS IS OF BULK AT MOST 1048576: true; the input reads as it did. -/
def fnMergeLoansUptoRow : OpenClaim := { program := "ytmipmnejppoeiaa", sum := "b944531c0cde25ece8eb8113b41fb75e9ace11c1db18a502e9b03f14bf27d7f6", func := "loop.example/savingsclub/laws.FnMergeLoans", spec := "fnMergeLoans", unfollowed := true, recurses := true, apart := false, narrowed := true }
def FnMergeLoansUptoSaid : Prop := fnMergeLoansUptoRow.holds Try.pinned (OpenSpec.upto fnMergeLoansSpec)

/-- 'laws.FnExactFreeStakes', WHERE WHAT IT READS IS OF BULK AT MOST 1048576: true; the input reads as it did. -/
def fnExactFreeStakesUptoRow : OpenClaim := { program := "ytmipmnejppoeiaa", sum := "b944531c0cde25ece8eb8113b41fb75e9ace11c1db18a502e9b03f14bf27d7f6", func := "loop.example/savingsclub/laws.FnExactFreeStakes", spec := "fnExactFreeStakes", apart := false, narrowed := true }
def FnExactFreeStakesUptoSaid : Prop := fnExactFreeStakesUptoRow.holds Try.pinned (OpenSpec.upto fnExactFreeStakesSpec)

/-- 'laws.FnFailLoan', WHERE WHAT IT READS IS OF BULK AT MOST 1048576: true; the input reads as it did. -/
def fnFailLoanUptoRow : OpenClaim := { program := "ytmipmnejppoeiaa", sum := "b944531c0cde25ece8eb8113b41fb75e9ace11c1db18a502e9b03f14bf27d7f6", func := "loop.example/savingsclub/laws.FnFailLoan", spec := "fnFailLoan", apart := false, narrowed := true }
def FnFailLoanUptoSaid : Prop := fnFailLoanUptoRow.holds Try.pinned (OpenSpec.upto fnFailLoanSpec)

end Rows
end Go.Proofs.Ytmipmnejppoeiaa
