-- Laid by this session's own program: the laid words that this law uses. Lean checks them.
import Derived.Test.YtmipmnejppoeiaaVFnMergeLoansTab
/-! ### 56. Four, five, six operations that may come up next, in any order -/
namespace Go.Proofs.YtmipmnejppoeiaaW.PrintLast
section
variable {P : Program} {ops : Array Oper} {Q : Exit → Act → World → Prop} {md : Region.Mode} {S : World → Prop} {ds : List Nat} {T : Bool × List (List Nat × List Nat)}
end
end Go.Proofs.YtmipmnejppoeiaaW.PrintLast
