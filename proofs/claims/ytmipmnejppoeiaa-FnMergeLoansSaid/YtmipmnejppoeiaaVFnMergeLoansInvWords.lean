-- Laid by this session's own program: the laid words that this law uses. Lean checks them.
import Derived.Test.YtmipmnejppoeiaaVFnMergeLoansInv
import Derived.Test.YtmipmnejppoeiaaVFnMergeLoansFootNe
namespace Go.Proofs.YtmipmnejppoeiaaW.PrintWords
open Go.RowKit
end Go.Proofs.YtmipmnejppoeiaaW.PrintWords
namespace Go.Proofs.YtmipmnejppoeiaaW.PrintLast
section
variable {ops : Array Oper} {a : Act} {o og : Oper} {g : Nat} {t : Tmp} {u : Bool}
end
end Go.Proofs.YtmipmnejppoeiaaW.PrintLast
