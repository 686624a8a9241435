-- Laid by this session's own program: the laid words that this law uses. Lean checks them.
import Derived.Test.YtikahkklbgndbaaVFnDummiesInv
import Derived.Test.YtikahkklbgndbaaVFnDummiesFootNe
namespace Go.Proofs.YtikahkklbgndbaaW.PrintWords
open Go.RowKit
end Go.Proofs.YtikahkklbgndbaaW.PrintWords
namespace Go.Proofs.YtikahkklbgndbaaW.PrintLast
section
variable {ops : Array Oper} {a : Act} {o og : Oper} {g : Nat} {t : Tmp} {u : Bool}
end
end Go.Proofs.YtikahkklbgndbaaW.PrintLast
