-- Laid by this session's own program: the laid words that this law uses. Lean checks them.
import Derived.Test.YtjkbnimgmbnjdaaVFnOnlyInSaldiInv
import Derived.Test.YtjkbnimgmbnjdaaVFnOnlyInSaldiFootNe
namespace Go.Proofs.YtjkbnimgmbnjdaaW.PrintWords
open Go.RowKit
end Go.Proofs.YtjkbnimgmbnjdaaW.PrintWords
namespace Go.Proofs.YtjkbnimgmbnjdaaW.PrintLast
section
variable {ops : Array Oper} {a : Act} {o og : Oper} {g : Nat} {t : Tmp} {u : Bool}
end
end Go.Proofs.YtjkbnimgmbnjdaaW.PrintLast
