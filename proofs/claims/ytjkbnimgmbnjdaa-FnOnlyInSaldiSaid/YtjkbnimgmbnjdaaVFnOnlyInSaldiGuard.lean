-- Laid by this session's own program: the laid words that this law uses. Lean checks them.
import Derived.Test.YtjkbnimgmbnjdaaVFnOnlyInSaldiWords
/-! ### 58. A guarded operation whose guard is known to want it: the same goal without the guard -/
namespace Go.Proofs.YtjkbnimgmbnjdaaW.PrintWords
open Go.RowKit
section
variable {P : Program} {ops : Array Oper} {rest : List Oper} {o : Oper} {a : Act} {Q : Exit → Act → World → Prop} {W : World}
end
end Go.Proofs.YtjkbnimgmbnjdaaW.PrintWords
