-- Laid by this session's own program: the laid words that this law uses. Lean checks them.
import Derived.Test.YtmipmnejppoeiaaVFnMergeLoansWords
import Derived.Laws.StructEq
/-! ### 53. '==' of structs as_ one Bool -/
namespace Go.Proofs.YtmipmnejppoeiaaW.PrintWords
open Go.RowKit
section
variable {P : Program} {d : Nat} {xs ys : Array Value} {f : Field} {fs : List Field} {a b : Value} {r s : Bool} {w : World}
end
end Go.Proofs.YtmipmnejppoeiaaW.PrintWords
