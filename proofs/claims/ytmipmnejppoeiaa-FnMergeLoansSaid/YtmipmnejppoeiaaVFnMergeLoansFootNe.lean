-- Laid by this session's own program: the laid words that this law uses. Lean checks them.
import Derived.Test.YtmipmnejppoeiaaVFnMergeLoansN
/-! ### 52. A row that stays read whatever happens to a block (a set of blocks) doesn't lie there -/
namespace Go.Proofs.YtmipmnejppoeiaaW.PrintWords
open Go.RowKit
namespace Kd
section
variable {α : Type} {d : Kd α} {W : World} {g n : Nat} {S ok : Nat → Prop} {A : Option Addr} {ad : Addr} {xs : List α}
end
end Kd
end Go.Proofs.YtmipmnejppoeiaaW.PrintWords
