-- Laid by this session's own program: the kit's print, turned at a few places. Lean checks it.
import Derived.Test.YteemdklfjocidaaProg
import Derived.Below
import Derived.Deep.Draws
import Derived.Deep.AppendLies
import Derived.Maps.AppendAt
import Derived.OwnWalk
import Derived.Laws.BytesArg
import Derived.Laws.MakeOwn
import Derived.Laws.OwnMore
import Derived.Deep.OwnRows
import Derived.Tactics
import Derived.Lib.ConvBytes
import Derived.Laws.Slices
import Derived.WalkKit
import Derived.KernelRfl
import Derived.RowKit3
import Derived.Deep.LoopGhost
import Derived.Deep.QuietTactic
import Derived.BigQuiet
import Derived.WideLaws
import Derived.Deep.DeepCutAuto
import Derived.Deep.CutBlock
import Derived.Deep.RegionHeld3
import Derived.Laws.Rows
import Derived.Lib.AppendStr
import Derived.ArgAppend
import Derived.Laws.IdiomCopy
import Derived.OrdersHeld
import Derived.Laws.BitsLemmas
import Derived.RowKit
import Derived.Shelf.Spec.SlicesInsert
import Derived.Shelf.Spec.SlicesInsertGrow
import Derived.Test.YteemdklfjocidaaWWords
import Derived.Test.YteemdklfjocidaaWLast
import Derived.Test.YteemdklfjocidaaWTab
import Derived.Test.YteemdklfjocidaaWFour
import Derived.Test.YteemdklfjocidaaWQPut
import Derived.Test.YteemdklfjocidaaWApart
import Derived.Test.YteemdklfjocidaaWArr
import Derived.Test.YteemdklfjocidaaWZeros
import Derived.Test.YteemdklfjocidaaWFoot
import Derived.Test.YteemdklfjocidaaWKept
import Derived.Test.YteemdklfjocidaaWShare
import Derived.Test.YteemdklfjocidaaWN
import Derived.Test.YteemdklfjocidaaWFootNe
import Derived.Test.YteemdklfjocidaaWAt
import Derived.Test.YteemdklfjocidaaWEqStruct
import Derived.Test.YteemdklfjocidaaWRepsOne
import Derived.Test.YteemdklfjocidaaWInv
import Derived.Test.YteemdklfjocidaaWInvWords
import Derived.Test.YteemdklfjocidaaWGuard
import Derived.Test.YteemdklfjocidaaWNEv
import Derived.Test.YteemdklfjocidaaWMore
namespace Go.Proofs.Yteemdklfjocidaa.PFnExactByWish
open Go.RowKit Go.Proofs.YteemdklfjocidaaW.PrintWords Go.Proofs.YteemdklfjocidaaW.PrintLast Go.Proofs.YteemdklfjocidaaW.PrintMore
attribute [local go_sem] max2_int min2_int max_two min_two max_three min_three max_four min_four   -- for this text's walks alone
set_option linter.unusedVariables false
set_option linter.unusedSimpArgs false



def errW : Option Int → Value
  | none => .nilIface
  | some c => .iface 0 (.int .i64 c)
theorem errW_none : errW none = .nilIface := rfl
theorem errW_some (c : Int) : errW (some c) = .iface 0 (.int .i64 c) := rfl

theorem info3 : (Try.prog.info? 3).map (fun i => (i.zero, i.size, i.bytes)) = some (some (.int .i64 0), 1, 8) := by kernel_rfl
-- the values' own types

end Go.Proofs.Yteemdklfjocidaa.PFnExactByWish
