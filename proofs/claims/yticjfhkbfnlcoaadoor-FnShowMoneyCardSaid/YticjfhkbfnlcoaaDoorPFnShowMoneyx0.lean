-- Laid by this session's own program: the kit's print, turned at a few places. Lean checks it.
import Derived.Test.YticjfhkbfnlcoaaDoorProg
import Derived.Below
import Derived.Deep.Draws
import Derived.Deep.AppendLies
import Derived.Maps.AppendAt
import Derived.OwnWalk
import Derived.Laws.BytesArg
import Derived.Laws.MakeOwn
import Derived.Laws.OwnMore
import Derived.Deep.OwnRows
import Derived.Tactics
import Derived.Lib.ConvBytes
import Derived.Laws.Slices
import Derived.WalkKit
import Derived.KernelRfl
import Derived.RowKit3
import Derived.Deep.LoopGhost
import Derived.Deep.QuietTactic
import Derived.BigQuiet
import Derived.WideLaws
import Derived.Deep.DeepCutAuto
import Derived.Deep.CutBlock
import Derived.Deep.RegionHeld3
import Derived.Laws.Rows
import Derived.Lib.AppendStr
import Derived.ArgAppend
import Derived.Laws.IdiomCopy
import Derived.OrdersHeld
import Derived.Laws.BitsLemmas
import Derived.RowKit
import Derived.Lib.SmallJoins
import Derived.Shelf.LaysM
import Derived.Shelf.Strconv.Itoa3
import Derived.Test.YticjfhkbfnlcoaaDoorWWords
import Derived.Test.YticjfhkbfnlcoaaDoorWLast
import Derived.Test.YticjfhkbfnlcoaaDoorWTab
import Derived.Test.YticjfhkbfnlcoaaDoorWFour
import Derived.Test.YticjfhkbfnlcoaaDoorWQPut
import Derived.Test.YticjfhkbfnlcoaaDoorWApart
import Derived.Test.YticjfhkbfnlcoaaDoorWArr
import Derived.Test.YticjfhkbfnlcoaaDoorWZeros
import Derived.Test.YticjfhkbfnlcoaaDoorWFoot
import Derived.Test.YticjfhkbfnlcoaaDoorWKept
import Derived.Test.YticjfhkbfnlcoaaDoorWShare
import Derived.Test.YticjfhkbfnlcoaaDoorWN
import Derived.Test.YticjfhkbfnlcoaaDoorWFootNe
import Derived.Test.YticjfhkbfnlcoaaDoorWAt
import Derived.Test.YticjfhkbfnlcoaaDoorWEqStruct
import Derived.Test.YticjfhkbfnlcoaaDoorWRepsOne
import Derived.Test.YticjfhkbfnlcoaaDoorWInv
import Derived.Test.YticjfhkbfnlcoaaDoorWInvWords
import Derived.Test.YticjfhkbfnlcoaaDoorWGuard
import Derived.Test.YticjfhkbfnlcoaaDoorWNEv
import Derived.Test.YticjfhkbfnlcoaaDoorWMore
namespace Go.Proofs.YticjfhkbfnlcoaaDoor.PFnShowMoney
open Go.RowKit Go.Proofs.YticjfhkbfnlcoaaDoorW.PrintWords Go.Proofs.YticjfhkbfnlcoaaDoorW.PrintLast Go.Proofs.YticjfhkbfnlcoaaDoorW.PrintMore
attribute [local go_sem] max2_int min2_int max_two min_two max_three min_three max_four min_four   -- for this text's walks alone
set_option linter.unusedVariables false
set_option linter.unusedSimpArgs false



def errW : Option Int → Value
  | none => .nilIface
  | some c => .iface 0 (.int .i64 c)
theorem errW_none : errW none = .nilIface := rfl
theorem errW_some (c : Int) : errW (some c) = .iface 0 (.int .i64 c) := rfl

theorem info3 : (Tryd.prog.info? 3).map (fun i => (i.zero, i.size, i.bytes)) = some (some (.int .i64 0), 1, 8) := by kernel_rfl
theorem info5 : (Tryd.prog.info? 5).map (fun i => (i.zero, i.size, i.bytes)) = some (some (.int .u8 0), 1, 1) := by kernel_rfl
-- the values' own types

end Go.Proofs.YticjfhkbfnlcoaaDoor.PFnShowMoney
