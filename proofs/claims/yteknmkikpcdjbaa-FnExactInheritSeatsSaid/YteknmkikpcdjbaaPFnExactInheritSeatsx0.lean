-- Laid by this session's own program: the kit's print, turned at a few places. Lean checks it.
import Derived.Test.YteknmkikpcdjbaaProg
import Derived.Below
import Derived.Deep.Draws
import Derived.Deep.AppendLies
import Derived.Maps.AppendAt
import Derived.OwnWalk
import Derived.Laws.BytesArg
import Derived.Laws.MakeOwn
import Derived.Laws.OwnMore
import Derived.Deep.OwnRows
import Derived.Tactics
import Derived.Lib.ConvBytes
import Derived.Laws.Slices
import Derived.WalkKit
import Derived.KernelRfl
import Derived.RowKit3
import Derived.Deep.LoopGhost
import Derived.Deep.QuietTactic
import Derived.BigQuiet
import Derived.WideLaws
import Derived.Deep.DeepCutAuto
import Derived.Deep.CutBlock
import Derived.Deep.RegionHeld3
import Derived.Laws.Rows
import Derived.Lib.AppendStr
import Derived.ArgAppend
import Derived.Laws.IdiomCopy
import Derived.OrdersHeld
import Derived.Laws.BitsLemmas
import Derived.RowKit
import Derived.Lib.SliceRun
import Derived.Shelf.Spec.SlicesInsert
import Derived.Shelf.Spec.SlicesInsertGrow
import Derived.Test.YteknmkikpcdjbaaWWords
import Derived.Test.YteknmkikpcdjbaaWLast
import Derived.Test.YteknmkikpcdjbaaWTab
import Derived.Test.YteknmkikpcdjbaaWFour
import Derived.Test.YteknmkikpcdjbaaWQPut
import Derived.Test.YteknmkikpcdjbaaWApart
import Derived.Test.YteknmkikpcdjbaaWArr
import Derived.Test.YteknmkikpcdjbaaWZeros
import Derived.Test.YteknmkikpcdjbaaWFoot
import Derived.Test.YteknmkikpcdjbaaWKept
import Derived.Test.YteknmkikpcdjbaaWShare
import Derived.Test.YteknmkikpcdjbaaWN
import Derived.Test.YteknmkikpcdjbaaWFootNe
import Derived.Test.YteknmkikpcdjbaaWAt
import Derived.Test.YteknmkikpcdjbaaWEqStruct
import Derived.Test.YteknmkikpcdjbaaWRepsOne
import Derived.Test.YteknmkikpcdjbaaWInv
import Derived.Test.YteknmkikpcdjbaaWInvWords
import Derived.Test.YteknmkikpcdjbaaWGuard
import Derived.Test.YteknmkikpcdjbaaWNEv
import Derived.Test.YteknmkikpcdjbaaWMore
namespace Go.Proofs.Yteknmkikpcdjbaa.PFnExactInheritSeats
open Go.RowKit Go.Proofs.YteknmkikpcdjbaaW.PrintWords Go.Proofs.YteknmkikpcdjbaaW.PrintLast Go.Proofs.YteknmkikpcdjbaaW.PrintMore
attribute [local go_sem] max2_int min2_int max_two min_two max_three min_three max_four min_four   -- for this text's walks alone
set_option linter.unusedVariables false
set_option linter.unusedSimpArgs false



def errW : Option Int → Value
  | none => .nilIface
  | some c => .iface 0 (.int .i64 c)
theorem errW_none : errW none = .nilIface := rfl
theorem errW_some (c : Int) : errW (some c) = .iface 0 (.int .i64 c) := rfl

theorem info3 : (Try.prog.info? 3).map (fun i => (i.zero, i.size, i.bytes)) = some (some (.int .i64 0), 1, 8) := by kernel_rfl
theorem info4 : (Try.prog.info? 4).map (fun i => (i.zero, i.size, i.bytes)) = some (some (.bool false), 1, 1) := by kernel_rfl
-- the values' own types

end Go.Proofs.Yteknmkikpcdjbaa.PFnExactInheritSeats
