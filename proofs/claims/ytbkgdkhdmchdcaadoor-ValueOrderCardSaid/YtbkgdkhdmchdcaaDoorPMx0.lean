/- Printed by wip/xprint.py of this repo (a driver of the kit's print, with hand-proved contracts): for each Go function named below a Lean function with its answers, and that the machine's call comes to these answers, wherever the Lean function answers. -/
import Derived.Test.YtbkgdkhdmchdcaaDoorProg
import Derived.Below
import Derived.Deep.Draws
import Derived.Deep.AppendLies
import Derived.Maps.AppendAt
import Derived.OwnWalk
import Derived.Laws.BytesArg
import Derived.Laws.MakeOwn
import Derived.Laws.OwnMore
import Derived.Deep.OwnRows
import Derived.Tactics
import Derived.Lib.ConvBytes
import Derived.Laws.Slices
import Derived.WalkKit
import Derived.KernelRfl
import Derived.RowKit3
import Derived.Deep.LoopGhost
import Derived.Deep.QuietTactic
import Derived.BigQuiet
import Derived.WideLaws
import Derived.Deep.DeepCutAuto
import Derived.Deep.CutBlock
import Derived.Deep.RegionHeld3
import Derived.Laws.Rows
import Derived.Lib.AppendStr
import Derived.ArgAppend
import Derived.Laws.IdiomCopy
import Derived.OrdersHeld
import Derived.Laws.BitsLemmas
import Derived.RowKit
import Derived.Test.YtbkgdkhdmchdcaaDoorStr
import Derived.Test.YtbkgdkhdmchdcaaDoorCmp
import Derived.Test.YtbkgdkhdmchdcaaDoorWWords
import Derived.Test.YtbkgdkhdmchdcaaDoorWLast
import Derived.Test.YtbkgdkhdmchdcaaDoorWTab
import Derived.Test.YtbkgdkhdmchdcaaDoorWFour
import Derived.Test.YtbkgdkhdmchdcaaDoorWQPut
import Derived.Test.YtbkgdkhdmchdcaaDoorWApart
import Derived.Test.YtbkgdkhdmchdcaaDoorWArr
import Derived.Test.YtbkgdkhdmchdcaaDoorWZeros
import Derived.Test.YtbkgdkhdmchdcaaDoorWFoot
import Derived.Test.YtbkgdkhdmchdcaaDoorWKept
import Derived.Test.YtbkgdkhdmchdcaaDoorWShare
import Derived.Test.YtbkgdkhdmchdcaaDoorWN
import Derived.Test.YtbkgdkhdmchdcaaDoorWFootNe
import Derived.Test.YtbkgdkhdmchdcaaDoorWAt
import Derived.Test.YtbkgdkhdmchdcaaDoorWEqStruct
import Derived.Test.YtbkgdkhdmchdcaaDoorWRepsOne
import Derived.Test.YtbkgdkhdmchdcaaDoorWInv
import Derived.Test.YtbkgdkhdmchdcaaDoorWInvWords
import Derived.Test.YtbkgdkhdmchdcaaDoorWGuard
import Derived.Test.YtbkgdkhdmchdcaaDoorWNEv
import Derived.Test.YtbkgdkhdmchdcaaDoorWMore
namespace Go.Proofs.YtbkgdkhdmchdcaaDoor.PM
open Go.RowKit Go.Proofs.YtbkgdkhdmchdcaaDoorW.PrintWords Go.Proofs.YtbkgdkhdmchdcaaDoorW.PrintLast Go.Proofs.YtbkgdkhdmchdcaaDoorW.PrintMore
attribute [local go_sem] max2_int min2_int max_two min_two max_three min_three max_four min_four   -- for this text's walks alone
open Go.Proofs.YtbkgdkhdmchdcaaDoor.Ext
set_option linter.unusedVariables false
set_option linter.unusedSimpArgs false



def errW : Option Int → Value
  | none => .nilIface
  | some c => .iface 0 (.int .i64 c)
theorem errW_none : errW none = .nilIface := rfl
theorem errW_some (c : Int) : errW (some c) = .iface 0 (.int .i64 c) := rfl

theorem info5 : (Tryd.prog.info? 5).map (fun i => (i.zero, i.size, i.bytes)) = some (some (.int .u8 0), 1, 1) := by kernel_rfl
-- the values' own types

end Go.Proofs.YtbkgdkhdmchdcaaDoor.PM
