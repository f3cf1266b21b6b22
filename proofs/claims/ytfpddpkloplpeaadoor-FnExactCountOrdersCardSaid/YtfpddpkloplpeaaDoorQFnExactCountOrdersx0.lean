/- Walks of the Go functions that the law FnExactCountOrders reaches: written by a program of this session. -/
import Derived.Test.YtfpddpkloplpeaaDoorProg
import Derived.Below
import Derived.Deep.Draws
import Derived.Deep.AppendLies
import Derived.Maps.AppendAt
import Derived.OwnWalk
import Derived.Laws.BytesArg
import Derived.Laws.MakeOwn
import Derived.Laws.OwnMore
import Derived.Deep.OwnRows
import Derived.Tactics
import Derived.Lib.ConvBytes
import Derived.Laws.Slices
import Derived.WalkKit
import Derived.KernelRfl
import Derived.RowKit3
import Derived.Deep.LoopGhost
import Derived.Deep.QuietTactic
import Derived.BigQuiet
import Derived.WideLaws
import Derived.Deep.DeepCutAuto
import Derived.Deep.CutBlock
import Derived.Deep.RegionHeld3
import Derived.Laws.Rows
import Derived.Lib.AppendStr
import Derived.ArgAppend
import Derived.Laws.IdiomCopy
import Derived.OrdersHeld
import Derived.Laws.BitsLemmas
import Derived.RowKit
import Derived.Lib.SlBy
import Derived.Lib.Bytealg
import Derived.Lib.SliceRun
import Derived.Lib.Walk
import Derived.IntWalk
import Derived.Deep.RegionHeld3
import Derived.Deep.DrawnRows
import Derived.Laws.Cover1
import Derived.Test.YtfpddpkloplpeaaDoorTrim
import Derived.Test.YtfpddpkloplpeaaDoorHand
import Derived.Test.YtfpddpkloplpeaaDoorWWords
import Derived.Test.YtfpddpkloplpeaaDoorWLast
import Derived.Test.YtfpddpkloplpeaaDoorWTab
import Derived.Test.YtfpddpkloplpeaaDoorWFour
import Derived.Test.YtfpddpkloplpeaaDoorWQPut
import Derived.Test.YtfpddpkloplpeaaDoorWApart
import Derived.Test.YtfpddpkloplpeaaDoorWArr
import Derived.Test.YtfpddpkloplpeaaDoorWZeros
import Derived.Test.YtfpddpkloplpeaaDoorWFoot
import Derived.Test.YtfpddpkloplpeaaDoorWKept
import Derived.Test.YtfpddpkloplpeaaDoorWShare
import Derived.Test.YtfpddpkloplpeaaDoorWN
import Derived.Test.YtfpddpkloplpeaaDoorWFootNe
import Derived.Test.YtfpddpkloplpeaaDoorWAt
import Derived.Test.YtfpddpkloplpeaaDoorWEqStruct
import Derived.Test.YtfpddpkloplpeaaDoorWRepsOne
import Derived.Test.YtfpddpkloplpeaaDoorWInv
import Derived.Test.YtfpddpkloplpeaaDoorWInvWords
import Derived.Test.YtfpddpkloplpeaaDoorWGuard
import Derived.Test.YtfpddpkloplpeaaDoorWNEv
import Derived.Test.YtfpddpkloplpeaaDoorWMore
namespace Go.Proofs.YtfpddpkloplpeaaDoor.QFnExactCountOrders
open Go.RowKit Go.Proofs.YtfpddpkloplpeaaDoorW.PrintWords Go.Proofs.YtfpddpkloplpeaaDoorW.PrintLast Go.Proofs.YtfpddpkloplpeaaDoorW.PrintMore
attribute [local go_sem] max2_int min2_int max_two min_two max_three min_three max_four min_four   -- for this text's walks alone
set_option linter.unusedVariables false
set_option linter.unusedSimpArgs false



def errW : Option Int → Value
  | none => .nilIface
  | some c => .iface 0 (.int .i64 c)
theorem errW_none : errW none = .nilIface := rfl
theorem errW_some (c : Int) : errW (some c) = .iface 0 (.int .i64 c) := rfl

theorem info2 : (Tryd.prog.info? 2).map (fun i => (i.zero, i.size, i.bytes)) = some (some (.int .i64 0), 1, 8) := by kernel_rfl
-- the values' own types

end Go.Proofs.YtfpddpkloplpeaaDoor.QFnExactCountOrders
