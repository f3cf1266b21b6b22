/- Walks of the Go functions that the law FnExactShareGores reaches: written by a program of this session. -/
import Derived.Test.YtfpddpkloplpeaaProg
import Derived.Below
import Derived.Deep.Draws
import Derived.Deep.AppendLies
import Derived.Maps.AppendAt
import Derived.OwnWalk
import Derived.Laws.BytesArg
import Derived.Laws.MakeOwn
import Derived.Laws.OwnMore
import Derived.Deep.OwnRows
import Derived.Tactics
import Derived.Lib.ConvBytes
import Derived.Laws.Slices
import Derived.WalkKit
import Derived.KernelRfl
import Derived.RowKit3
import Derived.Deep.LoopGhost
import Derived.Deep.QuietTactic
import Derived.BigQuiet
import Derived.WideLaws
import Derived.Deep.DeepCutAuto
import Derived.Deep.CutBlock
import Derived.Deep.RegionHeld3
import Derived.Laws.Rows
import Derived.Lib.AppendStr
import Derived.ArgAppend
import Derived.Laws.IdiomCopy
import Derived.OrdersHeld
import Derived.Laws.BitsLemmas
import Derived.RowKit
import Derived.Lib.SlBy
import Derived.Lib.Walk
import Derived.IntWalk
import Derived.Test.YtfpddpkloplpeaaHand
import Derived.Test.YtfpddpkloplpeaaWWords
import Derived.Test.YtfpddpkloplpeaaWLast
import Derived.Test.YtfpddpkloplpeaaWTab
import Derived.Test.YtfpddpkloplpeaaWFour
import Derived.Test.YtfpddpkloplpeaaWQPut
import Derived.Test.YtfpddpkloplpeaaWApart
import Derived.Test.YtfpddpkloplpeaaWArr
import Derived.Test.YtfpddpkloplpeaaWZeros
import Derived.Test.YtfpddpkloplpeaaWFoot
import Derived.Test.YtfpddpkloplpeaaWKept
import Derived.Test.YtfpddpkloplpeaaWShare
import Derived.Test.YtfpddpkloplpeaaWN
import Derived.Test.YtfpddpkloplpeaaWFootNe
import Derived.Test.YtfpddpkloplpeaaWAt
import Derived.Test.YtfpddpkloplpeaaWEqStruct
import Derived.Test.YtfpddpkloplpeaaWRepsOne
import Derived.Test.YtfpddpkloplpeaaWInv
import Derived.Test.YtfpddpkloplpeaaWInvWords
import Derived.Test.YtfpddpkloplpeaaWGuard
import Derived.Test.YtfpddpkloplpeaaWNEv
import Derived.Test.YtfpddpkloplpeaaWMore
namespace Go.Proofs.Ytfpddpkloplpeaa.QFnExactShareGores
open Go.RowKit Go.Proofs.YtfpddpkloplpeaaW.PrintWords Go.Proofs.YtfpddpkloplpeaaW.PrintLast Go.Proofs.YtfpddpkloplpeaaW.PrintMore
attribute [local go_sem] max2_int min2_int max_two min_two max_three min_three max_four min_four   -- for this text's walks alone
set_option linter.unusedVariables false
set_option linter.unusedSimpArgs false



def errW : Option Int → Value
  | none => .nilIface
  | some c => .iface 0 (.int .i64 c)
theorem errW_none : errW none = .nilIface := rfl
theorem errW_some (c : Int) : errW (some c) = .iface 0 (.int .i64 c) := rfl

theorem info2 : (Try.prog.info? 2).map (fun i => (i.zero, i.size, i.bytes)) = some (some (.int .i64 0), 1, 8) := by kernel_rfl
-- the values' own types

end Go.Proofs.Ytfpddpkloplpeaa.QFnExactShareGores
