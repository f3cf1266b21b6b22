/- Walks of the Go functions that the law FnCalendars reaches: written by a program of this session. -/
import Derived.Test.YtncejfhmachapaaProg
import Derived.Below
import Derived.Deep.Draws
import Derived.Deep.AppendLies
import Derived.Maps.AppendAt
import Derived.OwnWalk
import Derived.Laws.BytesArg
import Derived.Laws.MakeOwn
import Derived.Laws.OwnMore
import Derived.Deep.OwnRows
import Derived.Tactics
import Derived.Lib.ConvBytes
import Derived.Laws.Slices
import Derived.WalkKit
import Derived.KernelRfl
import Derived.RowKit3
import Derived.Deep.LoopGhost
import Derived.Deep.QuietTactic
import Derived.BigQuiet
import Derived.WideLaws
import Derived.Deep.DeepCutAuto
import Derived.Deep.CutBlock
import Derived.Deep.RegionHeld3
import Derived.Laws.Rows
import Derived.Lib.AppendStr
import Derived.ArgAppend
import Derived.Laws.IdiomCopy
import Derived.OrdersHeld
import Derived.Laws.BitsLemmas
import Derived.RowKit
import Derived.Lib.SlBy
import Derived.Lib.Bytealg
import Derived.Lib.SliceRun
import Derived.Lib.Walk
import Derived.IntWalk
import Derived.Deep.RegionHeld3
import Derived.Deep.DrawnRows
import Derived.Test.YtncejfhmachapaaHand
import Derived.Test.YtncejfhmachapaaWWords
import Derived.Test.YtncejfhmachapaaWLast
import Derived.Test.YtncejfhmachapaaWTab
import Derived.Test.YtncejfhmachapaaWFour
import Derived.Test.YtncejfhmachapaaWQPut
import Derived.Test.YtncejfhmachapaaWApart
import Derived.Test.YtncejfhmachapaaWArr
import Derived.Test.YtncejfhmachapaaWZeros
import Derived.Test.YtncejfhmachapaaWFoot
import Derived.Test.YtncejfhmachapaaWKept
import Derived.Test.YtncejfhmachapaaWShare
import Derived.Test.YtncejfhmachapaaWN
import Derived.Test.YtncejfhmachapaaWFootNe
import Derived.Test.YtncejfhmachapaaWAt
import Derived.Test.YtncejfhmachapaaWEqStruct
import Derived.Test.YtncejfhmachapaaWRepsOne
import Derived.Test.YtncejfhmachapaaWInv
import Derived.Test.YtncejfhmachapaaWInvWords
import Derived.Test.YtncejfhmachapaaWGuard
import Derived.Test.YtncejfhmachapaaWNEv
import Derived.Test.YtncejfhmachapaaWMore
namespace Go.Proofs.Ytncejfhmachapaa.QFnCalendars
open Go.RowKit Go.Proofs.YtncejfhmachapaaW.PrintWords Go.Proofs.YtncejfhmachapaaW.PrintLast Go.Proofs.YtncejfhmachapaaW.PrintMore
attribute [local go_sem] max2_int min2_int max_two min_two max_three min_three max_four min_four   -- for this text's walks alone
set_option linter.unusedVariables false
set_option linter.unusedSimpArgs false



def errW : Option Int → Value
  | none => .nilIface
  | some c => .iface 0 (.int .i64 c)
theorem errW_none : errW none = .nilIface := rfl
theorem errW_some (c : Int) : errW (some c) = .iface 0 (.int .i64 c) := rfl

theorem info2 : (Try.prog.info? 2).map (fun i => (i.zero, i.size, i.bytes)) = some (some (.int .i64 0), 1, 8) := by kernel_rfl
-- the values' own types

end Go.Proofs.Ytncejfhmachapaa.QFnCalendars
