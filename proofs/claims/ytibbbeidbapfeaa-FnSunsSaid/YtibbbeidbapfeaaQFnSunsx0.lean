/- Walks of the Go functions that the law FnSuns reaches: written by a program of this session. -/
import Derived.Test.YtibbbeidbapfeaaProg
import Derived.Below
import Derived.Deep.Draws
import Derived.Deep.AppendLies
import Derived.Maps.AppendAt
import Derived.OwnWalk
import Derived.Laws.BytesArg
import Derived.Laws.MakeOwn
import Derived.Laws.OwnMore
import Derived.Deep.OwnRows
import Derived.Tactics
import Derived.Lib.ConvBytes
import Derived.Laws.Slices
import Derived.WalkKit
import Derived.KernelRfl
import Derived.RowKit3
import Derived.Deep.LoopGhost
import Derived.Deep.QuietTactic
import Derived.BigQuiet
import Derived.WideLaws
import Derived.Deep.DeepCutAuto
import Derived.Deep.CutBlock
import Derived.Deep.RegionHeld3
import Derived.Laws.Rows
import Derived.Lib.AppendStr
import Derived.ArgAppend
import Derived.Laws.IdiomCopy
import Derived.OrdersHeld
import Derived.Laws.BitsLemmas
import Derived.RowKit
import Derived.Test.YtibbbeidbapfeaaWWords
import Derived.Test.YtibbbeidbapfeaaWLast
import Derived.Test.YtibbbeidbapfeaaWTab
import Derived.Test.YtibbbeidbapfeaaWFour
import Derived.Test.YtibbbeidbapfeaaWQPut
import Derived.Test.YtibbbeidbapfeaaWApart
import Derived.Test.YtibbbeidbapfeaaWArr
import Derived.Test.YtibbbeidbapfeaaWZeros
import Derived.Test.YtibbbeidbapfeaaWFoot
import Derived.Test.YtibbbeidbapfeaaWKept
import Derived.Test.YtibbbeidbapfeaaWShare
import Derived.Test.YtibbbeidbapfeaaWN
import Derived.Test.YtibbbeidbapfeaaWFootNe
import Derived.Test.YtibbbeidbapfeaaWAt
import Derived.Test.YtibbbeidbapfeaaWEqStruct
import Derived.Test.YtibbbeidbapfeaaWRepsOne
import Derived.Test.YtibbbeidbapfeaaWInv
import Derived.Test.YtibbbeidbapfeaaWInvWords
import Derived.Test.YtibbbeidbapfeaaWGuard
import Derived.Test.YtibbbeidbapfeaaWNEv
import Derived.Test.YtibbbeidbapfeaaWMore
namespace Go.Proofs.Ytibbbeidbapfeaa.QFnSuns
open Go.RowKit Go.Proofs.YtibbbeidbapfeaaW.PrintWords Go.Proofs.YtibbbeidbapfeaaW.PrintLast Go.Proofs.YtibbbeidbapfeaaW.PrintMore
attribute [local go_sem] max2_int min2_int max_two min_two max_three min_three max_four min_four   -- for this text's walks alone
set_option linter.unusedVariables false
set_option linter.unusedSimpArgs false



def errW : Option Int → Value
  | none => .nilIface
  | some c => .iface 0 (.int .i64 c)
theorem errW_none : errW none = .nilIface := rfl
theorem errW_some (c : Int) : errW (some c) = .iface 0 (.int .i64 c) := rfl

-- the values' own types

end Go.Proofs.Ytibbbeidbapfeaa.QFnSuns
