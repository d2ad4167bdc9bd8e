-- PRINTED BY print.sh 35421559b90ae4d0a3588c463048766b98c2df88dd9212a6774a882060cdf62d: not written by this session
import Derived.Test.YtjobjielgiojhaaProg
import Derived.Below
import Derived.Deep.Draws
import Derived.Deep.AppendLies
import Derived.Maps.AppendAt
import Derived.OwnWalk
import Derived.Laws.BytesArg
import Derived.Laws.MakeOwn
import Derived.Laws.OwnMore
import Derived.Deep.OwnRows
import Derived.Tactics
import Derived.Lib.ConvBytes
import Derived.Laws.Slices
import Derived.WalkKit
import Derived.KernelRfl
import Derived.RowKit3
import Derived.Deep.LoopGhost
import Derived.Deep.QuietTactic
import Derived.BigQuiet
import Derived.WideLaws
import Derived.Deep.DeepCutAuto
import Derived.Deep.CutBlock
import Derived.Deep.RegionHeld3
import Derived.Laws.Rows
import Derived.Lib.AppendStr
import Derived.ArgAppend
import Derived.Laws.IdiomCopy
import Derived.OrdersHeld
import Derived.Laws.BitsLemmas
import Derived.RowKit
import Derived.Test.YtjobjielgiojhaaWWords
import Derived.Test.YtjobjielgiojhaaWLast
import Derived.Test.YtjobjielgiojhaaWTab
import Derived.Test.YtjobjielgiojhaaWFour
import Derived.Test.YtjobjielgiojhaaWQPut
import Derived.Test.YtjobjielgiojhaaWApart
import Derived.Test.YtjobjielgiojhaaWArr
import Derived.Test.YtjobjielgiojhaaWZeros
import Derived.Test.YtjobjielgiojhaaWFoot
import Derived.Test.YtjobjielgiojhaaWKept
import Derived.Test.YtjobjielgiojhaaWShare
import Derived.Test.YtjobjielgiojhaaWN
import Derived.Test.YtjobjielgiojhaaWFootNe
import Derived.Test.YtjobjielgiojhaaWAt
import Derived.Test.YtjobjielgiojhaaWEqStruct
import Derived.Test.YtjobjielgiojhaaWRepsOne
import Derived.Test.YtjobjielgiojhaaWInv
import Derived.Test.YtjobjielgiojhaaWInvWords
import Derived.Test.YtjobjielgiojhaaWGuard
import Derived.Test.YtjobjielgiojhaaWNEv
import Derived.Test.YtjobjielgiojhaaWMore
namespace Go.Proofs.Ytjobjielgiojhaa.PFnExactConstants
open Go.RowKit Go.Proofs.YtjobjielgiojhaaW.PrintWords Go.Proofs.YtjobjielgiojhaaW.PrintLast Go.Proofs.YtjobjielgiojhaaW.PrintMore
attribute [local go_sem] max2_int min2_int max_two min_two max_three min_three max_four min_four   -- for this text's walks alone
set_option linter.unusedVariables false
set_option linter.unusedSimpArgs false



def errW : Option Int → Value
  | none => .nilIface
  | some c => .iface 0 (.int .i64 c)
theorem errW_none : errW none = .nilIface := rfl
theorem errW_some (c : Int) : errW (some c) = .iface 0 (.int .i64 c) := rfl

-- the values' own types

end Go.Proofs.Ytjobjielgiojhaa.PFnExactConstants
