-- PRINTED BY print.sh 35421559b90ae4d0a3588c463048766b98c2df88dd9212a6774a882060cdf62d: not written by this session
import Derived.Test.YtdcgnmekfkjlhaaProg
import Derived.Below
import Derived.Deep.Draws
import Derived.Deep.AppendLies
import Derived.Maps.AppendAt
import Derived.OwnWalk
import Derived.Laws.BytesArg
import Derived.Laws.MakeOwn
import Derived.Laws.OwnMore
import Derived.Deep.OwnRows
import Derived.Tactics
import Derived.Lib.ConvBytes
import Derived.Laws.Slices
import Derived.WalkKit
import Derived.KernelRfl
import Derived.RowKit3
import Derived.Deep.LoopGhost
import Derived.Deep.QuietTactic
import Derived.BigQuiet
import Derived.WideLaws
import Derived.Deep.DeepCutAuto
import Derived.Deep.CutBlock
import Derived.Deep.RegionHeld3
import Derived.Laws.Rows
import Derived.Lib.AppendStr
import Derived.ArgAppend
import Derived.Laws.IdiomCopy
import Derived.OrdersHeld
import Derived.Laws.BitsLemmas
import Derived.RowKit
import Derived.Test.YtdcgnmekfkjlhaaWWords
import Derived.Test.YtdcgnmekfkjlhaaWLast
import Derived.Test.YtdcgnmekfkjlhaaWTab
import Derived.Test.YtdcgnmekfkjlhaaWFour
import Derived.Test.YtdcgnmekfkjlhaaWQPut
import Derived.Test.YtdcgnmekfkjlhaaWApart
import Derived.Test.YtdcgnmekfkjlhaaWArr
import Derived.Test.YtdcgnmekfkjlhaaWZeros
import Derived.Test.YtdcgnmekfkjlhaaWFoot
import Derived.Test.YtdcgnmekfkjlhaaWKept
import Derived.Test.YtdcgnmekfkjlhaaWShare
import Derived.Test.YtdcgnmekfkjlhaaWN
import Derived.Test.YtdcgnmekfkjlhaaWFootNe
import Derived.Test.YtdcgnmekfkjlhaaWAt
import Derived.Test.YtdcgnmekfkjlhaaWEqStruct
import Derived.Test.YtdcgnmekfkjlhaaWRepsOne
import Derived.Test.YtdcgnmekfkjlhaaWInv
import Derived.Test.YtdcgnmekfkjlhaaWInvWords
import Derived.Test.YtdcgnmekfkjlhaaWGuard
import Derived.Test.YtdcgnmekfkjlhaaWNEv
import Derived.Test.YtdcgnmekfkjlhaaWMore
namespace Go.Proofs.Ytdcgnmekfkjlhaa.PTimerWrites
open Go.RowKit Go.Proofs.YtdcgnmekfkjlhaaW.PrintWords Go.Proofs.YtdcgnmekfkjlhaaW.PrintLast Go.Proofs.YtdcgnmekfkjlhaaW.PrintMore
attribute [local go_sem] max2_int min2_int max_two min_two max_three min_three max_four min_four   -- for this text's walks alone
set_option linter.unusedVariables false
set_option linter.unusedSimpArgs false



def errW : Option Int → Value
  | none => .nilIface
  | some c => .iface 0 (.int .i64 c)
theorem errW_none : errW none = .nilIface := rfl
theorem errW_some (c : Int) : errW (some c) = .iface 0 (.int .i64 c) := rfl

-- the values' own types

end Go.Proofs.Ytdcgnmekfkjlhaa.PTimerWrites
