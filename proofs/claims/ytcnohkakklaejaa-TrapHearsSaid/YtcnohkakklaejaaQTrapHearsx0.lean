/- The functions that the law reaches, and that the Go text comes to their answers (lines first written by print.sh, turned by a program of ours). -/
import Derived.Test.YtcnohkakklaejaaProg
import Derived.Below
import Derived.Deep.Draws
import Derived.Deep.AppendLies
import Derived.Maps.AppendAt
import Derived.OwnWalk
import Derived.Laws.BytesArg
import Derived.Laws.MakeOwn
import Derived.Laws.OwnMore
import Derived.Deep.OwnRows
import Derived.Tactics
import Derived.Lib.ConvBytes
import Derived.Laws.Slices
import Derived.WalkKit
import Derived.KernelRfl
import Derived.RowKit3
import Derived.Deep.LoopGhost
import Derived.Deep.QuietTactic
import Derived.BigQuiet
import Derived.WideLaws
import Derived.Deep.DeepCutAuto
import Derived.Deep.CutBlock
import Derived.Deep.RegionHeld3
import Derived.Laws.Rows
import Derived.Lib.AppendStr
import Derived.ArgAppend
import Derived.Laws.IdiomCopy
import Derived.OrdersHeld
import Derived.Laws.BitsLemmas
import Derived.RowKit
import Derived.Test.YtcnohkakklaejaaWWords
import Derived.Test.YtcnohkakklaejaaWLast
import Derived.Test.YtcnohkakklaejaaWTab
import Derived.Test.YtcnohkakklaejaaWFour
import Derived.Test.YtcnohkakklaejaaWQPut
import Derived.Test.YtcnohkakklaejaaWApart
import Derived.Test.YtcnohkakklaejaaWArr
import Derived.Test.YtcnohkakklaejaaWZeros
import Derived.Test.YtcnohkakklaejaaWFoot
import Derived.Test.YtcnohkakklaejaaWKept
import Derived.Test.YtcnohkakklaejaaWShare
import Derived.Test.YtcnohkakklaejaaWN
import Derived.Test.YtcnohkakklaejaaWFootNe
import Derived.Test.YtcnohkakklaejaaWAt
import Derived.Test.YtcnohkakklaejaaWEqStruct
import Derived.Test.YtcnohkakklaejaaWRepsOne
import Derived.Test.YtcnohkakklaejaaWInv
import Derived.Test.YtcnohkakklaejaaWInvWords
import Derived.Test.YtcnohkakklaejaaWGuard
import Derived.Test.YtcnohkakklaejaaWNEv
import Derived.Test.YtcnohkakklaejaaWMore
namespace Go.Proofs.Ytcnohkakklaejaa.QTrapHears
open Go.RowKit Go.Proofs.YtcnohkakklaejaaW.PrintWords Go.Proofs.YtcnohkakklaejaaW.PrintLast Go.Proofs.YtcnohkakklaejaaW.PrintMore
attribute [local go_sem] max2_int min2_int max_two min_two max_three min_three max_four min_four   -- for this text's walks alone
set_option linter.unusedVariables false
set_option linter.unusedSimpArgs false



def errW : Option Int → Value
  | none => .nilIface
  | some c => .iface 0 (.int .i64 c)
theorem errW_none : errW none = .nilIface := rfl
theorem errW_some (c : Int) : errW (some c) = .iface 0 (.int .i64 c) := rfl

theorem info3 : (Try.prog.info? 3).map (fun i => (i.zero, i.size, i.bytes)) = some (some (.int .i64 0), 1, 8) := by kernel_rfl
theorem info9 : (Try.prog.info? 9).map (fun i => (i.zero, i.size, i.bytes)) = some (some (.string ⟨#[]⟩), 1, 16) := by kernel_rfl
theorem info22 : (Try.prog.info? 22).map (fun i => (i.zero, i.size, i.bytes)) = some (some (.int .u32 0), 1, 4) := by kernel_rfl
-- the values' own types

end Go.Proofs.Ytcnohkakklaejaa.QTrapHears
