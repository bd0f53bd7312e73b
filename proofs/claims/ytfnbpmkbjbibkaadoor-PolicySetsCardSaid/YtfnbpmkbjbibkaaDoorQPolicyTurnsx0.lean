/- The functions that the law reaches, and that the Go text comes to their answers (lines first written by print.sh, turned by a program of ours). -/
import Derived.Test.YtfnbpmkbjbibkaaDoorProg
import Derived.Below
import Derived.Deep.Draws
import Derived.Deep.AppendLies
import Derived.Maps.AppendAt
import Derived.OwnWalk
import Derived.Laws.BytesArg
import Derived.Laws.MakeOwn
import Derived.Laws.OwnMore
import Derived.Deep.OwnRows
import Derived.Tactics
import Derived.Lib.ConvBytes
import Derived.Laws.Slices
import Derived.WalkKit
import Derived.KernelRfl
import Derived.RowKit3
import Derived.Deep.LoopGhost
import Derived.Deep.QuietTactic
import Derived.BigQuiet
import Derived.WideLaws
import Derived.Deep.DeepCutAuto
import Derived.Deep.CutBlock
import Derived.Deep.RegionHeld3
import Derived.Laws.Rows
import Derived.Lib.AppendStr
import Derived.ArgAppend
import Derived.Laws.IdiomCopy
import Derived.OrdersHeld
import Derived.Laws.BitsLemmas
import Derived.RowKit
import Derived.Test.YtfnbpmkbjbibkaaDoorWWords
import Derived.Test.YtfnbpmkbjbibkaaDoorWLast
import Derived.Test.YtfnbpmkbjbibkaaDoorWTab
import Derived.Test.YtfnbpmkbjbibkaaDoorWFour
import Derived.Test.YtfnbpmkbjbibkaaDoorWQPut
import Derived.Test.YtfnbpmkbjbibkaaDoorWApart
import Derived.Test.YtfnbpmkbjbibkaaDoorWArr
import Derived.Test.YtfnbpmkbjbibkaaDoorWZeros
import Derived.Test.YtfnbpmkbjbibkaaDoorWFoot
import Derived.Test.YtfnbpmkbjbibkaaDoorWKept
import Derived.Test.YtfnbpmkbjbibkaaDoorWShare
import Derived.Test.YtfnbpmkbjbibkaaDoorWN
import Derived.Test.YtfnbpmkbjbibkaaDoorWFootNe
import Derived.Test.YtfnbpmkbjbibkaaDoorWAt
import Derived.Test.YtfnbpmkbjbibkaaDoorWEqStruct
import Derived.Test.YtfnbpmkbjbibkaaDoorWRepsOne
import Derived.Test.YtfnbpmkbjbibkaaDoorWInv
import Derived.Test.YtfnbpmkbjbibkaaDoorWInvWords
import Derived.Test.YtfnbpmkbjbibkaaDoorWGuard
import Derived.Test.YtfnbpmkbjbibkaaDoorWNEv
import Derived.Test.YtfnbpmkbjbibkaaDoorWMore
namespace Go.Proofs.YtfnbpmkbjbibkaaDoor.QPolicyTurns
open Go.RowKit Go.Proofs.YtfnbpmkbjbibkaaDoorW.PrintWords Go.Proofs.YtfnbpmkbjbibkaaDoorW.PrintLast Go.Proofs.YtfnbpmkbjbibkaaDoorW.PrintMore
attribute [local go_sem] max2_int min2_int max_two min_two max_three min_three max_four min_four   -- for this text's walks alone
set_option linter.unusedVariables false
set_option linter.unusedSimpArgs false



def errW : Option Int → Value
  | none => .nilIface
  | some c => .iface 0 (.int .i64 c)
theorem errW_none : errW none = .nilIface := rfl
theorem errW_some (c : Int) : errW (some c) = .iface 0 (.int .i64 c) := rfl

theorem info4 : (Tryd.prog.info? 4).map (fun i => (i.zero, i.size, i.bytes)) = some (some (.bool false), 1, 1) := by kernel_rfl
-- the values' own types

end Go.Proofs.YtfnbpmkbjbibkaaDoor.QPolicyTurns
