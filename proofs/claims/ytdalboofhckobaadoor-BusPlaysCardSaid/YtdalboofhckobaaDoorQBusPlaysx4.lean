/- The functions that the law reaches, and that the Go text comes to their answers (lines first written by print.sh, turned by a program of ours). -/
import Derived.Test.YtdalboofhckobaaDoorQBusPlaysx0
import Derived.Test.YtdalboofhckobaaDoorQBusPlaysx1
import Derived.Test.YtdalboofhckobaaDoorQBusPlaysx2
import Derived.Test.YtdalboofhckobaaDoorQBusPlaysx3
namespace Go.Proofs.YtdalboofhckobaaDoor.QBusPlays
open Go.RowKit Go.Proofs.YtdalboofhckobaaDoorW.PrintWords Go.Proofs.YtdalboofhckobaaDoorW.PrintLast Go.Proofs.YtdalboofhckobaaDoorW.PrintMore
attribute [local go_sem] max2_int min2_int max_two min_two max_three min_three max_four min_four   -- for this text's walks alone
set_option linter.unusedVariables false
set_option linter.unusedSimpArgs false

-- NOT PRINTED: function 78 (fifo_Fifo_Push)

-- NOT PRINTED: function 51 (console_Console_Up)


end Go.Proofs.YtdalboofhckobaaDoor.QBusPlays
