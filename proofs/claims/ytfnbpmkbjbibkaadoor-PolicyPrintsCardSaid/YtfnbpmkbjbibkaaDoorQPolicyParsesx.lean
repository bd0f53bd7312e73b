/- The functions that the law reaches, and that the Go text comes to their answers (lines first written by print.sh, turned by a program of ours). -/
import Derived.Test.YtfnbpmkbjbibkaaDoorQPolicyParsesx0
import Derived.Test.YtfnbpmkbjbibkaaDoorQPolicyParsesx1
import Derived.Test.YtfnbpmkbjbibkaaDoorQPolicyParsesx2
import Derived.Test.YtfnbpmkbjbibkaaDoorQPolicyParsesx3
import Derived.Test.YtfnbpmkbjbibkaaDoorQPolicyParsesx4
namespace Go.Proofs.YtfnbpmkbjbibkaaDoor.QPolicyParses
open Go.RowKit Go.Proofs.YtfnbpmkbjbibkaaDoorW.PrintWords Go.Proofs.YtfnbpmkbjbibkaaDoorW.PrintLast Go.Proofs.YtfnbpmkbjbibkaaDoorW.PrintMore
attribute [local go_sem] max2_int min2_int max_two min_two max_three min_three max_four min_four   -- for this text's walks alone
set_option linter.unusedVariables false
set_option linter.unusedSimpArgs false

end Go.Proofs.YtfnbpmkbjbibkaaDoor.QPolicyParses
