/- The functions that the law reaches, and that the Go text comes to their answers (lines first written by print.sh, turned by a program of ours). -/
import Derived.Test.YtfnbpmkbjbibkaaQCpuSamex0
import Derived.Test.YtfnbpmkbjbibkaaQCpuSamex1
import Derived.Test.YtfnbpmkbjbibkaaQCpuSamex2
import Derived.Test.YtfnbpmkbjbibkaaQCpuSamex3
import Derived.Test.YtfnbpmkbjbibkaaQCpuSamex4
import Derived.Test.YtfnbpmkbjbibkaaQCpuSamex5
namespace Go.Proofs.Ytfnbpmkbjbibkaa.QCpuSame
open Go.RowKit Go.Proofs.YtfnbpmkbjbibkaaW.PrintWords Go.Proofs.YtfnbpmkbjbibkaaW.PrintLast Go.Proofs.YtfnbpmkbjbibkaaW.PrintMore
attribute [local go_sem] max2_int min2_int max_two min_two max_three min_three max_four min_four   -- for this text's walks alone
set_option linter.unusedVariables false
set_option linter.unusedSimpArgs false

end Go.Proofs.Ytfnbpmkbjbibkaa.QCpuSame
