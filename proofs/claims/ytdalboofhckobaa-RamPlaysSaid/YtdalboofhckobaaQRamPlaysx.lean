/- The functions that the law reaches, and that the Go text comes to their answers (lines first written by print.sh, turned by a program of ours). -/
import Derived.Test.YtdalboofhckobaaQRamPlaysx0
import Derived.Test.YtdalboofhckobaaQRamPlaysx1
import Derived.Test.YtdalboofhckobaaQRamPlaysx2
import Derived.Test.YtdalboofhckobaaQRamPlaysx3
namespace Go.Proofs.Ytdalboofhckobaa.QRamPlays
open Go.RowKit Go.Proofs.YtdalboofhckobaaW.PrintWords Go.Proofs.YtdalboofhckobaaW.PrintLast Go.Proofs.YtdalboofhckobaaW.PrintMore
attribute [local go_sem] max2_int min2_int max_two min_two max_three min_three max_four min_four   -- for this text's walks alone
set_option linter.unusedVariables false
set_option linter.unusedSimpArgs false

end Go.Proofs.Ytdalboofhckobaa.QRamPlays
