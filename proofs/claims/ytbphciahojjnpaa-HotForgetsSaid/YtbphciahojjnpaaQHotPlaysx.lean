/- The functions that the law reaches, and that the Go text comes to their answers (lines first written by print.sh, turned by a program of ours). -/
import Derived.Test.YtbphciahojjnpaaQHotPlaysx0
import Derived.Test.YtbphciahojjnpaaQHotPlaysx1
import Derived.Test.YtbphciahojjnpaaQHotPlaysx2
namespace Go.Proofs.Ytbphciahojjnpaa.QHotPlays
open Go.RowKit Go.Proofs.YtbphciahojjnpaaW.PrintWords Go.Proofs.YtbphciahojjnpaaW.PrintLast Go.Proofs.YtbphciahojjnpaaW.PrintMore
attribute [local go_sem] max2_int min2_int max_two min_two max_three min_three max_four min_four   -- for this text's walks alone
set_option linter.unusedVariables false
set_option linter.unusedSimpArgs false

end Go.Proofs.Ytbphciahojjnpaa.QHotPlays
