-- written by myprint.py, a program of this session, over the kit's print.py
import Derived.Test.YtdojihocnkakjaaPAx0
import Derived.Test.YtdojihocnkakjaaPAx1
namespace Go.Proofs.Ytdojihocnkakjaa.PA
open Go.RowKit Go.Proofs.YtdojihocnkakjaaW.PrintWords Go.Proofs.YtdojihocnkakjaaW.PrintLast Go.Proofs.YtdojihocnkakjaaW.PrintMore
attribute [local go_sem] max2_int min2_int max_two min_two max_three min_three max_four min_four   -- for this text's walks alone
set_option linter.unusedVariables false
set_option linter.unusedSimpArgs false

end Go.Proofs.Ytdojihocnkakjaa.PA
