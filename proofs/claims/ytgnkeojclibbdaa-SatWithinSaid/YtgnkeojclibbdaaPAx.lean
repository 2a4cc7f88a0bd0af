-- written by myprint.py, a program of this session, over the kit's print.py
import Derived.Test.YtgnkeojclibbdaaPAx0
import Derived.Test.YtgnkeojclibbdaaPAx1
import Derived.Test.YtgnkeojclibbdaaPAx2
import Derived.Test.YtgnkeojclibbdaaPAx3
namespace Go.Proofs.Ytgnkeojclibbdaa.PA
open Go.RowKit Go.Proofs.YtgnkeojclibbdaaW.PrintWords Go.Proofs.YtgnkeojclibbdaaW.PrintLast Go.Proofs.YtgnkeojclibbdaaW.PrintMore
attribute [local go_sem] max2_int min2_int max_two min_two max_three min_three max_four min_four   -- for this text's walks alone
set_option linter.unusedVariables false
set_option linter.unusedSimpArgs false

end Go.Proofs.Ytgnkeojclibbdaa.PA
