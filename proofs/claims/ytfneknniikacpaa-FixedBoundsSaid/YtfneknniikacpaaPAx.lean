-- written by myprint.py, a program of this session, over the kit's print.py
import Derived.Test.YtfneknniikacpaaPAx0
import Derived.Test.YtfneknniikacpaaPAx1
import Derived.Test.YtfneknniikacpaaPAx2
import Derived.Test.YtfneknniikacpaaPAx3
namespace Go.Proofs.Ytfneknniikacpaa.PA
open Go.RowKit Go.Proofs.YtfneknniikacpaaW.PrintWords Go.Proofs.YtfneknniikacpaaW.PrintLast Go.Proofs.YtfneknniikacpaaW.PrintMore
attribute [local go_sem] max2_int min2_int max_two min_two max_three min_three max_four min_four   -- for this text's walks alone
set_option linter.unusedVariables false
set_option linter.unusedSimpArgs false

end Go.Proofs.Ytfneknniikacpaa.PA
