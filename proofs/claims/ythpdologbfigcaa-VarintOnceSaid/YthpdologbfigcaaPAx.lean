-- written by myprint.py, a program of this session, over the kit's print.py
import Derived.Test.YthpdologbfigcaaPAx0
import Derived.Test.YthpdologbfigcaaPAx1
import Derived.Test.YthpdologbfigcaaPAx2
import Derived.Test.YthpdologbfigcaaPAx3
import Derived.Test.YthpdologbfigcaaPAx4
import Derived.Test.YthpdologbfigcaaPAx5
import Derived.Test.YthpdologbfigcaaPAx6
import Derived.Test.YthpdologbfigcaaPAx7
namespace Go.Proofs.Ythpdologbfigcaa.PA
open Go.RowKit Go.Proofs.YthpdologbfigcaaW.PrintWords Go.Proofs.YthpdologbfigcaaW.PrintLast Go.Proofs.YthpdologbfigcaaW.PrintMore
attribute [local go_sem] max2_int min2_int max_two min_two max_three min_three max_four min_four   -- for this text's walks alone
set_option linter.unusedVariables false
set_option linter.unusedSimpArgs false

end Go.Proofs.Ythpdologbfigcaa.PA
