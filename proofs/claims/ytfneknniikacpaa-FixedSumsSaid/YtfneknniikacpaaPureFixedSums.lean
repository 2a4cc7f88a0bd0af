/- FixedSums: the sum, the product and the quotient of any two numbers are the document's; no condition beyond the row's. -/
import Derived.Test.YtfneknniikacpaaFix
namespace Go.Proofs.Ytfneknniikacpaa.Pure
set_option linter.unusedVariables false
set_option linter.unusedSimpArgs false
open Go.RowKit Go.Proofs.Ytfneknniikacpaa.PA Go.Proofs.YtfneknniikacpaaW.PrintWords Go.Proofs.Ytfneknniikacpaa.Base Go.Proofs.Ytfneknniikacpaa.Fix

theorem FixedSums : garboardlaw07_FixedSums.Pure := by
  intro a b _ _
  refine Ev.rounds ?_
  simp only [garboardlaw07_FixedSums.f, add_f, radd_f, mul_f, rmul_f, div_f, Option.bind_some]
  exact ev_ifT (by trivial) (ev_ifT (by trivial) (Ev.bind (rdiv_ev a b) (ev_ifT (by trivial) (Ev.bind alive_ev (Ev.now true)))))

end Go.Proofs.Ytfneknniikacpaa.Pure
