/- FixedExps: e to the power of any number is the document's; no condition beyond the row's. -/
import Derived.Test.YtfneknniikacpaaFix
namespace Go.Proofs.Ytfneknniikacpaa.Pure
set_option linter.unusedVariables false
set_option linter.unusedSimpArgs false
open Go.RowKit Go.Proofs.Ytfneknniikacpaa.PA Go.Proofs.YtfneknniikacpaaW.PrintWords Go.Proofs.Ytfneknniikacpaa.Base Go.Proofs.Ytfneknniikacpaa.Fix

theorem FixedExps : garboardlaw07_FixedExps.Pure := by
  intro a _
  refine Ev.rounds ?_
  simp only [garboardlaw07_FixedExps.f, exp_f, Option.bind_some]
  exact Ev.bind (rexp_ev a) (ev_ifT (by trivial) (Ev.bind alive_ev (Ev.now true)))

end Go.Proofs.Ytfneknniikacpaa.Pure
