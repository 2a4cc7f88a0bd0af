/- FixedRises: Exp rises, and is never below 0; no condition beyond the row's. -/
import Derived.Test.YtfneknniikacpaaFix
namespace Go.Proofs.Ytfneknniikacpaa.Pure
set_option linter.unusedVariables false
set_option linter.unusedSimpArgs false
open Go.RowKit Go.Proofs.Ytfneknniikacpaa.PA Go.Proofs.YtfneknniikacpaaW.PrintWords Go.Proofs.Ytfneknniikacpaa.Base Go.Proofs.Ytfneknniikacpaa.Fix

theorem FixedRises : garboardlaw07_FixedRises.Pure := by
  intro a b _ _
  refine Ev.rounds ?_
  simp only [garboardlaw07_FixedRises.f, exp_f, Option.bind_some]
  refine ev_ifT (exp_nonneg a) (ev_ifT (exp_nonneg b) ?_)
  by_cases h : a > b
  · exact ev_ifT h (Ev.bind alive_ev (Ev.now true))
  · exact ev_ifF h (ev_ifT (exp_mono (by omega)) (Ev.bind alive_ev (Ev.now true)))

end Go.Proofs.Ytfneknniikacpaa.Pure
