/- VarintGets: the number that any bytes begin with is the document's, or refused; no condition beyond the row's. -/
import Derived.Test.YthpdologbfigcaaVar
namespace Go.Proofs.Ythpdologbfigcaa.Pure
set_option linter.unusedVariables false
set_option linter.unusedSimpArgs false
open Go.RowKit Go.Proofs.Ythpdologbfigcaa.PA Go.Proofs.YthpdologbfigcaaW.PrintWords Go.Proofs.Ythpdologbfigcaa.Base Go.Proofs.Ythpdologbfigcaa.Var

theorem VarintGets : garboardlaw02_VarintGets.Pure := by
  intro l _ _ hw
  have hb := bytes_of_wf hw
  refine Ev.rounds ?_
  simp only [garboardlaw02_VarintGets.f, garboardlaw02_long.f, Option.bind_some]
  by_cases h : (l.length : Int) > 3000
  · refine ev_ifT (by simpa using h) (Ev.bind alive_ev (Ev.now true))
  · refine ev_ifF (by simpa using h) ?_
    refine Ev.bind (get_ev l (by omega) hb) ?_
    refine Ev.bind (rget_ev l (by omega) hb) ?_
    exact ev_ifT (by trivial) (ev_ifT (by trivial) (ev_ifT (by trivial) (Ev.bind alive_ev (Ev.now true))))

end Go.Proofs.Ythpdologbfigcaa.Pure
