/- CrcSeals: any bytes sealed, and any bytes opened, are the document's; no condition beyond the row's. -/
import Derived.Test.YtblpeekoiimggaaCrcRef
import Derived.Test.YtblpeekoiimggaaPAx11
namespace Go.Proofs.Ytblpeekoiimggaa.Pure
set_option linter.unusedVariables false
set_option linter.unusedSimpArgs false
open Go.RowKit Go.Proofs.Ytblpeekoiimggaa.PA Go.Proofs.YtblpeekoiimggaaW.PrintWords Go.Proofs.YtblpeekoiimggaaW.PrintMore Go.Proofs.Ytblpeekoiimggaa.Base Go.Proofs.Ytblpeekoiimggaa.Crc

theorem CrcSeals : garboardlaw03_CrcSeals.Pure := by
  intro l _ _ hw
  have hb := bytes_of_wf hw
  refine Ev.rounds ?_
  simp only [garboardlaw03_CrcSeals.f, garboardlaw03_long.f, alive_all, Option.bind_some]
  by_cases h : (l.length : Int) > 1000
  · exact ev_ifT (decide_eq_true h) (Ev.now _)
  refine ev_ifF (by simpa using h) ?_
  refine Ev.bind (open_ev l (by omega)) (Ev.bind (ropen_ev l (by omega) hb) (Ev.bind (seal_ev l (by omega)) (Ev.bind (rseal_ev l (by omega) hb) ?_)))
  exact ev_ifT (by trivial) (ev_ifT (by trivial) (ev_ifT (by trivial) (Ev.now _)))
end Go.Proofs.Ytblpeekoiimggaa.Pure
