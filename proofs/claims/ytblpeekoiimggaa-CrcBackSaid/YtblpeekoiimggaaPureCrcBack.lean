/- CrcBack: what is sealed is opened; no condition beyond the row's. -/
import Derived.Test.YtblpeekoiimggaaCrc
import Derived.Test.YtblpeekoiimggaaPAx12
namespace Go.Proofs.Ytblpeekoiimggaa.Pure
set_option linter.unusedVariables false
set_option linter.unusedSimpArgs false
open Go.RowKit Go.Proofs.Ytblpeekoiimggaa.PA Go.Proofs.YtblpeekoiimggaaW.PrintWords Go.Proofs.YtblpeekoiimggaaW.PrintMore Go.Proofs.Ytblpeekoiimggaa.Base Go.Proofs.Ytblpeekoiimggaa.Crc

theorem CrcBack : garboardlaw03_CrcBack.Pure := by
  intro l _ _ _
  refine Ev.rounds ?_
  simp only [garboardlaw03_CrcBack.f, garboardlaw03_long.f, alive_all, Option.bind_some]
  by_cases h : (l.length : Int) > 1000
  · exact ev_ifT (decide_eq_true h) (Ev.now _)
  refine ev_ifF (by simpa using h) ?_
  refine Ev.bind (seal_ev l (by omega)) ?_
  refine Ev.bind (open_ev (sealV l) (by rw [seal_len]; omega)) ?_
  rw [open_seal]
  refine ev_ifT (by trivial) (ev_ifT (by trivial) ?_)
  refine Ev.bind (seal_ev l (by omega)) ?_
  refine ev_ifT ?_ (Ev.now _)
  rw [w64 (by omega) (by omega), seal_len]; omega
end Go.Proofs.Ytblpeekoiimggaa.Pure
