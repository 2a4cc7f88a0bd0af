/- CrcTurns: any bytes with any bits of a burst turned are the document's; no condition beyond the row's. -/
import Derived.Test.YtblpeekoiimggaaCrcTurn
import Derived.Test.YtblpeekoiimggaaPAx15
namespace Go.Proofs.Ytblpeekoiimggaa.Pure
set_option linter.unusedVariables false
set_option linter.unusedSimpArgs false
open Go.RowKit Go.Proofs.Ytblpeekoiimggaa.PA Go.Proofs.YtblpeekoiimggaaW.PrintWords Go.Proofs.YtblpeekoiimggaaW.PrintMore Go.Proofs.Ytblpeekoiimggaa.Base Go.Proofs.Ytblpeekoiimggaa.Crc

theorem CrcTurns : garboardlaw03_CrcTurns.Pure := by
  intro l at_ mask _ _ hw ha hm
  have hb := bytes_of_wf hw
  have ha' := wf_i64 ha
  have hm' := wf_u32 hm
  obtain ⟨m, rfl⟩ := I_of hm'.1 (by omega)
  refine Ev.rounds ?_
  simp only [garboardlaw03_CrcTurns.f, garboardlaw03_long.f, alive_all, Option.bind_some]
  by_cases h : (l.length : Int) > 1000
  · exact ev_ifT (decide_eq_true h) (Ev.now _)
  refine ev_ifF (by simpa using h) ?_
  refine Ev.bind (burst_ev l at_ m (by omega) hb ha') (Ev.bind (rburst_ev l at_ m (by omega)) ?_)
  exact ev_ifT (by trivial) (Ev.now _)
end Go.Proofs.Ytblpeekoiimggaa.Pure
