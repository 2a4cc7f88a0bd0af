/- FixedTurned: sums and products may be turned about; by One nothing is turned; no condition beyond the row's. -/
import Derived.Test.YtfneknniikacpaaFix
namespace Go.Proofs.Ytfneknniikacpaa.Pure
set_option linter.unusedVariables false
set_option linter.unusedSimpArgs false
open Go.RowKit Go.Proofs.Ytfneknniikacpaa.PA Go.Proofs.YtfneknniikacpaaW.PrintWords Go.Proofs.Ytfneknniikacpaa.Base Go.Proofs.Ytfneknniikacpaa.Fix

theorem FixedTurned : garboardlaw07_FixedTurned.Pure := by
  intro a b _ _
  have ha := wi_bd a
  refine Ev.rounds ?_
  simp only [garboardlaw07_FixedTurned.f, within_f, add_f, mul_f, div_f, Option.bind_some]
  have o : wi 65536 = 65536 := by decide
  have z : wi 0 = 0 := by decide
  refine ev_ifT (by unfold addI; rw [Int.add_comm]) (ev_ifT (by unfold mulI; rw [Int.mul_comm]) (ev_ifT ?_ (ev_ifT ?_ (ev_ifT ?_ (Ev.bind alive_ev (Ev.now true))))))
  · unfold mulI; rw [o, Int.mul_ediv_cancel _ (by decide)]; exact wi_id ha.1 ha.2
  · unfold divI; rw [o, if_neg (by decide), if_pos (by decide), Int.mul_ediv_cancel _ (by decide)]; exact wi_id ha.1 ha.2
  · unfold addI; rw [z, Int.add_zero]; exact wi_id ha.1 ha.2

end Go.Proofs.Ytfneknniikacpaa.Pure
