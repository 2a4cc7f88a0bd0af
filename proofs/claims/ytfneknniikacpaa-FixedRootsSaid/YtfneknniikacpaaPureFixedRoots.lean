/- FixedRoots: the square root of any number is the document's, and is that: its square is not above, the next one's is; no condition beyond the row's. -/
import Derived.Test.YtfneknniikacpaaFix
namespace Go.Proofs.Ytfneknniikacpaa.Pure
set_option linter.unusedVariables false
set_option linter.unusedSimpArgs false
open Go.RowKit Go.Proofs.Ytfneknniikacpaa.PA Go.Proofs.YtfneknniikacpaaW.PrintWords Go.Proofs.Ytfneknniikacpaa.Base Go.Proofs.Ytfneknniikacpaa.Fix

theorem FixedRoots : garboardlaw07_FixedRoots.Pure := by
  intro a _
  have ha := wi_bd a
  refine Ev.rounds ?_
  obtain ⟨r, h1, h2, h0, h, hb⟩ := roots a
  simp only [garboardlaw07_FixedRoots.f, rwithin_f, Option.bind_some]
  refine Ev.bind h1 (Ev.bind h2 (ev_ifT (by trivial) (ev_ifF (by omega) ?_)))
  have e : wrap64 (65536 * wi a) = wi a * 65536 := by rw [Int.mul_comm]; exact w64 (by omega) (by omega)
  have er : wrap64 (r * r) = r * r := by
    have := mul_bd (m := 16777216) (n := 16777216) (show -16777216 ≤ r by omega) hb (show -16777216 ≤ r by omega) hb (by omega)
    exact w64 (by omega) (by omega)
  have es : wrap64 (wrap64 (r + 1) * wrap64 (r + 1)) = (r + 1) * (r + 1) := by
    have := mul_bd (m := 16777217) (n := 16777217) (show -16777217 ≤ r + 1 by omega) (by omega) (show -16777217 ≤ r + 1 by omega) (by omega) (by omega)
    rw [w64 (x := r + 1) (by omega) (by omega)]; exact w64 (by omega) (by omega)
  rw [e, er, es]
  rcases h with ⟨hn, hr⟩ | ⟨hn, g1, g2⟩
  · exact ev_ifT hn (ev_ifT hr (Ev.bind alive_ev (Ev.now true)))
  · exact ev_ifF (by omega) (ev_ifT hn (ev_ifT g1 (ev_ifT g2 (Ev.bind alive_ev (Ev.now true)))))

end Go.Proofs.Ytfneknniikacpaa.Pure
