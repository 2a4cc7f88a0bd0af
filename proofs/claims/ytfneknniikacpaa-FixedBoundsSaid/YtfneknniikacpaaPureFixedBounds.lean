/- FixedBounds: any number within the bounds, as a whole one, and its whole part, is the document's; no condition beyond the row's. -/
import Derived.Test.YtfneknniikacpaaFix
import Derived.Test.YtfneknniikacpaaSatMul
namespace Go.Proofs.Ytfneknniikacpaa.Pure
set_option linter.unusedVariables false
set_option linter.unusedSimpArgs false
open Go.RowKit Go.Proofs.Ytfneknniikacpaa.PA Go.Proofs.YtfneknniikacpaaW.PrintWords Go.Proofs.Ytfneknniikacpaa.Base Go.Proofs.Ytfneknniikacpaa.Fix Go.Proofs.Ytfneknniikacpaa.SatMul

theorem FixedBounds : garboardlaw07_FixedBounds.Pure := by
  intro a hw
  have ha := wf_i64 hw
  have hb := wi_bd a
  refine Ev.rounds ?_
  have hf : fixed_FromInt.f a = some (wi (cl (a * 65536))) := by
    simp only [fixed_FromInt.f, SatMul.mul_f a 65536 ha (by unfold I64; omega), within_f, Option.bind_some]
  have hr : garboardref07_FromInt.f a = some (wi (cl (a * 65536))) := by
    simp only [garboardref07_FromInt.f, rwithin_f, Option.bind_some]
    by_cases h : a > 65536
    · rw [if_pos h]
      congr 1
      unfold cl wi; (repeat' split) <;> omega
    · rw [if_neg h]
      by_cases h2 : a < -65536
      · rw [if_pos h2]
        congr 1
        unfold cl wi; (repeat' split) <;> omega
      · rw [if_neg h2, w64 (by omega) (by omega), cl_id (by omega) (by omega)]
  have hg : fixed_Floor.f a = some (wi a / 65536) := by simp only [fixed_Floor.f, within_f, Option.bind_some]
  have hh : garboardref07_Floor.f a = some (wi a / 65536) := by
    simp only [garboardref07_Floor.f, rwithin_f, Option.bind_some]
    rw [by_f _ _ (by omega) (by omega) (by omega)]
    simp only [Option.bind_some]
  simp only [garboardlaw07_FixedBounds.f, within_f, rwithin_f, hf, hr, hg, hh, Option.bind_some]
  exact ev_ifT (by trivial) (ev_ifT (by trivial) (ev_ifT (by trivial) (Ev.bind alive_ev (Ev.now true))))

end Go.Proofs.Ytfneknniikacpaa.Pure
