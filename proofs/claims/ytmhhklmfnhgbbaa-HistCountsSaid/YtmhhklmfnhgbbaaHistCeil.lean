/- Plain: the two ways of rounding up agree. -/
import Derived.Test.YtmhhklmfnhgbbaaHistDoc3
namespace Go.Proofs.Ytmhhklmfnhgbbaa.Hst
set_option linter.unusedVariables false
theorem ceil_is {t w : Int} (h0 : 0 ≤ t) (hw : 1 ≤ w) : (t + w - 1) / w = t / w + if t % w = 0 then 0 else 1 := by
  have e := Int.mul_ediv_add_emod t w
  have m0 := Int.emod_nonneg t (show w ≠ 0 by omega)
  have m1 := Int.emod_lt_of_pos t (show 0 < w by omega)
  have e2 : t + w - 1 = (t % w + w - 1) + w * (t / w) := by omega
  rw [e2, Int.add_mul_ediv_left _ _ (show w ≠ 0 by omega)]
  split
  · rename_i h
    rw [h, Int.ediv_eq_zero_of_lt (by omega) (by omega)]; omega
  · rename_i h
    have : t % w + w - 1 = (t % w - 1) + w * 1 := by omega
    rw [this, Int.add_mul_ediv_left _ _ (show w ≠ 0 by omega), Int.ediv_eq_zero_of_lt (by omega) (by omega)]; omega
end Go.Proofs.Ytmhhklmfnhgbbaa.Hst
