/- The document's Quantile where it answers; the walk. -/
import Derived.Test.YtmhhklmfnhgbbaaHistDoc4
import Derived.Test.YtmhhklmfnhgbbaaHistCeil
namespace Go.Proofs.Ytmhhklmfnhgbbaa.Hst
set_option linter.unusedVariables false
set_option linter.unusedSimpArgs false
open Go.RowKit Go.Proofs.Ytmhhklmfnhgbbaa.PA Go.Proofs.YtmhhklmfnhgbbaaW.PrintWords Go.Proofs.YtmhhklmfnhgbbaaW.PrintLast Go.Proofs.YtmhhklmfnhgbbaaW.PrintMore
attribute [local go_sem] max2_int min2_int max_two min_two max_three min_three max_four min_four
theorem wu {x : Int} (h0 : 0 ≤ x) (h1 : x < 18446744073709551616) : IntKind.u64.wrap x = x := by rw [IntKind.wrap_u64, Int.emod_eq_of_lt h0 h1]
/-- what is needed, both ways the document reckons it -/
theorem need_is {s part whole left : Int} (p0 : 0 ≤ part) (p2 : 1 ≤ whole) (s0 : 0 ≤ s) (ht : s * part ≤ 1309965024975000000) (hl : mx ((s * part + whole - 1) / whole) 1 = left) :
    (((IntKind.u64.wrap (s * part)).tmod whole != 0) = true ∧ max (IntKind.u64.wrap (IntKind.u64.wrap ((IntKind.u64.wrap (s * part)).tdiv whole) + 1)) 1 = left) ∨ (((IntKind.u64.wrap (s * part)).tmod whole != 0) = false ∧ max (IntKind.u64.wrap ((IntKind.u64.wrap (s * part)).tdiv whole)) 1 = left) := by
  have t0 : 0 ≤ s * part := Int.mul_nonneg s0 p0
  obtain ⟨t, e⟩ : ∃ t, s * part = t := ⟨_, rfl⟩
  rw [e] at t0 ht hl ⊢
  rw [wu t0 (by omega), Int.tmod_eq_emod_of_nonneg t0, Int.tdiv_eq_ediv_of_nonneg t0]
  have d0 : 0 ≤ t / whole := Int.ediv_nonneg t0 (by omega)
  have d1 : t / whole ≤ t := Int.ediv_le_self _ t0
  rw [wu d0 (by omega), wu (by omega : 0 ≤ t / whole + 1) (by omega)]
  rw [ceil_is t0 p2] at hl
  unfold mx at hl
  by_cases h : t % whole = 0
  · rw [if_pos h] at hl
    exact .inr ⟨by simp [h], by rw [← hl]; split <;> omega⟩
  · rw [if_neg h] at hl
    exact .inl ⟨by simp [h], by rw [← hl]; split <;> omega⟩
end Go.Proofs.Ytmhhklmfnhgbbaa.Hst
