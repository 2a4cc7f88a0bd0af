/- Quantiles rise with their part and lie between the least and the greatest number; pure; no condition but that counts are counts. -/
import Derived.Test.YtmhhklmfnhgbbaaHistRise
namespace Go.Proofs.Ytmhhklmfnhgbbaa.Hst
set_option linter.unusedVariables false
set_option linter.unusedSimpArgs false
open Go.RowKit Go.Proofs.Ytmhhklmfnhgbbaa.PA Go.Proofs.YtmhhklmfnhgbbaaW.PrintWords Go.Proofs.YtmhhklmfnhgbbaaW.PrintLast Go.Proofs.YtmhhklmfnhgbbaaW.PrintMore
/-- A box's least number, alone. -/
def lv (b : Int) : Int := (leastV b).1
theorem lv_low {b : Int} (h0 : 0 ≤ b) (h1 : b < 16) : leastV b = (b, 0) := by unfold leastV; rw [if_neg (by omega), if_pos h1]
theorem box_split {b : Int} (h0 : 16 ≤ b) (h1 : b ≤ 304) : b = 304 ∨ ∃ p k : Nat, 4 ≤ p ∧ p ≤ 39 ∧ k < 8 ∧ b = 16 + 8 * ((p : Int) - 4) + k := by
  by_cases h : b = 304
  · exact .inl h
  · exact .inr ⟨(4 + (b - 16) / 8).toNat, ((b - 16) % 8).toNat, by omega, by omega, by omega, by omega⟩
theorem least_ok {b : Int} (h0 : 0 ≤ b) (h1 : b ≤ 304) : (leastV b).2 = 0 := by
  unfold leastV
  rw [if_neg (by omega)]
  split <;> rfl
theorem lv_step {b : Int} (h0 : 0 ≤ b) (h1 : b < 304) : lv b ≤ lv (b + 1) := by
  unfold lv
  by_cases h16 : b < 16
  · rw [lv_low h0 h16]
    by_cases h15 : b = 15
    · subst h15; decide
    · rw [lv_low (by omega) (by omega)]; show b ≤ b + 1; omega
  · rcases box_split (by omega) (by omega : b ≤ 304) with h | ⟨p, k, h4, h39, hk, e⟩
    · omega
    · rw [e, least_mid h4 h39 hk, least_next h4 h39 hk]
      have hp0 : (0 : Int) < 2 ^ (p - 3) := Int.pow_pos (by decide)
      show 8 * 2 ^ (p - 3) + (k : Int) * 2 ^ (p - 3) ≤ 8 * 2 ^ (p - 3) + (k : Int) * 2 ^ (p - 3) + 2 ^ (p - 3)
      omega
theorem lv_mono : ∀ (d : Nat) {b : Int}, 0 ≤ b → b + d ≤ 304 → lv b ≤ lv (b + d)
  | 0, b, _, _ => by rw [show b + ((0 : Nat) : Int) = b by omega]; exact Int.le_refl _
  | d + 1, b, h0, h1 => by
    have a := lv_mono d h0 (by omega)
    have c := lv_step (b := b + d) (by omega) (by omega)
    rw [show b + ((d + 1 : Nat) : Int) = b + d + 1 by omega]
    omega
theorem lv_le {a b : Int} (h0 : 0 ≤ a) (h : a ≤ b) (h1 : b ≤ 304) : lv a ≤ lv b := by
  have := lv_mono (b - a).toNat h0 (by omega)
  rw [show a + ((b - a).toNat : Int) = b by omega] at this
  exact this
/-- Where the walk through the boxes ends. -/
theorem qw_at : ∀ (t : List Int) (b left : Int), Cnt t → 1 ≤ left → left ≤ t.sum → ∃ i : Nat, i < t.length ∧ qw t b left = leastV (b + i) ∧ 0 < t.getD i 0 ∧ (t.take i).sum < left ∧ left ≤ (t.take (i + 1)).sum
  | [], b, left, _, h0, h1 => by simp at h1; omega
  | c :: t, b, left, hc, h0, h1 => by
    have c0 := hc c List.mem_cons_self
    rw [List.sum_cons] at h1
    by_cases h : left - c ≤ 0
    · exact ⟨0, by simp, by rw [qw, if_pos h]; simp, by show 0 < c; omega, by simp; omega, by simp; omega⟩
    · obtain ⟨i, i0, i1, i2, i3, i4⟩ := qw_at t (b + 1) (left - c) (fun y hy => hc y (List.mem_cons_of_mem _ hy)) (by omega) (by omega)
      refine ⟨i + 1, by simpa using i0, ?_, by simpa using i2, by rw [List.take_succ_cons, List.sum_cons]; omega, by rw [List.take_succ_cons, List.sum_cons]; omega⟩
      rw [qw, if_neg h, i1, show b + 1 + (i : Int) = b + ((i + 1 : Nat) : Int) by omega]
theorem take_sum_le {t : List Int} (hc : Cnt t) : ∀ {i j : Nat}, i ≤ j → (t.take i).sum ≤ (t.take j).sum := by
  intro i j h
  have e : t.take j = t.take i ++ (t.take j).drop i := by
    have := (List.take_append_drop i (t.take j)).symm
    rw [List.take_take, Nat.min_eq_left h] at this
    exact this
  rw [e, List.sum_append]
  have := (sum_bd ((t.take j).drop i) (fun x hx => hc x (List.mem_of_mem_take (List.mem_of_mem_drop hx)))).1
  omega
theorem qw_mono {t : List Int} (hc : Cnt t) (hl : t.length = 305) {p q : Int} (h0 : 1 ≤ p) (h : p ≤ q) (h1 : q ≤ t.sum) : (qw t 0 p).1 ≤ (qw t 0 q).1 ∧ (qw t 0 p).2 = 0 ∧ (qw t 0 q).2 = 0 := by
  obtain ⟨i, i0, i1, i2, i3, i4⟩ := qw_at t 0 p hc h0 (by omega)
  obtain ⟨j, j0, j1, j2, j3, j4⟩ := qw_at t 0 q hc (by omega) h1
  have hij : i ≤ j := by
    rcases Nat.lt_or_ge j i with hh | hh
    · have := take_sum_le hc (show j + 1 ≤ i by omega); omega
    · exact hh
  rw [i1, j1]
  exact ⟨lv_le (by omega) (by omega) (by omega), least_ok (by omega) (by omega), least_ok (by omega) (by omega)⟩
/-- A box that is not empty has a number. -/
theorem add_has : ∀ (l : List Int) (p : List Int × Int) (i : Nat), (∀ x ∈ l, x ≤ 9223372036854775807) → 0 < (l.foldl addS p).1.getD i 0 → 0 < p.1.getD i 0 ∨ ∃ x ∈ l, (boxV x).toNat = i
  | [], p, i, _, h => .inl h
  | n :: l, p, i, hw, h => by
    rw [List.foldl_cons] at h
    rcases add_has l (addS p n) i (fun x hx => hw x (List.mem_cons_of_mem _ hx)) h with h' | ⟨x, hx, e⟩
    · by_cases e : (boxV n).toNat = i
      · exact .inr ⟨n, List.mem_cons_self, e⟩
      · left
        unfold addS at h'
        split at h'
        · rw [List.getD_eq_getElem?_getD, List.getElem?_set_ne e, ← List.getD_eq_getElem?_getD] at h'
          exact h'
        · exact h'
    · exact .inr ⟨x, List.mem_cons_of_mem _ hx, e⟩
theorem zs_get (i : Nat) : zs.getD i 0 = 0 := by
  rw [List.getD_eq_getElem?_getD]
  cases e : zs[i]? with
  | none => rfl
  | some v => exact List.eq_of_mem_replicate (List.mem_of_getElem? e)
theorem quant_between {l : List Int} (hw : ∀ x ∈ l, x ≤ 9223372036854775807) {lo hi left : Int} (hlo : ∀ x ∈ l, lo ≤ x) (hhi : ∀ x ∈ l, x ≤ hi) (hlm : lo ≤ 9223372036854775807) (h0 : 1 ≤ left) (h1 : left ≤ (addV zs l).1.sum) :
    lv (boxV lo) ≤ (qw (addV zs l).1 0 left).1 ∧ (qw (addV zs l).1 0 left).1 ≤ mx hi 0 := by
  obtain ⟨c1, c2, c3, c4⟩ := addV_inv zs cnt_zs l
  have hz : zs.length = 305 := List.length_replicate
  obtain ⟨i, i0, i1, i2, i3, i4⟩ := qw_at _ 0 left c1 h0 h1
  rcases add_has l (zs, 0) i hw i2 with h | ⟨x, hx, e⟩
  · rw [zs_get] at h; omega
  have bx := boxV_bd (hw x hx)
  have bl := boxV_bd hlm
  have ei : (i : Int) = boxV x := by omega
  rw [i1, show (0 : Int) + i = boxV x by omega]
  have hmono : boxV lo ≤ boxV x := by
    by_cases hneg : lo < 0
    · have : boxV lo = 0 := by unfold boxV mx; rw [if_pos (by omega)]; split <;> omega
      omega
    · exact box_mono (by omega) (hw x hx) (hlo x hx)
  refine ⟨lv_le bl.1 hmono bx.2, ?_⟩
  by_cases hneg : x < 0
  · have e0 : boxV x = 0 := by unfold boxV mx; rw [if_pos (by omega)]; split <;> omega
    rw [e0]
    show (leastV 0).1 ≤ _
    have : (leastV 0).1 = 0 := by decide
    rw [this]; unfold mx; split <;> omega
  · obtain ⟨y, z, f, r1, r2, _⟩ := rise_one (show 0 ≤ x by omega) (hw x hx)
    rw [r1]
    have := hhi x hx
    show y ≤ _
    unfold mx; split <;> omega
end Go.Proofs.Ytmhhklmfnhgbbaa.Hst
