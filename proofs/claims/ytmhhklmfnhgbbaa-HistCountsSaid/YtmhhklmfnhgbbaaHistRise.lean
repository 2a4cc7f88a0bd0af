/- HistRises: boxes rise with numbers; a box's least number is not above any number in it, and an eighth of it at most below; pure, then the walk; no condition but that numbers are of their kinds. -/
import Derived.Test.YtmhhklmfnhgbbaaHistLaws
namespace Go.Proofs.Ytmhhklmfnhgbbaa.Hst
set_option linter.unusedVariables false
set_option linter.unusedSimpArgs false
open Go.RowKit Go.Proofs.Ytmhhklmfnhgbbaa.PA Go.Proofs.YtmhhklmfnhgbbaaW.PrintWords Go.Proofs.YtmhhklmfnhgbbaaW.PrintLast Go.Proofs.YtmhhklmfnhgbbaaW.PrintMore
attribute [local go_sem] max2_int min2_int max_two min_two max_three min_three max_four min_four
theorem pow8 {p : Nat} (h4 : 4 ≤ p) : (2 : Int) ^ p = 8 * 2 ^ (p - 3) := by
  have h : (2 : Int) ^ ((p - 3) + 3) = 8 * 2 ^ (p - 3) := by rw [Int.pow_add]; omega
  rw [show (p - 3) + 3 = p by omega] at h
  exact h
theorem mid_of {n : Int} (h0 : 16 ≤ n) (h1 : n < 1099511627776) : ∃ (p k : Nat), 4 ≤ p ∧ p ≤ 39 ∧ k < 8 ∧ 8 * 2 ^ (p - 3) + (k : Int) * 2 ^ (p - 3) ≤ n ∧ n < 8 * 2 ^ (p - 3) + (k : Int) * 2 ^ (p - 3) + 2 ^ (p - 3) ∧ boxV n = 16 + 8 * ((p : Int) - 4) + k ∧ (2 : Int) ^ p ≤ n ∧ n < 2 ^ (p + 1) := by
  obtain ⟨e, l, u, h4⟩ := lg_is h0 (show n ≤ 9223372036854775807 by omega)
  have h39 : lg n ≤ 39 := by
    have := mt (lg_40 h0 (show n ≤ 9223372036854775807 by omega)).mpr (by omega)
    omega
  have bd := mid_bd h4 l u
  have hp := pow8 h4
  have hp0 : (0 : Int) < 2 ^ (lg n - 3) := Int.pow_pos (by decide)
  obtain ⟨k, hk⟩ := Int.eq_ofNat_of_zero_le bd.1
  have d1 := Int.ediv_mul_le (n - 2 ^ lg n) (show (2 : Int) ^ (lg n - 3) ≠ 0 by omega)
  have d2 := Int.lt_ediv_add_one_mul_self (n - 2 ^ lg n) hp0
  rw [hk] at bd d1 d2
  rw [Int.add_mul] at d2
  refine ⟨lg n, k, h4, h39, by omega, by omega, by omega, ?_, l, u⟩
  unfold boxV
  rw [if_neg (by omega), if_neg (by omega), hk]
theorem least_mid {p k : Nat} (h4 : 4 ≤ p) (h39 : p ≤ 39) (hk : k < 8) : leastV (16 + 8 * ((p : Int) - 4) + k) = (8 * 2 ^ (p - 3) + (k : Int) * 2 ^ (p - 3), 0) := by
  unfold leastV
  rw [if_neg (by omega), if_neg (by omega), show (4 + (16 + 8 * ((p : Int) - 4) + k - 16) / 8).toNat = p by omega, show (1 + (16 + 8 * ((p : Int) - 4) + k - 16) / 8).toNat = p - 3 by omega, show (16 + 8 * ((p : Int) - 4) + k - 16) % 8 = k by omega, pow8 h4]
theorem least_next {p k : Nat} (h4 : 4 ≤ p) (h39 : p ≤ 39) (hk : k < 8) : leastV (16 + 8 * ((p : Int) - 4) + k + 1) = (8 * 2 ^ (p - 3) + (k : Int) * 2 ^ (p - 3) + 2 ^ (p - 3), 0) := by
  by_cases h7 : k < 7
  · have := least_mid h4 h39 (show k + 1 < 8 by omega)
    rw [show 16 + 8 * ((p : Int) - 4) + k + 1 = 16 + 8 * ((p : Int) - 4) + ((k + 1 : Nat) : Int) by omega, this]
    rw [show (((k + 1 : Nat) : Int)) = (k : Int) + 1 by omega, Int.add_mul]
    refine Prod.ext ?_ rfl
    show (8 : Int) * 2 ^ (p - 3) + ((k : Int) * 2 ^ (p - 3) + 1 * 2 ^ (p - 3)) = _
    omega
  · have e : k = 7 := by omega
    subst e
    unfold leastV
    have hp : (2 : Int) ^ (p + 1) = 16 * 2 ^ (p - 3) := by rw [Int.pow_succ, pow8 h4]; omega
    rw [if_neg (by omega), if_neg (by omega), show (4 + (16 + 8 * ((p : Int) - 4) + ((7 : Nat) : Int) + 1 - 16) / 8).toNat = p + 1 by omega, show (16 + 8 * ((p : Int) - 4) + ((7 : Nat) : Int) + 1 - 16) % 8 = 0 by omega, hp]
    refine Prod.ext ?_ rfl
    show (16 : Int) * 2 ^ (p - 3) + 0 * _ = 8 * 2 ^ (p - 3) + ((7 : Nat) : Int) * 2 ^ (p - 3) + 2 ^ (p - 3)
    omega
/-- What a number's box tells. -/
theorem rise_one {n : Int} (h0 : 0 ≤ n) (h1 : n ≤ 9223372036854775807) : ∃ l x f, leastV (boxV n) = (l, 0) ∧ l ≤ n ∧ (n < 1099511627776 → n - l ≤ n / 8) ∧ leastV (boxV n + 1) = (x, f) ∧ (f ≠ 0 ∨ n < x) ∧ boxV l = boxV n ∧ 0 ≤ l ∧ 0 ≤ boxV n ∧ boxV n ≤ 304 := by
  have bd := boxV_bd h1
  by_cases h16 : n < 16
  · have e : boxV n = n := by unfold boxV mx; rw [if_pos h16]; split <;> omega
    rw [e]
    have e1 : leastV n = (n, 0) := by unfold leastV; rw [if_neg (by omega), if_pos h16]
    by_cases h15 : n = 15
    · subst h15
      exact ⟨15, 16, 0, by decide, by decide, by decide, by decide, by decide, e, by decide, by decide, by decide⟩
    · have e2 : leastV (n + 1) = (n + 1, 0) := by unfold leastV; rw [if_neg (by omega), if_pos (by omega)]
      exact ⟨n, n + 1, 0, e1, by omega, by omega, e2, by omega, e, h0, h0, by omega⟩
  by_cases h40 : 1099511627776 ≤ n
  · have e : boxV n = 304 := by unfold boxV; rw [if_neg h16, if_pos h40]
    rw [e]
    have e2 : boxV 1099511627776 = 304 := by unfold boxV; rw [if_neg (by decide), if_pos (by decide)]
    exact ⟨1099511627776, 0, 1, by decide +kernel, h40, by omega, by decide, .inl (by decide), e2, by decide, by decide, by decide⟩
  obtain ⟨p, k, h4, h39, hk, l, u, e, l', u'⟩ := mid_of (by omega) (by omega : n < 1099511627776)
  have hp := pow8 h4
  have hp0 : (0 : Int) < 2 ^ (p - 3) := Int.pow_pos (by decide)
  have hm0 : (0 : Int) ≤ (k : Int) * 2 ^ (p - 3) := Int.mul_nonneg (by omega) (by omega)
  have h2 : (2 : Int) ≤ 2 ^ (p - 3) := by
    have := pow_int_le (show 1 ≤ p - 3 by omega)
    simpa using this
  rw [e]
  refine ⟨_, _, _, least_mid h4 h39 hk, l, fun _ => by omega, least_next h4 h39 hk, .inr u, ?_, by omega, by omega, by omega⟩
  have hl16 : 16 ≤ 8 * 2 ^ (p - 3) + (k : Int) * 2 ^ (p - 3) := by omega
  have hlg : lg (8 * 2 ^ (p - 3) + (k : Int) * 2 ^ (p - 3)) = p := lg_uniq hl16 (by omega) (by omega) (by omega)
  unfold boxV
  rw [if_neg (by omega), if_neg (by omega), hlg, hp]
  have : (8 * 2 ^ (p - 3) + (k : Int) * 2 ^ (p - 3) - 8 * 2 ^ (p - 3)) / 2 ^ (p - 3) = k := by
    rw [show 8 * 2 ^ (p - 3) + (k : Int) * 2 ^ (p - 3) - 8 * 2 ^ (p - 3) = (k : Int) * 2 ^ (p - 3) by omega]
    exact Int.mul_ediv_cancel _ (by omega)
  rw [this]
theorem box_mono {n m : Int} (h0 : 0 ≤ n) (hm : m ≤ 9223372036854775807) (h : n ≤ m) : boxV n ≤ boxV m := by
  have bn := boxV_bd (show n ≤ 9223372036854775807 by omega)
  by_cases m40 : 1099511627776 ≤ m
  · have e : boxV m = 304 := by unfold boxV; rw [if_neg (by omega), if_pos m40]
    omega
  by_cases m16 : m < 16
  · have e : boxV m = m := by unfold boxV mx; rw [if_pos m16]; split <;> omega
    have e' : boxV n = n := by unfold boxV mx; rw [if_pos (by omega)]; split <;> omega
    omega
  obtain ⟨q, j, q4, q39, hj, ql, qu, qe, ql', qu'⟩ := mid_of (by omega) (by omega : m < 1099511627776)
  by_cases n16 : n < 16
  · have e' : boxV n = n := by unfold boxV mx; rw [if_pos n16]; split <;> omega
    omega
  obtain ⟨p, k, h4, h39, hk, l, u, e, l', u'⟩ := mid_of (by omega) (by omega : n < 1099511627776)
  have hpq : p ≤ q := by
    rcases Nat.lt_or_ge q p with h' | h'
    · have := pow_int_le (show q + 1 ≤ p by omega); omega
    · exact h'
  rcases Nat.lt_or_ge p q with h' | h'
  · omega
  · have : p = q := by omega
    subst this
    have hp0 : (0 : Int) < 2 ^ (p - 3) := Int.pow_pos (by decide)
    have : (k : Int) ≤ j := by
      by_cases hh : (j : Int) < k
      · have := Int.mul_le_mul_of_nonneg_right (show (j : Int) + 1 ≤ k by omega) (show (0 : Int) ≤ 2 ^ (p - 3) by omega)
        rw [Int.add_mul] at this
        omega
      · omega
    omega
theorem box_neg : boxV (-1) = 0 := by decide +kernel
set_option maxHeartbeats 4000000 in
set_option maxRecDepth 100000 in
theorem rises_c (n m : Int) (hn0 : -9223372036854775808 ≤ n) (hn : n ≤ 9223372036854775807) (hm : m ≤ 9223372036854775807) (w : World) : Calls Try.prog 4 #[.int .i64 n, .int .i64 m] w fun e w' => e = .returned (.bool true) ∧ Below w.heap.size w w' := by
  have HB := Aside0.mk (Below.refl w.heap.size w)
  have HA := Aside0.mk alive_c
  by_cases hneg : n < 0 ∨ m < 0
  · have H : n < 0 ∨ (0 ≤ n ∧ m < 0) := by omega
    clear hneg
    have H1 := Aside0.mk (box_v (-1) 0 box_neg (by decide))
    rcases H with h | ⟨h, h'⟩
    all_goals
     go_enter Try.func4, Try.ntmps4
     go_wp2_with (first | (go_at_call 10; (with_reducible refine (H1.out _).mono ?_); rintro e w1 ⟨rfl, rfl⟩) | (go_at_call 12; (with_reducible refine (HA.out _).mono ?_); rintro e w1 ⟨rfl, hb⟩; have n1_ := Aside0.mk (below_step HB.out hb); clear HB hb; have HB := n1_; clear n1_))
     go_ret
     exact ⟨rfl, HB.out⟩
  have p0 : 0 ≤ n := by omega
  have p1 : 0 ≤ m := by omega
  obtain ⟨l, x, f, e1, e2, e3, e4, e5, e6, e7, e8, e9⟩ := rise_one p0 hn
  have mono : n ≤ m → boxV n ≤ boxV m := box_mono p0 hm
  obtain ⟨a, ha⟩ : ∃ a, boxV n = a := ⟨_, rfl⟩
  obtain ⟨b, hb⟩ : ∃ b, boxV m = b := ⟨_, rfl⟩
  have H1 := Aside0.mk (box_v n a ha hn)
  have H2 := Aside0.mk (box_v m b hb hm)
  rw [ha, hb] at mono
  rw [ha] at e1 e4 e6 e8 e9
  have H3 := Aside0.mk (box_v l a e6 (by omega))
  have H4 := Aside0.mk (least_v a l 0 e1 (by omega) (by omega))
  have H5 := Aside0.mk (least_v (a + 1) x f e4 (by omega) (by omega))
  have q1 : (n ≤ m ∧ a ≤ b) ∨ m < n := by
    by_cases h : n ≤ m
    · exact .inl ⟨h, mono h⟩
    · exact .inr (by omega)
  have q2 : (n < 1099511627776 ∧ n - l ≤ n / 8) ∨ 1099511627776 ≤ n := by
    by_cases h : n < 1099511627776
    · exact .inl ⟨h, e3 h⟩
    · exact .inr (by omega)
  have q3 : (f != 0) = true ∨ ((f != 0) = false ∧ n < x) := by
    by_cases h : f = 0
    · exact .inr ⟨by simp [h], e5.resolve_left (by omega)⟩
    · exact .inl (bne_iff_ne.mpr h)
  clear ha hb e1 e3 e4 e5 e6 mono hneg hn0
  rcases q1 with ⟨q1, q1'⟩ | q1
  all_goals rcases q2 with ⟨q2, q2'⟩ | q2
  all_goals rcases q3 with q3 | ⟨q3, q3'⟩
  all_goals
   go_enter Try.func4, Try.ntmps4
   go_wp2_with (first | (go_at_call 10; (with_reducible refine (H1.out _).mono ?_); rintro e w1 ⟨rfl, rfl⟩) | (go_at_call 10; (with_reducible refine (H2.out _).mono ?_); rintro e w1 ⟨rfl, rfl⟩) | (go_at_call 10; (with_reducible refine (H3.out _).mono ?_); rintro e w1 ⟨rfl, rfl⟩) | (go_at_call 8; (with_reducible refine (H4.out _).mono ?_); rintro e w1 ⟨rfl, hd⟩; have n1_ := Aside0.mk (below_step HB.out hd.below); clear HB hd; have HB := n1_; clear n1_) | (go_at_call 8; (with_reducible refine (H5.out _).mono ?_); rintro e w1 ⟨rfl, hd⟩; have n1_ := Aside0.mk (below_step HB.out hd.below); clear HB hd; have HB := n1_; clear n1_) | (go_at_call 12; (with_reducible refine (HA.out _).mono ?_); rintro e w1 ⟨rfl, hb⟩; have n1_ := Aside0.mk (below_step HB.out hb); clear HB hb; have HB := n1_; clear n1_))
   go_ret
   exact ⟨rfl, HB.out⟩
end Go.Proofs.Ytmhhklmfnhgbbaa.Hst
