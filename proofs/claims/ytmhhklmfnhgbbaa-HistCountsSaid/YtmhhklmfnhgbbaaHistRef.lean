/- The document's boxes are the program's; no condition but that numbers are of 64 bits. -/
import Derived.Test.YtmhhklmfnhgbbaaHistAlive
namespace Go.Proofs.Ytmhhklmfnhgbbaa.Hst
set_option linter.unusedVariables false
set_option linter.unusedSimpArgs false
open Go.RowKit Go.Proofs.Ytmhhklmfnhgbbaa.PA Go.Proofs.YtmhhklmfnhgbbaaW.PrintWords Go.Proofs.YtmhhklmfnhgbbaaW.PrintLast Go.Proofs.YtmhhklmfnhgbbaaW.PrintMore Go.Proofs.Ytmhhklmfnhgbbaa.Base
theorem lg_uniq {a : Int} {p : Nat} (h0 : 16 ≤ a) (h1 : a ≤ 9223372036854775807) (l : (2 : Int) ^ p ≤ a) (u : a < 2 ^ (p + 1)) : lg a = p := by
  obtain ⟨_, l', u', _⟩ := lg_is h0 h1
  rcases Nat.lt_trichotomy (lg a) p with h | h | h
  · have := pow_int_le (show lg a + 1 ≤ p by omega); omega
  · exact h
  · have := pow_int_le (show p + 1 ≤ lg a by omega); omega
theorem p2 (n : Nat) : (2 : Int) ^ (n + 1) = 2 * 2 ^ n := by rw [Int.pow_succ]; omega
theorem rbox_loop (a : Int) (h0 : 16 ≤ a) (h1 : a ≤ 9223372036854775807) : ∀ (d j : Nat), j + d = 36 → (2 : Int) ^ (4 + j) ≤ a → Ev (fun k => garboardref34_Box.l0 k a (2 ^ (4 + j)) (16 + 8 * (j : Int)) (j : Int)) (boxV a) := by
  intro d
  induction d with
  | zero =>
    intro j hj hl
    have e : j = 36 := by omega
    subst e
    have e40 : (2 : Int) ^ (4 + 36) = 1099511627776 := by decide
    refine Ev.step (f := fun _ => some 304) (fun q => ?_) (ev_some ?_)
    · rw [garboardref34_Box.l0, if_neg (by decide)]
    · unfold boxV; rw [if_neg (by omega), if_pos (by omega)]
  | succ d ih =>
    intro j hj hl
    have hp := p2 (4 + j)
    have hb : (2 : Int) ^ (4 + j) ≤ 549755813888 := by
      have := pow_int_le (show 4 + j ≤ 39 by omega)
      have e : (2 : Int) ^ 39 = 549755813888 := by decide
      omega
    have hq : (2 : Int) ^ (4 + j) = 8 * 2 ^ (1 + j) := by rw [show 4 + j = (1 + j) + 3 by omega, Int.pow_add]; omega
    have hq0 : (0 : Int) < 2 ^ (1 + j) := Int.pow_pos (by decide)
    have w1 : wrap64 (2 * 2 ^ (4 + j)) = 2 * 2 ^ (4 + j) := w64 (by omega) (by omega)
    by_cases hu : a < 2 * 2 ^ (4 + j)
    · have hlg := lg_uniq h0 h1 hl (by omega)
      have t1 : Int.tdiv ((2 : Int) ^ (4 + j)) 8 = 2 ^ (1 + j) := by rw [Int.tdiv_eq_ediv_of_nonneg (by omega)]; omega
      have t2 : Int.tdiv (a - 2 ^ (4 + j)) (2 ^ (1 + j)) = (a - 2 ^ (4 + j)) / 2 ^ (1 + j) := Int.tdiv_eq_ediv_of_nonneg (by omega)
      have bd := mid_bd (a := a) (p := 4 + j) (by omega) hl (by omega)
      rw [show 4 + j - 3 = 1 + j by omega] at bd
      refine Ev.step (f := fun _ => some (boxV a)) (fun q => ?_) (Ev.now _)
      rw [garboardref34_Box.l0, if_pos (by omega), w1, if_pos hu, t1, w64 (x := (2 : Int) ^ (1 + j)) (by omega) (by omega), if_neg (by omega), w64 (x := a - 2 ^ (4 + j)) (by omega) (by omega), t2, w64 (x := (a - 2 ^ (4 + j)) / 2 ^ (1 + j)) (by omega) (by omega), w64 (by omega) (by omega)]
      refine congrArg some ?_
      unfold boxV
      have e39 : ¬ 1099511627776 ≤ a := by omega
      rw [if_neg (by omega), if_neg e39, hlg, show 4 + j - 3 = 1 + j by omega]
      omega
    · have := ih (j + 1) (by omega) (by rw [show 4 + (j + 1) = (4 + j) + 1 by omega]; omega)
      rw [show 4 + (j + 1) = (4 + j) + 1 by omega, hp] at this
      refine Ev.step (f := fun k => garboardref34_Box.l0 k a (2 * 2 ^ (4 + j)) (16 + 8 * ((j + 1 : Nat) : Int)) ((j + 1 : Nat) : Int)) (fun q => ?_) this
      rw [garboardref34_Box.l0, if_pos (by omega), w1, if_neg hu, w64 (x := 16 + 8 * (j : Int) + 8) (by omega) (by omega), w64 (x := (j : Int) + 1) (by omega) (by omega)]
      rw [show 16 + 8 * (j : Int) + 8 = 16 + 8 * ((j + 1 : Nat) : Int) by omega]
      rfl
theorem rbox_ev (a : Int) (h1 : a ≤ 9223372036854775807) : Ev (fun k => garboardref34_Box.f k a) (boxV a) := by
  unfold garboardref34_Box.f
  by_cases h0 : a < 0
  · refine ev_ifT h0 (ev_some ?_)
    unfold boxV mx; rw [if_pos (by omega)]; split <;> omega
  by_cases h16 : a < 16
  · refine ev_ifF h0 (ev_ifT h16 (ev_some ?_))
    unfold boxV mx; rw [if_pos h16]; split <;> omega
  refine ev_ifF h0 (ev_ifF h16 ?_)
  exact rbox_loop a (by omega) h1 36 0 rfl (by show (16 : Int) ≤ a; omega)
theorem rbox_q (a : Int) (h : a ≤ 9223372036854775807) (w : World) : Calls Try.prog 11 #[.int .i64 a] w fun e w' => e = .returned (.int .i64 (boxV a)) ∧ Drawn0 w w' := by
  obtain ⟨k, hk⟩ := (rbox_ev a h).rounds
  exact garboardref34_Box.calls k a _ w hk
theorem rleast_loop (b : Int) (h0 : 16 ≤ b) (h1 : b < 305) (m : Nat) (hm : ((b - 16) / 8).toNat = m) : ∀ (d j : Nat), j + d = m → Ev (fun k => garboardref34_Least.l0 k b (2 ^ (4 + j)) (16 + 8 * (j : Int))) (leastV b) := by
  intro d
  induction d with
  | zero =>
    intro j hj
    have e : j = m := by omega
    subst e
    have hb : (2 : Int) ^ (4 + j) ≤ 1099511627776 := by
      have := pow_int_le (show 4 + j ≤ 40 by omega)
      have e : (2 : Int) ^ 40 = 1099511627776 := by decide
      omega
    have hq : (2 : Int) ^ (4 + j) = 8 * 2 ^ (1 + j) := by rw [show 4 + j = (1 + j) + 3 by omega, Int.pow_add]; omega
    have hq0 : (0 : Int) < 2 ^ (1 + j) := Int.pow_pos (by decide)
    obtain ⟨r, hr⟩ : ∃ r, (b - 16) % 8 = r := ⟨_, rfl⟩
    have r0 : 0 ≤ r * 2 ^ (1 + j) := Int.mul_nonneg (by omega) (by omega)
    have r1 : r * 2 ^ (1 + j) ≤ 7 * 2 ^ (1 + j) := Int.mul_le_mul_of_nonneg_right (by omega) (by omega)
    refine Ev.step (f := fun _ => some (leastV b)) (fun q => ?_) (Ev.now _)
    have t1 : Int.tdiv ((2 : Int) ^ (4 + j)) 8 = 2 ^ (1 + j) := by rw [Int.tdiv_eq_ediv_of_nonneg (by omega)]; omega
    rw [garboardref34_Least.l0, w64 (x := 16 + 8 * (j : Int) + 8) (by omega) (by omega), if_neg (by omega), w64 (x := b - 16) (by omega) (by omega), Int.tmod_eq_emod_of_nonneg (by omega), hr, t1, w64 (x := (2 : Int) ^ (1 + j)) (by omega) (by omega), w64 (x := r * 2 ^ (1 + j)) (by omega) (by omega), w64 (by omega) (by omega)]
    unfold leastV
    rw [if_neg (by omega), if_neg (by omega), hr, show (4 + (b - 16) / 8).toNat = 4 + j by omega, show (1 + (b - 16) / 8).toNat = 1 + j by omega]
  | succ d ih =>
    intro j hj
    have hp := p2 (4 + j)
    have hb : (2 : Int) ^ (4 + j) ≤ 1099511627776 := by
      have := pow_int_le (show 4 + j ≤ 40 by omega)
      have e : (2 : Int) ^ 40 = 1099511627776 := by decide
      omega
    have hb0 : (0 : Int) < 2 ^ (4 + j) := Int.pow_pos (by decide)
    have := ih (j + 1) (by omega)
    rw [show 4 + (j + 1) = (4 + j) + 1 by omega, hp] at this
    refine Ev.step (f := fun k => garboardref34_Least.l0 k b (2 * 2 ^ (4 + j)) (16 + 8 * ((j + 1 : Nat) : Int))) (fun q => ?_) this
    rw [garboardref34_Least.l0, w64 (x := 16 + 8 * (j : Int) + 8) (by omega) (by omega), if_pos (by omega), w64 (x := 2 * 2 ^ (4 + j)) (by omega) (by omega)]
    rw [show 16 + 8 * (j : Int) + 8 = 16 + 8 * ((j + 1 : Nat) : Int) by omega]
theorem rleast_ev (b : Int) : Ev (fun k => garboardref34_Least.f k b) (leastV b) := by
  unfold garboardref34_Least.f
  have hT : (b < 0 ∨ 305 ≤ b) → Ev (fun k => garboardref34_Least.j0 k b true) (leastV b) := fun h => by
    refine Ev.step (f := fun _ => some (0, 1)) (fun q => by rw [garboardref34_Least.j0, if_pos rfl]) (ev_some ?_)
    unfold leastV; rw [if_pos h]
  by_cases h0 : b < 0
  · exact ev_ifT h0 (hT (.inl h0))
  refine ev_ifF h0 ?_
  by_cases h1 : b ≥ 305
  · rw [decide_eq_true h1]; exact hT (.inr h1)
  rw [decide_eq_false h1]
  by_cases h16 : b < 16
  · refine Ev.step (f := fun _ => some (b, 0)) (fun q => by rw [garboardref34_Least.j0, if_neg (by decide), if_pos h16]) (ev_some ?_)
    unfold leastV; rw [if_neg (by omega), if_pos h16]
  · refine Ev.step (f := fun k => garboardref34_Least.l0 k b 16 16) (fun q => by rw [garboardref34_Least.j0, if_neg (by decide), if_neg h16]) ?_
    exact rleast_loop b (by omega) (by omega) _ rfl _ 0 (Nat.zero_add _)
theorem rleast_q (b : Int) (w : World) : Calls Try.prog 9 #[.int .i64 b] w fun e w' => e = .returned (.tuple #[.int .i64 (leastV b).1, .int .i64 (leastV b).2]) ∧ Drawn0 w w' := by
  obtain ⟨k, hk⟩ := (rleast_ev b).rounds
  exact garboardref34_Least.calls k b _ _ w hk
end Go.Proofs.Ytmhhklmfnhgbbaa.Hst
