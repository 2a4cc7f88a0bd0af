/- What is got is what was put, and what is put is what was got; no condition but that numbers are of 64 bits. -/
import Derived.Test.YtbfmbjkalldonaaVarPut
namespace Go.Proofs.Ytbfmbjkalldonaa.Var
set_option linter.unusedVariables false
set_option linter.unusedSimpArgs false
open Go.RowKit Go.Proofs.Ytbfmbjkalldonaa.PA Go.Proofs.YtbfmbjkalldonaaW.PrintWords Go.Proofs.YtbfmbjkalldonaaW.PrintLast Go.Proofs.YtbfmbjkalldonaaW.PrintMore Go.Proofs.Ytbfmbjkalldonaa.Base

theorem p128s (i : Nat) : (128 : Int) ^ (i + 1) = 128 ^ i * 128 := Int.pow_succ ..
/-- What is put is got, whatever stands behind. -/
theorem gt_vb (t : List Int) (n : Nat) : ∀ (i : Nat) (acc : Int), i ≤ 9 → (n : Int) * 128 ^ i < 18446744073709551616 → (0 < i → 0 < n) → gt i acc (vb n ++ t) = (acc + (n : Int) * 128 ^ i, (i : Int) + (vb n).length, 0) := by
  induction n using Nat.strongRecOn with
  | ind n ih =>
    intro i acc hi hb h0
    have hp := pow_pos i
    have e9 : (128 : Int) ^ 9 = 9223372036854775808 := by decide
    by_cases h : n < 128
    · rw [vb_small h, List.singleton_append, gt, if_neg ?_, if_pos (by omega), List.length_singleton, show (n : Int) % 128 = n from by omega]
      · rfl
      · rintro (⟨rfl, h1⟩ | ⟨h1, h2⟩)
        · rw [e9] at hb; omega
        · have := h0 h1; omega
    · have h8 : i ≤ 8 := by
        rcases Nat.lt_or_ge i 9 with h' | h'
        · omega
        · exfalso
          have : i = 9 := by omega
          subst this
          rw [e9] at hb; omega
      have hs := p128s i
      have hq : ((n / 128 : Nat) : Int) * 128 ^ (i + 1) ≤ (n : Int) * 128 ^ i := by
        rw [hs, Int.mul_comm (128 ^ i) 128, ← Int.mul_assoc]
        exact Int.mul_le_mul_of_nonneg_right (by omega) (by omega)
      rw [vb_big h, List.cons_append, gt, if_neg (by omega), if_neg (by omega), ih (n / 128) (by omega) (i + 1) _ (by omega) (by omega) (by omega)]
      refine Prod.ext ?_ (Prod.ext ?_ rfl)
      · show acc + ((n % 128 + 128 : Nat) : Int) % 128 * 128 ^ i + ((n / 128 : Nat) : Int) * 128 ^ (i + 1) = acc + (n : Int) * 128 ^ i
        have e1 : ((n % 128 + 128 : Nat) : Int) % 128 = ((n % 128 : Nat) : Int) := by omega
        have e2 : (n : Int) = ((n % 128 : Nat) : Int) + 128 * ((n / 128 : Nat) : Int) := by omega
        rw [e1, hs]
        rw [show (n : Int) * 128 ^ i = (((n % 128 : Nat) : Int) + 128 * ((n / 128 : Nat) : Int)) * 128 ^ i from by rw [← e2]]
        rw [Int.add_mul, Int.mul_comm 128 ((n / 128 : Nat) : Int), Int.mul_assoc, Int.mul_comm 128 (128 ^ i)]
        omega
      · show ((i + 1 : Nat) : Int) + ((vb (n / 128)).length : Int) = (i : Int) + (((vb (n / 128)).length + 1 : Nat) : Int)
        omega
theorem gt_vb0 (t : List Int) (n : Nat) (h : n < 18446744073709551616) : gt 0 0 (vb n ++ t) = ((n : Int), ((vb n).length : Int), 0) := by
  rw [gt_vb t n 0 0 (by omega) (by simp; omega) (by omega)]; simp
/-- What is got is put as the same bytes. -/
theorem vb_gt : ∀ (l : List Int) (i : Nat) (acc n k : Int), Bytes l → i ≤ 9 → 0 ≤ acc → acc < 128 ^ i → gt i acc l = (n, k, 0) →
    ∃ m : Nat, n = acc + (m : Int) * 128 ^ i ∧ (0 < i → 0 < m) ∧ k = (i : Int) + ((vb m).length : Int) ∧ (vb m).length ≤ l.length ∧ l.take (vb m).length = vb m ∧ n < 18446744073709551616 := by
  intro l
  induction l with
  | nil => intro i acc n k _ _ _ _ h; simp [gt] at h
  | cons c t ih =>
    intro i acc n k hb hi h0 h1 h
    have hc := hb c List.mem_cons_self
    rw [gt] at h
    by_cases hs : (i = 9 ∧ 1 < c) ∨ (0 < i ∧ c = 0)
    · rw [if_pos hs] at h; simp at h
    · rw [if_neg hs] at h
      have hsA : ¬ (i = 9 ∧ 1 < c) := fun h => hs (.inl h)
      have hsB : ¬ (0 < i ∧ c = 0) := fun h => hs (.inr h)
      obtain ⟨b0, b1, b2, b3⟩ := acc_bound hi hc.1 hc.2 hsA h0 h1
      by_cases hc1 : c < 128
      · rw [if_pos hc1] at h
        simp only [Prod.mk.injEq] at h
        obtain ⟨rfl, rfl, _⟩ := h
        refine ⟨c.toNat, ?_, fun h => ?_, ?_, ?_, ?_, b1⟩
        · rw [show ((c.toNat : Nat) : Int) = c from by omega, show c % 128 = c from by omega]
        · have : ¬ c = 0 := fun e => hsB ⟨h, e⟩
          omega
        · rw [vb_small (by omega)]; rfl
        · rw [vb_small (by omega)]; simp
        · rw [vb_small (by omega)]; simp; omega
      · rw [if_neg hc1] at h
        have h8 : i ≤ 8 := by
          rcases Nat.lt_or_ge i 9 with h' | h'
          · omega
          · exact absurd ⟨by omega, by omega⟩ hsA
        obtain ⟨m, e1, e2, e3, e4, e5, e6⟩ := ih (i + 1) _ n k (fun x hx => hb x (List.mem_cons_of_mem _ hx)) (by omega) (by omega) (b2 h8) h
        have hm := e2 (by omega)
        have hv : vb ((c % 128).toNat + 128 * m) = c :: vb m := by
          rw [vb_big (by omega), show ((c % 128).toNat + 128 * m) / 128 = m from by omega, show ((((c % 128).toNat + 128 * m) % 128 + 128 : Nat) : Int) = c from by omega]
        refine ⟨(c % 128).toNat + 128 * m, ?_, fun _ => by omega, ?_, ?_, ?_, e6⟩
        · rw [e1, p128s, show (((c % 128).toNat + 128 * m : Nat) : Int) = c % 128 + 128 * (m : Int) from by omega, Int.add_mul, Int.mul_comm 128 (m : Int), Int.mul_assoc, Int.mul_comm 128 (128 ^ i)]
          omega
        · rw [hv, e3, List.length_cons]; omega
        · rw [hv, List.length_cons, List.length_cons]; omega
        · rw [hv, List.length_cons, List.take_succ_cons, e5]
theorem vb_gt0 {l : List Int} {n k : Int} (hb : Bytes l) (h : gt 0 0 l = (n, k, 0)) : 0 ≤ n ∧ n < 18446744073709551616 ∧ k = ((vb n.toNat).length : Int) ∧ (vb n.toNat).length ≤ l.length ∧ l.take (vb n.toNat).length = vb n.toNat ∧ 1 ≤ k ∧ k ≤ l.length := by
  obtain ⟨m, e1, e2, e3, e4, e5, e6⟩ := vb_gt l 0 0 n k hb (by omega) (by omega) (by decide) h
  have : n = m := by simpa using e1
  subst this
  have hp := vb_pos m
  refine ⟨by omega, by omega, ?_, by simpa using e4, by simpa using e5, by omega, by omega⟩
  simpa using e3
/-- An error tells nothing else. -/
theorem gt_err : ∀ (l : List Int) (i : Nat) (acc n k e : Int), gt i acc l = (n, k, e) → e ≠ 0 → n = 0 ∧ k = 0 ∧ (e = 3 ∨ e = 4) := by
  intro l
  induction l with
  | nil => intro i acc n k e h he; simp only [gt, Prod.mk.injEq] at h; omega
  | cons c t ih =>
    intro i acc n k e h he
    rw [gt] at h
    split at h
    · simp only [Prod.mk.injEq] at h; omega
    · split at h
      · simp only [Prod.mk.injEq] at h; omega
      · exact ih _ _ _ _ _ h he

end Go.Proofs.Ytbfmbjkalldonaa.Var
