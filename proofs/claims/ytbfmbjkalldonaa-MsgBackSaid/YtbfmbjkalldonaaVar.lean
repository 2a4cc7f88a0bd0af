/- What the functions of layer 2 and of its reference come to, as functions on lists; no condition. -/
import Derived.Test.YtbfmbjkalldonaaPAx1
import Derived.Test.YtbfmbjkalldonaaPAx30
import Derived.Test.YtbfmbjkalldonaaBase
namespace Go.Proofs.Ytbfmbjkalldonaa.Var
set_option linter.unusedVariables false
set_option linter.unusedSimpArgs false
open Go.RowKit Go.Proofs.Ytbfmbjkalldonaa.PA Go.Proofs.YtbfmbjkalldonaaW.PrintWords Go.Proofs.YtbfmbjkalldonaaW.PrintLast Go.Proofs.YtbfmbjkalldonaaW.PrintMore Go.Proofs.Ytbfmbjkalldonaa.Base

/-- All are bytes. -/
def Bytes (l : List Int) : Prop := ∀ x ∈ l, 0 ≤ x ∧ x ≤ 255
theorem bytes_of_wf {l : List Int} (h : ∀ x ∈ l, (Lit.int .u8 x).wf = true) : Bytes l := fun x hx => wf_u8 (h x hx)
theorem Bytes.drop {l : List Int} (h : Bytes l) (n : Nat) : Bytes (l.drop n) := fun x hx => h x (List.mem_of_mem_drop hx)

/-! ### the number that bytes begin with -/
def gt : Nat → Int → List Int → Int × Int × Int
  | _, _, [] => (0, 0, 4)
  | i, n, c :: t => if (i = 9 ∧ 1 < c) ∨ (0 < i ∧ c = 0) then (0, 0, 3) else if c < 128 then (n + c % 128 * 128 ^ i, (i : Int) + 1, 0) else gt (i + 1) (n + c % 128 * 128 ^ i) t

theorem pow128 (i : Nat) : (128 : Int) ^ i = 2 ^ (7 * i) := by rw [Int.pow_mul]; rfl
theorem pow_le9 {i : Nat} (hi : i ≤ 9) : (128 : Int) ^ i ≤ 9223372036854775808 := by
  have : ∀ j : Fin 10, (128 : Int) ^ j.val ≤ 9223372036854775808 := by decide
  exact this ⟨i, by omega⟩
theorem pow_pos (i : Nat) : (0 : Int) < 128 ^ i := Int.pow_pos (by decide)

theorem acc_bound {i : Nat} {n c : Int} (hi : i ≤ 9) (h0 : 0 ≤ c) (h1 : c ≤ 255) (hs : ¬ (i = 9 ∧ 1 < c)) (hn0 : 0 ≤ n) (hn : n < 128 ^ i) : 0 ≤ c % 128 * 128 ^ i ∧ n + c % 128 * 128 ^ i < 18446744073709551616 ∧ (i ≤ 8 → n + c % 128 * 128 ^ i < 128 ^ (i + 1)) ∧ c % 128 * 128 ^ i < 18446744073709551616 := by
  have hp := pow_pos i
  have h9 := pow_le9 hi
  have hm0 : 0 ≤ c % 128 := by omega
  have hm1 : c % 128 ≤ 127 := by omega
  have a1 : 0 ≤ c % 128 * 128 ^ i := Int.mul_nonneg hm0 (by omega)
  have a2 : c % 128 * 128 ^ i ≤ 127 * 128 ^ i := Int.mul_le_mul_of_nonneg_right hm1 (by omega)
  have a3 : (128 : Int) ^ (i + 1) = 128 ^ i * 128 := Int.pow_succ ..
  refine ⟨a1, ?_, fun _ => by omega, ?_⟩
  · by_cases h : i = 9
    · subst h
      have hc : c ≤ 1 := by omega
      have : c % 128 * 128 ^ 9 ≤ 1 * 128 ^ 9 := Int.mul_le_mul_of_nonneg_right (by omega) (by omega)
      have e9 : (128 : Int) ^ 9 = 9223372036854775808 := by decide
      omega
    · have h8 : i ≤ 8 := by omega
      have : ∀ j : Fin 9, (128 : Int) ^ j.val ≤ 72057594037927936 := by decide
      have := this ⟨i, by omega⟩
      simp only at this
      omega
  · by_cases h : i = 9
    · subst h
      have hc : c ≤ 1 := by omega
      have : c % 128 * 128 ^ 9 ≤ 1 * 128 ^ 9 := Int.mul_le_mul_of_nonneg_right (by omega) (by omega)
      have e9 : (128 : Int) ^ 9 = 9223372036854775808 := by decide
      omega
    · have : ∀ j : Fin 9, (128 : Int) ^ j.val ≤ 72057594037927936 := by decide
      have := this ⟨i, by omega⟩
      simp only at this
      omega

theorem get_loop (l : List Int) (hl : l.length ≤ 9223372036854775) (hb : Bytes l) : ∀ (t : List Int) (i : Nat) (n : Int), l.drop i = t → i ≤ l.length → i ≤ 9 → 0 ≤ n → n < 128 ^ i →
    Ev (fun k => varint_Get.l0 k n l (l.length : Int) (i : Int)) (gt i n t) := by
  intro t
  induction t with
  | nil =>
    intro i n hd hi h9 hn0 hn
    have := drop_end hi hd
    refine Ev.step (f := fun _ => some (0, 0, 4)) (fun k => ?_) (Ev.now _)
    rw [varint_Get.l0, if_neg (by omega)]
  | cons c t ih =>
    intro i n hd hi h9 hn0 hn
    obtain ⟨hr, hlt, hd'⟩ := rd_drop hd
    have hc := hb c (List.mem_of_mem_drop (by rw [hd]; exact List.mem_cons_self))
    have hj2 : ∀ k, varint_Get.j2 (k + 1) n i c l (l.length : Int) (i : Int) true = some (0, 0, 3) := fun k => by rw [varint_Get.j2, if_pos rfl]
    by_cases hs : (i = 9 ∧ 1 < c) ∨ (0 < i ∧ c = 0)
    · rw [gt, if_pos hs]
      rcases hs with ⟨rfl, h1⟩ | ⟨h0, rfl⟩
      · refine ⟨3, fun k hk => ?_⟩
        obtain ⟨k, rfl⟩ : ∃ m, k = m + 3 := ⟨k - 3, by omega⟩
        dsimp only
        rw [varint_Get.l0, if_pos (by omega), if_pos (by omega), if_pos (by omega), if_pos (by rfl), varint_Get.j1, hr, if_pos (by simpa using h1), decide_eq_true h1]
        exact hj2 k
      · refine ⟨3, fun k hk => ?_⟩
        obtain ⟨k, rfl⟩ : ∃ m, k = m + 3 := ⟨k - 3, by omega⟩
        dsimp only
        rw [varint_Get.l0, if_pos (by omega), if_pos (by omega), if_pos (by omega), hr]
        have e : ∀ b : Bool, b = false → varint_Get.j1 (k + 2) n i 0 l (l.length : Int) (i : Int) b = some (0, 0, 3) := fun b hb => by
          subst hb
          rw [varint_Get.j1, if_neg (by decide), if_pos (by omega)]
          exact hj2 k
        split
        · exact e _ (by decide)
        · exact e _ rfl
    · have hsA : ¬ (i = 9 ∧ 1 < c) := fun h => hs (.inl h)
      have hsB : ¬ (0 < i ∧ c = 0) := fun h => hs (.inr h)
      obtain ⟨b0, b1, b2, b3⟩ := acc_bound h9 hc.1 hc.2 hsA hn0 hn
      have e7 : wrap64 (7 * (i : Int)) = 7 * i := w64 (by omega) (by omega)
      have e1 : wrap64 ((i : Int) + 1) = ((i + 1 : Nat) : Int) := by rw [w64 (by omega) (by omega)]; omega
      have em : IntKind.u64.wrap (bits .and .u8 c 127) = c % 128 := by rw [u8_and127 c hc.1 (by omega), wu64 (by omega) (by omega)]
      have es : shl .u64 (c % 128) (7 * (i : Int)) = c % 128 * 2 ^ (7 * i) := by
        rw [shl64 _ _ (by omega), show (7 * (i : Int)).toNat = 7 * i from by omega, ← pow128, wu64 b0 b3]
      have eo : bits .or .u64 n (c % 128 * 2 ^ (7 * i)) = n + c % 128 * 128 ^ i := by
        rw [or_high64 (7 * i) n (c % 128) hn0 (by rw [← pow128]; exact hn) (by omega) (by rw [← pow128]; exact b1), ← pow128]
      have hj : ∀ k, varint_Get.l0 (k + 3) n l (l.length : Int) (i : Int) = (if bits .and .u8 c 128 = 0 then some (n + c % 128 * 128 ^ i, ((i + 1 : Nat) : Int), 0) else varint_Get.l0 k (n + c % 128 * 128 ^ i) l (l.length : Int) ((i + 1 : Nat) : Int)) := fun k => by
        rw [varint_Get.l0, if_pos (by omega), if_pos (by omega), if_pos (by omega), hr]
        have e : ∀ b : Bool, b = false → varint_Get.j1 (k + 2) n i c l (l.length : Int) (i : Int) b = (if bits .and .u8 c 128 = 0 then some (n + c % 128 * 128 ^ i, ((i + 1 : Nat) : Int), 0) else varint_Get.l0 k (n + c % 128 * 128 ^ i) l (l.length : Int) ((i + 1 : Nat) : Int)) := fun b hb => by
          subst hb
          have e2 : varint_Get.j2 (k + 1) n i c l (l.length : Int) (i : Int) false = (if bits .and .u8 c 128 = 0 then some (n + c % 128 * 128 ^ i, ((i + 1 : Nat) : Int), 0) else varint_Get.l0 k (n + c % 128 * 128 ^ i) l (l.length : Int) ((i + 1 : Nat) : Int)) := by
            rw [varint_Get.j2, if_neg (by decide), e7, if_pos (by omega), e1, em, es, eo]
          rw [varint_Get.j1, if_neg (by decide)]
          split
          · rw [show (c == 0) = false from beq_eq_false_iff_ne.mpr (fun h => hsB ⟨by omega, h⟩)]; exact e2
          · exact e2
        split
        · exact e _ (decide_eq_false (fun h => hsA ⟨by omega, h⟩))
        · exact e _ rfl
      rw [gt, if_neg hs]
      by_cases hc1 : c < 128
      · rw [if_pos hc1]
        refine ⟨3, fun k hk => ?_⟩
        obtain ⟨k, rfl⟩ : ∃ m, k = m + 3 := ⟨k - 3, by omega⟩
        dsimp only
        rw [hj, u8_and128 c hc.1 (by omega), if_pos hc1, if_pos rfl]; rfl
      · rw [if_neg hc1]
        have h8 : i ≤ 8 := by
          rcases Nat.lt_or_ge i 9 with h | h
          · omega
          · exact absurd ⟨by omega, by omega⟩ hsA
        obtain ⟨K, hK⟩ := ih (i + 1) (n + c % 128 * 128 ^ i) hd' (by omega) (by omega) (by omega) (b2 h8)
        refine ⟨K + 3, fun k hk => ?_⟩
        obtain ⟨k, rfl⟩ : ∃ m, k = m + 3 := ⟨k - 3, by omega⟩
        dsimp only
        rw [hj, u8_and128 c hc.1 (by omega), if_neg hc1, if_neg (by decide)]
        exact hK k (by omega)

theorem get_ev (l : List Int) (hl : l.length ≤ 9223372036854775) (hb : Bytes l) : Ev (fun k => varint_Get.f k l) (gt 0 0 l) :=
  get_loop l hl hb l 0 0 rfl (by omega) (by omega) (by omega) (by decide)

theorem rget_loop (l : List Int) (hl : l.length ≤ 9223372036854775) (hb : Bytes l) : ∀ (t : List Int) (i : Nat) (n u : Int), l.drop i = t → i ≤ l.length → i ≤ 9 → 0 ≤ n → n < 128 ^ i → u = 128 ^ i →
    Ev (fun k => garboardref02_Get.l0 k l n u (i : Int)) (gt i n t) := by
  intro t
  induction t with
  | nil =>
    intro i n u hd hi h9 hn0 hn hu
    have := drop_end hi hd
    refine Ev.step (f := fun _ => some (0, 0, 4)) (fun k => ?_) (Ev.now _)
    rw [garboardref02_Get.l0, if_neg (by omega)]
  | cons c t ih =>
    intro i n u hd hi h9 hn0 hn hu
    obtain ⟨hr, hlt, hd'⟩ := rd_drop hd
    have hc := hb c (List.mem_of_mem_drop (by rw [hd]; exact List.mem_cons_self))
    by_cases hsA : i = 9 ∧ 1 < c
    · rw [gt, if_pos (.inl hsA)]
      obtain ⟨rfl, h1⟩ := hsA
      refine ⟨2, fun k hk => ?_⟩
      obtain ⟨k, rfl⟩ : ∃ m, k = m + 2 := ⟨k - 2, by omega⟩
      dsimp only
      rw [garboardref02_Get.l0, if_pos (by omega), if_pos (by omega), if_pos (by rfl), hr, decide_eq_true h1, garboardref02_Get.j1, if_pos rfl]
    · obtain ⟨b0, b1, b2, b3⟩ := acc_bound h9 hc.1 hc.2 hsA hn0 hn
      have hp := pow_pos i
      have e1 : wrap64 ((i : Int) + 1) = ((i + 1 : Nat) : Int) := by rw [w64 (by omega) (by omega)]; omega
      have et : Int.tmod c 128 = c % 128 := Int.tmod_eq_emod_of_nonneg hc.1
      have ex : IntKind.u64.wrap (n + IntKind.u64.wrap (u * IntKind.u64.wrap (Int.tmod c 128))) = n + c % 128 * 128 ^ i := by
        rw [et, wu64 (show 0 ≤ c % 128 by omega) (by omega), hu, Int.mul_comm, wu64 b0 b3, wu64 (by omega) b1]
      have hj : ∀ k, garboardref02_Get.l0 (k + 2) l n u (i : Int) = (if c < 128 then (if c = 0 then (if (i : Int) > 0 then some (0, 0, 3) else some (n + c % 128 * 128 ^ i, ((i + 1 : Nat) : Int), 0)) else some (n + c % 128 * 128 ^ i, ((i + 1 : Nat) : Int), 0)) else garboardref02_Get.l0 k l (n + c % 128 * 128 ^ i) (IntKind.u64.wrap (u * 128)) ((i + 1 : Nat) : Int)) := fun k => by
        have e : ∀ b : Bool, b = false → garboardref02_Get.j1 (k + 1) l n u i c b = (if c < 128 then (if c = 0 then (if (i : Int) > 0 then some (0, 0, 3) else some (n + c % 128 * 128 ^ i, ((i + 1 : Nat) : Int), 0)) else some (n + c % 128 * 128 ^ i, ((i + 1 : Nat) : Int), 0)) else garboardref02_Get.l0 k l (n + c % 128 * 128 ^ i) (IntKind.u64.wrap (u * 128)) ((i + 1 : Nat) : Int)) := fun b hb => by
          subst hb
          rw [garboardref02_Get.j1, if_neg (by decide), ex, e1]
        rw [garboardref02_Get.l0, if_pos (by omega), if_pos (by omega), hr]
        split
        · exact e _ (decide_eq_false (fun h => hsA ⟨by omega, h⟩))
        · exact e _ rfl
      by_cases hsB : 0 < i ∧ c = 0
      · rw [gt, if_pos (.inr hsB)]
        obtain ⟨h0, rfl⟩ := hsB
        refine ⟨2, fun k hk => ?_⟩
        obtain ⟨k, rfl⟩ : ∃ m, k = m + 2 := ⟨k - 2, by omega⟩
        dsimp only
        rw [hj, if_pos (by decide), if_pos rfl, if_pos (by omega)]
      · rw [gt, if_neg (fun h => h.elim hsA hsB)]
        by_cases hc1 : c < 128
        · rw [if_pos hc1]
          refine ⟨2, fun k hk => ?_⟩
          obtain ⟨k, rfl⟩ : ∃ m, k = m + 2 := ⟨k - 2, by omega⟩
          dsimp only
          rw [hj, if_pos hc1]
          split
          · rw [if_neg (by omega)]; rfl
          · rfl
        · rw [if_neg hc1]
          have h8 : i ≤ 8 := by
            rcases Nat.lt_or_ge i 9 with h | h
            · omega
            · exact absurd ⟨by omega, by omega⟩ hsA
          have hu' : IntKind.u64.wrap (u * 128) = 128 ^ (i + 1) := by
            have := pow_le9 (i := i + 1) (by omega)
            have a3 : (128 : Int) ^ (i + 1) = 128 ^ i * 128 := Int.pow_succ ..
            rw [hu, ← a3]; exact wu64 (by omega) (by omega)
          obtain ⟨K, hK⟩ := ih (i + 1) (n + c % 128 * 128 ^ i) (128 ^ (i + 1)) hd' (by omega) (by omega) (by omega) (b2 h8) rfl
          refine ⟨K + 2, fun k hk => ?_⟩
          obtain ⟨k, rfl⟩ : ∃ m, k = m + 2 := ⟨k - 2, by omega⟩
          dsimp only
          rw [hj, if_neg hc1, hu']
          exact hK k (by omega)

theorem rget_ev (l : List Int) (hl : l.length ≤ 9223372036854775) (hb : Bytes l) : Ev (fun k => garboardref02_Get.f k l) (gt 0 0 l) :=
  rget_loop l hl hb l 0 0 1 rfl (by omega) (by omega) (by omega) (by decide) rfl

end Go.Proofs.Ytbfmbjkalldonaa.Var
