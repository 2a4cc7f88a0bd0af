/- MsY1: joined texts of msg at its document, for MsgReads; no condition but those that stand in each. -/
import Derived.Test.YtbfmbjkalldonaaPAx1
import Derived.Test.YtbfmbjkalldonaaPAx30
import Derived.Test.YtbfmbjkalldonaaBase
import Derived.Test.YtbfmbjkalldonaaPAx6
import Derived.Maps.AppendAt
import Derived.Laws.AppendOwn
import Derived.OwnWalk
import Derived.Laws.AppendOwnNone
import Derived.Laws.OwnMore
import Derived.Test.YtbfmbjkalldonaaProg
import Derived.Deep.QuietTactic
import Derived.BigQuiet
import Derived.BigRegion
import Derived.RegionTactic
import Derived.Deep.RegionHeld3
import Derived.Deep.RegionLaw
import Derived.WalkSpells
import Derived.LoopTactic
import Derived.Deep.LoopGhost
import Derived.Shelf.Abstract
import Derived.Test.YtbfmbjkalldonaaPAx3
import Derived.Test.YtbfmbjkalldonaaPAx5
import Derived.Test.YtbfmbjkalldonaaPAx7
import Derived.Laws.RangeString
namespace Go.Proofs.Ytbfmbjkalldonaa.Var
set_option linter.unusedVariables false
set_option linter.unusedSimpArgs false
open Go.RowKit Go.Proofs.Ytbfmbjkalldonaa.PA Go.Proofs.YtbfmbjkalldonaaW.PrintWords Go.Proofs.YtbfmbjkalldonaaW.PrintLast Go.Proofs.YtbfmbjkalldonaaW.PrintMore Go.Proofs.Ytbfmbjkalldonaa.Base

/-- All are bytes. -/
def Bytes (l : List Int) : Prop := ∀ x ∈ l, 0 ≤ x ∧ x ≤ 255
theorem bytes_of_wf {l : List Int} (h : ∀ x ∈ l, (Lit.int .u8 x).wf = true) : Bytes l := fun x hx => wf_u8 (h x hx)
theorem Bytes.drop {l : List Int} (h : Bytes l) (n : Nat) : Bytes (l.drop n) := fun x hx => h x (List.mem_of_mem_drop hx)

/-! ### the number that bytes begin with -/
def gt : Nat → Int → List Int → Int × Int × Int
  | _, _, [] => (0, 0, 4)
  | i, n, c :: t => if (i = 9 ∧ 1 < c) ∨ (0 < i ∧ c = 0) then (0, 0, 3) else if c < 128 then (n + c % 128 * 128 ^ i, (i : Int) + 1, 0) else gt (i + 1) (n + c % 128 * 128 ^ i) t

theorem pow128 (i : Nat) : (128 : Int) ^ i = 2 ^ (7 * i) := by rw [Int.pow_mul]; rfl
theorem pow_le9 {i : Nat} (hi : i ≤ 9) : (128 : Int) ^ i ≤ 9223372036854775808 := by
  have : ∀ j : Fin 10, (128 : Int) ^ j.val ≤ 9223372036854775808 := by decide
  exact this ⟨i, by omega⟩
theorem pow_pos (i : Nat) : (0 : Int) < 128 ^ i := Int.pow_pos (by decide)

theorem acc_bound {i : Nat} {n c : Int} (hi : i ≤ 9) (h0 : 0 ≤ c) (h1 : c ≤ 255) (hs : ¬ (i = 9 ∧ 1 < c)) (hn0 : 0 ≤ n) (hn : n < 128 ^ i) : 0 ≤ c % 128 * 128 ^ i ∧ n + c % 128 * 128 ^ i < 18446744073709551616 ∧ (i ≤ 8 → n + c % 128 * 128 ^ i < 128 ^ (i + 1)) ∧ c % 128 * 128 ^ i < 18446744073709551616 := by
  have hp := pow_pos i
  have h9 := pow_le9 hi
  have hm0 : 0 ≤ c % 128 := by omega
  have hm1 : c % 128 ≤ 127 := by omega
  have a1 : 0 ≤ c % 128 * 128 ^ i := Int.mul_nonneg hm0 (by omega)
  have a2 : c % 128 * 128 ^ i ≤ 127 * 128 ^ i := Int.mul_le_mul_of_nonneg_right hm1 (by omega)
  have a3 : (128 : Int) ^ (i + 1) = 128 ^ i * 128 := Int.pow_succ ..
  refine ⟨a1, ?_, fun _ => by omega, ?_⟩
  · by_cases h : i = 9
    · subst h
      have hc : c ≤ 1 := by omega
      have : c % 128 * 128 ^ 9 ≤ 1 * 128 ^ 9 := Int.mul_le_mul_of_nonneg_right (by omega) (by omega)
      have e9 : (128 : Int) ^ 9 = 9223372036854775808 := by decide
      omega
    · have h8 : i ≤ 8 := by omega
      have : ∀ j : Fin 9, (128 : Int) ^ j.val ≤ 72057594037927936 := by decide
      have := this ⟨i, by omega⟩
      simp only at this
      omega
  · by_cases h : i = 9
    · subst h
      have hc : c ≤ 1 := by omega
      have : c % 128 * 128 ^ 9 ≤ 1 * 128 ^ 9 := Int.mul_le_mul_of_nonneg_right (by omega) (by omega)
      have e9 : (128 : Int) ^ 9 = 9223372036854775808 := by decide
      omega
    · have : ∀ j : Fin 9, (128 : Int) ^ j.val ≤ 72057594037927936 := by decide
      have := this ⟨i, by omega⟩
      simp only at this
      omega

theorem get_loop (l : List Int) (hl : l.length ≤ 9223372036854775) (hb : Bytes l) : ∀ (t : List Int) (i : Nat) (n : Int), l.drop i = t → i ≤ l.length → i ≤ 9 → 0 ≤ n → n < 128 ^ i →
    Ev (fun k => varint_Get.l0 k n l (l.length : Int) (i : Int)) (gt i n t) := by
  intro t
  induction t with
  | nil =>
    intro i n hd hi h9 hn0 hn
    have := drop_end hi hd
    refine Ev.step (f := fun _ => some (0, 0, 4)) (fun k => ?_) (Ev.now _)
    rw [varint_Get.l0, if_neg (by omega)]
  | cons c t ih =>
    intro i n hd hi h9 hn0 hn
    obtain ⟨hr, hlt, hd'⟩ := rd_drop hd
    have hc := hb c (List.mem_of_mem_drop (by rw [hd]; exact List.mem_cons_self))
    have hj2 : ∀ k, varint_Get.j2 (k + 1) n i c l (l.length : Int) (i : Int) true = some (0, 0, 3) := fun k => by rw [varint_Get.j2, if_pos rfl]
    by_cases hs : (i = 9 ∧ 1 < c) ∨ (0 < i ∧ c = 0)
    · rw [gt, if_pos hs]
      rcases hs with ⟨rfl, h1⟩ | ⟨h0, rfl⟩
      · refine ⟨3, fun k hk => ?_⟩
        obtain ⟨k, rfl⟩ : ∃ m, k = m + 3 := ⟨k - 3, by omega⟩
        dsimp only
        rw [varint_Get.l0, if_pos (by omega), if_pos (by omega), if_pos (by omega), if_pos (by rfl), varint_Get.j1, hr, if_pos (by simpa using h1), decide_eq_true h1]
        exact hj2 k
      · refine ⟨3, fun k hk => ?_⟩
        obtain ⟨k, rfl⟩ : ∃ m, k = m + 3 := ⟨k - 3, by omega⟩
        dsimp only
        rw [varint_Get.l0, if_pos (by omega), if_pos (by omega), if_pos (by omega), hr]
        have e : ∀ b : Bool, b = false → varint_Get.j1 (k + 2) n i 0 l (l.length : Int) (i : Int) b = some (0, 0, 3) := fun b hb => by
          subst hb
          rw [varint_Get.j1, if_neg (by decide), if_pos (by omega)]
          exact hj2 k
        split
        · exact e _ (by decide)
        · exact e _ rfl
    · have hsA : ¬ (i = 9 ∧ 1 < c) := fun h => hs (.inl h)
      have hsB : ¬ (0 < i ∧ c = 0) := fun h => hs (.inr h)
      obtain ⟨b0, b1, b2, b3⟩ := acc_bound h9 hc.1 hc.2 hsA hn0 hn
      have e7 : wrap64 (7 * (i : Int)) = 7 * i := w64 (by omega) (by omega)
      have e1 : wrap64 ((i : Int) + 1) = ((i + 1 : Nat) : Int) := by rw [w64 (by omega) (by omega)]; omega
      have em : IntKind.u64.wrap (bits .and .u8 c 127) = c % 128 := by rw [u8_and127 c hc.1 (by omega), wu64 (by omega) (by omega)]
      have es : shl .u64 (c % 128) (7 * (i : Int)) = c % 128 * 2 ^ (7 * i) := by
        rw [shl64 _ _ (by omega), show (7 * (i : Int)).toNat = 7 * i from by omega, ← pow128, wu64 b0 b3]
      have eo : bits .or .u64 n (c % 128 * 2 ^ (7 * i)) = n + c % 128 * 128 ^ i := by
        rw [or_high64 (7 * i) n (c % 128) hn0 (by rw [← pow128]; exact hn) (by omega) (by rw [← pow128]; exact b1), ← pow128]
      have hj : ∀ k, varint_Get.l0 (k + 3) n l (l.length : Int) (i : Int) = (if bits .and .u8 c 128 = 0 then some (n + c % 128 * 128 ^ i, ((i + 1 : Nat) : Int), 0) else varint_Get.l0 k (n + c % 128 * 128 ^ i) l (l.length : Int) ((i + 1 : Nat) : Int)) := fun k => by
        rw [varint_Get.l0, if_pos (by omega), if_pos (by omega), if_pos (by omega), hr]
        have e : ∀ b : Bool, b = false → varint_Get.j1 (k + 2) n i c l (l.length : Int) (i : Int) b = (if bits .and .u8 c 128 = 0 then some (n + c % 128 * 128 ^ i, ((i + 1 : Nat) : Int), 0) else varint_Get.l0 k (n + c % 128 * 128 ^ i) l (l.length : Int) ((i + 1 : Nat) : Int)) := fun b hb => by
          subst hb
          have e2 : varint_Get.j2 (k + 1) n i c l (l.length : Int) (i : Int) false = (if bits .and .u8 c 128 = 0 then some (n + c % 128 * 128 ^ i, ((i + 1 : Nat) : Int), 0) else varint_Get.l0 k (n + c % 128 * 128 ^ i) l (l.length : Int) ((i + 1 : Nat) : Int)) := by
            rw [varint_Get.j2, if_neg (by decide), e7, if_pos (by omega), e1, em, es, eo]
          rw [varint_Get.j1, if_neg (by decide)]
          split
          · rw [show (c == 0) = false from beq_eq_false_iff_ne.mpr (fun h => hsB ⟨by omega, h⟩)]; exact e2
          · exact e2
        split
        · exact e _ (decide_eq_false (fun h => hsA ⟨by omega, h⟩))
        · exact e _ rfl
      rw [gt, if_neg hs]
      by_cases hc1 : c < 128
      · rw [if_pos hc1]
        refine ⟨3, fun k hk => ?_⟩
        obtain ⟨k, rfl⟩ : ∃ m, k = m + 3 := ⟨k - 3, by omega⟩
        dsimp only
        rw [hj, u8_and128 c hc.1 (by omega), if_pos hc1, if_pos rfl]; rfl
      · rw [if_neg hc1]
        have h8 : i ≤ 8 := by
          rcases Nat.lt_or_ge i 9 with h | h
          · omega
          · exact absurd ⟨by omega, by omega⟩ hsA
        obtain ⟨K, hK⟩ := ih (i + 1) (n + c % 128 * 128 ^ i) hd' (by omega) (by omega) (by omega) (b2 h8)
        refine ⟨K + 3, fun k hk => ?_⟩
        obtain ⟨k, rfl⟩ : ∃ m, k = m + 3 := ⟨k - 3, by omega⟩
        dsimp only
        rw [hj, u8_and128 c hc.1 (by omega), if_neg hc1, if_neg (by decide)]
        exact hK k (by omega)

theorem get_ev (l : List Int) (hl : l.length ≤ 9223372036854775) (hb : Bytes l) : Ev (fun k => varint_Get.f k l) (gt 0 0 l) :=
  get_loop l hl hb l 0 0 rfl (by omega) (by omega) (by omega) (by decide)

theorem rget_loop (l : List Int) (hl : l.length ≤ 9223372036854775) (hb : Bytes l) : ∀ (t : List Int) (i : Nat) (n u : Int), l.drop i = t → i ≤ l.length → i ≤ 9 → 0 ≤ n → n < 128 ^ i → u = 128 ^ i →
    Ev (fun k => garboardref02_Get.l0 k l n u (i : Int)) (gt i n t) := by
  intro t
  induction t with
  | nil =>
    intro i n u hd hi h9 hn0 hn hu
    have := drop_end hi hd
    refine Ev.step (f := fun _ => some (0, 0, 4)) (fun k => ?_) (Ev.now _)
    rw [garboardref02_Get.l0, if_neg (by omega)]
  | cons c t ih =>
    intro i n u hd hi h9 hn0 hn hu
    obtain ⟨hr, hlt, hd'⟩ := rd_drop hd
    have hc := hb c (List.mem_of_mem_drop (by rw [hd]; exact List.mem_cons_self))
    by_cases hsA : i = 9 ∧ 1 < c
    · rw [gt, if_pos (.inl hsA)]
      obtain ⟨rfl, h1⟩ := hsA
      refine ⟨2, fun k hk => ?_⟩
      obtain ⟨k, rfl⟩ : ∃ m, k = m + 2 := ⟨k - 2, by omega⟩
      dsimp only
      rw [garboardref02_Get.l0, if_pos (by omega), if_pos (by omega), if_pos (by rfl), hr, decide_eq_true h1, garboardref02_Get.j1, if_pos rfl]
    · obtain ⟨b0, b1, b2, b3⟩ := acc_bound h9 hc.1 hc.2 hsA hn0 hn
      have hp := pow_pos i
      have e1 : wrap64 ((i : Int) + 1) = ((i + 1 : Nat) : Int) := by rw [w64 (by omega) (by omega)]; omega
      have et : Int.tmod c 128 = c % 128 := Int.tmod_eq_emod_of_nonneg hc.1
      have ex : IntKind.u64.wrap (n + IntKind.u64.wrap (u * IntKind.u64.wrap (Int.tmod c 128))) = n + c % 128 * 128 ^ i := by
        rw [et, wu64 (show 0 ≤ c % 128 by omega) (by omega), hu, Int.mul_comm, wu64 b0 b3, wu64 (by omega) b1]
      have hj : ∀ k, garboardref02_Get.l0 (k + 2) l n u (i : Int) = (if c < 128 then (if c = 0 then (if (i : Int) > 0 then some (0, 0, 3) else some (n + c % 128 * 128 ^ i, ((i + 1 : Nat) : Int), 0)) else some (n + c % 128 * 128 ^ i, ((i + 1 : Nat) : Int), 0)) else garboardref02_Get.l0 k l (n + c % 128 * 128 ^ i) (IntKind.u64.wrap (u * 128)) ((i + 1 : Nat) : Int)) := fun k => by
        have e : ∀ b : Bool, b = false → garboardref02_Get.j1 (k + 1) l n u i c b = (if c < 128 then (if c = 0 then (if (i : Int) > 0 then some (0, 0, 3) else some (n + c % 128 * 128 ^ i, ((i + 1 : Nat) : Int), 0)) else some (n + c % 128 * 128 ^ i, ((i + 1 : Nat) : Int), 0)) else garboardref02_Get.l0 k l (n + c % 128 * 128 ^ i) (IntKind.u64.wrap (u * 128)) ((i + 1 : Nat) : Int)) := fun b hb => by
          subst hb
          rw [garboardref02_Get.j1, if_neg (by decide), ex, e1]
        rw [garboardref02_Get.l0, if_pos (by omega), if_pos (by omega), hr]
        split
        · exact e _ (decide_eq_false (fun h => hsA ⟨by omega, h⟩))
        · exact e _ rfl
      by_cases hsB : 0 < i ∧ c = 0
      · rw [gt, if_pos (.inr hsB)]
        obtain ⟨h0, rfl⟩ := hsB
        refine ⟨2, fun k hk => ?_⟩
        obtain ⟨k, rfl⟩ : ∃ m, k = m + 2 := ⟨k - 2, by omega⟩
        dsimp only
        rw [hj, if_pos (by decide), if_pos rfl, if_pos (by omega)]
      · rw [gt, if_neg (fun h => h.elim hsA hsB)]
        by_cases hc1 : c < 128
        · rw [if_pos hc1]
          refine ⟨2, fun k hk => ?_⟩
          obtain ⟨k, rfl⟩ : ∃ m, k = m + 2 := ⟨k - 2, by omega⟩
          dsimp only
          rw [hj, if_pos hc1]
          split
          · rw [if_neg (by omega)]; rfl
          · rfl
        · rw [if_neg hc1]
          have h8 : i ≤ 8 := by
            rcases Nat.lt_or_ge i 9 with h | h
            · omega
            · exact absurd ⟨by omega, by omega⟩ hsA
          have hu' : IntKind.u64.wrap (u * 128) = 128 ^ (i + 1) := by
            have := pow_le9 (i := i + 1) (by omega)
            have a3 : (128 : Int) ^ (i + 1) = 128 ^ i * 128 := Int.pow_succ ..
            rw [hu, ← a3]; exact wu64 (by omega) (by omega)
          obtain ⟨K, hK⟩ := ih (i + 1) (n + c % 128 * 128 ^ i) (128 ^ (i + 1)) hd' (by omega) (by omega) (by omega) (b2 h8) rfl
          refine ⟨K + 2, fun k hk => ?_⟩
          obtain ⟨k, rfl⟩ : ∃ m, k = m + 2 := ⟨k - 2, by omega⟩
          dsimp only
          rw [hj, if_neg hc1, hu']
          exact hK k (by omega)

theorem rget_ev (l : List Int) (hl : l.length ≤ 9223372036854775) (hb : Bytes l) : Ev (fun k => garboardref02_Get.f k l) (gt 0 0 l) :=
  rget_loop l hl hb l 0 0 1 rfl (by omega) (by omega) (by omega) (by decide) rfl

end Go.Proofs.Ytbfmbjkalldonaa.Var
namespace Go.Proofs.Ytbfmbjkalldonaa.Var
set_option linter.unusedVariables false
set_option linter.unusedSimpArgs false
open Go.RowKit Go.Proofs.Ytbfmbjkalldonaa.PA Go.Proofs.YtbfmbjkalldonaaW.PrintWords Go.Proofs.YtbfmbjkalldonaaW.PrintLast Go.Proofs.YtbfmbjkalldonaaW.PrintMore Go.Proofs.Ytbfmbjkalldonaa.Base

/-! ### a number's bytes -/
def vb (n : Nat) : List Int := if n < 128 then [(n : Int)] else ((n % 128 + 128 : Nat) : Int) :: vb (n / 128)
theorem vb_small {n : Nat} (h : n < 128) : vb n = [(n : Int)] := by rw [vb, if_pos h]
theorem vb_big {n : Nat} (h : ¬ n < 128) : vb n = ((n % 128 + 128 : Nat) : Int) :: vb (n / 128) := by rw [vb, if_neg h]
theorem vb_len (k : Nat) : ∀ n : Nat, n < 128 ^ (k + 1) → (vb n).length ≤ k + 1 := by
  induction k with
  | zero =>
    intro n h
    rw [vb_small (by simpa using h)]; simp
  | succ k ih =>
    intro n h
    by_cases hs : n < 128
    · rw [vb_small hs]; simp
    · rw [vb_big hs, List.length_cons]
      have := ih (n / 128) (by rw [Nat.pow_succ] at h; omega)
      omega
theorem vb_len10 {n : Nat} (h : n < 18446744073709551616) : (vb n).length ≤ 10 := vb_len 9 n (by
  have e : 128 ^ (9 + 1) = 1180591620717411303424 := by decide
  omega)
theorem vb_pos (n : Nat) : 0 < (vb n).length := by
  by_cases h : n < 128
  · rw [vb_small h]; simp
  · rw [vb_big h]; simp
theorem vb_bytes (n : Nat) : ∀ x ∈ vb n, 0 ≤ x ∧ x ≤ 255 := by
  induction n using Nat.strongRecOn with
  | ind n ih =>
    by_cases h : n < 128
    · rw [vb_small h]; intro x hx
      simp only [List.mem_singleton] at hx; omega
    · rw [vb_big h]; intro x hx
      rcases List.mem_cons.mp hx with rfl | hx
      · omega
      · exact ih (n / 128) (by omega) x hx

def flat (l : List Int) : List Int := l.flatMap fun n => vb n.toNat
theorem flat_cons (x : Int) (l : List Int) : flat (x :: l) = vb x.toNat ++ flat l := rfl
theorem flat_len (l : List Int) (h : ∀ x ∈ l, (Lit.int .u64 x).wf = true) : (flat l).length ≤ 10 * l.length := by
  induction l with
  | nil => simp [flat]
  | cons x l ih =>
    rw [flat_cons, List.length_append, List.length_cons]
    have hx := wf_u64 (h x List.mem_cons_self)
    have := vb_len10 (n := x.toNat) (by omega)
    have := ih (fun y hy => h y (List.mem_cons_of_mem _ hy))
    omega

theorem put_inner (l : List Int) (L i : Int) (r : List Int) (n : Nat) : ∀ x5 : List Int, x5.length + (vb n).length < 140737488355328 →
    Ev (fun k => varint_Put.l0 k (x5 ++ vb n) l L (wrap64 (i + 1))) r → Ev (fun k => varint_Put.l1 k x5 (n : Int) l L i) r := by
  induction n using Nat.strongRecOn with
  | ind n ih =>
    intro x5 hl he
    by_cases h : n < 128
    · rw [vb_small h] at hl he
      refine Ev.step (fun k => ?_) he
      simp only [List.length_singleton] at hl
      rw [varint_Put.l1, if_neg (by omega), if_pos (by omega), show (n : Int) % 256 = n from by omega]
    · rw [vb_big h] at hl he
      simp only [List.length_cons] at hl
      refine Ev.step (f := fun k => varint_Put.l1 k (x5 ++ [((n % 128 + 128 : Nat) : Int)]) ((n / 128 : Nat) : Int) l L i) (fun k => ?_) (ih (n / 128) (by omega) _ (by simp only [List.length_append, List.length_singleton]; omega) (by rw [List.append_assoc]; exact he))
      rw [varint_Put.l1, if_pos (by omega), if_pos (by omega), Base.u8_or128 _ (by omega) (by omega), show (n : Int) % 256 % 128 + 128 = ((n % 128 + 128 : Nat) : Int) from by omega]
      rfl
theorem put_loop (l : List Int) (hl : l.length ≤ 9223372036854775) (hw : ∀ x ∈ l, (Lit.int .u64 x).wf = true) : ∀ (t : List Int) (i : Nat) (x5 : List Int), l.drop i = t → i ≤ l.length → x5.length + 10 * t.length < 140737488355328 →
    Ev (fun k => varint_Put.l0 k x5 l (l.length : Int) (i : Int)) (x5 ++ flat t) := by
  intro t
  induction t with
  | nil =>
    intro i x5 hd hi hb
    have := drop_end hi hd
    refine Ev.step (f := fun _ => some (x5 ++ flat [])) (fun k => ?_) (Ev.now _)
    rw [varint_Put.l0, if_neg (by omega)]; simp [flat]
  | cons x t ih =>
    intro i x5 hd hi hb
    obtain ⟨hr, hlt, hd'⟩ := rd_drop hd
    have hx := wf_u64 (hw x (List.mem_of_mem_drop (by rw [hd]; exact List.mem_cons_self)))
    have h10 := vb_len10 (n := x.toNat) (by omega)
    simp only [List.length_cons] at hb
    rw [flat_cons, ← List.append_assoc]
    have he := ih (i + 1) (x5 ++ vb x.toNat) hd' (by omega) (by rw [List.length_append]; omega)
    refine Ev.step (f := fun k => varint_Put.l1 k x5 ((x.toNat : Nat) : Int) l (l.length : Int) (i : Int)) (fun k => ?_) (put_inner l _ _ _ x.toNat x5 (by omega) (by rw [w64 (by omega) (by omega)]; exact he))
    rw [varint_Put.l0, if_pos (by omega), if_pos (by omega), if_pos (by omega), hr, show ((x.toNat : Nat) : Int) = x from by omega]
theorem put_ev (b l : List Int) (hb : b.length ≤ 100000000000000) (hl : l.length ≤ 1000000000000) (hw : ∀ x ∈ l, (Lit.int .u64 x).wf = true) : Ev (fun k => varint_Put.f k b l) (b ++ flat l) := by
  unfold varint_Put.f
  rw [show bytes_Clone.f b = some b from by rw [bytes_Clone.f, if_pos (by omega)]]
  exact put_loop l (by omega) hw l 0 b rfl (by omega) (by omega)

/-! ### how many bytes -/
/-! ### folding -/
theorem xor_zero_u64 (x : Int) (h0 : 0 ≤ x) (h1 : x < 18446744073709551616) : bits .xor .u64 x 0 = x := by
  obtain ⟨a, rfl⟩ := Int.eq_ofNat_of_zero_le h0
  have := bits_xor_u64_nat a 0 (by omega) (by decide)
  rw [Nat.xor_zero] at this; exact this
theorem xor_ones_u64 (x : Int) (h0 : 0 ≤ x) (h1 : x < 18446744073709551616) : bits .xor .u64 x 18446744073709551615 = 18446744073709551615 - x := by
  have h : BitVec.ofInt 64 (18446744073709551615 : Int) = BitVec.allOnes 64 := by decide +kernel
  show IntKind.u64.wrap ((BitVec.ofInt 64 x ^^^ BitVec.ofInt 64 18446744073709551615).toNat : Int) = _
  rw [h, BitVec.xor_allOnes, BitVec.toNat_not, BitVec.toNat_ofInt, wu64']
  omega
theorem xor_zero_i64 (x : Int) (h0 : 0 ≤ x) (h1 : x ≤ 9223372036854775807) : bits .xor .i64 x 0 = x := by
  have h : BitVec.ofInt 64 (0 : Int) = 0#64 := by decide +kernel
  show IntKind.i64.wrap ((BitVec.ofInt 64 x ^^^ BitVec.ofInt 64 0).toNat : Int) = _
  rw [h, BitVec.xor_zero, BitVec.toNat_ofInt, IntKind.wrap_i64]
  omega
theorem xor_ones_i64 (x : Int) (h0 : 0 ≤ x) (h1 : x ≤ 9223372036854775807) : bits .xor .i64 x (-1) = -1 - x := by
  have h : BitVec.ofInt 64 (-1 : Int) = BitVec.allOnes 64 := by decide +kernel
  show IntKind.i64.wrap ((BitVec.ofInt 64 x ^^^ BitVec.ofInt 64 (-1)).toNat : Int) = _
  rw [h, BitVec.xor_allOnes, BitVec.toNat_not, BitVec.toNat_ofInt, IntKind.wrap_i64]
  omega
def foldI (a : Int) : Int := if a ≥ 0 then 2 * a else -2 * a - 1
def unfoldI (a : Int) : Int := if a % 2 = 0 then a / 2 else -(a / 2) - 1
theorem and1 (a : Int) (h0 : 0 ≤ a) (h1 : a < 18446744073709551616) : bits .and .u64 a 1 = a % 2 := and_mask64 1 (by decide) a h0 h1
end Go.Proofs.Ytbfmbjkalldonaa.Var
namespace Go.Proofs.Ytbfmbjkalldonaa.Var
set_option linter.unusedVariables false
set_option linter.unusedSimpArgs false
open Go.RowKit Go.Proofs.Ytbfmbjkalldonaa.PA Go.Proofs.YtbfmbjkalldonaaW.PrintWords Go.Proofs.YtbfmbjkalldonaaW.PrintLast Go.Proofs.YtbfmbjkalldonaaW.PrintMore Go.Proofs.Ytbfmbjkalldonaa.Base

theorem p128s (i : Nat) : (128 : Int) ^ (i + 1) = 128 ^ i * 128 := Int.pow_succ ..
/-- What is put is got, whatever stands behind. -/
theorem gt_vb (t : List Int) (n : Nat) : ∀ (i : Nat) (acc : Int), i ≤ 9 → (n : Int) * 128 ^ i < 18446744073709551616 → (0 < i → 0 < n) → gt i acc (vb n ++ t) = (acc + (n : Int) * 128 ^ i, (i : Int) + (vb n).length, 0) := by
  induction n using Nat.strongRecOn with
  | ind n ih =>
    intro i acc hi hb h0
    have hp := pow_pos i
    have e9 : (128 : Int) ^ 9 = 9223372036854775808 := by decide
    by_cases h : n < 128
    · rw [vb_small h, List.singleton_append, gt, if_neg ?_, if_pos (by omega), List.length_singleton, show (n : Int) % 128 = n from by omega]
      · rfl
      · rintro (⟨rfl, h1⟩ | ⟨h1, h2⟩)
        · rw [e9] at hb; omega
        · have := h0 h1; omega
    · have h8 : i ≤ 8 := by
        rcases Nat.lt_or_ge i 9 with h' | h'
        · omega
        · exfalso
          have : i = 9 := by omega
          subst this
          rw [e9] at hb; omega
      have hs := p128s i
      have hq : ((n / 128 : Nat) : Int) * 128 ^ (i + 1) ≤ (n : Int) * 128 ^ i := by
        rw [hs, Int.mul_comm (128 ^ i) 128, ← Int.mul_assoc]
        exact Int.mul_le_mul_of_nonneg_right (by omega) (by omega)
      rw [vb_big h, List.cons_append, gt, if_neg (by omega), if_neg (by omega), ih (n / 128) (by omega) (i + 1) _ (by omega) (by omega) (by omega)]
      refine Prod.ext ?_ (Prod.ext ?_ rfl)
      · show acc + ((n % 128 + 128 : Nat) : Int) % 128 * 128 ^ i + ((n / 128 : Nat) : Int) * 128 ^ (i + 1) = acc + (n : Int) * 128 ^ i
        have e1 : ((n % 128 + 128 : Nat) : Int) % 128 = ((n % 128 : Nat) : Int) := by omega
        have e2 : (n : Int) = ((n % 128 : Nat) : Int) + 128 * ((n / 128 : Nat) : Int) := by omega
        rw [e1, hs]
        rw [show (n : Int) * 128 ^ i = (((n % 128 : Nat) : Int) + 128 * ((n / 128 : Nat) : Int)) * 128 ^ i from by rw [← e2]]
        rw [Int.add_mul, Int.mul_comm 128 ((n / 128 : Nat) : Int), Int.mul_assoc, Int.mul_comm 128 (128 ^ i)]
        omega
      · show ((i + 1 : Nat) : Int) + ((vb (n / 128)).length : Int) = (i : Int) + (((vb (n / 128)).length + 1 : Nat) : Int)
        omega
theorem gt_vb0 (t : List Int) (n : Nat) (h : n < 18446744073709551616) : gt 0 0 (vb n ++ t) = ((n : Int), ((vb n).length : Int), 0) := by
  rw [gt_vb t n 0 0 (by omega) (by simp; omega) (by omega)]; simp
/-- What is got is put as the same bytes. -/
theorem vb_gt : ∀ (l : List Int) (i : Nat) (acc n k : Int), Bytes l → i ≤ 9 → 0 ≤ acc → acc < 128 ^ i → gt i acc l = (n, k, 0) →
    ∃ m : Nat, n = acc + (m : Int) * 128 ^ i ∧ (0 < i → 0 < m) ∧ k = (i : Int) + ((vb m).length : Int) ∧ (vb m).length ≤ l.length ∧ l.take (vb m).length = vb m ∧ n < 18446744073709551616 := by
  intro l
  induction l with
  | nil => intro i acc n k _ _ _ _ h; simp [gt] at h
  | cons c t ih =>
    intro i acc n k hb hi h0 h1 h
    have hc := hb c List.mem_cons_self
    rw [gt] at h
    by_cases hs : (i = 9 ∧ 1 < c) ∨ (0 < i ∧ c = 0)
    · rw [if_pos hs] at h; simp at h
    · rw [if_neg hs] at h
      have hsA : ¬ (i = 9 ∧ 1 < c) := fun h => hs (.inl h)
      have hsB : ¬ (0 < i ∧ c = 0) := fun h => hs (.inr h)
      obtain ⟨b0, b1, b2, b3⟩ := acc_bound hi hc.1 hc.2 hsA h0 h1
      by_cases hc1 : c < 128
      · rw [if_pos hc1] at h
        simp only [Prod.mk.injEq] at h
        obtain ⟨rfl, rfl, _⟩ := h
        refine ⟨c.toNat, ?_, fun h => ?_, ?_, ?_, ?_, b1⟩
        · rw [show ((c.toNat : Nat) : Int) = c from by omega, show c % 128 = c from by omega]
        · have : ¬ c = 0 := fun e => hsB ⟨h, e⟩
          omega
        · rw [vb_small (by omega)]; rfl
        · rw [vb_small (by omega)]; simp
        · rw [vb_small (by omega)]; simp; omega
      · rw [if_neg hc1] at h
        have h8 : i ≤ 8 := by
          rcases Nat.lt_or_ge i 9 with h' | h'
          · omega
          · exact absurd ⟨by omega, by omega⟩ hsA
        obtain ⟨m, e1, e2, e3, e4, e5, e6⟩ := ih (i + 1) _ n k (fun x hx => hb x (List.mem_cons_of_mem _ hx)) (by omega) (by omega) (b2 h8) h
        have hm := e2 (by omega)
        have hv : vb ((c % 128).toNat + 128 * m) = c :: vb m := by
          rw [vb_big (by omega), show ((c % 128).toNat + 128 * m) / 128 = m from by omega, show ((((c % 128).toNat + 128 * m) % 128 + 128 : Nat) : Int) = c from by omega]
        refine ⟨(c % 128).toNat + 128 * m, ?_, fun _ => by omega, ?_, ?_, ?_, e6⟩
        · rw [e1, p128s, show (((c % 128).toNat + 128 * m : Nat) : Int) = c % 128 + 128 * (m : Int) from by omega, Int.add_mul, Int.mul_comm 128 (m : Int), Int.mul_assoc, Int.mul_comm 128 (128 ^ i)]
          omega
        · rw [hv, e3, List.length_cons]; omega
        · rw [hv, List.length_cons, List.length_cons]; omega
        · rw [hv, List.length_cons, List.take_succ_cons, e5]
theorem vb_gt0 {l : List Int} {n k : Int} (hb : Bytes l) (h : gt 0 0 l = (n, k, 0)) : 0 ≤ n ∧ n < 18446744073709551616 ∧ k = ((vb n.toNat).length : Int) ∧ (vb n.toNat).length ≤ l.length ∧ l.take (vb n.toNat).length = vb n.toNat ∧ 1 ≤ k ∧ k ≤ l.length := by
  obtain ⟨m, e1, e2, e3, e4, e5, e6⟩ := vb_gt l 0 0 n k hb (by omega) (by omega) (by decide) h
  have : n = m := by simpa using e1
  subst this
  have hp := vb_pos m
  refine ⟨by omega, by omega, ?_, by simpa using e4, by simpa using e5, by omega, by omega⟩
  simpa using e3
/-- An error tells nothing else. -/
theorem gt_err : ∀ (l : List Int) (i : Nat) (acc n k e : Int), gt i acc l = (n, k, e) → e ≠ 0 → n = 0 ∧ k = 0 ∧ (e = 3 ∨ e = 4) := by
  intro l
  induction l with
  | nil => intro i acc n k e h he; simp only [gt, Prod.mk.injEq] at h; omega
  | cons c t ih =>
    intro i acc n k e h he
    rw [gt] at h
    split at h
    · simp only [Prod.mk.injEq] at h; omega
    · split at h
      · simp only [Prod.mk.injEq] at h; omega
      · exact ih _ _ _ _ _ h he

end Go.Proofs.Ytbfmbjkalldonaa.Var
namespace Go.Proofs.Ytbfmbjkalldonaa.Lst
set_option linter.unusedVariables false
set_option linter.unusedSimpArgs false
open Go.RowKit Go.Proofs.YtbfmbjkalldonaaW.PrintWords Go.Proofs.YtbfmbjkalldonaaW.PrintLast Go.Proofs.YtbfmbjkalldonaaW.PrintMore
structure En (α : Type) where
  enc : α → List Value
  sz : Nat
  len : ∀ x, (enc x).length = sz
  one : ∀ x, ∀ u ∈ enc x, u.oneCell' = true
  pos : 0 < sz
section
variable {α : Type} (d : En α)
theorem flat_len (l : List α) : (l.flatMap d.enc).length = l.length * d.sz := by
  induction l with
  | nil => simp
  | cons x l ih => rw [List.flatMap_cons, List.length_append, ih, d.len, List.length_cons, Nat.add_mul]; omega
theorem flat_one (l : List α) : ∀ u ∈ l.flatMap d.enc, u.oneCell' = true := fun u hu => by
  obtain ⟨x, _, hx⟩ := List.mem_flatMap.1 hu
  exact d.one x u hx
theorem flat_get : ∀ (l : List α) (i : Nat) (x : α), l[i]? = some x → ∀ (j : Nat) (u : Value), (d.enc x)[j]? = some u → (l.flatMap d.enc)[i * d.sz + j]? = some u
  | [], i, x, h, _, _, _ => by simp at h
  | y :: l, 0, x, h, j, u, hj => by
    simp only [List.getElem?_cons_zero, Option.some.injEq] at h
    subst h
    have hl : j < (d.enc y).length := (List.getElem?_eq_some_iff.1 hj).1
    rw [List.flatMap_cons, Nat.zero_mul, Nat.zero_add, List.getElem?_append_left hl]
    exact hj
  | y :: l, i + 1, x, h, j, u, hj => by
    rw [List.getElem?_cons_succ] at h
    have := flat_get l i x h j u hj
    rw [List.flatMap_cons, List.getElem?_append_right (by rw [d.len, Nat.add_mul]; omega), d.len]
    rw [show (i + 1) * d.sz + j - d.sz = i * d.sz + j by rw [Nat.add_mul]; omega]
    exact this
theorem flat_set : ∀ (l : List α) (i : Nat) (x x' : α) (j : Nat) (u : Value), l[i]? = some x → d.enc x' = (d.enc x).set j u → j < d.sz → (l.set i x').flatMap d.enc = (l.flatMap d.enc).set (i * d.sz + j) u
  | [], i, x, _, _, _, h, _, _ => by simp at h
  | y :: l, 0, x, x', j, u, h, he, hj => by
    simp only [List.getElem?_cons_zero, Option.some.injEq] at h
    subst h
    rw [List.set_cons_zero, List.flatMap_cons, List.flatMap_cons, he, Nat.zero_mul, Nat.zero_add, List.set_append_left _ _ (by rw [d.len]; exact hj)]
  | y :: l, i + 1, x, x', j, u, h, he, hj => by
    rw [List.getElem?_cons_succ] at h
    rw [List.set_cons_succ, List.flatMap_cons, List.flatMap_cons, flat_set l i x x' j u h he hj, List.set_append_right _ _ (by rw [d.len, Nat.add_mul]; omega), d.len]
    rw [show (i + 1) * d.sz + j - d.sz = i * d.sz + j by rw [Nat.add_mul]; omega]
end
def Ls {α : Type} (d : En α) (e : TypeId) (W : World) (base : Nat) (v : Value) (l : List α) : Prop := W.ownsRow base e d.sz v l.length (l.flatMap d.enc)
section
variable {α : Type} {d : En α} {e : TypeId} {W W' : World} {base : Nat} {v : Value} {l : List α}
theorem Ls.nil (d : En α) (e : TypeId) (W : World) (base : Nat) : Ls d e W base (.slice none 0 0) [] := World.ownsRow_nil W base e d.sz
theorem Ls.form (h : Ls d e W base v l) : ∃ A c, v = .slice A l.length c ∧ l.length ≤ c ∧ l.length ≤ maxLen := by
  rcases h.2 with ⟨rfl, h0⟩ | ⟨g, cap, cur, rfl, _, _, hc, hm, _⟩
  · exact ⟨none, 0, by rw [h0], by omega, by unfold maxLen; omega⟩
  · exact ⟨_, cap, rfl, hc, Nat.le_trans hc hm⟩
theorem Ls.at {A : Option Addr} {n c : Nat} (h : Ls d e W base (.slice A n c) l) {i : Nat} {x : α} (hx : l[i]? = some x) : ∃ g, A = some ⟨g, 0, none⟩ ∧ base ≤ g ∧ g < W.heap.size ∧ (∀ j u, (d.enc x)[j]? = some u → W.cell? ⟨g, i * d.sz + j, none⟩ = some u) ∧ (∀ k, W.frozen? ⟨g, k, none⟩ = false) ∧ ∃ cur, W.heap[g]? = some (.cells cur e (0, 0)) := by
  have hi : i < l.length := (List.getElem?_eq_some_iff.1 hx).1
  have hh := h
  rcases h.2 with ⟨_, h0⟩ | ⟨g, cap, cur, hv, hb, hg, _⟩
  · omega
  · injection hv with hA hn hc
    subst hA
    refine ⟨g, rfl, hb, (Array.getElem?_eq_some_iff.1 hg).1, fun j u hu => ?_, fun k => blk_frozen hg k, cur, hg⟩
    have := World.ownsRow.cells hh (g := g) rfl (i * d.sz + j) u (flat_get d l i x hx j u hu)
    rw [add_plain] at this
    exact this
theorem Ls.put {g n c : Nat} (h : Ls d e W base (.slice (some ⟨g, 0, none⟩) n c) l) {i j : Nat} {x x' : α} {u : Value} (hx : l[i]? = some x) (hj : j < d.sz) (he : d.enc x' = (d.enc x).set j u) : Ls d e (W.setCell ⟨g, i * d.sz + j, none⟩ u) base (.slice (some ⟨g, 0, none⟩) n c) (l.set i x') := by
  have hi : i < l.length := (List.getElem?_eq_some_iff.1 hx).1
  obtain ⟨h1, h2⟩ := h
  refine ⟨by rw [flat_len, List.length_set], ?_⟩
  rw [List.length_set]
  rcases h2 with ⟨h2, _⟩ | ⟨g', cap, cur, hv, hb, hg, hc, hm, hs, ht⟩
  · cases h2
  · injection hv with hA hn hcap
    injection hA with hA
    injection hA with hA
    subst hA
    refine .inr ⟨g, cap, cur.setIfInBounds (i * d.sz + j) u, by rw [hn, hcap], hb, blk_set hg _ u, hc, hm, by rw [Array.size_setIfInBounds]; exact hs, ?_⟩
    rw [flat_set d l i x x' j u hx he hj, ← ht, Array.toList_setIfInBounds, List.take_set]
theorem Ls.own (h : Ls d e W base v l) : ∀ k, v.ownBlock = some k → base ≤ k ∧ k < W.heap.size ∧ ∃ cur, W.heap[k]? = some (.cells cur e (0, 0)) := fun k hk => by
  obtain ⟨a, b⟩ := World.ownsRow.lt h k hk
  exact ⟨a, b, own_typed h k hk⟩
theorem Ls.grown {row : Option Nat} (h : Ls d e W base v l) (hg : W.grownBy W' row) (hne : v.ownBlock = none ∨ v.ownBlock ≠ row) : Ls d e W' base v l := World.ownsRow.kept h hg hne
theorem Ls.below (h : Ls d e W base v l) (hb : Below W.heap.size W W') : Ls d e W' base v l := pw_own_below h hb
theorem Ls.drew (h : Ls d e W base v l) (n : Nat) : Ls d e (W.drewN n) base v l := h
theorem Ls.lower {base' : Nat} (h : Ls d e W base v l) (hb : base' ≤ base) : Ls d e W base' v l := own_weaken h hb
theorem Ls.keep {g : Nat} {row : Option Nat} (h : Ls d e W base v l) (hk : KeepBut W W' g row) (h1 : v.ownBlock ≠ some g) (h2 : v.ownBlock = none ∨ v.ownBlock ≠ row) : Ls d e W' base v l := KeepBut.own hk h h1 h2
/-- another block is written -/
theorem Ls.far {p : Addr} (h : Ls d e W base v l) (hne : some p.block ≠ v.ownBlock) (u : Value) : Ls d e (W.setCell p u) base v l := own_setCell h hne u
/-- by types: a block of another type is not its row -/
theorem Ls.ne {g t : Nat} {cs : Array Value} (h : Ls d e W base v l) (hg : W.heap[g]? = some (.cells cs t (0, 0))) (ht : e ≠ t) : some g ≠ v.ownBlock := own_ne h hg ht
theorem Ls.neMap {b : Nat} {es : Array MapEntry} {cl : Nat} (h : Ls d e W base v l) (hg : W.heap[b]? = some (.map es cl)) : some b ≠ v.ownBlock := fun e' => by
  obtain ⟨cur, hc⟩ := (h.own b e'.symm).2.2
  rw [hg] at hc
  cases hc
end
/-! ### at the operation -/
section
variable {α : Type} {d : En α} {P : Program} {ops : Array Oper} {rest : List Oper} {o : Oper} {a : Act} {Q : Exit → Act → World → Prop} {W : World}
/-- 'append(out, x)': x lies in a fresh block. -/
theorem wpList_push (hgd : o.guard = none) (s x : Operand) (t e : TypeId) (z : Value) (bytes : Nat)
    (ho : o.op = .call { callee := .builtin .append, args := #[s, x], argTypes := #[t, t] })
    (ht : P.underlying t = some (.slice e)) (hinfo : (P.info? e).map (fun i => (i.zero, i.size, i.bytes)) = some (some z, d.sz, bytes)) (hz : z.cells.size = d.sz)
    (base : Nat) (v : Value) (l : List α) (y : α) (hs : a.eval s = v) (nb : Nat) (hx : a.eval x = .slice (some ⟨nb, 0, none⟩) 1 1) (hnb : nb = W.heap.size)
    (HO : Ls d e W base v l) (hbase : base ≤ W.heap.size) (hl : (l.length + 1) * bytes ≤ 140737488355328) (hb0 : 0 < bytes) (C : Array Value) (hC : C = (d.enc y).toArray)
    (h : ∀ v1 w1, Ls d e w1 base v1 (l ++ [y]) → W.grownBy w1 v.ownBlock → (v1.ownBlock = v.ownBlock ∨ ∃ b, v1.ownBlock = some b ∧ W.heap.size ≤ b) → wpList P ops Q rest (a.put o.dst v1) w1) :
    wpList P ops Q (o :: rest) a (W.alloc (.cells C e)) := by
  subst hC
  subst hnb
  refine print_append_cells (w0 := W) base hgd s x t e z d.sz bytes ho ht hinfo hz d.pos hb0 v l.length (l.flatMap d.enc) (d.enc y) hs hx (d.len y) (d.one y) HO (Below.refl _ _) hbase hl fun v1 w1 h1 _ h3 h4 => h v1 w1 ?_ h3 h4
  show w1.ownsRow base e d.sz v1 (l ++ [y]).length ((l ++ [y]).flatMap d.enc)
  rw [List.length_append, List.flatMap_append]
  simpa using h1
/-- 'append(out, xs...)': xs a row of its own, or a part of one. -/
theorem wpList_cat (hgd : o.guard = none) (s x : Operand) (t e : TypeId) (z : Value) (bytes : Nat)
    (ho : o.op = .call { callee := .builtin .append, args := #[s, x], argTypes := #[t, t] })
    (ht : P.underlying t = some (.slice e)) (hinfo : (P.info? e).map (fun i => (i.zero, i.size, i.bytes)) = some (some z, d.sz, bytes)) (hz : z.cells.size = d.sz)
    (base : Nat) (v : Value) (l m : List α) (hs : a.eval s = v) (ad : Addr) (c : Nat) (hx : a.eval x = .slice (some ad) m.length c) (hm : ∀ j u, (m.flatMap d.enc)[j]? = some u → W.cell? (ad.add j) = some u)
    (HO : Ls d e W base v l) (hbase : base ≤ W.heap.size) (hl : (l.length + m.length) * bytes ≤ 140737488355328) (hb0 : 0 < bytes)
    (h : ∀ v1 w1, Ls d e w1 base v1 (l ++ m) → W.grownBy w1 v.ownBlock → (v1.ownBlock = v.ownBlock ∨ ∃ b, v1.ownBlock = some b ∧ W.heap.size ≤ b) → wpList P ops Q rest (a.put o.dst v1) w1) :
    wpList P ops Q (o :: rest) a W := by
  obtain ⟨i0, hi, hzz⟩ := Option.map_eq_some_iff.1 hinfo
  simp only [Prod.mk.injEq] at hzz
  obtain ⟨hz0, hz1, hz2⟩ := hzz
  have hlen : l.length + m.length ≤ 140737488355328 := Nat.le_trans (Nat.le_mul_of_pos_right _ hb0) hl
  refine wpList_append_own_at W hgd s x t ho base e i0 z d.sz bytes ht hi hz0 hz1 hz2 hz d.pos v l.length (l.flatMap d.enc) hs HO ad m.length c (m.flatMap d.enc) hx (flat_len d m) hm (flat_one d m) (by simp only [maxLen]; omega) hl hbase fun v1 w1 h1 h2 _ h3 => h v1 w1 ?_ h2 (h3.imp id fun e' => ⟨_, e', Nat.le_refl _⟩)
  show w1.ownsRow base e d.sz v1 (l ++ m).length ((l ++ m).flatMap d.enc)
  rw [List.length_append, List.flatMap_append]
  exact h1
end
/-- 'append([]T(nil), xs...)': xs a whole row of its own. -/
theorem wpList_copy {α : Type} {d : En α} {P : Program} {ops : Array Oper} {rest : List Oper} {o : Oper} {a : Act} {Q : Exit → Act → World → Prop} {W : World} (hgd : o.guard = none) (s x : Operand) (t e : TypeId) (z : Value) (bytes : Nat)
    (ho : o.op = .call { callee := .builtin .append, args := #[s, x], argTypes := #[t, t] })
    (ht : P.underlying t = some (.slice e)) (hinfo : (P.info? e).map (fun i => (i.zero, i.size, i.bytes)) = some (some z, d.sz, bytes)) (hz : z.cells.size = d.sz)
    (base : Nat) (v : Value) (l : List α) (hs : a.eval s = .slice none 0 0) (hx : a.eval x = v) (HO : Ls d e W base v l) (hl : l.length * bytes ≤ 140737488355328) (hb0 : 0 < bytes)
    (h : ∀ v1 w1, Ls d e w1 W.heap.size v1 l → W.grownBy w1 none → (v1.ownBlock = none ∨ ∃ b, v1.ownBlock = some b ∧ W.heap.size ≤ b) → wpList P ops Q rest (a.put o.dst v1) w1) :
    wpList P ops Q (o :: rest) a W := by
  rcases HO.2 with ⟨rfl, h0⟩ | ⟨g, cap, cur, rfl, hb, hg, hc, hm, _⟩
  · obtain rfl : l = [] := List.length_eq_zero_iff.1 h0
    obtain ⟨i0, hi, hzz⟩ := Option.map_eq_some_iff.1 hinfo
    exact wpList_append_own_none hgd s x t ho W.heap.size e i0 d.sz ht hi (.slice none 0 0) 0 [] hs (World.ownsRow_nil ..) hx (h _ _ (Ls.nil d e W _) (World.grownBy.refl _ _) (.inl rfl))
  · refine wpList_cat (d := d) hgd s x t e z bytes ho ht hinfo hz W.heap.size (.slice none 0 0) [] l hs ⟨g, 0, none⟩ cap hx (fun j u hu => ?_) (Ls.nil d e W _) (Nat.le_refl _) (by simpa using hl) hb0 fun v1 w1 h1 h2 h3 => h v1 w1 h1 h2 h3
    exact World.ownsRow.cells HO (g := g) rfl j u hu
/-- a whole row's cells, for wpList_cat -/
theorem Ls.news {α : Type} {d : En α} {e : TypeId} {W : World} {base : Nat} {A : Option Addr} {n c : Nat} {l : List α} (h : Ls d e W base (.slice A n c) l) (hl : 0 < l.length) : ∃ g, A = some ⟨g, 0, none⟩ ∧ ∀ k : Nat, ∀ j u, ((l.drop k).flatMap d.enc)[j]? = some u → W.cell? ((⟨g, k * d.sz, none⟩ : Addr).add j) = some u := by
  have hh := h
  rcases h.2 with ⟨_, h0⟩ | ⟨g, cap, cur, hv, hb, hg, _⟩
  · omega
  · injection hv with hA hn hc
    subst hA
    refine ⟨g, rfl, fun k j u hu => ?_⟩
    have e1 : l.flatMap d.enc = (l.take k).flatMap d.enc ++ (l.drop k).flatMap d.enc := by rw [← List.flatMap_append, List.take_append_drop]
    by_cases hk : k ≤ l.length
    · have := World.ownsRow.cells hh (g := g) rfl (k * d.sz + j) u (by rw [e1, List.getElem?_append_right (by rw [flat_len, List.length_take, Nat.min_eq_left hk]; omega), flat_len, List.length_take, Nat.min_eq_left hk, show k * d.sz + j - k * d.sz = j by omega]; exact hu)
      rw [add_plain] at this
      unfold Addr.add
      split
      · rename_i h0
        subst h0
        simpa using this
      · exact this
    · rw [List.drop_eq_nil_of_le (by omega)] at hu
      simp at hu
theorem flat_take {α : Type} {d : En α} {l : List α} {k j : Nat} {u : Value} (hu : ((l.take k).flatMap d.enc)[j]? = some u) : (l.flatMap d.enc)[j]? = some u := by
  have e1 : l.flatMap d.enc = (l.take k).flatMap d.enc ++ (l.drop k).flatMap d.enc := by rw [← List.flatMap_append, List.take_append_drop]
  rw [e1, List.getElem?_append_left (List.getElem?_eq_some_iff.1 hu).1]
  exact hu
end Go.Proofs.Ytbfmbjkalldonaa.Lst
namespace Go.Proofs.Ytbfmbjkalldonaa.Lst
set_option linter.unusedVariables false
set_option linter.unusedSimpArgs false
open Go.RowKit Go.Proofs.YtbfmbjkalldonaaW.PrintWords Go.Proofs.YtbfmbjkalldonaaW.PrintLast Go.Proofs.YtbfmbjkalldonaaW.PrintMore
section
variable {α : Type} {d : En α} {P : Program} {W : World}
theorem cat_run (t ty e : TypeId) (z : Value) (bytes : Nat) (ht : P.underlying t = some (.slice e)) (hinfo : (P.info? e).map (fun i => (i.zero, i.size, i.bytes)) = some (some z, d.sz, bytes)) (hz : z.cells.size = d.sz)
    (base : Nat) (v : Value) (l m : List α) (ad : Addr) (c : Nat) (hm : ∀ j u, (m.flatMap d.enc)[j]? = some u → W.cell? (ad.add j) = some u)
    (HO : Ls d e W base v l) (hbase : base ≤ W.heap.size) (hl : (l.length + m.length) * bytes ≤ 140737488355328) (hb0 : 0 < bytes) :
    ∃ v1 w1, (Builtin.append_ #[t, t] ty #[v, .slice (some ad) m.length c]).run P W = .ok v1 w1 ∧ Ls d e w1 base v1 (l ++ m) ∧ W.grownBy w1 v.ownBlock ∧ (v1.ownBlock = v.ownBlock ∨ v1.ownBlock = some W.heap.size) := by
  obtain ⟨i0, hi, hzz⟩ := Option.map_eq_some_iff.1 hinfo
  simp only [Prod.mk.injEq] at hzz
  obtain ⟨hz0, hz1, hz2⟩ := hzz
  have hlen : l.length + m.length ≤ 140737488355328 := Nat.le_trans (Nat.le_mul_of_pos_right _ hb0) hl
  obtain ⟨v1, w1, hr, hown, hg, _, hat⟩ := run_append_own_at (P := P) W base t ty e i0 z d.sz bytes ht hi hz0 hz1 hz2 hz d.pos v l.length (l.flatMap d.enc) HO ad m.length c (m.flatMap d.enc) (flat_len d m) hm (flat_one d m) (by simp only [maxLen]; omega) hl hbase
  refine ⟨v1, w1, hr, ?_, hg, hat⟩
  show w1.ownsRow base e d.sz v1 (l ++ m).length ((l ++ m).flatMap d.enc)
  rw [List.length_append, List.flatMap_append]
  exact hown
theorem copy_run (t ty e : TypeId) (z : Value) (bytes : Nat) (ht : P.underlying t = some (.slice e)) (hinfo : (P.info? e).map (fun i => (i.zero, i.size, i.bytes)) = some (some z, d.sz, bytes)) (hz : z.cells.size = d.sz)
    (base : Nat) (v : Value) (l : List α) (HO : Ls d e W base v l) (hl : l.length * bytes ≤ 140737488355328) (hb0 : 0 < bytes) :
    ∃ v1 w1, (Builtin.append_ #[t, t] ty #[.slice none 0 0, v]).run P W = .ok v1 w1 ∧ Ls d e w1 W.heap.size v1 l ∧ W.grownBy w1 none ∧ (v1.ownBlock = none ∨ v1.ownBlock = some W.heap.size) := by
  rcases HO.2 with ⟨rfl, h0⟩ | ⟨g, cap, cur, rfl, hb, hg, hc, hm, _⟩
  · obtain rfl : l = [] := List.length_eq_zero_iff.1 h0
    obtain ⟨i0, hi, hzz⟩ := Option.map_eq_some_iff.1 hinfo
    exact ⟨_, W, run_append_owned_none (P := P) (w := W) W.heap.size t ty e i0 d.sz ht hi (.slice none 0 0) 0 [] (World.ownsRow_nil ..), Ls.nil d e W _, World.grownBy.refl _ _, .inl rfl⟩
  · obtain ⟨v1, w1, h1, h2, h3, h4⟩ := cat_run (d := d) (P := P) (W := W) t ty e z bytes ht hinfo hz W.heap.size (.slice none 0 0) [] l ⟨g, 0, none⟩ cap (fun j u hu => World.ownsRow.cells HO (g := g) rfl j u hu) (Ls.nil d e W _) (Nat.le_refl _) (by simpa using hl) hb0
    exact ⟨v1, w1, h1, h2, h3, h4⟩
theorem push_run (t ty e : TypeId) (z : Value) (bytes : Nat) (ht : P.underlying t = some (.slice e)) (hinfo : (P.info? e).map (fun i => (i.zero, i.size, i.bytes)) = some (some z, d.sz, bytes)) (hz : z.cells.size = d.sz)
    (base : Nat) (v : Value) (l : List α) (y : α) (nb : Nat) (hnb : nb = W.heap.size) (C : Array Value) (hC : C = (d.enc y).toArray)
    (HO : Ls d e W base v l) (hbase : base ≤ W.heap.size) (hl : (l.length + 1) * bytes ≤ 140737488355328) (hb0 : 0 < bytes) :
    ∃ v1 w1, (Builtin.append_ #[t, t] ty #[v, .slice (some ⟨nb, 0, none⟩) 1 1]).run P (W.alloc (.cells C e)) = .ok v1 w1 ∧ Ls d e w1 base v1 (l ++ [y]) ∧ W.grownBy w1 v.ownBlock ∧ (v1.ownBlock = v.ownBlock ∨ ∃ b, v1.ownBlock = some b ∧ W.heap.size ≤ b) := by
  subst hnb hC
  have hb := below_alloc (Below.refl W.heap.size W) (.cells (d.enc y).toArray e)
  have hn : (W.alloc (.cells (d.enc y).toArray e)).heap[W.heap.size]? = some (.cells (d.enc y).toArray e (0, 0)) := blk_new _ _
  obtain ⟨v1, w1, h1, h2, h3, h4⟩ := cat_run (d := d) (P := P) (W := W.alloc (.cells (d.enc y).toArray e)) t ty e z bytes ht hinfo hz base v l [y] ⟨W.heap.size, 0, none⟩ 1 (fun j u hu => by
      rw [add_plain]
      rw [show ([y].flatMap d.enc) = d.enc y by simp] at hu
      refine (blk_cell hn j).trans ?_
      rw [List.getElem?_toArray]
      exact hu) (HO.below hb) (Nat.le_trans hbase hb.size) (by simpa using hl) hb0
  refine ⟨v1, w1, h1, h2, World.grownBy.trans (World.grownBy_alloc W _ _) h3, ?_⟩
  rcases h4 with h4 | h4
  · exact .inl h4
  · exact .inr ⟨_, h4, hb.size⟩
end
end Go.Proofs.Ytbfmbjkalldonaa.Lst
namespace Go.Proofs.Ytbfmbjkalldonaa.Msg
set_option linter.unusedVariables false
set_option linter.unusedSimpArgs false
open Go.RowKit Go.Proofs.Ytbfmbjkalldonaa.PA Go.Proofs.YtbfmbjkalldonaaW.PrintWords Go.Proofs.YtbfmbjkalldonaaW.PrintLast Go.Proofs.YtbfmbjkalldonaaW.PrintMore Go.Proofs.Ytbfmbjkalldonaa.Base Go.Proofs.Ytbfmbjkalldonaa.Var
abbrev top : Int := 18446744073709551615
structure Ms where
  k : Int
  s : Int
  se : Int
  a : Int
  i : Int
  n : Int
  c : Int
  why : Int
  seed : Int
  P : List Int
  most : Int
  L : List Int
def Ms.nil : Ms := ⟨0, 0, 0, 0, 0, 0, 0, 0, 0, [], 0, []⟩
def Ms.of (k : Int) : Ms := { Ms.nil with k := k }
/-- the next number, at most so great -/
def numV (b : List Int) (e most : Int) : Int × List Int × Int :=
  if e = 0 then (if (gt 0 0 b).2.2 = 0 then (if (gt 0 0 b).1 > most then (0, b, 1) else ((gt 0 0 b).1, b.drop (gt 0 0 b).2.1.toNat, 0)) else (0, b, (gt 0 0 b).2.2)) else (0, b, e)
def numsV : Nat → List Int → Int → List Int × List Int × Int
  | 0, b, e => ([], b, e)
  | q + 1, b, e => if e = 0 then ((numV b e 63).1 :: (numsV q (numV b e 63).2.1 (numV b e 63).2.2).1, (numsV q (numV b e 63).2.1 (numV b e 63).2.2).2) else ([], b, e)
def listV (b : List Int) (e : Int) : List Int × List Int × Int := numsV (numV b e 256).1.toNat (numV b e 256).2.1 (numV b e 256).2.2
def setV (m : Ms) (c x : Int) : Ms :=
  if c = 115 then { m with s := x } else if c = 101 then { m with se := x } else if c = 97 then { m with a := x } else if c = 105 then { m with i := x } else if c = 110 then { m with n := x } else { m with c := x }
def fieldV (m : Ms) (b : List Int) (e c : Int) : Ms × List Int × Int :=
  if c = 119 then ({ m with why := (numV b e 255).1 }, (numV b e 255).2)
  else if c = 106 then
    ({ m with seed := (numV b e top).1, most := (numV (numV b e top).2.1 (numV b e top).2.2 256).1, P := (listV (numV (numV b e top).2.1 (numV b e top).2.2 256).2.1 (numV (numV b e top).2.1 (numV b e top).2.2 256).2.2).1 },
      (listV (numV (numV b e top).2.1 (numV b e top).2.2 256).2.1 (numV (numV b e top).2.1 (numV b e top).2.2 256).2.2).2)
  else if c = 108 then ({ m with L := (listV b e).1 }, (listV b e).2)
  else (setV m c (numV b e top).1, (numV b e top).2)
def foldV : List Int → Ms → List Int → Int → Ms × List Int × Int
  | [], m, b, e => (m, b, e)
  | c :: cs, m, b, e => foldV cs (fieldV m b e c).1 (fieldV m b e c).2.1 (fieldV m b e c).2.2
/-- which fields of a kind count -/
def lettersV (k : Int) : List Int :=
  if k = 1 then [115, 101, 106] else if k = 2 then [115, 110] else if k = 3 then [115] else if k = 4 then [115, 110, 108] else if k = 5 then [115, 110, 119] else if k = 6 then [97, 105, 110, 106]
  else if k = 7 then [97, 105] else if k = 8 then [97, 105, 110, 108] else if k = 9 then [97, 105, 110, 119] else if k = 10 then [110] else if k = 11 then [110, 105, 99] else if k = 12 then [105] else []
def readV (l : List Int) : Ms × Int :=
  if (numV l 0 top).2.2 = 0 then
    (if (numV l 0 top).1 < 1 ∨ (numV l 0 top).1 > 12 then (Ms.nil, 11)
     else if (foldV (lettersV (numV l 0 top).1) (Ms.of (numV l 0 top).1) (numV l 0 top).2.1 0).2.2 = 0 then
       (if (foldV (lettersV (numV l 0 top).1) (Ms.of (numV l 0 top).1) (numV l 0 top).2.1 0).2.1 = [] then ((foldV (lettersV (numV l 0 top).1) (Ms.of (numV l 0 top).1) (numV l 0 top).2.1 0).1, 0) else (Ms.nil, 3))
     else (Ms.nil, (foldV (lettersV (numV l 0 top).1) (Ms.of (numV l 0 top).1) (numV l 0 top).2.1 0).2.2))
  else (Ms.nil, (numV l 0 top).2.2)
/-! ### bounds -/
theorem gt_bd {l : List Int} (hb : Bytes l) {n k e : Int} (h : gt 0 0 l = (n, k, e)) (he : e = 0) : 0 ≤ n ∧ n ≤ top ∧ 1 ≤ k ∧ k ≤ l.length := by
  subst he
  obtain ⟨g1, g2, g3, g4, g5, g6, g7⟩ := vb_gt0 hb h
  exact ⟨g1, by unfold top; omega, g6, g7⟩
theorem num_bd {b : List Int} (hb : Bytes b) (e most : Int) (hm : 0 ≤ most) : 0 ≤ (numV b e most).1 ∧ (numV b e most).1 ≤ most ∧ Bytes (numV b e most).2.1 ∧ (numV b e most).2.1.length ≤ b.length := by
  unfold numV
  rcases hg : gt 0 0 b with ⟨n, k, e1⟩
  dsimp only
  by_cases h0 : e = 0
  · rw [if_pos h0]
    by_cases h1 : e1 = 0
    · rw [if_pos h1]
      obtain ⟨g1, g2, g3, g4⟩ := gt_bd hb hg h1
      by_cases h2 : n > most
      · rw [if_pos h2]; exact ⟨Int.le_refl _, hm, hb, Nat.le_refl _⟩
      · rw [if_neg h2]; exact ⟨g1, by omega, Bytes.drop hb _, by rw [List.length_drop]; omega⟩
    · rw [if_neg h1]; exact ⟨Int.le_refl _, hm, hb, Nat.le_refl _⟩
  · rw [if_neg h0]; exact ⟨Int.le_refl _, hm, hb, Nat.le_refl _⟩
theorem nums_bd : ∀ (q : Nat) {b : List Int} (hb : Bytes b) (e : Int), (∀ x ∈ (numsV q b e).1, 0 ≤ x ∧ x ≤ 63) ∧ (numsV q b e).1.length ≤ q ∧ Bytes (numsV q b e).2.1 ∧ (numsV q b e).2.1.length ≤ b.length
  | 0, b, hb, e => ⟨fun x hx => (by simp [numsV] at hx), Nat.le_refl _, hb, Nat.le_refl _⟩
  | q + 1, b, hb, e => by
    unfold numsV
    by_cases h0 : e = 0
    · rw [if_pos h0]
      obtain ⟨n1, n2, n3, n4⟩ := num_bd hb e 63 (by decide)
      obtain ⟨i1, i2, i3, i4⟩ := nums_bd q n3 (numV b e 63).2.2
      refine ⟨fun x hx => ?_, ?_, i3, Nat.le_trans i4 n4⟩
      · rcases List.mem_cons.1 hx with rfl | hx
        · exact ⟨n1, n2⟩
        · exact i1 x hx
      · show (_ :: _).length ≤ _
        rw [List.length_cons]; omega
    · rw [if_neg h0]
      exact ⟨fun x hx => (by simp at hx), Nat.zero_le _, hb, Nat.le_refl _⟩
theorem list_bd {b : List Int} (hb : Bytes b) (e : Int) : (∀ x ∈ (listV b e).1, 0 ≤ x ∧ x ≤ 63) ∧ (listV b e).1.length ≤ 256 ∧ Bytes (listV b e).2.1 ∧ (listV b e).2.1.length ≤ b.length := by
  unfold listV
  obtain ⟨n1, n2, n3, n4⟩ := num_bd hb e 256 (by decide)
  obtain ⟨i1, i2, i3, i4⟩ := nums_bd (numV b e 256).1.toNat n3 (numV b e 256).2.2
  exact ⟨i1, by omega, i3, Nat.le_trans i4 n4⟩
/-- what is read holds numbers that a message may hold -/
structure Ms.In (m : Ms) : Prop where
  s : 0 ≤ m.s ∧ m.s ≤ top
  se : 0 ≤ m.se ∧ m.se ≤ top
  a : 0 ≤ m.a ∧ m.a ≤ top
  i : 0 ≤ m.i ∧ m.i ≤ top
  n : 0 ≤ m.n ∧ m.n ≤ top
  c : 0 ≤ m.c ∧ m.c ≤ top
  why : 0 ≤ m.why ∧ m.why ≤ 255
  seed : 0 ≤ m.seed ∧ m.seed ≤ top
  P : (∀ x ∈ m.P, 0 ≤ x ∧ x ≤ 63) ∧ m.P.length ≤ 256
  most : 0 ≤ m.most ∧ m.most ≤ 256
  L : (∀ x ∈ m.L, 0 ≤ x ∧ x ≤ 63) ∧ m.L.length ≤ 256
theorem In_of (k : Int) : (Ms.of k).In := by
  constructor <;> simp [Ms.of, Ms.nil, top]
theorem set_in {m : Ms} (h : m.In) (c : Int) {x : Int} (hx : 0 ≤ x ∧ x ≤ top) : (setV m c x).In := by
  obtain ⟨h1, h2, h3, h4, h5, h6, h7, h8, h9, h10, h11⟩ := h
  unfold setV
  split
  · exact ⟨hx, h2, h3, h4, h5, h6, h7, h8, h9, h10, h11⟩
  split
  · exact ⟨h1, hx, h3, h4, h5, h6, h7, h8, h9, h10, h11⟩
  split
  · exact ⟨h1, h2, hx, h4, h5, h6, h7, h8, h9, h10, h11⟩
  split
  · exact ⟨h1, h2, h3, hx, h5, h6, h7, h8, h9, h10, h11⟩
  split
  · exact ⟨h1, h2, h3, h4, hx, h6, h7, h8, h9, h10, h11⟩
  · exact ⟨h1, h2, h3, h4, h5, hx, h7, h8, h9, h10, h11⟩
theorem set_k (m : Ms) (c x : Int) : (setV m c x).k = m.k := by unfold setV; repeat' (first | rfl | split)
theorem field_k (m : Ms) (b : List Int) (e c : Int) : (fieldV m b e c).1.k = m.k := by
  unfold fieldV
  split
  · rfl
  split
  · rfl
  split
  · rfl
  · exact set_k _ _ _
theorem field_bd {m : Ms} (h : m.In) {b : List Int} (hb : Bytes b) (e c : Int) : (fieldV m b e c).1.In ∧ Bytes (fieldV m b e c).2.1 ∧ (fieldV m b e c).2.1.length ≤ b.length := by
  have ht : (0 : Int) ≤ top := by unfold top; decide
  unfold fieldV
  split
  · obtain ⟨n1, n2, n3, n4⟩ := num_bd hb e 255 (by decide)
    obtain ⟨h1, h2, h3, h4, h5, h6, h7, h8, h9, h10, h11⟩ := h
    exact ⟨⟨h1, h2, h3, h4, h5, h6, ⟨n1, n2⟩, h8, h9, h10, h11⟩, n3, n4⟩
  split
  · obtain ⟨n1, n2, n3, n4⟩ := num_bd hb e top ht
    obtain ⟨p1, p2, p3, p4⟩ := num_bd n3 (numV b e top).2.2 256 (by decide)
    obtain ⟨q1, q2, q3, q4⟩ := list_bd p3 (numV (numV b e top).2.1 (numV b e top).2.2 256).2.2
    obtain ⟨h1, h2, h3, h4, h5, h6, h7, h8, h9, h10, h11⟩ := h
    exact ⟨⟨h1, h2, h3, h4, h5, h6, h7, ⟨n1, n2⟩, ⟨q1, q2⟩, ⟨p1, p2⟩, h11⟩, q3, Nat.le_trans q4 (Nat.le_trans p4 n4)⟩
  split
  · obtain ⟨q1, q2, q3, q4⟩ := list_bd hb e
    obtain ⟨h1, h2, h3, h4, h5, h6, h7, h8, h9, h10, h11⟩ := h
    exact ⟨⟨h1, h2, h3, h4, h5, h6, h7, h8, h9, h10, ⟨q1, q2⟩⟩, q3, q4⟩
  · obtain ⟨n1, n2, n3, n4⟩ := num_bd hb e top ht
    exact ⟨set_in h c ⟨n1, n2⟩, n3, n4⟩
theorem fold_bd : ∀ (cs : List Int) {m : Ms} (h : m.In) {b : List Int} (hb : Bytes b) (e : Int), (foldV cs m b e).1.In ∧ Bytes (foldV cs m b e).2.1 ∧ (foldV cs m b e).2.1.length ≤ b.length ∧ (foldV cs m b e).1.k = m.k
  | [], m, h, b, hb, e => ⟨h, hb, Nat.le_refl _, rfl⟩
  | c :: cs, m, h, b, hb, e => by
    obtain ⟨f1, f2, f3⟩ := field_bd h hb e c
    obtain ⟨i1, i2, i3, i4⟩ := fold_bd cs f1 f2 (fieldV m b e c).2.2
    exact ⟨i1, i2, Nat.le_trans i3 f3, i4.trans (field_k m b e c)⟩
theorem fold_app : ∀ (cs ds : List Int) (m : Ms) (b : List Int) (e : Int), foldV (cs ++ ds) m b e = foldV ds (foldV cs m b e).1 (foldV cs m b e).2.1 (foldV cs m b e).2.2
  | [], ds, m, b, e => rfl
  | c :: cs, ds, m, b, e => fold_app cs ds _ _ _
end Go.Proofs.Ytbfmbjkalldonaa.Msg
namespace Go.Proofs.Ytbfmbjkalldonaa.Msg
set_option linter.unusedVariables false
set_option linter.unusedSimpArgs false
open Go.RowKit Go.Proofs.Ytbfmbjkalldonaa.PA Go.Proofs.YtbfmbjkalldonaaW.PrintWords Go.Proofs.YtbfmbjkalldonaaW.PrintLast Go.Proofs.YtbfmbjkalldonaaW.PrintMore Go.Proofs.Ytbfmbjkalldonaa.Base Go.Proofs.Ytbfmbjkalldonaa.Var Go.Proofs.Ytbfmbjkalldonaa.Lst
attribute [local go_sem] max2_int min2_int max_two min_two max_three min_three max_four min_four
def encI : En Int := ⟨fun x => [.int .i64 x], 1, fun _ => rfl, fun x u hu => by simp at hu; subst hu; rfl, by decide⟩
theorem info3 : (Try.prog.info? 3).map (fun i => (i.zero, i.size, i.bytes)) = some (some (.int .i64 0), 1, 8) := by kernel_rfl
structure Rd (w0 w : World) (T gr : Nat) (b : List Int) (e : Int) : Prop where
  blk : ∃ A c, w.heap[gr]? = some (.cells #[.slice A b.length c, .int .i64 e] T (0, 0)) ∧ Kd.C (Kd.int .u8) w0 A b.length b ∧ b.length ≤ c
  ge : w0.heap.size ≤ gr
  bel : Below w0.heap.size w0 w
section
variable {w0 w w' : World} {T gr : Nat} {b : List Int} {e : Int}
theorem Rd.keep {F : Nat → Prop} (h : Rd w0 w T gr b e) (hb : Below w0.heap.size w0 w') (hk : Kept w w' F) (hF : ¬ F gr) : Rd w0 w' T gr b e := by
  obtain ⟨⟨A, c, h1, h2, h3⟩, h4, h5⟩ := h
  exact ⟨⟨A, c, blk_kept h1 hk hF, h2, h3⟩, h4, hb⟩
theorem Rd.far {g t : Nat} {cs : Array Value} (h : Rd w0 w T gr b e) (hg : w.heap[g]? = some (.cells cs t (0, 0))) (ht : T ≠ t) (hge : w0.heap.size ≤ g) (j : Nat) (u : Value) : Rd w0 (w.setCell ⟨g, j, none⟩ u) T gr b e := by
  obtain ⟨⟨A, c, h1, h2, h3⟩, h4, h5⟩ := h
  exact ⟨⟨A, c, blk_far (p := ⟨g, j, none⟩) h1 (blk_ne h1 hg ht) u, h2, h3⟩, h4, below_set h5 hge⟩
theorem kept_set {F : Nat → Prop} {g : Nat} (h : Kept w w' F) (hg : F g) (j : Nat) (u : Value) : Kept w (w'.setCell ⟨g, j, none⟩ u) F :=
  ⟨by simpa [World.setCell] using h.1, fun i hi hn => (Below.heap_setCell w' ⟨g, j, none⟩ u i (fun e' => hn (by rw [e']; exact hg))).trans (h.2 i hi hn)⟩
theorem kept_drewN {F : Nat → Prop} (n : Nat) : Kept w (World.drewN w n) F := ⟨Nat.le_refl _, fun _ _ _ => rfl⟩
end
set_option maxHeartbeats 8000000 in
theorem num_c (w0 w : World) (gr : Nat) (b : List Int) (hbs : Bytes b) (hl : b.length ≤ 100000) (e most x : Int) (b' : List Int) (e' : Int) (hv : numV b e most = (x, b', e')) (h : Rd w0 w 50 gr b e) :
    Calls Try.prog 24 #[.pointer (some ⟨gr, 0, none⟩), .int .u64 most] w fun er w' => er = .returned (.int .u64 x) ∧ Rd w0 w' 50 gr b' e' ∧ Kept w w' (fun i => i = gr) := by
  have HR := Aside0.mk h
  obtain ⟨⟨A, c, hg, hC, hc⟩, hge, hbl⟩ := h
  have HGR := Aside0.mk hg; have HC := Aside0.mk hC; have HCC := Aside0.mk hc; have HGE := Aside0.mk hge; have HBL := Aside0.mk hbl
  have hu := Try.underlying50
  have k0 : w.cell? ⟨gr, 0, none⟩ = some (.slice A b.length c) := blk_cell hg 0
  have k1 : w.cell? ⟨gr, 1, none⟩ = some (.int .i64 e) := blk_cell hg 1
  have f0 := blk_frozen hg 0
  have f1 := blk_frozen hg 1
  unfold numV at hv
  by_cases h0 : e = 0
  rotate_left
  · rw [if_neg h0] at hv
    simp only [Prod.mk.injEq] at hv
    obtain ⟨rfl, rfl, rfl⟩ := hv
    have q1 : (e != 0) = true := by simpa using h0
    clear h0 hg hC hc hge hbl
    go_enter Try.func24, Try.ntmps24
    go_wp2_with fail
    go_ret
    exact ⟨rfl, HR.out, Kept.refl _ _⟩
  subst h0
  rw [if_pos rfl] at hv
  rcases hgt : gt 0 0 b with ⟨n, k, e1⟩
  rw [hgt] at hv
  dsimp only at hv
  obtain ⟨K, hK⟩ := get_ev b (by omega) hbs
  have hf := hK K (Nat.le_refl K)
  rw [hgt] at hf
  have HG := Aside0.mk (varint_Get.calls K A c b n k e1 w (Kd.C_below hC hbl) hc hf)
  by_cases h1 : e1 = 0
  rotate_left
  · rw [if_neg h1] at hv
    simp only [Prod.mk.injEq] at hv
    obtain ⟨rfl, rfl, rfl⟩ := hv
    have q1 : (e1 != 0) = true := by simpa using h1
    clear h1 hg hC hc hge hbl hgt hK hf
    go_enter Try.func24, Try.ntmps24
    go_wp2_with (first | (go_at_call 46; (with_reducible refine HG.out.mono ?_); rintro e9 w9 ⟨rfl, hdr⟩; obtain ⟨nd, rfl⟩ := hdr; have j0 : (World.drewN w nd).cell? ⟨gr, 0, none⟩ = some (.slice A b.length c) := k0; have j1 : (World.drewN w nd).cell? ⟨gr, 1, none⟩ = some (.int .i64 0) := k1; have z0 : (World.drewN w nd).frozen? ⟨gr, 0, none⟩ = false := f0; have z1 : (World.drewN w nd).frozen? ⟨gr, 1, none⟩ = false := f1))
    go_ret
    exact ⟨rfl, ⟨⟨A, c, blk_set (blk_drewN HGR.out nd) 1 _, HC.out, HCC.out⟩, HGE.out, below_set (pw_below_drewN HBL.out nd) HGE.out⟩, kept_set (F := fun i => i = gr) (kept_drewN nd) rfl 1 _⟩
  subst h1
  rw [if_pos rfl] at hv
  obtain ⟨g1, g2, g3, g4⟩ := gt_bd hbs hgt rfl
  by_cases h2 : n > most
  · rw [if_pos h2] at hv
    simp only [Prod.mk.injEq] at hv
    obtain ⟨rfl, rfl, rfl⟩ := hv
    have q1 : decide (most < n) = true := decide_eq_true h2
    clear h2 hg hC hc hge hbl hgt hK hf g1 g2 g3 g4
    go_enter Try.func24, Try.ntmps24
    go_wp2_with (first | (go_at_call 46; (with_reducible refine HG.out.mono ?_); rintro e9 w9 ⟨rfl, hdr⟩; obtain ⟨nd, rfl⟩ := hdr; have j0 : (World.drewN w nd).cell? ⟨gr, 0, none⟩ = some (.slice A b.length c) := k0; have j1 : (World.drewN w nd).cell? ⟨gr, 1, none⟩ = some (.int .i64 0) := k1; have z0 : (World.drewN w nd).frozen? ⟨gr, 0, none⟩ = false := f0; have z1 : (World.drewN w nd).frozen? ⟨gr, 1, none⟩ = false := f1))
    go_ret
    exact ⟨rfl, ⟨⟨A, c, blk_set (blk_drewN HGR.out nd) 1 _, HC.out, HCC.out⟩, HGE.out, below_set (pw_below_drewN HBL.out nd) HGE.out⟩, kept_set (F := fun i => i = gr) (kept_drewN nd) rfl 1 _⟩
  rw [if_neg h2] at hv
  obtain ⟨q, rfl⟩ : ∃ q : Nat, k = q := ⟨k.toNat, by omega⟩
  rw [Int.toNat_natCast] at hv
  simp only [Prod.mk.injEq] at hv
  obtain ⟨rfl, rfl, rfl⟩ := hv
  have q1 : decide (most < n) = false := decide_eq_false h2
  have hq : q ≤ b.length := by omega
  have hd := Kd.C_drop (k := Kd.int .u8) hC hq hc
  obtain ⟨A1, hA1⟩ : ∃ A1 : Option Addr, (if c = q then A else A.map (·.add (q * (Kd.int .u8).sz))) = A1 := ⟨_, rfl⟩
  rw [hA1] at hd
  have hA2 : (if c = q then A else Option.map (fun x => x.add q) A) = A1 := by rw [← hA1, show (Kd.int .u8).sz = 1 from rfl, Nat.mul_one]
  have hs1 : (0 : Int) ≤ (q : Int) := by omega
  have hs2 : (q : Int) ≤ (b.length : Int) := by omega
  have HD := Aside0.mk hd
  have HQ := Aside0.mk hq
  clear h2 hg hC hc hge hbl hgt hK hf g1 g2 g3 g4 hd hA1 hq
  go_enter Try.func24, Try.ntmps24
  go_wp2_with (first | (go_at_call 46; (with_reducible refine HG.out.mono ?_); rintro e9 w9 ⟨rfl, hdr⟩; obtain ⟨nd, rfl⟩ := hdr; have j0 : (World.drewN w nd).cell? ⟨gr, 0, none⟩ = some (.slice A b.length c) := k0; have j1 : (World.drewN w nd).cell? ⟨gr, 1, none⟩ = some (.int .i64 0) := k1; have z0 : (World.drewN w nd).frozen? ⟨gr, 0, none⟩ = false := f0; have z1 : (World.drewN w nd).frozen? ⟨gr, 1, none⟩ = false := f1))
  go_ret
  have hln : (b.drop q).length = b.length - q := List.length_drop
  refine ⟨rfl, ⟨⟨A1, c - q, ?_, HD.out, by have := HCC.out; omega⟩, HGE.out, below_set (pw_below_drewN HBL.out nd) HGE.out⟩, kept_set (F := fun i => i = gr) (kept_drewN nd) rfl 0 _⟩
  rw [hln]
  exact blk_set (blk_drewN HGR.out nd) 0 _
def offV (c : Int) : Nat := if c = 115 then 1 else if c = 101 then 2 else if c = 97 then 3 else if c = 105 then 4 else if c = 110 then 5 else 6
theorem place_c (w : World) (g : Nat) (c : Int) (hc : c = 115 ∨ c = 101 ∨ c = 97 ∨ c = 105 ∨ c = 110 ∨ c = 99) :
    Calls Try.prog 27 #[.pointer (some ⟨g, 0, none⟩), .int .u8 c] w fun er w' => er = .returned (.pointer (some ⟨g, offV c, none⟩)) ∧ w = w' := by
  have hu := Try.underlying29
  rcases hc with rfl | rfl | rfl | rfl | rfl | rfl <;>
  · go_enter Try.func27, Try.ntmps27
    go_wp2_with fail
    go_ret
    first | exact ⟨rfl, rfl⟩ | rfl
theorem lsK {α : Type} {d : En α} {e0 : TypeId} {W W' : World} {F : Nat → Prop} {l : List α} {u : Value} {b0 : Nat} (h : Ls d e0 W b0 u l) (hk : Kept W W' F) (hn : ∀ k, u.ownBlock = some k → ¬ F k) : Ls d e0 W' b0 u l := own_move h (fun k hk' => hk.2 k (h.own k hk').2.1 (hn k hk'))
/-- by types -/
theorem lsK1 {W W' : World} {l : List Int} {u : Value} {b0 g t : Nat} {cs : Array Value} (h : Ls encI 3 W b0 u l) (hk : Kept W W' (fun i => i = g)) (hg : W.heap[g]? = some (.cells cs t (0, 0))) (ht : 3 ≠ t) : Ls encI 3 W' b0 u l := lsK h hk fun k hk' e' => h.ne hg ht (by rw [hk', e'])
abbrev mcells (m : Ms) (vP vL : Value) : Array Value := #[.int .i64 m.k, .int .u64 m.s, .int .u64 m.se, .int .u64 m.a, .int .u64 m.i, .int .u64 m.n, .int .u64 m.c, .int .i64 m.why, .int .u64 m.seed, vP, .int .i64 m.most, vL]
structure MI (w0 w : World) (T gm : Nat) (m : Ms) (vP vL : Value) : Prop where
  blk : w.heap[gm]? = some (.cells (mcells m vP vL) T (0, 0))
  ge : w0.heap.size ≤ gm
  P : Ls encI 3 w w0.heap.size vP m.P
  L : Ls encI 3 w w0.heap.size vL m.L
section
variable {w0 w w' : World} {T gm : Nat} {m m' : Ms} {vP vL vP' vL' : Value}
theorem MI.kept {g t : Nat} {cs : Array Value} (h : MI w0 w T gm m vP vL) (hk : Kept w w' (fun i => i = g)) (hg : w.heap[g]? = some (.cells cs t (0, 0))) (h1 : T ≠ t) (h2 : 3 ≠ t) : MI w0 w' T gm m vP vL :=
  ⟨blk_kept h.blk hk (blk_ne h.blk hg h1), h.ge, lsK1 h.P hk hg h2, lsK1 h.L hk hg h2⟩
theorem MI.put (h : MI w0 w T gm m vP vL) (hT : 3 ≠ T) (i : Nat) (u : Value) (he : (mcells m vP vL).setIfInBounds i u = mcells m' vP' vL') (hP : Ls encI 3 w w0.heap.size vP' m'.P) (hL : Ls encI 3 w w0.heap.size vL' m'.L) : MI w0 (w.setCell ⟨gm, i, none⟩ u) T gm m' vP' vL' :=
  ⟨blk_put h.blk i u he, h.ge, hP.far (p := ⟨gm, i, none⟩) (hP.ne h.blk hT) u, hL.far (p := ⟨gm, i, none⟩) (hL.ne h.blk hT) u⟩
theorem MI.puts (h : MI w0 w T gm m vP vL) (hT : 3 ≠ T) (i : Nat) (u : Value) (he : (mcells m vP vL).setIfInBounds i u = mcells m' vP vL) (e1 : m'.P = m.P) (e2 : m'.L = m.L) : MI w0 (w.setCell ⟨gm, i, none⟩ u) T gm m' vP vL :=
  h.put hT i u he (by rw [e1]; exact h.P) (by rw [e2]; exact h.L)
theorem Rd.row {w0 w : World} {T gr : Nat} {b : List Int} {e : Int} (h : Rd w0 w T gr b e) : ∃ A c, w.heap[gr]? = some (.cells #[.slice A b.length c, .int .i64 e] T (0, 0)) := by
  obtain ⟨⟨A, c, h1, _⟩, _⟩ := h
  exact ⟨A, c, h1⟩
theorem kept_then {F G : Nat → Prop} {w w1 w2 : World} (h : Kept w w1 F) (k : Kept w1 w2 G) (hs : ∀ i, G i → F i) : Kept w w2 F := h.then_ k fun i hi => .inl (hs i hi)
end
set_option maxHeartbeats 8000000 in
set_option maxRecDepth 100000 in
set_option maxRecDepth 100000 in
theorem list_c (w0 w : World) (gr : Nat) (b : List Int) (hbs : Bytes b) (hl : b.length ≤ 100000) (e : Int) (xs : List Int) (b' : List Int) (e' : Int) (hv : listV b e = (xs, b', e')) (h : Rd w0 w 50 gr b e) :
    Calls Try.prog 47 #[.pointer (some ⟨gr, 0, none⟩)] w fun er w' => ∃ v, er = .returned v ∧ Ls encI 3 w' w.heap.size v xs ∧ Rd w0 w' 50 gr b' e' ∧ Kept w w' (fun i => i = gr) := by
  have hu := Try.underlying50
  rcases hn : numV b e 256 with ⟨n, b1, e1⟩
  have hbd := num_bd hbs e 256 (by decide)
  unfold listV at hv
  rw [hn] at hv hbd
  dsimp only at hv hbd
  obtain ⟨n0, n1, hb1, hl1⟩ := hbd
  obtain ⟨q0, rfl⟩ : ∃ q0 : Nat, n = q0 := ⟨n.toNat, by omega⟩
  rw [Int.toNat_natCast] at hv
  have HN := Aside0.mk (num_c w0 w gr b hbs hl e 256 q0 b1 e1 hn h)
  have HV := Aside0.mk hv
  have HB1 := Aside0.mk (show Bytes b1 ∧ b1.length ≤ 100000 ∧ q0 ≤ 256 from ⟨hb1, by omega, by omega⟩)
  have HGE := Aside0.mk h.ge
  have HWS := Aside0.mk h.bel.size
  clear hv hn h n0 n1 hb1 hl1 hbs hl
  go_enter Try.func47, Try.ntmps47
  go_wp2_with (first | (go_at_call 24; (with_reducible refine HN.out.mono ?_); rintro er w8 ⟨rfl, hr, hk⟩; have HR8 := Aside0.mk hr; have HK8 := Aside0.mk hk; clear hr hk))
  clear HN
  go_loopw [3, 4] (fun v3 v4 wr => ∃ (q : Nat) (b2 : List Int) (e2 : Int) (ys : List Int), v4 = .int .u64 (q : Int) ∧ Aside0 (ys.length + q ≤ 256 ∧ Bytes b2 ∧ b2.length ≤ 100000) ∧ Aside0 (ys ++ (numsV q b2 e2).1 = xs ∧ (numsV q b2 e2).2 = (b', e')) ∧ Aside0 (Ls encI 3 wr w.heap.size v3 ys) ∧ Aside0 (Rd w0 wr 50 gr b2 e2) ∧ Aside0 (Kept w wr (fun i => i = gr))) (fun _ v4 _ => (intOf v4).toNat)
  case atStart => exact ⟨q0, b1, e1, [], rfl, ⟨by have := HB1.out; exact ⟨by simpa using this.2.2, this.1, this.2.1⟩⟩, ⟨by rw [HV.out]; exact ⟨rfl, rfl⟩⟩, ⟨Ls.nil _ _ _ _⟩, HR8, HK8⟩
  case round =>
    obtain ⟨q, b2, e2, ys, rfl, HI, HAV, HLS, HR, HK⟩ := hrel
    obtain ⟨A, c, hg⟩ := HR.out.row
    have k1 : wr.cell? ⟨gr, 1, none⟩ = some (.int .i64 e2) := blk_cell hg 1
    have HGR := Aside0.mk hg
    clear hg
    by_cases hq : q = 0
    · subst hq
      have hav := HAV.out
      rw [show numsV 0 b2 e2 = ([], b2, e2) from rfl, List.append_nil] at hav
      dsimp only at hav
      obtain ⟨rfl, hav⟩ := hav
      obtain ⟨rfl, rfl⟩ := Prod.mk.inj hav
      have d1 : decide ((0 : Int) < ((0 : Nat) : Int)) = false := by decide
      go_wp2_with fail
      go_ret
      exact ⟨_, rfl, HLS.out, HR.out, HK.out⟩
    obtain ⟨p, rfl⟩ : ∃ p, q = p + 1 := ⟨q - 1, by omega⟩
    have d1 : decide ((0 : Int) < ((p + 1 : Nat) : Int)) = true := decide_eq_true (by omega)
    have d2 : IntKind.u64.wrap (p : Int) = (p : Int) := wu64 (by omega) (by have := HI.out.1; omega)
    by_cases he : e2 = 0
    rotate_left
    · have hav := HAV.out
      unfold numsV at hav
      rw [if_neg he, List.append_nil] at hav
      dsimp only at hav
      obtain ⟨rfl, hav⟩ := hav
      obtain ⟨rfl, rfl⟩ := Prod.mk.inj hav
      have f1 : (e2 == 0) = false := by simpa using he
      clear hav he
      go_wp2_with fail
      go_ret
      exact ⟨_, rfl, HLS.out, HR.out, HK.out⟩
    subst he
    rcases hn : numV b2 0 63 with ⟨x, b3, e3⟩
    have hbd := num_bd HI.out.2.1 0 63 (by decide)
    have hav := HAV.out
    unfold numsV at hav
    rw [if_pos rfl, hn] at hav
    rw [hn] at hbd
    dsimp only at hav hbd
    obtain ⟨n0, n1, hb3, hl3⟩ := hbd
    have HN := Aside0.mk (num_c w0 wr gr b2 HI.out.2.1 HI.out.2.2 0 63 x b3 e3 hn HR.out)
    have HAV2 := Aside0.mk hav
    have HB3 := Aside0.mk (show Bytes b3 ∧ b3.length ≤ 100000 from ⟨hb3, Nat.le_trans hl3 HI.out.2.2⟩)
    have ex : wrap64 x = x := w64 (by omega) (by omega)
    clear hav hn n0 n1 hb3 hl3 HAV
    go_wp2_with (first | (go_at_call 24; (with_reducible refine HN.out.mono ?_); rintro er w9 ⟨rfl, hr, hk⟩; have HR9 := Aside0.mk hr; have HL9 := Aside0.mk (lsK1 HLS.out hk HGR.out (by decide)); have HK9 := Aside0.mk (kept_then HK.out hk (fun i hi => hi)); clear hr hk) | (at_builtin; refine wpList_push (d := encI) rfl _ _ 25 3 _ 8 rfl Try.underlying25 info3 rfl w.heap.size u3 ys x rfl _ rfl (by simp) HL9.out (Nat.le_trans HK9.out.1 (Nat.le_refl _)) (by have := HI.out.1; omega) (by decide) _ rfl ?_; intro v7 w7 h1 h2 h3; have HL2 := Aside0.mk h1; have HG2 := Aside0.mk h2; clear h1 h2 h3) | go_in)
    go_roundw
    case rel =>
      have hne : some gr ≠ u3.ownBlock := by
        obtain ⟨A9, c9, hg9⟩ := HR9.out.row
        exact HL9.out.ne hg9 (by decide)
      have hge := HGE.out
      refine ⟨p, b3, e3, ys ++ [x], by go_num, ⟨by rw [List.length_append, List.length_singleton]; have := HI.out.1; exact ⟨by omega, HB3.out⟩⟩, ⟨by rw [List.append_assoc]; exact HAV2.out⟩, HL2, ⟨?_⟩, ⟨?_⟩⟩
      · have hb9 := HR9.out.bel
        refine HR9.out.keep (F := fun i => some i = u3.ownBlock) (pw_below_grown hb9 _ hb9.size HG2.out (fun k hk => Nat.le_trans HWS.out (HL9.out.own k hk).1)) ⟨HG2.out.size, fun i hi hn => HG2.out.block i hi hn⟩ hne
      · refine HK9.out.then_ ⟨HG2.out.size, fun i hi hn => HG2.out.block i hi hn⟩ (S2 := fun i => some i = u3.ownBlock) (fun i hi => .inr (HL9.out.own i hi.symm).1)
    case measure => first | (simp [intOf]; done) | (simp [intOf]; omega)
set_option maxHeartbeats 8000000 in
set_option maxRecDepth 100000 in
theorem field_115 (w0 w : World) (gr gm : Nat) (b : List Int) (hbs : Bytes b) (hl : b.length ≤ 100000) (e : Int) (m : Ms) (vP vL : Value) (h : Rd w0 w 50 gr b e) (hm : MI w0 w 29 gm m vP vL) (x : Int) (b' : List Int) (e' : Int) (hv : numV b e top = (x, b', e')) :
    Calls Try.prog 26 #[.pointer (some ⟨gr, 0, none⟩), .pointer (some ⟨gm, 0, none⟩), .int .u8 115] w fun er w' => er = .returned (.tuple #[]) ∧ Rd w0 w' 50 gr b' e' ∧ MI w0 w' 29 gm { m with s := x } vP vL ∧ Kept w w' (fun i => i = gr ∨ i = gm) := by
  have hu := Try.underlying29
  have HN := Aside0.mk (num_c w0 w gr b hbs hl e top x b' e' hv h)
  have HP := Aside0.mk (show Calls Try.prog 27 #[.pointer (some ⟨gm, 0, none⟩), .int .u8 115] w fun er w' => er = .returned (.pointer (some ⟨gm, 1, none⟩)) ∧ w = w' from place_c w gm 115 (.inl rfl))
  have HM := Aside0.mk hm
  obtain ⟨A, c, hg⟩ := h.row
  have HRW := Aside0.mk hg
  clear h hm hg hv hbs hl
  go_enter Try.func26, Try.ntmps26
  go_wp2_with (first | (go_at_call 27; (with_reducible refine HP.out.mono ?_); rintro er w7 ⟨rfl, rfl⟩) | (go_at_call 24; (with_reducible refine HN.out.mono ?_); rintro er w8 ⟨rfl, hr, hk⟩; have HR8 := Aside0.mk hr; have hm9 := HM.out.kept hk HRW.out (by decide) (by decide); have HM8 := Aside0.mk hm9; have HK8 := Aside0.mk hk; have cz8 := blk_frozen hm9.blk 1; obtain ⟨uc8, cc8⟩ : ∃ u, w8.cell? ⟨gm, 1, none⟩ = some u := ⟨_, blk_cell hm9.blk 1⟩; clear hr hk hm9))
  go_end0
  exact ⟨rfl, HR8.out.far HM8.out.blk (by decide) HM8.out.ge 1 _, HM8.out.puts (by decide) 1 _ rfl rfl rfl, kept_set (HK8.out.mono (fun i hi => .inl hi)) (.inr rfl) 1 _⟩
set_option maxHeartbeats 8000000 in
set_option maxRecDepth 100000 in
theorem field_101 (w0 w : World) (gr gm : Nat) (b : List Int) (hbs : Bytes b) (hl : b.length ≤ 100000) (e : Int) (m : Ms) (vP vL : Value) (h : Rd w0 w 50 gr b e) (hm : MI w0 w 29 gm m vP vL) (x : Int) (b' : List Int) (e' : Int) (hv : numV b e top = (x, b', e')) :
    Calls Try.prog 26 #[.pointer (some ⟨gr, 0, none⟩), .pointer (some ⟨gm, 0, none⟩), .int .u8 101] w fun er w' => er = .returned (.tuple #[]) ∧ Rd w0 w' 50 gr b' e' ∧ MI w0 w' 29 gm { m with se := x } vP vL ∧ Kept w w' (fun i => i = gr ∨ i = gm) := by
  have hu := Try.underlying29
  have HN := Aside0.mk (num_c w0 w gr b hbs hl e top x b' e' hv h)
  have HP := Aside0.mk (show Calls Try.prog 27 #[.pointer (some ⟨gm, 0, none⟩), .int .u8 101] w fun er w' => er = .returned (.pointer (some ⟨gm, 2, none⟩)) ∧ w = w' from place_c w gm 101 (.inr (.inl rfl)))
  have HM := Aside0.mk hm
  obtain ⟨A, c, hg⟩ := h.row
  have HRW := Aside0.mk hg
  clear h hm hg hv hbs hl
  go_enter Try.func26, Try.ntmps26
  go_wp2_with (first | (go_at_call 27; (with_reducible refine HP.out.mono ?_); rintro er w7 ⟨rfl, rfl⟩) | (go_at_call 24; (with_reducible refine HN.out.mono ?_); rintro er w8 ⟨rfl, hr, hk⟩; have HR8 := Aside0.mk hr; have hm9 := HM.out.kept hk HRW.out (by decide) (by decide); have HM8 := Aside0.mk hm9; have HK8 := Aside0.mk hk; have cz8 := blk_frozen hm9.blk 2; obtain ⟨uc8, cc8⟩ : ∃ u, w8.cell? ⟨gm, 2, none⟩ = some u := ⟨_, blk_cell hm9.blk 2⟩; clear hr hk hm9))
  go_end0
  exact ⟨rfl, HR8.out.far HM8.out.blk (by decide) HM8.out.ge 2 _, HM8.out.puts (by decide) 2 _ rfl rfl rfl, kept_set (HK8.out.mono (fun i hi => .inl hi)) (.inr rfl) 2 _⟩
set_option maxHeartbeats 8000000 in
set_option maxRecDepth 100000 in
theorem field_97 (w0 w : World) (gr gm : Nat) (b : List Int) (hbs : Bytes b) (hl : b.length ≤ 100000) (e : Int) (m : Ms) (vP vL : Value) (h : Rd w0 w 50 gr b e) (hm : MI w0 w 29 gm m vP vL) (x : Int) (b' : List Int) (e' : Int) (hv : numV b e top = (x, b', e')) :
    Calls Try.prog 26 #[.pointer (some ⟨gr, 0, none⟩), .pointer (some ⟨gm, 0, none⟩), .int .u8 97] w fun er w' => er = .returned (.tuple #[]) ∧ Rd w0 w' 50 gr b' e' ∧ MI w0 w' 29 gm { m with a := x } vP vL ∧ Kept w w' (fun i => i = gr ∨ i = gm) := by
  have hu := Try.underlying29
  have HN := Aside0.mk (num_c w0 w gr b hbs hl e top x b' e' hv h)
  have HP := Aside0.mk (show Calls Try.prog 27 #[.pointer (some ⟨gm, 0, none⟩), .int .u8 97] w fun er w' => er = .returned (.pointer (some ⟨gm, 3, none⟩)) ∧ w = w' from place_c w gm 97 (.inr (.inr (.inl rfl))))
  have HM := Aside0.mk hm
  obtain ⟨A, c, hg⟩ := h.row
  have HRW := Aside0.mk hg
  clear h hm hg hv hbs hl
  go_enter Try.func26, Try.ntmps26
  go_wp2_with (first | (go_at_call 27; (with_reducible refine HP.out.mono ?_); rintro er w7 ⟨rfl, rfl⟩) | (go_at_call 24; (with_reducible refine HN.out.mono ?_); rintro er w8 ⟨rfl, hr, hk⟩; have HR8 := Aside0.mk hr; have hm9 := HM.out.kept hk HRW.out (by decide) (by decide); have HM8 := Aside0.mk hm9; have HK8 := Aside0.mk hk; have cz8 := blk_frozen hm9.blk 3; obtain ⟨uc8, cc8⟩ : ∃ u, w8.cell? ⟨gm, 3, none⟩ = some u := ⟨_, blk_cell hm9.blk 3⟩; clear hr hk hm9))
  go_end0
  exact ⟨rfl, HR8.out.far HM8.out.blk (by decide) HM8.out.ge 3 _, HM8.out.puts (by decide) 3 _ rfl rfl rfl, kept_set (HK8.out.mono (fun i hi => .inl hi)) (.inr rfl) 3 _⟩
set_option maxHeartbeats 8000000 in
set_option maxRecDepth 100000 in
theorem field_105 (w0 w : World) (gr gm : Nat) (b : List Int) (hbs : Bytes b) (hl : b.length ≤ 100000) (e : Int) (m : Ms) (vP vL : Value) (h : Rd w0 w 50 gr b e) (hm : MI w0 w 29 gm m vP vL) (x : Int) (b' : List Int) (e' : Int) (hv : numV b e top = (x, b', e')) :
    Calls Try.prog 26 #[.pointer (some ⟨gr, 0, none⟩), .pointer (some ⟨gm, 0, none⟩), .int .u8 105] w fun er w' => er = .returned (.tuple #[]) ∧ Rd w0 w' 50 gr b' e' ∧ MI w0 w' 29 gm { m with i := x } vP vL ∧ Kept w w' (fun i => i = gr ∨ i = gm) := by
  have hu := Try.underlying29
  have HN := Aside0.mk (num_c w0 w gr b hbs hl e top x b' e' hv h)
  have HP := Aside0.mk (show Calls Try.prog 27 #[.pointer (some ⟨gm, 0, none⟩), .int .u8 105] w fun er w' => er = .returned (.pointer (some ⟨gm, 4, none⟩)) ∧ w = w' from place_c w gm 105 (.inr (.inr (.inr (.inl rfl)))))
  have HM := Aside0.mk hm
  obtain ⟨A, c, hg⟩ := h.row
  have HRW := Aside0.mk hg
  clear h hm hg hv hbs hl
  go_enter Try.func26, Try.ntmps26
  go_wp2_with (first | (go_at_call 27; (with_reducible refine HP.out.mono ?_); rintro er w7 ⟨rfl, rfl⟩) | (go_at_call 24; (with_reducible refine HN.out.mono ?_); rintro er w8 ⟨rfl, hr, hk⟩; have HR8 := Aside0.mk hr; have hm9 := HM.out.kept hk HRW.out (by decide) (by decide); have HM8 := Aside0.mk hm9; have HK8 := Aside0.mk hk; have cz8 := blk_frozen hm9.blk 4; obtain ⟨uc8, cc8⟩ : ∃ u, w8.cell? ⟨gm, 4, none⟩ = some u := ⟨_, blk_cell hm9.blk 4⟩; clear hr hk hm9))
  go_end0
  exact ⟨rfl, HR8.out.far HM8.out.blk (by decide) HM8.out.ge 4 _, HM8.out.puts (by decide) 4 _ rfl rfl rfl, kept_set (HK8.out.mono (fun i hi => .inl hi)) (.inr rfl) 4 _⟩
set_option maxHeartbeats 8000000 in
set_option maxRecDepth 100000 in
theorem field_110 (w0 w : World) (gr gm : Nat) (b : List Int) (hbs : Bytes b) (hl : b.length ≤ 100000) (e : Int) (m : Ms) (vP vL : Value) (h : Rd w0 w 50 gr b e) (hm : MI w0 w 29 gm m vP vL) (x : Int) (b' : List Int) (e' : Int) (hv : numV b e top = (x, b', e')) :
    Calls Try.prog 26 #[.pointer (some ⟨gr, 0, none⟩), .pointer (some ⟨gm, 0, none⟩), .int .u8 110] w fun er w' => er = .returned (.tuple #[]) ∧ Rd w0 w' 50 gr b' e' ∧ MI w0 w' 29 gm { m with n := x } vP vL ∧ Kept w w' (fun i => i = gr ∨ i = gm) := by
  have hu := Try.underlying29
  have HN := Aside0.mk (num_c w0 w gr b hbs hl e top x b' e' hv h)
  have HP := Aside0.mk (show Calls Try.prog 27 #[.pointer (some ⟨gm, 0, none⟩), .int .u8 110] w fun er w' => er = .returned (.pointer (some ⟨gm, 5, none⟩)) ∧ w = w' from place_c w gm 110 (.inr (.inr (.inr (.inr (.inl rfl))))))
  have HM := Aside0.mk hm
  obtain ⟨A, c, hg⟩ := h.row
  have HRW := Aside0.mk hg
  clear h hm hg hv hbs hl
  go_enter Try.func26, Try.ntmps26
  go_wp2_with (first | (go_at_call 27; (with_reducible refine HP.out.mono ?_); rintro er w7 ⟨rfl, rfl⟩) | (go_at_call 24; (with_reducible refine HN.out.mono ?_); rintro er w8 ⟨rfl, hr, hk⟩; have HR8 := Aside0.mk hr; have hm9 := HM.out.kept hk HRW.out (by decide) (by decide); have HM8 := Aside0.mk hm9; have HK8 := Aside0.mk hk; have cz8 := blk_frozen hm9.blk 5; obtain ⟨uc8, cc8⟩ : ∃ u, w8.cell? ⟨gm, 5, none⟩ = some u := ⟨_, blk_cell hm9.blk 5⟩; clear hr hk hm9))
  go_end0
  exact ⟨rfl, HR8.out.far HM8.out.blk (by decide) HM8.out.ge 5 _, HM8.out.puts (by decide) 5 _ rfl rfl rfl, kept_set (HK8.out.mono (fun i hi => .inl hi)) (.inr rfl) 5 _⟩
set_option maxHeartbeats 8000000 in
set_option maxRecDepth 100000 in
theorem field_99 (w0 w : World) (gr gm : Nat) (b : List Int) (hbs : Bytes b) (hl : b.length ≤ 100000) (e : Int) (m : Ms) (vP vL : Value) (h : Rd w0 w 50 gr b e) (hm : MI w0 w 29 gm m vP vL) (x : Int) (b' : List Int) (e' : Int) (hv : numV b e top = (x, b', e')) :
    Calls Try.prog 26 #[.pointer (some ⟨gr, 0, none⟩), .pointer (some ⟨gm, 0, none⟩), .int .u8 99] w fun er w' => er = .returned (.tuple #[]) ∧ Rd w0 w' 50 gr b' e' ∧ MI w0 w' 29 gm { m with c := x } vP vL ∧ Kept w w' (fun i => i = gr ∨ i = gm) := by
  have hu := Try.underlying29
  have HN := Aside0.mk (num_c w0 w gr b hbs hl e top x b' e' hv h)
  have HP := Aside0.mk (show Calls Try.prog 27 #[.pointer (some ⟨gm, 0, none⟩), .int .u8 99] w fun er w' => er = .returned (.pointer (some ⟨gm, 6, none⟩)) ∧ w = w' from place_c w gm 99 (.inr (.inr (.inr (.inr (.inr rfl))))))
  have HM := Aside0.mk hm
  obtain ⟨A, c, hg⟩ := h.row
  have HRW := Aside0.mk hg
  clear h hm hg hv hbs hl
  go_enter Try.func26, Try.ntmps26
  go_wp2_with (first | (go_at_call 27; (with_reducible refine HP.out.mono ?_); rintro er w7 ⟨rfl, rfl⟩) | (go_at_call 24; (with_reducible refine HN.out.mono ?_); rintro er w8 ⟨rfl, hr, hk⟩; have HR8 := Aside0.mk hr; have hm9 := HM.out.kept hk HRW.out (by decide) (by decide); have HM8 := Aside0.mk hm9; have HK8 := Aside0.mk hk; have cz8 := blk_frozen hm9.blk 6; obtain ⟨uc8, cc8⟩ : ∃ u, w8.cell? ⟨gm, 6, none⟩ = some u := ⟨_, blk_cell hm9.blk 6⟩; clear hr hk hm9))
  go_end0
  exact ⟨rfl, HR8.out.far HM8.out.blk (by decide) HM8.out.ge 6 _, HM8.out.puts (by decide) 6 _ rfl rfl rfl, kept_set (HK8.out.mono (fun i hi => .inl hi)) (.inr rfl) 6 _⟩
set_option maxHeartbeats 8000000 in
set_option maxRecDepth 100000 in
theorem field_119 (w0 w : World) (gr gm : Nat) (b : List Int) (hbs : Bytes b) (hl : b.length ≤ 100000) (e : Int) (m : Ms) (vP vL : Value) (h : Rd w0 w 50 gr b e) (hm : MI w0 w 29 gm m vP vL) (x : Int) (b' : List Int) (e' : Int) (hv : numV b e 255 = (x, b', e')) :
    Calls Try.prog 26 #[.pointer (some ⟨gr, 0, none⟩), .pointer (some ⟨gm, 0, none⟩), .int .u8 119] w fun er w' => er = .returned (.tuple #[]) ∧ Rd w0 w' 50 gr b' e' ∧ MI w0 w' 29 gm { m with why := x } vP vL ∧ Kept w w' (fun i => i = gr ∨ i = gm) := by
  have hu := Try.underlying29
  have HN := Aside0.mk (num_c w0 w gr b hbs hl e 255 x b' e' hv h)
  have hbd := num_bd hbs e 255 (by decide)
  rw [hv] at hbd
  have ex : wrap64 x = x := w64 (by have := hbd.1; omega) (by have := hbd.2.1; dsimp only at this; omega)
  have HM := Aside0.mk hm
  obtain ⟨A, c, hg⟩ := h.row
  have HRW := Aside0.mk hg
  clear h hm hg hv hbs hl hbd
  go_enter Try.func26, Try.ntmps26
  go_wp2_with (first | (go_at_call 24; (with_reducible refine HN.out.mono ?_); rintro er w8 ⟨rfl, hr, hk⟩; have HR8 := Aside0.mk hr; have hm9 := HM.out.kept hk HRW.out (by decide) (by decide); have HM8 := Aside0.mk hm9; have HK8 := Aside0.mk hk; have cz8 := blk_frozen hm9.blk 7; obtain ⟨uc8, cc8⟩ : ∃ u, w8.cell? ⟨gm, 7, none⟩ = some u := ⟨_, blk_cell hm9.blk 7⟩; clear hr hk hm9))
  go_end0
  exact ⟨rfl, HR8.out.far HM8.out.blk (by decide) HM8.out.ge 7 _, HM8.out.puts (by decide) 7 _ rfl rfl rfl, kept_set (HK8.out.mono (fun i hi => .inl hi)) (.inr rfl) 7 _⟩
set_option maxHeartbeats 8000000 in
set_option maxRecDepth 100000 in
theorem field_108 (w0 w : World) (gr gm : Nat) (b : List Int) (hbs : Bytes b) (hl : b.length ≤ 100000) (e : Int) (m : Ms) (vP vL : Value) (h : Rd w0 w 50 gr b e) (hm : MI w0 w 29 gm m vP vL) (xs : List Int) (b' : List Int) (e' : Int) (hv : listV b e = (xs, b', e')) :
    Calls Try.prog 26 #[.pointer (some ⟨gr, 0, none⟩), .pointer (some ⟨gm, 0, none⟩), .int .u8 108] w fun er w' => ∃ v, er = .returned (.tuple #[]) ∧ Rd w0 w' 50 gr b' e' ∧ MI w0 w' 29 gm { m with L := xs } vP v ∧ Kept w w' (fun i => i = gr ∨ i = gm) := by
  have hu := Try.underlying29
  have HNL := Aside0.mk (list_c w0 w gr b hbs hl e xs b' e' hv h)
  have HM := Aside0.mk hm
  have HWS := Aside0.mk h.bel.size
  obtain ⟨A, c, hg⟩ := h.row
  have HRW := Aside0.mk hg
  clear h hm hg hv hbs hl
  go_enter Try.func26, Try.ntmps26
  go_wp2_with (first | (go_at_call 47; (with_reducible refine HNL.out.mono ?_); rintro er w6 ⟨v, rfl, hls, hr, hk⟩; obtain ⟨A6, c6, rfl, _, _⟩ := hls.form; have HR6 := Aside0.mk hr; have hm9 := HM.out.kept hk HRW.out (by decide) (by decide); have HM6 := Aside0.mk hm9; have HV6 := Aside0.mk hls; have HK6 := Aside0.mk hk; have cz6 := blk_frozen hm9.blk 11; obtain ⟨uc6, cc6⟩ : ∃ u, w6.cell? ⟨gm, 11, none⟩ = some u := ⟨_, blk_cell hm9.blk 11⟩; clear hr hk hm9 hls))
  go_end0
  exact ⟨_, rfl, HR6.out.far HM6.out.blk (by decide) HM6.out.ge 11 _, HM6.out.put (by decide) 11 _ rfl HM6.out.P (HV6.out.lower HWS.out), kept_set (HK6.out.mono (fun i hi => .inl hi)) (.inr rfl) 11 _⟩
set_option maxHeartbeats 8000000 in
set_option maxRecDepth 100000 in
theorem field_106 (w0 w : World) (gr gm : Nat) (b : List Int) (hbs : Bytes b) (hl : b.length ≤ 100000) (e : Int) (m : Ms) (vP vL : Value) (h : Rd w0 w 50 gr b e) (hm : MI w0 w 29 gm m vP vL) (x1 x2 : Int) (xs b1 b2 b' : List Int) (e1 e2 e' : Int) (hv1 : numV b e top = (x1, b1, e1)) (hv2 : numV b1 e1 256 = (x2, b2, e2)) (hv3 : listV b2 e2 = (xs, b', e')) :
    Calls Try.prog 26 #[.pointer (some ⟨gr, 0, none⟩), .pointer (some ⟨gm, 0, none⟩), .int .u8 106] w fun er w' => ∃ v, er = .returned (.tuple #[]) ∧ Rd w0 w' 50 gr b' e' ∧ MI w0 w' 29 gm { m with seed := x1, most := x2, P := xs } v vL ∧ Kept w w' (fun i => i = gr ∨ i = gm) := by
  have hu := Try.underlying29
  have hu27 := Try.underlying27
  have HN := Aside0.mk (num_c w0 w gr b hbs hl e top x1 b1 e1 hv1 h)
  have hd1 := num_bd hbs e top (by decide)
  rw [hv1] at hd1
  dsimp only at hd1
  have hd2 := num_bd hd1.2.2.1 e1 256 (by decide)
  rw [hv2] at hd2
  dsimp only at hd2
  have ex : wrap64 x2 = x2 := w64 (by have := hd2.1; omega) (by have := hd2.2.1; omega)
  have HD := Aside0.mk (show (Bytes b1 ∧ b1.length ≤ 100000) ∧ Bytes b2 ∧ b2.length ≤ 100000 from ⟨⟨hd1.2.2.1, Nat.le_trans hd1.2.2.2 hl⟩, hd2.2.2.1, Nat.le_trans hd2.2.2.2 (Nat.le_trans hd1.2.2.2 hl)⟩)
  have HM := Aside0.mk hm
  have HWS := Aside0.mk h.bel.size
  have HV2 := Aside0.mk hv2; have HV3 := Aside0.mk hv3
  obtain ⟨A, c, hg⟩ := h.row
  have HRW := Aside0.mk hg
  clear h hm hg hv1 hv2 hv3 hbs hl hd1 hd2
  go_enter Try.func26, Try.ntmps26
  go_upto_region 6 with (first | (go_at_call 24; (with_reducible refine HN.out.mono ?_); rintro er w8 ⟨rfl, hr, hk⟩; have HR8 := Aside0.mk hr; have hm9 := HM.out.kept hk HRW.out (by decide) (by decide); have HM8 := Aside0.mk hm9; have HK8 := Aside0.mk hk; have cz8 := blk_frozen hm9.blk 8; obtain ⟨uc8, cc8⟩ : ∃ u, w8.cell? ⟨gm, 8, none⟩ = some u := ⟨_, blk_cell hm9.blk 8⟩; clear hr hk hm9))
  obtain ⟨wa, hwa⟩ : ∃ wa, w8.setCell ⟨gm, 8, none⟩ (.int .u64 x1) = wa := ⟨_, rfl⟩
  have ra : Rd w0 wa 50 gr b1 e1 := by rw [← hwa]; exact HR8.out.far HM8.out.blk (by decide) HM8.out.ge 8 _
  have ma : MI w0 wa 29 gm { m with seed := x1 } vP vL := by rw [← hwa]; exact HM8.out.puts (by decide) 8 _ rfl rfl rfl
  have ka : Kept w wa (fun i => i = gr ∨ i = gm) := by rw [← hwa]; exact kept_set (HK8.out.mono (fun i hi => .inl hi)) (.inr rfl) 8 _
  have HNB := Aside0.mk (num_c w0 wa gr b1 HD.out.1.1 HD.out.1.2 e1 256 x2 b2 e2 HV2.out ra)
  have HMA := Aside0.mk ma; have HKA := Aside0.mk ka
  obtain ⟨A2, c2, hg2⟩ := ra.row
  have HRWA := Aside0.mk hg2
  rw [hwa]
  clear hwa ra ma ka hg2 cz8 cc8
  go_upto_region 7 with (first | (go_at_call 24; (with_reducible refine HNB.out.mono ?_); rintro er w5 ⟨rfl, hr, hk⟩; have HR5 := Aside0.mk hr; have hm9 := HMA.out.kept hk HRWA.out (by decide) (by decide); have HM5 := Aside0.mk hm9; have HK5 := Aside0.mk hk; have cz5 := blk_frozen hm9.blk 10; obtain ⟨uc5, cc5⟩ : ∃ u, w5.cell? ⟨gm, 10, none⟩ = some u := ⟨_, blk_cell hm9.blk 10⟩; clear hr hk hm9))
  obtain ⟨wb, hwb⟩ : ∃ wb, w5.setCell ⟨gm, 10, none⟩ (.int .i64 x2) = wb := ⟨_, rfl⟩
  have ra : Rd w0 wb 50 gr b2 e2 := by rw [← hwb]; exact HR5.out.far HM5.out.blk (by decide) HM5.out.ge 10 _
  have ma : MI w0 wb 29 gm { m with seed := x1, most := x2 } vP vL := by rw [← hwb]; exact HM5.out.puts (by decide) 10 _ rfl rfl rfl
  have ka : Kept w wb (fun i => i = gr ∨ i = gm) := by rw [← hwb]; exact kept_set (kept_then HKA.out HK5.out (fun i hi => .inl hi)) (.inr rfl) 10 _
  have HNL := Aside0.mk (list_c w0 wb gr b2 HD.out.2.1 HD.out.2.2 e2 xs b' e' HV3.out ra)
  have HWB := Aside0.mk ra.bel.size
  have HMB := Aside0.mk ma; have HKB := Aside0.mk ka
  obtain ⟨A3, c3, hg3⟩ := ra.row
  have HRWB := Aside0.mk hg3
  rw [hwb]
  clear hwb ra ma ka hg3 cz5 cc5
  go_wp2_with (first | (go_at_call 47; (with_reducible refine HNL.out.mono ?_); rintro er w6 ⟨v, rfl, hls, hr, hk⟩; obtain ⟨A6, c6, rfl, _, _⟩ := hls.form; have HR6 := Aside0.mk hr; have hm9 := HMB.out.kept hk HRWB.out (by decide) (by decide); have HM6 := Aside0.mk hm9; have HV6 := Aside0.mk hls; have HK6 := Aside0.mk hk; have cz6 := blk_frozen hm9.blk 9; obtain ⟨uc6, cc6⟩ : ∃ u, w6.cell? ⟨gm, 9, none⟩ = some u := ⟨_, blk_cell hm9.blk 9⟩; clear hr hk hm9 hls))
  go_end0
  exact ⟨_, rfl, HR6.out.far HM6.out.blk (by decide) HM6.out.ge 9 _, HM6.out.put (by decide) 9 _ rfl (HV6.out.lower HWB.out) HM6.out.L, kept_set (kept_then HKB.out HK6.out (fun i hi => .inl hi)) (.inr rfl) 9 _⟩
end Go.Proofs.Ytbfmbjkalldonaa.Msg
namespace Go.Proofs.Ytbfmbjkalldonaa.Msg
set_option linter.unusedVariables false
set_option linter.unusedSimpArgs false
open Go.RowKit Go.Proofs.Ytbfmbjkalldonaa.PA Go.Proofs.YtbfmbjkalldonaaW.PrintWords Go.Proofs.YtbfmbjkalldonaaW.PrintLast Go.Proofs.YtbfmbjkalldonaaW.PrintMore Go.Proofs.Ytbfmbjkalldonaa.Base Go.Proofs.Ytbfmbjkalldonaa.Var Go.Proofs.Ytbfmbjkalldonaa.Lst
attribute [local go_sem] max2_int min2_int max_two min_two max_three min_three max_four min_four
abbrev st12 (w : World) (g : Nat) (v0 v1 v2 v3 v4 v5 v6 v7 v8 v9 v10 v11 : Value) : World := ((((((((((((w.setCell ⟨g, 0, none⟩ v0).setCell ⟨g, 1, none⟩ v1).setCell ⟨g, 2, none⟩ v2).setCell ⟨g, 3, none⟩ v3).setCell ⟨g, 4, none⟩ v4).setCell ⟨g, 5, none⟩ v5).setCell ⟨g, 6, none⟩ v6).setCell ⟨g, 7, none⟩ v7).setCell ⟨g, 8, none⟩ v8).setCell ⟨g, 9, none⟩ v9).setCell ⟨g, 10, none⟩ v10).setCell ⟨g, 11, none⟩ v11)
theorem st12_blk {w : World} {g T : Nat} {c0 c1 c2 c3 c4 c5 c6 c7 c8 c9 c10 c11 : Value} (h : w.heap[g]? = some (.cells #[c0, c1, c2, c3, c4, c5, c6, c7, c8, c9, c10, c11] T (0, 0))) (v0 v1 v2 v3 v4 v5 v6 v7 v8 v9 v10 v11 : Value) : (st12 w g v0 v1 v2 v3 v4 v5 v6 v7 v8 v9 v10 v11).heap[g]? = some (.cells #[v0, v1, v2, v3, v4, v5, v6, v7, v8, v9, v10, v11] T (0, 0)) := (blk_put (cs' := #[v0, v1, v2, v3, v4, v5, v6, v7, v8, v9, v10, v11]) (blk_put (cs' := #[v0, v1, v2, v3, v4, v5, v6, v7, v8, v9, v10, c11]) (blk_put (cs' := #[v0, v1, v2, v3, v4, v5, v6, v7, v8, v9, c10, c11]) (blk_put (cs' := #[v0, v1, v2, v3, v4, v5, v6, v7, v8, c9, c10, c11]) (blk_put (cs' := #[v0, v1, v2, v3, v4, v5, v6, v7, c8, c9, c10, c11]) (blk_put (cs' := #[v0, v1, v2, v3, v4, v5, v6, c7, c8, c9, c10, c11]) (blk_put (cs' := #[v0, v1, v2, v3, v4, v5, c6, c7, c8, c9, c10, c11]) (blk_put (cs' := #[v0, v1, v2, v3, v4, c5, c6, c7, c8, c9, c10, c11]) (blk_put (cs' := #[v0, v1, v2, v3, c4, c5, c6, c7, c8, c9, c10, c11]) (blk_put (cs' := #[v0, v1, v2, c3, c4, c5, c6, c7, c8, c9, c10, c11]) (blk_put (cs' := #[v0, v1, c2, c3, c4, c5, c6, c7, c8, c9, c10, c11]) (blk_put (cs' := #[v0, c1, c2, c3, c4, c5, c6, c7, c8, c9, c10, c11]) h 0 v0 rfl) 1 v1 rfl) 2 v2 rfl) 3 v3 rfl) 4 v4 rfl) 5 v5 rfl) 6 v6 rfl) 7 v7 rfl) 8 v8 rfl) 9 v9 rfl) 10 v10 rfl) 11 v11 rfl)
theorem st12_kept (w : World) (g : Nat) (v0 v1 v2 v3 v4 v5 v6 v7 v8 v9 v10 v11 : Value) : Kept w (st12 w g v0 v1 v2 v3 v4 v5 v6 v7 v8 v9 v10 v11) (fun i => i = g) := (kept_set (kept_set (kept_set (kept_set (kept_set (kept_set (kept_set (kept_set (kept_set (kept_set (kept_set (kept_set (Kept.refl w (fun i => i = g)) rfl 0 v0) rfl 1 v1) rfl 2 v2) rfl 3 v3) rfl 4 v4) rfl 5 v5) rfl 6 v6) rfl 7 v7) rfl 8 v8) rfl 9 v9) rfl 10 v10) rfl 11 v11)
theorem st12_bel {w0 w : World} {g : Nat} (hb : Below w0.heap.size w0 w) (hg : w0.heap.size ≤ g) (v0 v1 v2 v3 v4 v5 v6 v7 v8 v9 v10 v11 : Value) : Below w0.heap.size w0 (st12 w g v0 v1 v2 v3 v4 v5 v6 v7 v8 v9 v10 v11) := (below_set (v := v11) (j := 11) (below_set (v := v10) (j := 10) (below_set (v := v9) (j := 9) (below_set (v := v8) (j := 8) (below_set (v := v7) (j := 7) (below_set (v := v6) (j := 6) (below_set (v := v5) (j := 5) (below_set (v := v4) (j := 4) (below_set (v := v3) (j := 3) (below_set (v := v2) (j := 2) (below_set (v := v1) (j := 1) (below_set (v := v0) (j := 0) hb hg) hg) hg) hg) hg) hg) hg) hg) hg) hg) hg) hg)
/-- the nine letters -/
abbrev isL (c : Int) : Prop := c = 115 ∨ c = 101 ∨ c = 97 ∨ c = 105 ∨ c = 110 ∨ c = 99 ∨ c = 119 ∨ c = 106 ∨ c = 108
theorem field_c (w0 w : World) (gr gm : Nat) (b : List Int) (hbs : Bytes b) (hl : b.length ≤ 100000) (e : Int) (m : Ms) (vP vL : Value) (h : Rd w0 w 50 gr b e) (hm : MI w0 w 29 gm m vP vL) (c : Int) (hc : isL c) (m' : Ms) (b' : List Int) (e' : Int) (hv : fieldV m b e c = (m', b', e')) :
    Calls Try.prog 26 #[.pointer (some ⟨gr, 0, none⟩), .pointer (some ⟨gm, 0, none⟩), .int .u8 c] w fun er w' => ∃ vP' vL', er = .returned (.tuple #[]) ∧ Rd w0 w' 50 gr b' e' ∧ MI w0 w' 29 gm m' vP' vL' ∧ Kept w w' (fun i => i = gr ∨ i = gm) := by
  unfold fieldV at hv
  rcases hc with rfl | rfl | rfl | rfl | rfl | rfl | rfl | rfl | rfl
  · rw [if_neg (by decide), if_neg (by decide), if_neg (by decide)] at hv
    rcases hn : numV b e top with ⟨x, b1, e1⟩
    rw [hn] at hv
    obtain ⟨hm', hv⟩ := Prod.mk.inj hv
    obtain ⟨rfl, rfl⟩ := Prod.mk.inj hv
    subst hm'
    exact (field_115 w0 w gr gm b hbs hl e m vP vL h hm x _ _ hn).mono fun er w' hq => ⟨vP, vL, hq⟩
  · rw [if_neg (by decide), if_neg (by decide), if_neg (by decide)] at hv
    rcases hn : numV b e top with ⟨x, b1, e1⟩
    rw [hn] at hv
    obtain ⟨hm', hv⟩ := Prod.mk.inj hv
    obtain ⟨rfl, rfl⟩ := Prod.mk.inj hv
    subst hm'
    exact (field_101 w0 w gr gm b hbs hl e m vP vL h hm x _ _ hn).mono fun er w' hq => ⟨vP, vL, hq⟩
  · rw [if_neg (by decide), if_neg (by decide), if_neg (by decide)] at hv
    rcases hn : numV b e top with ⟨x, b1, e1⟩
    rw [hn] at hv
    obtain ⟨hm', hv⟩ := Prod.mk.inj hv
    obtain ⟨rfl, rfl⟩ := Prod.mk.inj hv
    subst hm'
    exact (field_97 w0 w gr gm b hbs hl e m vP vL h hm x _ _ hn).mono fun er w' hq => ⟨vP, vL, hq⟩
  · rw [if_neg (by decide), if_neg (by decide), if_neg (by decide)] at hv
    rcases hn : numV b e top with ⟨x, b1, e1⟩
    rw [hn] at hv
    obtain ⟨hm', hv⟩ := Prod.mk.inj hv
    obtain ⟨rfl, rfl⟩ := Prod.mk.inj hv
    subst hm'
    exact (field_105 w0 w gr gm b hbs hl e m vP vL h hm x _ _ hn).mono fun er w' hq => ⟨vP, vL, hq⟩
  · rw [if_neg (by decide), if_neg (by decide), if_neg (by decide)] at hv
    rcases hn : numV b e top with ⟨x, b1, e1⟩
    rw [hn] at hv
    obtain ⟨hm', hv⟩ := Prod.mk.inj hv
    obtain ⟨rfl, rfl⟩ := Prod.mk.inj hv
    subst hm'
    exact (field_110 w0 w gr gm b hbs hl e m vP vL h hm x _ _ hn).mono fun er w' hq => ⟨vP, vL, hq⟩
  · rw [if_neg (by decide), if_neg (by decide), if_neg (by decide)] at hv
    rcases hn : numV b e top with ⟨x, b1, e1⟩
    rw [hn] at hv
    obtain ⟨hm', hv⟩ := Prod.mk.inj hv
    obtain ⟨rfl, rfl⟩ := Prod.mk.inj hv
    subst hm'
    exact (field_99 w0 w gr gm b hbs hl e m vP vL h hm x _ _ hn).mono fun er w' hq => ⟨vP, vL, hq⟩
  · rw [if_pos rfl] at hv
    rcases hn : numV b e 255 with ⟨x, b1, e1⟩
    rw [hn] at hv
    obtain ⟨hm', hv⟩ := Prod.mk.inj hv
    obtain ⟨rfl, rfl⟩ := Prod.mk.inj hv
    subst hm'
    exact (field_119 w0 w gr gm b hbs hl e m vP vL h hm x _ _ hn).mono fun er w' hq => ⟨vP, vL, hq⟩
  · rw [if_neg (by decide), if_pos rfl] at hv
    rcases hn : numV b e top with ⟨x1, b1, e1⟩
    rcases hn2 : numV b1 e1 256 with ⟨x2, b2, e2⟩
    rcases hn3 : listV b2 e2 with ⟨xs, b3, e3⟩
    rw [hn] at hv
    dsimp only at hv
    rw [hn2] at hv
    dsimp only at hv
    rw [hn3] at hv
    obtain ⟨hm', hv⟩ := Prod.mk.inj hv
    obtain ⟨rfl, rfl⟩ := Prod.mk.inj hv
    subst hm'
    exact (field_106 w0 w gr gm b hbs hl e m vP vL h hm x1 x2 xs b1 b2 _ e1 e2 _ hn hn2 hn3).mono fun er w' ⟨v, hq⟩ => ⟨v, vL, hq⟩
  · rw [if_neg (by decide), if_neg (by decide), if_pos rfl] at hv
    rcases hn : listV b e with ⟨xs, b1, e1⟩
    rw [hn] at hv
    obtain ⟨hm', hv⟩ := Prod.mk.inj hv
    obtain ⟨rfl, rfl⟩ := Prod.mk.inj hv
    subst hm'
    exact (field_108 w0 w gr gm b hbs hl e m vP vL h hm xs _ _ hn).mono fun er w' ⟨v, hq⟩ => ⟨vP, v, hq⟩
theorem letters_of (k : Int) (h1 : 1 ≤ k) (h2 : k ≤ 12) : ∃ S : ByteArray, msg_letters.f k = some S ∧ bytesOf S = lettersV k ∧ S.size = (lettersV k).length := by
  have hk : k = 1 ∨ k = 2 ∨ k = 3 ∨ k = 4 ∨ k = 5 ∨ k = 6 ∨ k = 7 ∨ k = 8 ∨ k = 9 ∨ k = 10 ∨ k = 11 ∨ k = 12 := by omega
  rcases hk with rfl | rfl | rfl | rfl | rfl | rfl | rfl | rfl | rfl | rfl | rfl | rfl
  · exact ⟨⟨#[115, 101, 106]⟩, by kernel_rfl, by kernel_rfl, by kernel_rfl⟩
  · exact ⟨⟨#[115, 110]⟩, by kernel_rfl, by kernel_rfl, by kernel_rfl⟩
  · exact ⟨⟨#[115]⟩, by kernel_rfl, by kernel_rfl, by kernel_rfl⟩
  · exact ⟨⟨#[115, 110, 108]⟩, by kernel_rfl, by kernel_rfl, by kernel_rfl⟩
  · exact ⟨⟨#[115, 110, 119]⟩, by kernel_rfl, by kernel_rfl, by kernel_rfl⟩
  · exact ⟨⟨#[97, 105, 110, 106]⟩, by kernel_rfl, by kernel_rfl, by kernel_rfl⟩
  · exact ⟨⟨#[97, 105]⟩, by kernel_rfl, by kernel_rfl, by kernel_rfl⟩
  · exact ⟨⟨#[97, 105, 110, 108]⟩, by kernel_rfl, by kernel_rfl, by kernel_rfl⟩
  · exact ⟨⟨#[97, 105, 110, 119]⟩, by kernel_rfl, by kernel_rfl, by kernel_rfl⟩
  · exact ⟨⟨#[110]⟩, by kernel_rfl, by kernel_rfl, by kernel_rfl⟩
  · exact ⟨⟨#[110, 105, 99]⟩, by kernel_rfl, by kernel_rfl, by kernel_rfl⟩
  · exact ⟨⟨#[105]⟩, by kernel_rfl, by kernel_rfl, by kernel_rfl⟩
set_option maxHeartbeats 1000000 in
theorem letters_isL (k : Int) : ∀ c ∈ lettersV k, isL c := by
  have this : ∀ (q : List Int), (∀ d ∈ q, isL d) → ∀ c ∈ q, isL c := fun q h => h
  intro c hc
  unfold lettersV at hc
  repeat' split at hc
  all_goals exact this _ (by decide) c hc
theorem letters_len (k : Int) : (lettersV k).length ≤ 4 := by
  unfold lettersV
  repeat' split
  all_goals decide
theorem MI.below {w0 w w' : World} {T gm : Nat} {m : Ms} {vP vL : Value} (h : MI w0 w T gm m vP vL) (hb : Below w.heap.size w w') : MI w0 w' T gm m vP vL := ⟨blk_below h.blk hb, h.ge, h.P.below hb, h.L.below hb⟩
def PostR (w : World) (m : Ms) (e0 : Int) (e : Ending) (w' : World) : Prop := ∃ vP vL, e = .returned (.tuple #[.agg (mcells m vP vL), .int .i64 e0]) ∧ Ls encI 3 w' w.heap.size vP m.P ∧ Ls encI 3 w' w.heap.size vL m.L ∧ Below w.heap.size w w'
set_option maxHeartbeats 16000000 in
set_option maxRecDepth 100000 in
theorem read_c (A0 : Option Addr) (c0 : Nat) (l : List Int) (hl : l.length ≤ 100000) (hbs : Bytes l) (hc0 : l.length ≤ c0) (m : Ms) (e0 : Int) (hv : readV l = (m, e0)) (w : World) (hb : Kd.C (Kd.int .u8) w A0 l.length l) :
    Calls Try.prog 9 #[.slice A0 l.length c0] w (PostR w m e0) := by
  have hu := Try.underlying29
  have hu50 := Try.underlying50
  have HBC := Aside0.mk hb; have HL := Aside0.mk hl; have HBS := Aside0.mk hbs; have HC := Aside0.mk hc0
  rcases hn : numV l 0 top with ⟨x, b1, e1⟩
  have hbd := num_bd hbs 0 top (by decide)
  unfold readV at hv
  rw [hn] at hv hbd
  dsimp only at hv hbd
  have HN := Aside0.mk hn
  clear hn hb hl hbs hc0
  by_cases h1 : e1 = 0
  rotate_left
  · rw [if_neg h1] at hv
    obtain ⟨rfl, rfl⟩ := Prod.mk.inj hv
    have q1 : (e1 != 0) = true := by simpa using h1
    clear h1 hbd
    go_enter Try.func9, Try.ntmps9
    go_upto_region 4 with (first | ((with_reducible refine gate_dst (N := 2) rfl ?_); refine box_event ?hg (N := 2) ?hd (cs := #[.int .i64 0, .int .u64 0, .int .u64 0, .int .u64 0, .int .u64 0, .int .u64 0, .int .u64 0, .int .i64 0, .int .u64 0, .slice none 0 0, .int .i64 0, .slice none 0 0]) (t := 29) ?hr ?_; (case hd => rfl); (case hg => rfl); (case hr => first | (go_simp; done) | (go_simp; rfl)); intro rc hrc w5 hbox hb; have HRC := Aside0.mk hbox; have HB5 := Aside0.mk hb; have HNC := Aside0.mk hrc; clear hbox hb hrc) | ((with_reducible refine gate_dst (N := 11) rfl ?_); refine box_event ?hg (N := 11) ?hd (cs := #[.slice A0 l.length c0, .int .i64 0]) (t := 50) ?hr ?_; (case hd => rfl); (case hg => rfl); (case hr => first | (go_simp; done) | (go_simp; rfl)); intro gr hgr w6 hbox hb; have hRD := (Rd.mk ⟨A0, c0, hbox, HBC.out, HC.out⟩ (by rw [hgr]; exact HB5.out.size) (below_step HB5.out hb) : Rd w w6 50 gr l 0); have HRD := Aside0.mk hRD; have HRC6 := Aside0.mk (blk_below HRC.out hb); have HLT := Aside0.mk (show rc < gr from by rw [hgr]; exact blk_lt HRC.out); clear hbox hb hgr hRD HRC) | (go_at_call 24; (with_reducible refine (num_c w _ gr l HBS.out (by have := HL.out; omega) 0 top x b1 e1 HN.out HRD.out).mono ?_); rintro er w8 ⟨rfl, hr, hk⟩; have HR8 := Aside0.mk hr; have hrc8 := blk_kept HRC6.out hk (Nat.ne_of_lt HLT.out); have HRC8 := Aside0.mk hrc8; obtain ⟨A, c, hg8⟩ := hr.row; have k1 : w8.cell? ⟨gr, 1, none⟩ = some (.int .i64 e1) := blk_cell hg8 1; have ne1 : gr ≠ rc := Nat.ne_of_gt HLT.out; have ne2 : rc ≠ gr := Nat.ne_of_lt HLT.out; have y0 : w8.cell? ⟨rc, 0, none⟩ = some (.int .i64 0) := blk_cell hrc8 0; have yf0 : w8.frozen? ⟨rc, 0, none⟩ = false := blk_frozen hrc8 0; have y1 : w8.cell? ⟨rc, 1, none⟩ = some (.int .u64 0) := blk_cell hrc8 1; have yf1 : w8.frozen? ⟨rc, 1, none⟩ = false := blk_frozen hrc8 1; have y2 : w8.cell? ⟨rc, 2, none⟩ = some (.int .u64 0) := blk_cell hrc8 2; have yf2 : w8.frozen? ⟨rc, 2, none⟩ = false := blk_frozen hrc8 2; have y3 : w8.cell? ⟨rc, 3, none⟩ = some (.int .u64 0) := blk_cell hrc8 3; have yf3 : w8.frozen? ⟨rc, 3, none⟩ = false := blk_frozen hrc8 3; have y4 : w8.cell? ⟨rc, 4, none⟩ = some (.int .u64 0) := blk_cell hrc8 4; have yf4 : w8.frozen? ⟨rc, 4, none⟩ = false := blk_frozen hrc8 4; have y5 : w8.cell? ⟨rc, 5, none⟩ = some (.int .u64 0) := blk_cell hrc8 5; have yf5 : w8.frozen? ⟨rc, 5, none⟩ = false := blk_frozen hrc8 5; have y6 : w8.cell? ⟨rc, 6, none⟩ = some (.int .u64 0) := blk_cell hrc8 6; have yf6 : w8.frozen? ⟨rc, 6, none⟩ = false := blk_frozen hrc8 6; have y7 : w8.cell? ⟨rc, 7, none⟩ = some (.int .i64 0) := blk_cell hrc8 7; have yf7 : w8.frozen? ⟨rc, 7, none⟩ = false := blk_frozen hrc8 7; have y8 : w8.cell? ⟨rc, 8, none⟩ = some (.int .u64 0) := blk_cell hrc8 8; have yf8 : w8.frozen? ⟨rc, 8, none⟩ = false := blk_frozen hrc8 8; have y9 : w8.cell? ⟨rc, 9, none⟩ = some (.slice none 0 0) := blk_cell hrc8 9; have yf9 : w8.frozen? ⟨rc, 9, none⟩ = false := blk_frozen hrc8 9; have y10 : w8.cell? ⟨rc, 10, none⟩ = some (.int .i64 0) := blk_cell hrc8 10; have yf10 : w8.frozen? ⟨rc, 10, none⟩ = false := blk_frozen hrc8 10; have y11 : w8.cell? ⟨rc, 11, none⟩ = some (.slice none 0 0) := blk_cell hrc8 11; have yf11 : w8.frozen? ⟨rc, 11, none⟩ = false := blk_frozen hrc8 11; clear hr hk hrc8 hg8))
    go_region
    go_wp2_with fail
    (try simp only [Exit.inBlock, Exit.then])
    refine bodyPost_ret (results_ct rfl _ _ rc 29 #[.int .i64 0, .int .u64 0, .int .u64 0, .int .u64 0, .int .u64 0, .int .u64 0, .int .u64 0, .int .i64 0, .int .u64 0, .slice none 0 0, .int .i64 0, .slice none 0 0] (0, 0) _ rfl (blk_drew (st12_blk HRC8.out (.int .i64 0) (.int .u64 0) (.int .u64 0) (.int .u64 0) (.int .u64 0) (.int .u64 0) (.int .u64 0) (.int .i64 0) (.int .u64 0) (.slice none 0 0) (.int .i64 0) (.slice none 0 0))) Try.underlying29 (by rfl) (by kernel_rfl)) rfl ?_
    exact ⟨_, _, rfl, Ls.nil _ _ _ _, Ls.nil _ _ _ _, below_drew (st12_bel HR8.out.bel (Nat.le_of_eq HNC.out.symm) (.int .i64 0) (.int .u64 0) (.int .u64 0) (.int .u64 0) (.int .u64 0) (.int .u64 0) (.int .u64 0) (.int .i64 0) (.int .u64 0) (.slice none 0 0) (.int .i64 0) (.slice none 0 0))⟩
  subst h1
  rw [if_pos rfl] at hv
  by_cases hk : x < 1 ∨ x > 12
  · rw [if_pos hk] at hv
    obtain ⟨rfl, rfl⟩ := Prod.mk.inj hv
    by_cases hx : x < 1
    · have d1 : decide (x < 1) = true := decide_eq_true hx
      clear hk hx hbd
      go_enter Try.func9, Try.ntmps9
      go_wp2_with (first | ((with_reducible refine gate_dst (N := 2) rfl ?_); refine box_event ?hg (N := 2) ?hd (cs := #[.int .i64 0, .int .u64 0, .int .u64 0, .int .u64 0, .int .u64 0, .int .u64 0, .int .u64 0, .int .i64 0, .int .u64 0, .slice none 0 0, .int .i64 0, .slice none 0 0]) (t := 29) ?hr ?_; (case hd => rfl); (case hg => rfl); (case hr => first | (go_simp; done) | (go_simp; rfl)); intro rc hrc w5 hbox hb; have HRC := Aside0.mk hbox; have HB5 := Aside0.mk hb; have HNC := Aside0.mk hrc; clear hbox hb hrc) | ((with_reducible refine gate_dst (N := 11) rfl ?_); refine box_event ?hg (N := 11) ?hd (cs := #[.slice A0 l.length c0, .int .i64 0]) (t := 50) ?hr ?_; (case hd => rfl); (case hg => rfl); (case hr => first | (go_simp; done) | (go_simp; rfl)); intro gr hgr w6 hbox hb; have hRD := (Rd.mk ⟨A0, c0, hbox, HBC.out, HC.out⟩ (by rw [hgr]; exact HB5.out.size) (below_step HB5.out hb) : Rd w w6 50 gr l 0); have HRD := Aside0.mk hRD; have HRC6 := Aside0.mk (blk_below HRC.out hb); have HLT := Aside0.mk (show rc < gr from by rw [hgr]; exact blk_lt HRC.out); clear hbox hb hgr hRD HRC) | (go_at_call 24; (with_reducible refine (num_c w _ gr l HBS.out (by have := HL.out; omega) 0 top x b1 0 HN.out HRD.out).mono ?_); rintro er w8 ⟨rfl, hr, hk⟩; have HR8 := Aside0.mk hr; have hrc8 := blk_kept HRC6.out hk (Nat.ne_of_lt HLT.out); have HRC8 := Aside0.mk hrc8; obtain ⟨A, c, hg8⟩ := hr.row; have k1 : w8.cell? ⟨gr, 1, none⟩ = some (.int .i64 0) := blk_cell hg8 1; have n0 : gr ≠ rc := Nat.ne_of_gt HLT.out; have ne2 : rc ≠ gr := Nat.ne_of_lt HLT.out; have y0 : w8.cell? ⟨rc, 0, none⟩ = some (.int .i64 0) := blk_cell hrc8 0; have yf0 : w8.frozen? ⟨rc, 0, none⟩ = false := blk_frozen hrc8 0; have y1 : w8.cell? ⟨rc, 1, none⟩ = some (.int .u64 0) := blk_cell hrc8 1; have yf1 : w8.frozen? ⟨rc, 1, none⟩ = false := blk_frozen hrc8 1; have y2 : w8.cell? ⟨rc, 2, none⟩ = some (.int .u64 0) := blk_cell hrc8 2; have yf2 : w8.frozen? ⟨rc, 2, none⟩ = false := blk_frozen hrc8 2; have y3 : w8.cell? ⟨rc, 3, none⟩ = some (.int .u64 0) := blk_cell hrc8 3; have yf3 : w8.frozen? ⟨rc, 3, none⟩ = false := blk_frozen hrc8 3; have y4 : w8.cell? ⟨rc, 4, none⟩ = some (.int .u64 0) := blk_cell hrc8 4; have yf4 : w8.frozen? ⟨rc, 4, none⟩ = false := blk_frozen hrc8 4; have y5 : w8.cell? ⟨rc, 5, none⟩ = some (.int .u64 0) := blk_cell hrc8 5; have yf5 : w8.frozen? ⟨rc, 5, none⟩ = false := blk_frozen hrc8 5; have y6 : w8.cell? ⟨rc, 6, none⟩ = some (.int .u64 0) := blk_cell hrc8 6; have yf6 : w8.frozen? ⟨rc, 6, none⟩ = false := blk_frozen hrc8 6; have y7 : w8.cell? ⟨rc, 7, none⟩ = some (.int .i64 0) := blk_cell hrc8 7; have yf7 : w8.frozen? ⟨rc, 7, none⟩ = false := blk_frozen hrc8 7; have y8 : w8.cell? ⟨rc, 8, none⟩ = some (.int .u64 0) := blk_cell hrc8 8; have yf8 : w8.frozen? ⟨rc, 8, none⟩ = false := blk_frozen hrc8 8; have y9 : w8.cell? ⟨rc, 9, none⟩ = some (.slice none 0 0) := blk_cell hrc8 9; have yf9 : w8.frozen? ⟨rc, 9, none⟩ = false := blk_frozen hrc8 9; have y10 : w8.cell? ⟨rc, 10, none⟩ = some (.int .i64 0) := blk_cell hrc8 10; have yf10 : w8.frozen? ⟨rc, 10, none⟩ = false := blk_frozen hrc8 10; have y11 : w8.cell? ⟨rc, 11, none⟩ = some (.slice none 0 0) := blk_cell hrc8 11; have yf11 : w8.frozen? ⟨rc, 11, none⟩ = false := blk_frozen hrc8 11; clear hr hk hrc8 hg8))
      (try simp only [Exit.inBlock, Exit.then])
      refine bodyPost_ret (results_ct rfl _ _ rc 29 #[.int .i64 0, .int .u64 0, .int .u64 0, .int .u64 0, .int .u64 0, .int .u64 0, .int .u64 0, .int .i64 0, .int .u64 0, .slice none 0 0, .int .i64 0, .slice none 0 0] (0, 0) _ rfl (st12_blk HRC8.out (.int .i64 0) (.int .u64 0) (.int .u64 0) (.int .u64 0) (.int .u64 0) (.int .u64 0) (.int .u64 0) (.int .i64 0) (.int .u64 0) (.slice none 0 0) (.int .i64 0) (.slice none 0 0)) Try.underlying29 (by rfl) (by kernel_rfl)) rfl ?_
      exact ⟨_, _, rfl, Ls.nil _ _ _ _, Ls.nil _ _ _ _, st12_bel HR8.out.bel (Nat.le_of_eq HNC.out.symm) (.int .i64 0) (.int .u64 0) (.int .u64 0) (.int .u64 0) (.int .u64 0) (.int .u64 0) (.int .u64 0) (.int .i64 0) (.int .u64 0) (.slice none 0 0) (.int .i64 0) (.slice none 0 0)⟩
    · have d1 : decide (x < 1) = false := decide_eq_false hx
      have d2 : decide (12 < x) = true := decide_eq_true (by omega)
      clear hk hx hbd
      go_enter Try.func9, Try.ntmps9
      go_wp2_with (first | ((with_reducible refine gate_dst (N := 2) rfl ?_); refine box_event ?hg (N := 2) ?hd (cs := #[.int .i64 0, .int .u64 0, .int .u64 0, .int .u64 0, .int .u64 0, .int .u64 0, .int .u64 0, .int .i64 0, .int .u64 0, .slice none 0 0, .int .i64 0, .slice none 0 0]) (t := 29) ?hr ?_; (case hd => rfl); (case hg => rfl); (case hr => first | (go_simp; done) | (go_simp; rfl)); intro rc hrc w5 hbox hb; have HRC := Aside0.mk hbox; have HB5 := Aside0.mk hb; have HNC := Aside0.mk hrc; clear hbox hb hrc) | ((with_reducible refine gate_dst (N := 11) rfl ?_); refine box_event ?hg (N := 11) ?hd (cs := #[.slice A0 l.length c0, .int .i64 0]) (t := 50) ?hr ?_; (case hd => rfl); (case hg => rfl); (case hr => first | (go_simp; done) | (go_simp; rfl)); intro gr hgr w6 hbox hb; have hRD := (Rd.mk ⟨A0, c0, hbox, HBC.out, HC.out⟩ (by rw [hgr]; exact HB5.out.size) (below_step HB5.out hb) : Rd w w6 50 gr l 0); have HRD := Aside0.mk hRD; have HRC6 := Aside0.mk (blk_below HRC.out hb); have HLT := Aside0.mk (show rc < gr from by rw [hgr]; exact blk_lt HRC.out); clear hbox hb hgr hRD HRC) | (go_at_call 24; (with_reducible refine (num_c w _ gr l HBS.out (by have := HL.out; omega) 0 top x b1 0 HN.out HRD.out).mono ?_); rintro er w8 ⟨rfl, hr, hk⟩; have HR8 := Aside0.mk hr; have hrc8 := blk_kept HRC6.out hk (Nat.ne_of_lt HLT.out); have HRC8 := Aside0.mk hrc8; obtain ⟨A, c, hg8⟩ := hr.row; have k1 : w8.cell? ⟨gr, 1, none⟩ = some (.int .i64 0) := blk_cell hg8 1; have n0 : gr ≠ rc := Nat.ne_of_gt HLT.out; have ne2 : rc ≠ gr := Nat.ne_of_lt HLT.out; have y0 : w8.cell? ⟨rc, 0, none⟩ = some (.int .i64 0) := blk_cell hrc8 0; have yf0 : w8.frozen? ⟨rc, 0, none⟩ = false := blk_frozen hrc8 0; have y1 : w8.cell? ⟨rc, 1, none⟩ = some (.int .u64 0) := blk_cell hrc8 1; have yf1 : w8.frozen? ⟨rc, 1, none⟩ = false := blk_frozen hrc8 1; have y2 : w8.cell? ⟨rc, 2, none⟩ = some (.int .u64 0) := blk_cell hrc8 2; have yf2 : w8.frozen? ⟨rc, 2, none⟩ = false := blk_frozen hrc8 2; have y3 : w8.cell? ⟨rc, 3, none⟩ = some (.int .u64 0) := blk_cell hrc8 3; have yf3 : w8.frozen? ⟨rc, 3, none⟩ = false := blk_frozen hrc8 3; have y4 : w8.cell? ⟨rc, 4, none⟩ = some (.int .u64 0) := blk_cell hrc8 4; have yf4 : w8.frozen? ⟨rc, 4, none⟩ = false := blk_frozen hrc8 4; have y5 : w8.cell? ⟨rc, 5, none⟩ = some (.int .u64 0) := blk_cell hrc8 5; have yf5 : w8.frozen? ⟨rc, 5, none⟩ = false := blk_frozen hrc8 5; have y6 : w8.cell? ⟨rc, 6, none⟩ = some (.int .u64 0) := blk_cell hrc8 6; have yf6 : w8.frozen? ⟨rc, 6, none⟩ = false := blk_frozen hrc8 6; have y7 : w8.cell? ⟨rc, 7, none⟩ = some (.int .i64 0) := blk_cell hrc8 7; have yf7 : w8.frozen? ⟨rc, 7, none⟩ = false := blk_frozen hrc8 7; have y8 : w8.cell? ⟨rc, 8, none⟩ = some (.int .u64 0) := blk_cell hrc8 8; have yf8 : w8.frozen? ⟨rc, 8, none⟩ = false := blk_frozen hrc8 8; have y9 : w8.cell? ⟨rc, 9, none⟩ = some (.slice none 0 0) := blk_cell hrc8 9; have yf9 : w8.frozen? ⟨rc, 9, none⟩ = false := blk_frozen hrc8 9; have y10 : w8.cell? ⟨rc, 10, none⟩ = some (.int .i64 0) := blk_cell hrc8 10; have yf10 : w8.frozen? ⟨rc, 10, none⟩ = false := blk_frozen hrc8 10; have y11 : w8.cell? ⟨rc, 11, none⟩ = some (.slice none 0 0) := blk_cell hrc8 11; have yf11 : w8.frozen? ⟨rc, 11, none⟩ = false := blk_frozen hrc8 11; clear hr hk hrc8 hg8))
      (try simp only [Exit.inBlock, Exit.then])
      refine bodyPost_ret (results_ct rfl _ _ rc 29 #[.int .i64 0, .int .u64 0, .int .u64 0, .int .u64 0, .int .u64 0, .int .u64 0, .int .u64 0, .int .i64 0, .int .u64 0, .slice none 0 0, .int .i64 0, .slice none 0 0] (0, 0) _ rfl (st12_blk HRC8.out (.int .i64 0) (.int .u64 0) (.int .u64 0) (.int .u64 0) (.int .u64 0) (.int .u64 0) (.int .u64 0) (.int .i64 0) (.int .u64 0) (.slice none 0 0) (.int .i64 0) (.slice none 0 0)) Try.underlying29 (by rfl) (by kernel_rfl)) rfl ?_
      exact ⟨_, _, rfl, Ls.nil _ _ _ _, Ls.nil _ _ _ _, st12_bel HR8.out.bel (Nat.le_of_eq HNC.out.symm) (.int .i64 0) (.int .u64 0) (.int .u64 0) (.int .u64 0) (.int .u64 0) (.int .u64 0) (.int .u64 0) (.int .i64 0) (.int .u64 0) (.slice none 0 0) (.int .i64 0) (.slice none 0 0)⟩
  rw [if_neg hk] at hv
  have d1 : decide (x < 1) = false := decide_eq_false (by omega)
  have d2 : decide (12 < x) = false := decide_eq_false (by omega)
  have ex : wrap64 x = x := w64 (by omega) (by omega)
  obtain ⟨S, hS, hSb, hSn⟩ := letters_of x (by omega) (by omega)
  rcases hf : foldV (lettersV x) (Ms.of x) b1 0 with ⟨mf, bf, ef⟩
  rw [hf] at hv
  dsimp only at hv
  have HF := Aside0.mk hf; have HV := Aside0.mk hv; have HS := Aside0.mk hS; have HSB := Aside0.mk hSb; have HSN := Aside0.mk hSn
  have HB1 := Aside0.mk (show Bytes b1 ∧ b1.length ≤ 100000 from ⟨hbd.2.2.1, Nat.le_trans hbd.2.2.2 HL.out⟩)
  have kb := fun W => print_bytes (P := Try.prog) 9 22 5 Try.underlying9 Try.underlying22 Try.underlying5 S W
  clear hf hv hS hSb hSn hbd hk
  go_enter Try.func9, Try.ntmps9
  go_upto_region 8 with (first | ((with_reducible refine gate_dst (N := 2) rfl ?_); refine box_event ?hg (N := 2) ?hd (cs := #[.int .i64 0, .int .u64 0, .int .u64 0, .int .u64 0, .int .u64 0, .int .u64 0, .int .u64 0, .int .i64 0, .int .u64 0, .slice none 0 0, .int .i64 0, .slice none 0 0]) (t := 29) ?hr ?_; (case hd => rfl); (case hg => rfl); (case hr => first | (go_simp; done) | (go_simp; rfl)); intro rc hrc w5 hbox hb; have HRC := Aside0.mk hbox; have HB5 := Aside0.mk hb; have HNC := Aside0.mk hrc; clear hbox hb hrc) | ((with_reducible refine gate_dst (N := 11) rfl ?_); refine box_event ?hg (N := 11) ?hd (cs := #[.slice A0 l.length c0, .int .i64 0]) (t := 50) ?hr ?_; (case hd => rfl); (case hg => rfl); (case hr => first | (go_simp; done) | (go_simp; rfl)); intro gr hgr w6 hbox hb; have hRD := (Rd.mk ⟨A0, c0, hbox, HBC.out, HC.out⟩ (by rw [hgr]; exact HB5.out.size) (below_step HB5.out hb) : Rd w w6 50 gr l 0); have HRD := Aside0.mk hRD; have HRC6 := Aside0.mk (blk_below HRC.out hb); have HLT := Aside0.mk (show rc < gr from by rw [hgr]; exact blk_lt HRC.out); clear hbox hb hgr hRD HRC) | (go_at_call 24; (with_reducible refine (num_c w _ gr l HBS.out (by have := HL.out; omega) 0 top x b1 0 HN.out HRD.out).mono ?_); rintro er w8 ⟨rfl, hr, hk⟩; have HR8 := Aside0.mk hr; have hrc8 := blk_kept HRC6.out hk (Nat.ne_of_lt HLT.out); have HRC8 := Aside0.mk hrc8; obtain ⟨A, c, hg8⟩ := hr.row; have k1 : w8.cell? ⟨gr, 1, none⟩ = some (.int .i64 0) := blk_cell hg8 1; have n0 : gr ≠ rc := Nat.ne_of_gt HLT.out; have ne2 : rc ≠ gr := Nat.ne_of_lt HLT.out; have y0 : w8.cell? ⟨rc, 0, none⟩ = some (.int .i64 0) := blk_cell hrc8 0; have yf0 : w8.frozen? ⟨rc, 0, none⟩ = false := blk_frozen hrc8 0; have y1 : w8.cell? ⟨rc, 1, none⟩ = some (.int .u64 0) := blk_cell hrc8 1; have yf1 : w8.frozen? ⟨rc, 1, none⟩ = false := blk_frozen hrc8 1; have y2 : w8.cell? ⟨rc, 2, none⟩ = some (.int .u64 0) := blk_cell hrc8 2; have yf2 : w8.frozen? ⟨rc, 2, none⟩ = false := blk_frozen hrc8 2; have y3 : w8.cell? ⟨rc, 3, none⟩ = some (.int .u64 0) := blk_cell hrc8 3; have yf3 : w8.frozen? ⟨rc, 3, none⟩ = false := blk_frozen hrc8 3; have y4 : w8.cell? ⟨rc, 4, none⟩ = some (.int .u64 0) := blk_cell hrc8 4; have yf4 : w8.frozen? ⟨rc, 4, none⟩ = false := blk_frozen hrc8 4; have y5 : w8.cell? ⟨rc, 5, none⟩ = some (.int .u64 0) := blk_cell hrc8 5; have yf5 : w8.frozen? ⟨rc, 5, none⟩ = false := blk_frozen hrc8 5; have y6 : w8.cell? ⟨rc, 6, none⟩ = some (.int .u64 0) := blk_cell hrc8 6; have yf6 : w8.frozen? ⟨rc, 6, none⟩ = false := blk_frozen hrc8 6; have y7 : w8.cell? ⟨rc, 7, none⟩ = some (.int .i64 0) := blk_cell hrc8 7; have yf7 : w8.frozen? ⟨rc, 7, none⟩ = false := blk_frozen hrc8 7; have y8 : w8.cell? ⟨rc, 8, none⟩ = some (.int .u64 0) := blk_cell hrc8 8; have yf8 : w8.frozen? ⟨rc, 8, none⟩ = false := blk_frozen hrc8 8; have y9 : w8.cell? ⟨rc, 9, none⟩ = some (.slice none 0 0) := blk_cell hrc8 9; have yf9 : w8.frozen? ⟨rc, 9, none⟩ = false := blk_frozen hrc8 9; have y10 : w8.cell? ⟨rc, 10, none⟩ = some (.int .i64 0) := blk_cell hrc8 10; have yf10 : w8.frozen? ⟨rc, 10, none⟩ = false := blk_frozen hrc8 10; have y11 : w8.cell? ⟨rc, 11, none⟩ = some (.slice none 0 0) := blk_cell hrc8 11; have yf11 : w8.frozen? ⟨rc, 11, none⟩ = false := blk_frozen hrc8 11; clear hr hk hrc8 hg8) | ((with_reducible refine gate_dst (N := 6) rfl ?_); refine box_event ?hg (N := 6) ?hd (cs := #[.int .i64 0, .int .u64 0, .int .u64 0, .int .u64 0, .int .u64 0, .int .u64 0, .int .u64 0, .int .i64 0, .int .u64 0, .slice none 0 0, .int .i64 0, .slice none 0 0]) (t := 29) ?hr ?_; (case hd => rfl); (case hg => rfl); (case hr => first | (go_simp; done) | (go_simp; rfl)); intro gm hgm w10 hbox hb; have HGM := Aside0.mk hbox; have HB10 := Aside0.mk hb; have HGN := Aside0.mk hgm; have u0 : w10.cell? ⟨gm, 0, none⟩ = some (.int .i64 0) := blk_cell hbox 0; have uf0 : w10.frozen? ⟨gm, 0, none⟩ = false := blk_frozen hbox 0; have u1 : w10.cell? ⟨gm, 1, none⟩ = some (.int .u64 0) := blk_cell hbox 1; have uf1 : w10.frozen? ⟨gm, 1, none⟩ = false := blk_frozen hbox 1; have u2 : w10.cell? ⟨gm, 2, none⟩ = some (.int .u64 0) := blk_cell hbox 2; have uf2 : w10.frozen? ⟨gm, 2, none⟩ = false := blk_frozen hbox 2; have u3 : w10.cell? ⟨gm, 3, none⟩ = some (.int .u64 0) := blk_cell hbox 3; have uf3 : w10.frozen? ⟨gm, 3, none⟩ = false := blk_frozen hbox 3; have u4 : w10.cell? ⟨gm, 4, none⟩ = some (.int .u64 0) := blk_cell hbox 4; have uf4 : w10.frozen? ⟨gm, 4, none⟩ = false := blk_frozen hbox 4; have u5 : w10.cell? ⟨gm, 5, none⟩ = some (.int .u64 0) := blk_cell hbox 5; have uf5 : w10.frozen? ⟨gm, 5, none⟩ = false := blk_frozen hbox 5; have u6 : w10.cell? ⟨gm, 6, none⟩ = some (.int .u64 0) := blk_cell hbox 6; have uf6 : w10.frozen? ⟨gm, 6, none⟩ = false := blk_frozen hbox 6; have u7 : w10.cell? ⟨gm, 7, none⟩ = some (.int .i64 0) := blk_cell hbox 7; have uf7 : w10.frozen? ⟨gm, 7, none⟩ = false := blk_frozen hbox 7; have u8 : w10.cell? ⟨gm, 8, none⟩ = some (.int .u64 0) := blk_cell hbox 8; have uf8 : w10.frozen? ⟨gm, 8, none⟩ = false := blk_frozen hbox 8; have u9 : w10.cell? ⟨gm, 9, none⟩ = some (.slice none 0 0) := blk_cell hbox 9; have uf9 : w10.frozen? ⟨gm, 9, none⟩ = false := blk_frozen hbox 9; have u10 : w10.cell? ⟨gm, 10, none⟩ = some (.int .i64 0) := blk_cell hbox 10; have uf10 : w10.frozen? ⟨gm, 10, none⟩ = false := blk_frozen hbox 10; have u11 : w10.cell? ⟨gm, 11, none⟩ = some (.slice none 0 0) := blk_cell hbox 11; have uf11 : w10.frozen? ⟨gm, 11, none⟩ = false := blk_frozen hbox 11; clear hbox hb hgm))
  obtain ⟨w11, hw11⟩ : ∃ w11, st12 w10 gm (.int .i64 x) (.int .u64 0) (.int .u64 0) (.int .u64 0) (.int .u64 0) (.int .u64 0) (.int .u64 0) (.int .i64 0) (.int .u64 0) (.slice none 0 0) (.int .i64 0) (.slice none 0 0) = w11 := ⟨_, rfl⟩
  have hgm : w11.heap[gm]? = some (.cells (mcells (Ms.of x) (.slice none 0 0) (.slice none 0 0)) 29 (0, 0)) := by rw [← hw11]; exact st12_blk HGM.out _ _ _ _ _ _ _ _ _ _ _ _
  have hkk : Kept w8 w11 (fun i => i = gm) := by rw [← hw11]; exact (Kept.of_below HB10.out _).then_ (st12_kept w10 gm _ _ _ _ _ _ _ _ _ _ _ _) (fun i hi => .inl hi)
  have hbl : Below w.heap.size w w11 := by rw [← hw11]; exact st12_bel (below_step HR8.out.bel HB10.out) (by have := HGN.out; have := HR8.out.bel.size; omega) _ _ _ _ _ _ _ _ _ _ _ _
  have HRC11 := Aside0.mk (blk_kept HRC8.out hkk (by have := blk_lt HRC8.out; have := HGN.out; omega))
  have HR11 := Aside0.mk (HR8.out.keep hbl hkk (by obtain ⟨A9, c9, hg9⟩ := HR8.out.row; have := blk_lt hg9; have := HGN.out; omega))
  have HM11 := Aside0.mk (show MI w w11 29 gm (Ms.of x) (.slice none 0 0) (.slice none 0 0) from ⟨hgm, by have := HGN.out; have := HR8.out.bel.size; omega, Ls.nil _ _ _ _, Ls.nil _ _ _ _⟩)
  have HGL := Aside0.mk (show rc < gm ∧ gr < gm from ⟨by have := blk_lt HRC8.out; have := HGN.out; omega, by obtain ⟨A9, c9, hg9⟩ := HR8.out.row; have := blk_lt hg9; have := HGN.out; omega⟩)
  have kg0 : w11.cell? ⟨gm, 0, none⟩ = some (.int .i64 x) := blk_cell hgm 0
  unfold st12 at hw11
  rw [hw11]
  clear hw11 hgm hkk hbl y0 yf0 u0 uf0 y1 yf1 u1 uf1 y2 yf2 u2 uf2 y3 yf3 u3 uf3 y4 yf4 u4 uf4 y5 yf5 u5 uf5 y6 yf6 u6 uf6 y7 yf7 u7 uf7 y8 yf8 u8 uf8 y9 yf9 u9 uf9 y10 yf10 u10 uf10 y11 yf11 u11 uf11
  go_wp2_with (first | (go_at_call 25; (with_reducible refine (msg_letters.calls x S _ HS.out).mono ?_); rintro er w12 ⟨rfl, hdr⟩; obtain ⟨nd, rfl⟩ := hdr))
  clear kg0
  obtain ⟨cb, hcb⟩ : ∃ cb, grownCap (World.drewN w11 nd) S.size 0 5 = cb := ⟨_, rfl⟩
  rw [hcb]
  have hbb : Below w11.heap.size w11 (Lib.bytesWorld (World.drewN w11 nd) 5 S) := bytes_below (pw_below_drewN (Below.refl _ _) nd) (Nat.le_refl _) 5 S
  have hby := bytes_reads (World.drewN w11 nd) 5 S (by rw [HSN.out]; have : (lettersV x).length ≤ 4 := letters_len x; omega)
  obtain ⟨gb, hgb⟩ : ∃ gb, w11.heap.size = gb := ⟨_, rfl⟩
  have hby2 : ∀ (i : Nat) (c : Int), (lettersV x)[i]? = some c → (Lib.bytesWorld (World.drewN w11 nd) 5 S).cell? ⟨gb, i, none⟩ = some (.int .u8 c) := fun i c hc => by
    have hi := (List.getElem?_eq_some_iff.1 hc).1
    obtain ⟨ad, ea, hq⟩ := hby.2.2 (by rw [HSN.out]; omega)
    have q := hq i (by rw [HSN.out]; omega)
    rw [HSB.out, List.getD_eq_getElem?_getD, hc] at q
    cases ea
    rw [add_plain, show (World.drewN w11 nd).heap.size = gb from hgb] at q
    simpa using q
  obtain ⟨wb, hwb⟩ : ∃ wb, Lib.bytesWorld (World.drewN w11 nd) 5 S = wb := ⟨_, rfl⟩
  rw [hwb] at hbb hby2
  obtain ⟨n, hn⟩ : ∃ n, S.size = n := ⟨_, rfl⟩
  rw [hwb, hgb, hn]
  have HNL := Aside0.mk (show n = (lettersV x).length from hn ▸ HSN.out)
  have HNB := Aside0.mk (show n ≤ 4 by rw [HNL.out]; exact letters_len x)
  have HLB := Aside0.mk hby2
  have HRCB := Aside0.mk (blk_below HRC11.out hbb)
  have HGB := Aside0.mk (show rc < gm ∧ gr < gm ∧ gm < gb from ⟨HGL.out.1, HGL.out.2, by rw [← hgb]; exact blk_lt HM11.out.blk⟩)
  have HRB := Aside0.mk (HR11.out.keep (below_step HR11.out.bel hbb) (Kept.of_below hbb (fun _ => False)) (fun h => h))
  have HMB := Aside0.mk (HM11.out.below hbb)
  clear hbb hby hby2 hwb hgb hcb hn
  go_loopw [41] (fun vi wr => ∃ (i : Nat) (m1 : Ms) (vP vL : Value) (b2 : List Int) (e2 : Int), vi = .int .i64 i ∧ Aside0 (i ≤ n) ∧ Aside0 (foldV ((lettersV x).drop i) m1 b2 e2 = (mf, bf, ef)) ∧ Aside0 (Bytes b2 ∧ b2.length ≤ 100000) ∧ Aside0 (Rd w wr 50 gr b2 e2) ∧ Aside0 (MI w wr 29 gm m1 vP vL) ∧ Aside0 (Kept wb wr (fun i => i = gr ∨ i = gm)) ∧ Aside0 (m1.In)) (fun vi _ => (n - intOf vi).toNat)
  case atStart => exact ⟨0, Ms.of x, _, _, b1, 0, rfl, ⟨Nat.zero_le _⟩, HF, HB1, HRB, HMB, ⟨Kept.refl _ _⟩, ⟨In_of x⟩⟩
  case round =>
    obtain ⟨i, m1, vP, vL, b2, e2, rfl, HI, HFO, HB2, HR2, HM2, HK2, HIN⟩ := hrel
    have l1 := HI.out
    have l3 := HNB.out
    by_cases hlt : i < n
    · have d3 : decide ((i : Int) < (n : Int)) = true := decide_eq_true (by omega)
      have d3' : decide (i < n) = true := decide_eq_true hlt
      have hil : i < (lettersV x).length := by have := HNL.out; omega
      obtain ⟨c, hc⟩ : ∃ c, (lettersV x)[i]? = some c := ⟨_, List.getElem?_eq_getElem hil⟩
      have hdr : (lettersV x).drop i = c :: (lettersV x).drop (i + 1) := by
        rw [List.drop_eq_getElem_cons hil]
        rw [List.getElem?_eq_getElem hil] at hc
        rw [Option.some.inj hc]
      rcases hfd : fieldV m1 b2 e2 c with ⟨m3, b3, e3⟩
      have hfo := HFO.out
      rw [hdr] at hfo
      unfold foldV at hfo
      rw [hfd] at hfo
      have hbd := field_bd HIN.out HB2.out.1 e2 c
      rw [hfd] at hbd
      have HFO3 := Aside0.mk hfo
      have HB3 := Aside0.mk (show Bytes b3 ∧ b3.length ≤ 100000 from ⟨hbd.2.1, Nat.le_trans hbd.2.2 HB2.out.2⟩)
      have HIN3 := Aside0.mk hbd.1
      have HFD := Aside0.mk (field_c w wr gr gm b2 HB2.out.1 HB2.out.2 e2 m1 vP vL HR2.out HM2.out c (letters_isL x c (List.mem_of_getElem? hc)) m3 b3 e3 hfd)
      have kc : wr.cell? ⟨gb, i, none⟩ = some (.int .u8 c) := by
        have q := HLB.out i c hc
        have hlt2 : gb < wb.heap.size := World.block_lt_of_cell? wb _ q
        have q2 := HK2.out.2 gb hlt2 (fun h => by have := HGB.out; omega)
        rw [← q]
        simp only [World.cell?, q2]
      clear hfo hfd hbd hdr hc hil HFO HB2 HIN HR2 HM2
      go_wp2_with (first | (go_at_call 26; (with_reducible refine HFD.out.mono ?_); rintro er w13 ⟨vP3, vL3, rfl, hr, hm, hk⟩; have HR3 := Aside0.mk hr; have HM3 := Aside0.mk hm; have HK3 := Aside0.mk hk; clear hr hm hk) | go_in)
      go_roundw
      case rel => exact ⟨i + 1, m3, vP3, vL3, b3, e3, by go_num, ⟨by have := HI.out; omega⟩, HFO3, HB3, HR3, HM3, ⟨kept_then HK2.out HK3.out (fun i hi => hi)⟩, HIN3⟩
      case measure => simp [intOf]; omega
    · obtain rfl : i = n := by omega
      have hfo := HFO.out
      rw [List.drop_eq_nil_of_le (by have := HNL.out; omega)] at hfo
      unfold foldV at hfo
      simp only [Prod.mk.injEq] at hfo
      obtain ⟨rfl, rfl, rfl⟩ := hfo
      have hv := HV.out
      have hrc := blk_kept HRCB.out HK2.out (fun h => by have := HGB.out; have := HLT.out; omega)
      have HRCR := Aside0.mk hrc
      obtain ⟨A9, c9, hg9⟩ := HR2.out.row
      have z0 : wr.cell? ⟨gr, 0, none⟩ = some (.slice A9 b2.length c9) := blk_cell hg9 0
      have z1 : wr.cell? ⟨gr, 1, none⟩ = some (.int .i64 e2) := blk_cell hg9 1
      have n1 : gr ≠ rc := Nat.ne_of_gt HLT.out
      have n2 : rc ≠ gr := Nat.ne_of_lt HLT.out
      have y0 : wr.cell? ⟨rc, 0, none⟩ = some (.int .i64 0) := blk_cell hrc 0
      have yf0 : wr.frozen? ⟨rc, 0, none⟩ = false := blk_frozen hrc 0
      have y1 : wr.cell? ⟨rc, 1, none⟩ = some (.int .u64 0) := blk_cell hrc 1
      have yf1 : wr.frozen? ⟨rc, 1, none⟩ = false := blk_frozen hrc 1
      have y2 : wr.cell? ⟨rc, 2, none⟩ = some (.int .u64 0) := blk_cell hrc 2
      have yf2 : wr.frozen? ⟨rc, 2, none⟩ = false := blk_frozen hrc 2
      have y3 : wr.cell? ⟨rc, 3, none⟩ = some (.int .u64 0) := blk_cell hrc 3
      have yf3 : wr.frozen? ⟨rc, 3, none⟩ = false := blk_frozen hrc 3
      have y4 : wr.cell? ⟨rc, 4, none⟩ = some (.int .u64 0) := blk_cell hrc 4
      have yf4 : wr.frozen? ⟨rc, 4, none⟩ = false := blk_frozen hrc 4
      have y5 : wr.cell? ⟨rc, 5, none⟩ = some (.int .u64 0) := blk_cell hrc 5
      have yf5 : wr.frozen? ⟨rc, 5, none⟩ = false := blk_frozen hrc 5
      have y6 : wr.cell? ⟨rc, 6, none⟩ = some (.int .u64 0) := blk_cell hrc 6
      have yf6 : wr.frozen? ⟨rc, 6, none⟩ = false := blk_frozen hrc 6
      have y7 : wr.cell? ⟨rc, 7, none⟩ = some (.int .i64 0) := blk_cell hrc 7
      have yf7 : wr.frozen? ⟨rc, 7, none⟩ = false := blk_frozen hrc 7
      have y8 : wr.cell? ⟨rc, 8, none⟩ = some (.int .u64 0) := blk_cell hrc 8
      have yf8 : wr.frozen? ⟨rc, 8, none⟩ = false := blk_frozen hrc 8
      have y9 : wr.cell? ⟨rc, 9, none⟩ = some (.slice none 0 0) := blk_cell hrc 9
      have yf9 : wr.frozen? ⟨rc, 9, none⟩ = false := blk_frozen hrc 9
      have y10 : wr.cell? ⟨rc, 10, none⟩ = some (.int .i64 0) := blk_cell hrc 10
      have yf10 : wr.frozen? ⟨rc, 10, none⟩ = false := blk_frozen hrc 10
      have y11 : wr.cell? ⟨rc, 11, none⟩ = some (.slice none 0 0) := blk_cell hrc 11
      have yf11 : wr.frozen? ⟨rc, 11, none⟩ = false := blk_frozen hrc 11
      clear hrc hg9
      by_cases he : e2 = 0
      rotate_left
      · rw [if_neg he] at hv
        obtain ⟨rfl, rfl⟩ := Prod.mk.inj hv
        have q1 : (e2 != 0) = true := by simpa using he
        clear he hv
        go_upto_region 14 with (fail)
        go_region
        go_wp2_with fail
        (try simp only [Exit.inBlock, Exit.then])
        refine bodyPost_ret (results_ct rfl _ _ rc 29 #[.int .i64 0, .int .u64 0, .int .u64 0, .int .u64 0, .int .u64 0, .int .u64 0, .int .u64 0, .int .i64 0, .int .u64 0, .slice none 0 0, .int .i64 0, .slice none 0 0] (0, 0) _ rfl (blk_drew (st12_blk HRCR.out (.int .i64 0) (.int .u64 0) (.int .u64 0) (.int .u64 0) (.int .u64 0) (.int .u64 0) (.int .u64 0) (.int .i64 0) (.int .u64 0) (.slice none 0 0) (.int .i64 0) (.slice none 0 0))) Try.underlying29 (by rfl) (by kernel_rfl)) rfl ?_
        exact ⟨_, _, rfl, Ls.nil _ _ _ _, Ls.nil _ _ _ _, below_drew (st12_bel HR2.out.bel (Nat.le_of_eq HNC.out.symm) (.int .i64 0) (.int .u64 0) (.int .u64 0) (.int .u64 0) (.int .u64 0) (.int .u64 0) (.int .u64 0) (.int .i64 0) (.int .u64 0) (.slice none 0 0) (.int .i64 0) (.slice none 0 0))⟩
      subst he
      rw [if_pos rfl] at hv
      by_cases hb2 : b2 = []
      rotate_left
      · rw [if_neg hb2] at hv
        obtain ⟨rfl, rfl⟩ := Prod.mk.inj hv
        have hpos : 0 < b2.length := List.length_pos_iff.2 hb2
        have q1 : decide ((0 : Int) < (b2.length : Int)) = true := decide_eq_true (by omega)
        have q2 : decide (0 < b2.length) = true := decide_eq_true hpos
        clear hb2 hv
        go_wp2_with fail
        (try simp only [Exit.inBlock, Exit.then])
        refine bodyPost_ret (results_ct rfl _ _ rc 29 #[.int .i64 0, .int .u64 0, .int .u64 0, .int .u64 0, .int .u64 0, .int .u64 0, .int .u64 0, .int .i64 0, .int .u64 0, .slice none 0 0, .int .i64 0, .slice none 0 0] (0, 0) _ rfl (st12_blk HRCR.out (.int .i64 0) (.int .u64 0) (.int .u64 0) (.int .u64 0) (.int .u64 0) (.int .u64 0) (.int .u64 0) (.int .i64 0) (.int .u64 0) (.slice none 0 0) (.int .i64 0) (.slice none 0 0)) Try.underlying29 (by rfl) (by kernel_rfl)) rfl ?_
        exact ⟨_, _, rfl, Ls.nil _ _ _ _, Ls.nil _ _ _ _, st12_bel HR2.out.bel (Nat.le_of_eq HNC.out.symm) (.int .i64 0) (.int .u64 0) (.int .u64 0) (.int .u64 0) (.int .u64 0) (.int .u64 0) (.int .u64 0) (.int .i64 0) (.int .u64 0) (.slice none 0 0) (.int .i64 0) (.slice none 0 0)⟩
      subst hb2
      rw [if_pos rfl] at hv
      obtain ⟨rfl, rfl⟩ := Prod.mk.inj hv
      obtain ⟨AP, cP, rfl, _, _⟩ := HM2.out.P.form
      obtain ⟨AL, cL, rfl, _, _⟩ := HM2.out.L.form
      have z0 : wr.cell? ⟨gr, 0, none⟩ = some (.slice A9 0 c9) := z0
      have hgm := HM2.out.blk
      have u0 : wr.cell? ⟨gm, 0, none⟩ = some (.int .i64 m1.k) := blk_cell hgm 0
      have uf0 : wr.frozen? ⟨gm, 0, none⟩ = false := blk_frozen hgm 0
      have u1 : wr.cell? ⟨gm, 1, none⟩ = some (.int .u64 m1.s) := blk_cell hgm 1
      have uf1 : wr.frozen? ⟨gm, 1, none⟩ = false := blk_frozen hgm 1
      have u2 : wr.cell? ⟨gm, 2, none⟩ = some (.int .u64 m1.se) := blk_cell hgm 2
      have uf2 : wr.frozen? ⟨gm, 2, none⟩ = false := blk_frozen hgm 2
      have u3 : wr.cell? ⟨gm, 3, none⟩ = some (.int .u64 m1.a) := blk_cell hgm 3
      have uf3 : wr.frozen? ⟨gm, 3, none⟩ = false := blk_frozen hgm 3
      have u4 : wr.cell? ⟨gm, 4, none⟩ = some (.int .u64 m1.i) := blk_cell hgm 4
      have uf4 : wr.frozen? ⟨gm, 4, none⟩ = false := blk_frozen hgm 4
      have u5 : wr.cell? ⟨gm, 5, none⟩ = some (.int .u64 m1.n) := blk_cell hgm 5
      have uf5 : wr.frozen? ⟨gm, 5, none⟩ = false := blk_frozen hgm 5
      have u6 : wr.cell? ⟨gm, 6, none⟩ = some (.int .u64 m1.c) := blk_cell hgm 6
      have uf6 : wr.frozen? ⟨gm, 6, none⟩ = false := blk_frozen hgm 6
      have u7 : wr.cell? ⟨gm, 7, none⟩ = some (.int .i64 m1.why) := blk_cell hgm 7
      have uf7 : wr.frozen? ⟨gm, 7, none⟩ = false := blk_frozen hgm 7
      have u8 : wr.cell? ⟨gm, 8, none⟩ = some (.int .u64 m1.seed) := blk_cell hgm 8
      have uf8 : wr.frozen? ⟨gm, 8, none⟩ = false := blk_frozen hgm 8
      have u9 : wr.cell? ⟨gm, 9, none⟩ = some (.slice AP m1.P.length cP) := blk_cell hgm 9
      have uf9 : wr.frozen? ⟨gm, 9, none⟩ = false := blk_frozen hgm 9
      have u10 : wr.cell? ⟨gm, 10, none⟩ = some (.int .i64 m1.most) := blk_cell hgm 10
      have uf10 : wr.frozen? ⟨gm, 10, none⟩ = false := blk_frozen hgm 10
      have u11 : wr.cell? ⟨gm, 11, none⟩ = some (.slice AL m1.L.length cL) := blk_cell hgm 11
      have uf11 : wr.frozen? ⟨gm, 11, none⟩ = false := blk_frozen hgm 11
      have n3 : gm ≠ rc := Nat.ne_of_gt HGB.out.1
      have n4 : rc ≠ gm := Nat.ne_of_lt HGB.out.1
      clear hv hgm
      go_wp2_with fail
      (try simp only [Exit.inBlock, Exit.then])
      refine bodyPost_ret (results_ct rfl _ _ rc 29 #[.int .i64 m1.k, .int .u64 m1.s, .int .u64 m1.se, .int .u64 m1.a, .int .u64 m1.i, .int .u64 m1.n, .int .u64 m1.c, .int .i64 m1.why, .int .u64 m1.seed, .slice AP m1.P.length cP, .int .i64 m1.most, .slice AL m1.L.length cL] (0, 0) _ rfl (st12_blk HRCR.out _ _ _ _ _ _ _ _ _ _ _ _) Try.underlying29 (by rfl) (by kernel_rfl)) rfl ?_
      exact ⟨_, _, rfl, lsK1 HM2.out.P (st12_kept _ _ _ _ _ _ _ _ _ _ _ _ _ _) HRCR.out (by decide), lsK1 HM2.out.L (st12_kept _ _ _ _ _ _ _ _ _ _ _ _ _ _) HRCR.out (by decide), st12_bel HR2.out.bel (Nat.le_of_eq HNC.out.symm) _ _ _ _ _ _ _ _ _ _ _ _⟩
end Go.Proofs.Ytbfmbjkalldonaa.Msg
namespace Go.Proofs.Ytbfmbjkalldonaa.Msg
set_option linter.unusedVariables false
set_option linter.unusedSimpArgs false
open Go.RowKit Go.Proofs.Ytbfmbjkalldonaa.PA Go.Proofs.YtbfmbjkalldonaaW.PrintWords Go.Proofs.YtbfmbjkalldonaaW.PrintLast Go.Proofs.YtbfmbjkalldonaaW.PrintMore Go.Proofs.Ytbfmbjkalldonaa.Base Go.Proofs.Ytbfmbjkalldonaa.Var Go.Proofs.Ytbfmbjkalldonaa.Lst
attribute [local go_sem] max2_int min2_int max_two min_two max_three min_three max_four min_four
def badV (t : Int) : Bool := decide (t < 0) || decide (64 ≤ t)
theorem bad_c (t : Int) (w : World) : Calls Try.prog 49 #[.int .i64 t] w fun er w' => er = .returned (.bool (badV t)) ∧ w = w' := by
  unfold badV
  by_cases h : t < 0
  · have d1 : decide (t < 0) = true := decide_eq_true h
    go_enter Try.func49, Try.ntmps49
    go_wp2_with fail
    go_ret
    first | exact ⟨rfl, rfl⟩ | exact ⟨by simp [d1], rfl⟩
  · have d1 : decide (t < 0) = false := decide_eq_false h
    go_enter Try.func49, Try.ntmps49
    go_wp2_with fail
    go_ret
    first | exact ⟨rfl, rfl⟩ | exact ⟨by simp [d1], rfl⟩
def findV : List Int → Int → Int
  | [], _ => -1
  | t :: l, i => if badV t = true then i else findV l (i + 1)
theorem find_any : ∀ (l : List Int) (i : Int), 0 ≤ i → decide (0 ≤ findV l i) = l.any badV
  | [], i, _ => rfl
  | t :: l, i, h => by
    unfold findV
    by_cases hb : badV t = true
    · rw [if_pos hb, List.any_cons, hb, Bool.true_or]; exact decide_eq_true h
    · rw [if_neg hb, List.any_cons, find_any l (i + 1) (by omega)]
      have : badV t = false := by simpa using hb
      rw [this, Bool.false_or]
theorem find_bd : ∀ (l : List Int) (i : Int), 0 ≤ i → i + l.length ≤ 1000000 → -1 ≤ findV l i ∧ findV l i ≤ 1000000
  | [], i, _, _ => ⟨Int.le_refl _, (by show (-1 : Int) ≤ 1000000; decide)⟩
  | t :: l, i, h, hl => by
    unfold findV
    rw [List.length_cons] at hl
    split
    · omega
    · exact find_bd l (i + 1) (by omega) (by omega)
set_option maxHeartbeats 8000000 in
theorem idx_c (A : Option Addr) (c : Nat) (l : List Int) (hl : l.length ≤ 100000) (hc : l.length ≤ c) (w : World) (hb : Kd.C (Kd.int .i64) w A l.length l) : Calls Try.prog 62 #[.slice A l.length c, (.func (.func 49) #[] #[])] w fun er w' => er = .returned (.int .i64 (findV l 0)) ∧ Below w.heap.size w w' := by
  have HB := Aside0.mk hb; have HL := Aside0.mk hl; have HC := Aside0.mk hc
  obtain ⟨r0, hr0⟩ : ∃ r, findV l 0 = r := ⟨_, rfl⟩
  have HR0 := Aside0.mk hr0
  rw [hr0]
  clear hb hc hr0
  go_enter Try.func62, Try.ntmps62
  go_wp2_with fail
  go_loopw [8] (fun vi wr => ∃ (i : Nat), vi = .int .i64 i ∧ Aside0 (i ≤ l.length) ∧ Aside0 (findV (l.drop i) i = r0) ∧ Aside0 (Below w.heap.size w wr)) (fun vi _ => (l.length - intOf vi).toNat)
  case atStart => exact ⟨0, rfl, ⟨Nat.zero_le _⟩, ⟨by rw [List.drop_zero]; exact HR0.out⟩, ⟨Below.refl _ _⟩⟩
  case round =>
    obtain ⟨i, rfl, HI, HF, HW⟩ := hrel
    have l1 := HI.out
    by_cases hlt : i < l.length
    · have d3 : decide ((i : Int) < (l.length : Int)) = true := decide_eq_true (by omega)
      have d3' : decide (i < l.length) = true := decide_eq_true hlt
      have r := Kd.reads_of_C (enc := Value.int .i64) (d := (0 : Int)) (h1 := fun _ => rfl) (Kd.C_below HB.out HW.out)
      obtain ⟨ad, rfl, hcl⟩ := r.2.2 (by omega)
      have kc : wr.cell? (ad.add i) = some (.int .i64 (l.getD i 0)) := hcl i hlt
      have hfo := HF.out
      have hdr : l.drop i = l.getD i 0 :: l.drop (i + 1) := by
        rw [List.drop_eq_getElem_cons hlt, List.getD_eq_getElem?_getD, List.getElem?_eq_getElem hlt]; rfl
      rw [hdr] at hfo
      obtain ⟨t, ht⟩ : ∃ t, l.getD i 0 = t := ⟨_, rfl⟩
      rw [ht] at hfo kc
      unfold findV at hfo
      clear r hcl hdr ht
      by_cases hbd : badV t = true
      · rw [if_pos hbd] at hfo
        have HFO := Aside0.mk hfo
        clear hfo
        go_wp2_with (first | (go_at_call 49; (with_reducible refine (bad_c _ _).mono ?_); rintro er w9 ⟨rfl, rfl⟩))
        go_ret
        have e0 := HFO.out
        subst e0
        exact ⟨rfl, HW.out⟩
      · rw [if_neg hbd] at hfo
        have HFO := Aside0.mk hfo
        have hbf : badV t = false := by simpa using hbd
        clear hfo hbd
        go_wp2_with (first | (go_at_call 49; (with_reducible refine (bad_c _ _).mono ?_); rintro er w9 ⟨rfl, rfl⟩) | go_in)
        go_roundw
        case rel => exact ⟨i + 1, by go_num, ⟨by omega⟩, ⟨HFO.out⟩, HW⟩
        case measure => simp [intOf]; omega
    · obtain rfl : i = l.length := by omega
      have hfo := HF.out
      rw [List.drop_length] at hfo
      have HFO := Aside0.mk hfo
      clear hfo
      go_wp2_with fail
      go_ret
      have e0 := HFO.out
      subst e0
      exact ⟨rfl, HW.out⟩
theorem cf_c (A : Option Addr) (c : Nat) (l : List Int) (hl : l.length ≤ 100000) (hc : l.length ≤ c) (w : World) (hb : Kd.C (Kd.int .i64) w A l.length l) : Calls Try.prog 50 #[.slice A l.length c, (.func (.func 49) #[] #[])] w fun er w' => er = .returned (.bool (l.any badV)) ∧ Below w.heap.size w w' := by
  have HX := Aside0.mk (idx_c A c l hl hc)
  have HRX := Aside0.mk hb
  have HL := Aside0.mk hl
  clear hb
  go_enter Try.func50, Try.ntmps50
  go_wp2_with (first | (go_at_call 62; (with_reducible refine (HX.out _ HRX.out).mono ?_); rintro er w9 ⟨rfl, hb⟩; have HB := Aside0.mk hb; clear hb))
  go_ret
  exact ⟨congrArg (fun b => Ending.returned (.bool b)) (find_any l 0 (by decide)), HB.out⟩
def tokV (l : List Int) : Bool := decide (l.length ≤ 256) && !l.any badV
theorem tokens_c (A : Option Addr) (c : Nat) (l : List Int) (hl : l.length ≤ 1000000) (hc : l.length ≤ c) (w : World) (hb : Kd.C (Kd.int .i64) w A l.length l) : Calls Try.prog 31 #[.slice A l.length c] w fun er w' => er = .returned (.bool (tokV l)) ∧ Below w.heap.size w w' := by
  unfold tokV
  by_cases h : l.length ≤ 256
  · have HX := Aside0.mk (cf_c A c l (by omega) hc w hb)
    have d1 : decide (l.length ≤ 256) = true := decide_eq_true h
    have d2 : decide ((l.length : Int) ≤ 256) = true := decide_eq_true (by omega)
    clear h hb hc hl
    go_enter Try.func31, Try.ntmps31
    go_wp2_with (first | (go_at_call 50; (with_reducible refine (HX.out).mono ?_); rintro er w9 ⟨rfl, hb⟩; have HB := Aside0.mk hb; clear hb))
    go_ret
    exact ⟨by first | rfl | simp [d1], HB.out⟩
  · have d1 : decide (l.length ≤ 256) = false := decide_eq_false h
    have d2 : decide ((l.length : Int) ≤ 256) = false := decide_eq_false (by omega)
    clear h hb hc hl
    go_enter Try.func31, Try.ntmps31
    go_wp2_with (first | (go_at_call 50; (with_reducible refine (HX.out).mono ?_); rintro er w9 ⟨rfl, hb⟩; have HB := Aside0.mk hb; clear hb))
    go_ret
    exact ⟨by first | rfl | simp [d1], Below.refl _ _⟩
end Go.Proofs.Ytbfmbjkalldonaa.Msg
namespace Go.Proofs.Ytbfmbjkalldonaa.Msg
set_option linter.unusedVariables false
set_option linter.unusedSimpArgs false
open Go.RowKit Go.Proofs.Ytbfmbjkalldonaa.PA Go.Proofs.YtbfmbjkalldonaaW.PrintWords Go.Proofs.YtbfmbjkalldonaaW.PrintLast Go.Proofs.YtbfmbjkalldonaaW.PrintMore Go.Proofs.Ytbfmbjkalldonaa.Base Go.Proofs.Ytbfmbjkalldonaa.Var Go.Proofs.Ytbfmbjkalldonaa.Lst
attribute [local go_sem] max2_int min2_int max_two min_two max_three min_three max_four min_four
def getV (m : Ms) (c : Int) : Int := if c = 115 then m.s else if c = 101 then m.se else if c = 97 then m.a else if c = 105 then m.i else if c = 110 then m.n else m.c
def bareV (m : Ms) (c : Int) : Bool := if c = 119 then m.why == 0 else if c = 106 then (m.seed == 0 && m.most == 0 && ((m.P.length : Int) == 0)) else if c = 108 then ((m.L.length : Int) == 0) else getV m c == 0
set_option maxRecDepth 100000
theorem bare_115 (w : World) (g : Nat) (m : Ms) (A B : Option Addr) (c d : Nat) (hg : w.heap[g]? = some (.cells (mcells m (.slice A m.P.length c) (.slice B m.L.length d)) 29 (0, 0))) : Calls Try.prog 33 #[.pointer (some ⟨g, 0, none⟩), .int .u8 115] w fun er w' => er = .returned (.bool (bareV m 115)) ∧ w = w' := by
  have hu := Try.underlying29
  have HP := Aside0.mk (show Calls Try.prog 27 #[.pointer (some ⟨g, 0, none⟩), .int .u8 115] w fun er w' => er = .returned (.pointer (some ⟨g, 1, none⟩)) ∧ w = w' from place_c w g 115 (.inl rfl))
  have k0 : w.cell? ⟨g, 1, none⟩ = some (.int .u64 m.s) := blk_cell hg 1
  clear hg
  go_enter Try.func33, Try.ntmps33
  go_wp2_with (first | (go_at_call 27; (with_reducible refine HP.out.mono ?_); rintro er w7 ⟨rfl, rfl⟩))
  go_ret
  exact ⟨rfl, rfl⟩
theorem bare_101 (w : World) (g : Nat) (m : Ms) (A B : Option Addr) (c d : Nat) (hg : w.heap[g]? = some (.cells (mcells m (.slice A m.P.length c) (.slice B m.L.length d)) 29 (0, 0))) : Calls Try.prog 33 #[.pointer (some ⟨g, 0, none⟩), .int .u8 101] w fun er w' => er = .returned (.bool (bareV m 101)) ∧ w = w' := by
  have hu := Try.underlying29
  have HP := Aside0.mk (show Calls Try.prog 27 #[.pointer (some ⟨g, 0, none⟩), .int .u8 101] w fun er w' => er = .returned (.pointer (some ⟨g, 2, none⟩)) ∧ w = w' from place_c w g 101 (.inr (.inl rfl)))
  have k0 : w.cell? ⟨g, 2, none⟩ = some (.int .u64 m.se) := blk_cell hg 2
  clear hg
  go_enter Try.func33, Try.ntmps33
  go_wp2_with (first | (go_at_call 27; (with_reducible refine HP.out.mono ?_); rintro er w7 ⟨rfl, rfl⟩))
  go_ret
  exact ⟨rfl, rfl⟩
theorem bare_97 (w : World) (g : Nat) (m : Ms) (A B : Option Addr) (c d : Nat) (hg : w.heap[g]? = some (.cells (mcells m (.slice A m.P.length c) (.slice B m.L.length d)) 29 (0, 0))) : Calls Try.prog 33 #[.pointer (some ⟨g, 0, none⟩), .int .u8 97] w fun er w' => er = .returned (.bool (bareV m 97)) ∧ w = w' := by
  have hu := Try.underlying29
  have HP := Aside0.mk (show Calls Try.prog 27 #[.pointer (some ⟨g, 0, none⟩), .int .u8 97] w fun er w' => er = .returned (.pointer (some ⟨g, 3, none⟩)) ∧ w = w' from place_c w g 97 (.inr (.inr (.inl rfl))))
  have k0 : w.cell? ⟨g, 3, none⟩ = some (.int .u64 m.a) := blk_cell hg 3
  clear hg
  go_enter Try.func33, Try.ntmps33
  go_wp2_with (first | (go_at_call 27; (with_reducible refine HP.out.mono ?_); rintro er w7 ⟨rfl, rfl⟩))
  go_ret
  exact ⟨rfl, rfl⟩
theorem bare_105 (w : World) (g : Nat) (m : Ms) (A B : Option Addr) (c d : Nat) (hg : w.heap[g]? = some (.cells (mcells m (.slice A m.P.length c) (.slice B m.L.length d)) 29 (0, 0))) : Calls Try.prog 33 #[.pointer (some ⟨g, 0, none⟩), .int .u8 105] w fun er w' => er = .returned (.bool (bareV m 105)) ∧ w = w' := by
  have hu := Try.underlying29
  have HP := Aside0.mk (show Calls Try.prog 27 #[.pointer (some ⟨g, 0, none⟩), .int .u8 105] w fun er w' => er = .returned (.pointer (some ⟨g, 4, none⟩)) ∧ w = w' from place_c w g 105 (.inr (.inr (.inr (.inl rfl)))))
  have k0 : w.cell? ⟨g, 4, none⟩ = some (.int .u64 m.i) := blk_cell hg 4
  clear hg
  go_enter Try.func33, Try.ntmps33
  go_wp2_with (first | (go_at_call 27; (with_reducible refine HP.out.mono ?_); rintro er w7 ⟨rfl, rfl⟩))
  go_ret
  exact ⟨rfl, rfl⟩
theorem bare_110 (w : World) (g : Nat) (m : Ms) (A B : Option Addr) (c d : Nat) (hg : w.heap[g]? = some (.cells (mcells m (.slice A m.P.length c) (.slice B m.L.length d)) 29 (0, 0))) : Calls Try.prog 33 #[.pointer (some ⟨g, 0, none⟩), .int .u8 110] w fun er w' => er = .returned (.bool (bareV m 110)) ∧ w = w' := by
  have hu := Try.underlying29
  have HP := Aside0.mk (show Calls Try.prog 27 #[.pointer (some ⟨g, 0, none⟩), .int .u8 110] w fun er w' => er = .returned (.pointer (some ⟨g, 5, none⟩)) ∧ w = w' from place_c w g 110 (.inr (.inr (.inr (.inr (.inl rfl))))))
  have k0 : w.cell? ⟨g, 5, none⟩ = some (.int .u64 m.n) := blk_cell hg 5
  clear hg
  go_enter Try.func33, Try.ntmps33
  go_wp2_with (first | (go_at_call 27; (with_reducible refine HP.out.mono ?_); rintro er w7 ⟨rfl, rfl⟩))
  go_ret
  exact ⟨rfl, rfl⟩
theorem bare_99 (w : World) (g : Nat) (m : Ms) (A B : Option Addr) (c d : Nat) (hg : w.heap[g]? = some (.cells (mcells m (.slice A m.P.length c) (.slice B m.L.length d)) 29 (0, 0))) : Calls Try.prog 33 #[.pointer (some ⟨g, 0, none⟩), .int .u8 99] w fun er w' => er = .returned (.bool (bareV m 99)) ∧ w = w' := by
  have hu := Try.underlying29
  have HP := Aside0.mk (show Calls Try.prog 27 #[.pointer (some ⟨g, 0, none⟩), .int .u8 99] w fun er w' => er = .returned (.pointer (some ⟨g, 6, none⟩)) ∧ w = w' from place_c w g 99 (.inr (.inr (.inr (.inr (.inr rfl))))))
  have k0 : w.cell? ⟨g, 6, none⟩ = some (.int .u64 m.c) := blk_cell hg 6
  clear hg
  go_enter Try.func33, Try.ntmps33
  go_wp2_with (first | (go_at_call 27; (with_reducible refine HP.out.mono ?_); rintro er w7 ⟨rfl, rfl⟩))
  go_ret
  exact ⟨rfl, rfl⟩
theorem bare_119 (w : World) (g : Nat) (m : Ms) (A B : Option Addr) (c d : Nat) (hg : w.heap[g]? = some (.cells (mcells m (.slice A m.P.length c) (.slice B m.L.length d)) 29 (0, 0))) : Calls Try.prog 33 #[.pointer (some ⟨g, 0, none⟩), .int .u8 119] w fun er w' => er = .returned (.bool (bareV m 119)) ∧ w = w' := by
  have hu := Try.underlying29
  have k0 : w.cell? ⟨g, 7, none⟩ = some (.int .i64 m.why) := blk_cell hg 7
  clear hg
  go_enter Try.func33, Try.ntmps33
  go_wp2_with fail
  go_ret
  exact ⟨rfl, rfl⟩
theorem bare_108 (w : World) (g : Nat) (m : Ms) (A B : Option Addr) (c d : Nat) (hg : w.heap[g]? = some (.cells (mcells m (.slice A m.P.length c) (.slice B m.L.length d)) 29 (0, 0))) : Calls Try.prog 33 #[.pointer (some ⟨g, 0, none⟩), .int .u8 108] w fun er w' => er = .returned (.bool (bareV m 108)) ∧ w = w' := by
  have hu := Try.underlying29
  have k0 : w.cell? ⟨g, 11, none⟩ = some (.slice B m.L.length d) := blk_cell hg 11
  clear hg
  go_enter Try.func33, Try.ntmps33
  go_wp2_with fail
  go_ret
  exact ⟨rfl, rfl⟩
theorem bare_106 (w : World) (g : Nat) (m : Ms) (A B : Option Addr) (c d : Nat) (hg : w.heap[g]? = some (.cells (mcells m (.slice A m.P.length c) (.slice B m.L.length d)) 29 (0, 0))) : Calls Try.prog 33 #[.pointer (some ⟨g, 0, none⟩), .int .u8 106] w fun er w' => er = .returned (.bool (bareV m 106)) ∧ w = w' := by
  have hu := Try.underlying29
  have hu27 := Try.underlying27
  have k0 : w.cell? ⟨g, 8, none⟩ = some (.int .u64 m.seed) := blk_cell hg 8
  have k1 : w.cell? ⟨g, 10, none⟩ = some (.int .i64 m.most) := blk_cell hg 10
  have k2 : w.cell? ⟨g, 9, none⟩ = some (.slice A m.P.length c) := blk_cell hg 9
  clear hg
  by_cases h1 : m.seed = 0
  · by_cases h2 : m.most = 0
    · have f1 : (m.seed == 0) = true := by simpa using h1
      have f2 : (m.most == 0) = true := by simpa using h2
      rw [show bareV m 106 = ((m.P.length : Int) == 0) from by show (m.seed == 0 && m.most == 0 && ((m.P.length : Int) == 0)) = _; rw [f1, f2]; rfl]
      clear h1 h2
      go_enter Try.func33, Try.ntmps33
      go_wp2_with fail
      go_ret
      exact ⟨rfl, rfl⟩
    · have f1 : (m.seed == 0) = true := by simpa using h1
      have f2 : (m.most == 0) = false := by simpa using h2
      rw [show bareV m 106 = false from by show (m.seed == 0 && m.most == 0 && ((m.P.length : Int) == 0)) = _; rw [f1, f2]; rfl]
      clear h1 h2
      go_enter Try.func33, Try.ntmps33
      go_wp2_with fail
      go_ret
      exact ⟨rfl, rfl⟩
  · have f1 : (m.seed == 0) = false := by simpa using h1
    rw [show bareV m 106 = false from by show (m.seed == 0 && m.most == 0 && ((m.P.length : Int) == 0)) = _; rw [f1]; rfl]
    clear h1
    go_enter Try.func33, Try.ntmps33
    go_wp2_with fail
    go_ret
    exact ⟨rfl, rfl⟩
theorem bare_c (w : World) (g : Nat) (m : Ms) (A B : Option Addr) (c d : Nat) (hg : w.heap[g]? = some (.cells (mcells m (.slice A m.P.length c) (.slice B m.L.length d)) 29 (0, 0))) (ch : Int) (hc : isL ch) : Calls Try.prog 33 #[.pointer (some ⟨g, 0, none⟩), .int .u8 ch] w fun er w' => er = .returned (.bool (bareV m ch)) ∧ w = w' := by
  rcases hc with rfl | rfl | rfl | rfl | rfl | rfl | rfl | rfl | rfl
  · exact bare_115 w g m A B c d hg
  · exact bare_101 w g m A B c d hg
  · exact bare_97 w g m A B c d hg
  · exact bare_105 w g m A B c d hg
  · exact bare_110 w g m A B c d hg
  · exact bare_99 w g m A B c d hg
  · exact bare_119 w g m A B c d hg
  · exact bare_106 w g m A B c d hg
  · exact bare_108 w g m A B c d hg
/-- what lacks no field -/
def lackV (m : Ms) : Bool := ([115, 101, 97, 105, 110, 99, 119, 106, 108] : List Int).all fun c => (lettersV m.k).contains c || bareV m c
def mayV (m : Ms) : Bool := !(lettersV m.k).isEmpty && !decide (m.why < 0) && !decide (255 < m.why) && !decide (m.most < 0) && !decide (256 < m.most) && tokV m.P && tokV m.L && lackV m
theorem letters_any (k : Int) : ∃ S : ByteArray, msg_letters.f k = some S ∧ bytesOf S = lettersV k ∧ S.size = (lettersV k).length ∧ (S.toList == []) = (lettersV k).isEmpty := by
  by_cases h : 1 ≤ k ∧ k ≤ 12
  · have hk : k = 1 ∨ k = 2 ∨ k = 3 ∨ k = 4 ∨ k = 5 ∨ k = 6 ∨ k = 7 ∨ k = 8 ∨ k = 9 ∨ k = 10 ∨ k = 11 ∨ k = 12 := by omega
    rcases hk with rfl | rfl | rfl | rfl | rfl | rfl | rfl | rfl | rfl | rfl | rfl | rfl
    · exact ⟨⟨#[115, 101, 106]⟩, by kernel_rfl, by kernel_rfl, by kernel_rfl, by kernel_rfl⟩
    · exact ⟨⟨#[115, 110]⟩, by kernel_rfl, by kernel_rfl, by kernel_rfl, by kernel_rfl⟩
    · exact ⟨⟨#[115]⟩, by kernel_rfl, by kernel_rfl, by kernel_rfl, by kernel_rfl⟩
    · exact ⟨⟨#[115, 110, 108]⟩, by kernel_rfl, by kernel_rfl, by kernel_rfl, by kernel_rfl⟩
    · exact ⟨⟨#[115, 110, 119]⟩, by kernel_rfl, by kernel_rfl, by kernel_rfl, by kernel_rfl⟩
    · exact ⟨⟨#[97, 105, 110, 106]⟩, by kernel_rfl, by kernel_rfl, by kernel_rfl, by kernel_rfl⟩
    · exact ⟨⟨#[97, 105]⟩, by kernel_rfl, by kernel_rfl, by kernel_rfl, by kernel_rfl⟩
    · exact ⟨⟨#[97, 105, 110, 108]⟩, by kernel_rfl, by kernel_rfl, by kernel_rfl, by kernel_rfl⟩
    · exact ⟨⟨#[97, 105, 110, 119]⟩, by kernel_rfl, by kernel_rfl, by kernel_rfl, by kernel_rfl⟩
    · exact ⟨⟨#[110]⟩, by kernel_rfl, by kernel_rfl, by kernel_rfl, by kernel_rfl⟩
    · exact ⟨⟨#[110, 105, 99]⟩, by kernel_rfl, by kernel_rfl, by kernel_rfl, by kernel_rfl⟩
    · exact ⟨⟨#[105]⟩, by kernel_rfl, by kernel_rfl, by kernel_rfl, by kernel_rfl⟩
  · have e0 : lettersV k = [] := by
      unfold lettersV
      repeat rw [if_neg (by omega)]
    have e1 : msg_letters.f k = some ⟨#[]⟩ := by
      unfold msg_letters.f
      repeat rw [if_neg (by omega)]
    rw [e0, e1]
    exact ⟨_, rfl, by kernel_rfl, by kernel_rfl, by kernel_rfl⟩
theorem letters_mem (k : Int) : lettersV k ∈ ([[115, 101, 106], [115, 110], [115], [115, 110, 108], [115, 110, 119], [97, 105, 110, 106], [97, 105], [97, 105, 110, 108], [97, 105, 110, 119], [110], [110, 105, 99], [105], []] : List (List Int)) := by
  unfold lettersV
  repeat' split
  all_goals decide
theorem contains_k (k : Int) (c : Int) (hc : c ∈ ([115, 101, 97, 105, 110, 99, 119, 106, 108] : List Int)) : slices_Contains_byte_byte.f 12 (lettersV k) c = some ((lettersV k).contains c) := by
  have h : ∀ q ∈ ([[115, 101, 106], [115, 110], [115], [115, 110, 108], [115, 110, 119], [97, 105, 110, 106], [97, 105], [97, 105, 110, 108], [97, 105, 110, 119], [110], [110, 105, 99], [105], []] : List (List Int)), ∀ d ∈ ([115, 101, 97, 105, 110, 99, 119, 106, 108] : List Int), slices_Contains_byte_byte.f 12 q d = some (q.contains d) := of_decide_eq_true (by kernel_rfl)
  exact h _ (letters_mem k) c hc
theorem nine_isL : ∀ c ∈ ([115, 101, 97, 105, 110, 99, 119, 106, 108] : List Int), isL c := by decide
set_option maxHeartbeats 16000000 in
theorem may_c (w : World) (m : Ms) (A B : Option Addr) (c d : Nat) (hlP : m.P.length ≤ 1000000) (hlL : m.L.length ≤ 1000000) (hcP : m.P.length ≤ c) (hcL : m.L.length ≤ d) (hP : Kd.C (Kd.int .i64) w A m.P.length m.P) (hL : Kd.C (Kd.int .i64) w B m.L.length m.L) :
    Calls Try.prog 12 #[.agg #[.int .i64 m.k, .int .u64 m.s, .int .u64 m.se, .int .u64 m.a, .int .u64 m.i, .int .u64 m.n, .int .u64 m.c, .int .i64 m.why, .int .u64 m.seed, .slice A m.P.length c, .int .i64 m.most, .slice B m.L.length d]] w fun er w' => er = .returned (.bool (mayV m)) ∧ Below w.heap.size w w' := by
  have hu := Try.underlying29
  have hu27 := Try.underlying27
  have HTP := Aside0.mk (fun W (hw : Below w.heap.size w W) => tokens_c A c m.P hlP hcP W (Kd.C_below hP hw))
  have HTL := Aside0.mk (fun W (hw : Below w.heap.size w W) => tokens_c B d m.L hlL hcL W (Kd.C_below hL hw))
  obtain ⟨S, hS, hSb, hSn, hSe⟩ := letters_any m.k
  have HS := Aside0.mk hS; have HSB := Aside0.mk hSb; have HSN := Aside0.mk hSn
  clear hlP hlL hcP hcL hP hL hS hSb hSn
  by_cases hE : (lettersV m.k).isEmpty = true
  · have hmay : mayV m = false := by unfold mayV; rw [hE]; rfl
    rw [hE] at hSe
    rw [hmay]
    clear hE hmay
    go_enter Try.func12, Try.ntmps12
    go_wp2_with (first | ((with_reducible refine gate_dst (N := 1) rfl ?_); refine box_event ?hg (N := 1) ?hd (cs := #[.int .i64 m.k, .int .u64 m.s, .int .u64 m.se, .int .u64 m.a, .int .u64 m.i, .int .u64 m.n, .int .u64 m.c, .int .i64 m.why, .int .u64 m.seed, .slice A m.P.length c, .int .i64 m.most, .slice B m.L.length d]) (t := 29) ?hr ?_; (case hd => rfl); (case hg => rfl); (case hr => first | (go_simp; done) | (go_simp; rfl)); intro g hgn w5 hbox hb; have HG := Aside0.mk hbox; have HB5 := Aside0.mk hb; have HGN := Aside0.mk hgn; have u0 : w5.cell? ⟨g, 0, none⟩ = some (.int .i64 m.k) := blk_cell hbox 0; have uf0 : w5.frozen? ⟨g, 0, none⟩ = false := blk_frozen hbox 0; have u1 : w5.cell? ⟨g, 1, none⟩ = some (.int .u64 m.s) := blk_cell hbox 1; have uf1 : w5.frozen? ⟨g, 1, none⟩ = false := blk_frozen hbox 1; have u2 : w5.cell? ⟨g, 2, none⟩ = some (.int .u64 m.se) := blk_cell hbox 2; have uf2 : w5.frozen? ⟨g, 2, none⟩ = false := blk_frozen hbox 2; have u3 : w5.cell? ⟨g, 3, none⟩ = some (.int .u64 m.a) := blk_cell hbox 3; have uf3 : w5.frozen? ⟨g, 3, none⟩ = false := blk_frozen hbox 3; have u4 : w5.cell? ⟨g, 4, none⟩ = some (.int .u64 m.i) := blk_cell hbox 4; have uf4 : w5.frozen? ⟨g, 4, none⟩ = false := blk_frozen hbox 4; have u5 : w5.cell? ⟨g, 5, none⟩ = some (.int .u64 m.n) := blk_cell hbox 5; have uf5 : w5.frozen? ⟨g, 5, none⟩ = false := blk_frozen hbox 5; have u6 : w5.cell? ⟨g, 6, none⟩ = some (.int .u64 m.c) := blk_cell hbox 6; have uf6 : w5.frozen? ⟨g, 6, none⟩ = false := blk_frozen hbox 6; have u7 : w5.cell? ⟨g, 7, none⟩ = some (.int .i64 m.why) := blk_cell hbox 7; have uf7 : w5.frozen? ⟨g, 7, none⟩ = false := blk_frozen hbox 7; have u8 : w5.cell? ⟨g, 8, none⟩ = some (.int .u64 m.seed) := blk_cell hbox 8; have uf8 : w5.frozen? ⟨g, 8, none⟩ = false := blk_frozen hbox 8; have u9 : w5.cell? ⟨g, 9, none⟩ = some (.slice A m.P.length c) := blk_cell hbox 9; have uf9 : w5.frozen? ⟨g, 9, none⟩ = false := blk_frozen hbox 9; have u10 : w5.cell? ⟨g, 10, none⟩ = some (.int .i64 m.most) := blk_cell hbox 10; have uf10 : w5.frozen? ⟨g, 10, none⟩ = false := blk_frozen hbox 10; have u11 : w5.cell? ⟨g, 11, none⟩ = some (.slice B m.L.length d) := blk_cell hbox 11; have uf11 : w5.frozen? ⟨g, 11, none⟩ = false := blk_frozen hbox 11; clear hbox hb hgn) | (go_at_call 25; (with_reducible refine (msg_letters.calls m.k S _ HS.out).mono ?_); rintro er w12 ⟨rfl, hdr⟩; obtain ⟨nd, rfl⟩ := hdr) | (go_at_call 31; (with_reducible refine (HTP.out _ (pw_below_drewN HB5.out nd)).mono ?_); rintro er w13 ⟨rfl, hb⟩; have HB13 := Aside0.mk hb; have HG13 := Aside0.mk (blk_below (blk_drewN HG.out nd) hb); have ul13 : w13.cell? ⟨g, 11, none⟩ = some (.slice B m.L.length d) := blk_cell HG13.out 11; clear hb) | (go_at_call 31; (with_reducible refine (HTL.out _ (below_step (pw_below_drewN HB5.out nd) HB13.out)).mono ?_); rintro er w14 ⟨rfl, hb⟩; have HB14 := Aside0.mk hb; have HG14 := Aside0.mk (blk_below HG13.out hb); have ul14 : w14.cell? ⟨g, 11, none⟩ = some (.slice B m.L.length d) := blk_cell HG14.out 11; clear hb))
    go_ret
    exact ⟨rfl, pw_below_drewN HB5.out nd⟩
  have hE : (lettersV m.k).isEmpty = false := by simpa using hE
  rw [hE] at hSe
  by_cases hW0 : m.why < 0
  · have q : decide (m.why < 0) = true := decide_eq_true hW0
    have hmay : mayV m = false := by unfold mayV; rw [hE, q]; simp
    rw [hmay]
    clear hmay hE hW0
    go_enter Try.func12, Try.ntmps12
    go_wp2_with (first | ((with_reducible refine gate_dst (N := 1) rfl ?_); refine box_event ?hg (N := 1) ?hd (cs := #[.int .i64 m.k, .int .u64 m.s, .int .u64 m.se, .int .u64 m.a, .int .u64 m.i, .int .u64 m.n, .int .u64 m.c, .int .i64 m.why, .int .u64 m.seed, .slice A m.P.length c, .int .i64 m.most, .slice B m.L.length d]) (t := 29) ?hr ?_; (case hd => rfl); (case hg => rfl); (case hr => first | (go_simp; done) | (go_simp; rfl)); intro g hgn w5 hbox hb; have HG := Aside0.mk hbox; have HB5 := Aside0.mk hb; have HGN := Aside0.mk hgn; have u0 : w5.cell? ⟨g, 0, none⟩ = some (.int .i64 m.k) := blk_cell hbox 0; have uf0 : w5.frozen? ⟨g, 0, none⟩ = false := blk_frozen hbox 0; have u1 : w5.cell? ⟨g, 1, none⟩ = some (.int .u64 m.s) := blk_cell hbox 1; have uf1 : w5.frozen? ⟨g, 1, none⟩ = false := blk_frozen hbox 1; have u2 : w5.cell? ⟨g, 2, none⟩ = some (.int .u64 m.se) := blk_cell hbox 2; have uf2 : w5.frozen? ⟨g, 2, none⟩ = false := blk_frozen hbox 2; have u3 : w5.cell? ⟨g, 3, none⟩ = some (.int .u64 m.a) := blk_cell hbox 3; have uf3 : w5.frozen? ⟨g, 3, none⟩ = false := blk_frozen hbox 3; have u4 : w5.cell? ⟨g, 4, none⟩ = some (.int .u64 m.i) := blk_cell hbox 4; have uf4 : w5.frozen? ⟨g, 4, none⟩ = false := blk_frozen hbox 4; have u5 : w5.cell? ⟨g, 5, none⟩ = some (.int .u64 m.n) := blk_cell hbox 5; have uf5 : w5.frozen? ⟨g, 5, none⟩ = false := blk_frozen hbox 5; have u6 : w5.cell? ⟨g, 6, none⟩ = some (.int .u64 m.c) := blk_cell hbox 6; have uf6 : w5.frozen? ⟨g, 6, none⟩ = false := blk_frozen hbox 6; have u7 : w5.cell? ⟨g, 7, none⟩ = some (.int .i64 m.why) := blk_cell hbox 7; have uf7 : w5.frozen? ⟨g, 7, none⟩ = false := blk_frozen hbox 7; have u8 : w5.cell? ⟨g, 8, none⟩ = some (.int .u64 m.seed) := blk_cell hbox 8; have uf8 : w5.frozen? ⟨g, 8, none⟩ = false := blk_frozen hbox 8; have u9 : w5.cell? ⟨g, 9, none⟩ = some (.slice A m.P.length c) := blk_cell hbox 9; have uf9 : w5.frozen? ⟨g, 9, none⟩ = false := blk_frozen hbox 9; have u10 : w5.cell? ⟨g, 10, none⟩ = some (.int .i64 m.most) := blk_cell hbox 10; have uf10 : w5.frozen? ⟨g, 10, none⟩ = false := blk_frozen hbox 10; have u11 : w5.cell? ⟨g, 11, none⟩ = some (.slice B m.L.length d) := blk_cell hbox 11; have uf11 : w5.frozen? ⟨g, 11, none⟩ = false := blk_frozen hbox 11; clear hbox hb hgn) | (go_at_call 25; (with_reducible refine (msg_letters.calls m.k S _ HS.out).mono ?_); rintro er w12 ⟨rfl, hdr⟩; obtain ⟨nd, rfl⟩ := hdr) | (go_at_call 31; (with_reducible refine (HTP.out _ (pw_below_drewN HB5.out nd)).mono ?_); rintro er w13 ⟨rfl, hb⟩; have HB13 := Aside0.mk hb; have HG13 := Aside0.mk (blk_below (blk_drewN HG.out nd) hb); have ul13 : w13.cell? ⟨g, 11, none⟩ = some (.slice B m.L.length d) := blk_cell HG13.out 11; clear hb) | (go_at_call 31; (with_reducible refine (HTL.out _ (below_step (pw_below_drewN HB5.out nd) HB13.out)).mono ?_); rintro er w14 ⟨rfl, hb⟩; have HB14 := Aside0.mk hb; have HG14 := Aside0.mk (blk_below HG13.out hb); have ul14 : w14.cell? ⟨g, 11, none⟩ = some (.slice B m.L.length d) := blk_cell HG14.out 11; clear hb))
    go_ret
    exact ⟨rfl, by first | exact pw_below_drewN HB5.out nd | exact below_step (below_step (pw_below_drewN HB5.out nd) HB13.out) HB14.out | exact below_step (pw_below_drewN HB5.out nd) HB13.out⟩
  have q1 : decide (m.why < 0) = false := decide_eq_false hW0
  by_cases hW1 : 255 < m.why
  · have q : decide (255 < m.why) = true := decide_eq_true hW1
    have hmay : mayV m = false := by unfold mayV; rw [hE, q1, q]; simp
    rw [hmay]
    clear hmay hE hW0 hW1
    go_enter Try.func12, Try.ntmps12
    go_wp2_with (first | ((with_reducible refine gate_dst (N := 1) rfl ?_); refine box_event ?hg (N := 1) ?hd (cs := #[.int .i64 m.k, .int .u64 m.s, .int .u64 m.se, .int .u64 m.a, .int .u64 m.i, .int .u64 m.n, .int .u64 m.c, .int .i64 m.why, .int .u64 m.seed, .slice A m.P.length c, .int .i64 m.most, .slice B m.L.length d]) (t := 29) ?hr ?_; (case hd => rfl); (case hg => rfl); (case hr => first | (go_simp; done) | (go_simp; rfl)); intro g hgn w5 hbox hb; have HG := Aside0.mk hbox; have HB5 := Aside0.mk hb; have HGN := Aside0.mk hgn; have u0 : w5.cell? ⟨g, 0, none⟩ = some (.int .i64 m.k) := blk_cell hbox 0; have uf0 : w5.frozen? ⟨g, 0, none⟩ = false := blk_frozen hbox 0; have u1 : w5.cell? ⟨g, 1, none⟩ = some (.int .u64 m.s) := blk_cell hbox 1; have uf1 : w5.frozen? ⟨g, 1, none⟩ = false := blk_frozen hbox 1; have u2 : w5.cell? ⟨g, 2, none⟩ = some (.int .u64 m.se) := blk_cell hbox 2; have uf2 : w5.frozen? ⟨g, 2, none⟩ = false := blk_frozen hbox 2; have u3 : w5.cell? ⟨g, 3, none⟩ = some (.int .u64 m.a) := blk_cell hbox 3; have uf3 : w5.frozen? ⟨g, 3, none⟩ = false := blk_frozen hbox 3; have u4 : w5.cell? ⟨g, 4, none⟩ = some (.int .u64 m.i) := blk_cell hbox 4; have uf4 : w5.frozen? ⟨g, 4, none⟩ = false := blk_frozen hbox 4; have u5 : w5.cell? ⟨g, 5, none⟩ = some (.int .u64 m.n) := blk_cell hbox 5; have uf5 : w5.frozen? ⟨g, 5, none⟩ = false := blk_frozen hbox 5; have u6 : w5.cell? ⟨g, 6, none⟩ = some (.int .u64 m.c) := blk_cell hbox 6; have uf6 : w5.frozen? ⟨g, 6, none⟩ = false := blk_frozen hbox 6; have u7 : w5.cell? ⟨g, 7, none⟩ = some (.int .i64 m.why) := blk_cell hbox 7; have uf7 : w5.frozen? ⟨g, 7, none⟩ = false := blk_frozen hbox 7; have u8 : w5.cell? ⟨g, 8, none⟩ = some (.int .u64 m.seed) := blk_cell hbox 8; have uf8 : w5.frozen? ⟨g, 8, none⟩ = false := blk_frozen hbox 8; have u9 : w5.cell? ⟨g, 9, none⟩ = some (.slice A m.P.length c) := blk_cell hbox 9; have uf9 : w5.frozen? ⟨g, 9, none⟩ = false := blk_frozen hbox 9; have u10 : w5.cell? ⟨g, 10, none⟩ = some (.int .i64 m.most) := blk_cell hbox 10; have uf10 : w5.frozen? ⟨g, 10, none⟩ = false := blk_frozen hbox 10; have u11 : w5.cell? ⟨g, 11, none⟩ = some (.slice B m.L.length d) := blk_cell hbox 11; have uf11 : w5.frozen? ⟨g, 11, none⟩ = false := blk_frozen hbox 11; clear hbox hb hgn) | (go_at_call 25; (with_reducible refine (msg_letters.calls m.k S _ HS.out).mono ?_); rintro er w12 ⟨rfl, hdr⟩; obtain ⟨nd, rfl⟩ := hdr) | (go_at_call 31; (with_reducible refine (HTP.out _ (pw_below_drewN HB5.out nd)).mono ?_); rintro er w13 ⟨rfl, hb⟩; have HB13 := Aside0.mk hb; have HG13 := Aside0.mk (blk_below (blk_drewN HG.out nd) hb); have ul13 : w13.cell? ⟨g, 11, none⟩ = some (.slice B m.L.length d) := blk_cell HG13.out 11; clear hb) | (go_at_call 31; (with_reducible refine (HTL.out _ (below_step (pw_below_drewN HB5.out nd) HB13.out)).mono ?_); rintro er w14 ⟨rfl, hb⟩; have HB14 := Aside0.mk hb; have HG14 := Aside0.mk (blk_below HG13.out hb); have ul14 : w14.cell? ⟨g, 11, none⟩ = some (.slice B m.L.length d) := blk_cell HG14.out 11; clear hb))
    go_ret
    exact ⟨rfl, by first | exact pw_below_drewN HB5.out nd | exact below_step (below_step (pw_below_drewN HB5.out nd) HB13.out) HB14.out | exact below_step (pw_below_drewN HB5.out nd) HB13.out⟩
  have q2 : decide (255 < m.why) = false := decide_eq_false hW1
  by_cases hM0 : m.most < 0
  · have q : decide (m.most < 0) = true := decide_eq_true hM0
    have hmay : mayV m = false := by unfold mayV; rw [hE, q1, q2, q]; simp
    rw [hmay]
    clear hmay hE hW0 hW1 hM0
    go_enter Try.func12, Try.ntmps12
    go_wp2_with (first | ((with_reducible refine gate_dst (N := 1) rfl ?_); refine box_event ?hg (N := 1) ?hd (cs := #[.int .i64 m.k, .int .u64 m.s, .int .u64 m.se, .int .u64 m.a, .int .u64 m.i, .int .u64 m.n, .int .u64 m.c, .int .i64 m.why, .int .u64 m.seed, .slice A m.P.length c, .int .i64 m.most, .slice B m.L.length d]) (t := 29) ?hr ?_; (case hd => rfl); (case hg => rfl); (case hr => first | (go_simp; done) | (go_simp; rfl)); intro g hgn w5 hbox hb; have HG := Aside0.mk hbox; have HB5 := Aside0.mk hb; have HGN := Aside0.mk hgn; have u0 : w5.cell? ⟨g, 0, none⟩ = some (.int .i64 m.k) := blk_cell hbox 0; have uf0 : w5.frozen? ⟨g, 0, none⟩ = false := blk_frozen hbox 0; have u1 : w5.cell? ⟨g, 1, none⟩ = some (.int .u64 m.s) := blk_cell hbox 1; have uf1 : w5.frozen? ⟨g, 1, none⟩ = false := blk_frozen hbox 1; have u2 : w5.cell? ⟨g, 2, none⟩ = some (.int .u64 m.se) := blk_cell hbox 2; have uf2 : w5.frozen? ⟨g, 2, none⟩ = false := blk_frozen hbox 2; have u3 : w5.cell? ⟨g, 3, none⟩ = some (.int .u64 m.a) := blk_cell hbox 3; have uf3 : w5.frozen? ⟨g, 3, none⟩ = false := blk_frozen hbox 3; have u4 : w5.cell? ⟨g, 4, none⟩ = some (.int .u64 m.i) := blk_cell hbox 4; have uf4 : w5.frozen? ⟨g, 4, none⟩ = false := blk_frozen hbox 4; have u5 : w5.cell? ⟨g, 5, none⟩ = some (.int .u64 m.n) := blk_cell hbox 5; have uf5 : w5.frozen? ⟨g, 5, none⟩ = false := blk_frozen hbox 5; have u6 : w5.cell? ⟨g, 6, none⟩ = some (.int .u64 m.c) := blk_cell hbox 6; have uf6 : w5.frozen? ⟨g, 6, none⟩ = false := blk_frozen hbox 6; have u7 : w5.cell? ⟨g, 7, none⟩ = some (.int .i64 m.why) := blk_cell hbox 7; have uf7 : w5.frozen? ⟨g, 7, none⟩ = false := blk_frozen hbox 7; have u8 : w5.cell? ⟨g, 8, none⟩ = some (.int .u64 m.seed) := blk_cell hbox 8; have uf8 : w5.frozen? ⟨g, 8, none⟩ = false := blk_frozen hbox 8; have u9 : w5.cell? ⟨g, 9, none⟩ = some (.slice A m.P.length c) := blk_cell hbox 9; have uf9 : w5.frozen? ⟨g, 9, none⟩ = false := blk_frozen hbox 9; have u10 : w5.cell? ⟨g, 10, none⟩ = some (.int .i64 m.most) := blk_cell hbox 10; have uf10 : w5.frozen? ⟨g, 10, none⟩ = false := blk_frozen hbox 10; have u11 : w5.cell? ⟨g, 11, none⟩ = some (.slice B m.L.length d) := blk_cell hbox 11; have uf11 : w5.frozen? ⟨g, 11, none⟩ = false := blk_frozen hbox 11; clear hbox hb hgn) | (go_at_call 25; (with_reducible refine (msg_letters.calls m.k S _ HS.out).mono ?_); rintro er w12 ⟨rfl, hdr⟩; obtain ⟨nd, rfl⟩ := hdr) | (go_at_call 31; (with_reducible refine (HTP.out _ (pw_below_drewN HB5.out nd)).mono ?_); rintro er w13 ⟨rfl, hb⟩; have HB13 := Aside0.mk hb; have HG13 := Aside0.mk (blk_below (blk_drewN HG.out nd) hb); have ul13 : w13.cell? ⟨g, 11, none⟩ = some (.slice B m.L.length d) := blk_cell HG13.out 11; clear hb) | (go_at_call 31; (with_reducible refine (HTL.out _ (below_step (pw_below_drewN HB5.out nd) HB13.out)).mono ?_); rintro er w14 ⟨rfl, hb⟩; have HB14 := Aside0.mk hb; have HG14 := Aside0.mk (blk_below HG13.out hb); have ul14 : w14.cell? ⟨g, 11, none⟩ = some (.slice B m.L.length d) := blk_cell HG14.out 11; clear hb))
    go_ret
    exact ⟨rfl, by first | exact pw_below_drewN HB5.out nd | exact below_step (below_step (pw_below_drewN HB5.out nd) HB13.out) HB14.out | exact below_step (pw_below_drewN HB5.out nd) HB13.out⟩
  have q3 : decide (m.most < 0) = false := decide_eq_false hM0
  by_cases hM1 : 256 < m.most
  · have q : decide (256 < m.most) = true := decide_eq_true hM1
    have hmay : mayV m = false := by unfold mayV; rw [hE, q1, q2, q3, q]; simp
    rw [hmay]
    clear hmay hE hW0 hW1 hM0 hM1
    go_enter Try.func12, Try.ntmps12
    go_wp2_with (first | ((with_reducible refine gate_dst (N := 1) rfl ?_); refine box_event ?hg (N := 1) ?hd (cs := #[.int .i64 m.k, .int .u64 m.s, .int .u64 m.se, .int .u64 m.a, .int .u64 m.i, .int .u64 m.n, .int .u64 m.c, .int .i64 m.why, .int .u64 m.seed, .slice A m.P.length c, .int .i64 m.most, .slice B m.L.length d]) (t := 29) ?hr ?_; (case hd => rfl); (case hg => rfl); (case hr => first | (go_simp; done) | (go_simp; rfl)); intro g hgn w5 hbox hb; have HG := Aside0.mk hbox; have HB5 := Aside0.mk hb; have HGN := Aside0.mk hgn; have u0 : w5.cell? ⟨g, 0, none⟩ = some (.int .i64 m.k) := blk_cell hbox 0; have uf0 : w5.frozen? ⟨g, 0, none⟩ = false := blk_frozen hbox 0; have u1 : w5.cell? ⟨g, 1, none⟩ = some (.int .u64 m.s) := blk_cell hbox 1; have uf1 : w5.frozen? ⟨g, 1, none⟩ = false := blk_frozen hbox 1; have u2 : w5.cell? ⟨g, 2, none⟩ = some (.int .u64 m.se) := blk_cell hbox 2; have uf2 : w5.frozen? ⟨g, 2, none⟩ = false := blk_frozen hbox 2; have u3 : w5.cell? ⟨g, 3, none⟩ = some (.int .u64 m.a) := blk_cell hbox 3; have uf3 : w5.frozen? ⟨g, 3, none⟩ = false := blk_frozen hbox 3; have u4 : w5.cell? ⟨g, 4, none⟩ = some (.int .u64 m.i) := blk_cell hbox 4; have uf4 : w5.frozen? ⟨g, 4, none⟩ = false := blk_frozen hbox 4; have u5 : w5.cell? ⟨g, 5, none⟩ = some (.int .u64 m.n) := blk_cell hbox 5; have uf5 : w5.frozen? ⟨g, 5, none⟩ = false := blk_frozen hbox 5; have u6 : w5.cell? ⟨g, 6, none⟩ = some (.int .u64 m.c) := blk_cell hbox 6; have uf6 : w5.frozen? ⟨g, 6, none⟩ = false := blk_frozen hbox 6; have u7 : w5.cell? ⟨g, 7, none⟩ = some (.int .i64 m.why) := blk_cell hbox 7; have uf7 : w5.frozen? ⟨g, 7, none⟩ = false := blk_frozen hbox 7; have u8 : w5.cell? ⟨g, 8, none⟩ = some (.int .u64 m.seed) := blk_cell hbox 8; have uf8 : w5.frozen? ⟨g, 8, none⟩ = false := blk_frozen hbox 8; have u9 : w5.cell? ⟨g, 9, none⟩ = some (.slice A m.P.length c) := blk_cell hbox 9; have uf9 : w5.frozen? ⟨g, 9, none⟩ = false := blk_frozen hbox 9; have u10 : w5.cell? ⟨g, 10, none⟩ = some (.int .i64 m.most) := blk_cell hbox 10; have uf10 : w5.frozen? ⟨g, 10, none⟩ = false := blk_frozen hbox 10; have u11 : w5.cell? ⟨g, 11, none⟩ = some (.slice B m.L.length d) := blk_cell hbox 11; have uf11 : w5.frozen? ⟨g, 11, none⟩ = false := blk_frozen hbox 11; clear hbox hb hgn) | (go_at_call 25; (with_reducible refine (msg_letters.calls m.k S _ HS.out).mono ?_); rintro er w12 ⟨rfl, hdr⟩; obtain ⟨nd, rfl⟩ := hdr) | (go_at_call 31; (with_reducible refine (HTP.out _ (pw_below_drewN HB5.out nd)).mono ?_); rintro er w13 ⟨rfl, hb⟩; have HB13 := Aside0.mk hb; have HG13 := Aside0.mk (blk_below (blk_drewN HG.out nd) hb); have ul13 : w13.cell? ⟨g, 11, none⟩ = some (.slice B m.L.length d) := blk_cell HG13.out 11; clear hb) | (go_at_call 31; (with_reducible refine (HTL.out _ (below_step (pw_below_drewN HB5.out nd) HB13.out)).mono ?_); rintro er w14 ⟨rfl, hb⟩; have HB14 := Aside0.mk hb; have HG14 := Aside0.mk (blk_below HG13.out hb); have ul14 : w14.cell? ⟨g, 11, none⟩ = some (.slice B m.L.length d) := blk_cell HG14.out 11; clear hb))
    go_ret
    exact ⟨rfl, by first | exact pw_below_drewN HB5.out nd | exact below_step (below_step (pw_below_drewN HB5.out nd) HB13.out) HB14.out | exact below_step (pw_below_drewN HB5.out nd) HB13.out⟩
  have q4 : decide (256 < m.most) = false := decide_eq_false hM1
  by_cases hP : tokV m.P = false
  · have q := hP
    have hmay : mayV m = false := by unfold mayV; rw [hE, q1, q2, q3, q4, q]; simp
    rw [hmay]
    clear hmay hE hW0 hW1 hM0 hM1 hP
    go_enter Try.func12, Try.ntmps12
    go_wp2_with (first | ((with_reducible refine gate_dst (N := 1) rfl ?_); refine box_event ?hg (N := 1) ?hd (cs := #[.int .i64 m.k, .int .u64 m.s, .int .u64 m.se, .int .u64 m.a, .int .u64 m.i, .int .u64 m.n, .int .u64 m.c, .int .i64 m.why, .int .u64 m.seed, .slice A m.P.length c, .int .i64 m.most, .slice B m.L.length d]) (t := 29) ?hr ?_; (case hd => rfl); (case hg => rfl); (case hr => first | (go_simp; done) | (go_simp; rfl)); intro g hgn w5 hbox hb; have HG := Aside0.mk hbox; have HB5 := Aside0.mk hb; have HGN := Aside0.mk hgn; have u0 : w5.cell? ⟨g, 0, none⟩ = some (.int .i64 m.k) := blk_cell hbox 0; have uf0 : w5.frozen? ⟨g, 0, none⟩ = false := blk_frozen hbox 0; have u1 : w5.cell? ⟨g, 1, none⟩ = some (.int .u64 m.s) := blk_cell hbox 1; have uf1 : w5.frozen? ⟨g, 1, none⟩ = false := blk_frozen hbox 1; have u2 : w5.cell? ⟨g, 2, none⟩ = some (.int .u64 m.se) := blk_cell hbox 2; have uf2 : w5.frozen? ⟨g, 2, none⟩ = false := blk_frozen hbox 2; have u3 : w5.cell? ⟨g, 3, none⟩ = some (.int .u64 m.a) := blk_cell hbox 3; have uf3 : w5.frozen? ⟨g, 3, none⟩ = false := blk_frozen hbox 3; have u4 : w5.cell? ⟨g, 4, none⟩ = some (.int .u64 m.i) := blk_cell hbox 4; have uf4 : w5.frozen? ⟨g, 4, none⟩ = false := blk_frozen hbox 4; have u5 : w5.cell? ⟨g, 5, none⟩ = some (.int .u64 m.n) := blk_cell hbox 5; have uf5 : w5.frozen? ⟨g, 5, none⟩ = false := blk_frozen hbox 5; have u6 : w5.cell? ⟨g, 6, none⟩ = some (.int .u64 m.c) := blk_cell hbox 6; have uf6 : w5.frozen? ⟨g, 6, none⟩ = false := blk_frozen hbox 6; have u7 : w5.cell? ⟨g, 7, none⟩ = some (.int .i64 m.why) := blk_cell hbox 7; have uf7 : w5.frozen? ⟨g, 7, none⟩ = false := blk_frozen hbox 7; have u8 : w5.cell? ⟨g, 8, none⟩ = some (.int .u64 m.seed) := blk_cell hbox 8; have uf8 : w5.frozen? ⟨g, 8, none⟩ = false := blk_frozen hbox 8; have u9 : w5.cell? ⟨g, 9, none⟩ = some (.slice A m.P.length c) := blk_cell hbox 9; have uf9 : w5.frozen? ⟨g, 9, none⟩ = false := blk_frozen hbox 9; have u10 : w5.cell? ⟨g, 10, none⟩ = some (.int .i64 m.most) := blk_cell hbox 10; have uf10 : w5.frozen? ⟨g, 10, none⟩ = false := blk_frozen hbox 10; have u11 : w5.cell? ⟨g, 11, none⟩ = some (.slice B m.L.length d) := blk_cell hbox 11; have uf11 : w5.frozen? ⟨g, 11, none⟩ = false := blk_frozen hbox 11; clear hbox hb hgn) | (go_at_call 25; (with_reducible refine (msg_letters.calls m.k S _ HS.out).mono ?_); rintro er w12 ⟨rfl, hdr⟩; obtain ⟨nd, rfl⟩ := hdr) | (go_at_call 31; (with_reducible refine (HTP.out _ (pw_below_drewN HB5.out nd)).mono ?_); rintro er w13 ⟨rfl, hb⟩; have HB13 := Aside0.mk hb; have HG13 := Aside0.mk (blk_below (blk_drewN HG.out nd) hb); have ul13 : w13.cell? ⟨g, 11, none⟩ = some (.slice B m.L.length d) := blk_cell HG13.out 11; clear hb) | (go_at_call 31; (with_reducible refine (HTL.out _ (below_step (pw_below_drewN HB5.out nd) HB13.out)).mono ?_); rintro er w14 ⟨rfl, hb⟩; have HB14 := Aside0.mk hb; have HG14 := Aside0.mk (blk_below HG13.out hb); have ul14 : w14.cell? ⟨g, 11, none⟩ = some (.slice B m.L.length d) := blk_cell HG14.out 11; clear hb))
    go_ret
    exact ⟨rfl, by first | exact pw_below_drewN HB5.out nd | exact below_step (below_step (pw_below_drewN HB5.out nd) HB13.out) HB14.out | exact below_step (pw_below_drewN HB5.out nd) HB13.out⟩
  have q5 : tokV m.P = true := by simpa using hP
  by_cases hL : tokV m.L = false
  · have q := hL
    have hmay : mayV m = false := by unfold mayV; rw [hE, q1, q2, q3, q4, q5, q]; simp
    rw [hmay]
    clear hmay hE hW0 hW1 hM0 hM1 hP hL
    go_enter Try.func12, Try.ntmps12
    go_wp2_with (first | ((with_reducible refine gate_dst (N := 1) rfl ?_); refine box_event ?hg (N := 1) ?hd (cs := #[.int .i64 m.k, .int .u64 m.s, .int .u64 m.se, .int .u64 m.a, .int .u64 m.i, .int .u64 m.n, .int .u64 m.c, .int .i64 m.why, .int .u64 m.seed, .slice A m.P.length c, .int .i64 m.most, .slice B m.L.length d]) (t := 29) ?hr ?_; (case hd => rfl); (case hg => rfl); (case hr => first | (go_simp; done) | (go_simp; rfl)); intro g hgn w5 hbox hb; have HG := Aside0.mk hbox; have HB5 := Aside0.mk hb; have HGN := Aside0.mk hgn; have u0 : w5.cell? ⟨g, 0, none⟩ = some (.int .i64 m.k) := blk_cell hbox 0; have uf0 : w5.frozen? ⟨g, 0, none⟩ = false := blk_frozen hbox 0; have u1 : w5.cell? ⟨g, 1, none⟩ = some (.int .u64 m.s) := blk_cell hbox 1; have uf1 : w5.frozen? ⟨g, 1, none⟩ = false := blk_frozen hbox 1; have u2 : w5.cell? ⟨g, 2, none⟩ = some (.int .u64 m.se) := blk_cell hbox 2; have uf2 : w5.frozen? ⟨g, 2, none⟩ = false := blk_frozen hbox 2; have u3 : w5.cell? ⟨g, 3, none⟩ = some (.int .u64 m.a) := blk_cell hbox 3; have uf3 : w5.frozen? ⟨g, 3, none⟩ = false := blk_frozen hbox 3; have u4 : w5.cell? ⟨g, 4, none⟩ = some (.int .u64 m.i) := blk_cell hbox 4; have uf4 : w5.frozen? ⟨g, 4, none⟩ = false := blk_frozen hbox 4; have u5 : w5.cell? ⟨g, 5, none⟩ = some (.int .u64 m.n) := blk_cell hbox 5; have uf5 : w5.frozen? ⟨g, 5, none⟩ = false := blk_frozen hbox 5; have u6 : w5.cell? ⟨g, 6, none⟩ = some (.int .u64 m.c) := blk_cell hbox 6; have uf6 : w5.frozen? ⟨g, 6, none⟩ = false := blk_frozen hbox 6; have u7 : w5.cell? ⟨g, 7, none⟩ = some (.int .i64 m.why) := blk_cell hbox 7; have uf7 : w5.frozen? ⟨g, 7, none⟩ = false := blk_frozen hbox 7; have u8 : w5.cell? ⟨g, 8, none⟩ = some (.int .u64 m.seed) := blk_cell hbox 8; have uf8 : w5.frozen? ⟨g, 8, none⟩ = false := blk_frozen hbox 8; have u9 : w5.cell? ⟨g, 9, none⟩ = some (.slice A m.P.length c) := blk_cell hbox 9; have uf9 : w5.frozen? ⟨g, 9, none⟩ = false := blk_frozen hbox 9; have u10 : w5.cell? ⟨g, 10, none⟩ = some (.int .i64 m.most) := blk_cell hbox 10; have uf10 : w5.frozen? ⟨g, 10, none⟩ = false := blk_frozen hbox 10; have u11 : w5.cell? ⟨g, 11, none⟩ = some (.slice B m.L.length d) := blk_cell hbox 11; have uf11 : w5.frozen? ⟨g, 11, none⟩ = false := blk_frozen hbox 11; clear hbox hb hgn) | (go_at_call 25; (with_reducible refine (msg_letters.calls m.k S _ HS.out).mono ?_); rintro er w12 ⟨rfl, hdr⟩; obtain ⟨nd, rfl⟩ := hdr) | (go_at_call 31; (with_reducible refine (HTP.out _ (pw_below_drewN HB5.out nd)).mono ?_); rintro er w13 ⟨rfl, hb⟩; have HB13 := Aside0.mk hb; have HG13 := Aside0.mk (blk_below (blk_drewN HG.out nd) hb); have ul13 : w13.cell? ⟨g, 11, none⟩ = some (.slice B m.L.length d) := blk_cell HG13.out 11; clear hb) | (go_at_call 31; (with_reducible refine (HTL.out _ (below_step (pw_below_drewN HB5.out nd) HB13.out)).mono ?_); rintro er w14 ⟨rfl, hb⟩; have HB14 := Aside0.mk hb; have HG14 := Aside0.mk (blk_below HG13.out hb); have ul14 : w14.cell? ⟨g, 11, none⟩ = some (.slice B m.L.length d) := blk_cell HG14.out 11; clear hb))
    go_ret
    exact ⟨rfl, by first | exact pw_below_drewN HB5.out nd | exact below_step (below_step (pw_below_drewN HB5.out nd) HB13.out) HB14.out | exact below_step (pw_below_drewN HB5.out nd) HB13.out⟩
  have q6 : tokV m.L = true := by simpa using hL
  have hmay : mayV m = lackV m := by unfold mayV; rw [hE, q1, q2, q3, q4, q5, q6]; rfl
  rw [hmay]
  obtain ⟨lk, hlk⟩ : ∃ b, lackV m = b := ⟨_, rfl⟩
  have HLK := Aside0.mk hlk
  rw [hlk]
  clear hlk
  have kb := fun W => print_bytes (P := Try.prog) 9 22 5 Try.underlying9 Try.underlying22 Try.underlying5 S W
  have kc := fun (w : World) (C : Array Value) (n c : Nat) => Lib.run_convert_bytes_const (P := Try.prog) w 22 5 C n c Try.underlying22 Try.underlying5
  clear hmay hE hW0 hW1 hM0 hM1 hP hL
  go_enter Try.func12, Try.ntmps12
  go_wp2_with (first | ((with_reducible refine gate_dst (N := 1) rfl ?_); refine box_event ?hg (N := 1) ?hd (cs := #[.int .i64 m.k, .int .u64 m.s, .int .u64 m.se, .int .u64 m.a, .int .u64 m.i, .int .u64 m.n, .int .u64 m.c, .int .i64 m.why, .int .u64 m.seed, .slice A m.P.length c, .int .i64 m.most, .slice B m.L.length d]) (t := 29) ?hr ?_; (case hd => rfl); (case hg => rfl); (case hr => first | (go_simp; done) | (go_simp; rfl)); intro g hgn w5 hbox hb; have HG := Aside0.mk hbox; have HB5 := Aside0.mk hb; have HGN := Aside0.mk hgn; have u0 : w5.cell? ⟨g, 0, none⟩ = some (.int .i64 m.k) := blk_cell hbox 0; have uf0 : w5.frozen? ⟨g, 0, none⟩ = false := blk_frozen hbox 0; have u1 : w5.cell? ⟨g, 1, none⟩ = some (.int .u64 m.s) := blk_cell hbox 1; have uf1 : w5.frozen? ⟨g, 1, none⟩ = false := blk_frozen hbox 1; have u2 : w5.cell? ⟨g, 2, none⟩ = some (.int .u64 m.se) := blk_cell hbox 2; have uf2 : w5.frozen? ⟨g, 2, none⟩ = false := blk_frozen hbox 2; have u3 : w5.cell? ⟨g, 3, none⟩ = some (.int .u64 m.a) := blk_cell hbox 3; have uf3 : w5.frozen? ⟨g, 3, none⟩ = false := blk_frozen hbox 3; have u4 : w5.cell? ⟨g, 4, none⟩ = some (.int .u64 m.i) := blk_cell hbox 4; have uf4 : w5.frozen? ⟨g, 4, none⟩ = false := blk_frozen hbox 4; have u5 : w5.cell? ⟨g, 5, none⟩ = some (.int .u64 m.n) := blk_cell hbox 5; have uf5 : w5.frozen? ⟨g, 5, none⟩ = false := blk_frozen hbox 5; have u6 : w5.cell? ⟨g, 6, none⟩ = some (.int .u64 m.c) := blk_cell hbox 6; have uf6 : w5.frozen? ⟨g, 6, none⟩ = false := blk_frozen hbox 6; have u7 : w5.cell? ⟨g, 7, none⟩ = some (.int .i64 m.why) := blk_cell hbox 7; have uf7 : w5.frozen? ⟨g, 7, none⟩ = false := blk_frozen hbox 7; have u8 : w5.cell? ⟨g, 8, none⟩ = some (.int .u64 m.seed) := blk_cell hbox 8; have uf8 : w5.frozen? ⟨g, 8, none⟩ = false := blk_frozen hbox 8; have u9 : w5.cell? ⟨g, 9, none⟩ = some (.slice A m.P.length c) := blk_cell hbox 9; have uf9 : w5.frozen? ⟨g, 9, none⟩ = false := blk_frozen hbox 9; have u10 : w5.cell? ⟨g, 10, none⟩ = some (.int .i64 m.most) := blk_cell hbox 10; have uf10 : w5.frozen? ⟨g, 10, none⟩ = false := blk_frozen hbox 10; have u11 : w5.cell? ⟨g, 11, none⟩ = some (.slice B m.L.length d) := blk_cell hbox 11; have uf11 : w5.frozen? ⟨g, 11, none⟩ = false := blk_frozen hbox 11; clear hbox hb hgn) | (go_at_call 25; (with_reducible refine (msg_letters.calls m.k S _ HS.out).mono ?_); rintro er w12 ⟨rfl, hdr⟩; obtain ⟨nd, rfl⟩ := hdr) | (go_at_call 31; (with_reducible refine (HTP.out _ (pw_below_drewN HB5.out nd)).mono ?_); rintro er w13 ⟨rfl, hb⟩; have HB13 := Aside0.mk hb; have HG13 := Aside0.mk (blk_below (blk_drewN HG.out nd) hb); have ul13 : w13.cell? ⟨g, 11, none⟩ = some (.slice B m.L.length d) := blk_cell HG13.out 11; clear hb) | (go_at_call 31; (with_reducible refine (HTL.out _ (below_step (pw_below_drewN HB5.out nd) HB13.out)).mono ?_); rintro er w14 ⟨rfl, hb⟩; have HB14 := Aside0.mk hb; have HG14 := Aside0.mk (blk_below HG13.out hb); have ul14 : w14.cell? ⟨g, 11, none⟩ = some (.slice B m.L.length d) := blk_cell HG14.out 11; clear hb))
  clear u0 uf0 u1 uf1 u2 uf2 u3 uf3 u4 uf4 u5 uf5 u6 uf6 u7 uf7 u8 uf8 u9 uf9 u10 uf10 u11 uf11 ul13 ul14
  have hbl : Below w.heap.size w (w14.alloc (Obj.cells #[.int .u8 115, .int .u8 101, .int .u8 97, .int .u8 105, .int .u8 110, .int .u8 99, .int .u8 119, .int .u8 106, .int .u8 108] 5 (9, 10))) := below_alloc (below_step (below_step (pw_below_drewN HB5.out nd) HB13.out) HB14.out) _
  have hg9 := blk_alloc HG14.out (Obj.cells #[.int .u8 115, .int .u8 101, .int .u8 97, .int .u8 105, .int .u8 110, .int .u8 99, .int .u8 119, .int .u8 106, .int .u8 108] 5 (9, 10))
  have hcl : ∀ i ch, ([115, 101, 97, 105, 110, 99, 119, 106, 108] : List Int)[i]? = some ch → (w14.alloc (Obj.cells #[.int .u8 115, .int .u8 101, .int .u8 97, .int .u8 105, .int .u8 110, .int .u8 99, .int .u8 119, .int .u8 106, .int .u8 108] 5 (9, 10))).cell? ⟨w14.heap.size, i, none⟩ = some (.int .u8 ch) := fun i ch h => by
    rw [World.cell?_alloc_mark]
    have e : (#[.int .u8 115, .int .u8 101, .int .u8 97, .int .u8 105, .int .u8 110, .int .u8 99, .int .u8 119, .int .u8 106, .int .u8 108] : Array Value)[i]? = (([115, 101, 97, 105, 110, 99, 119, 106, 108] : List Int)[i]?).map (Value.int .u8) := by
      rw [show (#[.int .u8 115, .int .u8 101, .int .u8 97, .int .u8 105, .int .u8 110, .int .u8 99, .int .u8 119, .int .u8 106, .int .u8 108] : Array Value) = (([115, 101, 97, 105, 110, 99, 119, 106, 108] : List Int).map (Value.int .u8)).toArray from rfl, List.getElem?_toArray, List.getElem?_map]
    rw [e, h]; rfl
  obtain ⟨gl, hgl⟩ : ∃ gl, w14.heap.size = gl := ⟨_, rfl⟩
  obtain ⟨wl, hwl⟩ : ∃ wl, w14.alloc (Obj.cells #[.int .u8 115, .int .u8 101, .int .u8 97, .int .u8 105, .int .u8 110, .int .u8 99, .int .u8 119, .int .u8 106, .int .u8 108] 5 (9, 10)) = wl := ⟨_, rfl⟩
  rw [hgl] at hcl
  rw [hwl] at hcl hg9 hbl
  rw [hgl, hwl]
  have HCL := Aside0.mk hcl; have HG9 := Aside0.mk hg9; have HBL := Aside0.mk hbl
  clear hcl hg9 hbl hgl hwl
  go_loopw [49] (fun vi wr => ∃ (i : Nat), vi = .int .i64 i ∧ Aside0 (i ≤ 9) ∧ Aside0 ((([115, 101, 97, 105, 110, 99, 119, 106, 108] : List Int).drop i).all (fun c => (lettersV m.k).contains c || bareV m c) = lk) ∧ Aside0 (Below wl.heap.size wl wr)) (fun vi _ => (9 - intOf vi).toNat)
  case atStart => exact ⟨0, rfl, ⟨by decide⟩, ⟨by rw [List.drop_zero]; exact HLK.out⟩, ⟨Below.refl _ _⟩⟩
  case round =>
    obtain ⟨i, rfl, HI, HA, HW⟩ := hrel
    have l1 := HI.out
    by_cases hlt : i < 9
    · have d3 : decide ((i : Int) < 9) = true := decide_eq_true (by omega)
      have d3' : decide (i < 9) = true := decide_eq_true hlt
      obtain ⟨ch, hc⟩ : ∃ c, ([115, 101, 97, 105, 110, 99, 119, 106, 108] : List Int)[i]? = some c := ⟨_, List.getElem?_eq_getElem (by exact hlt)⟩
      have hmem := List.mem_of_getElem? hc
      have kcc : wr.cell? ⟨gl, i, none⟩ = some (.int .u8 ch) := pw_cell_below HW.out (HCL.out i ch hc)
      have hdr : ([115, 101, 97, 105, 110, 99, 119, 106, 108] : List Int).drop i = ch :: ([115, 101, 97, 105, 110, 99, 119, 106, 108] : List Int).drop (i + 1) := by
        obtain ⟨hi, e⟩ := List.getElem?_eq_some_iff.1 hc
        rw [List.drop_eq_getElem_cons hi, e]
      have ha := HA.out
      rw [hdr, List.all_cons] at ha
      have hsz : S.size ≤ 4 := by rw [HSN.out]; exact letters_len m.k
      have HCT := Aside0.mk (show Calls Try.prog 32 #[.slice (some ⟨wr.heap.size, 0, none⟩) S.size (grownCap wr S.size 0 5), .int .u8 ch] (Lib.bytesWorld wr 5 S) fun e w' => e = .returned (.bool ((lettersV m.k).contains ch)) ∧ Drawn0 (Lib.bytesWorld wr 5 S) w' from by
        have hby := bytes_reads wr 5 S (by omega)
        rw [HSB.out] at hby
        have q := slices_Contains_byte_byte.calls 12 (some ⟨wr.heap.size, 0, none⟩) (grownCap wr S.size 0 5) (lettersV m.k) ch _ (Lib.bytesWorld wr 5 S) (by rw [← HSN.out]; exact Kd.C_of_reads (enc := Value.int .u8) (d := (0 : Int)) (h1 := fun _ => rfl) hby) (by rw [← HSN.out]; exact grownCap_ge _ _ _ _) (contains_k m.k ch hmem)
        rw [← HSN.out] at q
        exact q)
      have HBB := Aside0.mk (show Below wr.heap.size wr (Lib.bytesWorld wr 5 S) from bytes_below (Below.refl _ _) (Nat.le_refl _) 5 S)
      clear hc hdr
      obtain ⟨bc, hbc⟩ : ∃ b, (lettersV m.k).contains ch = b := ⟨_, rfl⟩
      rw [hbc] at HCT ha
      clear hbc
      by_cases hct : bc = true
      · subst hct
        rw [Bool.true_or, Bool.true_and] at ha
        have HA2 := Aside0.mk ha
        clear ha hmem
        go_wp2_with (first | (go_at_call 32; (with_reducible refine HCT.out.mono ?_); rintro er w16 ⟨rfl, hdr⟩; obtain ⟨nd2, rfl⟩ := hdr) | go_in)
        go_roundw
        case rel => exact ⟨i + 1, by go_num, ⟨by omega⟩, HA2, ⟨pw_below_drewN (below_step HW.out HBB.out) nd2⟩⟩
        case measure => simp [intOf]; omega
      obtain rfl : bc = false := by simpa using hct
      rw [Bool.false_or] at ha
      clear hct
      have HBR := Aside0.mk (fun W (hw : Below wl.heap.size wl W) => bare_c W g m A B c d (blk_below HG9.out hw) ch (nine_isL ch hmem))
      obtain ⟨br, hbr⟩ : ∃ b, bareV m ch = b := ⟨_, rfl⟩
      rw [hbr] at HBR ha
      clear hbr
      by_cases hbr : br = true
      · subst hbr
        rw [Bool.true_and] at ha
        have HA2 := Aside0.mk ha
        clear ha hmem
        go_wp2_with (first | (go_at_call 32; (with_reducible refine HCT.out.mono ?_); rintro er w16 ⟨rfl, hdr⟩; obtain ⟨nd2, rfl⟩ := hdr) | (go_at_call 33; (with_reducible refine (HBR.out _ (pw_below_drewN (below_step HW.out HBB.out) nd2)).mono ?_); rintro er w17 ⟨rfl, rfl⟩) | go_in)
        go_roundw
        case rel => exact ⟨i + 1, by go_num, ⟨by omega⟩, HA2, ⟨pw_below_drewN (below_step HW.out HBB.out) nd2⟩⟩
        case measure => simp [intOf]; omega
      obtain rfl : br = false := by simpa using hbr
      rw [Bool.false_and] at ha
      clear hbr
      have HA2 := Aside0.mk ha
      clear ha hmem
      go_wp2_with (first | (go_at_call 32; (with_reducible refine HCT.out.mono ?_); rintro er w16 ⟨rfl, hdr⟩; obtain ⟨nd2, rfl⟩ := hdr) | (go_at_call 33; (with_reducible refine (HBR.out _ (pw_below_drewN (below_step HW.out HBB.out) nd2)).mono ?_); rintro er w17 ⟨rfl, rfl⟩))
      go_ret
      have ha := HA2.out
      subst ha
      exact ⟨rfl, below_step HBL.out (pw_below_drewN (below_step HW.out HBB.out) nd2)⟩
    · obtain rfl : i = 9 := by omega
      have ha : true = lk := HA.out
      have HA2 := Aside0.mk ha
      clear ha
      go_wp2_with fail
      go_ret
      have ha := HA2.out
      subst ha
      exact ⟨rfl, below_step HBL.out HW.out⟩
end Go.Proofs.Ytbfmbjkalldonaa.Msg
namespace Go.Proofs.Ytbfmbjkalldonaa.Msg
set_option linter.unusedVariables false
set_option linter.unusedSimpArgs false
open Go.RowKit Go.Proofs.Ytbfmbjkalldonaa.PA Go.Proofs.YtbfmbjkalldonaaW.PrintWords Go.Proofs.YtbfmbjkalldonaaW.PrintLast Go.Proofs.YtbfmbjkalldonaaW.PrintMore Go.Proofs.Ytbfmbjkalldonaa.Base Go.Proofs.Ytbfmbjkalldonaa.Var Go.Proofs.Ytbfmbjkalldonaa.Lst
/-! ### the iterator -/
def itTo (W : World) (it : Nat) (S : ByteArray) (pos : Nat) : World := { W with heap := W.heap.setIfInBounds it (.stringIter S pos) }
theorem next_run (W : World) (it : Nat) (S : ByteArray) (pos : Nat) (ty : TypeId) (h : W.heap[it]? = some (.stringIter S pos)) (hp : pos < S.size) (ha : (S[pos]'hp).toNat < 128) :
    (Instr.next (.pointer (some ⟨it, 0, none⟩)) true ty).run Try.prog W = .ok (.tuple #[.bool true, .int .i64 pos, .int .i32 (S[pos]'hp).toNat]) (itTo W it S (pos + 1)) := by
  simp only [Instr.next, getObj, setObj, Sem.run_bind, Sem.run, h, Result.andThen, hp, if_true, decode_ascii S pos hp ha]
  simp [goInt, Sem.run, h, itTo]
theorem next_end (W : World) (it : Nat) (S : ByteArray) (pos : Nat) (ty : TypeId) (h : W.heap[it]? = some (.stringIter S pos)) (hp : ¬ pos < S.size) :
    (Instr.next (.pointer (some ⟨it, 0, none⟩)) true ty).run Try.prog W = .ok (.tuple #[.bool false]) W := by
  simp [Instr.next, getObj, Sem.run, h, hp]
theorem itTo_at (W : World) (it : Nat) (S : ByteArray) (pos : Nat) (h : it < W.heap.size) : (itTo W it S pos).heap[it]? = some (.stringIter S pos) := by
  unfold itTo
  simp [h]
theorem itTo_kept (W : World) (it : Nat) (S : ByteArray) (pos : Nat) : Kept W (itTo W it S pos) (fun i => i = it) := by
  refine ⟨by unfold itTo; simp, fun i hi hn => ?_⟩
  unfold itTo
  simp only
  rw [Array.getElem?_setIfInBounds]
  rw [if_neg (fun e => hn e.symm)]
theorem itTo_below {w W : World} {it : Nat} (h : Below w.heap.size w W) (hg : w.heap.size ≤ it) (S : ByteArray) (pos : Nat) : Below w.heap.size w (itTo W it S pos) :=
  ⟨h.os, h.tape, h.output, by unfold itTo; simpa using h.size, fun i hi => by
    have := (itTo_kept W it S pos).2 i (Nat.lt_of_lt_of_le hi h.size) (fun e => by omega)
    exact this.trans (h.block i hi)⟩
theorem byte_at {S : ByteArray} {cs : List Int} (hb : bytesOf S = cs) {i : Nat} {c : Int} (hc : cs[i]? = some c) (hi : i < S.size) : (((S[i]'hi).toNat : Nat) : Int) = c := by
  subst hb
  have h' : i < S.data.toList.length := by rw [data_length]; exact hi
  unfold bytesOf at hc
  rw [List.getElem?_map, List.getElem?_eq_getElem h'] at hc
  have := Option.some.inj hc
  rw [← this]
  rfl
/-! ### what is laid -/
structure Ms.U (m : Ms) : Prop where
  s : 0 ≤ m.s ∧ m.s ≤ top
  se : 0 ≤ m.se ∧ m.se ≤ top
  a : 0 ≤ m.a ∧ m.a ≤ top
  i : 0 ≤ m.i ∧ m.i ≤ top
  n : 0 ≤ m.n ∧ m.n ≤ top
  c : 0 ≤ m.c ∧ m.c ≤ top
  seed : 0 ≤ m.seed ∧ m.seed ≤ top
theorem Ms.In.u {m : Ms} (h : m.In) : m.U := ⟨h.s, h.se, h.a, h.i, h.n, h.c, h.seed⟩
def wordsV (m : Ms) (c : Int) : List Int := if c = 119 then [m.why] else if c = 106 then m.seed :: m.most :: (m.P.length : Int) :: m.P else if c = 108 then (m.L.length : Int) :: m.L else [getV m c]
def loadV (m : Ms) : List Int := flat (m.k :: (lettersV m.k).flatMap (wordsV m))
def loadR (m : Ms) : List Int × Int := if mayV m = true then (loadV m, 0) else ([], 1)
theorem tok_of {l : List Int} (h : tokV l = true) : l.length ≤ 256 ∧ ∀ x ∈ l, 0 ≤ x ∧ x < 64 := by
  unfold tokV at h
  rw [Bool.and_eq_true] at h
  refine ⟨of_decide_eq_true h.1, fun x hx => ?_⟩
  have h2 := h.2
  rw [Bool.not_eq_true', List.any_eq_false] at h2
  have := h2 x hx
  unfold badV at this
  rw [Bool.or_eq_true] at this
  have h3 : ¬ x < 0 := fun e => this (.inl (decide_eq_true e))
  have h4 : ¬ 64 ≤ x := fun e => this (.inr (decide_eq_true e))
  omega
structure May (m : Ms) : Prop where
  k : 1 ≤ m.k ∧ m.k ≤ 12
  why : 0 ≤ m.why ∧ m.why ≤ 255
  most : 0 ≤ m.most ∧ m.most ≤ 256
  P : m.P.length ≤ 256 ∧ ∀ x ∈ m.P, 0 ≤ x ∧ x < 64
  L : m.L.length ≤ 256 ∧ ∀ x ∈ m.L, 0 ≤ x ∧ x < 64
  lack : lackV m = true
theorem may_of {m : Ms} (h : mayV m = true) : May m := by
  unfold mayV at h
  simp only [Bool.and_eq_true, Bool.not_eq_true', decide_eq_false_iff_not] at h
  obtain ⟨⟨⟨⟨⟨⟨⟨h1, h2⟩, h3⟩, h4⟩, h5⟩, h6⟩, h7⟩, h8⟩ := h
  refine ⟨?_, by omega, by omega, tok_of h6, tok_of h7, h8⟩
  by_cases hk : 1 ≤ m.k ∧ m.k ≤ 12
  · exact hk
  · have e0 : lettersV m.k = [] := by
      unfold lettersV
      repeat rw [if_neg (by omega)]
    rw [e0] at h1
    cases h1
theorem wf64 {x : Int} (h : 0 ≤ x ∧ x ≤ top) : (Lit.int .u64 x).wf = true := by
  unfold top at h
  simp [Lit.wf, IntKind.min, IntKind.max, IntKind.bits, IntKind.signed]; omega
theorem words_wf {m : Ms} (hu : m.U) (hm : May m) (c : Int) : (∀ x ∈ wordsV m c, (Lit.int .u64 x).wf = true) ∧ (wordsV m c).length ≤ 260 := by
  have hP := hm.P; have hL := hm.L; have h1 := hm.why; have h2 := hm.most
  unfold wordsV
  split
  · exact ⟨fun x hx => by simp only [List.mem_singleton] at hx; subst hx; exact wf64 ⟨h1.1, by unfold top; omega⟩, by simp⟩
  split
  · refine ⟨fun x hx => ?_, by simp only [List.length_cons]; omega⟩
    simp only [List.mem_cons] at hx
    rcases hx with rfl | rfl | rfl | hx
    · exact wf64 hu.seed
    · exact wf64 ⟨h2.1, by unfold top; omega⟩
    · exact wf64 ⟨by omega, by unfold top; omega⟩
    · exact wf64 ⟨(hP.2 x hx).1, by have := (hP.2 x hx).2; unfold top; omega⟩
  split
  · refine ⟨fun x hx => ?_, by simp only [List.length_cons]; omega⟩
    simp only [List.mem_cons] at hx
    rcases hx with rfl | hx
    · exact wf64 ⟨by omega, by unfold top; omega⟩
    · exact wf64 ⟨(hL.2 x hx).1, by have := (hL.2 x hx).2; unfold top; omega⟩
  · refine ⟨fun x hx => ?_, by simp⟩
    simp only [List.mem_singleton] at hx
    subst hx
    unfold getV
    split; · exact wf64 hu.s
    split; · exact wf64 hu.se
    split; · exact wf64 hu.a
    split; · exact wf64 hu.i
    split; · exact wf64 hu.n
    exact wf64 hu.c
theorem all_wf {m : Ms} (hu : m.U) (hm : May m) (cs : List Int) (hcs : cs.length ≤ 4) : (∀ x ∈ m.k :: cs.flatMap (wordsV m), (Lit.int .u64 x).wf = true) ∧ (m.k :: cs.flatMap (wordsV m)).length ≤ 1041 := by
  constructor
  · intro x hx
    rcases List.mem_cons.1 hx with rfl | hx
    · exact wf64 ⟨by have := hm.k; omega, by have := hm.k; unfold top; omega⟩
    · obtain ⟨c, _, hx⟩ := List.mem_flatMap.1 hx
      exact (words_wf hu hm c).1 x hx
  · have key : ∀ cs : List Int, (cs.flatMap (wordsV m)).length ≤ 260 * cs.length := by
      intro cs
      induction cs with
      | nil => simp
      | cons c cs ih =>
        rw [List.flatMap_cons, List.length_append, List.length_cons]
        have := (words_wf hu hm c).2
        omega
    rw [List.length_cons]
    have := key cs
    omega
theorem load_len {m : Ms} (hu : m.U) (hm : May m) : (loadV m).length ≤ 20000 := by
  obtain ⟨h1, h2⟩ := all_wf hu hm (lettersV m.k) (letters_len m.k)
  have := flat_len _ h1
  unfold loadV
  omega
theorem flat_app (l r : List Int) : flat (l ++ r) = flat l ++ flat r := by unfold flat; exact List.flatMap_append
/-! ### how it is laid -/
theorem puts_loop (l : List Int) (hl : l.length ≤ 256) (hx : ∀ x ∈ l, 0 ≤ x ∧ x < 64) : ∀ (t : List Int) (i : Nat) (b : List Int), i ≤ l.length → l.drop i = t → b.length + 10 * t.length ≤ 1000000 → Ev (fun k => msg_puts.l0 k b l (l.length : Int) (i : Int)) (b ++ flat t)
  | [], i, b, hi, h, _ => by
    have := drop_end hi h
    refine Ev.step (f := fun _ => some b) (fun q => by rw [msg_puts.l0, if_neg (by omega)]) (ev_eq (Ev.now _) ?_)
    simp [flat]
  | c :: t, i, b, hi, h, hb => by
    obtain ⟨hr, hlt, hd⟩ := rd_drop h
    have e1 : wrap64 ((i : Int) + 1) = ((i + 1 : Nat) : Int) := by rw [w64 (by omega) (by omega)]; omega
    have hc := hx c (List.mem_of_mem_drop (by rw [h]; exact List.mem_cons_self))
    have e2 : IntKind.u64.wrap c = c := wu64 (by omega) (by omega)
    have hwf : ∀ x ∈ [c], (Lit.int .u64 x).wf = true := fun x hx' => by simp only [List.mem_singleton] at hx'; subst hx'; exact wf64 ⟨hc.1, by unfold top; omega⟩
    rw [List.length_cons] at hb
    have hfl := flat_len [c] hwf
    rw [List.length_singleton] at hfl
    have hput := put_ev b [c] (by omega) (by simp) hwf
    refine Ev.step (f := fun k => (varint_Put.f k b [c]).bind fun t131 => msg_puts.l0 k t131 l (l.length : Int) ((i + 1 : Nat) : Int)) (fun q => ?_) (Ev.bind hput (ev_eq (puts_loop l hl hx t (i + 1) (b ++ flat [c]) (by omega) hd (by rw [List.length_append]; omega)) ?_))
    · rw [msg_puts.l0, if_pos (by omega), if_pos (by omega), if_pos (by omega), hr, e2, e1]
    · rw [List.append_assoc, ← flat_app]; rfl
theorem puts_ev (l b : List Int) (hl : l.length ≤ 256) (hx : ∀ x ∈ l, 0 ≤ x ∧ x < 64) (hb : b.length ≤ 100000) : Ev (fun k => msg_puts.f k b l) (b ++ flat ((l.length : Int) :: l)) := by
  unfold msg_puts.f
  have e2 : IntKind.u64.wrap (l.length : Int) = (l.length : Int) := wu64 (by omega) (by omega)
  have hwf : ∀ x ∈ [(l.length : Int)], (Lit.int .u64 x).wf = true := fun x hx' => by simp only [List.mem_singleton] at hx'; subst hx'; exact wf64 ⟨by omega, by unfold top; omega⟩
  have hfl := flat_len _ hwf
  rw [List.length_singleton] at hfl
  rw [e2]
  refine Ev.bind (put_ev b [(l.length : Int)] (by omega) (by simp) hwf) (ev_eq (puts_loop l hl hx l 0 _ (Nat.zero_le _) rfl (by rw [List.length_append]; omega)) ?_)
  rw [List.append_assoc, ← flat_app]; rfl
/-! ### at the machine -/
def encB : En Int := ⟨fun x => [.int .u8 x], 1, fun _ => rfl, fun x u hu => by simp at hu; subst hu; rfl, by decide⟩
theorem flat_u8 (xs : List Int) : xs.flatMap encB.enc = encs (Value.int .u8) xs := by
  induction xs with
  | nil => rfl
  | cons x xs ih => rw [List.flatMap_cons, ih]; rfl
theorem ls_of {w : World} {v : Value} {base : Nat} {xs : List Int} (h : Kd.R (Kd.int .u8) 5 w base (fun _ => True) v xs) : Ls encB 5 w base v xs := by
  have := Kd.own_of_R h
  unfold Ls
  rw [flat_u8]
  exact this
theorem C_of_ls {W : World} {b0 : Nat} {A : Option Addr} {n c : Nat} {xs : List Int} (h : Ls encB 5 W b0 (.slice A n c) xs) : n = xs.length ∧ xs.length ≤ c ∧ Kd.C (Kd.int .u8) W A xs.length xs := by
  obtain ⟨A', c', e, hc, _⟩ := h.form
  injection e with e1 e2 e3
  subst e1 e2 e3
  unfold Ls at h
  rw [flat_u8] at h
  exact ⟨rfl, hc, Kd.C_of_reads (own_reads_of' (d := (0 : Int)) h)⟩
theorem flat_i64 (xs : List Int) : xs.flatMap encI.enc = encs (Value.int .i64) xs := by
  induction xs with
  | nil => rfl
  | cons x xs ih => rw [List.flatMap_cons, ih]; rfl
theorem C_of_li {W : World} {b0 : Nat} {A : Option Addr} {n c : Nat} {xs : List Int} (h : Ls encI 3 W b0 (.slice A n c) xs) : n = xs.length ∧ xs.length ≤ c ∧ Kd.C (Kd.int .i64) W A xs.length xs := by
  obtain ⟨A', c', e, hc, _⟩ := h.form
  injection e with e1 e2 e3
  subst e1 e2 e3
  unfold Ls at h
  rw [flat_i64] at h
  exact ⟨rfl, hc, Kd.C_of_reads (own_reads_of' (d := (0 : Int)) h)⟩
/-- the bytes so far, and how they lie -/
def Out (W : World) (b0 : Nat) (v : Value) (xs : List Int) : Prop := Ls encB 5 W b0 v xs
theorem put_c (W : World) (b0 : Nat) (A : Option Addr) (c : Nat) (xs ys : List Int) (h : Ls encB 5 W b0 (.slice A xs.length c) xs) (hb : xs.length ≤ 100000) (hy : ys.length ≤ 1000) (hw : ∀ x ∈ ys, (Lit.int .u64 x).wf = true) :
    Calls Try.prog 29 #[.slice A xs.length c, .slice (some ⟨W.heap.size, 0, none⟩) ys.length ys.length] (W.alloc (.cells (ys.map (Value.int .u64)).toArray 24)) fun e w' => ∃ A' c', e = .returned (.slice A' (xs ++ flat ys).length c') ∧ Ls encB 5 w' W.heap.size (.slice A' (xs ++ flat ys).length c') (xs ++ flat ys) ∧ Below W.heap.size W w' := by
  obtain ⟨K, hK⟩ := put_ev xs ys (by omega) (by omega) hw
  have hba : Below W.heap.size W (W.alloc (.cells (ys.map (Value.int .u64)).toArray 24)) := below_alloc (Below.refl _ _) _
  obtain ⟨_, hc, hC⟩ := C_of_ls h
  have hY : Kd.C (Kd.int .u64) (W.alloc (.cells (ys.map (Value.int .u64)).toArray 24)) (some ⟨W.heap.size, 0, none⟩) ys.length ys := by
    refine Kd.C_of_reads (enc := Value.int .u64) (d := (0 : Int)) (h1 := fun _ => rfl) ⟨rfl, by omega, fun h0 => ⟨_, rfl, fun j hj => ?_⟩⟩
    rw [add_plain, blk_cell (blk_new W _)]
    rw [List.getElem?_toArray, List.getElem?_map, List.getD_eq_getElem?_getD, List.getElem?_eq_getElem hj]; rfl
  refine (varint_Put.calls K A c xs (some ⟨W.heap.size, 0, none⟩) ys.length ys _ _ (Kd.C_below hC hba) hc hY (Nat.le_refl _) (hK K (Nat.le_refl _))).mono ?_
  rintro e w' ⟨v, rfl, hR, hbl⟩
  have hl := ls_of hR
  obtain ⟨A', c', rfl, _, _⟩ := hl.form
  exact ⟨A', c', rfl, hl.lower hba.size, below_step hba hbl⟩
theorem puts_c (W : World) (b0 : Nat) (A B : Option Addr) (c d : Nat) (xs ys : List Int) (h : Ls encB 5 W b0 (.slice A xs.length c) xs) (hb : xs.length ≤ 100000) (hC2 : Kd.C (Kd.int .i64) W B ys.length ys) (hd : ys.length ≤ d) (hy : ys.length ≤ 256) (hx : ∀ x ∈ ys, 0 ≤ x ∧ x < 64) :
    Calls Try.prog 30 #[.slice A xs.length c, .slice B ys.length d] W fun e w' => ∃ A' c', e = .returned (.slice A' (xs ++ flat ((ys.length : Int) :: ys)).length c') ∧ Ls encB 5 w' W.heap.size (.slice A' (xs ++ flat ((ys.length : Int) :: ys)).length c') (xs ++ flat ((ys.length : Int) :: ys)) ∧ Below W.heap.size W w' := by
  obtain ⟨K, hK⟩ := puts_ev ys xs hy hx (by omega)
  obtain ⟨_, hc, hC⟩ := C_of_ls h
  refine (msg_puts.calls K A c xs B d ys _ W hC hc hC2 hd (hK K (Nat.le_refl _))).mono ?_
  rintro e w' ⟨v, rfl, hR, hbl⟩
  have hl := ls_of hR
  obtain ⟨A', c', rfl, _, _⟩ := hl.form
  exact ⟨A', c', rfl, hl, hbl⟩
end Go.Proofs.Ytbfmbjkalldonaa.Msg
namespace Go.Proofs.Ytbfmbjkalldonaa.Msg
set_option linter.unusedVariables false
set_option linter.unusedSimpArgs false
open Go.RowKit Go.Proofs.Ytbfmbjkalldonaa.PA Go.Proofs.YtbfmbjkalldonaaW.PrintWords Go.Proofs.YtbfmbjkalldonaaW.PrintLast Go.Proofs.YtbfmbjkalldonaaW.PrintMore Go.Proofs.Ytbfmbjkalldonaa.Base Go.Proofs.Ytbfmbjkalldonaa.Var Go.Proofs.Ytbfmbjkalldonaa.Lst
attribute [local go_sem] max2_int min2_int max_two min_two max_three min_three max_four min_four
theorem put1_c (W : World) (b0 : Nat) (A : Option Addr) (c : Nat) (xs : List Int) (x : Int) (h : Ls encB 5 W b0 (.slice A xs.length c) xs) (hb : xs.length ≤ 100000) (hw : 0 ≤ x ∧ x ≤ top) :
    Calls Try.prog 29 #[.slice A xs.length c, .slice (some ⟨W.heap.size, 0, none⟩) 1 1] (W.alloc (.cells #[.int .u64 x] 24)) fun e w' => ∃ A' c', e = .returned (.slice A' (xs ++ flat [x]).length c') ∧ Ls encB 5 w' W.heap.size (.slice A' (xs ++ flat [x]).length c') (xs ++ flat [x]) ∧ Below W.heap.size W w' :=
  put_c W b0 A c xs [x] h hb (by simp) (fun y hy => by simp only [List.mem_singleton] at hy; subst hy; exact wf64 hw)
theorem put2_c (W : World) (b0 : Nat) (A : Option Addr) (c : Nat) (xs : List Int) (x y : Int) (h : Ls encB 5 W b0 (.slice A xs.length c) xs) (hb : xs.length ≤ 100000) (hw : 0 ≤ x ∧ x ≤ top) (hw2 : 0 ≤ y ∧ y ≤ top) :
    Calls Try.prog 29 #[.slice A xs.length c, .slice (some ⟨W.heap.size, 0, none⟩) 2 2] (W.alloc (.cells #[.int .u64 x, .int .u64 y] 24)) fun e w' => ∃ A' c', e = .returned (.slice A' (xs ++ flat [x, y]).length c') ∧ Ls encB 5 w' W.heap.size (.slice A' (xs ++ flat [x, y]).length c') (xs ++ flat [x, y]) ∧ Below W.heap.size W w' :=
  put_c W b0 A c xs [x, y] h hb (by simp) (fun z hz => by simp only [List.mem_cons, List.not_mem_nil, or_false] at hz; rcases hz with rfl | rfl <;> first | exact wf64 hw | exact wf64 hw2)
theorem get_wf {m : Ms} (hu : m.U) (c : Int) : 0 ≤ getV m c ∧ getV m c ≤ top := by
  unfold getV
  split; · exact hu.s
  split; · exact hu.se
  split; · exact hu.a
  split; · exact hu.i
  split; · exact hu.n
  exact hu.c
set_option maxHeartbeats 16000000 in
set_option maxRecDepth 100000 in
theorem load_c (w : World) (m : Ms) (hU : m.U) (A B : Option Addr) (c d : Nat) (hlP : m.P.length ≤ 1000000) (hlL : m.L.length ≤ 1000000) (hcP : m.P.length ≤ c) (hcL : m.L.length ≤ d) (hP : Kd.C (Kd.int .i64) w A m.P.length m.P) (hL : Kd.C (Kd.int .i64) w B m.L.length m.L) :
    Calls Try.prog 11 #[.agg #[.int .i64 m.k, .int .u64 m.s, .int .u64 m.se, .int .u64 m.a, .int .u64 m.i, .int .u64 m.n, .int .u64 m.c, .int .i64 m.why, .int .u64 m.seed, .slice A m.P.length c, .int .i64 m.most, .slice B m.L.length d]] w fun er w' => ∃ v, er = .returned (.tuple #[v, .int .i64 (loadR m).2]) ∧ Ls encB 5 w' w.heap.size v (loadR m).1 ∧ Below w.heap.size w w' := by
  have hu := Try.underlying29
  have hu27 := Try.underlying27
  have hu9 := Try.underlying9
  have HMAY := Aside0.mk (fun W (hw : Below w.heap.size w W) => may_c W m A B c d hlP hlL hcP hcL (Kd.C_below hP hw) (Kd.C_below hL hw))
  obtain ⟨bm, hbm⟩ : ∃ b, mayV m = b := ⟨_, rfl⟩
  rw [hbm] at HMAY
  unfold loadR
  rw [hbm]
  cases bm with
  | false =>
    rw [if_neg (by decide)]
    clear hlP hlL hcP hcL hP hL hU hbm
    go_enter Try.func11, Try.ntmps11
    go_wp2_with (first | ((with_reducible refine gate_dst (N := 1) rfl ?_); refine box_event ?hg (N := 1) ?hd (cs := #[.int .i64 m.k, .int .u64 m.s, .int .u64 m.se, .int .u64 m.a, .int .u64 m.i, .int .u64 m.n, .int .u64 m.c, .int .i64 m.why, .int .u64 m.seed, .slice A m.P.length c, .int .i64 m.most, .slice B m.L.length d]) (t := 29) ?hr ?_; (case hd => rfl); (case hg => rfl); (case hr => first | (go_simp; done) | (go_simp; rfl)); intro g hgn w5 hbox hb; have HGg := Aside0.mk hbox; have HBg := Aside0.mk hb; have HNg := Aside0.mk hgn; have u0 : w5.cell? ⟨g, 0, none⟩ = some (.int .i64 m.k) := blk_cell hbox 0; have uf0 : w5.frozen? ⟨g, 0, none⟩ = false := blk_frozen hbox 0; have u1 : w5.cell? ⟨g, 1, none⟩ = some (.int .u64 m.s) := blk_cell hbox 1; have uf1 : w5.frozen? ⟨g, 1, none⟩ = false := blk_frozen hbox 1; have u2 : w5.cell? ⟨g, 2, none⟩ = some (.int .u64 m.se) := blk_cell hbox 2; have uf2 : w5.frozen? ⟨g, 2, none⟩ = false := blk_frozen hbox 2; have u3 : w5.cell? ⟨g, 3, none⟩ = some (.int .u64 m.a) := blk_cell hbox 3; have uf3 : w5.frozen? ⟨g, 3, none⟩ = false := blk_frozen hbox 3; have u4 : w5.cell? ⟨g, 4, none⟩ = some (.int .u64 m.i) := blk_cell hbox 4; have uf4 : w5.frozen? ⟨g, 4, none⟩ = false := blk_frozen hbox 4; have u5 : w5.cell? ⟨g, 5, none⟩ = some (.int .u64 m.n) := blk_cell hbox 5; have uf5 : w5.frozen? ⟨g, 5, none⟩ = false := blk_frozen hbox 5; have u6 : w5.cell? ⟨g, 6, none⟩ = some (.int .u64 m.c) := blk_cell hbox 6; have uf6 : w5.frozen? ⟨g, 6, none⟩ = false := blk_frozen hbox 6; have u7 : w5.cell? ⟨g, 7, none⟩ = some (.int .i64 m.why) := blk_cell hbox 7; have uf7 : w5.frozen? ⟨g, 7, none⟩ = false := blk_frozen hbox 7; have u8 : w5.cell? ⟨g, 8, none⟩ = some (.int .u64 m.seed) := blk_cell hbox 8; have uf8 : w5.frozen? ⟨g, 8, none⟩ = false := blk_frozen hbox 8; have u9 : w5.cell? ⟨g, 9, none⟩ = some (.slice A m.P.length c) := blk_cell hbox 9; have uf9 : w5.frozen? ⟨g, 9, none⟩ = false := blk_frozen hbox 9; have u10 : w5.cell? ⟨g, 10, none⟩ = some (.int .i64 m.most) := blk_cell hbox 10; have uf10 : w5.frozen? ⟨g, 10, none⟩ = false := blk_frozen hbox 10; have u11 : w5.cell? ⟨g, 11, none⟩ = some (.slice B m.L.length d) := blk_cell hbox 11; have uf11 : w5.frozen? ⟨g, 11, none⟩ = false := blk_frozen hbox 11; clear hbox hb hgn) | (go_at_call 12; (with_reducible refine (HMAY.out _ HBg.out).mono ?_); rintro er w6 ⟨rfl, hb⟩; have hg6 := blk_below HGg.out hb; have HG6 := Aside0.mk hg6; have HB6 := Aside0.mk (below_step HBg.out hb); have k6 : w6.cell? ⟨g, 0, none⟩ = some (.int .i64 m.k) := blk_cell hg6 0; clear hb hg6))
    go_ret2
    exact ⟨_, rfl, Ls.nil _ _ _ _, HB6.out⟩
  | true =>
    rw [if_pos rfl]
    have hmy := may_of hbm
    have HCP := Aside0.mk (fun W (hw : Below w.heap.size w W) => Kd.C_below hP hw)
    have HCL := Aside0.mk (fun W (hw : Below w.heap.size w W) => Kd.C_below hL hw)
    have HC := Aside0.mk (And.intro hcP hcL)
    have HMY := Aside0.mk hmy
    have HU := Aside0.mk hU
    have hkw : IntKind.u64.wrap m.k = m.k := wu64 (by have := hmy.k; omega) (by have := hmy.k; omega)
    have HLEN := Aside0.mk (load_len hU hmy)
    obtain ⟨S, hS, hSb, hSn⟩ := letters_of m.k hmy.k.1 hmy.k.2
    have HS := Aside0.mk hS; have HSB := Aside0.mk hSb; have HSN := Aside0.mk hSn
    have HPUT0 := Aside0.mk (show ∀ W : World, Calls Try.prog 29 #[.slice none 0 0, .slice (some ⟨W.heap.size, 0, none⟩) 1 1] (W.alloc (.cells #[.int .u64 m.k] 24)) (fun e w' => ∃ A' c', e = .returned (.slice A' (flat [m.k]).length c') ∧ Ls encB 5 w' W.heap.size (.slice A' (flat [m.k]).length c') (flat [m.k]) ∧ Below W.heap.size W w') from fun W => put1_c W W.heap.size none 0 [] m.k (Ls.nil _ _ _ _) (by simp) ⟨by have := hmy.k; omega, by have := hmy.k; unfold top; omega⟩)
    clear hlP hlL hcP hcL hP hL hU hbm hmy hS hSb hSn
    go_enter Try.func11, Try.ntmps11
    go_wp2_with (first | ((with_reducible refine gate_dst (N := 1) rfl ?_); refine box_event ?hg (N := 1) ?hd (cs := #[.int .i64 m.k, .int .u64 m.s, .int .u64 m.se, .int .u64 m.a, .int .u64 m.i, .int .u64 m.n, .int .u64 m.c, .int .i64 m.why, .int .u64 m.seed, .slice A m.P.length c, .int .i64 m.most, .slice B m.L.length d]) (t := 29) ?hr ?_; (case hd => rfl); (case hg => rfl); (case hr => first | (go_simp; done) | (go_simp; rfl)); intro g hgn w5 hbox hb; have HGg := Aside0.mk hbox; have HBg := Aside0.mk hb; have HNg := Aside0.mk hgn; have u0 : w5.cell? ⟨g, 0, none⟩ = some (.int .i64 m.k) := blk_cell hbox 0; have uf0 : w5.frozen? ⟨g, 0, none⟩ = false := blk_frozen hbox 0; have u1 : w5.cell? ⟨g, 1, none⟩ = some (.int .u64 m.s) := blk_cell hbox 1; have uf1 : w5.frozen? ⟨g, 1, none⟩ = false := blk_frozen hbox 1; have u2 : w5.cell? ⟨g, 2, none⟩ = some (.int .u64 m.se) := blk_cell hbox 2; have uf2 : w5.frozen? ⟨g, 2, none⟩ = false := blk_frozen hbox 2; have u3 : w5.cell? ⟨g, 3, none⟩ = some (.int .u64 m.a) := blk_cell hbox 3; have uf3 : w5.frozen? ⟨g, 3, none⟩ = false := blk_frozen hbox 3; have u4 : w5.cell? ⟨g, 4, none⟩ = some (.int .u64 m.i) := blk_cell hbox 4; have uf4 : w5.frozen? ⟨g, 4, none⟩ = false := blk_frozen hbox 4; have u5 : w5.cell? ⟨g, 5, none⟩ = some (.int .u64 m.n) := blk_cell hbox 5; have uf5 : w5.frozen? ⟨g, 5, none⟩ = false := blk_frozen hbox 5; have u6 : w5.cell? ⟨g, 6, none⟩ = some (.int .u64 m.c) := blk_cell hbox 6; have uf6 : w5.frozen? ⟨g, 6, none⟩ = false := blk_frozen hbox 6; have u7 : w5.cell? ⟨g, 7, none⟩ = some (.int .i64 m.why) := blk_cell hbox 7; have uf7 : w5.frozen? ⟨g, 7, none⟩ = false := blk_frozen hbox 7; have u8 : w5.cell? ⟨g, 8, none⟩ = some (.int .u64 m.seed) := blk_cell hbox 8; have uf8 : w5.frozen? ⟨g, 8, none⟩ = false := blk_frozen hbox 8; have u9 : w5.cell? ⟨g, 9, none⟩ = some (.slice A m.P.length c) := blk_cell hbox 9; have uf9 : w5.frozen? ⟨g, 9, none⟩ = false := blk_frozen hbox 9; have u10 : w5.cell? ⟨g, 10, none⟩ = some (.int .i64 m.most) := blk_cell hbox 10; have uf10 : w5.frozen? ⟨g, 10, none⟩ = false := blk_frozen hbox 10; have u11 : w5.cell? ⟨g, 11, none⟩ = some (.slice B m.L.length d) := blk_cell hbox 11; have uf11 : w5.frozen? ⟨g, 11, none⟩ = false := blk_frozen hbox 11; clear hbox hb hgn) | (go_at_call 12; (with_reducible refine (HMAY.out _ HBg.out).mono ?_); rintro er w6 ⟨rfl, hb⟩; have hg6 := blk_below HGg.out hb; have HG6 := Aside0.mk hg6; have HB6 := Aside0.mk (below_step HBg.out hb); have k6 : w6.cell? ⟨g, 0, none⟩ = some (.int .i64 m.k) := blk_cell hg6 0; clear hb hg6) | (go_at_call 29; (with_reducible refine (HPUT0.out w6).mono ?_); rintro er w7 ⟨A7, c7, rfl, hl, hb⟩; have hg7 := blk_below HG6.out hb; have HG7 := Aside0.mk hg7; have HB7 := Aside0.mk (below_step HB6.out hb); have HL7 := Aside0.mk (hl.lower HB6.out.size); have k7 : w7.cell? ⟨g, 0, none⟩ = some (.int .i64 m.k) := blk_cell hg7 0; clear hb hg7 hl) | (go_at_call 25; (with_reducible refine (msg_letters.calls m.k S _ HS.out).mono ?_); rintro er w12 ⟨rfl, hdr⟩; obtain ⟨nd, rfl⟩ := hdr))
    obtain ⟨it, hit⟩ : ∃ it, w7.heap.size = it := ⟨_, rfl⟩
    obtain ⟨wl, hwl⟩ : ∃ wl, (World.drewN w7 nd).iter S 0 = wl := ⟨_, rfl⟩
    have hwit : wl.heap[it]? = some (.stringIter S 0) := by rw [← hwl, ← hit]; exact World.iter_heap (World.drewN w7 nd) S 0
    have hbi : Below w7.heap.size w7 wl := by rw [← hwl]; exact below_alloc (pw_below_drewN (Below.refl _ _) nd) _
    have HITS := Aside0.mk hwit
    have HITGE := Aside0.mk (show w.heap.size ≤ it by rw [← hit]; exact HB7.out.size)
    have HBL := Aside0.mk (below_step HB7.out hbi)
    have HLL := Aside0.mk (HL7.out.below hbi)
    have HGL := Aside0.mk (blk_below HG7.out hbi)
    obtain ⟨n, hn⟩ : ∃ n, (lettersV m.k).length = n := ⟨_, rfl⟩
    have HN := Aside0.mk hn
    rw [hit, hwl]
    clear hit hwl hwit hbi hn k7 k6 u0 uf0 u1 uf1 u2 uf2 u3 uf3 u4 uf4 u5 uf5 u6 uf6 u7 uf7 u8 uf8 u9 uf9 u10 uf10 u11 uf11
    go_loopg [4] (n) (fun kf v4 wr => ∃ (pos : Nat) (xs : List Int) (A4 : Option Addr) (c4 : Nat), v4 = .slice A4 xs.length c4 ∧ Aside0 (pos + kf = n) ∧ Aside0 (wr.heap[it]? = some (.stringIter S pos)) ∧ Aside0 (Ls encB 5 wr w.heap.size (.slice A4 xs.length c4) xs) ∧ Aside0 (xs ++ flat (((lettersV m.k).drop pos).flatMap (wordsV m)) = loadV m) ∧ Aside0 (Below w.heap.size w wr) ∧ Aside0 (wr.heap[g]? = some (.cells (mcells m (.slice A m.P.length c) (.slice B m.L.length d)) 29 (0, 0))))
    case atStart => exact ⟨0, _, A7, c7, rfl, ⟨by omega⟩, HITS, HLL, ⟨by rw [List.drop_zero, ← flat_app]; rfl⟩, HBL, HGL⟩
    case round =>
      obtain ⟨pos, xs, A4, c4, rfl, HI, HIT, HLS, HAV, HB, HG⟩ := hrel
      have hpos := HI.out
      by_cases hlt : pos < n
      · obtain ⟨f, hkf⟩ : ∃ f, gk = f + 1 := ⟨gk - 1, by omega⟩
        have HF := Aside0.mk hkf
        have hil : pos < (lettersV m.k).length := by rw [HN.out]; exact hlt
        have hps : pos < S.size := by rw [HSN.out]; exact hil
        obtain ⟨ch, hc⟩ : ∃ c, (lettersV m.k)[pos]? = some c := ⟨_, List.getElem?_eq_getElem hil⟩
        have hisL := letters_isL m.k ch (List.mem_of_getElem? hc)
        have hdr : (lettersV m.k).drop pos = ch :: (lettersV m.k).drop (pos + 1) := by
          obtain ⟨hi, e⟩ := List.getElem?_eq_some_iff.1 hc
          rw [List.drop_eq_getElem_cons hi, e]
        have hav := HAV.out
        rw [hdr, List.flatMap_cons, flat_app] at hav
        have hxl : xs.length ≤ 20000 := by
          have e := congrArg List.length hav
          rw [List.length_append] at e
          have := HLEN.out
          omega
        have hav2 : xs ++ flat (wordsV m ch ++ List.flatMap (wordsV m) ((lettersV m.k).drop (pos + 1))) = loadV m := by rw [flat_app]; exact hav
        have hby := byte_at HSB.out hc hps
        have hnx : ∀ ty, (Instr.next (.pointer (some ⟨it, 0, none⟩)) true ty).run Try.prog wr = .ok (.tuple #[.bool true, .int .i64 pos, .int .i32 ch]) (itTo wr it S (pos + 1)) := fun ty => by
          rw [next_run wr it S pos ty HIT.out hps (by rcases hisL with e | e | e | e | e | e | e | e | e <;> omega), hby]
        have hitn : it < wr.heap.size := blk_lt HIT.out
        have hkI := itTo_kept wr it S (pos + 1)
        have hgi : g ≠ it := fun e => by have h1 := HG.out; have h2 := HIT.out; rw [e] at h1; rw [h1] at h2; cases h2
        obtain ⟨wi, hwi⟩ : ∃ wi, itTo wr it S (pos + 1) = wi := ⟨_, rfl⟩
        have hbI : Below w.heap.size w wi := by rw [← hwi]; exact itTo_below HB.out (HITGE.out) S (pos + 1)
        have hit9 : wi.heap[it]? = some (.stringIter S (pos + 1)) := by rw [← hwi]; exact itTo_at wr it S (pos + 1) hitn
        rw [hwi] at hnx hkI
        have hgI := blk_kept HG.out hkI hgi
        have hlI : Ls encB 5 wi w.heap.size (.slice A4 xs.length c4) xs := lsK HLS.out hkI fun k hk e' => by
          obtain ⟨_, _, cur, hcur⟩ := HLS.out.own k hk
          rw [e'] at hcur
          rw [HIT.out] at hcur
          cases hcur
        have HAV2 := Aside0.mk hav2; have HXL := Aside0.mk hxl; have HBI := Aside0.mk hbI; have HIT9 := Aside0.mk hit9; have HGI := Aside0.mk hgI; have HLI := Aside0.mk hlI
        have u0 : wi.cell? ⟨g, 0, none⟩ = some (.int .i64 m.k) := blk_cell hgI 0
        have uf0 : wi.frozen? ⟨g, 0, none⟩ = false := blk_frozen hgI 0
        have u1 : wi.cell? ⟨g, 1, none⟩ = some (.int .u64 m.s) := blk_cell hgI 1
        have uf1 : wi.frozen? ⟨g, 1, none⟩ = false := blk_frozen hgI 1
        have u2 : wi.cell? ⟨g, 2, none⟩ = some (.int .u64 m.se) := blk_cell hgI 2
        have uf2 : wi.frozen? ⟨g, 2, none⟩ = false := blk_frozen hgI 2
        have u3 : wi.cell? ⟨g, 3, none⟩ = some (.int .u64 m.a) := blk_cell hgI 3
        have uf3 : wi.frozen? ⟨g, 3, none⟩ = false := blk_frozen hgI 3
        have u4 : wi.cell? ⟨g, 4, none⟩ = some (.int .u64 m.i) := blk_cell hgI 4
        have uf4 : wi.frozen? ⟨g, 4, none⟩ = false := blk_frozen hgI 4
        have u5 : wi.cell? ⟨g, 5, none⟩ = some (.int .u64 m.n) := blk_cell hgI 5
        have uf5 : wi.frozen? ⟨g, 5, none⟩ = false := blk_frozen hgI 5
        have u6 : wi.cell? ⟨g, 6, none⟩ = some (.int .u64 m.c) := blk_cell hgI 6
        have uf6 : wi.frozen? ⟨g, 6, none⟩ = false := blk_frozen hgI 6
        have u7 : wi.cell? ⟨g, 7, none⟩ = some (.int .i64 m.why) := blk_cell hgI 7
        have uf7 : wi.frozen? ⟨g, 7, none⟩ = false := blk_frozen hgI 7
        have u8 : wi.cell? ⟨g, 8, none⟩ = some (.int .u64 m.seed) := blk_cell hgI 8
        have uf8 : wi.frozen? ⟨g, 8, none⟩ = false := blk_frozen hgI 8
        have u9 : wi.cell? ⟨g, 9, none⟩ = some (.slice A m.P.length c) := blk_cell hgI 9
        have uf9 : wi.frozen? ⟨g, 9, none⟩ = false := blk_frozen hgI 9
        have u10 : wi.cell? ⟨g, 10, none⟩ = some (.int .i64 m.most) := blk_cell hgI 10
        have uf10 : wi.frozen? ⟨g, 10, none⟩ = false := blk_frozen hgI 10
        have u11 : wi.cell? ⟨g, 11, none⟩ = some (.slice B m.L.length d) := blk_cell hgI 11
        have uf11 : wi.frozen? ⟨g, 11, none⟩ = false := blk_frozen hgI 11
        clear hkf hil hps hc hdr hav hxl hav2 hby hitn hkI hgi hwi hbI hit9 hgI hlI hpos hlt HIT HLS HAV HB HG
        rcases hisL with rfl | rfl | rfl | rfl | rfl | rfl | rfl | rfl | rfl
        · have HC6 := Aside0.mk (show (115 : Int) = 115 ∨ (115 : Int) = 101 ∨ (115 : Int) = 97 ∨ (115 : Int) = 105 ∨ (115 : Int) = 110 ∨ (115 : Int) = 99 from .inl rfl)
          have HPL := Aside0.mk (show Calls Try.prog 27 #[.pointer (some ⟨g, 0, none⟩), .int .u8 115] wi fun er w' => er = .returned (.pointer (some ⟨g, 1, none⟩)) ∧ wi = w' from place_c wi g 115 HC6.out)
          have HPUT := Aside0.mk (put1_c wi w.heap.size A4 c4 xs m.s HLI.out (Nat.le_trans HXL.out (by decide)) HU.out.s)
          go_wp2_with (first | (go_at_call 27; (with_reducible refine HPL.out.mono ?_); rintro er w7 ⟨rfl, rfl⟩) | (go_at_call 29; (with_reducible refine HPUT.out.mono ?_); rintro er w8 ⟨A8, c8, rfl, hl, hb⟩; have HL8 := Aside0.mk hl; have HB8 := Aside0.mk hb; clear hb hl) | go_in)
          go_roundg f
          case measure => have := HF.out; omega
          case rel => exact ⟨pos + 1, xs ++ flat ([m.s]), A8, c8, (by first | rfl | rw [List.length_append]), ⟨by have := HI.out; have := HF.out; omega⟩, ⟨blk_below HIT9.out HB8.out⟩, ⟨HL8.out.lower HBI.out.size⟩, ⟨by rw [List.append_assoc, ← flat_app]; exact HAV2.out⟩, ⟨below_step HBI.out HB8.out⟩, ⟨blk_below HGI.out HB8.out⟩⟩
        · have HC6 := Aside0.mk (show (101 : Int) = 115 ∨ (101 : Int) = 101 ∨ (101 : Int) = 97 ∨ (101 : Int) = 105 ∨ (101 : Int) = 110 ∨ (101 : Int) = 99 from .inr (.inl rfl))
          have HPL := Aside0.mk (show Calls Try.prog 27 #[.pointer (some ⟨g, 0, none⟩), .int .u8 101] wi fun er w' => er = .returned (.pointer (some ⟨g, 2, none⟩)) ∧ wi = w' from place_c wi g 101 HC6.out)
          have HPUT := Aside0.mk (put1_c wi w.heap.size A4 c4 xs m.se HLI.out (Nat.le_trans HXL.out (by decide)) HU.out.se)
          go_wp2_with (first | (go_at_call 27; (with_reducible refine HPL.out.mono ?_); rintro er w7 ⟨rfl, rfl⟩) | (go_at_call 29; (with_reducible refine HPUT.out.mono ?_); rintro er w8 ⟨A8, c8, rfl, hl, hb⟩; have HL8 := Aside0.mk hl; have HB8 := Aside0.mk hb; clear hb hl) | go_in)
          go_roundg f
          case measure => have := HF.out; omega
          case rel => exact ⟨pos + 1, xs ++ flat ([m.se]), A8, c8, (by first | rfl | rw [List.length_append]), ⟨by have := HI.out; have := HF.out; omega⟩, ⟨blk_below HIT9.out HB8.out⟩, ⟨HL8.out.lower HBI.out.size⟩, ⟨by rw [List.append_assoc, ← flat_app]; exact HAV2.out⟩, ⟨below_step HBI.out HB8.out⟩, ⟨blk_below HGI.out HB8.out⟩⟩
        · have HC6 := Aside0.mk (show (97 : Int) = 115 ∨ (97 : Int) = 101 ∨ (97 : Int) = 97 ∨ (97 : Int) = 105 ∨ (97 : Int) = 110 ∨ (97 : Int) = 99 from .inr (.inr (.inl rfl)))
          have HPL := Aside0.mk (show Calls Try.prog 27 #[.pointer (some ⟨g, 0, none⟩), .int .u8 97] wi fun er w' => er = .returned (.pointer (some ⟨g, 3, none⟩)) ∧ wi = w' from place_c wi g 97 HC6.out)
          have HPUT := Aside0.mk (put1_c wi w.heap.size A4 c4 xs m.a HLI.out (Nat.le_trans HXL.out (by decide)) HU.out.a)
          go_wp2_with (first | (go_at_call 27; (with_reducible refine HPL.out.mono ?_); rintro er w7 ⟨rfl, rfl⟩) | (go_at_call 29; (with_reducible refine HPUT.out.mono ?_); rintro er w8 ⟨A8, c8, rfl, hl, hb⟩; have HL8 := Aside0.mk hl; have HB8 := Aside0.mk hb; clear hb hl) | go_in)
          go_roundg f
          case measure => have := HF.out; omega
          case rel => exact ⟨pos + 1, xs ++ flat ([m.a]), A8, c8, (by first | rfl | rw [List.length_append]), ⟨by have := HI.out; have := HF.out; omega⟩, ⟨blk_below HIT9.out HB8.out⟩, ⟨HL8.out.lower HBI.out.size⟩, ⟨by rw [List.append_assoc, ← flat_app]; exact HAV2.out⟩, ⟨below_step HBI.out HB8.out⟩, ⟨blk_below HGI.out HB8.out⟩⟩
        · have HC6 := Aside0.mk (show (105 : Int) = 115 ∨ (105 : Int) = 101 ∨ (105 : Int) = 97 ∨ (105 : Int) = 105 ∨ (105 : Int) = 110 ∨ (105 : Int) = 99 from .inr (.inr (.inr (.inl rfl))))
          have HPL := Aside0.mk (show Calls Try.prog 27 #[.pointer (some ⟨g, 0, none⟩), .int .u8 105] wi fun er w' => er = .returned (.pointer (some ⟨g, 4, none⟩)) ∧ wi = w' from place_c wi g 105 HC6.out)
          have HPUT := Aside0.mk (put1_c wi w.heap.size A4 c4 xs m.i HLI.out (Nat.le_trans HXL.out (by decide)) HU.out.i)
          go_wp2_with (first | (go_at_call 27; (with_reducible refine HPL.out.mono ?_); rintro er w7 ⟨rfl, rfl⟩) | (go_at_call 29; (with_reducible refine HPUT.out.mono ?_); rintro er w8 ⟨A8, c8, rfl, hl, hb⟩; have HL8 := Aside0.mk hl; have HB8 := Aside0.mk hb; clear hb hl) | go_in)
          go_roundg f
          case measure => have := HF.out; omega
          case rel => exact ⟨pos + 1, xs ++ flat ([m.i]), A8, c8, (by first | rfl | rw [List.length_append]), ⟨by have := HI.out; have := HF.out; omega⟩, ⟨blk_below HIT9.out HB8.out⟩, ⟨HL8.out.lower HBI.out.size⟩, ⟨by rw [List.append_assoc, ← flat_app]; exact HAV2.out⟩, ⟨below_step HBI.out HB8.out⟩, ⟨blk_below HGI.out HB8.out⟩⟩
        · have HC6 := Aside0.mk (show (110 : Int) = 115 ∨ (110 : Int) = 101 ∨ (110 : Int) = 97 ∨ (110 : Int) = 105 ∨ (110 : Int) = 110 ∨ (110 : Int) = 99 from .inr (.inr (.inr (.inr (.inl rfl)))))
          have HPL := Aside0.mk (show Calls Try.prog 27 #[.pointer (some ⟨g, 0, none⟩), .int .u8 110] wi fun er w' => er = .returned (.pointer (some ⟨g, 5, none⟩)) ∧ wi = w' from place_c wi g 110 HC6.out)
          have HPUT := Aside0.mk (put1_c wi w.heap.size A4 c4 xs m.n HLI.out (Nat.le_trans HXL.out (by decide)) HU.out.n)
          go_wp2_with (first | (go_at_call 27; (with_reducible refine HPL.out.mono ?_); rintro er w7 ⟨rfl, rfl⟩) | (go_at_call 29; (with_reducible refine HPUT.out.mono ?_); rintro er w8 ⟨A8, c8, rfl, hl, hb⟩; have HL8 := Aside0.mk hl; have HB8 := Aside0.mk hb; clear hb hl) | go_in)
          go_roundg f
          case measure => have := HF.out; omega
          case rel => exact ⟨pos + 1, xs ++ flat ([m.n]), A8, c8, (by first | rfl | rw [List.length_append]), ⟨by have := HI.out; have := HF.out; omega⟩, ⟨blk_below HIT9.out HB8.out⟩, ⟨HL8.out.lower HBI.out.size⟩, ⟨by rw [List.append_assoc, ← flat_app]; exact HAV2.out⟩, ⟨below_step HBI.out HB8.out⟩, ⟨blk_below HGI.out HB8.out⟩⟩
        · have HC6 := Aside0.mk (show (99 : Int) = 115 ∨ (99 : Int) = 101 ∨ (99 : Int) = 97 ∨ (99 : Int) = 105 ∨ (99 : Int) = 110 ∨ (99 : Int) = 99 from .inr (.inr (.inr (.inr (.inr rfl)))))
          have HPL := Aside0.mk (show Calls Try.prog 27 #[.pointer (some ⟨g, 0, none⟩), .int .u8 99] wi fun er w' => er = .returned (.pointer (some ⟨g, 6, none⟩)) ∧ wi = w' from place_c wi g 99 HC6.out)
          have HPUT := Aside0.mk (put1_c wi w.heap.size A4 c4 xs m.c HLI.out (Nat.le_trans HXL.out (by decide)) HU.out.c)
          go_wp2_with (first | (go_at_call 27; (with_reducible refine HPL.out.mono ?_); rintro er w7 ⟨rfl, rfl⟩) | (go_at_call 29; (with_reducible refine HPUT.out.mono ?_); rintro er w8 ⟨A8, c8, rfl, hl, hb⟩; have HL8 := Aside0.mk hl; have HB8 := Aside0.mk hb; clear hb hl) | go_in)
          go_roundg f
          case measure => have := HF.out; omega
          case rel => exact ⟨pos + 1, xs ++ flat ([m.c]), A8, c8, (by first | rfl | rw [List.length_append]), ⟨by have := HI.out; have := HF.out; omega⟩, ⟨blk_below HIT9.out HB8.out⟩, ⟨HL8.out.lower HBI.out.size⟩, ⟨by rw [List.append_assoc, ← flat_app]; exact HAV2.out⟩, ⟨below_step HBI.out HB8.out⟩, ⟨blk_below HGI.out HB8.out⟩⟩
        · have HPUT := Aside0.mk (put1_c wi w.heap.size A4 c4 xs m.why HLI.out (Nat.le_trans HXL.out (by decide)) ⟨HMY.out.why.1, by have := HMY.out.why.2; unfold top; omega⟩)
          have ew : IntKind.u64.wrap m.why = m.why := wu64 (by have := HMY.out.why; omega) (by have := HMY.out.why; omega)
          go_wp2_with (first | (go_at_call 29; (with_reducible refine HPUT.out.mono ?_); rintro er w8 ⟨A8, c8, rfl, hl, hb⟩; have HL8 := Aside0.mk hl; have HB8 := Aside0.mk hb; clear hb hl) | go_in)
          go_roundg f
          case measure => have := HF.out; omega
          case rel => exact ⟨pos + 1, xs ++ flat ([m.why]), A8, c8, (by first | rfl | rw [List.length_append]), ⟨by have := HI.out; have := HF.out; omega⟩, ⟨blk_below HIT9.out HB8.out⟩, ⟨HL8.out.lower HBI.out.size⟩, ⟨by rw [List.append_assoc, ← flat_app]; exact HAV2.out⟩, ⟨below_step HBI.out HB8.out⟩, ⟨blk_below HGI.out HB8.out⟩⟩
        · have HPUT := Aside0.mk (show Calls Try.prog 29 #[.slice A4 xs.length c4, .slice (some ⟨(World.drew wi).heap.size, 0, none⟩) 2 2] (World.drew (wi.alloc (.cells #[.int .u64 m.seed, .int .u64 m.most] 24))) fun e w' => ∃ A' c', e = .returned (.slice A' (xs ++ flat [m.seed, m.most]).length c') ∧ Ls encB 5 w' wi.heap.size (.slice A' (xs ++ flat [m.seed, m.most]).length c') (xs ++ flat [m.seed, m.most]) ∧ Below wi.heap.size (World.drew wi) w' from put2_c (World.drew wi) w.heap.size A4 c4 xs m.seed m.most HLI.out (Nat.le_trans HXL.out (by decide)) HU.out.seed ⟨HMY.out.most.1, by have := HMY.out.most.2; unfold top; omega⟩)
          have ew : IntKind.u64.wrap m.most = m.most := wu64 (by have := HMY.out.most; omega) (by have := HMY.out.most; omega)
          have HXL2 := Aside0.mk (show (xs ++ flat [m.seed, m.most]).length ≤ 100000 from by
            have h2 := flat_len [m.seed, m.most] (fun z hz => by simp only [List.mem_cons, List.not_mem_nil, or_false] at hz; rcases hz with rfl | rfl <;> first | exact wf64 HU.out.seed | exact wf64 ⟨HMY.out.most.1, by have := HMY.out.most.2; unfold top; omega⟩)
            rw [List.length_append]
            have h1 := HXL.out
            have h3 : [m.seed, m.most].length = 2 := rfl
            omega)
          go_upto_region 12 with (fail)
          refine start_ (n := 15) (S := fun w' => w'.cell? ⟨g, 8, none⟩ = some (.int .u64 m.seed) ∧ w'.cell? ⟨g, 10, none⟩ = some (.int .i64 m.most) ∧ w'.cell? ⟨g, 9, none⟩ = some (.slice A m.P.length c)) (ds := [13]) #[false, false, false, false, false, false, false, false, false, false, false, false, false, false, false] (by kernel_rfl) rfl rfl ⟨u8, u10, u9⟩ (fun hHeld => ?_)
          refine pure_ (i := 0) (N := some 41) (v := ?_) (a' := ?_) #[true, false, false, false, false, false, false, false, false, false, false, false, false, false, false] rfl rfl (by kernel_rfl) (fun _ _ _ h => h) (Or.inl ⟨by rfl, ?_⟩) ?_ ?_
          rotate_left
          · intro w'
            go_simp
            with_reducible rfl
          rotate_left
          · simp only [Act.put, List.setIfInBounds_toArray, List.set_cons_zero, List.set_cons_succ, i64_w, i32_w]
            rfl
          refine pure_ (i := 1) (N := some 42) (v := ?_) (a' := ?_) #[true, true, false, false, false, false, false, false, false, false, false, false, false, false, false] rfl rfl (by kernel_rfl) (fun _ _ _ h => h) (Or.inl ⟨by rfl, ?_⟩) ?_ ?_
          rotate_left
          · intro w'
            go_simp
            with_reducible rfl
          rotate_left
          · simp only [Act.put, List.setIfInBounds_toArray, List.set_cons_zero, List.set_cons_succ, i64_w, i32_w]
            rfl
          refine pure_ (i := 2) (N := some 43) (v := ?_) (a' := ?_) #[true, true, true, false, false, false, false, false, false, false, false, false, false, false, false] rfl rfl (by kernel_rfl) (fun _ _ _ h => h) (Or.inl ⟨by rfl, ?_⟩) ?_ ?_
          rotate_left
          · intro w'
            go_simp
            with_reducible rfl
          rotate_left
          · simp only [Act.put, List.setIfInBounds_toArray, List.set_cons_zero, List.set_cons_succ, i64_w, i32_w]
            rfl
          refine pure_ (i := 4) (N := some 45) (v := ?_) (a' := ?_) #[true, true, true, false, true, false, false, false, false, false, false, false, false, false, false] rfl rfl (by kernel_rfl) (fun _ _ _ h => h) (Or.inl ⟨by rfl, ?_⟩) ?_ ?_
          rotate_left
          · intro w'
            go_simp
            with_reducible rfl
          rotate_left
          · simp only [Act.put, List.setIfInBounds_toArray, List.set_cons_zero, List.set_cons_succ, i64_w, i32_w]
            rfl
          refine pure_ (i := 5) (N := some 46) (v := ?_) (a' := ?_) #[true, true, true, false, true, true, false, false, false, false, false, false, false, false, false] rfl rfl (by kernel_rfl) (fun _ _ _ h => h) (Or.inl ⟨by rfl, ?_⟩) ?_ ?_
          rotate_left
          · intro w'
            go_simp
            with_reducible rfl
          rotate_left
          · simp only [Act.put, List.setIfInBounds_toArray, List.set_cons_zero, List.set_cons_succ, i64_w, i32_w]
            rfl
          refine pure_ (i := 10) (N := some 51) (v := ?_) (a' := ?_) #[true, true, true, false, true, true, false, false, false, false, true, false, false, false, false] rfl rfl (by kernel_rfl) (fun _ _ _ h => h) (Or.inl ⟨by rfl, ?_⟩) ?_ ?_
          rotate_left
          · intro w'
            go_simp
            with_reducible rfl
          rotate_left
          · simp only [Act.put, List.setIfInBounds_toArray, List.set_cons_zero, List.set_cons_succ, i64_w, i32_w]
            rfl
          refine pure_ (i := 11) (N := some 52) (v := ?_) (a' := ?_) #[true, true, true, false, true, true, false, false, false, false, true, true, false, false, false] rfl rfl (by kernel_rfl) (fun _ _ _ h => h) (Or.inl ⟨by rfl, ?_⟩) ?_ ?_
          rotate_left
          · intro w'
            go_simp
            with_reducible rfl
          rotate_left
          · simp only [Act.put, List.setIfInBounds_toArray, List.set_cons_zero, List.set_cons_succ, i64_w, i32_w]
            rfl
          refine take_ (i := 3) (N := some 44) (v := ?_) (a' := ?_) #[true, true, true, true, true, true, false, false, false, false, true, true, false, false, false] rfl rfl (by kernel_rfl) (fun _ _ _ h => h) (Or.inl ⟨by rfl, ?_⟩) hHeld ?_ ?_
          rotate_left
          · rintro w' ⟨s0, s1, s2⟩
            go_simp
            with_reducible rfl
          rotate_left
          · simp only [Act.put, List.setIfInBounds_toArray, List.set_cons_zero, List.set_cons_succ, i64_w, i32_w]
            rfl
          refine take_ (i := 6) (N := some 47) (v := ?_) (a' := ?_) #[true, true, true, true, true, true, true, false, false, false, true, true, false, false, false] rfl rfl (by kernel_rfl) (fun _ _ _ h => h) (Or.inl ⟨by rfl, ?_⟩) hHeld ?_ ?_
          rotate_left
          · rintro w' ⟨s0, s1, s2⟩
            go_simp
            with_reducible rfl
          rotate_left
          · simp only [Act.put, List.setIfInBounds_toArray, List.set_cons_zero, List.set_cons_succ, i64_w, i32_w]
            rfl
          refine pure_ (i := 7) (N := some 48) (v := ?_) (a' := ?_) #[true, true, true, true, true, true, true, true, false, false, true, true, false, false, false] rfl rfl (by kernel_rfl) (fun _ _ _ h => h) (Or.inl ⟨by rfl, ?_⟩) ?_ ?_
          rotate_left
          · intro w'
            go_simp
            with_reducible rfl
          rotate_left
          · simp only [Act.put, List.setIfInBounds_toArray, List.set_cons_zero, List.set_cons_succ, i64_w, i32_w]
            rfl
          refine take_ (i := 12) (N := some 53) (v := ?_) (a' := ?_) #[true, true, true, true, true, true, true, true, false, false, true, true, true, false, false] rfl rfl (by kernel_rfl) (fun _ _ _ h => h) (Or.inl ⟨by rfl, ?_⟩) hHeld ?_ ?_
          rotate_left
          · rintro w' ⟨s0, s1, s2⟩
            go_simp
            with_reducible rfl
          rotate_left
          · simp only [Act.put, List.setIfInBounds_toArray, List.set_cons_zero, List.set_cons_succ, i64_w, i32_w]
            rfl
          refine one_ (i := 8) (N := some 49) #[true, true, true, true, true, true, true, true, true, false, true, true, true, false, false] rfl rfl (by kernel_rfl) (by decide) (fun K hK => ?_)
          refine value_ (w1 := ?_) (v := ?_) (by rfl) rfl ?_ ?_
          rotate_left 2
          · go_simp
            constructor
            · rfl
            · rfl
          refine hK.out _ _ ⟨pw_cell_below (below_alloc (Below.refl (World.drew wi).heap.size (World.drew wi)) _) u8, pw_cell_below (below_alloc (Below.refl (World.drew wi).heap.size (World.drew wi)) _) u10, pw_cell_below (below_alloc (Below.refl (World.drew wi).heap.size (World.drew wi)) _) u9⟩ (fun hHeld => ?_)
          clear hK K
          refine norm_ (a' := ?_) ?_ ?_
          rotate_left
          · show Act.put _ (some 49) _ = _
            simp only [Act.put, List.setIfInBounds_toArray, List.set_cons_zero, List.set_cons_succ, i64_w, i32_w]
            rfl
          refine one_ (i := 9) (N := some 50) #[true, true, true, true, true, true, true, true, true, true, true, true, true, false, false] rfl rfl (by kernel_rfl) (by decide) (fun K hK => ?_)
          refine goes_ Try.func29 (by kernel_rfl) rfl #[.slice A4 xs.length c4, .slice (some ⟨(World.drew wi).heap.size, 0, none⟩) 2 2] (by rfl) rfl rfl (by simp only [List.map_toArray, List.map_cons, List.map_nil]; rfl) ?_
          with_reducible refine (HPUT.out).mono ?_
          rintro e w3 ⟨A3, c3, rfl, hl3, hb3⟩
          refine ⟨_, rfl, ?_⟩
          have HB3 := Aside0.mk (below_step (below_drew (Below.refl wi.heap.size wi)) hb3)
          have HL3 := Aside0.mk hl3
          have HPS := Aside0.mk (puts_c w3 _ A3 A c3 c (xs ++ flat [m.seed, m.most]) m.P hl3 (by have h1 := HXL2.out; exact h1) (HCP.out w3 (below_step HBI.out HB3.out)) HC.out.1 HMY.out.P.1 HMY.out.P.2)
          clear hl3 hb3
          refine hK.out _ _ ⟨pw_cell_below HB3.out u8, pw_cell_below HB3.out u10, pw_cell_below HB3.out u9⟩ (fun hHeld => ?_)
          clear hK K
          refine norm_ (a' := ?_) ?_ ?_
          rotate_left
          · show Act.put _ (some 50) _ = _
            simp only [Act.put, List.setIfInBounds_toArray, List.set_cons_zero, List.set_cons_succ, i64_w, i32_w]
            rfl
          refine last_ (i := 13) (N := some 54) #[true, true, true, true, true, true, true, true, true, true, true, true, true, true, false] rfl rfl (by kernel_rfl) (by decide) (fun K hK => ?_)
          refine goes_ Try.func30 (by kernel_rfl) rfl #[.slice A3 (xs ++ flat [m.seed, m.most]).length c3, .slice A m.P.length c] (by rfl) rfl rfl (by simp only [List.map_toArray, List.map_cons, List.map_nil]; rfl) ?_
          with_reducible refine (HPS.out).mono ?_
          rintro e w8 ⟨A8, c8, rfl, hl8, hb8⟩
          refine ⟨_, rfl, ?_⟩
          have HB8 := Aside0.mk (below_step HB3.out hb8)
          have e8 : xs ++ flat [m.seed, m.most] ++ flat ((m.P.length : Int) :: m.P) = xs ++ flat (m.seed :: m.most :: (m.P.length : Int) :: m.P) := by rw [List.append_assoc, ← flat_app]; rfl
          rw [e8] at hl8
          rw [e8]
          have HL8 := Aside0.mk (hl8.lower HB3.out.size)
          clear hl8 hb8 e8
          refine hK.out _ _ ?_
          clear hK K
          refine norm_ (a' := ?_) ?_ ?_
          rotate_left
          · show Act.put _ (some 54) _ = _
            simp only [Act.put, List.setIfInBounds_toArray, List.set_cons_zero, List.set_cons_succ, i64_w, i32_w]
            rfl
          refine pure_ (i := 14) (N := some 4) (v := ?_) (a' := ?_) #[true, true, true, true, true, true, true, true, true, true, true, true, true, true, true] rfl rfl (by kernel_rfl) (fun _ _ _ h => h) (Or.inl ⟨by rfl, ?_⟩) ?_ ?_
          rotate_left
          · intro w'
            go_simp
            with_reducible rfl
          rotate_left
          · simp only [Act.put, List.setIfInBounds_toArray, List.set_cons_zero, List.set_cons_succ, i64_w, i32_w]
            rfl
          refine done_ (by kernel_rfl) ?_
          go_wp2_with (first | go_in)
          go_roundg f
          case measure => have := HF.out; omega
          case rel => exact ⟨pos + 1, xs ++ flat (m.seed :: m.most :: (m.P.length : Int) :: m.P), A8, c8, (by first | rfl | rw [List.length_append]), ⟨by have := HI.out; have := HF.out; omega⟩, ⟨blk_below HIT9.out HB8.out⟩, ⟨HL8.out.lower HBI.out.size⟩, ⟨by rw [List.append_assoc, ← flat_app]; exact HAV2.out⟩, ⟨below_step HBI.out HB8.out⟩, ⟨blk_below HGI.out HB8.out⟩⟩
        · have HPUTS := Aside0.mk (puts_c wi w.heap.size A4 B c4 d xs m.L HLI.out (Nat.le_trans HXL.out (by decide)) (HCL.out wi HBI.out) HC.out.2 HMY.out.L.1 HMY.out.L.2)
          go_wp2_with (first | (go_at_call 30; (with_reducible refine HPUTS.out.mono ?_); rintro er w8 ⟨A8, c8, rfl, hl, hb⟩; have HL8 := Aside0.mk hl; have HB8 := Aside0.mk hb; clear hb hl) | go_in)
          go_roundg f
          case measure => have := HF.out; omega
          case rel => exact ⟨pos + 1, xs ++ flat ((m.L.length : Int) :: m.L), A8, c8, (by first | rfl | rw [List.length_append]), ⟨by have := HI.out; have := HF.out; omega⟩, ⟨blk_below HIT9.out HB8.out⟩, ⟨HL8.out.lower HBI.out.size⟩, ⟨by rw [List.append_assoc, ← flat_app]; exact HAV2.out⟩, ⟨below_step HBI.out HB8.out⟩, ⟨blk_below HGI.out HB8.out⟩⟩
      · obtain rfl : pos = n := by omega
        have hnx : ∀ ty, (Instr.next (.pointer (some ⟨it, 0, none⟩)) true ty).run Try.prog wr = .ok (.tuple #[.bool false]) wr := fun ty => next_end wr it S pos ty HIT.out (by rw [HSN.out, HN.out]; omega)
        have hav := HAV.out
        rw [List.drop_eq_nil_of_le (by rw [HN.out]; omega)] at hav
        have hav : xs = loadV m := by simpa [flat] using hav
        subst hav
        go_wp2_with fail
        go_ret2
        exact ⟨_, rfl, HLS.out, HB.out⟩
end Go.Proofs.Ytbfmbjkalldonaa.Msg
