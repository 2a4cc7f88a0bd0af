/- How numbers are put as bytes, how many these are, folding; no condition but that numbers are of 64 bits. -/
import Derived.Test.YtbfmbjkalldonaaPAx6
import Derived.Test.YtbfmbjkalldonaaPAx18
import Derived.Test.YtbfmbjkalldonaaPAx19
import Derived.Test.YtbfmbjkalldonaaVar
namespace Go.Proofs.Ytbfmbjkalldonaa.Var
set_option linter.unusedVariables false
set_option linter.unusedSimpArgs false
open Go.RowKit Go.Proofs.Ytbfmbjkalldonaa.PA Go.Proofs.YtbfmbjkalldonaaW.PrintWords Go.Proofs.YtbfmbjkalldonaaW.PrintLast Go.Proofs.YtbfmbjkalldonaaW.PrintMore Go.Proofs.Ytbfmbjkalldonaa.Base

/-! ### a number's bytes -/
def vb (n : Nat) : List Int := if n < 128 then [(n : Int)] else ((n % 128 + 128 : Nat) : Int) :: vb (n / 128)
theorem vb_small {n : Nat} (h : n < 128) : vb n = [(n : Int)] := by rw [vb, if_pos h]
theorem vb_big {n : Nat} (h : ¬ n < 128) : vb n = ((n % 128 + 128 : Nat) : Int) :: vb (n / 128) := by rw [vb, if_neg h]
theorem vb_len (k : Nat) : ∀ n : Nat, n < 128 ^ (k + 1) → (vb n).length ≤ k + 1 := by
  induction k with
  | zero =>
    intro n h
    rw [vb_small (by simpa using h)]; simp
  | succ k ih =>
    intro n h
    by_cases hs : n < 128
    · rw [vb_small hs]; simp
    · rw [vb_big hs, List.length_cons]
      have := ih (n / 128) (by rw [Nat.pow_succ] at h; omega)
      omega
theorem vb_len10 {n : Nat} (h : n < 18446744073709551616) : (vb n).length ≤ 10 := vb_len 9 n (by
  have e : 128 ^ (9 + 1) = 1180591620717411303424 := by decide
  omega)
theorem vb_pos (n : Nat) : 0 < (vb n).length := by
  by_cases h : n < 128
  · rw [vb_small h]; simp
  · rw [vb_big h]; simp
theorem vb_bytes (n : Nat) : ∀ x ∈ vb n, 0 ≤ x ∧ x ≤ 255 := by
  induction n using Nat.strongRecOn with
  | ind n ih =>
    by_cases h : n < 128
    · rw [vb_small h]; intro x hx
      simp only [List.mem_singleton] at hx; omega
    · rw [vb_big h]; intro x hx
      rcases List.mem_cons.mp hx with rfl | hx
      · omega
      · exact ih (n / 128) (by omega) x hx

def flat (l : List Int) : List Int := l.flatMap fun n => vb n.toNat
theorem flat_cons (x : Int) (l : List Int) : flat (x :: l) = vb x.toNat ++ flat l := rfl
theorem flat_len (l : List Int) (h : ∀ x ∈ l, (Lit.int .u64 x).wf = true) : (flat l).length ≤ 10 * l.length := by
  induction l with
  | nil => simp [flat]
  | cons x l ih =>
    rw [flat_cons, List.length_append, List.length_cons]
    have hx := wf_u64 (h x List.mem_cons_self)
    have := vb_len10 (n := x.toNat) (by omega)
    have := ih (fun y hy => h y (List.mem_cons_of_mem _ hy))
    omega

theorem put_inner (l : List Int) (L i : Int) (r : List Int) (n : Nat) : ∀ x5 : List Int, x5.length + (vb n).length < 140737488355328 →
    Ev (fun k => varint_Put.l0 k (x5 ++ vb n) l L (wrap64 (i + 1))) r → Ev (fun k => varint_Put.l1 k x5 (n : Int) l L i) r := by
  induction n using Nat.strongRecOn with
  | ind n ih =>
    intro x5 hl he
    by_cases h : n < 128
    · rw [vb_small h] at hl he
      refine Ev.step (fun k => ?_) he
      simp only [List.length_singleton] at hl
      rw [varint_Put.l1, if_neg (by omega), if_pos (by omega), show (n : Int) % 256 = n from by omega]
    · rw [vb_big h] at hl he
      simp only [List.length_cons] at hl
      refine Ev.step (f := fun k => varint_Put.l1 k (x5 ++ [((n % 128 + 128 : Nat) : Int)]) ((n / 128 : Nat) : Int) l L i) (fun k => ?_) (ih (n / 128) (by omega) _ (by simp only [List.length_append, List.length_singleton]; omega) (by rw [List.append_assoc]; exact he))
      rw [varint_Put.l1, if_pos (by omega), if_pos (by omega), Base.u8_or128 _ (by omega) (by omega), show (n : Int) % 256 % 128 + 128 = ((n % 128 + 128 : Nat) : Int) from by omega]
      rfl
theorem put_loop (l : List Int) (hl : l.length ≤ 9223372036854775) (hw : ∀ x ∈ l, (Lit.int .u64 x).wf = true) : ∀ (t : List Int) (i : Nat) (x5 : List Int), l.drop i = t → i ≤ l.length → x5.length + 10 * t.length < 140737488355328 →
    Ev (fun k => varint_Put.l0 k x5 l (l.length : Int) (i : Int)) (x5 ++ flat t) := by
  intro t
  induction t with
  | nil =>
    intro i x5 hd hi hb
    have := drop_end hi hd
    refine Ev.step (f := fun _ => some (x5 ++ flat [])) (fun k => ?_) (Ev.now _)
    rw [varint_Put.l0, if_neg (by omega)]; simp [flat]
  | cons x t ih =>
    intro i x5 hd hi hb
    obtain ⟨hr, hlt, hd'⟩ := rd_drop hd
    have hx := wf_u64 (hw x (List.mem_of_mem_drop (by rw [hd]; exact List.mem_cons_self)))
    have h10 := vb_len10 (n := x.toNat) (by omega)
    simp only [List.length_cons] at hb
    rw [flat_cons, ← List.append_assoc]
    have he := ih (i + 1) (x5 ++ vb x.toNat) hd' (by omega) (by rw [List.length_append]; omega)
    refine Ev.step (f := fun k => varint_Put.l1 k x5 ((x.toNat : Nat) : Int) l (l.length : Int) (i : Int)) (fun k => ?_) (put_inner l _ _ _ x.toNat x5 (by omega) (by rw [w64 (by omega) (by omega)]; exact he))
    rw [varint_Put.l0, if_pos (by omega), if_pos (by omega), if_pos (by omega), hr, show ((x.toNat : Nat) : Int) = x from by omega]
theorem put_ev (b l : List Int) (hb : b.length ≤ 100000000000000) (hl : l.length ≤ 1000000000000) (hw : ∀ x ∈ l, (Lit.int .u64 x).wf = true) : Ev (fun k => varint_Put.f k b l) (b ++ flat l) := by
  unfold varint_Put.f
  rw [show bytes_Clone.f b = some b from by rw [bytes_Clone.f, if_pos (by omega)]]
  exact put_loop l (by omega) hw l 0 b rfl (by omega) (by omega)

theorem rbytes_loop (n : Nat) : ∀ x3 : List Int, n < 18446744073709551616 → x3.length + (vb n).length < 140737488355328 → Ev (fun k => garboardref02_Bytes.l0 k (n : Int) x3) (x3 ++ vb n) := by
  induction n using Nat.strongRecOn with
  | ind n ih =>
    intro x3 hn hl
    by_cases h : n < 128
    · rw [vb_small h] at hl ⊢
      simp only [List.length_singleton] at hl
      refine Ev.step (f := fun _ => some (x3 ++ [(n : Int)])) (fun k => ?_) (Ev.now _)
      rw [garboardref02_Bytes.l0, if_neg (by omega), if_pos (by omega), show (n : Int) % 256 = n from by omega]
    · rw [vb_big h] at hl ⊢
      simp only [List.length_cons] at hl
      have he := ih (n / 128) (by omega) (x3 ++ [((n % 128 + 128 : Nat) : Int)]) (by omega) (by simp only [List.length_append, List.length_singleton]; omega)
      rw [List.append_assoc] at he
      refine Ev.step (f := fun k => garboardref02_Bytes.l0 k ((n / 128 : Nat) : Int) (x3 ++ [((n % 128 + 128 : Nat) : Int)])) (fun k => ?_) he
      have e1 : Int.tdiv (n : Int) 128 = ((n / 128 : Nat) : Int) := by rw [Int.tdiv_eq_ediv_of_nonneg (by omega)]; rfl
      have e2 : Int.tmod (n : Int) 128 = ((n % 128 : Nat) : Int) := by rw [Int.tmod_eq_emod_of_nonneg (by omega)]; rfl
      rw [garboardref02_Bytes.l0, if_pos (by omega), if_pos (by omega), e1, e2, wu64 (by omega) (by omega), show (((n % 128 : Nat) : Int) + 128) % 256 = ((n % 128 + 128 : Nat) : Int) from by omega]
theorem rbytes_ev (x : Int) (h : (Lit.int .u64 x).wf = true) : Ev (fun k => garboardref02_Bytes.f k x) (vb x.toNat) := by
  have hx := wf_u64 h
  have h10 := vb_len10 (n := x.toNat) (by omega)
  have := rbytes_loop x.toNat [] (by omega) (by simp; omega)
  rw [show ((x.toNat : Nat) : Int) = x from by omega, List.nil_append] at this
  exact this
theorem rput_loop (l : List Int) (hl : l.length ≤ 9223372036854775) (hw : ∀ x ∈ l, (Lit.int .u64 x).wf = true) : ∀ (t : List Int) (i : Nat) (x5 : List Int), l.drop i = t → i ≤ l.length → x5.length + 10 * t.length < 140737488355328 →
    Ev (fun k => garboardref02_Put.l0 k l x5 (i : Int)) (x5 ++ flat t) := by
  intro t
  induction t with
  | nil =>
    intro i x5 hd hi hb
    have := drop_end hi hd
    refine Ev.step (f := fun _ => some (x5 ++ flat [])) (fun k => ?_) (Ev.now _)
    rw [garboardref02_Put.l0, if_neg (by omega)]; simp [flat]
  | cons x t ih =>
    intro i x5 hd hi hb
    obtain ⟨hr, hlt, hd'⟩ := rd_drop hd
    have hx := hw x (List.mem_of_mem_drop (by rw [hd]; exact List.mem_cons_self))
    have hx' := wf_u64 hx
    have h10 := vb_len10 (n := x.toNat) (by omega)
    simp only [List.length_cons] at hb
    rw [flat_cons, ← List.append_assoc]
    have he := ih (i + 1) (x5 ++ vb x.toNat) hd' (by omega) (by rw [List.length_append]; omega)
    refine Ev.step (f := fun k => (garboardref02_Bytes.f k x).bind fun t177 => (if x5.length + t177.length < 140737488355328 then (garboardref02_Put.l0 k l (x5 ++ t177) ((i + 1 : Nat) : Int)) else none)) (fun k => ?_) (Ev.bind (rbytes_ev x hx) (ev_ifT (by omega) he))
    rw [garboardref02_Put.l0, if_pos (by omega), if_pos (by omega), hr, w64 (by omega) (by omega)]
    rfl
theorem rput_ev (b l : List Int) (hb : b.length ≤ 100000000000000) (hl : l.length ≤ 1000000000000) (hw : ∀ x ∈ l, (Lit.int .u64 x).wf = true) : Ev (fun k => garboardref02_Put.f k b l) (b ++ flat l) := by
  unfold garboardref02_Put.f
  refine ev_ifT (by simp; omega) ?_
  rw [List.nil_append]
  exact rput_loop l (by omega) hw l 0 b rfl (by omega) (by omega)

/-! ### how many bytes -/
/-! ### folding -/
theorem xor_zero_u64 (x : Int) (h0 : 0 ≤ x) (h1 : x < 18446744073709551616) : bits .xor .u64 x 0 = x := by
  obtain ⟨a, rfl⟩ := Int.eq_ofNat_of_zero_le h0
  have := bits_xor_u64_nat a 0 (by omega) (by decide)
  rw [Nat.xor_zero] at this; exact this
theorem xor_ones_u64 (x : Int) (h0 : 0 ≤ x) (h1 : x < 18446744073709551616) : bits .xor .u64 x 18446744073709551615 = 18446744073709551615 - x := by
  have h : BitVec.ofInt 64 (18446744073709551615 : Int) = BitVec.allOnes 64 := by decide +kernel
  show IntKind.u64.wrap ((BitVec.ofInt 64 x ^^^ BitVec.ofInt 64 18446744073709551615).toNat : Int) = _
  rw [h, BitVec.xor_allOnes, BitVec.toNat_not, BitVec.toNat_ofInt, wu64']
  omega
theorem xor_zero_i64 (x : Int) (h0 : 0 ≤ x) (h1 : x ≤ 9223372036854775807) : bits .xor .i64 x 0 = x := by
  have h : BitVec.ofInt 64 (0 : Int) = 0#64 := by decide +kernel
  show IntKind.i64.wrap ((BitVec.ofInt 64 x ^^^ BitVec.ofInt 64 0).toNat : Int) = _
  rw [h, BitVec.xor_zero, BitVec.toNat_ofInt, IntKind.wrap_i64]
  omega
theorem xor_ones_i64 (x : Int) (h0 : 0 ≤ x) (h1 : x ≤ 9223372036854775807) : bits .xor .i64 x (-1) = -1 - x := by
  have h : BitVec.ofInt 64 (-1 : Int) = BitVec.allOnes 64 := by decide +kernel
  show IntKind.i64.wrap ((BitVec.ofInt 64 x ^^^ BitVec.ofInt 64 (-1)).toNat : Int) = _
  rw [h, BitVec.xor_allOnes, BitVec.toNat_not, BitVec.toNat_ofInt, IntKind.wrap_i64]
  omega
def foldI (a : Int) : Int := if a ≥ 0 then 2 * a else -2 * a - 1
def unfoldI (a : Int) : Int := if a % 2 = 0 then a / 2 else -(a / 2) - 1
theorem and1 (a : Int) (h0 : 0 ≤ a) (h1 : a < 18446744073709551616) : bits .and .u64 a 1 = a % 2 := and_mask64 1 (by decide) a h0 h1
end Go.Proofs.Ytbfmbjkalldonaa.Var
