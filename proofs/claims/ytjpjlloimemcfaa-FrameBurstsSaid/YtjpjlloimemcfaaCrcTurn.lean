/- A burst, by the program and by the document: the same bits turned; no condition but that bytes are bytes and rows not long. -/
import Derived.Test.YtjpjlloimemcfaaPAx14
import Derived.Test.YtjpjlloimemcfaaCrcRef
namespace Go.Proofs.Ytjpjlloimemcfaa.Crc
set_option linter.unusedVariables false
set_option linter.unusedSimpArgs false
open Go.RowKit Go.Proofs.Ytjpjlloimemcfaa.PA Go.Proofs.YtjpjlloimemcfaaW.PrintWords Go.Proofs.YtjpjlloimemcfaaW.PrintLast Go.Proofs.YtjpjlloimemcfaaW.PrintMore Go.Proofs.Ytjpjlloimemcfaa.Base

/-! ### one bit -/
def x8 (v : Int) (r : Nat) : Int := bits .xor .u8 v (2 ^ r)
theorem x8_all : ∀ (v : Fin 256) (r : Fin 8), BitVec.ofNat 32 (x8 (v.val : Int) r.val).toNat = BitVec.ofNat 32 v.val ^^^ (1#32 <<< r.val) ∧ 0 ≤ x8 (v.val : Int) r.val ∧ x8 (v.val : Int) r.val ≤ 255 := by decide +kernel
theorem x8_is {v : Int} {r : Nat} (h0 : 0 ≤ v) (h1 : v ≤ 255) (hr : r < 8) : BitVec.ofNat 32 (x8 v r).toNat = BitVec.ofNat 32 v.toNat ^^^ (1#32 <<< r) ∧ 0 ≤ x8 v r ∧ x8 v r ≤ 255 := by
  obtain ⟨m, rfl⟩ := Int.eq_ofNat_of_zero_le h0
  exact x8_all ⟨m, by omega⟩ ⟨r, hr⟩
theorem x0_all : ∀ (v : Fin 256), bits .xor .u8 (v.val : Int) 0 = (v.val : Int) := by decide +kernel
theorem x0_is {v : Int} (h0 : 0 ≤ v) (h1 : v ≤ 255) : bits .xor .u8 v 0 = v := by
  obtain ⟨m, rfl⟩ := Int.eq_ofNat_of_zero_le h0
  exact x0_all ⟨m, by omega⟩
theorem and_bit (x : B32) : bits .and .u32 (I x) 1 = if x.getLsbD 0 = true then 1 else 0 := by
  by_cases h : x.getLsbD 0 = true
  · rw [if_pos h]; exact (lsb_and x).mpr h
  · rw [if_neg h, show (1 : Int) = I 1#32 from rfl, andI, show (0 : Int) = I 0#32 from rfl]
    refine congrArg I ?_
    apply BitVec.eq_of_getLsbD_eq
    intro i hi
    rw [BitVec.getLsbD_and]
    rcases Nat.eq_zero_or_pos i with h0 | h0
    · subst h0; simp at h; simp [h]
    · have d : ∀ i < 32, 0 < i → (1#32).getLsbD i = false := by decide
      rw [d i hi h0, Bool.and_false]; simp
theorem bit_at (m : B32) (j : Nat) (hj : j < 32) : bits .and .u32 (shr .u32 (I m) (j : Int)) 1 = if m.getLsbD j = true then 1 else 0 := by
  have e : shr .u32 (I m) (j : Int) = I (m >>> j) := by
    unfold shr
    rw [show min (j : Int).toNat IntKind.u32.bits = j from by
      have : IntKind.u32.bits = 32 := rfl
      omega, shrI]
  rw [e, and_bit, BitVec.getLsbD_ushiftRight, Nat.add_zero]
theorem shl_one : ∀ r : Fin 8, shl .u8 ((1 : Int) % 256) (r.val : Int) = 2 ^ r.val ∧ shl .u8 1 (r.val : Int) = 2 ^ r.val ∧ shl .u8 ((0 : Int) % 256) (r.val : Int) = 0 := by decide +kernel

/-! ### the bits of a burst -/
/-- Is bit j of the burst turned, in a row of L bytes? -/
def vj (L : Nat) (at_ : Int) (m : B32) (j : Nat) : Prop := m.getLsbD j = true ∧ 0 ≤ at_ + j ∧ at_ + j < 8 * (L : Int)
instance (L : Nat) (at_ : Int) (m : B32) (j : Nat) : Decidable (vj L at_ m j) := by unfold vj; infer_instance
def W (at_ : Int) (m : B32) (x : List Int) (j : Nat) : List Int :=
  if vj x.length at_ m j then x.set ((at_ + j) / 8).toNat (x8 (rd x ((at_ + j) / 8)) ((at_ + j) % 8).toNat) else x
def bw (at_ : Int) (m : B32) : Nat → Nat → List Int → List Int
  | 0, _, x => x
  | n + 1, j, x => bw at_ m n (j + 1) (W at_ m x j)
theorem W_len (at_ : Int) (m : B32) (x : List Int) (j : Nat) : (W at_ m x j).length = x.length := by
  unfold W; split <;> simp
theorem bw_len (at_ : Int) (m : B32) : ∀ (n j : Nat) (x : List Int), (bw at_ m n j x).length = x.length
  | 0, _, _ => rfl
  | n + 1, j, x => by rw [bw, bw_len at_ m n, W_len]
theorem rd_byte {x : List Int} (hb : Bytes x) {q : Nat} (hq : q < x.length) : rd x (q : Int) = x[q] ∧ 0 ≤ rd x (q : Int) ∧ rd x (q : Int) ≤ 255 := by
  have e : rd x (q : Int) = x[q] := by rw [rd_nat, List.getD_eq_getElem?_getD, List.getElem?_eq_getElem hq]; rfl
  rw [e]
  exact ⟨rfl, hb _ (List.getElem_mem hq)⟩
theorem set_bytes {x : List Int} (hb : Bytes x) (q : Nat) {v : Int} (h0 : 0 ≤ v) (h1 : v ≤ 255) : Bytes (x.set q v) := fun y hy => by
  rcases List.mem_or_eq_of_mem_set hy with h | h
  · exact hb y h
  · subst h; exact ⟨h0, h1⟩
theorem W_bytes {at_ : Int} {m : B32} {x : List Int} {j : Nat} (hb : Bytes x) : Bytes (W at_ m x j) := by
  unfold W
  split
  · rename_i h
    obtain ⟨_, h0, h1⟩ := h
    obtain ⟨q, hq⟩ := Int.eq_ofNat_of_zero_le (show 0 ≤ (at_ + j) / 8 by omega)
    have hl : q < x.length := by omega
    have := rd_byte hb hl
    rw [hq]
    have hx := x8_is this.2.1 this.2.2 (show ((at_ + j) % 8).toNat < 8 by omega)
    exact set_bytes hb _ hx.2.1 hx.2.2
  · exact hb
theorem bw_out {at_ : Int} {m : B32} : ∀ (n j : Nat) (x : List Int), 8 * (x.length : Int) ≤ at_ + j → bw at_ m n j x = x
  | 0, _, _, _ => rfl
  | n + 1, j, x, h => by
    have e : W at_ m x j = x := by unfold W; rw [if_neg (fun c => by obtain ⟨_, _, c⟩ := c; omega)]
    rw [bw, e]
    exact bw_out n (j + 1) x (by omega)
theorem bw_skip {at_ : Int} {m : B32} (x : List Int) : ∀ (j n : Nat), at_ + j ≤ 0 → j ≤ n → bw at_ m n 0 x = bw at_ m (n - j) j x
  | 0, n, _, _ => rfl
  | j + 1, n, h, hn => by
    rw [bw_skip x j n (by omega) (by omega), show n - j = (n - (j + 1)) + 1 by omega, bw]
    have e : W at_ m x j = x := by unfold W; rw [if_neg (fun c => by obtain ⟨_, c, _⟩ := c; omega)]
    rw [e]

/-! ### the program's -/
theorem set_same {x : List Int} {q : Nat} (hq : q < x.length) : x.set q x[q] = x := List.set_getElem_self hq
theorem burst_step (x0 : List Int) (at_ : Int) (m : B32) (x : List Int) (j : Nat) (hx : x.length = x0.length) (hl : x0.length ≤ 100000) (hb : Bytes x) (hj : j < 32) (h0 : 0 ≤ at_ + j) (h1 : at_ + j < 8 * (x0.length : Int)) (q : Nat) :
    crc_Burst.l0 (q + 1) x0 at_ (I m) x (at_ + j) = crc_Burst.l0 q x0 at_ (I m) (W at_ m x j) (at_ + ((j + 1 : Nat) : Int)) := by
  have c1 : at_ + (j : Int) < mn (wrap64 (at_ + 32)) (wrap64 (8 * (x0.length : Int))) := by
    rw [w64 (x := at_ + 32) (by omega) (by omega), w64 (x := 8 * (x0.length : Int)) (by omega) (by omega)]
    unfold mn; split <;> omega
  have td : Int.tdiv (at_ + j) 8 = (at_ + j) / 8 := Int.tdiv_eq_ediv_of_nonneg h0
  have tm : Int.tmod (at_ + j) 8 = (at_ + j) % 8 := Int.tmod_eq_emod_of_nonneg h0
  rw [crc_Burst.l0, if_pos c1, td, tm, w64 (x := (at_ + j) / 8) (by omega) (by omega), if_pos (by omega), if_pos (by omega), w64 (x := at_ + j - at_) (by omega) (by omega), if_pos (by omega), if_pos (by omega), w64 (x := at_ + j + 1) (by omega) (by omega)]
  rw [show at_ + (j : Int) - at_ = (j : Int) by omega, bit_at m j hj, show at_ + (j : Int) + 1 = at_ + ((j + 1 : Nat) : Int) by omega]
  refine congrArg (fun z => crc_Burst.l0 q x0 at_ (I m) z (at_ + ((j + 1 : Nat) : Int))) ?_
  obtain ⟨r, hr⟩ := Int.eq_ofNat_of_zero_le (show 0 ≤ (at_ + j) % 8 by omega)
  have hr8 : r < 8 := by omega
  have so := shl_one ⟨r, hr8⟩
  unfold W
  by_cases h : m.getLsbD j = true
  · rw [if_pos h, if_pos ⟨h, h0, by rw [hx]; exact h1⟩, hr, so.1]
    rfl
  · rw [if_neg h, if_neg (fun c => h c.1), hr, so.2.2]
    obtain ⟨qq, hq⟩ := Int.eq_ofNat_of_zero_le (show 0 ≤ (at_ + j) / 8 by omega)
    have hl : qq < x.length := by omega
    have := rd_byte hb hl
    rw [hq, x0_is this.2.1 this.2.2, this.1, Int.toNat_natCast]
    exact set_same hl
theorem burst_loop (x0 : List Int) (at_ : Int) (m : B32) (hl : x0.length ≤ 100000) (hlo : -32 < at_) (hhi : at_ < 8 * (x0.length : Int)) : ∀ (n j : Nat) (x : List Int), n + j = 32 → x.length = x0.length → Bytes x → 0 ≤ at_ + j →
    Ev (fun k => crc_Burst.l0 k x0 at_ (I m) x (at_ + j)) (bw at_ m n j x)
  | 0, j, x, hn, hx, hb, h0 => by
    refine Ev.step (f := fun _ => some x) (fun q => ?_) (Ev.now _)
    rw [crc_Burst.l0, if_neg]
    rw [w64 (x := at_ + 32) (by omega) (by omega), w64 (x := 8 * (x0.length : Int)) (by omega) (by omega)]
    unfold mn; split <;> omega
  | n + 1, j, x, hn, hx, hb, h0 => by
    by_cases h1 : at_ + j < 8 * (x0.length : Int)
    · rw [bw]
      exact Ev.step (fun q => burst_step x0 at_ m x j hx hl hb (by omega) h0 h1 q) (burst_loop x0 at_ m hl hlo hhi n (j + 1) (W at_ m x j) (by omega) (by rw [W_len, hx]) (W_bytes hb) (by omega))
    · rw [bw_out (n + 1) j x (by omega)]
      refine Ev.step (f := fun _ => some x) (fun q => ?_) (Ev.now _)
      rw [crc_Burst.l0, if_neg]
      rw [w64 (x := at_ + 32) (by omega) (by omega), w64 (x := 8 * (x0.length : Int)) (by omega) (by omega)]
      unfold mn; split <;> omega
def burstV (l : List Int) (at_ : Int) (m : B32) : List Int := if at_ ≤ -32 ∨ 8 * (l.length : Int) ≤ at_ then l else bw at_ m 32 0 l
theorem burst_ev (l : List Int) (at_ : Int) (m : B32) (hl : l.length ≤ 100000) (hb : Bytes l) (ha : -9223372036854775808 ≤ at_ ∧ at_ ≤ 9223372036854775807) :
    Ev (fun k => crc_Burst.f k l at_ (I m)) (burstV l at_ m) := by
  have hj : ∀ x, Ev (fun k => crc_Burst.j0 k l at_ (I m) x true) x := fun x => Ev.step (f := fun _ => some x) (fun q => by rw [crc_Burst.j0, if_pos rfl]) (Ev.now _)
  unfold crc_Burst.f burstV
  refine ev_bindS (a := l) (by rw [bytes_Clone.f, if_pos (by omega)]) ?_
  by_cases h1 : at_ ≤ -32
  · rw [if_pos (.inl h1)]; exact ev_ifT h1 (hj l)
  refine ev_ifF h1 ?_
  rw [w64 (x := 8 * (l.length : Int)) (by omega) (by omega)]
  by_cases h2 : at_ ≥ 8 * (l.length : Int)
  · rw [if_pos (.inr h2), decide_eq_true h2]; exact hj l
  rw [if_neg (by omega), decide_eq_false h2]
  refine Ev.step (f := fun k => crc_Burst.l0 k l at_ (I m) l (mx at_ 0)) (fun q => by rw [crc_Burst.j0, if_neg (by decide)]) ?_
  by_cases h3 : at_ < 0
  · have e : mx at_ 0 = at_ + (((-at_).toNat : Nat) : Int) := by unfold mx; split <;> omega
    rw [e, bw_skip l (-at_).toNat 32 (by omega) (by omega)]
    exact burst_loop l at_ m hl (by omega) (by omega) _ _ l (by omega) rfl hb (by omega)
  · have e : mx at_ 0 = at_ + ((0 : Nat) : Int) := by unfold mx; split <;> omega
    rw [e]
    exact burst_loop l at_ m hl (by omega) (by omega) 32 0 l rfl rfl hb (by omega)

/-! ### the document's -/
end Go.Proofs.Ytjpjlloimemcfaa.Crc
