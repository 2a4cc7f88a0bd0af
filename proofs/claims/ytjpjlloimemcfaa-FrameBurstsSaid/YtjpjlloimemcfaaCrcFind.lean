/- A burst is always found: the register is linear in the bits, and a step is never lost; no condition but that bytes are bytes and rows not long. -/
import Derived.Test.YtjpjlloimemcfaaCrcTurn
namespace Go.Proofs.Ytjpjlloimemcfaa.Crc
set_option linter.unusedVariables false
set_option linter.unusedSimpArgs false
open Go.RowKit Go.Proofs.Ytjpjlloimemcfaa.PA Go.Proofs.YtjpjlloimemcfaaW.PrintWords Go.Proofs.YtjpjlloimemcfaaW.PrintLast Go.Proofs.YtjpjlloimemcfaaW.PrintMore Go.Proofs.Ytjpjlloimemcfaa.Base

def Tn : Nat → B32 → B32
  | 0, a => a
  | n + 1, a => Tn n (T a)
theorem Tn_add : ∀ (m n : Nat) (a : B32), Tn (m + n) a = Tn n (Tn m a)
  | 0, n, a => by rw [Nat.zero_add]; rfl
  | m + 1, n, a => by rw [show m + 1 + n = (m + n) + 1 by omega, Tn, Tn_add m n]; rfl
theorem Tn_xor : ∀ (n : Nat) (a b : B32), Tn n (a ^^^ b) = Tn n a ^^^ Tn n b
  | 0, a, b => rfl
  | n + 1, a, b => by rw [Tn, T_xor, Tn_xor n]; rfl
theorem T8_Tn (a : B32) : T8 a = Tn 8 a := rfl
theorem T_zero {a : B32} (h : T a = 0#32) : a = 0#32 := by
  have hl : a.getLsbD 0 = false := by
    cases h0 : a.getLsbD 0 with
    | false => rfl
    | true =>
      have e := congrArg (fun z : B32 => z.getLsbD 31) h
      unfold T at e
      rw [h0, if_pos rfl] at e
      simp only [BitVec.getLsbD_xor, BitVec.getLsbD_ushiftRight] at e
      rw [BitVec.getLsbD_of_ge a (1 + 31) (by decide), show P.getLsbD 31 = true by decide] at e
      simp at e
  rw [T_even hl] at h
  apply BitVec.eq_of_getLsbD_eq
  intro i hi
  rcases i with _ | i
  · rw [hl]; simp
  · have e := congrArg (fun z : B32 => z.getLsbD i) h
    simp only [BitVec.getLsbD_ushiftRight] at e
    rw [Nat.add_comm] at e
    rw [e]; simp
theorem Tn_zero : ∀ (n : Nat) {a : B32}, Tn n a = 0#32 → a = 0#32
  | 0, a, h => h
  | n + 1, a, h => T_zero (Tn_zero n h)
theorem Tn_inj {n : Nat} {a b : B32} (h : Tn n a = Tn n b) : a = b := by
  have e : Tn n (a ^^^ b) = 0#32 := by rw [Tn_xor, h, BitVec.xor_self]
  have := Tn_zero n e
  have h2 : a ^^^ b ^^^ b = 0#32 ^^^ b := by rw [this]
  rw [BitVec.xor_assoc, BitVec.xor_self, BitVec.xor_zero, BitVec.zero_xor] at h2
  exact h2
theorem one_bit : ∀ j : Fin 32, Tn j.val (1#32 <<< j.val) = 1#32 := by decide +kernel
/-! ### the register -/
theorem stepB_xor (a b : B32) (c : Int) : stepB (a ^^^ b) c = stepB a c ^^^ Tn 8 b := by
  unfold stepB
  rw [← T8_Tn, ← T8_xor]
  refine congrArg T8 ?_
  ac_rfl
theorem reg_xor : ∀ (l : List Int) (a b : B32), reg l (a ^^^ b) = reg l a ^^^ Tn (8 * l.length) b
  | [], a, b => rfl
  | c :: t, a, b => by
    show reg t (stepB (a ^^^ b) c) = reg t (stepB a c) ^^^ _
    rw [stepB_xor, reg_xor t, ← Tn_add, List.length_cons, show 8 + 8 * t.length = 8 * (t.length + 1) by omega]
theorem reg_flip : ∀ (x : List Int) (q r : Nat) (a : B32), Bytes x → q < x.length → r < 8 →
    reg (x.set q (x8 (rd x (q : Int)) r)) a = reg x a ^^^ Tn (8 * (x.length - q)) (1#32 <<< r)
  | [], q, r, a, _, h, _ => absurd h (by simp)
  | c :: t, 0, r, a, hb, _, hr => by
    have hc := hb c (by simp)
    have e : rd (c :: t) ((0 : Nat) : Int) = c := rfl
    rw [e, List.set_cons_zero]
    show reg t (stepB a (x8 c r)) = reg t (stepB a c) ^^^ _
    have hx := x8_is hc.1 hc.2 hr
    have e2 : stepB a (x8 c r) = stepB a c ^^^ Tn 8 (1#32 <<< r) := by
      unfold stepB
      rw [hx.1, ← T8_Tn, ← T8_xor]
      refine congrArg T8 ?_
      ac_rfl
    rw [e2, reg_xor, ← Tn_add, List.length_cons, show 8 + 8 * t.length = 8 * (t.length + 1 - 0) by omega]
  | c :: t, q + 1, r, a, hb, h, hr => by
    have e : rd (c :: t) ((q + 1 : Nat) : Int) = rd t (q : Int) := by rw [rd_nat, rd_nat]; rfl
    rw [e, List.set_cons_succ]
    show reg (t.set q _) (stepB a c) = reg t (stepB a c) ^^^ _
    rw [reg_flip t q r (stepB a c) (fun y hy => hb y (by simp [hy])) (by simpa using h) hr, List.length_cons, show t.length + 1 - (q + 1) = t.length - q by omega]
/-! ### a burst in the register -/
def mk (L : Nat) (at_ : Int) (m : B32) : Nat → Nat → B32
  | 0, _ => 0#32
  | n + 1, j => (if vj L at_ m j then 1#32 <<< j else 0#32) ^^^ mk L at_ m n (j + 1)
theorem W_reg (at_ : Int) (m : B32) (x : List Int) (j : Nat) (a : B32) (hb : Bytes x) (hj : j < 32) (hat : at_ < 8 * (x.length : Int)) :
    reg (W at_ m x j) a = reg x a ^^^ Tn (8 * (x.length : Int) - at_).toNat (if vj x.length at_ m j then 1#32 <<< j else 0#32) := by
  unfold W
  by_cases h : vj x.length at_ m j
  · rw [if_pos h, if_pos h]
    obtain ⟨_, h0, h1⟩ := h
    obtain ⟨q, hq⟩ := Int.eq_ofNat_of_zero_le (show 0 ≤ (at_ + j) / 8 by omega)
    obtain ⟨r, hr⟩ := Int.eq_ofNat_of_zero_le (show 0 ≤ (at_ + j) % 8 by omega)
    rw [hq, hr, Int.toNat_natCast, Int.toNat_natCast, reg_flip x q r a hb (by omega) (by omega)]
    refine congrArg (reg x a ^^^ ·) ?_
    have b1 := one_bit ⟨r, by omega⟩
    have b2 := one_bit ⟨j, hj⟩
    simp only at b1 b2
    rw [show 8 * (x.length - q) = r + (8 * (x.length - q) - r) by omega, Tn_add, b1, show (8 * (x.length : Int) - at_).toNat = j + (8 * (x.length - q) - r) by omega, Tn_add, b2]
  · rw [if_neg h, if_neg h]
    have z : ∀ n, Tn n 0#32 = 0#32 := fun n => by
      have := Tn_xor n 0#32 0#32
      rw [BitVec.xor_self, BitVec.xor_self] at this
      exact this
    rw [z, BitVec.xor_zero]
theorem bw_reg (at_ : Int) (m : B32) (a : B32) : ∀ (n j : Nat) (x : List Int), n + j = 32 → Bytes x → at_ < 8 * (x.length : Int) →
    reg (bw at_ m n j x) a = reg x a ^^^ Tn (8 * (x.length : Int) - at_).toNat (mk x.length at_ m n j)
  | 0, j, x, hn, hb, hat => by
    have z : ∀ n, Tn n 0#32 = 0#32 := fun n => by
      have := Tn_xor n 0#32 0#32
      rw [BitVec.xor_self, BitVec.xor_self] at this
      exact this
    rw [bw, mk, z, BitVec.xor_zero]
  | n + 1, j, x, hn, hb, hat => by
    rw [bw, bw_reg at_ m a n (j + 1) (W at_ m x j) (by omega) (W_bytes hb) (by rw [W_len]; exact hat), W_reg at_ m x j a hb (by omega) hat, W_len, mk, Tn_xor, BitVec.xor_assoc]
theorem mk_low (L : Nat) (at_ : Int) (m : B32) : ∀ (n j i : Nat), i < j → (mk L at_ m n j).getLsbD i = false
  | 0, j, i, h => by rw [mk]; simp
  | n + 1, j, i, h => by
    rw [mk, BitVec.getLsbD_xor, mk_low L at_ m n (j + 1) i (by omega), Bool.xor_false]
    split
    · rw [BitVec.getLsbD_shiftLeft]; simp [h]
    · simp
theorem mk_zero (at_ : Int) (m : B32) : ∀ (n j : Nat) (x : List Int), n + j = 32 → mk x.length at_ m n j = 0#32 → bw at_ m n j x = x
  | 0, j, x, hn, h => rfl
  | n + 1, j, x, hn, h => by
    have hj : j < 32 := by omega
    have hv : ¬ vj x.length at_ m j := fun hv => by
      have e := congrArg (fun z : B32 => z.getLsbD j) h
      simp only [mk, if_pos hv, BitVec.getLsbD_xor] at e
      rw [mk_low _ at_ m n (j + 1) j (by omega), Bool.xor_false] at e
      have d : ∀ j : Fin 32, (1#32 <<< j.val).getLsbD j.val = true := by decide
      rw [d ⟨j, hj⟩] at e
      simp at e
    rw [mk, if_neg hv, BitVec.zero_xor] at h
    have e : W at_ m x j = x := by unfold W; rw [if_neg hv]
    rw [bw, e]
    exact mk_zero at_ m n (j + 1) x (by omega) h
/-! ### what is opened -/
theorem split8 (x : B32) : x = ((x >>> 8) <<< 8) ^^^ (x &&& 255#32) := by
  have d : ∀ i < 32, (255#32).getLsbD i = decide (i < 8) := by decide
  apply BitVec.eq_of_getLsbD_eq
  intro i hi
  rw [BitVec.getLsbD_xor, BitVec.getLsbD_shiftLeft, BitVec.getLsbD_and, d i hi]
  by_cases h : i < 8
  · simp [h]
  · have : 8 + (i - 8) = i := by omega
    simp [h, hi, BitVec.getLsbD_ushiftRight, this]
theorem Tn_low : ∀ (n : Nat) (y : B32), (∀ i, i < n → y.getLsbD i = false) → Tn n y = y >>> n
  | 0, y, _ => by rw [Tn]; simp
  | n + 1, y, h => by
    rw [Tn, T_even (h 0 (by omega)), Tn_low n _ (fun i hi => by rw [BitVec.getLsbD_ushiftRight, Nat.add_comm]; exact h _ (by omega))]
    apply BitVec.eq_of_getLsbD_eq
    intro i hi
    simp only [BitVec.getLsbD_ushiftRight]
    rw [show 1 + (n + i) = n + 1 + i by omega]
theorem hi8 (x : B32) : Tn 8 ((x >>> 8) <<< 8) = x >>> 8 := by
  rw [Tn_low 8 _ (fun i hi => by rw [BitVec.getLsbD_shiftLeft]; simp [hi])]
  apply BitVec.eq_of_getLsbD_eq
  intro i hi
  simp only [BitVec.getLsbD_ushiftRight, BitVec.getLsbD_shiftLeft]
  by_cases h : 8 + i < 32
  · have h2 : ¬ (8 + i < 8) := by omega
    have h3 : 8 + (8 + i - 8) = 8 + i := by omega
    simp [h, h2, h3]
  · simp only [h, decide_false, Bool.false_and]
    exact (BitVec.getLsbD_of_ge x _ (by omega)).symm
theorem step_low (r c : B32) (y : Int) (hy : y = I (c &&& 255#32)) : stepB r y = Tn 8 (r ^^^ c) ^^^ (c >>> 8) := by
  have e : BitVec.ofNat 32 y.toNat = c &&& 255#32 := by
    rw [hy]; unfold I; rw [Int.toNat_natCast]; simp
  unfold stepB
  rw [e, T8_Tn]
  conv => rhs; rw [split8 c]
  rw [Tn_xor, Tn_xor, Tn_xor, hi8, ← split8]
  have : ∀ a b d : B32, a ^^^ b = a ^^^ (d ^^^ b) ^^^ d := fun a b d => by
    rw [show a ^^^ (d ^^^ b) ^^^ d = a ^^^ b ^^^ (d ^^^ d) by ac_rfl, BitVec.xor_self, BitVec.xor_zero]
  exact this _ _ _
theorem b4_I (c : B32) : b4 (I c) = [I (c &&& 255#32), I ((c >>> 8) &&& 255#32), I ((c >>> 16) &&& 255#32), I ((c >>> 24) &&& 255#32)] := by
  have h : ∀ x : B32, I x % 256 = I (x &&& 255#32) := fun x => by
    unfold I
    rw [BitVec.toNat_and, show (255#32).toNat = 2 ^ 8 - 1 from rfl, Nat.and_two_pow_sub_one_eq_mod]
    simp
  have e8 : I c / (256 : Int) = I (c >>> 8) := shrI c 8
  have e16 : I c / (65536 : Int) = I (c >>> 16) := shrI c 16
  have e24 : I c / (16777216 : Int) = I (c >>> 24) := shrI c 24
  unfold b4
  rw [e8, e16, e24, h, h, h, h]
theorem reg_b4 (r c : B32) : reg (b4 (I c)) r = Tn 32 (r ^^^ c) := by
  rw [b4_I]
  show stepB (stepB (stepB (stepB r _) _) _) _ = _
  have hs : ∀ (a b : Nat), (c >>> a) >>> b = c >>> (a + b) := fun a b => by
    apply BitVec.eq_of_getLsbD_eq
    intro i hi
    simp only [BitVec.getLsbD_ushiftRight]
    rw [show a + (b + i) = a + b + i by omega]
  have x3 : ∀ a b : B32, a ^^^ b ^^^ b = a := fun a b => by rw [BitVec.xor_assoc, BitVec.xor_self, BitVec.xor_zero]
  rw [step_low r c _ rfl, step_low _ (c >>> 8) _ rfl, step_low _ (c >>> 16) _ rfl, step_low _ (c >>> 24) _ rfl, hs, hs, hs]
  simp only [x3, Nat.reduceAdd]
  rw [show c >>> 32 = 0#32 by
    apply BitVec.eq_of_getLsbD_eq
    intro i hi
    rw [BitVec.getLsbD_ushiftRight, BitVec.getLsbD_of_ge c _ (by omega)]; simp, BitVec.xor_zero]
  rfl
theorem reg_append (a b : List Int) (r : B32) : reg (a ++ b) r = reg b (reg a r) := List.foldl_append ..
theorem four_I {y : List Int} (hy : y.length = 4) (hb : Bytes y) : ∃ c : B32, y = b4 (I c) := by
  obtain ⟨a, y, rfl⟩ := List.exists_cons_of_length_eq_add_one hy
  obtain ⟨b, y, rfl⟩ := List.exists_cons_of_length_eq_add_one (show y.length = 2 + 1 by simpa using hy)
  obtain ⟨c, y, rfl⟩ := List.exists_cons_of_length_eq_add_one (show y.length = 1 + 1 by simpa using hy)
  obtain ⟨d, y, rfl⟩ := List.exists_cons_of_length_eq_add_one (show y.length = 0 + 1 by simpa using hy)
  have : y = [] := List.length_eq_zero_iff.mp (by simpa using hy)
  subst this
  have ha := hb a (by simp)
  have hb' := hb b (by simp)
  have hc := hb c (by simp)
  have hd := hb d (by simp)
  obtain ⟨v, hv⟩ := I_of (n := a + 256 * b + 65536 * c + 16777216 * d) (by omega) (by omega)
  refine ⟨v, ?_⟩
  rw [← hv]
  unfold b4
  rw [show (a + 256 * b + 65536 * c + 16777216 * d) % 256 = a by omega, show (a + 256 * b + 65536 * c + 16777216 * d) / 256 % 256 = b by omega, show (a + 256 * b + 65536 * c + 16777216 * d) / 65536 % 256 = c by omega, show (a + 256 * b + 65536 * c + 16777216 * d) / 16777216 % 256 = d by omega]
theorem open_ok (l : List Int) (hb : Bytes l) (h4 : 4 ≤ l.length) : l.drop (l.length - 4) = b4 (sumV (l.take (l.length - 4))) ↔ reg l ones = Tn 32 ones := by
  obtain ⟨c, hc⟩ := four_I (y := l.drop (l.length - 4)) (by rw [List.length_drop]; omega) (hb.drop _)
  have hs := sum_reg (l.take (l.length - 4)) (hb.take _)
  have hr : reg l ones = Tn 32 (reg (l.take (l.length - 4)) ones ^^^ c) := by
    conv => lhs; rw [← List.take_append_drop (l.length - 4) l, hc, reg_append, reg_b4]
  rw [hr, hc, hs]
  generalize reg (l.take (l.length - 4)) ones = R
  constructor
  · intro h
    have e : c = ones ^^^ R := by
      have h' := congrArg (fun y => dig 0 0 + (y.getD 0 0 + 256 * y.getD 1 0 + 65536 * y.getD 2 0 + 16777216 * y.getD 3 0)) h
      simp only [b4, List.getD_cons_zero, List.getD_cons_succ] at h'
      have b1 := I_bd c
      have b2 := I_bd (ones ^^^ R)
      exact I_inj (by omega)
    rw [e, show R ^^^ (ones ^^^ R) = ones ^^^ (R ^^^ R) by ac_rfl, BitVec.xor_self, BitVec.xor_zero]
  · intro h
    have e := Tn_inj h
    have : c = ones ^^^ R := by
      rw [← e, show R ^^^ c ^^^ R = c ^^^ (R ^^^ R) by ac_rfl, BitVec.xor_self, BitVec.xor_zero]
    rw [this]
theorem burst_found (l : List Int) (at_ : Int) (m : B32) (hb : Bytes l) (hne : burstV (sealV l) at_ m ≠ sealV l) : openV (burstV (sealV l) at_ m) = ([], 8) := by
  have hs := seal_len l
  have hbs := seal_bytes hb
  unfold burstV at hne ⊢
  by_cases h : at_ ≤ -32 ∨ 8 * ((sealV l).length : Int) ≤ at_
  · rw [if_pos h] at hne; exact absurd rfl hne
  rw [if_neg h] at hne ⊢
  have hbt : Bytes (bw at_ m 32 0 (sealV l)) := by
    have : ∀ (n j : Nat) (x : List Int), Bytes x → Bytes (bw at_ m n j x) := by
      intro n
      induction n with
      | zero => intro j x hx; exact hx
      | succ n ih => intro j x hx; exact ih (j + 1) _ (W_bytes hx)
    exact this 32 0 _ hbs
  have hlen := bw_len at_ m 32 0 (sealV l)
  have h1 : (sealV l).drop ((sealV l).length - 4) = b4 (sumV ((sealV l).take ((sealV l).length - 4))) := by
    rw [show (sealV l).length - 4 = l.length by omega]
    unfold sealV
    rw [List.drop_left' rfl, List.take_left' rfl]
  have r1 := (open_ok (sealV l) hbs (by omega)).mp h1
  have r2 := bw_reg at_ m ones 32 0 (sealV l) rfl hbs (by omega)
  have hno : ¬ reg (bw at_ m 32 0 (sealV l)) ones = Tn 32 ones := fun hc => by
    rw [r2, r1] at hc
    have e : Tn (8 * ((sealV l).length : Int) - at_).toNat (mk (sealV l).length at_ m 32 0) = 0#32 := by
      have e2 := congrArg (Tn 32 ones ^^^ ·) hc
      rw [← BitVec.xor_assoc, BitVec.xor_self, BitVec.zero_xor] at e2
      exact e2
    exact hne (mk_zero at_ m 32 0 (sealV l) rfl (Tn_zero _ e))
  unfold openV
  rw [if_neg (by omega), if_neg (fun c => hno ((open_ok _ hbt (by omega)).mp c))]
end Go.Proofs.Ytjpjlloimemcfaa.Crc
