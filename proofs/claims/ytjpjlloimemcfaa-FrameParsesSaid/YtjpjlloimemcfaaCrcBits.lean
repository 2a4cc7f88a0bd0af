/- The register of crc as 32 bits: four bits at a time by the table are four single steps; the document's bit by bit is the same; no condition but that a byte is a byte. -/
import Derived.Test.YtjpjlloimemcfaaCrc
namespace Go.Proofs.Ytjpjlloimemcfaa.Crc
set_option linter.unusedVariables false
set_option linter.unusedSimpArgs false
open Go.RowKit Go.Proofs.Ytjpjlloimemcfaa.PA Go.Proofs.YtjpjlloimemcfaaW.PrintWords Go.Proofs.YtjpjlloimemcfaaW.PrintLast Go.Proofs.YtjpjlloimemcfaaW.PrintMore Go.Proofs.Ytjpjlloimemcfaa.Base

abbrev B32 := BitVec 32
def I (a : B32) : Int := (a.toNat : Int)
theorem I_bd (a : B32) : 0 ≤ I a ∧ I a < 4294967296 := by
  have := a.isLt
  unfold I; omega
theorem ofI (a : B32) : BitVec.ofInt 32 (I a) = a := by
  apply BitVec.eq_of_toNat_eq
  have := a.isLt
  rw [BitVec.toNat_ofInt]
  unfold I; omega
theorem I_of {n : Int} (h0 : 0 ≤ n) (h1 : n < 4294967296) : ∃ a : B32, n = I a := by
  refine ⟨BitVec.ofNat 32 n.toNat, ?_⟩
  unfold I
  rw [BitVec.toNat_ofNat]; omega
theorem wrapI (a : B32) : IntKind.u32.wrap (a.toNat : Int) = I a := by
  have := a.isLt
  rw [IntKind.wrap_u32]; unfold I; omega
theorem xorI (a b : B32) : bits .xor .u32 (I a) (I b) = I (a ^^^ b) := by
  have h : bits .xor .u32 (I a) (I b) = IntKind.u32.wrap ((BitVec.ofInt 32 (I a) ^^^ BitVec.ofInt 32 (I b)).toNat : Int) := rfl
  rw [h, ofI, ofI, wrapI]
theorem andI (a b : B32) : bits .and .u32 (I a) (I b) = I (a &&& b) := by
  have h : bits .and .u32 (I a) (I b) = IntKind.u32.wrap ((BitVec.ofInt 32 (I a) &&& BitVec.ofInt 32 (I b)).toNat : Int) := rfl
  rw [h, ofI, ofI, wrapI]
theorem shrI (a : B32) (j : Nat) : I a / 2 ^ j = I (a >>> j) := by
  unfold I
  rw [BitVec.toNat_ushiftRight, Nat.shiftRight_eq_div_pow]
  simp
theorem I_inj {a b : B32} (h : I a = I b) : a = b := by
  apply BitVec.eq_of_toNat_eq
  unfold I at h; omega

/-! ### single steps -/
def P : B32 := 0xEDB88320#32
def T (a : B32) : B32 := (a >>> 1) ^^^ (if a.getLsbD 0 then P else 0#32)
def B (a b : B32) : B32 := (a >>> 1) ^^^ (if (a ^^^ b).getLsbD 0 then P else 0#32)
theorem sel_xor (x y : Bool) : (if (x ^^ y) = true then P else 0#32) = (if x = true then P else 0#32) ^^^ (if y = true then P else 0#32) := by
  cases x <;> cases y <;> decide
theorem T_xor (a b : B32) : T (a ^^^ b) = T a ^^^ T b := by
  unfold T
  rw [BitVec.ushiftRight_xor_distrib, BitVec.getLsbD_xor, sel_xor]
  ac_rfl
theorem B_xor (a c b : B32) : B (a ^^^ c) b = T a ^^^ B c b := by
  unfold T B
  rw [BitVec.xor_assoc a c b, BitVec.ushiftRight_xor_distrib, BitVec.getLsbD_xor (x := a), sel_xor]
  ac_rfl
def T4 (a : B32) : B32 := T (T (T (T a)))
theorem T4_xor (a b : B32) : T4 (a ^^^ b) = T4 a ^^^ T4 b := by unfold T4; rw [T_xor, T_xor, T_xor, T_xor]
def tabB (i : B32) : B32 := BitVec.ofInt 32 (rd nibs (I i))
def nibB (a : B32) : B32 := (a >>> 4) ^^^ tabB (a &&& 15#32)
theorem split4 (x : B32) : x = ((x >>> 4) <<< 4) ^^^ (x &&& 15#32) := by
  have d : ∀ i < 32, (15#32).getLsbD i = decide (i < 4) := by decide
  apply BitVec.eq_of_getLsbD_eq
  intro i hi
  rw [BitVec.getLsbD_xor, BitVec.getLsbD_shiftLeft, BitVec.getLsbD_and, d i hi]
  by_cases h : i < 4
  · simp [h]
  · have : 4 + (i - 4) = i := by omega
    simp [h, hi, BitVec.getLsbD_ushiftRight, this]
theorem T_even {y : B32} (h : y.getLsbD 0 = false) : T y = y >>> 1 := by unfold T; rw [h]; simp
theorem hi4 (x : B32) : T4 ((x >>> 4) <<< 4) = x >>> 4 := by
  have b : ∀ i < 4, ((x >>> 4) <<< 4).getLsbD i = false := fun i hi => by rw [BitVec.getLsbD_shiftLeft]; simp [hi]
  have e1 : T ((x >>> 4) <<< 4) = ((x >>> 4) <<< 4) >>> 1 := T_even (b 0 (by decide))
  have e2 : T (((x >>> 4) <<< 4) >>> 1) = (((x >>> 4) <<< 4) >>> 1) >>> 1 := T_even (by rw [BitVec.getLsbD_ushiftRight]; exact b _ (by decide))
  have e3 : T ((((x >>> 4) <<< 4) >>> 1) >>> 1) = ((((x >>> 4) <<< 4) >>> 1) >>> 1) >>> 1 := T_even (by rw [BitVec.getLsbD_ushiftRight, BitVec.getLsbD_ushiftRight]; exact b _ (by decide))
  have e4 : T (((((x >>> 4) <<< 4) >>> 1) >>> 1) >>> 1) = (((((x >>> 4) <<< 4) >>> 1) >>> 1) >>> 1) >>> 1 := T_even (by rw [BitVec.getLsbD_ushiftRight, BitVec.getLsbD_ushiftRight, BitVec.getLsbD_ushiftRight]; exact b _ (by decide))
  unfold T4
  rw [e1, e2, e3, e4]
  apply BitVec.eq_of_getLsbD_eq
  intro i hi
  simp only [BitVec.getLsbD_ushiftRight, BitVec.getLsbD_shiftLeft]
  by_cases h : 4 + i < 32
  · have h' : 1 + (1 + (1 + (1 + i))) < 32 := by omega
    have h2 : ¬ (1 + (1 + (1 + (1 + i))) < 4) := by omega
    have h3 : 4 + (1 + (1 + (1 + (1 + i))) - 4) = 4 + i := by omega
    simp [h', h2, h3]
  · have h' : ¬ (1 + (1 + (1 + (1 + i))) < 32) := by omega
    simp only [h', decide_false, Bool.false_and]
    exact (BitVec.getLsbD_of_ge x _ (by omega)).symm
theorem lo16 : ∀ m : Fin 16, T4 (BitVec.ofNat 32 m.val) = tabB (BitVec.ofNat 32 m.val) := by decide +kernel
theorem nib_T4 (x : B32) : nibB x = T4 x := by
  have hlt : (x &&& 15#32).toNat < 16 := by
    rw [BitVec.toNat_and]
    exact Nat.lt_of_le_of_lt Nat.and_le_right (by decide)
  have hlo : BitVec.ofNat 32 (x &&& 15#32).toNat = x &&& 15#32 := by simp
  have h := lo16 ⟨(x &&& 15#32).toNat, hlt⟩
  simp only [hlo] at h
  conv => rhs; rw [split4 x, T4_xor, hi4, h]
  rfl
theorem nibI (a : B32) : nib (I a) = I (nibB a) := by
  unfold nib nibB
  have e : (15 : Int) = I 15#32 := rfl
  have e16 : I a / (16 : Int) = I (a >>> 4) := shrI a 4
  rw [e16, e, andI]
  have hlt : (a &&& 15#32).toNat < 16 := by
    rw [BitVec.toNat_and]
    exact Nat.lt_of_le_of_lt Nat.and_le_right (by decide)
  have ht : rd nibs (I (a &&& 15#32)) = I (tabB (a &&& 15#32)) := by
    have : ∀ m : Fin 16, rd nibs (m.val : Int) = I (BitVec.ofInt 32 (rd nibs (m.val : Int))) := by decide +kernel
    exact this ⟨_, hlt⟩
  rw [ht, xorI]
/-! ### a byte -/
def T8 (a : B32) : B32 := T4 (T4 a)
theorem T8_xor (a b : B32) : T8 (a ^^^ b) = T8 a ^^^ T8 b := by unfold T8; rw [T4_xor, T4_xor]
def B8 (a c : B32) : B32 := B (B (B (B (B (B (B (B a (c >>> 0)) (c >>> 1)) (c >>> 2)) (c >>> 3)) (c >>> 4)) (c >>> 5)) (c >>> 6)) (c >>> 7)
theorem B8_lin (a c : B32) : B8 a c = T8 a ^^^ B8 0#32 c := by
  unfold B8
  conv => lhs; rw [show a = a ^^^ 0#32 by simp]
  rw [B_xor, B_xor, B_xor, B_xor, B_xor, B_xor, B_xor, B_xor]
  rfl
theorem byte256 : ∀ m : Fin 256, B8 0#32 (BitVec.ofNat 32 m.val) = T8 (BitVec.ofNat 32 m.val) := by decide +kernel
theorem byte_step (a : B32) (m : Nat) (hm : m < 256) : B8 a (BitVec.ofNat 32 m) = T8 (a ^^^ BitVec.ofNat 32 m) := by
  rw [B8_lin, byte256 ⟨m, hm⟩, T8_xor]
theorem crcStepI (a : B32) (m : Nat) (hm : m < 256) : crcStep (I a) (m : Int) = I (T8 (a ^^^ BitVec.ofNat 32 m)) := by
  have hc : ((m : Int)) % 4294967296 = I (BitVec.ofNat 32 m) := by
    unfold I; rw [BitVec.toNat_ofNat]; omega
  unfold crcStep
  rw [hc, xorI, nibI, nibI, nib_T4, nib_T4]
  rfl
def refStep (n c j : Int) : Int := if bits .and .u32 (bits .xor .u32 n ((shr .u8 c j) % 4294967296)) 1 = 1 then bits .xor .u32 (n / 2) 3988292384 else n / 2
theorem lsb_and (x : B32) : (bits .and .u32 (I x) 1 = 1) ↔ x.getLsbD 0 = true := by
  rw [show (1 : Int) = I 1#32 from rfl, andI]
  constructor
  · intro h
    have := I_inj h
    have h2 := congrArg (fun z : B32 => z.getLsbD 0) this
    simpa using h2
  · intro h
    refine congrArg I ?_
    apply BitVec.eq_of_getLsbD_eq
    intro i hi
    rw [BitVec.getLsbD_and]
    rcases Nat.eq_zero_or_pos i with h0 | h0
    · subst h0; simpa using h
    · have d : ∀ i < 32, 0 < i → (1#32).getLsbD i = false := by decide
      rw [d i hi h0, Bool.and_false]
theorem refStepI (a : B32) (m j : Nat) (hm : m < 256) (hj : j < 8) : refStep (I a) (m : Int) (j : Int) = I (B a (BitVec.ofNat 32 m >>> j)) := by
  have hs : (shr .u8 (m : Int) (j : Int)) % 4294967296 = I (BitVec.ofNat 32 m >>> j) := by
    unfold shr
    rw [show min (j : Int).toNat IntKind.u8.bits = j from by
      have : IntKind.u8.bits = 8 := rfl
      omega, ← shrI]
    have hc : I (BitVec.ofNat 32 m) = (m : Int) := by unfold I; rw [BitVec.toNat_ofNat]; omega
    rw [hc]
    have h1 : (0 : Int) ≤ (m : Int) / 2 ^ j := Int.ediv_nonneg (by omega) (Int.le_of_lt (Int.pow_pos (by decide)))
    have h2 : (m : Int) / 2 ^ j ≤ m := Int.ediv_le_self _ (by omega)
    exact Int.emod_eq_of_lt h1 (by omega)
  unfold refStep B
  have e2 : I a / (2 : Int) = I (a >>> 1) := shrI a 1
  rw [hs, xorI, e2, show (3988292384 : Int) = I P from rfl, xorI]
  by_cases h : (a ^^^ BitVec.ofNat 32 m >>> j).getLsbD 0 = true
  · rw [if_pos ((lsb_and _).mpr h), if_pos h]
  · rw [if_neg (fun c => h ((lsb_and _).mp c)), if_neg h]; simp
end Go.Proofs.Ytjpjlloimemcfaa.Crc
