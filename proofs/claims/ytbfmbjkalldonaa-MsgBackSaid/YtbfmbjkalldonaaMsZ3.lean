/- msg: MsgBack's walk, and what it leans on; no condition but those that stand in each. -/
import Derived.Test.YtbfmbjkalldonaaPAx23
import Derived.Test.YtbfmbjkalldonaaPAx24
import Derived.Test.YtbfmbjkalldonaaPAx33
import Derived.Test.YtbfmbjkalldonaaBase
import Derived.Test.YtbfmbjkalldonaaPAx27
import Derived.Test.YtbfmbjkalldonaaPAx28
import Derived.Test.YtbfmbjkalldonaaPAx36
import Derived.Lib.Bytes
import Derived.Test.YtbfmbjkalldonaaVarGet
import Derived.Test.YtbfmbjkalldonaaPAx26
import Derived.Test.YtbfmbjkalldonaaPAx34
import Derived.Test.YtbfmbjkalldonaaPAx35
import Derived.Test.YtbfmbjkalldonaaMsZ2
import Derived.Test.YtbfmbjkalldonaaProg
import Derived.Test.YtbfmbjkalldonaaPAx1
import Derived.Deep.QuietTactic
import Derived.BigQuiet
import Derived.BigRegion
import Derived.RegionTactic
import Derived.Deep.RegionHeld3
import Derived.Deep.RegionLaw
import Derived.WalkSpells
import Derived.LoopTactic
import Derived.Deep.LoopGhost
import Derived.Shelf.Abstract
import Derived.OwnWalk
namespace Go.Proofs.Ytbfmbjkalldonaa.Crc
set_option linter.unusedVariables false
set_option linter.unusedSimpArgs false
open Go.RowKit Go.Proofs.Ytbfmbjkalldonaa.PA Go.Proofs.YtbfmbjkalldonaaW.PrintWords Go.Proofs.YtbfmbjkalldonaaW.PrintLast Go.Proofs.YtbfmbjkalldonaaW.PrintMore Go.Proofs.Ytbfmbjkalldonaa.Base

def sumV (l : List Int) : Int := crcAdd 0 l
def b4 (n : Int) : List Int := [n % 256, (n / 256) % 256, (n / 65536) % 256, (n / 16777216) % 256]
def sealV (l : List Int) : List Int := l ++ b4 (sumV l)
def openV (l : List Int) : List Int × Int :=
  if l.length < 4 then ([], 4) else if l.drop (l.length - 4) = b4 (sumV (l.take (l.length - 4))) then (l.take (l.length - 4), 0) else ([], 8)
theorem xor_bd (a b : Int) : 0 ≤ bits .xor .u32 a b ∧ bits .xor .u32 a b < 4294967296 := by
  have h : bits .xor .u32 a b = IntKind.u32.wrap ((BitVec.ofInt 32 a ^^^ BitVec.ofInt 32 b).toNat : Int) := rfl
  rw [h, IntKind.wrap_u32]; omega
theorem sumV_bd (l : List Int) : 0 ≤ sumV l ∧ sumV l < 4294967296 := xor_bd _ _
theorem b4_len (n : Int) : (b4 n).length = 4 := rfl
theorem seal_len (l : List Int) : (sealV l).length = l.length + 4 := by simp [sealV, b4_len]

theorem rdL_drop {xs : List (List Int)} {i : Nat} {c : List Int} {t : List (List Int)} (h : xs.drop i = c :: t) : rd_L4 xs (i : Int) = c ∧ i < xs.length ∧ xs.drop (i + 1) = t := by
  have hl : i < xs.length := by
    rcases Nat.lt_or_ge i xs.length with h' | h'
    · exact h'
    · rw [List.drop_eq_nil_of_le h'] at h; cases h
  have hd := List.drop_eq_getElem_cons hl
  rw [h] at hd
  injection hd with h1 h2
  refine ⟨?_, hl, h2.symm⟩
  show xs.getD ((i : Int)).toNat [] = c
  rw [Int.toNat_natCast, List.getD_eq_getElem?_getD, List.getElem?_eq_getElem hl, h1]; rfl
theorem sumL_ev (ps : List (List Int)) (hl : ps.length ≤ 1000000) : ∀ (t : List (List Int)) (i : Nat) (s : Int), i ≤ ps.length → ps.drop i = t → Ev (fun k => crc_Sum.l0 k ps (ps.length : Int) (i : Int) s) (t.foldl crcAdd s)
  | [], i, s, hi, h => by
    have he : i = ps.length := by
      have := congrArg List.length h
      rw [List.length_drop] at this
      simp at this; omega
    refine Ev.step (f := fun _ => some s) (fun q => ?_) (Ev.now _)
    rw [crc_Sum.l0, if_neg (by omega)]; rfl
  | c :: t, i, s, hi, h => by
    obtain ⟨h1, h2, h3⟩ := rdL_drop h
    refine Ev.step (f := fun q => crc_Sum.l0 q ps (ps.length : Int) ((i + 1 : Nat) : Int) (crcAdd s c)) (fun q => ?_) (sumL_ev ps hl t (i + 1) (crcAdd s c) (by omega) h3)
    rw [crc_Sum.l0, if_pos (by omega), if_pos (by omega), if_pos (by omega), h1, w64 (by omega) (by omega)]
    rfl
theorem sum_ev (ps : List (List Int)) (hl : ps.length ≤ 1000000) : Ev (fun k => crc_Sum.f k ps) (ps.foldl crcAdd 0) :=
  Ev.congr (g := fun k => crc_Sum.f k ps) (f := fun k => crc_Sum.l0 k ps (ps.length : Int) ((0 : Nat) : Int) 0) (fun k => rfl) (sumL_ev ps hl ps 0 0 (Nat.zero_le _) rfl)
theorem sum1_ev (l : List Int) : Ev (fun k => crc_Sum.f k [l]) (sumV l) := sum_ev [l] (by simp)
theorem seal_ev (l : List Int) (hl : l.length ≤ 100000) : Ev (fun k => crc_Seal.f k l) (sealV l) := by
  unfold crc_Seal.f
  refine Ev.bind (sum1_ev l) ?_
  refine Ev.congr (f := fun _ => some (sealV l)) (fun k => ?_) (Ev.now _)
  rw [bytes_Clone.f, if_pos (by omega), Option.bind_some, Option.bind_some, if_pos (by simp only [List.length_cons, List.length_nil]; omega)]
  rfl
def dig (n : Int) (i : Nat) : Int := (n / 2 ^ (8 * i)) % 256
theorem openStep (x0 : List Int) (x4 n : Int) (y : List Int) (hy : y.length = 4) (i : Nat) (hi : i < 4) (q : Nat) :
    crc_Open.l0 (q + 1) x0 x4 n y 4 (i : Int) = if dig n i = y.getD i 0 then crc_Open.l0 q x0 x4 n y 4 ((i + 1 : Nat) : Int) else some ([], 8) := by
  have e : (shr .u32 n (wrap64 (8 * (i : Int)))) % 256 = dig n i := by
    rw [w64 (by omega) (by omega)]
    unfold shr dig
    rw [show min (8 * (i : Int)).toNat IntKind.u32.bits = 8 * i from by
      have : IntKind.u32.bits = 32 := rfl
      omega]
  rw [crc_Open.l0, if_pos (by omega), if_pos (by omega), if_pos (by omega), if_pos (by rw [w64 (by omega) (by omega)]; omega), e, w64 (x := (i : Int) + 1) (by omega) (by omega)]
  rfl
theorem openEnd (x0 : List Int) (x4 n : Int) (y : List Int) (h0 : 0 ≤ x4) (h1 : x4 ≤ (x0.length : Int)) (hl : x0.length ≤ 100000) (q : Nat) :
    crc_Open.l0 (q + 1) x0 x4 n y 4 4 = some (x0.take x4.toNat, 0) := by
  rw [crc_Open.l0, if_neg (by omega), if_pos h0, if_pos h1, bytes_Clone.f, if_pos (by rw [List.length_take]; omega)]
  rfl
theorem list4 {y : List Int} (hy : y.length = 4) (n : Int) : y = b4 n ↔ dig n 0 = y.getD 0 0 ∧ dig n 1 = y.getD 1 0 ∧ dig n 2 = y.getD 2 0 ∧ dig n 3 = y.getD 3 0 := by
  obtain ⟨a, y, rfl⟩ := List.exists_cons_of_length_eq_add_one hy
  obtain ⟨b, y, rfl⟩ := List.exists_cons_of_length_eq_add_one (show y.length = 2 + 1 by simpa using hy)
  obtain ⟨c, y, rfl⟩ := List.exists_cons_of_length_eq_add_one (show y.length = 1 + 1 by simpa using hy)
  obtain ⟨d, y, rfl⟩ := List.exists_cons_of_length_eq_add_one (show y.length = 0 + 1 by simpa using hy)
  have : y = [] := List.length_eq_zero_iff.mp (by simpa using hy)
  subst this
  have d0 : dig n 0 = n % 256 := by simp [dig]
  have d1 : dig n 1 = n / 256 % 256 := rfl
  have d2 : dig n 2 = n / 65536 % 256 := rfl
  have d3 : dig n 3 = n / 16777216 % 256 := rfl
  rw [d0, d1, d2, d3]
  simp only [b4, List.cons.injEq, and_true, List.getD_cons_zero, List.getD_cons_succ]
  constructor
  · rintro ⟨rfl, rfl, rfl, rfl⟩; exact ⟨rfl, rfl, rfl, rfl⟩
  · rintro ⟨h0, h1, h2, h3⟩; exact ⟨h0.symm, h1.symm, h2.symm, h3.symm⟩
theorem openL_ev (x0 : List Int) (x4 n : Int) (y : List Int) (hy : y.length = 4) (h0 : 0 ≤ x4) (h1 : x4 ≤ (x0.length : Int)) (hl : x0.length ≤ 100000) :
    Ev (fun k => crc_Open.l0 k x0 x4 n y 4 0) (if y = b4 n then (x0.take x4.toNat, 0) else ([], 8)) := by
  have hs := openStep x0 x4 n y hy
  by_cases e0 : dig n 0 = y.getD 0 0
  rotate_left
  · rw [if_neg (fun h => e0 ((list4 hy n).mp h).1)]
    exact Ev.step (f := fun _ => some ([], 8)) (fun q => (hs 0 (by decide) q).trans (if_neg e0)) (Ev.now _)
  refine Ev.step (fun q => (hs 0 (by decide) q).trans (if_pos e0)) ?_
  by_cases e1 : dig n 1 = y.getD 1 0
  rotate_left
  · rw [if_neg (fun h => e1 ((list4 hy n).mp h).2.1)]
    exact Ev.step (f := fun _ => some ([], 8)) (fun q => (hs 1 (by decide) q).trans (if_neg e1)) (Ev.now _)
  refine Ev.step (fun q => (hs 1 (by decide) q).trans (if_pos e1)) ?_
  by_cases e2 : dig n 2 = y.getD 2 0
  rotate_left
  · rw [if_neg (fun h => e2 ((list4 hy n).mp h).2.2.1)]
    exact Ev.step (f := fun _ => some ([], 8)) (fun q => (hs 2 (by decide) q).trans (if_neg e2)) (Ev.now _)
  refine Ev.step (fun q => (hs 2 (by decide) q).trans (if_pos e2)) ?_
  by_cases e3 : dig n 3 = y.getD 3 0
  rotate_left
  · rw [if_neg (fun h => e3 ((list4 hy n).mp h).2.2.2)]
    exact Ev.step (f := fun _ => some ([], 8)) (fun q => (hs 3 (by decide) q).trans (if_neg e3)) (Ev.now _)
  refine Ev.step (fun q => (hs 3 (by decide) q).trans (if_pos e3)) ?_
  rw [if_pos ((list4 hy n).mpr ⟨e0, e1, e2, e3⟩)]
  exact Ev.step (f := fun _ => some (x0.take x4.toNat, 0)) (fun q => openEnd x0 x4 n y h0 h1 hl q) (Ev.now _)
theorem open_ev (l : List Int) (hl : l.length ≤ 100000) : Ev (fun k => crc_Open.f k l) (openV l) := by
  unfold crc_Open.f openV
  rw [w64 (x := (l.length : Int) - 4) (by omega) (by omega)]
  by_cases h4 : l.length < 4
  · rw [if_pos h4]; exact ev_ifT (by omega) (Ev.now _)
  rw [if_neg h4]
  refine ev_ifF (by omega) (ev_ifT (by omega) (ev_ifT (by omega) ?_))
  rw [show ((l.length : Int) - 4).toNat = l.length - 4 from by omega]
  refine Ev.bind (sum1_ev _) ?_
  have hy : (l.drop (l.length - 4)).length = 4 := by rw [List.length_drop]; omega
  have := openL_ev l ((l.length : Int) - 4) (sumV (l.take (l.length - 4))) (l.drop (l.length - 4)) hy (by omega) (by omega) hl
  rw [show ((l.length : Int) - 4).toNat = l.length - 4 from by omega] at this
  refine Ev.congr (fun k => ?_) this
  show crc_Open.l0 k l _ _ _ (((l.drop (l.length - 4)).length : Nat) : Int) 0 = _
  rw [hy]; rfl
theorem open_seal (l : List Int) : openV (sealV l) = (l, 0) := by
  have h1 : (sealV l).length - 4 = l.length := by rw [seal_len]; omega
  have h2 : (sealV l).take l.length = l := List.take_left' rfl
  have h3 : (sealV l).drop l.length = b4 (sumV l) := List.drop_left' rfl
  unfold openV
  rw [if_neg (by rw [seal_len]; omega), h1, h2, h3, if_pos rfl]
end Go.Proofs.Ytbfmbjkalldonaa.Crc
namespace Go.Proofs.Ytbfmbjkalldonaa.Crc
set_option linter.unusedVariables false
set_option linter.unusedSimpArgs false
open Go.RowKit Go.Proofs.Ytbfmbjkalldonaa.PA Go.Proofs.YtbfmbjkalldonaaW.PrintWords Go.Proofs.YtbfmbjkalldonaaW.PrintLast Go.Proofs.YtbfmbjkalldonaaW.PrintMore Go.Proofs.Ytbfmbjkalldonaa.Base

abbrev B32 := BitVec 32
def I (a : B32) : Int := (a.toNat : Int)
theorem I_bd (a : B32) : 0 ≤ I a ∧ I a < 4294967296 := by
  have := a.isLt
  unfold I; omega
theorem ofI (a : B32) : BitVec.ofInt 32 (I a) = a := by
  apply BitVec.eq_of_toNat_eq
  have := a.isLt
  rw [BitVec.toNat_ofInt]
  unfold I; omega
theorem I_of {n : Int} (h0 : 0 ≤ n) (h1 : n < 4294967296) : ∃ a : B32, n = I a := by
  refine ⟨BitVec.ofNat 32 n.toNat, ?_⟩
  unfold I
  rw [BitVec.toNat_ofNat]; omega
theorem wrapI (a : B32) : IntKind.u32.wrap (a.toNat : Int) = I a := by
  have := a.isLt
  rw [IntKind.wrap_u32]; unfold I; omega
theorem xorI (a b : B32) : bits .xor .u32 (I a) (I b) = I (a ^^^ b) := by
  have h : bits .xor .u32 (I a) (I b) = IntKind.u32.wrap ((BitVec.ofInt 32 (I a) ^^^ BitVec.ofInt 32 (I b)).toNat : Int) := rfl
  rw [h, ofI, ofI, wrapI]
theorem andI (a b : B32) : bits .and .u32 (I a) (I b) = I (a &&& b) := by
  have h : bits .and .u32 (I a) (I b) = IntKind.u32.wrap ((BitVec.ofInt 32 (I a) &&& BitVec.ofInt 32 (I b)).toNat : Int) := rfl
  rw [h, ofI, ofI, wrapI]
theorem shrI (a : B32) (j : Nat) : I a / 2 ^ j = I (a >>> j) := by
  unfold I
  rw [BitVec.toNat_ushiftRight, Nat.shiftRight_eq_div_pow]
  simp
theorem I_inj {a b : B32} (h : I a = I b) : a = b := by
  apply BitVec.eq_of_toNat_eq
  unfold I at h; omega

/-! ### single steps -/
def P : B32 := 0xEDB88320#32
def T (a : B32) : B32 := (a >>> 1) ^^^ (if a.getLsbD 0 then P else 0#32)
def B (a b : B32) : B32 := (a >>> 1) ^^^ (if (a ^^^ b).getLsbD 0 then P else 0#32)
theorem sel_xor (x y : Bool) : (if (x ^^ y) = true then P else 0#32) = (if x = true then P else 0#32) ^^^ (if y = true then P else 0#32) := by
  cases x <;> cases y <;> decide
theorem T_xor (a b : B32) : T (a ^^^ b) = T a ^^^ T b := by
  unfold T
  rw [BitVec.ushiftRight_xor_distrib, BitVec.getLsbD_xor, sel_xor]
  ac_rfl
theorem B_xor (a c b : B32) : B (a ^^^ c) b = T a ^^^ B c b := by
  unfold T B
  rw [BitVec.xor_assoc a c b, BitVec.ushiftRight_xor_distrib, BitVec.getLsbD_xor (x := a), sel_xor]
  ac_rfl
def T4 (a : B32) : B32 := T (T (T (T a)))
theorem T4_xor (a b : B32) : T4 (a ^^^ b) = T4 a ^^^ T4 b := by unfold T4; rw [T_xor, T_xor, T_xor, T_xor]
def tabB (i : B32) : B32 := BitVec.ofInt 32 (rd nibs (I i))
def nibB (a : B32) : B32 := (a >>> 4) ^^^ tabB (a &&& 15#32)
theorem split4 (x : B32) : x = ((x >>> 4) <<< 4) ^^^ (x &&& 15#32) := by
  have d : ∀ i < 32, (15#32).getLsbD i = decide (i < 4) := by decide
  apply BitVec.eq_of_getLsbD_eq
  intro i hi
  rw [BitVec.getLsbD_xor, BitVec.getLsbD_shiftLeft, BitVec.getLsbD_and, d i hi]
  by_cases h : i < 4
  · simp [h]
  · have : 4 + (i - 4) = i := by omega
    simp [h, hi, BitVec.getLsbD_ushiftRight, this]
theorem T_even {y : B32} (h : y.getLsbD 0 = false) : T y = y >>> 1 := by unfold T; rw [h]; simp
theorem hi4 (x : B32) : T4 ((x >>> 4) <<< 4) = x >>> 4 := by
  have b : ∀ i < 4, ((x >>> 4) <<< 4).getLsbD i = false := fun i hi => by rw [BitVec.getLsbD_shiftLeft]; simp [hi]
  have e1 : T ((x >>> 4) <<< 4) = ((x >>> 4) <<< 4) >>> 1 := T_even (b 0 (by decide))
  have e2 : T (((x >>> 4) <<< 4) >>> 1) = (((x >>> 4) <<< 4) >>> 1) >>> 1 := T_even (by rw [BitVec.getLsbD_ushiftRight]; exact b _ (by decide))
  have e3 : T ((((x >>> 4) <<< 4) >>> 1) >>> 1) = ((((x >>> 4) <<< 4) >>> 1) >>> 1) >>> 1 := T_even (by rw [BitVec.getLsbD_ushiftRight, BitVec.getLsbD_ushiftRight]; exact b _ (by decide))
  have e4 : T (((((x >>> 4) <<< 4) >>> 1) >>> 1) >>> 1) = (((((x >>> 4) <<< 4) >>> 1) >>> 1) >>> 1) >>> 1 := T_even (by rw [BitVec.getLsbD_ushiftRight, BitVec.getLsbD_ushiftRight, BitVec.getLsbD_ushiftRight]; exact b _ (by decide))
  unfold T4
  rw [e1, e2, e3, e4]
  apply BitVec.eq_of_getLsbD_eq
  intro i hi
  simp only [BitVec.getLsbD_ushiftRight, BitVec.getLsbD_shiftLeft]
  by_cases h : 4 + i < 32
  · have h' : 1 + (1 + (1 + (1 + i))) < 32 := by omega
    have h2 : ¬ (1 + (1 + (1 + (1 + i))) < 4) := by omega
    have h3 : 4 + (1 + (1 + (1 + (1 + i))) - 4) = 4 + i := by omega
    simp [h', h2, h3]
  · have h' : ¬ (1 + (1 + (1 + (1 + i))) < 32) := by omega
    simp only [h', decide_false, Bool.false_and]
    exact (BitVec.getLsbD_of_ge x _ (by omega)).symm
theorem lo16 : ∀ m : Fin 16, T4 (BitVec.ofNat 32 m.val) = tabB (BitVec.ofNat 32 m.val) := by decide +kernel
theorem nib_T4 (x : B32) : nibB x = T4 x := by
  have hlt : (x &&& 15#32).toNat < 16 := by
    rw [BitVec.toNat_and]
    exact Nat.lt_of_le_of_lt Nat.and_le_right (by decide)
  have hlo : BitVec.ofNat 32 (x &&& 15#32).toNat = x &&& 15#32 := by simp
  have h := lo16 ⟨(x &&& 15#32).toNat, hlt⟩
  simp only [hlo] at h
  conv => rhs; rw [split4 x, T4_xor, hi4, h]
  rfl
theorem nibI (a : B32) : nib (I a) = I (nibB a) := by
  unfold nib nibB
  have e : (15 : Int) = I 15#32 := rfl
  have e16 : I a / (16 : Int) = I (a >>> 4) := shrI a 4
  rw [e16, e, andI]
  have hlt : (a &&& 15#32).toNat < 16 := by
    rw [BitVec.toNat_and]
    exact Nat.lt_of_le_of_lt Nat.and_le_right (by decide)
  have ht : rd nibs (I (a &&& 15#32)) = I (tabB (a &&& 15#32)) := by
    have : ∀ m : Fin 16, rd nibs (m.val : Int) = I (BitVec.ofInt 32 (rd nibs (m.val : Int))) := by decide +kernel
    exact this ⟨_, hlt⟩
  rw [ht, xorI]
/-! ### a byte -/
def T8 (a : B32) : B32 := T4 (T4 a)
theorem T8_xor (a b : B32) : T8 (a ^^^ b) = T8 a ^^^ T8 b := by unfold T8; rw [T4_xor, T4_xor]
def B8 (a c : B32) : B32 := B (B (B (B (B (B (B (B a (c >>> 0)) (c >>> 1)) (c >>> 2)) (c >>> 3)) (c >>> 4)) (c >>> 5)) (c >>> 6)) (c >>> 7)
theorem B8_lin (a c : B32) : B8 a c = T8 a ^^^ B8 0#32 c := by
  unfold B8
  conv => lhs; rw [show a = a ^^^ 0#32 by simp]
  rw [B_xor, B_xor, B_xor, B_xor, B_xor, B_xor, B_xor, B_xor]
  rfl
theorem byte256 : ∀ m : Fin 256, B8 0#32 (BitVec.ofNat 32 m.val) = T8 (BitVec.ofNat 32 m.val) := by decide +kernel
theorem byte_step (a : B32) (m : Nat) (hm : m < 256) : B8 a (BitVec.ofNat 32 m) = T8 (a ^^^ BitVec.ofNat 32 m) := by
  rw [B8_lin, byte256 ⟨m, hm⟩, T8_xor]
theorem crcStepI (a : B32) (m : Nat) (hm : m < 256) : crcStep (I a) (m : Int) = I (T8 (a ^^^ BitVec.ofNat 32 m)) := by
  have hc : ((m : Int)) % 4294967296 = I (BitVec.ofNat 32 m) := by
    unfold I; rw [BitVec.toNat_ofNat]; omega
  unfold crcStep
  rw [hc, xorI, nibI, nibI, nib_T4, nib_T4]
  rfl
def refStep (n c j : Int) : Int := if bits .and .u32 (bits .xor .u32 n ((shr .u8 c j) % 4294967296)) 1 = 1 then bits .xor .u32 (n / 2) 3988292384 else n / 2
theorem lsb_and (x : B32) : (bits .and .u32 (I x) 1 = 1) ↔ x.getLsbD 0 = true := by
  rw [show (1 : Int) = I 1#32 from rfl, andI]
  constructor
  · intro h
    have := I_inj h
    have h2 := congrArg (fun z : B32 => z.getLsbD 0) this
    simpa using h2
  · intro h
    refine congrArg I ?_
    apply BitVec.eq_of_getLsbD_eq
    intro i hi
    rw [BitVec.getLsbD_and]
    rcases Nat.eq_zero_or_pos i with h0 | h0
    · subst h0; simpa using h
    · have d : ∀ i < 32, 0 < i → (1#32).getLsbD i = false := by decide
      rw [d i hi h0, Bool.and_false]
theorem refStepI (a : B32) (m j : Nat) (hm : m < 256) (hj : j < 8) : refStep (I a) (m : Int) (j : Int) = I (B a (BitVec.ofNat 32 m >>> j)) := by
  have hs : (shr .u8 (m : Int) (j : Int)) % 4294967296 = I (BitVec.ofNat 32 m >>> j) := by
    unfold shr
    rw [show min (j : Int).toNat IntKind.u8.bits = j from by
      have : IntKind.u8.bits = 8 := rfl
      omega, ← shrI]
    have hc : I (BitVec.ofNat 32 m) = (m : Int) := by unfold I; rw [BitVec.toNat_ofNat]; omega
    rw [hc]
    have h1 : (0 : Int) ≤ (m : Int) / 2 ^ j := Int.ediv_nonneg (by omega) (Int.le_of_lt (Int.pow_pos (by decide)))
    have h2 : (m : Int) / 2 ^ j ≤ m := Int.ediv_le_self _ (by omega)
    exact Int.emod_eq_of_lt h1 (by omega)
  unfold refStep B
  have e2 : I a / (2 : Int) = I (a >>> 1) := shrI a 1
  rw [hs, xorI, e2, show (3988292384 : Int) = I P from rfl, xorI]
  by_cases h : (a ^^^ BitVec.ofNat 32 m >>> j).getLsbD 0 = true
  · rw [if_pos ((lsb_and _).mpr h), if_pos h]
  · rw [if_neg (fun c => h ((lsb_and _).mp c)), if_neg h]; simp
end Go.Proofs.Ytbfmbjkalldonaa.Crc
namespace Go.Proofs.Ytbfmbjkalldonaa.Crc
set_option linter.unusedVariables false
set_option linter.unusedSimpArgs false
open Go.RowKit Go.Proofs.Ytbfmbjkalldonaa.PA Go.Proofs.YtbfmbjkalldonaaW.PrintWords Go.Proofs.YtbfmbjkalldonaaW.PrintLast Go.Proofs.YtbfmbjkalldonaaW.PrintMore Go.Proofs.Ytbfmbjkalldonaa.Base

def Bytes (l : List Int) : Prop := ∀ x ∈ l, 0 ≤ x ∧ x ≤ 255
theorem bytes_of_wf {l : List Int} (h : ∀ x ∈ l, (Lit.int .u8 x).wf = true) : Bytes l := fun x hx => wf_u8 (h x hx)
theorem Bytes.take {l : List Int} (h : Bytes l) (n : Nat) : Bytes (l.take n) := fun x hx => h x (List.mem_of_mem_take hx)
theorem Bytes.drop {l : List Int} (h : Bytes l) (n : Nat) : Bytes (l.drop n) := fun x hx => h x (List.mem_of_mem_drop hx)
theorem Bytes.append {a b : List Int} (ha : Bytes a) (hb : Bytes b) : Bytes (a ++ b) := fun x hx => (List.mem_append.mp hx).elim (ha x) (hb x)
theorem b4_bytes (n : Int) : Bytes (b4 n) := by
  intro x hx
  simp only [b4, List.mem_cons, List.not_mem_nil, or_false] at hx
  rcases hx with rfl | rfl | rfl | rfl <;> omega
theorem seal_bytes {l : List Int} (h : Bytes l) : Bytes (sealV l) := h.append (b4_bytes _)
def stepB (a : B32) (c : Int) : B32 := T8 (a ^^^ BitVec.ofNat 32 c.toNat)
def reg (l : List Int) (a : B32) : B32 := l.foldl stepB a
def ones : B32 := 0xFFFFFFFF#32
theorem fold_reg : ∀ (l : List Int) (a : B32), Bytes l → l.foldl crcStep (I a) = I (reg l a)
  | [], a, h => rfl
  | c :: t, a, h => by
    have hc := h c (by simp)
    have e : crcStep (I a) c = I (stepB a c) := by
      have := crcStepI a c.toNat (by omega)
      rw [show ((c.toNat : Nat) : Int) = c by omega] at this
      exact this
    rw [List.foldl_cons, e, fold_reg t _ (fun x hx => h x (by simp [hx]))]
    rfl
theorem add_reg (l : List Int) (h : Bytes l) (a : B32) : crcAdd (I a) l = I (ones ^^^ reg l (ones ^^^ a)) := by
  unfold crcAdd
  rw [show IntKind.u32.max = I ones from rfl, xorI, fold_reg l _ h, xorI]
theorem sum_reg (l : List Int) (h : Bytes l) : sumV l = I (ones ^^^ reg l ones) := by
  have := add_reg l h 0#32
  rw [BitVec.xor_zero] at this
  exact this

theorem l1_step (x0 : List Int) (n i j : Int) (hi : 0 ≤ i) (hl : i < (x0.length : Int)) (hj : 0 ≤ j) (hj8 : j < 8) (q : Nat) :
    garboardref03_Sum.l1 (q + 1) x0 n i j = garboardref03_Sum.l1 q x0 (refStep n (rd x0 i) j) i (j + 1) := by
  rw [garboardref03_Sum.l1, if_pos hj8, if_pos hi, if_pos hl, if_pos hj, w64 (x := j + 1) (by omega) (by omega)]
  unfold refStep
  split <;> rfl
theorem l1_byte {x0 : List Int} {a : B32} {i c : Int} {r : Int} (hi : 0 ≤ i) (hl : i < (x0.length : Int)) (hc : rd x0 i = c) (h0 : 0 ≤ c) (h1 : c ≤ 255)
    (h : Ev (fun k => garboardref03_Sum.l0 k x0 (I (stepB a c)) (wrap64 (i + 1))) r) : Ev (fun k => garboardref03_Sum.l1 k x0 (I a) i 0) r := by
  obtain ⟨m, rfl⟩ := Int.eq_ofNat_of_zero_le h0
  have hm : m < 256 := by omega
  have st : ∀ (a : B32) (j : Nat) (q : Nat), j < 8 → garboardref03_Sum.l1 (q + 1) x0 (I a) i (j : Int) = garboardref03_Sum.l1 q x0 (I (B a (BitVec.ofNat 32 m >>> j))) i ((j + 1 : Nat) : Int) := fun a j q hj => by
    rw [l1_step x0 (I a) i j hi hl (by omega) (by omega) q, hc, refStepI a m j hm hj]
    rfl
  refine Ev.step (fun q => st a 0 q (by decide)) (Ev.step (fun q => st _ 1 q (by decide)) (Ev.step (fun q => st _ 2 q (by decide)) (Ev.step (fun q => st _ 3 q (by decide)) (Ev.step (fun q => st _ 4 q (by decide)) (Ev.step (fun q => st _ 5 q (by decide)) (Ev.step (fun q => st _ 6 q (by decide)) (Ev.step (fun q => st _ 7 q (by decide)) ?_)))))))
  have e : B8 a (BitVec.ofNat 32 m) = stepB a (m : Int) := by
    rw [byte_step a m hm]; rfl
  refine Ev.step (f := fun k => garboardref03_Sum.l0 k x0 (I (B8 a (BitVec.ofNat 32 m))) (wrap64 (i + 1))) (fun q => ?_) (e ▸ h)
  rw [garboardref03_Sum.l1, if_neg (by decide)]
  rfl
theorem rsum_loop (x0 : List Int) (hl : x0.length ≤ 9223372036854775) (hb : Bytes x0) : ∀ (t : List Int) (i : Nat) (a : B32), i ≤ x0.length → x0.drop i = t → Ev (fun k => garboardref03_Sum.l0 k x0 (I a) (i : Int)) (I (reg t a ^^^ ones))
  | [], i, a, hi, h => by
    have he := drop_end hi h
    refine Ev.step (f := fun _ => some (I (a ^^^ ones))) (fun q => ?_) (Ev.now _)
    rw [garboardref03_Sum.l0, if_neg (by omega), show (4294967295 : Int) = I ones from rfl, xorI]
  | c :: t, i, a, hi, h => by
    obtain ⟨h1, h2, h3⟩ := rd_drop h
    have hc := hb c (List.mem_of_mem_drop (by rw [h]; simp))
    refine Ev.step (f := fun k => garboardref03_Sum.l1 k x0 (I a) (i : Int) 0) (fun q => by rw [garboardref03_Sum.l0, if_pos (by omega)]) ?_
    refine l1_byte (by omega) (by omega) h1 hc.1 hc.2 ?_
    rw [w64 (by omega) (by omega)]
    exact rsum_loop x0 hl hb t (i + 1) (stepB a c) (by omega) h3
theorem rsum_ev (l : List Int) (hl : l.length ≤ 9223372036854775) (hb : Bytes l) : Ev (fun k => garboardref03_Sum.f k l) (sumV l) := by
  have := rsum_loop l hl hb l 0 ones (Nat.zero_le _) rfl
  rw [sum_reg l hb, BitVec.xor_comm]
  exact this
theorem rseal_ev (l : List Int) (hl : l.length ≤ 100000) (hb : Bytes l) : Ev (fun k => garboardref03_Seal.f k l) (sealV l) := by
  unfold garboardref03_Seal.f
  refine Ev.bind (rsum_ev l (by omega) hb) ?_
  refine Ev.congr (f := fun _ => some (sealV l)) (fun k => ?_) (Ev.now _)
  rw [if_pos (by simp only [List.length_nil]; omega), Option.bind_some, Option.bind_some, if_pos (by simp only [List.length_cons, List.length_nil, List.nil_append]; omega)]
  rfl
theorem str_inj : ∀ {a b : List Int}, Bytes a → Bytes b → (strOfNums a).toList = (strOfNums b).toList → a = b := by
  have key : ∀ (a b : List Int), Bytes a → Bytes b → (a.map fun n => UInt8.ofNat n.toNat) = (b.map fun n => UInt8.ofNat n.toNat) → a = b := by
    intro a
    induction a with
    | nil => intro b _ _ h; cases b with | nil => rfl | cons y b => simp at h
    | cons x a ih =>
      intro b ha hb h
      cases b with
      | nil => simp at h
      | cons y b =>
        simp only [List.map_cons, List.cons.injEq] at h
        have hx := ha x (by simp)
        have hy := hb y (by simp)
        have e := congrArg UInt8.toNat h.1
        simp only [UInt8.toNat_ofNat'] at e
        rw [ih b (fun z hz => ha z (by simp [hz])) (fun z hz => hb z (by simp [hz])) h.2, show x = y by omega]
  intro a b ha hb h
  refine key a b ha hb ?_
  rw [Lib.strOfNums_toList, Lib.strOfNums_toList] at h
  exact h
theorem ropen_ev (l : List Int) (hl : l.length ≤ 100000) (hb : Bytes l) : Ev (fun k => garboardref03_Open.f k l) (openV l) := by
  unfold garboardref03_Open.f openV
  rw [w64 (x := (l.length : Int) - 4) (by omega) (by omega)]
  by_cases h4 : l.length < 4
  · rw [if_pos h4]; exact ev_ifT (by omega) (Ev.now _)
  rw [if_neg h4]
  refine ev_ifF (by omega) (ev_ifT (by omega) (ev_ifT (by omega) ?_))
  rw [show ((l.length : Int) - 4).toNat = l.length - 4 from by omega]
  refine Ev.bind (rseal_ev _ (by rw [List.length_take]; omega) (hb.take _)) ?_
  by_cases h : l.drop (l.length - 4) = b4 (sumV (l.take (l.length - 4)))
  · rw [if_pos h]
    have e : sealV (l.take (l.length - 4)) = l := by unfold sealV; rw [← h, List.take_append_drop]
    refine ev_ifT (by rw [e]) (ev_ifT (by simp only [List.length_nil, List.length_take]; omega) ?_)
    rw [List.nil_append]; exact Ev.now _
  · rw [if_neg h]
    refine ev_ifF (fun c => h ?_) (Ev.now _)
    have e := str_inj (seal_bytes (hb.take _)) hb c
    have e2 := congrArg (List.drop (l.length - 4)) e
    rw [← e2]
    unfold sealV
    rw [List.drop_left' (by rw [List.length_take]; omega)]
end Go.Proofs.Ytbfmbjkalldonaa.Crc
namespace Go.Proofs.Ytbfmbjkalldonaa.Frm
set_option linter.unusedVariables false
set_option linter.unusedSimpArgs false
open Go.RowKit Go.Proofs.Ytbfmbjkalldonaa.PA Go.Proofs.YtbfmbjkalldonaaW.PrintWords Go.Proofs.YtbfmbjkalldonaaW.PrintLast Go.Proofs.YtbfmbjkalldonaaW.PrintMore Go.Proofs.Ytbfmbjkalldonaa.Base Go.Proofs.Ytbfmbjkalldonaa.Var

theorem Bytes.append {a b : List Int} (ha : Bytes a) (hb : Bytes b) : Bytes (a ++ b) := fun x hx => (List.mem_append.mp hx).elim (ha x) (hb x)
theorem Bytes.take {l : List Int} (h : Bytes l) (n : Nat) : Bytes (l.take n) := fun x hx => h x (List.mem_of_mem_take hx)
theorem mark_all : frame_mark.f = some [71, 98] := rfl

/-! ### what is laid -/
def bodyV (l : List Int) : List Int := [71, 98, 1] ++ vb l.length ++ l
def layV (l : List Int) : List Int := Crc.sealV (bodyV l)
theorem wfLen {l : List Int} (h : l.length ≤ 1000000) : (Lit.int .u64 (l.length : Int)).wf = true := by
  simp [Lit.wf, IntKind.min, IntKind.max, IntKind.bits, IntKind.signed]; omega
theorem vb2 {n : Nat} (h : n ≤ 2048) : (vb n).length ≤ 2 := vb_len 1 n (by
  have e : 128 ^ (1 + 1) = 16384 := by decide
  omega)
theorem body_len (l : List Int) : (bodyV l).length = 3 + (vb l.length).length + l.length := by simp [bodyV]; omega
theorem lay_len (l : List Int) : (layV l).length = 7 + (vb l.length).length + l.length := by unfold layV; rw [Crc.seal_len, body_len]; omega
theorem body_bytes {l : List Int} (h : Bytes l) : Bytes (bodyV l) := by
  refine Bytes.append (Bytes.append ?_ (vb_bytes _)) h
  intro x hx
  simp only [List.mem_cons, List.not_mem_nil, or_false] at hx; omega
theorem lay_bytes {l : List Int} (h : Bytes l) : Bytes (layV l) := Crc.seal_bytes (body_bytes h)
theorem putB_ev (b l : List Int) (hb : b.length ≤ 1000) (hl : l.length ≤ 1000000) : Ev (fun k => varint_PutBytes.f k b l) (b ++ vb l.length ++ l) := by
  have h10 := vb_len10 (n := l.length) (by omega)
  unfold varint_PutBytes.f
  rw [wu64 (x := (l.length : Int)) (by omega) (by omega)]
  have := put_ev b [(l.length : Int)] (by omega) (by simp) (fun x hx => by simp only [List.mem_singleton] at hx; subst hx; exact wfLen hl)
  rw [show flat [(l.length : Int)] = vb l.length by simp [flat]] at this
  exact Ev.bind this (ev_ifT (by rw [List.length_append]; omega) (Ev.now _))
theorem lay_ev (l : List Int) (hl : l.length ≤ 2048) : Ev (fun k => frame_Lay.f k l) (layV l, 0) := by
  have hv := vb2 hl
  unfold frame_Lay.f
  rw [mark_all]
  simp only [Option.bind_some]
  refine ev_ifF (by omega) (ev_ifT (by simp) ?_)
  refine Ev.bind (putB_ev ([71, 98] ++ [1]) l (by simp) (by omega)) ?_
  refine Ev.bind (Crc.seal_ev (bodyV l) (by rw [body_len]; omega)) (Ev.now _)
theorem lay_many (l : List Int) (hl : 2048 < l.length) : Ev (fun k => frame_Lay.f k l) ([], 5) := by
  unfold frame_Lay.f
  exact ev_ifT (by omega) (Ev.now _)

/-! ### the head -/
def endV (l : List Int) : Int × Int × Int :=
  if l.length ≤ 2 then (0, 0, 4) else if rd l 2 = 1 then
    (if (gt 0 0 (l.drop 3)).2.2 = 0 then (if (gt 0 0 (l.drop 3)).1 > 2048 then (0, 0, 5) else ((gt 0 0 (l.drop 3)).1, 3 + (gt 0 0 (l.drop 3)).2.1, 0)) else (0, 0, (gt 0 0 (l.drop 3)).2.2))
  else (0, 0, 11)
def headV : List Int → Int × Int × Int
  | [] => (0, 0, 4)
  | [a] => if a = 71 then (0, 0, 4) else (0, 0, 3)
  | a :: b :: t => if a = 71 then (if b = 98 then endV (a :: b :: t) else (0, 0, 3)) else (0, 0, 3)
theorem head_end (l : List Int) (hl : l.length ≤ 100000) (hb : Bytes l) (x19 : List Int) (x20 x21 : Int) (h : ¬ x21 < x20) : Ev (fun k => frame_head.l0 k l [71, 98] x19 x20 x21) (endV l) := by
  have e2 : ((([71, 98] : List Int).length : Nat) : Int) = 2 := rfl
  have e3 : wrap64 ((2 : Int) + 1) = 3 := w64 (by decide) (by decide)
  unfold endV
  by_cases h2 : l.length ≤ 2
  · rw [if_pos h2]
    exact Ev.step (f := fun _ => some (0, 0, 4)) (fun q => by rw [frame_head.l0, if_neg h, e2, if_pos (by omega)]) (Ev.now _)
  rw [if_neg h2]
  by_cases h3 : rd l 2 = 1
  · rw [if_pos h3]
    refine Ev.step (f := fun k => (varint_Get.f k (l.drop 3)).bind fun bt161 => if bt161.2.2 = 0 then (if bt161.1 > 2048 then some (0, 0, 5) else some (wrap64 bt161.1, wrap64 (3 + bt161.2.1), 0)) else some (0, 0, bt161.2.2)) (fun q => ?_) ?_
    · rw [frame_head.l0, if_neg h, e2, if_neg (by omega), if_pos (by omega), if_pos (by omega), if_pos h3, e3, if_pos (by omega), if_pos (by omega)]
      rfl
    · refine Ev.bind (get_ev (l.drop 3) (by rw [List.length_drop]; omega) (hb.drop 3)) ?_
      rcases hg : gt 0 0 (l.drop 3) with ⟨n, k, e⟩
      dsimp only
      by_cases he : e = 0
      · subst he
        obtain ⟨g1, g2, g3, g4, g5, g6, g7⟩ := vb_gt0 (hb.drop 3) hg
        rw [List.length_drop] at g7
        refine ev_eq (r := if n > 2048 then (0, 0, 5) else (n, 3 + k, 0)) (ev_ifT rfl ?_) (if_pos rfl).symm
        by_cases h5 : n > 2048
        · exact ev_eq (ev_ifT h5 (Ev.now _)) (if_pos h5).symm
        · refine ev_eq (ev_ifF h5 (ev_some (r := (n, 3 + k, 0)) ?_)) (if_neg h5).symm
          rw [w64 (x := n) (by omega) (by omega), w64 (by omega) (by omega)]
      · exact ev_eq (ev_ifF he (Ev.now _)) (if_neg he).symm
  · rw [if_neg h3]
    exact Ev.step (f := fun _ => some (0, 0, 11)) (fun q => by rw [frame_head.l0, if_neg h, e2, if_neg (by omega), if_pos (by omega), if_pos (by omega), if_neg h3]) (Ev.now _)
theorem head_ev (l : List Int) (hl : l.length ≤ 100000) (hb : Bytes l) : Ev (fun k => frame_head.f k l) (headV l) := by
  unfold frame_head.f
  rw [mark_all]
  simp only [Option.bind_some]
  match l, hl, hb with
  | [], hl, hb =>
    refine ev_ifT (by decide) (ev_ifT (by decide) ?_)
    exact head_end [] hl hb _ _ _ (by decide)
  | [a], hl, hb =>
    have em : mn (([a] : List Int).length : Int) (([71, 98] : List Int).length : Int) = 1 := rfl
    rw [em]
    refine ev_ifT (by decide) (ev_ifT (by simp) ?_)
    show Ev (fun k => frame_head.l0 k [a] [71, 98] [a] 1 0) (headV [a])
    by_cases h : a = 71
    · subst h
      refine Ev.step (f := fun k => frame_head.l0 k [71] [71, 98] [71] 1 1) (fun q => ?_) (head_end [71] hl hb _ _ _ (by decide))
      rw [frame_head.l0, if_pos (by decide), if_pos (by decide), if_pos (by decide), if_pos (by decide), if_pos (by decide), w64 (by decide) (by decide)]; rfl
    · refine Ev.step (f := fun k => some (0, 0, 3)) (fun q => ?_) (ev_some (by rw [headV, if_neg h]))
      rw [frame_head.l0, if_pos (by decide), if_pos (by decide), if_pos (by simp), if_pos (by decide), if_neg (by exact h)]
  | a :: b :: t, hl, hb =>
    have em : mn ((a :: b :: t).length : Int) (([71, 98] : List Int).length : Int) = 2 := by
      unfold mn; simp only [List.length_cons, List.length_nil]; split <;> omega
    rw [em]
    refine ev_ifT (by decide) (ev_ifT (by simp only [List.length_cons]; omega) ?_)
    show Ev (fun k => frame_head.l0 k (a :: b :: t) [71, 98] [a, b] 2 0) (headV (a :: b :: t))
    by_cases h : a = 71
    · subst h
      refine Ev.step (f := fun k => frame_head.l0 k (71 :: b :: t) [71, 98] [71, b] 2 1) (fun q => ?_) ?_
      · rw [frame_head.l0, if_pos (by decide), if_pos (by decide), if_pos (by simp), if_pos (by decide), if_pos (by rfl), w64 (by decide) (by decide)]; rfl
      by_cases h1 : b = 98
      · subst h1
        refine Ev.step (f := fun k => frame_head.l0 k (71 :: 98 :: t) [71, 98] [71, 98] 2 2) (fun q => ?_) (head_end _ hl hb _ _ _ (by decide))
        rw [frame_head.l0, if_pos (by decide), if_pos (by decide), if_pos (by simp), if_pos (by decide), if_pos (by rfl), w64 (by decide) (by decide)]; rfl
      · refine Ev.step (f := fun k => some (0, 0, 3)) (fun q => ?_) (ev_some (by rw [headV, if_pos rfl, if_neg h1]))
        rw [frame_head.l0, if_pos (by decide), if_pos (by decide), if_pos (by simp), if_pos (by decide), if_neg (by exact h1)]
    · refine Ev.step (f := fun k => some (0, 0, 3)) (fun q => ?_) (ev_some (by rw [headV, if_neg h]))
      rw [frame_head.l0, if_pos (by decide), if_pos (by decide), if_pos (by simp), if_pos (by decide), if_neg (by exact h)]
/-- What a good head tells. -/
theorem head_ok {l : List Int} (hb : Bytes l) {n at_ : Int} (h : headV l = (n, at_, 0)) : 0 ≤ n ∧ n ≤ 2048 ∧ 4 ≤ at_ ∧ at_ ≤ l.length ∧ at_ = 3 + (vb n.toNat).length ∧ l.take 3 = [71, 98, 1] ∧ (l.drop 3).take (vb n.toNat).length = vb n.toNat := by
  match l, hb, h with
  | [], _, h => simp [headV] at h
  | [a], _, h => rw [headV] at h; split at h <;> simp at h
  | a :: b :: t, hb, h =>
    rw [headV] at h
    by_cases ha : a = 71
    rotate_left
    · rw [if_neg ha] at h; simp at h
    by_cases hb' : b = 98
    rotate_left
    · rw [if_pos ha, if_neg hb'] at h; simp at h
    subst ha hb'
    rw [if_pos rfl, if_pos rfl] at h
    unfold endV at h
    by_cases h2 : (71 :: 98 :: t).length ≤ 2
    · rw [if_pos h2] at h; simp at h
    rw [if_neg h2] at h
    by_cases h3 : rd (71 :: 98 :: t) 2 = 1
    rotate_left
    · rw [if_neg h3] at h; simp at h
    rw [if_pos h3] at h
    obtain ⟨c, t, rfl⟩ : ∃ c t', t = c :: t' := by
      cases t with
      | nil => simp at h2
      | cons c t => exact ⟨c, t, rfl⟩
    have hc : c = 1 := h3
    subst hc
    rcases hg : gt 0 0 (List.drop 3 (71 :: 98 :: 1 :: t)) with ⟨m, k, e⟩
    rw [hg] at h
    dsimp only at h
    by_cases he : e = 0
    rotate_left
    · rw [if_neg he] at h; simp only [Prod.mk.injEq] at h; exact absurd h.2.2 he
    subst he
    rw [if_pos rfl] at h
    obtain ⟨g1, g2, g3, g4, g5, g6, g7⟩ := vb_gt0 (hb.drop 3) hg
    rw [List.length_drop] at g7
    split at h
    · simp at h
    · simp only [Prod.mk.injEq, and_true] at h
      obtain ⟨rfl, rfl⟩ := h
      exact ⟨by omega, by omega, by omega, by omega, by omega, rfl, g5⟩

/-! ### what is parsed -/
def parseV (l : List Int) : List Int × Int × Int :=
  if (headV l).2.2 = 0 then
    (if (headV l).2.1 + (headV l).1 + 4 > l.length then ([], 0, 4)
     else if (Crc.openV (l.take ((headV l).2.1 + (headV l).1 + 4).toNat)).2 = 0 then ((l.take ((headV l).2.1 + (headV l).1).toNat).drop (headV l).2.1.toNat, (headV l).2.1 + (headV l).1 + 4, 0)
     else ([], 0, (Crc.openV (l.take ((headV l).2.1 + (headV l).1 + 4).toNat)).2))
  else ([], 0, (headV l).2.2)
theorem parse_ev (l : List Int) (hl : l.length ≤ 100000) (hb : Bytes l) : Ev (fun k => frame_Parse.f k l) (parseV l) := by
  unfold frame_Parse.f parseV
  refine Ev.bind (head_ev l hl hb) ?_
  rcases hh : headV l with ⟨n, at_, e⟩
  dsimp only
  by_cases he : e = 0
  rotate_left
  · rw [if_neg he]; exact ev_ifF he (Ev.now _)
  subst he
  obtain ⟨g1, g2, g3, g4, g5, g6, g7⟩ := head_ok hb hh
  rw [if_pos rfl]
  have w1 : wrap64 (at_ + n) = at_ + n := w64 (by omega) (by omega)
  have w2 : wrap64 (at_ + n + 4) = at_ + n + 4 := w64 (by omega) (by omega)
  rw [w1, w2]
  refine ev_ifT rfl ?_
  by_cases h4 : at_ + n + 4 > l.length
  · rw [if_pos h4]; exact ev_ifT h4 (Ev.now _)
  rw [if_neg h4]
  refine ev_ifF h4 (ev_ifT (by omega) (ev_ifT (by omega) ?_))
  refine Ev.bind (Crc.open_ev _ (by rw [List.length_take]; omega)) ?_
  by_cases ho : (Crc.openV (l.take (at_ + n + 4).toNat)).2 = 0
  · refine ev_eq (ev_ifT (r := ((l.take (at_ + n).toNat).drop at_.toNat, at_ + n + 4, 0)) ho ?_) (if_pos ho).symm
    refine (ev_ifT (by omega) (ev_ifT (by omega) (ev_ifT (by omega) ?_)))
    refine Ev.congr (f := fun _ => some ((l.take (at_ + n).toNat).drop at_.toNat, at_ + n + 4, 0)) (fun k => ?_) (Ev.now _)
    rw [bytes_Clone.f, if_pos (by rw [List.length_drop, List.length_take]; omega)]; rfl
  · exact ev_eq (ev_ifF ho (Ev.now _)) (if_neg ho).symm
/-- A head that begins as what is laid does. -/
theorem head_of {l t : List Int} (hl : l.length ≤ 2048) : headV ([71, 98, 1] ++ vb l.length ++ t) = ((l.length : Int), 3 + ((vb l.length).length : Int), 0) := by
  have hd : List.drop 3 (71 :: 98 :: 1 :: (vb l.length ++ t)) = vb l.length ++ t := rfl
  show headV (71 :: 98 :: 1 :: (vb l.length ++ t)) = _
  rw [headV, if_pos rfl, if_pos rfl]
  unfold endV
  rw [if_neg (by simp only [List.length_cons]; omega), if_pos (show rd (71 :: 98 :: 1 :: (vb l.length ++ t)) 2 = 1 from rfl), hd, gt_vb0 t l.length (by omega)]
  dsimp only
  rw [if_pos rfl, if_neg (by omega)]
theorem lay_split (l t : List Int) : layV l ++ t = [71, 98, 1] ++ vb l.length ++ (l ++ (Crc.b4 (Crc.sumV (bodyV l)) ++ t)) := by
  simp [layV, Crc.sealV, bodyV]
theorem parse_lay (l t : List Int) (hl : l.length ≤ 2048) : parseV (layV l ++ t) = (l, ((layV l).length : Int), 0) := by
  have hlen := lay_len l
  have hh : headV (layV l ++ t) = ((l.length : Int), 3 + ((vb l.length).length : Int), 0) := by rw [lay_split]; exact head_of hl
  unfold parseV
  rw [hh]
  dsimp only
  have e1 : (3 + ((vb l.length).length : Int) + (l.length : Int) + 4).toNat = (layV l).length := by omega
  have e2 : (layV l ++ t).take (layV l).length = layV l := List.take_left' rfl
  rw [if_pos rfl, if_neg (by rw [List.length_append]; omega), e1, e2]
  have ho : Crc.openV (layV l) = (bodyV l, 0) := Crc.open_seal _
  rw [ho, if_pos rfl]
  refine Prod.ext ?_ (Prod.ext ?_ rfl)
  · show List.drop (3 + ((vb l.length).length : Int)).toNat (List.take (3 + ((vb l.length).length : Int) + (l.length : Int)).toNat (layV l ++ t)) = l
    have e3 : (3 + ((vb l.length).length : Int) + (l.length : Int)).toNat = (bodyV l).length := by rw [body_len]; omega
    have e4 : (3 + ((vb l.length).length : Int)).toNat = ([71, 98, 1] ++ vb l.length).length := by simp only [List.length_append, List.length_cons, List.length_nil]; omega
    have e5 : layV l ++ t = bodyV l ++ (Crc.b4 (Crc.sumV (bodyV l)) ++ t) := by simp [layV, Crc.sealV]
    rw [e3, e4, e5, List.take_left' rfl]
    exact List.drop_left' rfl
  · show 3 + ((vb l.length).length : Int) + (l.length : Int) + 4 = ((layV l).length : Int)
    omega
theorem one_lay (l : List Int) (hl : l.length ≤ 2048) (hb : Bytes l) : Ev (fun k => frame_One.f k (layV l)) (l, 0) := by
  have hlen := lay_len l
  have hv := vb2 hl
  have hp := parse_ev (layV l) (by omega) (lay_bytes hb)
  have e := parse_lay l [] hl
  rw [List.append_nil] at e
  rw [e] at hp
  unfold frame_One.f
  refine Ev.bind hp ?_
  dsimp only
  exact ev_ifT rfl (ev_ifF (by omega) (Ev.now _))

end Go.Proofs.Ytbfmbjkalldonaa.Frm
namespace Go.Proofs.Ytbfmbjkalldonaa.Msg
set_option linter.unusedVariables false
set_option linter.unusedSimpArgs false
open Go.RowKit Go.Proofs.Ytbfmbjkalldonaa.PA Go.Proofs.YtbfmbjkalldonaaW.PrintWords Go.Proofs.YtbfmbjkalldonaaW.PrintLast Go.Proofs.YtbfmbjkalldonaaW.PrintMore Go.Proofs.Ytbfmbjkalldonaa.Base Go.Proofs.Ytbfmbjkalldonaa.Var Go.Proofs.Ytbfmbjkalldonaa.Lst
attribute [local go_sem] max2_int min2_int max_two min_two max_three min_three max_four min_four
/-! ### how long a load is -/
theorem flat_tok : ∀ (l : List Int), (∀ x ∈ l, 0 ≤ x ∧ x < 64) → (flat l).length = l.length
  | [], _ => rfl
  | x :: l, h => by
    have hx := h x List.mem_cons_self
    rw [flat_cons, List.length_append, flat_tok l (fun y hy => h y (List.mem_cons_of_mem _ hy)), vb_small (by omega)]
    simp; omega
theorem words_flat {m : Ms} (hu : m.U) (hm : May m) (c : Int) : (flat (wordsV m c)).length ≤ 290 := by
  have h1 := hm.why; have h2 := hm.most; have hP := hm.P; have hL := hm.L
  have hv : ∀ x : Int, 0 ≤ x ∧ x ≤ top → (vb x.toNat).length ≤ 10 := fun x hx => vb_len10 (by have := hx.1; have := hx.2; unfold top at this; omega)
  unfold wordsV
  split
  · rw [flat_one']; have := hv m.why ⟨h1.1, by unfold top; omega⟩; omega
  split
  · rw [flat_cons, flat_cons, flat_cons, List.length_append, List.length_append, List.length_append, flat_tok _ hP.2]
    have a1 := hv m.seed hu.seed
    have a2 := hv m.most ⟨h2.1, by unfold top; omega⟩
    have a3 := hv (m.P.length : Int) ⟨by omega, by unfold top; omega⟩
    omega
  split
  · rw [flat_cons, List.length_append, flat_tok _ hL.2]
    have a3 := hv (m.L.length : Int) ⟨by omega, by unfold top; omega⟩
    omega
  · rw [flat_one']; have := hv _ (get_u hu c); omega
theorem load_short {m : Ms} (hu : m.U) (hm : May m) : (loadV m).length ≤ 2048 := by
  have key : ∀ cs : List Int, (flat (cs.flatMap (wordsV m))).length ≤ 290 * cs.length := by
    intro cs
    induction cs with
    | nil => simp [flat]
    | cons c cs ih =>
      rw [List.flatMap_cons, flat_app, List.length_append, List.length_cons]
      have := words_flat hu hm c
      omega
  unfold loadV
  rw [flat_cons, List.length_append]
  have h1 := key (lettersV m.k)
  have h2 := letters_len m.k
  have h3 : (vb m.k.toNat).length ≤ 10 := vb_len10 (by have := hm.k; omega)
  omega
def layR (m : Ms) : List Int × Int := if mayV m = true then (Frm.layV (loadV m), 0) else ([], 1)
set_option maxHeartbeats 16000000 in
set_option maxRecDepth 100000 in
theorem lay_c (w : World) (m : Ms) (hU : m.U) (A B : Option Addr) (c d : Nat) (hlP : m.P.length ≤ 1000000) (hlL : m.L.length ≤ 1000000) (hcP : m.P.length ≤ c) (hcL : m.L.length ≤ d) (hP : Kd.C (Kd.int .i64) w A m.P.length m.P) (hL : Kd.C (Kd.int .i64) w B m.L.length m.L) :
    Calls Try.prog 16 #[.agg #[.int .i64 m.k, .int .u64 m.s, .int .u64 m.se, .int .u64 m.a, .int .u64 m.i, .int .u64 m.n, .int .u64 m.c, .int .i64 m.why, .int .u64 m.seed, .slice A m.P.length c, .int .i64 m.most, .slice B m.L.length d]] w fun er w' => ∃ v, er = .returned (.tuple #[v, .int .i64 (layR m).2]) ∧ Ls encB 5 w' w.heap.size v (layR m).1 ∧ Below w.heap.size w w' := by
  have hu29 := Try.underlying29
  have HLD := Aside0.mk (fun W (hw : Below w.heap.size w W) => load_c W m hU A B c d hlP hlL hcP hcL (Kd.C_below hP hw) (Kd.C_below hL hw))
  obtain ⟨bm, hbm⟩ : ∃ b, mayV m = b := ⟨_, rfl⟩
  unfold layR
  rw [hbm]
  cases bm with
  | false =>
    have e1 : loadR m = ([], 1) := by unfold loadR; rw [hbm]; rfl
    rw [e1] at HLD
    rw [if_neg (by decide)]
    clear hlP hlL hcP hcL hP hL hU hbm e1
    go_enter Try.func16, Try.ntmps16
    go_wp2_with (first | ((with_reducible refine gate_dst (N := 1) rfl ?_); refine box_event ?hg (N := 1) ?hd (cs := #[.int .i64 m.k, .int .u64 m.s, .int .u64 m.se, .int .u64 m.a, .int .u64 m.i, .int .u64 m.n, .int .u64 m.c, .int .i64 m.why, .int .u64 m.seed, .slice A m.P.length c, .int .i64 m.most, .slice B m.L.length d]) (t := 29) ?hr ?_; (case hd => rfl); (case hg => rfl); (case hr => first | (go_simp; done) | (go_simp; rfl)); intro g hgn w5 hbox hb; have HGg := Aside0.mk hbox; have HBg := Aside0.mk hb; have HNg := Aside0.mk hgn; have u0 : w5.cell? ⟨g, 0, none⟩ = some (.int .i64 m.k) := blk_cell hbox 0; have uf0 : w5.frozen? ⟨g, 0, none⟩ = false := blk_frozen hbox 0; have u1 : w5.cell? ⟨g, 1, none⟩ = some (.int .u64 m.s) := blk_cell hbox 1; have uf1 : w5.frozen? ⟨g, 1, none⟩ = false := blk_frozen hbox 1; have u2 : w5.cell? ⟨g, 2, none⟩ = some (.int .u64 m.se) := blk_cell hbox 2; have uf2 : w5.frozen? ⟨g, 2, none⟩ = false := blk_frozen hbox 2; have u3 : w5.cell? ⟨g, 3, none⟩ = some (.int .u64 m.a) := blk_cell hbox 3; have uf3 : w5.frozen? ⟨g, 3, none⟩ = false := blk_frozen hbox 3; have u4 : w5.cell? ⟨g, 4, none⟩ = some (.int .u64 m.i) := blk_cell hbox 4; have uf4 : w5.frozen? ⟨g, 4, none⟩ = false := blk_frozen hbox 4; have u5 : w5.cell? ⟨g, 5, none⟩ = some (.int .u64 m.n) := blk_cell hbox 5; have uf5 : w5.frozen? ⟨g, 5, none⟩ = false := blk_frozen hbox 5; have u6 : w5.cell? ⟨g, 6, none⟩ = some (.int .u64 m.c) := blk_cell hbox 6; have uf6 : w5.frozen? ⟨g, 6, none⟩ = false := blk_frozen hbox 6; have u7 : w5.cell? ⟨g, 7, none⟩ = some (.int .i64 m.why) := blk_cell hbox 7; have uf7 : w5.frozen? ⟨g, 7, none⟩ = false := blk_frozen hbox 7; have u8 : w5.cell? ⟨g, 8, none⟩ = some (.int .u64 m.seed) := blk_cell hbox 8; have uf8 : w5.frozen? ⟨g, 8, none⟩ = false := blk_frozen hbox 8; have u9 : w5.cell? ⟨g, 9, none⟩ = some (.slice A m.P.length c) := blk_cell hbox 9; have uf9 : w5.frozen? ⟨g, 9, none⟩ = false := blk_frozen hbox 9; have u10 : w5.cell? ⟨g, 10, none⟩ = some (.int .i64 m.most) := blk_cell hbox 10; have uf10 : w5.frozen? ⟨g, 10, none⟩ = false := blk_frozen hbox 10; have u11 : w5.cell? ⟨g, 11, none⟩ = some (.slice B m.L.length d) := blk_cell hbox 11; have uf11 : w5.frozen? ⟨g, 11, none⟩ = false := blk_frozen hbox 11; clear hbox hb hgn) | (go_at_call 11; (with_reducible refine (HLD.out _ HBg.out).mono ?_); rintro er w6 ⟨v, rfl, hl, hb⟩; obtain ⟨A4, c4, rfl, _, _⟩ := hl.form; have HB6 := Aside0.mk (below_step HBg.out hb); clear hl hb))
    go_ret2
    exact ⟨_, rfl, Ls.nil _ _ _ _, HB6.out⟩
  | true =>
    have e1 : loadR m = (loadV m, 0) := by unfold loadR; rw [hbm]; rfl
    rw [e1] at HLD
    rw [if_pos rfl]
    obtain ⟨K, hK⟩ := Frm.lay_ev (loadV m) (load_short hU (may_of hbm))
    have HK := Aside0.mk (hK K (Nat.le_refl _))
    clear hlP hlL hcP hcL hP hL hU hbm e1 hK
    go_enter Try.func16, Try.ntmps16
    go_wp2_with (first | ((with_reducible refine gate_dst (N := 1) rfl ?_); refine box_event ?hg (N := 1) ?hd (cs := #[.int .i64 m.k, .int .u64 m.s, .int .u64 m.se, .int .u64 m.a, .int .u64 m.i, .int .u64 m.n, .int .u64 m.c, .int .i64 m.why, .int .u64 m.seed, .slice A m.P.length c, .int .i64 m.most, .slice B m.L.length d]) (t := 29) ?hr ?_; (case hd => rfl); (case hg => rfl); (case hr => first | (go_simp; done) | (go_simp; rfl)); intro g hgn w5 hbox hb; have HGg := Aside0.mk hbox; have HBg := Aside0.mk hb; have HNg := Aside0.mk hgn; have u0 : w5.cell? ⟨g, 0, none⟩ = some (.int .i64 m.k) := blk_cell hbox 0; have uf0 : w5.frozen? ⟨g, 0, none⟩ = false := blk_frozen hbox 0; have u1 : w5.cell? ⟨g, 1, none⟩ = some (.int .u64 m.s) := blk_cell hbox 1; have uf1 : w5.frozen? ⟨g, 1, none⟩ = false := blk_frozen hbox 1; have u2 : w5.cell? ⟨g, 2, none⟩ = some (.int .u64 m.se) := blk_cell hbox 2; have uf2 : w5.frozen? ⟨g, 2, none⟩ = false := blk_frozen hbox 2; have u3 : w5.cell? ⟨g, 3, none⟩ = some (.int .u64 m.a) := blk_cell hbox 3; have uf3 : w5.frozen? ⟨g, 3, none⟩ = false := blk_frozen hbox 3; have u4 : w5.cell? ⟨g, 4, none⟩ = some (.int .u64 m.i) := blk_cell hbox 4; have uf4 : w5.frozen? ⟨g, 4, none⟩ = false := blk_frozen hbox 4; have u5 : w5.cell? ⟨g, 5, none⟩ = some (.int .u64 m.n) := blk_cell hbox 5; have uf5 : w5.frozen? ⟨g, 5, none⟩ = false := blk_frozen hbox 5; have u6 : w5.cell? ⟨g, 6, none⟩ = some (.int .u64 m.c) := blk_cell hbox 6; have uf6 : w5.frozen? ⟨g, 6, none⟩ = false := blk_frozen hbox 6; have u7 : w5.cell? ⟨g, 7, none⟩ = some (.int .i64 m.why) := blk_cell hbox 7; have uf7 : w5.frozen? ⟨g, 7, none⟩ = false := blk_frozen hbox 7; have u8 : w5.cell? ⟨g, 8, none⟩ = some (.int .u64 m.seed) := blk_cell hbox 8; have uf8 : w5.frozen? ⟨g, 8, none⟩ = false := blk_frozen hbox 8; have u9 : w5.cell? ⟨g, 9, none⟩ = some (.slice A m.P.length c) := blk_cell hbox 9; have uf9 : w5.frozen? ⟨g, 9, none⟩ = false := blk_frozen hbox 9; have u10 : w5.cell? ⟨g, 10, none⟩ = some (.int .i64 m.most) := blk_cell hbox 10; have uf10 : w5.frozen? ⟨g, 10, none⟩ = false := blk_frozen hbox 10; have u11 : w5.cell? ⟨g, 11, none⟩ = some (.slice B m.L.length d) := blk_cell hbox 11; have uf11 : w5.frozen? ⟨g, 11, none⟩ = false := blk_frozen hbox 11; clear hbox hb hgn) | (go_at_call 11; (with_reducible refine (HLD.out _ HBg.out).mono ?_); rintro er w6 ⟨v, rfl, hl, hb⟩; obtain ⟨A4, c4, rfl, _, _⟩ := hl.form; have HL6 := Aside0.mk hl; have HB6 := Aside0.mk (below_step HBg.out hb); have HF := Aside0.mk (frame_Lay.calls K A4 c4 (loadV m) (Frm.layV (loadV m)) 0 w6 (C_of_ls hl).2.2 (C_of_ls hl).2.1 HK.out); clear hl hb) | (go_at_call 37; (with_reducible refine HF.out.mono ?_); rintro er w7 ⟨v, rfl, hR, hb⟩; have HL7 := Aside0.mk (ls_of hR); have HB7 := Aside0.mk (below_step HB6.out hb); clear hR hb))
    go_ret2
    exact ⟨_, rfl, HL7.out.lower HB6.out.size, HB7.out⟩
def parseR (x : List Int) (e : Int) : Ms × Int := if e = 0 then readV x else (Ms.nil, e)
set_option maxHeartbeats 16000000 in
set_option maxRecDepth 100000 in
theorem parse_c (A0 : Option Addr) (c0 : Nat) (l : List Int) (hc0 : l.length ≤ c0) (K : Nat) (x : List Int) (e : Int) (hf : frame_One.f K l = some (x, e)) (hx : x.length ≤ 100000) (hbx : Bytes x) (m : Ms) (e1 : Int) (hr : parseR x e = (m, e1)) (w : World) (hb : Kd.C (Kd.int .u8) w A0 l.length l) :
    Calls Try.prog 21 #[.slice A0 l.length c0] w (PostR w m e1) := by
  have hu := Try.underlying29
  have HONE := Aside0.mk (fun W (hw : Below w.heap.size w W) => frame_One.calls K A0 c0 l x e W (Kd.C_below hb hw) hc0 hf)
  have HLX := Aside0.mk hx; have HBX := Aside0.mk hbx
  unfold parseR at hr
  by_cases he : e = 0
  · subst he
    rw [if_pos rfl] at hr
    have HRV := Aside0.mk hr
    clear hb hc0 hf hx hbx hr
    go_enter Try.func21, Try.ntmps21
    go_wp2_with (first | ((with_reducible refine gate_dst (N := 2) rfl ?_); refine box_event ?hg (N := 2) ?hd (cs := #[.int .i64 0, .int .u64 0, .int .u64 0, .int .u64 0, .int .u64 0, .int .u64 0, .int .u64 0, .int .i64 0, .int .u64 0, .slice none 0 0, .int .i64 0, .slice none 0 0]) (t := 29) ?hr ?_; (case hd => rfl); (case hg => rfl); (case hr => first | (go_simp; done) | (go_simp; rfl)); intro rc hrc w5 hbox hb; have HRC := Aside0.mk hbox; have HB5 := Aside0.mk hb; have HNC := Aside0.mk hrc; clear hbox hb hrc) | (go_at_call 44; (with_reducible refine (HONE.out _ HB5.out).mono ?_); rintro er w6 ⟨v, rfl, hR, hb⟩; obtain ⟨A6, c6, rfl, _, _⟩ := (ls_of hR).form; have HX6 := Aside0.mk (ls_of hR); have HB6 := Aside0.mk (below_step HB5.out hb); have hrc6 := blk_below HRC.out hb; have HRC6 := Aside0.mk hrc6; have y0 : w6.cell? ⟨rc, 0, none⟩ = some (.int .i64 0) := blk_cell hrc6 0; have yf0 : w6.frozen? ⟨rc, 0, none⟩ = false := blk_frozen hrc6 0; have y1 : w6.cell? ⟨rc, 1, none⟩ = some (.int .u64 0) := blk_cell hrc6 1; have yf1 : w6.frozen? ⟨rc, 1, none⟩ = false := blk_frozen hrc6 1; have y2 : w6.cell? ⟨rc, 2, none⟩ = some (.int .u64 0) := blk_cell hrc6 2; have yf2 : w6.frozen? ⟨rc, 2, none⟩ = false := blk_frozen hrc6 2; have y3 : w6.cell? ⟨rc, 3, none⟩ = some (.int .u64 0) := blk_cell hrc6 3; have yf3 : w6.frozen? ⟨rc, 3, none⟩ = false := blk_frozen hrc6 3; have y4 : w6.cell? ⟨rc, 4, none⟩ = some (.int .u64 0) := blk_cell hrc6 4; have yf4 : w6.frozen? ⟨rc, 4, none⟩ = false := blk_frozen hrc6 4; have y5 : w6.cell? ⟨rc, 5, none⟩ = some (.int .u64 0) := blk_cell hrc6 5; have yf5 : w6.frozen? ⟨rc, 5, none⟩ = false := blk_frozen hrc6 5; have y6 : w6.cell? ⟨rc, 6, none⟩ = some (.int .u64 0) := blk_cell hrc6 6; have yf6 : w6.frozen? ⟨rc, 6, none⟩ = false := blk_frozen hrc6 6; have y7 : w6.cell? ⟨rc, 7, none⟩ = some (.int .i64 0) := blk_cell hrc6 7; have yf7 : w6.frozen? ⟨rc, 7, none⟩ = false := blk_frozen hrc6 7; have y8 : w6.cell? ⟨rc, 8, none⟩ = some (.int .u64 0) := blk_cell hrc6 8; have yf8 : w6.frozen? ⟨rc, 8, none⟩ = false := blk_frozen hrc6 8; have y9 : w6.cell? ⟨rc, 9, none⟩ = some (.slice none 0 0) := blk_cell hrc6 9; have yf9 : w6.frozen? ⟨rc, 9, none⟩ = false := blk_frozen hrc6 9; have y10 : w6.cell? ⟨rc, 10, none⟩ = some (.int .i64 0) := blk_cell hrc6 10; have yf10 : w6.frozen? ⟨rc, 10, none⟩ = false := blk_frozen hrc6 10; have y11 : w6.cell? ⟨rc, 11, none⟩ = some (.slice none 0 0) := blk_cell hrc6 11; have yf11 : w6.frozen? ⟨rc, 11, none⟩ = false := blk_frozen hrc6 11; clear hR hb hrc6) | (go_at_call 9; (with_reducible refine (read_c A6 c6 x HLX.out HBX.out (C_of_ls HX6.out).2.1 m e1 HRV.out w6 (C_of_ls HX6.out).2.2).mono ?_); rintro er w7 ⟨vP, vL, rfl, hP, hL, hb⟩; obtain ⟨AP, cP, rfl, _, _⟩ := hP.form; obtain ⟨AL, cL, rfl, _, _⟩ := hL.form; have HP7 := Aside0.mk hP; have HL7 := Aside0.mk hL; have HB7 := Aside0.mk (below_step HB6.out hb); have hrc7 := blk_below HRC6.out hb; have HRC7 := Aside0.mk hrc7; have z0 : w7.cell? ⟨rc, 0, none⟩ = some (.int .i64 0) := blk_cell hrc7 0; have zf0 : w7.frozen? ⟨rc, 0, none⟩ = false := blk_frozen hrc7 0; have z1 : w7.cell? ⟨rc, 1, none⟩ = some (.int .u64 0) := blk_cell hrc7 1; have zf1 : w7.frozen? ⟨rc, 1, none⟩ = false := blk_frozen hrc7 1; have z2 : w7.cell? ⟨rc, 2, none⟩ = some (.int .u64 0) := blk_cell hrc7 2; have zf2 : w7.frozen? ⟨rc, 2, none⟩ = false := blk_frozen hrc7 2; have z3 : w7.cell? ⟨rc, 3, none⟩ = some (.int .u64 0) := blk_cell hrc7 3; have zf3 : w7.frozen? ⟨rc, 3, none⟩ = false := blk_frozen hrc7 3; have z4 : w7.cell? ⟨rc, 4, none⟩ = some (.int .u64 0) := blk_cell hrc7 4; have zf4 : w7.frozen? ⟨rc, 4, none⟩ = false := blk_frozen hrc7 4; have z5 : w7.cell? ⟨rc, 5, none⟩ = some (.int .u64 0) := blk_cell hrc7 5; have zf5 : w7.frozen? ⟨rc, 5, none⟩ = false := blk_frozen hrc7 5; have z6 : w7.cell? ⟨rc, 6, none⟩ = some (.int .u64 0) := blk_cell hrc7 6; have zf6 : w7.frozen? ⟨rc, 6, none⟩ = false := blk_frozen hrc7 6; have z7 : w7.cell? ⟨rc, 7, none⟩ = some (.int .i64 0) := blk_cell hrc7 7; have zf7 : w7.frozen? ⟨rc, 7, none⟩ = false := blk_frozen hrc7 7; have z8 : w7.cell? ⟨rc, 8, none⟩ = some (.int .u64 0) := blk_cell hrc7 8; have zf8 : w7.frozen? ⟨rc, 8, none⟩ = false := blk_frozen hrc7 8; have z9 : w7.cell? ⟨rc, 9, none⟩ = some (.slice none 0 0) := blk_cell hrc7 9; have zf9 : w7.frozen? ⟨rc, 9, none⟩ = false := blk_frozen hrc7 9; have z10 : w7.cell? ⟨rc, 10, none⟩ = some (.int .i64 0) := blk_cell hrc7 10; have zf10 : w7.frozen? ⟨rc, 10, none⟩ = false := blk_frozen hrc7 10; have z11 : w7.cell? ⟨rc, 11, none⟩ = some (.slice none 0 0) := blk_cell hrc7 11; have zf11 : w7.frozen? ⟨rc, 11, none⟩ = false := blk_frozen hrc7 11; clear hP hL hb hrc7))
    (try simp only [Exit.inBlock, Exit.then])
    refine bodyPost_ret (results_ct rfl _ _ rc 29 #[.int .i64 m.k, .int .u64 m.s, .int .u64 m.se, .int .u64 m.a, .int .u64 m.i, .int .u64 m.n, .int .u64 m.c, .int .i64 m.why, .int .u64 m.seed, .slice AP m.P.length cP, .int .i64 m.most, .slice AL m.L.length cL] (0, 0) _ rfl (st12_blk HRC7.out _ _ _ _ _ _ _ _ _ _ _ _) Try.underlying29 (by rfl) (by kernel_rfl)) rfl ?_
    exact ⟨_, _, rfl, lsK1 (HP7.out.lower HB6.out.size) (st12_kept _ _ _ _ _ _ _ _ _ _ _ _ _ _) HRC7.out (by decide), lsK1 (HL7.out.lower HB6.out.size) (st12_kept _ _ _ _ _ _ _ _ _ _ _ _ _ _) HRC7.out (by decide), st12_bel HB7.out (Nat.le_of_eq HNC.out.symm) _ _ _ _ _ _ _ _ _ _ _ _⟩
  · rw [if_neg he] at hr
    obtain ⟨rfl, rfl⟩ := Prod.mk.inj hr
    have q1 : (e != 0) = true := by simpa using he
    clear hb hc0 hf hx hbx hr he
    go_enter Try.func21, Try.ntmps21
    go_wp2_with (first | ((with_reducible refine gate_dst (N := 2) rfl ?_); refine box_event ?hg (N := 2) ?hd (cs := #[.int .i64 0, .int .u64 0, .int .u64 0, .int .u64 0, .int .u64 0, .int .u64 0, .int .u64 0, .int .i64 0, .int .u64 0, .slice none 0 0, .int .i64 0, .slice none 0 0]) (t := 29) ?hr ?_; (case hd => rfl); (case hg => rfl); (case hr => first | (go_simp; done) | (go_simp; rfl)); intro rc hrc w5 hbox hb; have HRC := Aside0.mk hbox; have HB5 := Aside0.mk hb; have HNC := Aside0.mk hrc; clear hbox hb hrc) | (go_at_call 44; (with_reducible refine (HONE.out _ HB5.out).mono ?_); rintro er w6 ⟨v, rfl, hR, hb⟩; obtain ⟨A6, c6, rfl, _, _⟩ := (ls_of hR).form; have HX6 := Aside0.mk (ls_of hR); have HB6 := Aside0.mk (below_step HB5.out hb); have hrc6 := blk_below HRC.out hb; have HRC6 := Aside0.mk hrc6; have y0 : w6.cell? ⟨rc, 0, none⟩ = some (.int .i64 0) := blk_cell hrc6 0; have yf0 : w6.frozen? ⟨rc, 0, none⟩ = false := blk_frozen hrc6 0; have y1 : w6.cell? ⟨rc, 1, none⟩ = some (.int .u64 0) := blk_cell hrc6 1; have yf1 : w6.frozen? ⟨rc, 1, none⟩ = false := blk_frozen hrc6 1; have y2 : w6.cell? ⟨rc, 2, none⟩ = some (.int .u64 0) := blk_cell hrc6 2; have yf2 : w6.frozen? ⟨rc, 2, none⟩ = false := blk_frozen hrc6 2; have y3 : w6.cell? ⟨rc, 3, none⟩ = some (.int .u64 0) := blk_cell hrc6 3; have yf3 : w6.frozen? ⟨rc, 3, none⟩ = false := blk_frozen hrc6 3; have y4 : w6.cell? ⟨rc, 4, none⟩ = some (.int .u64 0) := blk_cell hrc6 4; have yf4 : w6.frozen? ⟨rc, 4, none⟩ = false := blk_frozen hrc6 4; have y5 : w6.cell? ⟨rc, 5, none⟩ = some (.int .u64 0) := blk_cell hrc6 5; have yf5 : w6.frozen? ⟨rc, 5, none⟩ = false := blk_frozen hrc6 5; have y6 : w6.cell? ⟨rc, 6, none⟩ = some (.int .u64 0) := blk_cell hrc6 6; have yf6 : w6.frozen? ⟨rc, 6, none⟩ = false := blk_frozen hrc6 6; have y7 : w6.cell? ⟨rc, 7, none⟩ = some (.int .i64 0) := blk_cell hrc6 7; have yf7 : w6.frozen? ⟨rc, 7, none⟩ = false := blk_frozen hrc6 7; have y8 : w6.cell? ⟨rc, 8, none⟩ = some (.int .u64 0) := blk_cell hrc6 8; have yf8 : w6.frozen? ⟨rc, 8, none⟩ = false := blk_frozen hrc6 8; have y9 : w6.cell? ⟨rc, 9, none⟩ = some (.slice none 0 0) := blk_cell hrc6 9; have yf9 : w6.frozen? ⟨rc, 9, none⟩ = false := blk_frozen hrc6 9; have y10 : w6.cell? ⟨rc, 10, none⟩ = some (.int .i64 0) := blk_cell hrc6 10; have yf10 : w6.frozen? ⟨rc, 10, none⟩ = false := blk_frozen hrc6 10; have y11 : w6.cell? ⟨rc, 11, none⟩ = some (.slice none 0 0) := blk_cell hrc6 11; have yf11 : w6.frozen? ⟨rc, 11, none⟩ = false := blk_frozen hrc6 11; clear hR hb hrc6))
    (try simp only [Exit.inBlock, Exit.then])
    refine bodyPost_ret (results_ct rfl _ _ rc 29 #[.int .i64 0, .int .u64 0, .int .u64 0, .int .u64 0, .int .u64 0, .int .u64 0, .int .u64 0, .int .i64 0, .int .u64 0, .slice none 0 0, .int .i64 0, .slice none 0 0] (0, 0) _ rfl (st12_blk HRC6.out (.int .i64 0) (.int .u64 0) (.int .u64 0) (.int .u64 0) (.int .u64 0) (.int .u64 0) (.int .u64 0) (.int .i64 0) (.int .u64 0) (.slice none 0 0) (.int .i64 0) (.slice none 0 0)) Try.underlying29 (by rfl) (by kernel_rfl)) rfl ?_
    exact ⟨_, _, rfl, Ls.nil _ _ _ _, Ls.nil _ _ _ _, st12_bel HB6.out (Nat.le_of_eq HNC.out.symm) (.int .i64 0) (.int .u64 0) (.int .u64 0) (.int .u64 0) (.int .u64 0) (.int .u64 0) (.int .u64 0) (.int .i64 0) (.int .u64 0) (.slice none 0 0) (.int .i64 0) (.slice none 0 0)⟩
end Go.Proofs.Ytbfmbjkalldonaa.Msg
namespace Go.Proofs.Ytbfmbjkalldonaa.Msg
set_option linter.unusedVariables false
set_option linter.unusedSimpArgs false
open Go.RowKit Go.Proofs.Ytbfmbjkalldonaa.PA Go.Proofs.YtbfmbjkalldonaaW.PrintWords Go.Proofs.YtbfmbjkalldonaaW.PrintLast Go.Proofs.YtbfmbjkalldonaaW.PrintMore Go.Proofs.Ytbfmbjkalldonaa.Base Go.Proofs.Ytbfmbjkalldonaa.Var Go.Proofs.Ytbfmbjkalldonaa.Lst
attribute [local go_sem] max2_int min2_int max_two min_two max_three min_three max_four min_four
set_option maxHeartbeats 32000000 in
set_option maxRecDepth 100000 in
theorem back_law (A B : Option Addr) (c d : Nat) (m : Ms) (w : World) (IM : MsgIn w m A c B d) : Calls Try.prog 7 #[.agg #[.int .i64 m.k, .int .u64 m.s, .int .u64 m.se, .int .u64 m.a, .int .u64 m.i, .int .u64 m.n, .int .u64 m.c, .int .i64 m.why, .int .u64 m.seed, .slice A m.P.length c, .int .i64 m.most, .slice B m.L.length d]] w fun e w' => e = .returned (.bool true) ∧ Below w.heap.size w w' := by
  have hu38 := Try.underlying38
  have hu29 := Try.underlying29
  have hu27 := Try.underlying27
  have HALIVE := Aside0.mk alive_c
  have HF1 := Aside0.mk (far_c w m A B c d IM)
  obtain ⟨fm, hfm⟩ : ∃ b, farV m = b := ⟨_, rfl⟩
  rw [hfm] at HF1
  cases fm with
  | true =>
    clear hfm IM
    go_enter Try.func7, Try.ntmps7
    go_wp2_with (first | ((with_reducible refine gate_dst (N := 1) rfl ?_); refine box_event ?hg (N := 1) ?hd (cs := #[.int .i64 m.k, .int .u64 m.s, .int .u64 m.se, .int .u64 m.a, .int .u64 m.i, .int .u64 m.n, .int .u64 m.c, .int .i64 m.why, .int .u64 m.seed, .slice A m.P.length c, .int .i64 m.most, .slice B m.L.length d]) (t := 38) ?hr ?_; (case hd => rfl); (case hg => rfl); (case hr => first | (go_simp; done) | (go_simp; rfl)); intro g hgn w5 hbox hb; have Bw5 := Aside0.mk hb; have Gw5 := Aside0.mk hbox; have u0 : w5.cell? ⟨g, 0, none⟩ = some (.int .i64 m.k) := blk_cell hbox 0; have u1 : w5.cell? ⟨g, 1, none⟩ = some (.int .u64 m.s) := blk_cell hbox 1; have u2 : w5.cell? ⟨g, 2, none⟩ = some (.int .u64 m.se) := blk_cell hbox 2; have u3 : w5.cell? ⟨g, 3, none⟩ = some (.int .u64 m.a) := blk_cell hbox 3; have u4 : w5.cell? ⟨g, 4, none⟩ = some (.int .u64 m.i) := blk_cell hbox 4; have u5 : w5.cell? ⟨g, 5, none⟩ = some (.int .u64 m.n) := blk_cell hbox 5; have u6 : w5.cell? ⟨g, 6, none⟩ = some (.int .u64 m.c) := blk_cell hbox 6; have u7 : w5.cell? ⟨g, 7, none⟩ = some (.int .i64 m.why) := blk_cell hbox 7; have u8 : w5.cell? ⟨g, 8, none⟩ = some (.int .u64 m.seed) := blk_cell hbox 8; have u9 : w5.cell? ⟨g, 9, none⟩ = some (.slice A m.P.length c) := blk_cell hbox 9; have u10 : w5.cell? ⟨g, 10, none⟩ = some (.int .i64 m.most) := blk_cell hbox 10; have u11 : w5.cell? ⟨g, 11, none⟩ = some (.slice B m.L.length d) := blk_cell hbox 11; clear hbox hb hgn) | (go_at_call 13; (with_reducible refine (HF1.out _ Bw5.out).mono ?_); rintro er w7 ⟨rfl, hb⟩;  have Bw7 := Aside0.mk (below_step Bw5.out hb); have Gw7 := Aside0.mk (blk_below Gw5.out hb); have v0 : w7.cell? ⟨g, 0, none⟩ = some (.int .i64 m.k) := blk_cell Gw7.out 0; have v1 : w7.cell? ⟨g, 1, none⟩ = some (.int .u64 m.s) := blk_cell Gw7.out 1; have v2 : w7.cell? ⟨g, 2, none⟩ = some (.int .u64 m.se) := blk_cell Gw7.out 2; have v3 : w7.cell? ⟨g, 3, none⟩ = some (.int .u64 m.a) := blk_cell Gw7.out 3; have v4 : w7.cell? ⟨g, 4, none⟩ = some (.int .u64 m.i) := blk_cell Gw7.out 4; have v5 : w7.cell? ⟨g, 5, none⟩ = some (.int .u64 m.n) := blk_cell Gw7.out 5; have v6 : w7.cell? ⟨g, 6, none⟩ = some (.int .u64 m.c) := blk_cell Gw7.out 6; have v7 : w7.cell? ⟨g, 7, none⟩ = some (.int .i64 m.why) := blk_cell Gw7.out 7; have v8 : w7.cell? ⟨g, 8, none⟩ = some (.int .u64 m.seed) := blk_cell Gw7.out 8; have v9 : w7.cell? ⟨g, 9, none⟩ = some (.slice A m.P.length c) := blk_cell Gw7.out 9; have v10 : w7.cell? ⟨g, 10, none⟩ = some (.int .i64 m.most) := blk_cell Gw7.out 10; have v11 : w7.cell? ⟨g, 11, none⟩ = some (.slice B m.L.length d) := blk_cell Gw7.out 11;  clear hb) | (go_at_call 8; (with_reducible refine (HALIVE.out _).mono ?_); rintro er w19 ⟨rfl, hb⟩; have BA := Aside0.mk hb; clear hb))
    go_ret
    exact ⟨rfl, below_step Bw7.out BA.out⟩
  | false =>
  have hfa := not_far hfm
  have HLAY := Aside0.mk (fun W (hw : Below w.heap.size w W) => lay_c W m IM.u A B c d (by omega) (by omega) IM.cP IM.cL (Kd.C_below IM.P hw) (Kd.C_below IM.L hw))
  obtain ⟨bm, hbm⟩ : ∃ b, mayV m = b := ⟨_, rfl⟩
  cases bm with
  | false =>
    have e1 : layR m = ([], 1) := by unfold layR; rw [hbm]; rfl
    rw [e1] at HLAY
    have HMAY := Aside0.mk (show ∀ W, Below w.heap.size w W → Calls Try.prog 12 #[.agg #[.int .i64 m.k, .int .u64 m.s, .int .u64 m.se, .int .u64 m.a, .int .u64 m.i, .int .u64 m.n, .int .u64 m.c, .int .i64 m.why, .int .u64 m.seed, .slice A m.P.length c, .int .i64 m.most, .slice B m.L.length d]] W fun er w' => er = .returned (.bool false) ∧ Below W.heap.size W w' from fun W hw => by
      have q := may_c W m A B c d (by omega) (by omega) IM.cP IM.cL (Kd.C_below IM.P hw) (Kd.C_below IM.L hw)
      rw [hbm] at q
      exact q)
    clear hfm IM hbm e1 hfa
    go_enter Try.func7, Try.ntmps7
    go_wp2_with (first | ((with_reducible refine gate_dst (N := 1) rfl ?_); refine box_event ?hg (N := 1) ?hd (cs := #[.int .i64 m.k, .int .u64 m.s, .int .u64 m.se, .int .u64 m.a, .int .u64 m.i, .int .u64 m.n, .int .u64 m.c, .int .i64 m.why, .int .u64 m.seed, .slice A m.P.length c, .int .i64 m.most, .slice B m.L.length d]) (t := 38) ?hr ?_; (case hd => rfl); (case hg => rfl); (case hr => first | (go_simp; done) | (go_simp; rfl)); intro g hgn w5 hbox hb; have Bw5 := Aside0.mk hb; have Gw5 := Aside0.mk hbox; have u0 : w5.cell? ⟨g, 0, none⟩ = some (.int .i64 m.k) := blk_cell hbox 0; have u1 : w5.cell? ⟨g, 1, none⟩ = some (.int .u64 m.s) := blk_cell hbox 1; have u2 : w5.cell? ⟨g, 2, none⟩ = some (.int .u64 m.se) := blk_cell hbox 2; have u3 : w5.cell? ⟨g, 3, none⟩ = some (.int .u64 m.a) := blk_cell hbox 3; have u4 : w5.cell? ⟨g, 4, none⟩ = some (.int .u64 m.i) := blk_cell hbox 4; have u5 : w5.cell? ⟨g, 5, none⟩ = some (.int .u64 m.n) := blk_cell hbox 5; have u6 : w5.cell? ⟨g, 6, none⟩ = some (.int .u64 m.c) := blk_cell hbox 6; have u7 : w5.cell? ⟨g, 7, none⟩ = some (.int .i64 m.why) := blk_cell hbox 7; have u8 : w5.cell? ⟨g, 8, none⟩ = some (.int .u64 m.seed) := blk_cell hbox 8; have u9 : w5.cell? ⟨g, 9, none⟩ = some (.slice A m.P.length c) := blk_cell hbox 9; have u10 : w5.cell? ⟨g, 10, none⟩ = some (.int .i64 m.most) := blk_cell hbox 10; have u11 : w5.cell? ⟨g, 11, none⟩ = some (.slice B m.L.length d) := blk_cell hbox 11; clear hbox hb hgn) | (go_at_call 13; (with_reducible refine (HF1.out _ Bw5.out).mono ?_); rintro er w7 ⟨rfl, hb⟩;  have Bw7 := Aside0.mk (below_step Bw5.out hb); have Gw7 := Aside0.mk (blk_below Gw5.out hb); have v0 : w7.cell? ⟨g, 0, none⟩ = some (.int .i64 m.k) := blk_cell Gw7.out 0; have v1 : w7.cell? ⟨g, 1, none⟩ = some (.int .u64 m.s) := blk_cell Gw7.out 1; have v2 : w7.cell? ⟨g, 2, none⟩ = some (.int .u64 m.se) := blk_cell Gw7.out 2; have v3 : w7.cell? ⟨g, 3, none⟩ = some (.int .u64 m.a) := blk_cell Gw7.out 3; have v4 : w7.cell? ⟨g, 4, none⟩ = some (.int .u64 m.i) := blk_cell Gw7.out 4; have v5 : w7.cell? ⟨g, 5, none⟩ = some (.int .u64 m.n) := blk_cell Gw7.out 5; have v6 : w7.cell? ⟨g, 6, none⟩ = some (.int .u64 m.c) := blk_cell Gw7.out 6; have v7 : w7.cell? ⟨g, 7, none⟩ = some (.int .i64 m.why) := blk_cell Gw7.out 7; have v8 : w7.cell? ⟨g, 8, none⟩ = some (.int .u64 m.seed) := blk_cell Gw7.out 8; have v9 : w7.cell? ⟨g, 9, none⟩ = some (.slice A m.P.length c) := blk_cell Gw7.out 9; have v10 : w7.cell? ⟨g, 10, none⟩ = some (.int .i64 m.most) := blk_cell Gw7.out 10; have v11 : w7.cell? ⟨g, 11, none⟩ = some (.slice B m.L.length d) := blk_cell Gw7.out 11;  clear hb) | (go_at_call 14; (with_reducible refine (theirs_c _ m A B c d).mono ?_); rintro er w8 ⟨rfl, hb⟩;  have Bw8 := Aside0.mk (below_step Bw7.out hb); have Gw8 := Aside0.mk (blk_below Gw7.out hb);  clear hb) | (go_at_call 16; (with_reducible refine (HLAY.out _ Bw8.out).mono ?_); rintro er w9 ⟨v, rfl, hl, hb⟩; obtain ⟨A4, c4, rfl, _, _⟩ := hl.form; have X4 := Aside0.mk hl; have Bw9 := Aside0.mk (below_step Bw8.out hb); have Gw9 := Aside0.mk (blk_below Gw8.out hb); have p0 : w9.cell? ⟨g, 0, none⟩ = some (.int .i64 m.k) := blk_cell Gw9.out 0; have p1 : w9.cell? ⟨g, 1, none⟩ = some (.int .u64 m.s) := blk_cell Gw9.out 1; have p2 : w9.cell? ⟨g, 2, none⟩ = some (.int .u64 m.se) := blk_cell Gw9.out 2; have p3 : w9.cell? ⟨g, 3, none⟩ = some (.int .u64 m.a) := blk_cell Gw9.out 3; have p4 : w9.cell? ⟨g, 4, none⟩ = some (.int .u64 m.i) := blk_cell Gw9.out 4; have p5 : w9.cell? ⟨g, 5, none⟩ = some (.int .u64 m.n) := blk_cell Gw9.out 5; have p6 : w9.cell? ⟨g, 6, none⟩ = some (.int .u64 m.c) := blk_cell Gw9.out 6; have p7 : w9.cell? ⟨g, 7, none⟩ = some (.int .i64 m.why) := blk_cell Gw9.out 7; have p8 : w9.cell? ⟨g, 8, none⟩ = some (.int .u64 m.seed) := blk_cell Gw9.out 8; have p9 : w9.cell? ⟨g, 9, none⟩ = some (.slice A m.P.length c) := blk_cell Gw9.out 9; have p10 : w9.cell? ⟨g, 10, none⟩ = some (.int .i64 m.most) := blk_cell Gw9.out 10; have p11 : w9.cell? ⟨g, 11, none⟩ = some (.slice B m.L.length d) := blk_cell Gw9.out 11; clear hl; clear hb) | (go_at_call 14; (with_reducible refine (theirs_c _ m A B c d).mono ?_); rintro er w10 ⟨rfl, hb⟩;  have Bw10 := Aside0.mk (below_step Bw9.out hb); have Gw10 := Aside0.mk (blk_below Gw9.out hb);  clear hb) | (go_at_call 12; (with_reducible refine (HMAY.out _ Bw10.out).mono ?_); rintro er w11 ⟨rfl, hb⟩;  have Bw11 := Aside0.mk (below_step Bw10.out hb); have Gw11 := Aside0.mk (blk_below Gw10.out hb);  clear hb) | (go_at_call 8; (with_reducible refine (HALIVE.out _).mono ?_); rintro er w19 ⟨rfl, hb⟩; have BA := Aside0.mk hb; clear hb))
    go_ret
    exact ⟨rfl, below_step Bw11.out BA.out⟩
  | true =>
  have hmy := may_of hbm
  have e1 : layR m = (Frm.layV (loadV m), 0) := by unfold layR; rw [hbm]; rfl
  rw [e1] at HLAY
  obtain ⟨K, hK⟩ := Frm.one_lay (loadV m) (load_short IM.u hmy) (flat_bytes _)
  have HK := Aside0.mk (hK K (Nat.le_refl _))
  have HLN := Aside0.mk (show (loadV m).length ≤ 100000 from Nat.le_trans (load_short IM.u hmy) (by decide))
  have HBY := Aside0.mk (show Bytes (loadV m) from flat_bytes _)
  have HRB := Aside0.mk (show parseR (loadV m) 0 = (m, 0) from read_back IM.u hbm)
  have HIM := Aside0.mk IM
  have HFA := Aside0.mk hfa
  clear hfm IM hbm e1 hfa hmy hK
  go_enter Try.func7, Try.ntmps7
  go_upto_region 7 with (first | ((with_reducible refine gate_dst (N := 1) rfl ?_); refine box_event ?hg (N := 1) ?hd (cs := #[.int .i64 m.k, .int .u64 m.s, .int .u64 m.se, .int .u64 m.a, .int .u64 m.i, .int .u64 m.n, .int .u64 m.c, .int .i64 m.why, .int .u64 m.seed, .slice A m.P.length c, .int .i64 m.most, .slice B m.L.length d]) (t := 38) ?hr ?_; (case hd => rfl); (case hg => rfl); (case hr => first | (go_simp; done) | (go_simp; rfl)); intro g hgn w5 hbox hb; have Bw5 := Aside0.mk hb; have Gw5 := Aside0.mk hbox; have u0 : w5.cell? ⟨g, 0, none⟩ = some (.int .i64 m.k) := blk_cell hbox 0; have u1 : w5.cell? ⟨g, 1, none⟩ = some (.int .u64 m.s) := blk_cell hbox 1; have u2 : w5.cell? ⟨g, 2, none⟩ = some (.int .u64 m.se) := blk_cell hbox 2; have u3 : w5.cell? ⟨g, 3, none⟩ = some (.int .u64 m.a) := blk_cell hbox 3; have u4 : w5.cell? ⟨g, 4, none⟩ = some (.int .u64 m.i) := blk_cell hbox 4; have u5 : w5.cell? ⟨g, 5, none⟩ = some (.int .u64 m.n) := blk_cell hbox 5; have u6 : w5.cell? ⟨g, 6, none⟩ = some (.int .u64 m.c) := blk_cell hbox 6; have u7 : w5.cell? ⟨g, 7, none⟩ = some (.int .i64 m.why) := blk_cell hbox 7; have u8 : w5.cell? ⟨g, 8, none⟩ = some (.int .u64 m.seed) := blk_cell hbox 8; have u9 : w5.cell? ⟨g, 9, none⟩ = some (.slice A m.P.length c) := blk_cell hbox 9; have u10 : w5.cell? ⟨g, 10, none⟩ = some (.int .i64 m.most) := blk_cell hbox 10; have u11 : w5.cell? ⟨g, 11, none⟩ = some (.slice B m.L.length d) := blk_cell hbox 11; clear hbox hb hgn) | (go_at_call 13; (with_reducible refine (HF1.out _ Bw5.out).mono ?_); rintro er w7 ⟨rfl, hb⟩;  have Bw7 := Aside0.mk (below_step Bw5.out hb); have Gw7 := Aside0.mk (blk_below Gw5.out hb); have v0 : w7.cell? ⟨g, 0, none⟩ = some (.int .i64 m.k) := blk_cell Gw7.out 0; have v1 : w7.cell? ⟨g, 1, none⟩ = some (.int .u64 m.s) := blk_cell Gw7.out 1; have v2 : w7.cell? ⟨g, 2, none⟩ = some (.int .u64 m.se) := blk_cell Gw7.out 2; have v3 : w7.cell? ⟨g, 3, none⟩ = some (.int .u64 m.a) := blk_cell Gw7.out 3; have v4 : w7.cell? ⟨g, 4, none⟩ = some (.int .u64 m.i) := blk_cell Gw7.out 4; have v5 : w7.cell? ⟨g, 5, none⟩ = some (.int .u64 m.n) := blk_cell Gw7.out 5; have v6 : w7.cell? ⟨g, 6, none⟩ = some (.int .u64 m.c) := blk_cell Gw7.out 6; have v7 : w7.cell? ⟨g, 7, none⟩ = some (.int .i64 m.why) := blk_cell Gw7.out 7; have v8 : w7.cell? ⟨g, 8, none⟩ = some (.int .u64 m.seed) := blk_cell Gw7.out 8; have v9 : w7.cell? ⟨g, 9, none⟩ = some (.slice A m.P.length c) := blk_cell Gw7.out 9; have v10 : w7.cell? ⟨g, 10, none⟩ = some (.int .i64 m.most) := blk_cell Gw7.out 10; have v11 : w7.cell? ⟨g, 11, none⟩ = some (.slice B m.L.length d) := blk_cell Gw7.out 11;  clear hb) | (go_at_call 14; (with_reducible refine (theirs_c _ m A B c d).mono ?_); rintro er w8 ⟨rfl, hb⟩;  have Bw8 := Aside0.mk (below_step Bw7.out hb); have Gw8 := Aside0.mk (blk_below Gw7.out hb);  clear hb) | (go_at_call 16; (with_reducible refine (HLAY.out _ Bw8.out).mono ?_); rintro er w9 ⟨v, rfl, hl, hb⟩; obtain ⟨A4, c4, rfl, _, _⟩ := hl.form; have X4 := Aside0.mk hl; have Bw9 := Aside0.mk (below_step Bw8.out hb); have Gw9 := Aside0.mk (blk_below Gw8.out hb); have p0 : w9.cell? ⟨g, 0, none⟩ = some (.int .i64 m.k) := blk_cell Gw9.out 0; have p1 : w9.cell? ⟨g, 1, none⟩ = some (.int .u64 m.s) := blk_cell Gw9.out 1; have p2 : w9.cell? ⟨g, 2, none⟩ = some (.int .u64 m.se) := blk_cell Gw9.out 2; have p3 : w9.cell? ⟨g, 3, none⟩ = some (.int .u64 m.a) := blk_cell Gw9.out 3; have p4 : w9.cell? ⟨g, 4, none⟩ = some (.int .u64 m.i) := blk_cell Gw9.out 4; have p5 : w9.cell? ⟨g, 5, none⟩ = some (.int .u64 m.n) := blk_cell Gw9.out 5; have p6 : w9.cell? ⟨g, 6, none⟩ = some (.int .u64 m.c) := blk_cell Gw9.out 6; have p7 : w9.cell? ⟨g, 7, none⟩ = some (.int .i64 m.why) := blk_cell Gw9.out 7; have p8 : w9.cell? ⟨g, 8, none⟩ = some (.int .u64 m.seed) := blk_cell Gw9.out 8; have p9 : w9.cell? ⟨g, 9, none⟩ = some (.slice A m.P.length c) := blk_cell Gw9.out 9; have p10 : w9.cell? ⟨g, 10, none⟩ = some (.int .i64 m.most) := blk_cell Gw9.out 10; have p11 : w9.cell? ⟨g, 11, none⟩ = some (.slice B m.L.length d) := blk_cell Gw9.out 11; clear hl; clear hb) | (go_at_call 21; (with_reducible refine (parse_c A4 c4 (Frm.layV (loadV m)) (C_of_ls X4.out).2.1 K (loadV m) 0 HK.out HLN.out HBY.out m 0 HRB.out w9 (C_of_ls X4.out).2.2).mono ?_); rintro er w10 ⟨vP, vL, rfl, hP, hL, hb⟩; obtain ⟨AP, cP, rfl, _, _⟩ := hP.form; obtain ⟨AL, cL, rfl, _, _⟩ := hL.form; have HP5 := Aside0.mk hP; have HL5 := Aside0.mk hL; have HB5 := Aside0.mk hb; have Gw10 := Aside0.mk (blk_below Gw9.out hb); clear hP hL hb) | ((with_reducible refine gate_dst (N := 5) rfl ?_); refine box_event ?hg (N := 5) ?hd (cs := #[.int .i64 0, .int .u64 0, .int .u64 0, .int .u64 0, .int .u64 0, .int .u64 0, .int .u64 0, .int .i64 0, .int .u64 0, .slice none 0 0, .int .i64 0, .slice none 0 0]) (t := 29) ?hr ?_; (case hd => rfl); (case hg => rfl); (case hr => first | (go_simp; done) | (go_simp; rfl)); intro gm hgn w6 hbox hb; have HGgm := Aside0.mk hbox; have HBgm := Aside0.mk hb; have HNgm := Aside0.mk hgn; have z0 : w6.cell? ⟨gm, 0, none⟩ = some (.int .i64 0) := blk_cell hbox 0; have zf0 : w6.frozen? ⟨gm, 0, none⟩ = false := blk_frozen hbox 0; have z1 : w6.cell? ⟨gm, 1, none⟩ = some (.int .u64 0) := blk_cell hbox 1; have zf1 : w6.frozen? ⟨gm, 1, none⟩ = false := blk_frozen hbox 1; have z2 : w6.cell? ⟨gm, 2, none⟩ = some (.int .u64 0) := blk_cell hbox 2; have zf2 : w6.frozen? ⟨gm, 2, none⟩ = false := blk_frozen hbox 2; have z3 : w6.cell? ⟨gm, 3, none⟩ = some (.int .u64 0) := blk_cell hbox 3; have zf3 : w6.frozen? ⟨gm, 3, none⟩ = false := blk_frozen hbox 3; have z4 : w6.cell? ⟨gm, 4, none⟩ = some (.int .u64 0) := blk_cell hbox 4; have zf4 : w6.frozen? ⟨gm, 4, none⟩ = false := blk_frozen hbox 4; have z5 : w6.cell? ⟨gm, 5, none⟩ = some (.int .u64 0) := blk_cell hbox 5; have zf5 : w6.frozen? ⟨gm, 5, none⟩ = false := blk_frozen hbox 5; have z6 : w6.cell? ⟨gm, 6, none⟩ = some (.int .u64 0) := blk_cell hbox 6; have zf6 : w6.frozen? ⟨gm, 6, none⟩ = false := blk_frozen hbox 6; have z7 : w6.cell? ⟨gm, 7, none⟩ = some (.int .i64 0) := blk_cell hbox 7; have zf7 : w6.frozen? ⟨gm, 7, none⟩ = false := blk_frozen hbox 7; have z8 : w6.cell? ⟨gm, 8, none⟩ = some (.int .u64 0) := blk_cell hbox 8; have zf8 : w6.frozen? ⟨gm, 8, none⟩ = false := blk_frozen hbox 8; have z9 : w6.cell? ⟨gm, 9, none⟩ = some (.slice none 0 0) := blk_cell hbox 9; have zf9 : w6.frozen? ⟨gm, 9, none⟩ = false := blk_frozen hbox 9; have z10 : w6.cell? ⟨gm, 10, none⟩ = some (.int .i64 0) := blk_cell hbox 10; have zf10 : w6.frozen? ⟨gm, 10, none⟩ = false := blk_frozen hbox 10; have z11 : w6.cell? ⟨gm, 11, none⟩ = some (.slice none 0 0) := blk_cell hbox 11; have zf11 : w6.frozen? ⟨gm, 11, none⟩ = false := blk_frozen hbox 11; clear hbox hb hgn))
  clear u0 v0 p0 z0 zf0 u1 v1 p1 z1 zf1 u2 v2 p2 z2 zf2 u3 v3 p3 z3 zf3 u4 v4 p4 z4 zf4 u5 v5 p5 z5 zf5 u6 v6 p6 z6 zf6 u7 v7 p7 z7 zf7 u8 v8 p8 z8 zf8 u9 v9 p9 z9 zf9 u10 v10 p10 z10 zf10 u11 v11 p11 z11 zf11
  obtain ⟨w12, hw12⟩ : ∃ w12, st12 w6 gm (.int .i64 m.k) (.int .u64 m.s) (.int .u64 m.se) (.int .u64 m.a) (.int .u64 m.i) (.int .u64 m.n) (.int .u64 m.c) (.int .i64 m.why) (.int .u64 m.seed) (.slice AP m.P.length cP) (.int .i64 m.most) (.slice AL m.L.length cL) = w12 := ⟨_, rfl⟩
  have hgm : w12.heap[gm]? = some (.cells #[.int .i64 m.k, .int .u64 m.s, .int .u64 m.se, .int .u64 m.a, .int .u64 m.i, .int .u64 m.n, .int .u64 m.c, .int .i64 m.why, .int .u64 m.seed, .slice AP m.P.length cP, .int .i64 m.most, .slice AL m.L.length cL] 29 (0, 0)) := by rw [← hw12]; exact st12_blk HGgm.out _ _ _ _ _ _ _ _ _ _ _ _
  have hb6 : Below w9.heap.size w9 w6 := below_step HB5.out HBgm.out
  have hge : w9.heap.size ≤ gm := by rw [HNgm.out]; exact HB5.out.size
  have hb12 : Below w9.heap.size w9 w12 := by rw [← hw12]; exact st12_bel hb6 hge _ _ _ _ _ _ _ _ _ _ _ _
  have hg12 := blk_below Gw9.out hb12
  have hP9 : Ls encI 3 w12 w9.heap.size (.slice AP m.P.length cP) m.P := by rw [← hw12]; exact lsK1 (HP5.out.below HBgm.out) (st12_kept w6 gm _ _ _ _ _ _ _ _ _ _ _ _) HGgm.out (by decide)
  have hL9 : Ls encI 3 w12 w9.heap.size (.slice AL m.L.length cL) m.L := by rw [← hw12]; exact lsK1 (HL5.out.below HBgm.out) (st12_kept w6 gm _ _ _ _ _ _ _ _ _ _ _ _) HGgm.out (by decide)
  have HBW := Aside0.mk (below_step Bw9.out hb12)
  have HSAME := Aside0.mk (show ∀ W, Below w12.heap.size w12 W → Calls Try.prog 10 #[.agg #[.int .i64 m.k, .int .u64 m.s, .int .u64 m.se, .int .u64 m.a, .int .u64 m.i, .int .u64 m.n, .int .u64 m.c, .int .i64 m.why, .int .u64 m.seed, .slice AP m.P.length cP, .int .i64 m.most, .slice AL m.L.length cL], .agg #[.int .i64 m.k, .int .u64 m.s, .int .u64 m.se, .int .u64 m.a, .int .u64 m.i, .int .u64 m.n, .int .u64 m.c, .int .i64 m.why, .int .u64 m.seed, .slice A m.P.length c, .int .i64 m.most, .slice B m.L.length d]] W fun er w' => er = .returned (.bool true) ∧ Below W.heap.size W w' from fun W hw => by
    have hq := below_step HBW.out hw
    have h1 := C_of_li hP9
    have h2 := C_of_li hL9
    have hfa := HFA.out
    have q := same_c W m m AP AL A B cP cL c d (by omega) (by omega) h1.2.1 h2.2.1 (Kd.C_below h1.2.2 hw) (Kd.C_below h2.2.2 hw) HIM.out.cP HIM.out.cL (Kd.C_below HIM.out.P hq) (Kd.C_below HIM.out.L hq)
    rw [same_self] at q
    exact q)
  have x0 : w12.cell? ⟨gm, 0, none⟩ = some (.int .i64 m.k) := blk_cell hgm 0
  have x1 : w12.cell? ⟨gm, 1, none⟩ = some (.int .u64 m.s) := blk_cell hgm 1
  have x2 : w12.cell? ⟨gm, 2, none⟩ = some (.int .u64 m.se) := blk_cell hgm 2
  have x3 : w12.cell? ⟨gm, 3, none⟩ = some (.int .u64 m.a) := blk_cell hgm 3
  have x4 : w12.cell? ⟨gm, 4, none⟩ = some (.int .u64 m.i) := blk_cell hgm 4
  have x5 : w12.cell? ⟨gm, 5, none⟩ = some (.int .u64 m.n) := blk_cell hgm 5
  have x6 : w12.cell? ⟨gm, 6, none⟩ = some (.int .u64 m.c) := blk_cell hgm 6
  have x7 : w12.cell? ⟨gm, 7, none⟩ = some (.int .i64 m.why) := blk_cell hgm 7
  have x8 : w12.cell? ⟨gm, 8, none⟩ = some (.int .u64 m.seed) := blk_cell hgm 8
  have x9 : w12.cell? ⟨gm, 9, none⟩ = some (.slice AP m.P.length cP) := blk_cell hgm 9
  have x10 : w12.cell? ⟨gm, 10, none⟩ = some (.int .i64 m.most) := blk_cell hgm 10
  have x11 : w12.cell? ⟨gm, 11, none⟩ = some (.slice AL m.L.length cL) := blk_cell hgm 11
  have y0 : w12.cell? ⟨g, 0, none⟩ = some (.int .i64 m.k) := blk_cell hg12 0
  have y1 : w12.cell? ⟨g, 1, none⟩ = some (.int .u64 m.s) := blk_cell hg12 1
  have y2 : w12.cell? ⟨g, 2, none⟩ = some (.int .u64 m.se) := blk_cell hg12 2
  have y3 : w12.cell? ⟨g, 3, none⟩ = some (.int .u64 m.a) := blk_cell hg12 3
  have y4 : w12.cell? ⟨g, 4, none⟩ = some (.int .u64 m.i) := blk_cell hg12 4
  have y5 : w12.cell? ⟨g, 5, none⟩ = some (.int .u64 m.n) := blk_cell hg12 5
  have y6 : w12.cell? ⟨g, 6, none⟩ = some (.int .u64 m.c) := blk_cell hg12 6
  have y7 : w12.cell? ⟨g, 7, none⟩ = some (.int .i64 m.why) := blk_cell hg12 7
  have y8 : w12.cell? ⟨g, 8, none⟩ = some (.int .u64 m.seed) := blk_cell hg12 8
  have y9 : w12.cell? ⟨g, 9, none⟩ = some (.slice A m.P.length c) := blk_cell hg12 9
  have y10 : w12.cell? ⟨g, 10, none⟩ = some (.int .i64 m.most) := blk_cell hg12 10
  have y11 : w12.cell? ⟨g, 11, none⟩ = some (.slice B m.L.length d) := blk_cell hg12 11
  unfold st12 at hw12
  rw [hw12]
  clear hw12 hgm hb6 hge hb12 hg12 hP9 hL9
  refine start_ (n := 12) (S := fun w' => w'.cell? ⟨gm, 0, none⟩ = some (.int .i64 m.k) ∧ w'.cell? ⟨gm, 1, none⟩ = some (.int .u64 m.s) ∧ w'.cell? ⟨gm, 2, none⟩ = some (.int .u64 m.se) ∧ w'.cell? ⟨gm, 3, none⟩ = some (.int .u64 m.a) ∧ w'.cell? ⟨gm, 4, none⟩ = some (.int .u64 m.i) ∧ w'.cell? ⟨gm, 5, none⟩ = some (.int .u64 m.n) ∧ w'.cell? ⟨gm, 6, none⟩ = some (.int .u64 m.c) ∧ w'.cell? ⟨gm, 7, none⟩ = some (.int .i64 m.why) ∧ w'.cell? ⟨gm, 8, none⟩ = some (.int .u64 m.seed) ∧ w'.cell? ⟨gm, 9, none⟩ = some (.slice AP m.P.length cP) ∧ w'.cell? ⟨gm, 10, none⟩ = some (.int .i64 m.most) ∧ w'.cell? ⟨gm, 11, none⟩ = some (.slice AL m.L.length cL) ∧ w'.cell? ⟨g, 0, none⟩ = some (.int .i64 m.k) ∧ w'.cell? ⟨g, 1, none⟩ = some (.int .u64 m.s) ∧ w'.cell? ⟨g, 2, none⟩ = some (.int .u64 m.se) ∧ w'.cell? ⟨g, 3, none⟩ = some (.int .u64 m.a) ∧ w'.cell? ⟨g, 4, none⟩ = some (.int .u64 m.i) ∧ w'.cell? ⟨g, 5, none⟩ = some (.int .u64 m.n) ∧ w'.cell? ⟨g, 6, none⟩ = some (.int .u64 m.c) ∧ w'.cell? ⟨g, 7, none⟩ = some (.int .i64 m.why) ∧ w'.cell? ⟨g, 8, none⟩ = some (.int .u64 m.seed) ∧ w'.cell? ⟨g, 9, none⟩ = some (.slice A m.P.length c) ∧ w'.cell? ⟨g, 10, none⟩ = some (.int .i64 m.most) ∧ w'.cell? ⟨g, 11, none⟩ = some (.slice B m.L.length d)) (ds := [9]) #[false, false, false, false, false, false, false, false, false, false, false, false] (by kernel_rfl) rfl rfl ⟨x0, x1, x2, x3, x4, x5, x6, x7, x8, x9, x10, x11, y0, y1, y2, y3, y4, y5, y6, y7, y8, y9, y10, y11⟩ (fun hHeld => ?_)
  refine pure_ (i := 0) (N := some 35) (v := ?_) (a' := ?_) #[true, false, false, false, false, false, false, false, false, false, false, false] rfl rfl (by kernel_rfl) (fun _ _ _ h => h) (Or.inl ⟨by rfl, ?_⟩) ?_ ?_
  rotate_left
  · intro w'
    go_simp
    with_reducible rfl
  rotate_left
  · simp only [Act.put, List.setIfInBounds_toArray, List.set_cons_zero, List.set_cons_succ, i64_w, i32_w]
    rfl
  refine pure_ (i := 1) (N := some 36) (v := ?_) (a' := ?_) #[true, true, false, false, false, false, false, false, false, false, false, false] rfl rfl (by kernel_rfl) (fun _ _ _ h => h) (Or.inl ⟨by rfl, ?_⟩) ?_ ?_
  rotate_left
  · intro w'
    go_simp
    with_reducible rfl
  rotate_left
  · simp only [Act.put, List.setIfInBounds_toArray, List.set_cons_zero, List.set_cons_succ, i64_w, i32_w]
    rfl
  refine pure_ (i := 2) (N := some 37) (v := ?_) (a' := ?_) #[true, true, true, false, false, false, false, false, false, false, false, false] rfl rfl (by kernel_rfl) (fun _ _ _ h => h) (Or.inl ⟨by rfl, ?_⟩) ?_ ?_
  rotate_left
  · intro w'
    go_simp
    with_reducible rfl
  rotate_left
  · simp only [Act.put, List.setIfInBounds_toArray, List.set_cons_zero, List.set_cons_succ, i64_w, i32_w]
    rfl
  refine take_ (i := 3) (N := some 38) (v := ?_) (a' := ?_) #[true, true, true, true, false, false, false, false, false, false, false, false] rfl rfl (by kernel_rfl) (fun _ _ _ h => h) (Or.inl ⟨by rfl, ?_⟩) hHeld ?_ ?_
  rotate_left
  · rintro w' ⟨s0, s1, s2, s3, s4, s5, s6, s7, s8, s9, s10, s11, s12, s13, s14, s15, s16, s17, s18, s19, s20, s21, s22, s23⟩
    go_simp
    with_reducible rfl
  rotate_left
  · simp only [Act.put, List.setIfInBounds_toArray, List.set_cons_zero, List.set_cons_succ, i64_w, i32_w]
    rfl
  refine take_ (i := 4) (N := some 39) (v := ?_) (a' := ?_) #[true, true, true, true, true, false, false, false, false, false, false, false] rfl rfl (by kernel_rfl) (fun _ _ _ h => h) (Or.inl ⟨by rfl, ?_⟩) hHeld ?_ ?_
  rotate_left
  · rintro w' ⟨s0, s1, s2, s3, s4, s5, s6, s7, s8, s9, s10, s11, s12, s13, s14, s15, s16, s17, s18, s19, s20, s21, s22, s23⟩
    go_simp
    with_reducible rfl
  rotate_left
  · simp only [Act.put, List.setIfInBounds_toArray, List.set_cons_zero, List.set_cons_succ, i64_w, i32_w]
    rfl
  refine one_ (i := 5) (N := some 40) #[true, true, true, true, true, true, false, false, false, false, false, false] rfl rfl (by kernel_rfl) (by decide) (fun K hK => ?_)
  refine goes_ Try.func14 (by kernel_rfl) rfl #[.agg #[.int .i64 m.k, .int .u64 m.s, .int .u64 m.se, .int .u64 m.a, .int .u64 m.i, .int .u64 m.n, .int .u64 m.c, .int .i64 m.why, .int .u64 m.seed, .slice A m.P.length c, .int .i64 m.most, .slice B m.L.length d]] (by rfl) rfl rfl (by first | (simp only [List.map_toArray, List.map_cons, List.map_nil]; rfl) | simp only [List.map_toArray, List.map_nil]) ?_
  with_reducible refine (theirs_c _ m A B c d).mono ?_
  rintro e w1 ⟨rfl, b1⟩
  refine ⟨_, rfl, ?_⟩
  refine hK.out _ _ ⟨pw_cell_below b1 x0, pw_cell_below b1 x1, pw_cell_below b1 x2, pw_cell_below b1 x3, pw_cell_below b1 x4, pw_cell_below b1 x5, pw_cell_below b1 x6, pw_cell_below b1 x7, pw_cell_below b1 x8, pw_cell_below b1 x9, pw_cell_below b1 x10, pw_cell_below b1 x11, pw_cell_below b1 y0, pw_cell_below b1 y1, pw_cell_below b1 y2, pw_cell_below b1 y3, pw_cell_below b1 y4, pw_cell_below b1 y5, pw_cell_below b1 y6, pw_cell_below b1 y7, pw_cell_below b1 y8, pw_cell_below b1 y9, pw_cell_below b1 y10, pw_cell_below b1 y11⟩ (fun hHeld => ?_)
  clear hK K
  refine norm_ (a' := ?_) ?_ ?_
  rotate_left
  · show Act.put _ (some 40) _ = _
    simp only [Act.put, List.setIfInBounds_toArray, List.set_cons_zero, List.set_cons_succ, i64_w, i32_w]
    rfl
  refine one_ (i := 6) (N := some 41) #[true, true, true, true, true, true, true, false, false, false, false, false] rfl rfl (by kernel_rfl) (by decide) (fun K hK => ?_)
  refine goes_ Try.func10 (by kernel_rfl) rfl #[.agg #[.int .i64 m.k, .int .u64 m.s, .int .u64 m.se, .int .u64 m.a, .int .u64 m.i, .int .u64 m.n, .int .u64 m.c, .int .i64 m.why, .int .u64 m.seed, .slice AP m.P.length cP, .int .i64 m.most, .slice AL m.L.length cL], .agg #[.int .i64 m.k, .int .u64 m.s, .int .u64 m.se, .int .u64 m.a, .int .u64 m.i, .int .u64 m.n, .int .u64 m.c, .int .i64 m.why, .int .u64 m.seed, .slice A m.P.length c, .int .i64 m.most, .slice B m.L.length d]] (by rfl) rfl rfl (by first | (simp only [List.map_toArray, List.map_cons, List.map_nil]; rfl) | simp only [List.map_toArray, List.map_nil]) ?_
  with_reducible refine (HSAME.out _ (below_step (below_drew (Below.refl w12.heap.size w12)) b1)).mono ?_
  rintro e w2 ⟨rfl, b2_⟩
  refine ⟨_, rfl, ?_⟩
  have b2 := below_step b1 b2_
  refine hK.out _ _ ⟨pw_cell_below b2 x0, pw_cell_below b2 x1, pw_cell_below b2 x2, pw_cell_below b2 x3, pw_cell_below b2 x4, pw_cell_below b2 x5, pw_cell_below b2 x6, pw_cell_below b2 x7, pw_cell_below b2 x8, pw_cell_below b2 x9, pw_cell_below b2 x10, pw_cell_below b2 x11, pw_cell_below b2 y0, pw_cell_below b2 y1, pw_cell_below b2 y2, pw_cell_below b2 y3, pw_cell_below b2 y4, pw_cell_below b2 y5, pw_cell_below b2 y6, pw_cell_below b2 y7, pw_cell_below b2 y8, pw_cell_below b2 y9, pw_cell_below b2 y10, pw_cell_below b2 y11⟩ (fun hHeld => ?_)
  clear hK K
  refine norm_ (a' := ?_) ?_ ?_
  rotate_left
  · show Act.put _ (some 41) _ = _
    simp only [Act.put, List.setIfInBounds_toArray, List.set_cons_zero, List.set_cons_succ, i64_w, i32_w]
    rfl
  refine pure_ (i := 7) (N := some 42) (v := ?_) (a' := ?_) #[true, true, true, true, true, true, true, true, false, false, false, false] rfl rfl (by kernel_rfl) (fun _ _ _ h => h) (Or.inl ⟨by rfl, ?_⟩) ?_ ?_
  rotate_left
  · intro w'
    go_simp
    with_reducible rfl
  rotate_left
  · simp only [Act.put, List.setIfInBounds_toArray, List.set_cons_zero, List.set_cons_succ, i64_w, i32_w]
    rfl
  refine pure_ (i := 8) (N := some 43) (v := ?_) (a' := ?_) #[true, true, true, true, true, true, true, true, true, false, false, false] rfl rfl (by kernel_rfl) (fun _ _ _ h => h) (Or.inl ⟨by rfl, ?_⟩) ?_ ?_
  rotate_left
  · intro w'
    go_simp
    with_reducible rfl
  rotate_left
  · simp only [Act.put, List.setIfInBounds_toArray, List.set_cons_zero, List.set_cons_succ, i64_w, i32_w]
    rfl
  refine last_ (i := 9) (N := some 44) #[true, true, true, true, true, true, true, true, true, true, false, false] rfl rfl (by kernel_rfl) (by decide) (fun K hK => ?_)
  refine goes_ Try.func8 (by kernel_rfl) rfl #[] (by rfl) rfl rfl (by first | (simp only [List.map_toArray, List.map_cons, List.map_nil]; rfl) | simp only [List.map_toArray, List.map_nil]) ?_
  with_reducible refine (HALIVE.out _).mono ?_
  rintro e w3 ⟨rfl, b3_⟩
  refine ⟨_, rfl, ?_⟩
  have HZ := Aside0.mk (below_step HBW.out (below_step (below_drew (Below.refl w12.heap.size w12)) (below_step b2 b3_)))
  clear b3_
  refine hK.out _ _ ?_
  clear hK K
  refine norm_ (a' := ?_) ?_ ?_
  rotate_left
  · show Act.put _ (some 44) _ = _
    simp only [Act.put, List.setIfInBounds_toArray, List.set_cons_zero, List.set_cons_succ, i64_w, i32_w]
    rfl
  refine pure_ (i := 10) (N := some 45) (v := ?_) (a' := ?_) #[true, true, true, true, true, true, true, true, true, true, true, false] rfl rfl (by kernel_rfl) (fun _ _ _ h => h) (Or.inl ⟨by rfl, ?_⟩) ?_ ?_
  rotate_left
  · intro w'
    go_simp
    with_reducible rfl
  rotate_left
  · simp only [Act.put, List.setIfInBounds_toArray, List.set_cons_zero, List.set_cons_succ, i64_w, i32_w]
    rfl
  refine pure_ (i := 11) (N := some 2) (v := ?_) (a' := ?_) #[true, true, true, true, true, true, true, true, true, true, true, true] rfl rfl (by kernel_rfl) (fun _ _ _ h => h) (Or.inl ⟨by rfl, ?_⟩) ?_ ?_
  rotate_left
  · intro w'
    go_simp
    with_reducible rfl
  rotate_left
  · simp only [Act.put, List.setIfInBounds_toArray, List.set_cons_zero, List.set_cons_succ, i64_w, i32_w]
    rfl
  refine done_ (by kernel_rfl) ?_
  go_wp2_with fail
  go_ret
  exact ⟨rfl, HZ.out⟩
end Go.Proofs.Ytbfmbjkalldonaa.Msg
