/- What crc computes, in plain words: sums, seals, what is opened; no condition but that bytes are bytes and rows not beyond the machine. -/
import Derived.Test.YtjpjlloimemcfaaPAx4
import Derived.Test.YtjpjlloimemcfaaPAx10
import Derived.Test.YtjpjlloimemcfaaBase
namespace Go.Proofs.Ytjpjlloimemcfaa.Crc
set_option linter.unusedVariables false
set_option linter.unusedSimpArgs false
open Go.RowKit Go.Proofs.Ytjpjlloimemcfaa.PA Go.Proofs.YtjpjlloimemcfaaW.PrintWords Go.Proofs.YtjpjlloimemcfaaW.PrintLast Go.Proofs.YtjpjlloimemcfaaW.PrintMore Go.Proofs.Ytjpjlloimemcfaa.Base

def sumV (l : List Int) : Int := crcAdd 0 l
def b4 (n : Int) : List Int := [n % 256, (n / 256) % 256, (n / 65536) % 256, (n / 16777216) % 256]
def sealV (l : List Int) : List Int := l ++ b4 (sumV l)
def openV (l : List Int) : List Int × Int :=
  if l.length < 4 then ([], 4) else if l.drop (l.length - 4) = b4 (sumV (l.take (l.length - 4))) then (l.take (l.length - 4), 0) else ([], 8)
theorem xor_bd (a b : Int) : 0 ≤ bits .xor .u32 a b ∧ bits .xor .u32 a b < 4294967296 := by
  have h : bits .xor .u32 a b = IntKind.u32.wrap ((BitVec.ofInt 32 a ^^^ BitVec.ofInt 32 b).toNat : Int) := rfl
  rw [h, IntKind.wrap_u32]; omega
theorem sumV_bd (l : List Int) : 0 ≤ sumV l ∧ sumV l < 4294967296 := xor_bd _ _
theorem b4_len (n : Int) : (b4 n).length = 4 := rfl
theorem seal_len (l : List Int) : (sealV l).length = l.length + 4 := by simp [sealV, b4_len]

theorem rdL_drop {xs : List (List Int)} {i : Nat} {c : List Int} {t : List (List Int)} (h : xs.drop i = c :: t) : rd_L1 xs (i : Int) = c ∧ i < xs.length ∧ xs.drop (i + 1) = t := by
  have hl : i < xs.length := by
    rcases Nat.lt_or_ge i xs.length with h' | h'
    · exact h'
    · rw [List.drop_eq_nil_of_le h'] at h; cases h
  have hd := List.drop_eq_getElem_cons hl
  rw [h] at hd
  injection hd with h1 h2
  refine ⟨?_, hl, h2.symm⟩
  show xs.getD ((i : Int)).toNat [] = c
  rw [Int.toNat_natCast, List.getD_eq_getElem?_getD, List.getElem?_eq_getElem hl, h1]; rfl
theorem sumL_ev (ps : List (List Int)) (hl : ps.length ≤ 1000000) : ∀ (t : List (List Int)) (i : Nat) (s : Int), i ≤ ps.length → ps.drop i = t → Ev (fun k => crc_Sum.l0 k ps (ps.length : Int) (i : Int) s) (t.foldl crcAdd s)
  | [], i, s, hi, h => by
    have he : i = ps.length := by
      have := congrArg List.length h
      rw [List.length_drop] at this
      simp at this; omega
    refine Ev.step (f := fun _ => some s) (fun q => ?_) (Ev.now _)
    rw [crc_Sum.l0, if_neg (by omega)]; rfl
  | c :: t, i, s, hi, h => by
    obtain ⟨h1, h2, h3⟩ := rdL_drop h
    refine Ev.step (f := fun q => crc_Sum.l0 q ps (ps.length : Int) ((i + 1 : Nat) : Int) (crcAdd s c)) (fun q => ?_) (sumL_ev ps hl t (i + 1) (crcAdd s c) (by omega) h3)
    rw [crc_Sum.l0, if_pos (by omega), if_pos (by omega), if_pos (by omega), h1, w64 (by omega) (by omega)]
    rfl
theorem sum_ev (ps : List (List Int)) (hl : ps.length ≤ 1000000) : Ev (fun k => crc_Sum.f k ps) (ps.foldl crcAdd 0) :=
  Ev.congr (g := fun k => crc_Sum.f k ps) (f := fun k => crc_Sum.l0 k ps (ps.length : Int) ((0 : Nat) : Int) 0) (fun k => rfl) (sumL_ev ps hl ps 0 0 (Nat.zero_le _) rfl)
theorem sum1_ev (l : List Int) : Ev (fun k => crc_Sum.f k [l]) (sumV l) := sum_ev [l] (by simp)
theorem seal_ev (l : List Int) (hl : l.length ≤ 100000) : Ev (fun k => crc_Seal.f k l) (sealV l) := by
  unfold crc_Seal.f
  refine Ev.bind (sum1_ev l) ?_
  refine Ev.congr (f := fun _ => some (sealV l)) (fun k => ?_) (Ev.now _)
  rw [bytes_Clone.f, if_pos (by omega), Option.bind_some, Option.bind_some, if_pos (by simp only [List.length_cons, List.length_nil]; omega)]
  rfl
def dig (n : Int) (i : Nat) : Int := (n / 2 ^ (8 * i)) % 256
theorem openStep (x0 : List Int) (x4 n : Int) (y : List Int) (hy : y.length = 4) (i : Nat) (hi : i < 4) (q : Nat) :
    crc_Open.l0 (q + 1) x0 x4 n y 4 (i : Int) = if dig n i = y.getD i 0 then crc_Open.l0 q x0 x4 n y 4 ((i + 1 : Nat) : Int) else some ([], 8) := by
  have e : (shr .u32 n (wrap64 (8 * (i : Int)))) % 256 = dig n i := by
    rw [w64 (by omega) (by omega)]
    unfold shr dig
    rw [show min (8 * (i : Int)).toNat IntKind.u32.bits = 8 * i from by
      have : IntKind.u32.bits = 32 := rfl
      omega]
  rw [crc_Open.l0, if_pos (by omega), if_pos (by omega), if_pos (by omega), if_pos (by rw [w64 (by omega) (by omega)]; omega), e, w64 (x := (i : Int) + 1) (by omega) (by omega)]
  rfl
theorem openEnd (x0 : List Int) (x4 n : Int) (y : List Int) (h0 : 0 ≤ x4) (h1 : x4 ≤ (x0.length : Int)) (hl : x0.length ≤ 100000) (q : Nat) :
    crc_Open.l0 (q + 1) x0 x4 n y 4 4 = some (x0.take x4.toNat, 0) := by
  rw [crc_Open.l0, if_neg (by omega), if_pos h0, if_pos h1, bytes_Clone.f, if_pos (by rw [List.length_take]; omega)]
  rfl
theorem list4 {y : List Int} (hy : y.length = 4) (n : Int) : y = b4 n ↔ dig n 0 = y.getD 0 0 ∧ dig n 1 = y.getD 1 0 ∧ dig n 2 = y.getD 2 0 ∧ dig n 3 = y.getD 3 0 := by
  obtain ⟨a, y, rfl⟩ := List.exists_cons_of_length_eq_add_one hy
  obtain ⟨b, y, rfl⟩ := List.exists_cons_of_length_eq_add_one (show y.length = 2 + 1 by simpa using hy)
  obtain ⟨c, y, rfl⟩ := List.exists_cons_of_length_eq_add_one (show y.length = 1 + 1 by simpa using hy)
  obtain ⟨d, y, rfl⟩ := List.exists_cons_of_length_eq_add_one (show y.length = 0 + 1 by simpa using hy)
  have : y = [] := List.length_eq_zero_iff.mp (by simpa using hy)
  subst this
  have d0 : dig n 0 = n % 256 := by simp [dig]
  have d1 : dig n 1 = n / 256 % 256 := rfl
  have d2 : dig n 2 = n / 65536 % 256 := rfl
  have d3 : dig n 3 = n / 16777216 % 256 := rfl
  rw [d0, d1, d2, d3]
  simp only [b4, List.cons.injEq, and_true, List.getD_cons_zero, List.getD_cons_succ]
  constructor
  · rintro ⟨rfl, rfl, rfl, rfl⟩; exact ⟨rfl, rfl, rfl, rfl⟩
  · rintro ⟨h0, h1, h2, h3⟩; exact ⟨h0.symm, h1.symm, h2.symm, h3.symm⟩
theorem openL_ev (x0 : List Int) (x4 n : Int) (y : List Int) (hy : y.length = 4) (h0 : 0 ≤ x4) (h1 : x4 ≤ (x0.length : Int)) (hl : x0.length ≤ 100000) :
    Ev (fun k => crc_Open.l0 k x0 x4 n y 4 0) (if y = b4 n then (x0.take x4.toNat, 0) else ([], 8)) := by
  have hs := openStep x0 x4 n y hy
  by_cases e0 : dig n 0 = y.getD 0 0
  rotate_left
  · rw [if_neg (fun h => e0 ((list4 hy n).mp h).1)]
    exact Ev.step (f := fun _ => some ([], 8)) (fun q => (hs 0 (by decide) q).trans (if_neg e0)) (Ev.now _)
  refine Ev.step (fun q => (hs 0 (by decide) q).trans (if_pos e0)) ?_
  by_cases e1 : dig n 1 = y.getD 1 0
  rotate_left
  · rw [if_neg (fun h => e1 ((list4 hy n).mp h).2.1)]
    exact Ev.step (f := fun _ => some ([], 8)) (fun q => (hs 1 (by decide) q).trans (if_neg e1)) (Ev.now _)
  refine Ev.step (fun q => (hs 1 (by decide) q).trans (if_pos e1)) ?_
  by_cases e2 : dig n 2 = y.getD 2 0
  rotate_left
  · rw [if_neg (fun h => e2 ((list4 hy n).mp h).2.2.1)]
    exact Ev.step (f := fun _ => some ([], 8)) (fun q => (hs 2 (by decide) q).trans (if_neg e2)) (Ev.now _)
  refine Ev.step (fun q => (hs 2 (by decide) q).trans (if_pos e2)) ?_
  by_cases e3 : dig n 3 = y.getD 3 0
  rotate_left
  · rw [if_neg (fun h => e3 ((list4 hy n).mp h).2.2.2)]
    exact Ev.step (f := fun _ => some ([], 8)) (fun q => (hs 3 (by decide) q).trans (if_neg e3)) (Ev.now _)
  refine Ev.step (fun q => (hs 3 (by decide) q).trans (if_pos e3)) ?_
  rw [if_pos ((list4 hy n).mpr ⟨e0, e1, e2, e3⟩)]
  exact Ev.step (f := fun _ => some (x0.take x4.toNat, 0)) (fun q => openEnd x0 x4 n y h0 h1 hl q) (Ev.now _)
theorem open_ev (l : List Int) (hl : l.length ≤ 100000) : Ev (fun k => crc_Open.f k l) (openV l) := by
  unfold crc_Open.f openV
  rw [w64 (x := (l.length : Int) - 4) (by omega) (by omega)]
  by_cases h4 : l.length < 4
  · rw [if_pos h4]; exact ev_ifT (by omega) (Ev.now _)
  rw [if_neg h4]
  refine ev_ifF (by omega) (ev_ifT (by omega) (ev_ifT (by omega) ?_))
  rw [show ((l.length : Int) - 4).toNat = l.length - 4 from by omega]
  refine Ev.bind (sum1_ev _) ?_
  have hy : (l.drop (l.length - 4)).length = 4 := by rw [List.length_drop]; omega
  have := openL_ev l ((l.length : Int) - 4) (sumV (l.take (l.length - 4))) (l.drop (l.length - 4)) hy (by omega) (by omega) hl
  rw [show ((l.length : Int) - 4).toNat = l.length - 4 from by omega] at this
  refine Ev.congr (fun k => ?_) this
  show crc_Open.l0 k l _ _ _ (((l.drop (l.length - 4)).length : Nat) : Int) 0 = _
  rw [hy]; rfl
theorem open_seal (l : List Int) : openV (sealV l) = (l, 0) := by
  have h1 : (sealV l).length - 4 = l.length := by rw [seal_len]; omega
  have h2 : (sealV l).take l.length = l := List.take_left' rfl
  have h3 : (sealV l).drop l.length = b4 (sumV l) := List.drop_left' rfl
  unfold openV
  rw [if_neg (by rw [seal_len]; omega), h1, h2, h3, if_pos rfl]
end Go.Proofs.Ytjpjlloimemcfaa.Crc
