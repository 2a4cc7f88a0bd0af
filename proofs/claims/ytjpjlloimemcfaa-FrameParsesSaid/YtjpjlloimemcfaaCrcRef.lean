/- The document's sums, seals and what it opens are the program's; no condition but that bytes are bytes and rows not long. -/
import Derived.Test.YtjpjlloimemcfaaPAx17
import Derived.Test.YtjpjlloimemcfaaPAx18
import Derived.Test.YtjpjlloimemcfaaCrcBits
import Derived.Lib.Bytes
namespace Go.Proofs.Ytjpjlloimemcfaa.Crc
set_option linter.unusedVariables false
set_option linter.unusedSimpArgs false
open Go.RowKit Go.Proofs.Ytjpjlloimemcfaa.PA Go.Proofs.YtjpjlloimemcfaaW.PrintWords Go.Proofs.YtjpjlloimemcfaaW.PrintLast Go.Proofs.YtjpjlloimemcfaaW.PrintMore Go.Proofs.Ytjpjlloimemcfaa.Base

def Bytes (l : List Int) : Prop := ∀ x ∈ l, 0 ≤ x ∧ x ≤ 255
theorem bytes_of_wf {l : List Int} (h : ∀ x ∈ l, (Lit.int .u8 x).wf = true) : Bytes l := fun x hx => wf_u8 (h x hx)
theorem Bytes.take {l : List Int} (h : Bytes l) (n : Nat) : Bytes (l.take n) := fun x hx => h x (List.mem_of_mem_take hx)
theorem Bytes.drop {l : List Int} (h : Bytes l) (n : Nat) : Bytes (l.drop n) := fun x hx => h x (List.mem_of_mem_drop hx)
theorem Bytes.append {a b : List Int} (ha : Bytes a) (hb : Bytes b) : Bytes (a ++ b) := fun x hx => (List.mem_append.mp hx).elim (ha x) (hb x)
theorem b4_bytes (n : Int) : Bytes (b4 n) := by
  intro x hx
  simp only [b4, List.mem_cons, List.not_mem_nil, or_false] at hx
  rcases hx with rfl | rfl | rfl | rfl <;> omega
theorem seal_bytes {l : List Int} (h : Bytes l) : Bytes (sealV l) := h.append (b4_bytes _)
def stepB (a : B32) (c : Int) : B32 := T8 (a ^^^ BitVec.ofNat 32 c.toNat)
def reg (l : List Int) (a : B32) : B32 := l.foldl stepB a
def ones : B32 := 0xFFFFFFFF#32
theorem fold_reg : ∀ (l : List Int) (a : B32), Bytes l → l.foldl crcStep (I a) = I (reg l a)
  | [], a, h => rfl
  | c :: t, a, h => by
    have hc := h c (by simp)
    have e : crcStep (I a) c = I (stepB a c) := by
      have := crcStepI a c.toNat (by omega)
      rw [show ((c.toNat : Nat) : Int) = c by omega] at this
      exact this
    rw [List.foldl_cons, e, fold_reg t _ (fun x hx => h x (by simp [hx]))]
    rfl
theorem add_reg (l : List Int) (h : Bytes l) (a : B32) : crcAdd (I a) l = I (ones ^^^ reg l (ones ^^^ a)) := by
  unfold crcAdd
  rw [show IntKind.u32.max = I ones from rfl, xorI, fold_reg l _ h, xorI]
theorem sum_reg (l : List Int) (h : Bytes l) : sumV l = I (ones ^^^ reg l ones) := by
  have := add_reg l h 0#32
  rw [BitVec.xor_zero] at this
  exact this

theorem l1_step (x0 : List Int) (n i j : Int) (hi : 0 ≤ i) (hl : i < (x0.length : Int)) (hj : 0 ≤ j) (hj8 : j < 8) (q : Nat) :
    garboardref03_Sum.l1 (q + 1) x0 n i j = garboardref03_Sum.l1 q x0 (refStep n (rd x0 i) j) i (j + 1) := by
  rw [garboardref03_Sum.l1, if_pos hj8, if_pos hi, if_pos hl, if_pos hj, w64 (x := j + 1) (by omega) (by omega)]
  unfold refStep
  split <;> rfl
theorem l1_byte {x0 : List Int} {a : B32} {i c : Int} {r : Int} (hi : 0 ≤ i) (hl : i < (x0.length : Int)) (hc : rd x0 i = c) (h0 : 0 ≤ c) (h1 : c ≤ 255)
    (h : Ev (fun k => garboardref03_Sum.l0 k x0 (I (stepB a c)) (wrap64 (i + 1))) r) : Ev (fun k => garboardref03_Sum.l1 k x0 (I a) i 0) r := by
  obtain ⟨m, rfl⟩ := Int.eq_ofNat_of_zero_le h0
  have hm : m < 256 := by omega
  have st : ∀ (a : B32) (j : Nat) (q : Nat), j < 8 → garboardref03_Sum.l1 (q + 1) x0 (I a) i (j : Int) = garboardref03_Sum.l1 q x0 (I (B a (BitVec.ofNat 32 m >>> j))) i ((j + 1 : Nat) : Int) := fun a j q hj => by
    rw [l1_step x0 (I a) i j hi hl (by omega) (by omega) q, hc, refStepI a m j hm hj]
    rfl
  refine Ev.step (fun q => st a 0 q (by decide)) (Ev.step (fun q => st _ 1 q (by decide)) (Ev.step (fun q => st _ 2 q (by decide)) (Ev.step (fun q => st _ 3 q (by decide)) (Ev.step (fun q => st _ 4 q (by decide)) (Ev.step (fun q => st _ 5 q (by decide)) (Ev.step (fun q => st _ 6 q (by decide)) (Ev.step (fun q => st _ 7 q (by decide)) ?_)))))))
  have e : B8 a (BitVec.ofNat 32 m) = stepB a (m : Int) := by
    rw [byte_step a m hm]; rfl
  refine Ev.step (f := fun k => garboardref03_Sum.l0 k x0 (I (B8 a (BitVec.ofNat 32 m))) (wrap64 (i + 1))) (fun q => ?_) (e ▸ h)
  rw [garboardref03_Sum.l1, if_neg (by decide)]
  rfl
theorem rsum_loop (x0 : List Int) (hl : x0.length ≤ 9223372036854775) (hb : Bytes x0) : ∀ (t : List Int) (i : Nat) (a : B32), i ≤ x0.length → x0.drop i = t → Ev (fun k => garboardref03_Sum.l0 k x0 (I a) (i : Int)) (I (reg t a ^^^ ones))
  | [], i, a, hi, h => by
    have he := drop_end hi h
    refine Ev.step (f := fun _ => some (I (a ^^^ ones))) (fun q => ?_) (Ev.now _)
    rw [garboardref03_Sum.l0, if_neg (by omega), show (4294967295 : Int) = I ones from rfl, xorI]
  | c :: t, i, a, hi, h => by
    obtain ⟨h1, h2, h3⟩ := rd_drop h
    have hc := hb c (List.mem_of_mem_drop (by rw [h]; simp))
    refine Ev.step (f := fun k => garboardref03_Sum.l1 k x0 (I a) (i : Int) 0) (fun q => by rw [garboardref03_Sum.l0, if_pos (by omega)]) ?_
    refine l1_byte (by omega) (by omega) h1 hc.1 hc.2 ?_
    rw [w64 (by omega) (by omega)]
    exact rsum_loop x0 hl hb t (i + 1) (stepB a c) (by omega) h3
theorem rsum_ev (l : List Int) (hl : l.length ≤ 9223372036854775) (hb : Bytes l) : Ev (fun k => garboardref03_Sum.f k l) (sumV l) := by
  have := rsum_loop l hl hb l 0 ones (Nat.zero_le _) rfl
  rw [sum_reg l hb, BitVec.xor_comm]
  exact this
theorem rseal_ev (l : List Int) (hl : l.length ≤ 100000) (hb : Bytes l) : Ev (fun k => garboardref03_Seal.f k l) (sealV l) := by
  unfold garboardref03_Seal.f
  refine Ev.bind (rsum_ev l (by omega) hb) ?_
  refine Ev.congr (f := fun _ => some (sealV l)) (fun k => ?_) (Ev.now _)
  rw [if_pos (by simp only [List.length_nil]; omega), Option.bind_some, Option.bind_some, if_pos (by simp only [List.length_cons, List.length_nil, List.nil_append]; omega)]
  rfl
theorem str_inj : ∀ {a b : List Int}, Bytes a → Bytes b → (strOfNums a).toList = (strOfNums b).toList → a = b := by
  have key : ∀ (a b : List Int), Bytes a → Bytes b → (a.map fun n => UInt8.ofNat n.toNat) = (b.map fun n => UInt8.ofNat n.toNat) → a = b := by
    intro a
    induction a with
    | nil => intro b _ _ h; cases b with | nil => rfl | cons y b => simp at h
    | cons x a ih =>
      intro b ha hb h
      cases b with
      | nil => simp at h
      | cons y b =>
        simp only [List.map_cons, List.cons.injEq] at h
        have hx := ha x (by simp)
        have hy := hb y (by simp)
        have e := congrArg UInt8.toNat h.1
        simp only [UInt8.toNat_ofNat'] at e
        rw [ih b (fun z hz => ha z (by simp [hz])) (fun z hz => hb z (by simp [hz])) h.2, show x = y by omega]
  intro a b ha hb h
  refine key a b ha hb ?_
  rw [Lib.strOfNums_toList, Lib.strOfNums_toList] at h
  exact h
end Go.Proofs.Ytjpjlloimemcfaa.Crc
