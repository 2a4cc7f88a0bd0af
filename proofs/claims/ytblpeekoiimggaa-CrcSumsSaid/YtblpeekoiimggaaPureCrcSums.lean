/- CrcSums: the sum of any parts is the document's of all their bytes; no condition but that bytes are bytes. -/
import Derived.Test.YtblpeekoiimggaaCrcRef
import Derived.Test.YtblpeekoiimggaaPAx8
namespace Go.Proofs.Ytblpeekoiimggaa.Pure
set_option linter.unusedVariables false
set_option linter.unusedSimpArgs false
open Go.RowKit Go.Proofs.Ytblpeekoiimggaa.PA Go.Proofs.YtblpeekoiimggaaW.PrintWords Go.Proofs.YtblpeekoiimggaaW.PrintMore Go.Proofs.Ytblpeekoiimggaa.Base Go.Proofs.Ytblpeekoiimggaa.Crc

theorem add_sum {a b : List Int} (ha : Bytes a) (hb : Bytes b) : crcAdd (sumV a) b = sumV (a ++ b) := by
  rw [sum_reg a ha, add_reg b hb, sum_reg _ (ha.append hb)]
  refine congrArg I ?_
  rw [← BitVec.xor_assoc, BitVec.xor_self, BitVec.zero_xor]
  show ones ^^^ reg b (reg a ones) = ones ^^^ reg (a ++ b) ones
  rw [show reg (a ++ b) ones = reg b (reg a ones) from List.foldl_append ..]
theorem sums_loop (ps : List (List Int)) (hl : ps.length ≤ 20) (hb : ∀ p ∈ ps, Bytes p) : ∀ (t : List (List Int)) (i : Nat) (acc : List Int), i ≤ ps.length → ps.drop i = t → acc.length ≤ 200 * i → Bytes acc → ps.foldl crcAdd 0 = t.foldl crcAdd (sumV acc) →
    Ev (fun k => garboardlaw03_CrcSums.l0 k ps acc ps (ps.length : Int) (i : Int) (sumV acc)) true
  | [], i, acc, hi, h, ha, hba, hf => by
    have he : i = ps.length := by
      have := congrArg List.length h
      rw [List.length_drop] at this
      simp at this; omega
    have e1 := sum_ev ps (by omega)
    rw [hf] at e1
    have e2 := rsum_ev acc (by omega) hba
    have e3 : Ev (fun k => garboardref03_Sum.f k ([] : List Int)) (sumV []) := rsum_ev [] (by simp) (fun x hx => absurd hx (by simp))
    refine Ev.step (fun q => by rw [garboardlaw03_CrcSums.l0, if_neg (by omega)]) ?_
    simp only [alive_all, crc_State_Sum.f, Option.bind_some]
    refine Ev.bind e1 (Ev.bind e2 (ev_ifT (by trivial) (Ev.bind e2 (ev_ifT (by trivial) (Ev.bind e3 (ev_ifT (by decide +kernel) (Ev.now _)))))))
  | c :: t, i, acc, hi, h, ha, hba, hf => by
    obtain ⟨h1, h2, h3⟩ := rdL_drop h
    have hc : Bytes c := hb c (List.mem_of_mem_drop (by rw [h]; simp))
    by_cases h200 : (c.length : Int) > 200
    · refine Ev.step (f := fun _ => some true) (fun q => ?_) (Ev.now _)
      rw [garboardlaw03_CrcSums.l0, if_pos (by omega), if_pos (by omega), if_pos (by omega), h1, if_pos h200]
      rfl
    · have ih := sums_loop ps hl hb t (i + 1) (acc ++ c) (by omega) h3 (by rw [List.length_append]; omega) (hba.append hc) (by rw [hf, List.foldl_cons, add_sum hba hc])
      refine Ev.step (f := fun q => garboardlaw03_CrcSums.l0 q ps (acc ++ c) ps (ps.length : Int) ((i + 1 : Nat) : Int) (sumV (acc ++ c))) (fun q => ?_) ih
      rw [garboardlaw03_CrcSums.l0, if_pos (by omega), if_pos (by omega), if_pos (by omega), h1, if_neg h200, if_pos (by omega), crc_State_Add.f, Option.bind_some, add_sum hba hc, w64 (by omega) (by omega)]
      rfl
theorem CrcSums (ps : List (List Int)) (hb : ∀ p ∈ ps, Bytes p) : ∃ k, garboardlaw03_CrcSums.f k ps = some true := by
  refine Ev.rounds ?_
  unfold garboardlaw03_CrcSums.f
  by_cases h : (ps.length : Int) > 20
  · exact ev_ifT h (Ev.now true)
  · refine ev_ifF h ?_
    have e : sumV [] = 0 := by decide +kernel
    have := sums_loop ps (by omega) hb ps 0 [] (Nat.zero_le _) rfl (by simp) (fun x hx => absurd hx (by simp)) (by rw [e])
    rw [e] at this
    exact this
end Go.Proofs.Ytblpeekoiimggaa.Pure
