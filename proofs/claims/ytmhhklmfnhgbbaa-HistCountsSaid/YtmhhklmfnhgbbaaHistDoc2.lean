/- The document's Count; the walk. -/
import Derived.Test.YtmhhklmfnhgbbaaHistDoc
namespace Go.Proofs.Ytmhhklmfnhgbbaa.Hst
set_option linter.unusedVariables false
set_option linter.unusedSimpArgs false
open Go.RowKit Go.Proofs.Ytmhhklmfnhgbbaa.PA Go.Proofs.YtmhhklmfnhgbbaaW.PrintWords Go.Proofs.YtmhhklmfnhgbbaaW.PrintLast Go.Proofs.YtmhhklmfnhgbbaaW.PrintMore
attribute [local go_sem] max2_int min2_int max_two min_two max_three min_three max_four min_four
set_option maxHeartbeats 2000000 in
set_option maxRecDepth 100000 in
theorem dcount_c (g : Nat) (xs : List Int) (w0 w : World) (hI : IsD w0 w g xs) (hx : Cnt xs) : Calls Try.prog 19 #[.pointer (some ⟨g, 0, none⟩)] w fun e w' => e = .returned (.int .u64 (sumL xs)) ∧ w' = w := by
  have HI := Aside0.mk hI
  have HX := Aside0.mk hx
  clear hI hx
  go_enter Try.func19, Try.ntmps19
  go_wp2_with fail
  have L := Aside0.mk HI.out.2.1
  go_loop [3, 4] (fun vn vi => ∃ i : Nat, vi = .int .i64 i ∧ vn = .int .u64 (sumL (xs.take i)) ∧ Aside0 (i ≤ 305)) (fun _ vi => (305 - intOf vi).toNat)
  case atStart => exact ⟨0, rfl, rfl, ⟨by omega⟩⟩
  case round =>
    obtain ⟨i, rfl, rfl, HL⟩ := hrel
    have l1 := HL.out
    by_cases hlt : i < 305
    · have hcell := HI.out.read hlt
      have c := HX.out.get i
      have E := Aside0.mk (sumL_take (xs := xs) (i := i) (by have := L.out; omega))
      obtain ⟨v, hv⟩ : ∃ v, xs.getD i 0 = v := ⟨_, rfl⟩
      rw [hv] at hcell c E
      clear hv
      obtain ⟨s, hs⟩ : ∃ s, sumL (xs.take i) = s := ⟨_, rfl⟩
      rw [hs] at E ⊢
      clear hs
      go_wp2_with fail
      go_round
      case rel => exact ⟨i + 1, by go_num, by rw [E.out, IntKind.wrap_u64], ⟨by omega⟩⟩
      case measure => simp [intOf]; omega
    · have e : xs.take i = xs := List.take_of_length_le (by have := L.out; omega)
      rw [e]
      go_wp2_with fail
      go_ret
      exact ⟨rfl, rfl⟩
end Go.Proofs.Ytmhhklmfnhgbbaa.Hst
