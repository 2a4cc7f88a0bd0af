/- The document's Merge, of another or of itself; the walk. -/
import Derived.Test.YtmhhklmfnhgbbaaHistDoc2
import Derived.Test.YtmhhklmfnhgbbaaHistMore
namespace Go.Proofs.Ytmhhklmfnhgbbaa.Hst
set_option linter.unusedVariables false
set_option linter.unusedSimpArgs false
open Go.RowKit Go.Proofs.Ytmhhklmfnhgbbaa.PA Go.Proofs.YtmhhklmfnhgbbaaW.PrintWords Go.Proofs.YtmhhklmfnhgbbaaW.PrintLast Go.Proofs.YtmhhklmfnhgbbaaW.PrintMore
attribute [local go_sem] max2_int min2_int max_two min_two max_three min_three max_four min_four
set_option maxHeartbeats 2000000 in
set_option maxRecDepth 100000 in
theorem dmerge_c (g go : Nat) (xs ys : List Int) (w0 w : World) (hn : go ≠ g ∨ (go = g ∧ xs = ys)) (hI : IsD w0 w g xs) (hJ : IsD w0 w go ys) (hB : Below w0.heap.size w0 w) (hx : Cnt xs) (hy : Cnt ys) : Calls Try.prog 22 #[.pointer (some ⟨g, 0, none⟩), .pointer (some ⟨go, 0, none⟩)] w fun e w' => e = .returned (.tuple #[]) ∧ IsD w0 w' g (mg xs ys 305) ∧ Below w0.heap.size w0 w' ∧ KeepBut w w' g none := by
  have HGO : Aside0 (∀ (wr : World) (i : Nat), i < 305 → IsD w0 wr g (mg xs ys i) → KeepBut w wr g none → wr.cell? ⟨go, i, none⟩ = some (.int .u64 (ys.getD i 0))) := ⟨fun wr i hi h hk => by
    rcases hn with hn | ⟨rfl, rfl⟩
    · exact (hJ.keep hk hn).read hi
    · rw [h.read hi, mg_get _ _ i i (Nat.le_refl _)]⟩
  have HI := Aside0.mk hI
  have HB := Aside0.mk hB
  have HX := Aside0.mk hx
  have HY := Aside0.mk hy
  have HK := Aside0.mk (KeepBut.refl w g none)
  clear hI hB hx hy hJ hn
  go_enter Try.func22, Try.ntmps22
  go_wp2_with fail
  go_loopw [4] (fun vi wr => ∃ i : Nat, vi = .int .i64 i ∧ Aside0 (i ≤ 305) ∧ Aside0 (IsD w0 wr g (mg xs ys i)) ∧ Aside0 (Below w0.heap.size w0 wr) ∧ Aside0 (KeepBut w wr g none)) (fun vi _ => (305 - intOf vi).toNat)
  case atStart => exact ⟨0, rfl, ⟨by omega⟩, HI, HB, HK⟩
  case round =>
    clear HI HB HK
    obtain ⟨i, rfl, HL, HI, HB, HK⟩ := hrel
    have l1 := HL.out
    by_cases hlt : i < 305
    · have hc1 := HI.out.read hlt
      rw [mg_get xs ys i i (Nat.le_refl _)] at hc1
      have hc2 := HGO.out wr i hlt HI.out HK.out
      have hfree := HI.out.free i
      have cx := HX.out.get i
      have cy := HY.out.get i
      have EM := Aside0.mk (show mg xs ys (i + 1) = (mg xs ys i).set i (mv (xs.getD i 0) (ys.getD i 0)) from rfl)
      obtain ⟨x, hxx⟩ : ∃ x, xs.getD i 0 = x := ⟨_, rfl⟩
      obtain ⟨y, hyy⟩ : ∃ y, ys.getD i 0 = y := ⟨_, rfl⟩
      rw [hxx] at hc1 cx EM
      rw [hyy] at hc2 cy EM
      clear hxx hyy
      go_wp2_with fail
      go_region
      go_wp2_with fail
      go_roundw
      case rel => exact ⟨i + 1, by go_num, ⟨by omega⟩, ⟨by rw [EM.out]; exact (HI.out.drew _).put i _⟩, ⟨below_set (pw_below_drewN HB.out _) HI.out.2.2⟩, ⟨KeepBut.set_ (keep_drewN HK.out _) _ _⟩⟩
      case measure => simp [intOf]; omega
    · have e : i = 305 := by omega
      subst e
      go_wp2_with fail
      first | go_end0 | ((try simp only [Exit.inBlock, Exit.then]); refine bodyPost_ret (results_none rfl _ _ _) rfl ?_)
      exact ⟨rfl, HI.out, HB.out, HK.out⟩
end Go.Proofs.Ytmhhklmfnhgbbaa.Hst
