/- Reset of a made hist; the walk; no condition. -/
import Derived.Test.YtmhhklmfnhgbbaaHistQuant
import Derived.Test.YtmhhklmfnhgbbaaHistCnt
namespace Go.Proofs.Ytmhhklmfnhgbbaa.Hst
set_option linter.unusedVariables false
set_option linter.unusedSimpArgs false
open Go.RowKit Go.Proofs.Ytmhhklmfnhgbbaa.PA Go.Proofs.YtmhhklmfnhgbbaaW.PrintWords Go.Proofs.YtmhhklmfnhgbbaaW.PrintLast Go.Proofs.YtmhhklmfnhgbbaaW.PrintMore
theorem setz_is (g : Nat) (w0 w1 : World) : ∀ (n o : Nat) (w : World) (xs : List Int), IsH w0 w g xs → Below w0.heap.size w0 w → KeepBut w1 w g none →
    (∃ ys, IsH w0 (w.setCells g o (List.replicate n (.int .u32 0))) g ys ∧ ∀ j, ys.getD j 0 = if o ≤ j ∧ j < o + n then 0 else xs.getD j 0) ∧ Below w0.heap.size w0 (w.setCells g o (List.replicate n (.int .u32 0))) ∧ KeepBut w1 (w.setCells g o (List.replicate n (.int .u32 0))) g none
  | 0, o, w, xs, hI, hB, hK => ⟨⟨xs, hI, fun j => by rw [if_neg (by omega)]⟩, hB, hK⟩
  | n + 1, o, w, xs, hI, hB, hK => by
    rw [List.replicate_succ]
    obtain ⟨⟨ys, h1, h2⟩, h3, h4⟩ := setz_is g w0 w1 n (o + 1) (w.setCell ⟨g, o, none⟩ (.int .u32 0)) (xs.set o 0) (hI.put o 0) (below_set hB hI.2.2) (KeepBut.set_ hK _ _)
    refine ⟨⟨ys, h1, fun j => ?_⟩, h3, h4⟩
    rw [h2]
    by_cases e : o = j
    · subst e
      rw [if_neg (by omega), if_pos (by omega), List.getD_eq_getElem?_getD, List.getElem?_set]
      simp only [if_true]
      split <;> rfl
    · by_cases h : o ≤ j ∧ j < o + (n + 1)
      · rw [if_pos (by omega), if_pos h]
      · rw [if_neg (by omega), if_neg h, List.getD_eq_getElem?_getD, List.getElem?_set, if_neg e, ← List.getD_eq_getElem?_getD]
theorem zero45 (w : World) : (zeroValue 45).run Try.prog w = .ok (.int .u32 0) w := by kernel_rfl
set_option maxHeartbeats 2000000 in
set_option maxRecDepth 100000 in
theorem reset_c (g : Nat) (xs : List Int) (w0 w : World) (hI : IsH w0 w g xs) (hB : Below w0.heap.size w0 w) : Calls Try.prog 23 #[.pointer (some ⟨g, 0, none⟩)] w fun e w' => e = .returned (.tuple #[]) ∧ IsH w0 w' g zs ∧ Below w0.heap.size w0 w' ∧ KeepBut w w' g none := by
  obtain ⟨⟨ys, h1, h2⟩, h3, h4⟩ := setz_is g w0 w 305 0 w xs hI hB (KeepBut.refl w g none)
  have ez : ys = zs := List.ext_getElem (h1.2.1.trans (List.length_replicate : zs.length = 305).symm) fun j q1 q2 => by
    have := h2 j
    rw [h1.2.1] at q1
    rw [if_pos (by omega), List.getD_eq_getElem?_getD, List.getElem?_eq_getElem (by rw [h1.2.1]; exact q1)] at this
    simp only [Option.getD_some] at this
    rw [this]
    exact (List.getElem_replicate ..).symm
  have hcl : ∀ ty, (Builtin.clear_ #[62] ty #[.slice (some ⟨g, 0, none⟩) 305 305]).run Try.prog w = .ok (.tuple #[]) (w.setCells g 0 (List.replicate 305 (.int .u32 0))) :=
    fun ty => Lib.run_clear_slice w 62 45 ty (.int .u32 0) Try.underlying62 zero45 rfl rfl g 0 305 305 (by omega) (fun j hj => by rw [Nat.zero_add, hI.read hj]; rfl) (fun j hj => by rw [Nat.zero_add]; exact hI.free j)
  have H1 := Aside0.mk (ez ▸ h1); have H3 := Aside0.mk h3; have H4 := Aside0.mk h4
  clear h1 h2 h3 h4 ez hI hB
  go_enter Try.func23, Try.ntmps23
  go_wp2_with (simp only [hcl])
  first | go_end0 | ((try simp only [Exit.inBlock, Exit.then]); refine bodyPost_ret (results_none rfl _ _ _) rfl ?_)
  exact ⟨rfl, H1.out, H3.out, H4.out⟩
end Go.Proofs.Ytmhhklmfnhgbbaa.Hst
