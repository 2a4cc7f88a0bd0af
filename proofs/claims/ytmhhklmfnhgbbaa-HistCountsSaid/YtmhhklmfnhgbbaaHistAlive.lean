/- alive, by hand: a quantile of three; no condition. -/
import Derived.Test.YtmhhklmfnhgbbaaHistQ
namespace Go.Proofs.Ytmhhklmfnhgbbaa.Hst
set_option linter.unusedVariables false
set_option linter.unusedSimpArgs false
open Go.RowKit Go.Proofs.Ytmhhklmfnhgbbaa.PA Go.Proofs.YtmhhklmfnhgbbaaW.PrintWords Go.Proofs.YtmhhklmfnhgbbaaW.PrintLast Go.Proofs.YtmhhklmfnhgbbaaW.PrintMore
attribute [local go_sem] max2_int min2_int max_two min_two max_three min_three max_four min_four
def three : List Int := (addV zs [1, 5, 18]).1
theorem cnt_zs : Cnt zs := fun x hx => by
  have := List.eq_of_mem_replicate hx
  omega
theorem three_cnt : Cnt three := (addV_inv zs cnt_zs [1, 5, 18]).1
theorem three_n : (addV zs [1, 5, 18]).2 = 3 := by decide +kernel
theorem three_q : qw three 0 (mx ((three.sum * 1 + 2 - 1) / 2) 1) = (5, 0) := by decide +kernel
theorem three_s : three.sum ≠ 0 := by decide +kernel
theorem box19 : boxV 19 = 17 := by decide +kernel
theorem box16 : boxV 16 = 16 := by decide +kernel
theorem least17 : leastV 17 = (18, 0) := by decide +kernel
theorem add3 (g : Nat) (w0 w : World) (hI : IsH w0 w g zs) (hB : Below w0.heap.size w0 w) :
    Calls Try.prog 14 #[.pointer (some ⟨g, 0, none⟩), .slice (some ⟨w.heap.size, 0, none⟩) 3 3] (w.alloc (.cells #[.int .i64 1, .int .i64 5, .int .i64 18] 2)) fun e w' => e = .returned (.int .i64 3) ∧ IsH w0 w' g three ∧ Below w0.heap.size w0 w' := by
  have hb : (w.alloc (.cells #[.int .i64 1, .int .i64 5, .int .i64 18] 2)).heap[w.heap.size]? = some (.cells #[.int .i64 1, .int .i64 5, .int .i64 18] 2 (0, 0)) := blk_new _ _
  have hr : RowI (w.alloc (.cells #[.int .i64 1, .int .i64 5, .int .i64 18] 2)) (some ⟨w.heap.size, 0, none⟩) [1, 5, 18] := fun j x hx => by
    refine ⟨_, rfl, ?_⟩
    rw [add_plain]
    refine (blk_cell hb j).trans ?_
    rcases j with _ | _ | _ | j
    · simp at hx; subst hx; rfl
    · simp at hx; subst hx; rfl
    · simp at hx; subst hx; rfl
    · simp at hx
  have h := add_c g zs (some ⟨w.heap.size, 0, none⟩) 3 [1, 5, 18] w0 (w.alloc (.cells #[.int .i64 1, .int .i64 5, .int .i64 18] 2)) (hI.below (below_alloc (Below.refl _ _) _)) (below_alloc hB _) cnt_zs hr (fun _ a ha => by obtain rfl := Option.some.inj ha; exact (Nat.ne_of_lt hI.lt).symm) (by decide) (by decide) (by decide)
  rw [three_n] at h
  exact h.mono fun e w' ⟨a, b, c, _⟩ => ⟨a, b, c⟩
theorem quant3 (g : Nat) (w0 w : World) (hI : IsH w0 w g three) : Calls Try.prog 15 #[.pointer (some ⟨g, 0, none⟩), .int .i64 1, .int .i64 2] w fun e w' => e = .returned (.tuple #[.int .i64 5, .int .i64 0]) ∧ Drawn0 w w' :=
  quant_ok g three 1 2 w0 w hI three_cnt (by decide) (by decide) (by decide) (by decide) three_s (5, 0) three_q
theorem least3 (w : World) : Calls Try.prog 8 #[.int .i64 17] w fun e w' => e = .returned (.tuple #[.int .i64 18, .int .i64 0]) ∧ Drawn0 w w' := by
  have := least_q 17 (by decide) (by decide) w
  rw [least17] at this; exact this
theorem box3 (w : World) : Calls Try.prog 10 #[.int .i64 19] w fun e w' => e = .returned (.int .i64 17) ∧ w' = w := by
  have := box_q 19 (by decide) w
  rw [box19] at this; exact this
theorem box4_ (w : World) : Calls Try.prog 10 #[.int .i64 16] w fun e w' => e = .returned (.int .i64 16) ∧ w' = w := by
  have := box_q 16 (by decide) w
  rw [box16] at this; exact this
set_option maxHeartbeats 4000000 in
set_option maxRecDepth 100000 in
theorem alive_c (w : World) : Calls Try.prog 12 #[] w fun e w' => e = .returned (.bool true) ∧ Below w.heap.size w w' := by
  go_enter Try.func12, Try.ntmps12
  go_wp2_with (first | (go_at_call 13; (with_reducible refine (new_c _).mono ?_); rintro e w1 ⟨g, rfl, hi, hb⟩; have HI := Aside0.mk hi; have HB := Aside0.mk hb; clear hi hb) | (go_at_call 14; (with_reducible refine (add3 g w w1 HI.out HB.out).mono ?_); rintro e w2 ⟨rfl, hi, hb⟩; clear HI HB; have HI := Aside0.mk hi; have HB := Aside0.mk hb; clear hi hb) | (go_at_call 15; (with_reducible refine (quant3 g w _ HI.out).mono ?_); rintro e w3 ⟨rfl, hd⟩; have n1_ := Aside0.mk (below_step HB.out hd.below); clear HB HI hd; have HB := n1_; clear n1_) | (go_at_call 8; (with_reducible refine (least3 _).mono ?_); rintro e w4 ⟨rfl, hd⟩; have n1_ := Aside0.mk (below_step HB.out hd.below); clear HB hd; have HB := n1_; clear n1_) | (go_at_call 10; (with_reducible refine (box3 _).mono ?_); rintro e w5 ⟨rfl, rfl⟩) | (go_at_call 10; (with_reducible refine (box4_ _).mono ?_); rintro e w5 ⟨rfl, rfl⟩))
  go_ret
  exact ⟨rfl, HB.out⟩
end Go.Proofs.Ytmhhklmfnhgbbaa.Hst
