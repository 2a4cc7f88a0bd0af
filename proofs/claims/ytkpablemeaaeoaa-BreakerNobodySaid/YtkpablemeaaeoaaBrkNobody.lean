/- BreakerNobody: a breaker that nobody made does nothing; the walk; no condition but those that stand in each. -/
import Derived.Test.YtkpablemeaaeoaaBrkAlive
import Derived.LoopTactic
namespace Go.Proofs.Ytkpablemeaaeoaa.Brk
set_option linter.unusedVariables false
set_option linter.unusedSimpArgs false
open Go.RowKit Go.Proofs.Ytkpablemeaaeoaa.PA Go.Proofs.YtkpablemeaaeoaaW.PrintWords Go.Proofs.YtkpablemeaaeoaaW.PrintLast Go.Proofs.YtkpablemeaaeoaaW.PrintMore Go.Proofs.Ytkpablemeaaeoaa.Base
attribute [local go_sem] max2_int min2_int max_two min_two max_three min_three max_four min_four
def Dead (w : World) (v : Value) : Prop := v = .pointer none ∨ ∃ g, v = .pointer (some ⟨g, 0, none⟩) ∧ w.cell? ⟨g, 0, none⟩ = some (.int .i64 0)
theorem dead_isok (v : Value) (w : World) (h : Dead w v) : Calls Try.prog 27 #[v] w fun e w' => e = .returned (.bool false) ∧ w' = w := by
  rcases h with rfl | ⟨g, rfl, hc⟩
  · go_enter Try.func27, Try.ntmps27
    go_wp2_with fail
    go_ret
    exact ⟨rfl, rfl⟩
  · go_enter Try.func27, Try.ntmps27
    go_wp2_with fail
    go_ret
    exact ⟨rfl, rfl⟩
theorem dead_ok (v : Value) (a : Int) (w : World) (h : Dead w v) : Calls Try.prog 13 #[v, .int .i64 a] w fun e w' => e = .returned (.tuple #[]) ∧ w' = w := by
  have HD := Aside0.mk h
  clear h
  go_enter Try.func13, Try.ntmps13
  go_wp2_with (go_at_call 27; (with_reducible refine (dead_isok v _ HD.out).mono ?_); rintro e w1 ⟨rfl, rfl⟩)
  first | go_end0 | ((try simp only [Exit.inBlock, Exit.then]); refine bodyPost_ret (results_none rfl _ _ _) rfl ?_)
  exact ⟨rfl, rfl⟩
theorem dead_fail (v : Value) (a : Int) (w : World) (h : Dead w v) : Calls Try.prog 14 #[v, .int .i64 a] w fun e w' => e = .returned (.tuple #[]) ∧ w' = w := by
  have HD := Aside0.mk h
  clear h
  go_enter Try.func14, Try.ntmps14
  go_wp2_with (go_at_call 27; (with_reducible refine (dead_isok v _ HD.out).mono ?_); rintro e w1 ⟨rfl, rfl⟩)
  first | go_end0 | ((try simp only [Exit.inBlock, Exit.then]); refine bodyPost_ret (results_none rfl _ _ _) rfl ?_)
  exact ⟨rfl, rfl⟩
theorem dead_leave (v : Value) (a : Int) (w : World) (h : Dead w v) : Calls Try.prog 15 #[v, .int .i64 a] w fun e w' => e = .returned (.tuple #[]) ∧ w' = w := by
  have HD := Aside0.mk h
  clear h
  go_enter Try.func15, Try.ntmps15
  go_wp2_with (go_at_call 27; (with_reducible refine (dead_isok v _ HD.out).mono ?_); rintro e w1 ⟨rfl, rfl⟩)
  first | go_end0 | ((try simp only [Exit.inBlock, Exit.then]); refine bodyPost_ret (results_none rfl _ _ _) rfl ?_)
  exact ⟨rfl, rfl⟩
theorem dead_reset (v : Value) (w : World) (h : Dead w v) : Calls Try.prog 24 #[v] w fun e w' => e = .returned (.tuple #[]) ∧ w' = w := by
  have HD := Aside0.mk h
  clear h
  go_enter Try.func24, Try.ntmps24
  go_wp2_with (go_at_call 27; (with_reducible refine (dead_isok v _ HD.out).mono ?_); rintro e w1 ⟨rfl, rfl⟩)
  first | go_end0 | ((try simp only [Exit.inBlock, Exit.then]); refine bodyPost_ret (results_none rfl _ _ _) rfl ?_)
  exact ⟨rfl, rfl⟩
theorem dead_state (v : Value) (a : Int) (w : World) (h : Dead w v) : Calls Try.prog 11 #[v, .int .i64 a] w fun e w' => e = .returned (.int .i64 0) ∧ w' = w := by
  have HD := Aside0.mk h
  clear h
  go_enter Try.func11, Try.ntmps11
  go_wp2_with (go_at_call 27; (with_reducible refine (dead_isok v _ HD.out).mono ?_); rintro e w1 ⟨rfl, rfl⟩)
  go_ret
  exact ⟨rfl, rfl⟩
theorem dead_allow (v : Value) (a : Int) (w : World) (h : Dead w v) : Calls Try.prog 12 #[v, .int .i64 a] w fun e w' => e = .returned (.bool false) ∧ w' = w := by
  have HD := Aside0.mk h
  clear h
  go_enter Try.func12, Try.ntmps12
  go_wp2_with (go_at_call 27; (with_reducible refine (dead_isok v _ HD.out).mono ?_); rintro e w1 ⟨rfl, rfl⟩)
  go_ret
  exact ⟨rfl, rfl⟩
theorem dead_cool (v : Value) (w : World) (h : Dead w v) : Calls Try.prog 16 #[v] w fun e w' => e = .returned (.int .i64 0) ∧ w' = w := by
  have HD := Aside0.mk h
  clear h
  go_enter Try.func16, Try.ntmps16
  go_wp2_with (go_at_call 27; (with_reducible refine (dead_isok v _ HD.out).mono ?_); rintro e w1 ⟨rfl, rfl⟩)
  go_ret
  exact ⟨rfl, rfl⟩
theorem dead_now (v : Value) (w : World) (h : Dead w v) : Calls Try.prog 25 #[v] w fun e w' => e = .returned (.int .i64 0) ∧ w' = w := by
  have HD := Aside0.mk h
  clear h
  go_enter Try.func25, Try.ntmps25
  go_wp2_with (go_at_call 27; (with_reducible refine (dead_isok v _ HD.out).mono ?_); rintro e w1 ⟨rfl, rfl⟩)
  go_ret
  exact ⟨rfl, rfl⟩
set_option maxHeartbeats 4000000 in
set_option maxRecDepth 100000 in
theorem nobody_c (k x : Int) (w : World) : Calls Try.prog 6 #[.agg #[.int .u8 k, .int .i64 x]] w fun e w' => e = .returned (.bool true) ∧ Below w.heap.size w w' := by
  have hu34 := Try.underlying34
  go_enter Try.func6, Try.ntmps6
  go_wp2_with fail
  obtain ⟨W, hW⟩ : ∃ W : World, W = ((w.alloc (Obj.cells #[.int .u8 k, .int .i64 x] 34)).alloc (Obj.cells #[.int .i64 0, .int .i64 0, .int .i64 0, .int .i64 0, .int .i64 0, .int .u32 0, .int .u32 0, .int .u32 0, .int .u32 0, .int .i64 0, .int .i64 0, .bool false, .int .i64 0] 49)).alloc (Obj.cells #[.pointer none, .pointer (some ⟨w.heap.size + 1, 0, none⟩)] 25) := ⟨_, rfl⟩
  rw [← hW]
  have HB := Aside0.mk (show Below w.heap.size w W from by rw [hW]; exact below_alloc (below_alloc (below_alloc (Below.refl _ _) _) _) _)
  have h0 : W.heap[w.heap.size]? = some (.cells #[.int .u8 k, .int .i64 x] 34 (0, 0)) := by rw [hW]; exact blk_alloc (blk_alloc (blk_new _ _) _) _
  have h1 : W.heap[w.heap.size + 1]? = some (.cells #[.int .i64 0, .int .i64 0, .int .i64 0, .int .i64 0, .int .i64 0, .int .u32 0, .int .u32 0, .int .u32 0, .int .u32 0, .int .i64 0, .int .i64 0, .bool false, .int .i64 0] 49 (0, 0)) := by rw [hW]; exact blk_alloc (blk_at _ _ _ (size_alloc _ _)) _
  have h2 : W.heap[w.heap.size + 1 + 1]? = some (.cells #[.pointer none, .pointer (some ⟨w.heap.size + 1, 0, none⟩)] 25 (0, 0)) := by rw [hW]; exact blk_at _ _ _ (by rw [size_alloc, size_alloc])
  have hx := (blk_cell h0 1).trans rfl
  have hs0 := (blk_cell h2 0).trans rfl
  have hs1 := (blk_cell h2 1).trans rfl
  have D0 := Aside0.mk (show Dead W (.pointer none) from .inl rfl)
  have D1 := Aside0.mk (show Dead W (.pointer (some ⟨w.heap.size + 1, 0, none⟩)) from .inr ⟨_, rfl, (blk_cell h1 0).trans rfl⟩)
  clear h0 h1 h2 hW
  go_loop [9] (fun vi => ∃ i : Nat, vi = .int .i64 i ∧ Aside0 (i ≤ 2)) (fun vi => (2 - intOf vi).toNat)
  case atStart => exact ⟨0, rfl, ⟨by omega⟩⟩
  case round =>
    obtain ⟨i, rfl, hi⟩ := hrel
    have hi' : i = 0 ∨ i = 1 ∨ i = 2 := by have := hi.out; omega
    clear hi
    rcases hi' with rfl | rfl | rfl
    · have HD := D0
      go_wp2_with (first | (go_at_call 13; (with_reducible refine (dead_ok (.pointer none) x _ HD.out).mono ?_); rintro e w1 ⟨rfl, rfl⟩) | (go_at_call 14; (with_reducible refine (dead_fail (.pointer none) x _ HD.out).mono ?_); rintro e w1 ⟨rfl, rfl⟩) | (go_at_call 15; (with_reducible refine (dead_leave (.pointer none) x _ HD.out).mono ?_); rintro e w1 ⟨rfl, rfl⟩) | (go_at_call 24; (with_reducible refine (dead_reset (.pointer none) _ HD.out).mono ?_); rintro e w1 ⟨rfl, rfl⟩) | (go_at_call 11; (with_reducible refine (dead_state (.pointer none) x _ HD.out).mono ?_); rintro e w1 ⟨rfl, rfl⟩) | (go_at_call 12; (with_reducible refine (dead_allow (.pointer none) x _ HD.out).mono ?_); rintro e w1 ⟨rfl, rfl⟩) | (go_at_call 16; (with_reducible refine (dead_cool (.pointer none) _ HD.out).mono ?_); rintro e w1 ⟨rfl, rfl⟩) | (go_at_call 25; (with_reducible refine (dead_now (.pointer none) _ HD.out).mono ?_); rintro e w1 ⟨rfl, rfl⟩))
      go_round
      case rel => exact ⟨1, rfl, ⟨by omega⟩⟩
      case measure => simp [intOf]
    · have HD := D1
      go_wp2_with (first | (go_at_call 13; (with_reducible refine (dead_ok (.pointer (some ⟨w.heap.size + 1, 0, none⟩)) x _ HD.out).mono ?_); rintro e w1 ⟨rfl, rfl⟩) | (go_at_call 14; (with_reducible refine (dead_fail (.pointer (some ⟨w.heap.size + 1, 0, none⟩)) x _ HD.out).mono ?_); rintro e w1 ⟨rfl, rfl⟩) | (go_at_call 15; (with_reducible refine (dead_leave (.pointer (some ⟨w.heap.size + 1, 0, none⟩)) x _ HD.out).mono ?_); rintro e w1 ⟨rfl, rfl⟩) | (go_at_call 24; (with_reducible refine (dead_reset (.pointer (some ⟨w.heap.size + 1, 0, none⟩)) _ HD.out).mono ?_); rintro e w1 ⟨rfl, rfl⟩) | (go_at_call 11; (with_reducible refine (dead_state (.pointer (some ⟨w.heap.size + 1, 0, none⟩)) x _ HD.out).mono ?_); rintro e w1 ⟨rfl, rfl⟩) | (go_at_call 12; (with_reducible refine (dead_allow (.pointer (some ⟨w.heap.size + 1, 0, none⟩)) x _ HD.out).mono ?_); rintro e w1 ⟨rfl, rfl⟩) | (go_at_call 16; (with_reducible refine (dead_cool (.pointer (some ⟨w.heap.size + 1, 0, none⟩)) _ HD.out).mono ?_); rintro e w1 ⟨rfl, rfl⟩) | (go_at_call 25; (with_reducible refine (dead_now (.pointer (some ⟨w.heap.size + 1, 0, none⟩)) _ HD.out).mono ?_); rintro e w1 ⟨rfl, rfl⟩))
      go_round
      case rel => exact ⟨2, rfl, ⟨by omega⟩⟩
      case measure => simp [intOf]
    · go_wp2_with (go_at_call 9; (with_reducible refine (alive_c _).mono ?_); rintro e w9 ⟨rfl, hb⟩; have n1_ := Aside0.mk (below_step HB.out hb); clear HB hb; have HB := n1_; clear n1_)
      go_ret
      exact ⟨rfl, HB.out⟩
end Go.Proofs.Ytkpablemeaaeoaa.Brk
