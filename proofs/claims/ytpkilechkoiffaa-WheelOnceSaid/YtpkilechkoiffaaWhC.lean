/- The heap of timers: what lies, its methods, and the library's Push and Pop at it; no condition but those that stand in each. -/
import Derived.Test.YtpkilechkoiffaaProg
import Derived.Test.YtpkilechkoiffaaLst2
import Derived.Test.YtpkilechkoiffaaHeap
import Derived.Deep.QuietTactic
import Derived.BigQuiet
import Derived.BigRegion
import Derived.RegionTactic
import Derived.Deep.RegionHeld3
import Derived.Deep.RegionLaw
import Derived.WalkSpells
import Derived.LoopTactic
import Derived.Deep.LoopGhost
import Derived.Shelf.Abstract
import Derived.OwnWalk
namespace Go.Proofs.Ytpkilechkoiffaa.Wh
set_option linter.unusedVariables false
set_option linter.unusedSimpArgs false
open Go.RowKit Go.Proofs.YtpkilechkoiffaaW.PrintWords Go.Proofs.YtpkilechkoiffaaW.PrintLast Go.Proofs.YtpkilechkoiffaaW.PrintMore Go.Proofs.Ytpkilechkoiffaa.Lst Go.Proofs.Ytpkilechkoiffaa.Heap
attribute [local go_sem] max2_int min2_int max_two min_two max_three min_three max_four min_four
structure Tm where
  n : Int
  kind : Int
  lab : Int
  att : Int
def zT : Tm := ⟨0, 0, 0, 0⟩
def encT : En Tm := ⟨fun x => [.int .i64 x.n, .int .i64 x.kind, .int .u64 x.lab, .int .i64 x.att], 4, fun _ => rfl, fun x u hu => by simp at hu; rcases hu with rfl | rfl | rfl | rfl <;> rfl, by decide⟩
theorem info37 : (Try.prog.info? 37).map (fun i => (i.zero, i.size, i.bytes)) = some (some (.agg #[.int .i64 0, .int .i64 0, .int .u64 0, .int .i64 0]), 4, 32) := by kernel_rfl
def cmpV (x y : Int) : Int := if x < y then -1 else if y < x then 1 else 0
def orV (a b : Int) : Int := if a = 0 then b else a
def soonV (x y : Tm) : Int := orV (cmpV x.att y.att) (cmpV x.n y.n)
def ltT (x y : Tm) : Bool := decide (soonV x y < 0)
theorem ltT_iff (x y : Tm) : ltT x y = true ↔ x.att < y.att ∨ (x.att = y.att ∧ x.n < y.n) := by
  unfold ltT soonV orV cmpV
  rw [decide_eq_true_iff]
  repeat' split
  all_goals omega
theorem ltT_not (x y : Tm) : ltT x y = false ↔ y.att < x.att ∨ (x.att = y.att ∧ y.n ≤ x.n) := by
  have := ltT_iff x y
  cases h : ltT x y
  · rw [h] at this
    simp only [Bool.false_eq_true, false_iff] at this
    simp only [true_iff]
    omega
  · rw [h] at this
    simp only [true_iff] at this
    simp only [Bool.true_eq_false, false_iff]
    omega
theorem ltT_ord : Ord ltT := ⟨fun a b h => by rw [ltT_iff] at h; rw [ltT_not]; omega, fun a b c h1 h2 => by rw [ltT_not] at *; omega⟩
theorem nan_i (x : Int) (w : World) : Calls Try.prog 56 #[.int .i64 x] w fun e w' => e = .returned (.bool false) ∧ w = w' := by
  have h : (x != x) = false := by simp
  go_enter Try.func56, Try.ntmps56
  go_wp2_with fail
  go_ret
  exact ⟨rfl, rfl⟩
theorem cmp_i (x y : Int) (c : Int) (hc : cmpV x y = c) (w : World) : Calls Try.prog 54 #[.int .i64 x, .int .i64 y] w fun e w' => e = .returned (.int .i64 c) ∧ w = w' := by
  unfold cmpV at hc
  by_cases h1 : x < y
  · rw [if_pos h1] at hc
    subst hc
    go_enter Try.func54, Try.ntmps54
    go_wp2_with (go_at_call 56; (with_reducible refine (nan_i _ _).mono ?_); rintro e w9 ⟨rfl, rfl⟩)
    go_ret
    exact ⟨rfl, rfl⟩
  · rw [if_neg h1] at hc
    by_cases h2 : y < x
    · rw [if_pos h2] at hc
      subst hc
      go_enter Try.func54, Try.ntmps54
      go_wp2_with (go_at_call 56; (with_reducible refine (nan_i _ _).mono ?_); rintro e w9 ⟨rfl, rfl⟩)
      go_ret
      exact ⟨rfl, rfl⟩
    · rw [if_neg h2] at hc
      subst hc
      go_enter Try.func54, Try.ntmps54
      go_wp2_with (go_at_call 56; (with_reducible refine (nan_i _ _).mono ?_); rintro e w9 ⟨rfl, rfl⟩)
      go_ret
      exact ⟨rfl, rfl⟩
theorem nan_u (x : Int) (w : World) : Calls Try.prog 55 #[.int .i64 x] w fun e w' => e = .returned (.bool false) ∧ w = w' := by
  have h : (x != x) = false := by simp
  go_enter Try.func55, Try.ntmps55
  go_wp2_with fail
  go_ret
  exact ⟨rfl, rfl⟩
theorem cmp_u (x y : Int) (c : Int) (hc : cmpV x y = c) (w : World) : Calls Try.prog 53 #[.int .i64 x, .int .i64 y] w fun e w' => e = .returned (.int .i64 c) ∧ w = w' := by
  unfold cmpV at hc
  by_cases h1 : x < y
  · rw [if_pos h1] at hc
    subst hc
    go_enter Try.func53, Try.ntmps53
    go_wp2_with (go_at_call 55; (with_reducible refine (nan_u _ _).mono ?_); rintro e w9 ⟨rfl, rfl⟩)
    go_ret
    exact ⟨rfl, rfl⟩
  · rw [if_neg h1] at hc
    by_cases h2 : y < x
    · rw [if_pos h2] at hc
      subst hc
      go_enter Try.func53, Try.ntmps53
      go_wp2_with (go_at_call 55; (with_reducible refine (nan_u _ _).mono ?_); rintro e w9 ⟨rfl, rfl⟩)
      go_ret
      exact ⟨rfl, rfl⟩
    · rw [if_neg h2] at hc
      subst hc
      go_enter Try.func53, Try.ntmps53
      go_wp2_with (go_at_call 55; (with_reducible refine (nan_u _ _).mono ?_); rintro e w9 ⟨rfl, rfl⟩)
      go_ret
      exact ⟨rfl, rfl⟩
set_option maxHeartbeats 4000000 in
theorem or_c (g : Nat) (a b r : Int) (hr : orV a b = r) (w : World) (k0 : w.cell? ⟨g, 0, none⟩ = some (.int .i64 a)) (k1 : w.cell? ⟨g, 1, none⟩ = some (.int .i64 b)) :
    Calls Try.prog 52 #[.slice (some ⟨g, 0, none⟩) 2 2] w fun e w' => e = .returned (.int .i64 r) ∧ w = w' := by
  have HR := Aside0.mk hr
  clear hr
  go_enter Try.func52, Try.ntmps52
  go_wp2_with fail
  go_loop [8] (fun vi => ∃ i : Nat, vi = .int .i64 i ∧ Aside0 (i ≤ 2 ∧ (1 ≤ i → a = 0) ∧ (2 ≤ i → b = 0))) (fun vi => (2 - intOf vi).toNat)
  case atStart => exact ⟨0, rfl, ⟨by omega, fun h => by omega, fun h => by omega⟩⟩
  case round =>
    obtain ⟨i, rfl, HI⟩ := hrel
    have hr := HR.out
    unfold orV at hr
    have c : i = 0 ∨ i = 1 ∨ i = 2 := by have := HI.out.1; omega
    rcases c with rfl | rfl | rfl
    · by_cases h : a = 0
      · have hb : (a != 0) = false := by simpa using h
        go_wp2_with fail
        go_round
        case rel => exact ⟨1, rfl, ⟨by omega, fun _ => h, fun h => by omega⟩⟩
        case measure => simp [intOf]
      · rw [if_neg h] at hr
        subst hr
        have hb : (a != 0) = true := by simpa using h
        clear h
        go_wp2_with fail
        go_ret
        exact ⟨rfl, rfl⟩
    · rw [if_pos (HI.out.2.1 (by omega))] at hr
      by_cases h : b = 0
      · have hb : (b != 0) = false := by simpa using h
        have ha := HI.out.2.1 (by omega)
        clear hr
        go_wp2_with fail
        go_round
        case rel => exact ⟨2, rfl, ⟨by omega, fun _ => ha, fun _ => h⟩⟩
        case measure => simp [intOf]
      · subst hr
        have hb : (b != 0) = true := by simpa using h
        clear h
        go_wp2_with fail
        go_ret
        exact ⟨rfl, rfl⟩
    · rw [if_pos (HI.out.2.1 (by omega)), HI.out.2.2 (by omega)] at hr
      subst hr
      go_wp2_with fail
      go_ret
      exact ⟨rfl, rfl⟩
set_option maxHeartbeats 8000000 in
theorem sooner_c (x y : Tm) (r : Int) (hr : soonV x y = r) (w : World) : Calls Try.prog 46 #[.agg #[.int .i64 x.n, .int .i64 x.kind, .int .u64 x.lab, .int .i64 x.att], .agg #[.int .i64 y.n, .int .i64 y.kind, .int .u64 y.lab, .int .i64 y.att]] w fun e w' => e = .returned (.int .i64 r) ∧ Below w.heap.size w w' := by
  unfold soonV at hr
  obtain ⟨c1, hc1⟩ : ∃ c, cmpV x.att y.att = c := ⟨_, rfl⟩
  obtain ⟨c2, hc2⟩ : ∃ c, cmpV x.n y.n = c := ⟨_, rfl⟩
  rw [hc1, hc2] at hr
  have H1 := Aside0.mk hc1; have H2 := Aside0.mk hc2; have H3 := Aside0.mk hr
  obtain ⟨w1, hw1⟩ : ∃ w1, w.alloc (.cells #[.int .i64 x.n, .int .i64 x.kind, .int .u64 x.lab, .int .i64 x.att] 37) = w1 := ⟨_, rfl⟩
  obtain ⟨w2, hw2⟩ : ∃ w2, w1.alloc (.cells #[.int .i64 y.n, .int .i64 y.kind, .int .u64 y.lab, .int .i64 y.att] 37) = w2 := ⟨_, rfl⟩
  obtain ⟨ga, hga⟩ : ∃ g, w.heap.size = g := ⟨_, rfl⟩
  obtain ⟨gb, hgb⟩ : ∃ g, w1.heap.size = g := ⟨_, rfl⟩
  obtain ⟨gc, hgc⟩ : ∃ g, w2.heap.size = g := ⟨_, rfl⟩
  have b1 : Below w.heap.size w w1 := by rw [← hw1]; exact below_alloc (Below.refl _ _) _
  have b2 : Below w1.heap.size w1 w2 := by rw [← hw2]; exact below_alloc (Below.refl _ _) _
  have n1 : w1.heap[ga]? = some (.cells #[.int .i64 x.n, .int .i64 x.kind, .int .u64 x.lab, .int .i64 x.att] 37 (0, 0)) := by rw [← hw1, ← hga]; exact blk_new _ _
  have n1 := blk_below n1 b2
  have n2 : w2.heap[gb]? = some (.cells #[.int .i64 y.n, .int .i64 y.kind, .int .u64 y.lab, .int .i64 y.att] 37 (0, 0)) := by rw [← hw2, ← hgb]; exact blk_new _ _
  have k0 : (World.drew w2).cell? ⟨ga, 3, none⟩ = some (.int .i64 x.att) := blk_cell n1 3
  have k1 : (World.drew w2).cell? ⟨gb, 3, none⟩ = some (.int .i64 y.att) := blk_cell n2 3
  have k2 : (World.drew w2).cell? ⟨ga, 0, none⟩ = some (.int .i64 x.n) := blk_cell n1 0
  have k3 : (World.drew w2).cell? ⟨gb, 0, none⟩ = some (.int .i64 y.n) := blk_cell n2 0
  have HB := Aside0.mk (below_alloc (below_drew (below_step b1 b2)) (.cells #[.int .i64 c1, .int .i64 c2] 3))
  have hb : ((World.drew w2).alloc (.cells #[.int .i64 c1, .int .i64 c2] 3)).heap[gc]? = some (.cells #[.int .i64 c1, .int .i64 c2] 3 (0, 0)) := by rw [← hgc]; exact blk_new _ _
  have m0 := blk_cell hb 0; have m1 := blk_cell hb 1
  clear hb n1 n2 b1 b2 hr hc1 hc2
  go_enter Try.func46, Try.ntmps46
  go_upto_region 1 with (fail)
  refine start_ (n := 13) (S := fun w' => w'.cell? ⟨ga, 3, none⟩ = some (.int .i64 x.att) ∧ w'.cell? ⟨gb, 3, none⟩ = some (.int .i64 y.att) ∧ w'.cell? ⟨ga, 0, none⟩ = some (.int .i64 x.n) ∧ w'.cell? ⟨gb, 0, none⟩ = some (.int .i64 y.n)) (ds := [10, 11]) #[false, false, false, false, false, false, false, false, false, false, false, false, false] (by kernel_rfl) rfl rfl ⟨k0, k1, k2, k3⟩ (fun hHeld => ?_)
  refine pure_ (i := 0) (N := some 5) (v := ?_) (a' := ?_) #[true, false, false, false, false, false, false, false, false, false, false, false, false] rfl rfl (by kernel_rfl) (fun _ _ _ h => h) (Or.inl ⟨by rfl, ?_⟩) ?_ ?_
  rotate_left
  · intro w'
    go_simp
    with_reducible rfl
  rotate_left
  · simp only [Act.put, List.setIfInBounds_toArray, List.set_cons_zero, List.set_cons_succ, i64_w, i32_w]
    rfl
  refine pure_ (i := 2) (N := some 7) (v := ?_) (a' := ?_) #[true, false, true, false, false, false, false, false, false, false, false, false, false] rfl rfl (by kernel_rfl) (fun _ _ _ h => h) (Or.inl ⟨by rfl, ?_⟩) ?_ ?_
  rotate_left
  · intro w'
    go_simp
    with_reducible rfl
  rotate_left
  · simp only [Act.put, List.setIfInBounds_toArray, List.set_cons_zero, List.set_cons_succ, i64_w, i32_w]
    rfl
  refine pure_ (i := 5) (N := some 10) (v := ?_) (a' := ?_) #[true, false, true, false, false, true, false, false, false, false, false, false, false] rfl rfl (by kernel_rfl) (fun _ _ _ h => h) (Or.inl ⟨by rfl, ?_⟩) ?_ ?_
  rotate_left
  · intro w'
    go_simp
    with_reducible rfl
  rotate_left
  · simp only [Act.put, List.setIfInBounds_toArray, List.set_cons_zero, List.set_cons_succ, i64_w, i32_w]
    rfl
  refine pure_ (i := 7) (N := some 12) (v := ?_) (a' := ?_) #[true, false, true, false, false, true, false, true, false, false, false, false, false] rfl rfl (by kernel_rfl) (fun _ _ _ h => h) (Or.inl ⟨by rfl, ?_⟩) ?_ ?_
  rotate_left
  · intro w'
    go_simp
    with_reducible rfl
  rotate_left
  · simp only [Act.put, List.setIfInBounds_toArray, List.set_cons_zero, List.set_cons_succ, i64_w, i32_w]
    rfl
  refine take_ (i := 1) (N := some 6) (v := ?_) (a' := ?_) #[true, true, true, false, false, true, false, true, false, false, false, false, false] rfl rfl (by kernel_rfl) (fun _ _ _ h => h) (Or.inl ⟨by rfl, ?_⟩) hHeld ?_ ?_
  rotate_left
  · rintro w' ⟨s0, s1, s2, s3⟩
    go_simp
    with_reducible rfl
  rotate_left
  · simp only [Act.put, List.setIfInBounds_toArray, List.set_cons_zero, List.set_cons_succ, i64_w, i32_w]
    rfl
  refine take_ (i := 3) (N := some 8) (v := ?_) (a' := ?_) #[true, true, true, true, false, true, false, true, false, false, false, false, false] rfl rfl (by kernel_rfl) (fun _ _ _ h => h) (Or.inl ⟨by rfl, ?_⟩) hHeld ?_ ?_
  rotate_left
  · rintro w' ⟨s0, s1, s2, s3⟩
    go_simp
    with_reducible rfl
  rotate_left
  · simp only [Act.put, List.setIfInBounds_toArray, List.set_cons_zero, List.set_cons_succ, i64_w, i32_w]
    rfl
  refine take_ (i := 6) (N := some 11) (v := ?_) (a' := ?_) #[true, true, true, true, false, true, true, true, false, false, false, false, false] rfl rfl (by kernel_rfl) (fun _ _ _ h => h) (Or.inl ⟨by rfl, ?_⟩) hHeld ?_ ?_
  rotate_left
  · rintro w' ⟨s0, s1, s2, s3⟩
    go_simp
    with_reducible rfl
  rotate_left
  · simp only [Act.put, List.setIfInBounds_toArray, List.set_cons_zero, List.set_cons_succ, i64_w, i32_w]
    rfl
  refine take_ (i := 8) (N := some 13) (v := ?_) (a' := ?_) #[true, true, true, true, false, true, true, true, true, false, false, false, false] rfl rfl (by kernel_rfl) (fun _ _ _ h => h) (Or.inl ⟨by rfl, ?_⟩) hHeld ?_ ?_
  rotate_left
  · rintro w' ⟨s0, s1, s2, s3⟩
    go_simp
    with_reducible rfl
  rotate_left
  · simp only [Act.put, List.setIfInBounds_toArray, List.set_cons_zero, List.set_cons_succ, i64_w, i32_w]
    rfl
  refine one_ (i := 4) (N := some 9) #[true, true, true, true, true, true, true, true, true, false, false, false, false] rfl rfl (by kernel_rfl) (by decide) (fun K hK => ?_)
  refine goes_ Try.func53 (by kernel_rfl) rfl #[.int .i64 x.att, .int .i64 y.att] (by rfl) rfl rfl (by simp only [List.map_toArray, List.map_cons, List.map_nil]; rfl) ?_
  with_reducible refine (cmp_u x.att y.att c1 H1.out _).mono ?_
  rintro e w3 ⟨rfl, rfl⟩
  refine ⟨_, rfl, ?_⟩
  refine hK.out _ _ ⟨k0, k1, k2, k3⟩ (fun hHeld => ?_)
  clear hK K
  refine norm_ (a' := ?_) ?_ ?_
  rotate_left
  · show Act.put _ (some 9) _ = _
    simp only [Act.put, List.setIfInBounds_toArray, List.set_cons_zero, List.set_cons_succ, i64_w, i32_w]
    rfl
  refine one_ (i := 9) (N := some 14) #[true, true, true, true, true, true, true, true, true, true, false, false, false] rfl rfl (by kernel_rfl) (by decide) (fun K hK => ?_)
  refine goes_ Try.func54 (by kernel_rfl) rfl #[.int .i64 x.n, .int .i64 y.n] (by rfl) rfl rfl (by simp only [List.map_toArray, List.map_cons, List.map_nil]; rfl) ?_
  with_reducible refine (cmp_i x.n y.n c2 H2.out _).mono ?_
  rintro e w3 ⟨rfl, rfl⟩
  refine ⟨_, rfl, ?_⟩
  refine hK.out _ _ ⟨k0, k1, k2, k3⟩ (fun hHeld => ?_)
  clear hK K
  refine norm_ (a' := ?_) ?_ ?_
  rotate_left
  · show Act.put _ (some 14) _ = _
    simp only [Act.put, List.setIfInBounds_toArray, List.set_cons_zero, List.set_cons_succ, i64_w, i32_w]
    rfl
  refine last_ (i := 10) (N := some 15) #[true, true, true, true, true, true, true, true, true, true, true, false, false] rfl rfl (by kernel_rfl) (by decide) (fun K hK => ?_)
  refine value_ (w1 := ?_) (v := ?_) (by rfl) rfl ?_ ?_
  rotate_left 2
  · go_simp
    constructor
    · rfl
    · rfl
  refine hK.out _ _ ?_
  clear hK K
  refine norm_ (a' := ?_) ?_ ?_
  rotate_left
  · show Act.put _ (some 15) _ = _
    simp only [Act.put, List.setIfInBounds_toArray, List.set_cons_zero, List.set_cons_succ, i64_w, i32_w]
    rfl
  refine last_ (i := 11) (N := some 16) #[true, true, true, true, true, true, true, true, true, true, true, true, false] rfl rfl (by kernel_rfl) (by decide) (fun K hK => ?_)
  refine goes_ Try.func52 (by kernel_rfl) rfl #[.slice (some ⟨gc, 0, none⟩) 2 2] (by rfl) rfl rfl (by simp only [List.map_toArray, List.map_cons, List.map_nil]; rfl) ?_
  with_reducible refine (or_c _ c1 c2 r H3.out _ m0 m1).mono ?_
  rintro e w3 ⟨rfl, rfl⟩
  refine ⟨_, rfl, ?_⟩
  refine hK.out _ _ ?_
  clear hK K
  refine norm_ (a' := ?_) ?_ ?_
  rotate_left
  · show Act.put _ (some 16) _ = _
    simp only [Act.put, List.setIfInBounds_toArray, List.set_cons_zero, List.set_cons_succ, i64_w, i32_w]
    rfl
  refine pure_ (i := 12) (N := some 4) (v := ?_) (a' := ?_) #[true, true, true, true, true, true, true, true, true, true, true, true, true] rfl rfl (by kernel_rfl) (fun _ _ _ h => h) (Or.inl ⟨by rfl, ?_⟩) ?_ ?_
  rotate_left
  · intro w'
    go_simp
    with_reducible rfl
  rotate_left
  · simp only [Act.put, List.setIfInBounds_toArray, List.set_cons_zero, List.set_cons_succ, i64_w, i32_w]
    rfl
  refine done_ (by kernel_rfl) ?_
  go_wp2_with fail
  go_ret
  exact ⟨rfl, HB.out⟩
end Go.Proofs.Ytpkilechkoiffaa.Wh
