/- The order in which sessions go: Compare, Or, first, MinFunc; the walks; no condition but those that stand in each. -/
import Derived.Test.YtghicenodafbkaaAffM
import Derived.Test.YtghicenodafbkaaColl
namespace Go.Proofs.Ytghicenodafbkaa.Aff
set_option linter.unusedVariables false
set_option linter.unusedSimpArgs false
open Go.RowKit Go.Proofs.Ytghicenodafbkaa.PA Go.Proofs.YtghicenodafbkaaW.PrintWords Go.Proofs.YtghicenodafbkaaW.PrintLast Go.Proofs.YtghicenodafbkaaW.PrintMore Go.Proofs.Ytghicenodafbkaa.Tab
attribute [local go_sem] max2_int min2_int max_two min_two max_three min_three max_four min_four
def cmpV (x y : Int) : Int := if x < y then -1 else if y < x then 1 else 0
def orV (a b : Int) : Int := if a = 0 then b else a
theorem nan_i (x : Int) (w : World) : Calls Try.prog 34 #[.int .i64 x] w fun e w' => e = .returned (.bool false) ∧ w = w' := by
  have h : (x != x) = false := by simp
  go_enter Try.func34, Try.ntmps34
  go_wp2_with fail
  go_ret
  exact ⟨rfl, rfl⟩
theorem cmp_i (x y : Int) (c : Int) (hc : cmpV x y = c) (w : World) : Calls Try.prog 32 #[.int .i64 x, .int .i64 y] w fun e w' => e = .returned (.int .i64 c) ∧ w = w' := by
  unfold cmpV at hc
  by_cases h1 : x < y
  · rw [if_pos h1] at hc
    subst hc
    go_enter Try.func32, Try.ntmps32
    go_wp2_with (go_at_call 34; (with_reducible refine (nan_i _ _).mono ?_); rintro e w9 ⟨rfl, rfl⟩)
    go_ret
    exact ⟨rfl, rfl⟩
  · rw [if_neg h1] at hc
    by_cases h2 : y < x
    · rw [if_pos h2] at hc
      subst hc
      go_enter Try.func32, Try.ntmps32
      go_wp2_with (go_at_call 34; (with_reducible refine (nan_i _ _).mono ?_); rintro e w9 ⟨rfl, rfl⟩)
      go_ret
      exact ⟨rfl, rfl⟩
    · rw [if_neg h2] at hc
      subst hc
      go_enter Try.func32, Try.ntmps32
      go_wp2_with (go_at_call 34; (with_reducible refine (nan_i _ _).mono ?_); rintro e w9 ⟨rfl, rfl⟩)
      go_ret
      exact ⟨rfl, rfl⟩
theorem nan_u (x : Int) (w : World) : Calls Try.prog 35 #[.int .u64 x] w fun e w' => e = .returned (.bool false) ∧ w = w' := by
  have h : (x != x) = false := by simp
  go_enter Try.func35, Try.ntmps35
  go_wp2_with fail
  go_ret
  exact ⟨rfl, rfl⟩
theorem cmp_u (x y : Int) (c : Int) (hc : cmpV x y = c) (w : World) : Calls Try.prog 33 #[.int .u64 x, .int .u64 y] w fun e w' => e = .returned (.int .i64 c) ∧ w = w' := by
  unfold cmpV at hc
  by_cases h1 : x < y
  · rw [if_pos h1] at hc
    subst hc
    go_enter Try.func33, Try.ntmps33
    go_wp2_with (go_at_call 35; (with_reducible refine (nan_u _ _).mono ?_); rintro e w9 ⟨rfl, rfl⟩)
    go_ret
    exact ⟨rfl, rfl⟩
  · rw [if_neg h1] at hc
    by_cases h2 : y < x
    · rw [if_pos h2] at hc
      subst hc
      go_enter Try.func33, Try.ntmps33
      go_wp2_with (go_at_call 35; (with_reducible refine (nan_u _ _).mono ?_); rintro e w9 ⟨rfl, rfl⟩)
      go_ret
      exact ⟨rfl, rfl⟩
    · rw [if_neg h2] at hc
      subst hc
      go_enter Try.func33, Try.ntmps33
      go_wp2_with (go_at_call 35; (with_reducible refine (nan_u _ _).mono ?_); rintro e w9 ⟨rfl, rfl⟩)
      go_ret
      exact ⟨rfl, rfl⟩
set_option maxHeartbeats 4000000 in
theorem or_c (g : Nat) (a b r : Int) (hr : orV a b = r) (w : World) (k0 : w.cell? ⟨g, 0, none⟩ = some (.int .i64 a)) (k1 : w.cell? ⟨g, 1, none⟩ = some (.int .i64 b)) :
    Calls Try.prog 31 #[.slice (some ⟨g, 0, none⟩) 2 2] w fun e w' => e = .returned (.int .i64 r) ∧ w = w' := by
  have HR := Aside0.mk hr
  clear hr
  go_enter Try.func31, Try.ntmps31
  go_wp2_with fail
  go_loop [8] (fun vi => ∃ i : Nat, vi = .int .i64 i ∧ Aside0 (i ≤ 2 ∧ (1 ≤ i → a = 0) ∧ (2 ≤ i → b = 0))) (fun vi => (2 - intOf vi).toNat)
  case atStart => exact ⟨0, rfl, ⟨by omega, fun h => by omega, fun h => by omega⟩⟩
  case round =>
    obtain ⟨i, rfl, HI⟩ := hrel
    have hr := HR.out
    unfold orV at hr
    have c : i = 0 ∨ i = 1 ∨ i = 2 := by have := HI.out.1; omega
    rcases c with rfl | rfl | rfl
    · by_cases h : a = 0
      · have hb : (a != 0) = false := by simpa using h
        go_wp2_with fail
        go_round
        case rel => exact ⟨1, rfl, ⟨by omega, fun _ => h, fun h => by omega⟩⟩
        case measure => simp [intOf]
      · rw [if_neg h] at hr
        subst hr
        have hb : (a != 0) = true := by simpa using h
        clear h
        go_wp2_with fail
        go_ret
        exact ⟨rfl, rfl⟩
    · rw [if_pos (HI.out.2.1 (by omega))] at hr
      by_cases h : b = 0
      · have hb : (b != 0) = false := by simpa using h
        have ha := HI.out.2.1 (by omega)
        clear hr
        go_wp2_with fail
        go_round
        case rel => exact ⟨2, rfl, ⟨by omega, fun _ => ha, fun _ => h⟩⟩
        case measure => simp [intOf]
      · subst hr
        have hb : (b != 0) = true := by simpa using h
        clear h
        go_wp2_with fail
        go_ret
        exact ⟨rfl, rfl⟩
    · rw [if_pos (HI.out.2.1 (by omega)), HI.out.2.2 (by omega)] at hr
      subst hr
      go_wp2_with fail
      go_ret
      exact ⟨rfl, rfl⟩
theorem look_run (w : World) (b : Nat) (l : List Bk) (hM : MapIs w b l) (k : Int) (hk : 0 ≤ k ∧ k ≤ 18446744073709551615) (r0 r1 : Int) (r2 : Bool) (hr : lookV l k = (r0, r1, r2)) :
    (Instr.lookup 49 (.map (some b)) (.int .u64 k) false).run Try.prog w = .ok (.agg #[.int .u64 r0, .int .i64 r1]) w := by
  obtain ⟨D, ho, r⟩ := hM
  obtain ⟨v, ps, hrun, hv⟩ := ho.lookup law Try.underlying49 (zeroE w) (RB_mk 0 0) (keyK hk)
  rw [hrun]
  rw [RelD.at ho r] at hv
  obtain ⟨x', y', rfl, hz⟩ := RB_inv hv
  have he := congrArg Prod.fst hz
  unfold lookV at hr
  cases hf : l.find? (fun q => q.key == k) with
  | none =>
    rw [hf] at he hr
    obtain ⟨rfl, rfl⟩ := datX_inj he
    simp only [Prod.mk.injEq] at hr
    obtain ⟨rfl, rfl, rfl⟩ := hr
    rfl
  | some q =>
    rw [hf] at he hr
    obtain ⟨rfl, rfl⟩ := datX_inj he
    simp only [Prod.mk.injEq] at hr
    obtain ⟨rfl, rfl, rfl⟩ := hr
    rfl
def firstV (l : List Bk) (a b : Int) : Int := orV (cmpV (lookV l a).2.1 (lookV l b).2.1) (cmpV a b)
set_option maxHeartbeats 8000000 in
theorem first_c (g b : Nat) (s : TS) (x y : Int) (hx : 0 ≤ x ∧ x ≤ 18446744073709551615) (hy : 0 ≤ y ∧ y ≤ 18446744073709551615) (w : World) (hT : Tc w g b s) (hM : MapIs w b s.l) (r : Int) (hr : firstV s.l x y = r) :
    Calls Try.prog 23 #[.pointer (some ⟨g, 0, none⟩), .int .u64 x, .int .u64 y] w fun e w' => e = .returned (.int .i64 r) ∧ Below w.heap.size w w' := by
  unfold firstV at hr
  rcases hl1 : lookV s.l x with ⟨x0, x1, x2⟩
  rcases hl2 : lookV s.l y with ⟨y0, y1, y2⟩
  rw [hl1, hl2] at hr
  dsimp only at hr
  obtain ⟨c1, hc1⟩ : ∃ c, cmpV x1 y1 = c := ⟨_, rfl⟩
  obtain ⟨c2, hc2⟩ : ∃ c, cmpV x y = c := ⟨_, rfl⟩
  rw [hc1, hc2] at hr
  have HT := Aside0.mk hT
  have hrx := Aside0.mk (fun W (h : MapIs W b s.l) => look_run W b s.l h x hx x0 x1 x2 hl1)
  have hry := Aside0.mk (fun W (h : MapIs W b s.l) => look_run W b s.l h y hy y0 y1 y2 hl2)
  have HM := Aside0.mk hM
  have H1 := Aside0.mk hc1; have H2 := Aside0.mk hc2; have H3 := Aside0.mk hr
  clear hT hM hl1 hl2 hc1 hc2 hr
  have hn := run_nil
  have huT := Try.underlying56
  have hfd : ∀ (p q : Int) (w : World), (Instr.field 56 (.agg #[.int .u64 p, .int .i64 q]) 1).run Try.prog w = .ok (.int .i64 q) w := fun _ _ _ => by kernel_rfl
  go_enter Try.func23, Try.ntmps23
  go_upto_region 1 with (fail)
  have ka := (show Tc (World.drew w) g b s from HT.out).c3
  have kb := hrx.out (World.drew w) (HM.out.move rfl)
  have kc := hry.out (World.drew w) (HM.out.move rfl)
  have HB := Aside0.mk (below_alloc (below_drew (Below.refl w.heap.size w)) (.cells #[.int .i64 c1, .int .i64 c2] 3))
  have hb : ((World.drew w).alloc (.cells #[.int .i64 c1, .int .i64 c2] 3)).heap[w.heap.size]? = some (.cells #[.int .i64 c1, .int .i64 c2] 3 (0, 0)) := blk_new _ _
  have k0 := blk_cell hb 0; have k1 := blk_cell hb 1
  clear hb
  refine start_ (n := 21) (S := fun w' => w'.cell? ⟨g, 3, none⟩ = some (.map (some b)) ∧ (Instr.lookup 49 (.map (some b)) (.int .u64 x) false).run Try.prog w' = .ok (.agg #[.int .u64 x0, .int .i64 x1]) w' ∧ (Instr.lookup 49 (.map (some b)) (.int .u64 y) false).run Try.prog w' = .ok (.agg #[.int .u64 y0, .int .i64 y1]) w') (ds := [18, 19]) #[false, false, false, false, false, false, false, false, false, false, false, false, false, false, false, false, false, false, false, false, false] (by kernel_rfl) rfl rfl ⟨ka, kb, kc⟩ (fun hHeld => ?_)
  refine pure_ (i := 0) (N := some 7) (v := ?_) (a' := ?_) #[true, false, false, false, false, false, false, false, false, false, false, false, false, false, false, false, false, false, false, false, false] rfl rfl (by kernel_rfl) (fun _ _ _ h => h) (Or.inl ⟨by rfl, ?_⟩) ?_ ?_
  rotate_left
  · intro w'
    go_simp
    with_reducible rfl
  rotate_left
  · simp only [Act.put, List.setIfInBounds_toArray, List.set_cons_zero, List.set_cons_succ, i64_w, i32_w]
    rfl
  refine pure_ (i := 1) (N := some 8) (v := ?_) (a' := ?_) #[true, true, false, false, false, false, false, false, false, false, false, false, false, false, false, false, false, false, false, false, false] rfl rfl (by kernel_rfl) (fun _ _ _ h => h) (Or.inl ⟨by rfl, ?_⟩) ?_ ?_
  rotate_left
  · intro w'
    go_simp
    with_reducible rfl
  rotate_left
  · simp only [Act.put, List.setIfInBounds_toArray, List.set_cons_zero, List.set_cons_succ, i64_w, i32_w]
    rfl
  refine pure_ (i := 2) (N := some 9) (v := ?_) (a' := ?_) #[true, true, true, false, false, false, false, false, false, false, false, false, false, false, false, false, false, false, false, false, false] rfl rfl (by kernel_rfl) (fun _ _ _ h => h) (Or.inl ⟨by rfl, ?_⟩) ?_ ?_
  rotate_left
  · intro w'
    go_simp
    with_reducible rfl
  rotate_left
  · simp only [Act.put, List.setIfInBounds_toArray, List.set_cons_zero, List.set_cons_succ, i64_w, i32_w]
    rfl
  refine pure_ (i := 4) (N := some 11) (v := ?_) (a' := ?_) #[true, true, true, false, true, false, false, false, false, false, false, false, false, false, false, false, false, false, false, false, false] rfl rfl (by kernel_rfl) (fun _ _ _ h => h) (Or.inl ⟨by rfl, ?_⟩) ?_ ?_
  rotate_left
  · intro w'
    go_simp
    with_reducible rfl
  rotate_left
  · simp only [Act.put, List.setIfInBounds_toArray, List.set_cons_zero, List.set_cons_succ, i64_w, i32_w]
    rfl
  refine pure_ (i := 7) (N := some 14) (v := ?_) (a' := ?_) #[true, true, true, false, true, false, false, true, false, false, false, false, false, false, false, false, false, false, false, false, false] rfl rfl (by kernel_rfl) (fun _ _ _ h => h) (Or.inl ⟨by rfl, ?_⟩) ?_ ?_
  rotate_left
  · intro w'
    go_simp
    with_reducible rfl
  rotate_left
  · simp only [Act.put, List.setIfInBounds_toArray, List.set_cons_zero, List.set_cons_succ, i64_w, i32_w]
    rfl
  refine pure_ (i := 8) (N := some 15) (v := ?_) (a' := ?_) #[true, true, true, false, true, false, false, true, true, false, false, false, false, false, false, false, false, false, false, false, false] rfl rfl (by kernel_rfl) (fun _ _ _ h => h) (Or.inl ⟨by rfl, ?_⟩) ?_ ?_
  rotate_left
  · intro w'
    go_simp
    with_reducible rfl
  rotate_left
  · simp only [Act.put, List.setIfInBounds_toArray, List.set_cons_zero, List.set_cons_succ, i64_w, i32_w]
    rfl
  refine pure_ (i := 9) (N := some 16) (v := ?_) (a' := ?_) #[true, true, true, false, true, false, false, true, true, true, false, false, false, false, false, false, false, false, false, false, false] rfl rfl (by kernel_rfl) (fun _ _ _ h => h) (Or.inl ⟨by rfl, ?_⟩) ?_ ?_
  rotate_left
  · intro w'
    go_simp
    with_reducible rfl
  rotate_left
  · simp only [Act.put, List.setIfInBounds_toArray, List.set_cons_zero, List.set_cons_succ, i64_w, i32_w]
    rfl
  refine pure_ (i := 11) (N := some 18) (v := ?_) (a' := ?_) #[true, true, true, false, true, false, false, true, true, true, false, true, false, false, false, false, false, false, false, false, false] rfl rfl (by kernel_rfl) (fun _ _ _ h => h) (Or.inl ⟨by rfl, ?_⟩) ?_ ?_
  rotate_left
  · intro w'
    go_simp
    with_reducible rfl
  rotate_left
  · simp only [Act.put, List.setIfInBounds_toArray, List.set_cons_zero, List.set_cons_succ, i64_w, i32_w]
    rfl
  refine pure_ (i := 15) (N := some 22) (v := ?_) (a' := ?_) #[true, true, true, false, true, false, false, true, true, true, false, true, false, false, false, true, false, false, false, false, false] rfl rfl (by kernel_rfl) (fun _ _ _ h => h) (Or.inl ⟨by rfl, ?_⟩) ?_ ?_
  rotate_left
  · intro w'
    go_simp
    with_reducible rfl
  rotate_left
  · simp only [Act.put, List.setIfInBounds_toArray, List.set_cons_zero, List.set_cons_succ, i64_w, i32_w]
    rfl
  refine pure_ (i := 16) (N := some 23) (v := ?_) (a' := ?_) #[true, true, true, false, true, false, false, true, true, true, false, true, false, false, false, true, true, false, false, false, false] rfl rfl (by kernel_rfl) (fun _ _ _ h => h) (Or.inl ⟨by rfl, ?_⟩) ?_ ?_
  rotate_left
  · intro w'
    go_simp
    with_reducible rfl
  rotate_left
  · simp only [Act.put, List.setIfInBounds_toArray, List.set_cons_zero, List.set_cons_succ, i64_w, i32_w]
    rfl
  refine take_ (i := 3) (N := some 10) (v := ?_) (a' := ?_) #[true, true, true, true, true, false, false, true, true, true, false, true, false, false, false, true, true, false, false, false, false] rfl rfl (by kernel_rfl) (fun _ _ _ h => h) (Or.inl ⟨by rfl, ?_⟩) hHeld ?_ ?_
  rotate_left
  · rintro w' ⟨s0, s1, s2⟩
    go_simp
    with_reducible rfl
  rotate_left
  · simp only [Act.put, List.setIfInBounds_toArray, List.set_cons_zero, List.set_cons_succ, i64_w, i32_w]
    rfl
  refine take_ (i := 5) (N := some 12) (v := ?_) (a' := ?_) #[true, true, true, true, true, true, false, true, true, true, false, true, false, false, false, true, true, false, false, false, false] rfl rfl (by kernel_rfl) (fun _ _ _ h => h) (Or.inl ⟨by rfl, ?_⟩) hHeld ?_ ?_
  rotate_left
  · rintro w' ⟨s0, s1, s2⟩
    go_simp
    with_reducible rfl
  rotate_left
  · simp only [Act.put, List.setIfInBounds_toArray, List.set_cons_zero, List.set_cons_succ, i64_w, i32_w]
    rfl
  refine pure_ (i := 6) (N := some 13) (v := ?_) (a' := ?_) #[true, true, true, true, true, true, true, true, true, true, false, true, false, false, false, true, true, false, false, false, false] rfl rfl (by kernel_rfl) (fun _ _ _ h => h) (Or.inl ⟨by rfl, ?_⟩) ?_ ?_
  rotate_left
  · intro w'
    go_simp
    with_reducible rfl
  rotate_left
  · simp only [Act.put, List.setIfInBounds_toArray, List.set_cons_zero, List.set_cons_succ, i64_w, i32_w]
    rfl
  refine take_ (i := 10) (N := some 17) (v := ?_) (a' := ?_) #[true, true, true, true, true, true, true, true, true, true, true, true, false, false, false, true, true, false, false, false, false] rfl rfl (by kernel_rfl) (fun _ _ _ h => h) (Or.inl ⟨by rfl, ?_⟩) hHeld ?_ ?_
  rotate_left
  · rintro w' ⟨s0, s1, s2⟩
    go_simp
    with_reducible rfl
  rotate_left
  · simp only [Act.put, List.setIfInBounds_toArray, List.set_cons_zero, List.set_cons_succ, i64_w, i32_w]
    rfl
  refine take_ (i := 12) (N := some 19) (v := ?_) (a' := ?_) #[true, true, true, true, true, true, true, true, true, true, true, true, true, false, false, true, true, false, false, false, false] rfl rfl (by kernel_rfl) (fun _ _ _ h => h) (Or.inl ⟨by rfl, ?_⟩) hHeld ?_ ?_
  rotate_left
  · rintro w' ⟨s0, s1, s2⟩
    go_simp
    with_reducible rfl
  rotate_left
  · simp only [Act.put, List.setIfInBounds_toArray, List.set_cons_zero, List.set_cons_succ, i64_w, i32_w]
    rfl
  refine pure_ (i := 13) (N := some 20) (v := ?_) (a' := ?_) #[true, true, true, true, true, true, true, true, true, true, true, true, true, true, false, true, true, false, false, false, false] rfl rfl (by kernel_rfl) (fun _ _ _ h => h) (Or.inl ⟨by rfl, ?_⟩) ?_ ?_
  rotate_left
  · intro w'
    go_simp
    with_reducible rfl
  rotate_left
  · simp only [Act.put, List.setIfInBounds_toArray, List.set_cons_zero, List.set_cons_succ, i64_w, i32_w]
    rfl
  refine one_ (i := 14) (N := some 21) #[true, true, true, true, true, true, true, true, true, true, true, true, true, true, true, true, true, false, false, false, false] rfl rfl (by kernel_rfl) (by decide) (fun K hK => ?_)
  refine goes_ Try.func32 (by kernel_rfl) rfl #[.int .i64 x1, .int .i64 y1] (by rfl) rfl rfl (by simp only [List.map_toArray, List.map_cons, List.map_nil]; rfl) ?_
  with_reducible refine (cmp_i x1 y1 c1 H1.out _).mono ?_
  rintro e w3 ⟨rfl, rfl⟩
  refine ⟨_, rfl, ?_⟩
  refine hK.out _ _ ⟨ka, kb, kc⟩ (fun hHeld => ?_)
  clear hK K
  refine norm_ (a' := ?_) ?_ ?_
  rotate_left
  · show Act.put _ (some 21) _ = _
    simp only [Act.put, List.setIfInBounds_toArray, List.set_cons_zero, List.set_cons_succ, i64_w, i32_w]
    rfl
  refine one_ (i := 17) (N := some 24) #[true, true, true, true, true, true, true, true, true, true, true, true, true, true, true, true, true, true, false, false, false] rfl rfl (by kernel_rfl) (by decide) (fun K hK => ?_)
  refine goes_ Try.func33 (by kernel_rfl) rfl #[.int .u64 x, .int .u64 y] (by rfl) rfl rfl (by simp only [List.map_toArray, List.map_cons, List.map_nil]; rfl) ?_
  with_reducible refine (cmp_u x y c2 H2.out _).mono ?_
  rintro e w3 ⟨rfl, rfl⟩
  refine ⟨_, rfl, ?_⟩
  refine hK.out _ _ ⟨ka, kb, kc⟩ (fun hHeld => ?_)
  clear hK K
  refine norm_ (a' := ?_) ?_ ?_
  rotate_left
  · show Act.put _ (some 24) _ = _
    simp only [Act.put, List.setIfInBounds_toArray, List.set_cons_zero, List.set_cons_succ, i64_w, i32_w]
    rfl
  refine last_ (i := 18) (N := some 25) #[true, true, true, true, true, true, true, true, true, true, true, true, true, true, true, true, true, true, true, false, false] rfl rfl (by kernel_rfl) (by decide) (fun K hK => ?_)
  refine value_ (w1 := ?_) (v := ?_) (by rfl) rfl ?_ ?_
  rotate_left 2
  · go_simp
    constructor
    · rfl
    · rfl
  refine hK.out _ _ ?_
  clear hK K
  refine norm_ (a' := ?_) ?_ ?_
  rotate_left
  · show Act.put _ (some 25) _ = _
    simp only [Act.put, List.setIfInBounds_toArray, List.set_cons_zero, List.set_cons_succ, i64_w, i32_w]
    rfl
  refine last_ (i := 19) (N := some 26) #[true, true, true, true, true, true, true, true, true, true, true, true, true, true, true, true, true, true, true, true, false] rfl rfl (by kernel_rfl) (by decide) (fun K hK => ?_)
  refine goes_ Try.func31 (by kernel_rfl) rfl #[.slice (some ⟨w.heap.size, 0, none⟩) 2 2] (by rfl) rfl rfl (by simp only [List.map_toArray, List.map_cons, List.map_nil]; rfl) ?_
  with_reducible refine (or_c _ c1 c2 r H3.out _ k0 k1).mono ?_
  rintro e w3 ⟨rfl, rfl⟩
  refine ⟨_, rfl, ?_⟩
  refine hK.out _ _ ?_
  clear hK K
  refine norm_ (a' := ?_) ?_ ?_
  rotate_left
  · show Act.put _ (some 26) _ = _
    simp only [Act.put, List.setIfInBounds_toArray, List.set_cons_zero, List.set_cons_succ, i64_w, i32_w]
    rfl
  refine pure_ (i := 20) (N := some 6) (v := ?_) (a' := ?_) #[true, true, true, true, true, true, true, true, true, true, true, true, true, true, true, true, true, true, true, true, true] rfl rfl (by kernel_rfl) (fun _ _ _ h => h) (Or.inl ⟨by rfl, ?_⟩) ?_ ?_
  rotate_left
  · intro w'
    go_simp
    with_reducible rfl
  rotate_left
  · simp only [Act.put, List.setIfInBounds_toArray, List.set_cons_zero, List.set_cons_succ, i64_w, i32_w]
    rfl
  refine done_ (by kernel_rfl) ?_
  go_wp2_with fail
  go_ret
  exact ⟨rfl, by first | exact HB.out⟩
/-! ### MinFunc -/
def pick (l : List Bk) (m x : Int) : Int := if firstV l x m < 0 then x else m
def minV (l : List Bk) (m : Int) (ss : List Int) : Int := ss.foldl (pick l) m
theorem minV_mem (l : List Bk) : ∀ (ss : List Int) (m : Int), minV l m ss = m ∨ minV l m ss ∈ ss
  | [], m => .inl rfl
  | x :: ss, m => by
    unfold minV
    rw [List.foldl_cons]
    rcases minV_mem l ss (pick l m x) with h | h
    · unfold minV at h
      rw [h]
      unfold pick
      split
      · exact .inr List.mem_cons_self
      · exact .inl rfl
    · exact .inr (List.mem_cons_of_mem _ h)
set_option maxHeartbeats 8000000 in
theorem minf_c (g b gb cap : Nat) (s : TS) (m0 : Int) (ss : List Int) (hu : ∀ x ∈ m0 :: ss, 0 ≤ x ∧ x ≤ 18446744073709551615) (hln : ss.length ≤ 1000000) (hcp : (m0 :: ss).length ≤ cap) (w : World) (hT : Tc w g b s) (hM : MapIs w b s.l)
    (hc : ∀ (i : Nat) (x : Int), (m0 :: ss)[i]? = some x → w.cell? ⟨gb, i, none⟩ = some (.int .u64 x)) (r : Int) (hr : minV s.l m0 ss = r) :
    Calls Try.prog 20 #[.slice (some ⟨gb, 0, none⟩) (m0 :: ss).length cap, .func (.func 23) #[.pointer (some ⟨g, 0, none⟩)] #[]] w fun e w' => e = .returned (.int .u64 r) ∧ Below w.heap.size w w' := by
  obtain ⟨n, hn⟩ : ∃ n, (m0 :: ss).length = n := ⟨_, rfl⟩
  have hn1 : ss.length + 1 = n := by rw [← hn]; rfl
  rw [hn] at hcp ⊢
  have k0 := hc 0 m0 rfl
  have HU := Aside0.mk hu; have HT := Aside0.mk hT; have HM := Aside0.mk hM; have HC := Aside0.mk hc; have HR := Aside0.mk hr; have HN := Aside0.mk hn1; have HNN := Aside0.mk hn
  have hlt1 : decide ((n : Int) < 1) = false := by simp; omega
  have hn2 : 1 ≤ n := by omega
  have hn3 : n ≤ 1000001 := by omega
  have HB0 := Aside0.mk (Below.refl w.heap.size w)
  clear hu hT hM hc hr hn hn1 hln
  go_enter Try.func20, Try.ntmps20
  go_wp2_with fail
  go_loopw [5, 6] (fun vm vi wr => ∃ (i : Nat) (m : Int), vm = .int .u64 m ∧ vi = .int .i64 i ∧ Aside0 (1 ≤ i ∧ i ≤ n) ∧ Aside0 (minV s.l m (ss.drop (i - 1)) = r) ∧ Aside0 (m ∈ m0 :: ss) ∧ Aside0 (Below w.heap.size w wr)) (fun _ vi _ => (n - intOf vi).toNat)
  case atStart => exact ⟨1, m0, rfl, rfl, ⟨by omega⟩, HR, ⟨List.mem_cons_self⟩, HB0⟩
  case round =>
    obtain ⟨i, m, rfl, rfl, HI, HQ, HMM, HB⟩ := hrel
    have l1 := HI.out.1; have l2 := HI.out.2
    by_cases hlt : i < n
    · obtain ⟨x, hx⟩ : ∃ x, (m0 :: ss)[i]? = some x := ⟨_, List.getElem?_eq_getElem (show i < (m0 :: ss).length by rw [HNN.out]; exact hlt)⟩
      have ki := pw_cell_below HB.out (HC.out i x hx)
      have hd : ss.drop (i - 1) = x :: ss.drop i := by
        have hx' : ss[i - 1]? = some x := by
          rw [← hx, show i = (i - 1) + 1 by omega, List.getElem?_cons_succ]
          rfl
        obtain ⟨hi, e⟩ := List.getElem?_eq_some_iff.1 hx'
        rw [List.drop_eq_getElem_cons hi, e, show i - 1 + 1 = i by omega]
      have q := HQ.out
      rw [hd] at q
      unfold minV at q
      rw [List.foldl_cons] at q
      obtain ⟨f, hf⟩ : ∃ f, firstV s.l x m = f := ⟨_, rfl⟩
      have hxm := List.mem_of_getElem? hx
      have H1 := Aside0.mk (fun (W : World) (hb : Below w.heap.size w W) => first_c g b s x m (HU.out x hxm) (HU.out m HMM.out) W (blk_below HT.out hb) (HM.out.below hb) f hf)
      unfold pick at q
      rw [hf] at q
      have HXM := Aside0.mk hxm; have HXI := Aside0.mk hx
      clear hx hd hf hxm
      by_cases hneg : f < 0
      · rw [if_pos hneg] at q
        have HQ2 := Aside0.mk q
        have hd : decide (f < 0) = true := decide_eq_true hneg
        clear q hneg
        go_wp2_with (go_at_call 23; (with_reducible refine (H1.out _ HB.out).mono ?_); rintro e w9 ⟨rfl, hb⟩; have HB9 := Aside0.mk (below_step HB.out hb); clear hb; have ki := pw_cell_below HB9.out (HC.out i x HXI.out))
        go_roundw
        case rel => exact ⟨i + 1, x, rfl, by go_num, ⟨by omega⟩, HQ2, HXM, HB9⟩
        case measure => simp [intOf]; omega
      · rw [if_neg hneg] at q
        have HQ2 := Aside0.mk q
        have hd : decide (f < 0) = false := decide_eq_false hneg
        clear q hneg
        go_wp2_with (go_at_call 23; (with_reducible refine (H1.out _ HB.out).mono ?_); rintro e w9 ⟨rfl, hb⟩; have HB9 := Aside0.mk (below_step HB.out hb); clear hb)
        go_roundw
        case rel => exact ⟨i + 1, m, rfl, by go_num, ⟨by omega⟩, HQ2, HMM, HB9⟩
        case measure => simp [intOf]; omega
    · have q := HQ.out
      rw [List.drop_eq_nil_of_le (by have := HN.out; omega)] at q
      have q' : m = r := q
      subst q'
      clear q
      go_wp2_with fail
      go_ret
      exact ⟨rfl, HB.out⟩
end Go.Proofs.Ytghicenodafbkaa.Aff
