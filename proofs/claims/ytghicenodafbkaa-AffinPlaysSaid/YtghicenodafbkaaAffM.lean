/- The methods of a table of bindings; no condition but those that stand in each. -/
import Derived.Test.YtghicenodafbkaaAff
namespace Go.Proofs.Ytghicenodafbkaa.Aff
set_option linter.unusedVariables false
set_option linter.unusedSimpArgs false
open Go.RowKit Go.Proofs.Ytghicenodafbkaa.PA Go.Proofs.YtghicenodafbkaaW.PrintWords Go.Proofs.YtghicenodafbkaaW.PrintLast Go.Proofs.YtghicenodafbkaaW.PrintMore Go.Proofs.Ytghicenodafbkaa.Tab
attribute [local go_sem] max2_int min2_int max_two min_two max_three min_three max_four min_four
/-! ### New -/
def MayB (room keep : Int) : Prop := 1 ≤ room ∧ room ≤ 1024 ∧ 1 ≤ keep ∧ keep ≤ 4294967296
instance (room keep : Int) : Decidable (MayB room keep) := by unfold MayB; exact inferInstance
theorem zeroT (w : World) : (zeroValue 51).run Try.prog w = .ok (.agg #[.int .i64 0, .int .i64 0, .int .i64 0, .map none]) w := by kernel_rfl
theorem zeroB (w : World) : (zeroValue 56).run Try.prog w = .ok (.agg #[.int .u64 0, .int .i64 0]) w := by kernel_rfl
theorem IsT.of {w : World} {g b : Nat} {s : TS} {w0 w' : World} (h : IsT w w' g b s) (hB : Below w0.heap.size w0 w) : IsT w0 w' g b s := ⟨h.1, h.2.1, Nat.le_trans hB.size h.2.2.1, Nat.le_trans hB.size h.2.2.2⟩
theorem ok_new {room keep : Int} (h : MayB room keep) : Ok ⟨room, keep, 0, []⟩ := by
  unfold MayB at h
  exact ⟨h.1, h.2.1, h.2.2.1, h.2.2.2, Int.le_refl 0, by show (0 : Int) ≤ 1099511627776; decide, fun q hq => absurd hq List.not_mem_nil, fun q hq => absurd hq List.not_mem_nil, (by show ((0 : Nat) : Int) ≤ room; omega), List.nodup_nil⟩
set_option maxHeartbeats 4000000 in
theorem new_c (room keep : Int) (h : MayB room keep) (w : World) : Calls Try.prog 6 #[.int .i64 room, .int .i64 keep] w fun e w' => ∃ g b, e = .returned (.tuple #[.pointer (some ⟨g, 0, none⟩), .int .i64 0]) ∧ IsT w w' g b ⟨room, keep, 0, []⟩ ∧ Below w.heap.size w w' := by
  unfold MayB at h
  obtain ⟨h1, h2, h3, h4⟩ := h
  have hmm := @run_makeMap Try.prog
  have hz := zeroT
  go_enter Try.func6, Try.ntmps6
  go_wp2_with fail
  go_ret2
  have e : (w.alloc (.map #[] 0)).heap.size = w.heap.size + 1 := Array.size_push ..
  refine ⟨w.heap.size + 1, w.heap.size, rfl, ⟨?_, (mapIs_made w).below (below_alloc (Below.refl _ _) _), ?_, Nat.le_refl _⟩, below_alloc (below_alloc (Below.refl _ _) _) _⟩
  · rw [← e]; exact blk_new _ _
  · exact Nat.le_succ _
set_option maxHeartbeats 4000000 in
theorem new_no (room keep : Int) (h : ¬ MayB room keep) (w : World) : Calls Try.prog 6 #[.int .i64 room, .int .i64 keep] w fun e w' => e = .returned (.tuple #[.pointer none, .int .i64 1]) ∧ w = w' := by
  have c : room < 1 ∨ (1 ≤ room ∧ 1024 < room) ∨ (1 ≤ room ∧ room ≤ 1024 ∧ keep < 1) ∨ (1 ≤ room ∧ room ≤ 1024 ∧ 1 ≤ keep ∧ 4294967296 < keep) := by unfold MayB at h; omega
  clear h
  rcases c with c | ⟨c, c'⟩ | ⟨c, c', c''⟩ | ⟨c, c', c'', c3⟩
  all_goals
    go_enter Try.func6, Try.ntmps6
    go_wp2_with fail
    go_ret2
    exact ⟨rfl, rfl⟩
/-! ### what nobody made -/
theorem ok_nil (w : World) : Calls Try.prog 18 #[.pointer none] w fun e w' => e = .returned (.bool false) ∧ w = w' := by
  go_enter Try.func18, Try.ntmps18
  go_wp2_with fail
  go_ret
  exact ⟨rfl, rfl⟩
theorem ok_empty (g : Nat) (w : World) (h4 : w.cell? ⟨g, 3, none⟩ = some (.map none)) : Calls Try.prog 18 #[.pointer (some ⟨g, 0, none⟩)] w fun e w' => e = .returned (.bool false) ∧ w = w' := by
  have hn := run_nil
  go_enter Try.func18, Try.ntmps18
  go_wp2_with fail
  go_ret
  exact ⟨rfl, rfl⟩
theorem no_find (p : Option Addr) (now : Int) (k : Int) (w : World) (h : Calls Try.prog 18 #[.pointer p] w fun e w' => e = .returned (.bool false) ∧ w = w') : Calls Try.prog 8 #[.pointer p, .int .i64 now, .int .u64 k] w fun e w' => e = .returned (.tuple #[.int .u64 0, .bool false]) ∧ w = w' := by
  have H := Aside0.mk h
  clear h
  go_enter Try.func8, Try.ntmps8
  go_wp2_with (go_at_call 18; (with_reducible refine H.out.mono ?_); rintro e w9 ⟨rfl, rfl⟩)
  go_ret2
  exact ⟨rfl, rfl⟩
theorem no_bind (p : Option Addr) (now : Int) (k : Int) (r : Int) (w : World) (h : Calls Try.prog 18 #[.pointer p] w fun e w' => e = .returned (.bool false) ∧ w = w') : Calls Try.prog 9 #[.pointer p, .int .i64 now, .int .u64 k, .int .u64 r] w fun e w' => e = .returned (.bool false) ∧ w = w' := by
  have H := Aside0.mk h
  clear h
  go_enter Try.func9, Try.ntmps9
  go_wp2_with (go_at_call 18; (with_reducible refine H.out.mono ?_); rintro e w9 ⟨rfl, rfl⟩)
  go_ret
  exact ⟨rfl, rfl⟩
theorem no_len (p : Option Addr) (now : Int) (w : World) (h : Calls Try.prog 18 #[.pointer p] w fun e w' => e = .returned (.bool false) ∧ w = w') : Calls Try.prog 10 #[.pointer p, .int .i64 now] w fun e w' => e = .returned (.int .i64 0) ∧ w = w' := by
  have H := Aside0.mk h
  clear h
  go_enter Try.func10, Try.ntmps10
  go_wp2_with (go_at_call 18; (with_reducible refine H.out.mono ?_); rintro e w9 ⟨rfl, rfl⟩)
  go_ret
  exact ⟨rfl, rfl⟩
theorem no_now (p : Option Addr) (w : World) (h : Calls Try.prog 18 #[.pointer p] w fun e w' => e = .returned (.bool false) ∧ w = w') : Calls Try.prog 17 #[.pointer p] w fun e w' => e = .returned (.int .i64 0) ∧ w = w' := by
  have H := Aside0.mk h
  clear h
  go_enter Try.func17, Try.ntmps17
  go_wp2_with (go_at_call 18; (with_reducible refine H.out.mono ?_); rintro e w9 ⟨rfl, rfl⟩)
  go_ret
  exact ⟨rfl, rfl⟩
/-! ### Find -/
def findV (s : TS) (now k : Int) : (Int × Bool) × TS :=
  let t := laterV s now
  let r := lookV t.l k
  if r.2.2 then ((r.1, true), { t with l := putV t.l k r.1 (t.now + t.keep) }) else ((0, false), t)
def bindV (s : TS) (now k rep : Int) : TS := let t := laterV s now; { t with l := putV t.l k rep (t.now + t.keep) }
theorem look_no {l : List Bk} {k x y : Int} (h : lookV l k = (x, y, false)) : x = 0 ∧ y = 0 := by
  unfold lookV at h
  split at h
  · cases h
  · simp only [Prod.mk.injEq] at h
    exact ⟨h.1.symm, h.2.1.symm⟩
set_option maxHeartbeats 8000000 in
theorem find_c (g b : Nat) (s : TS) (now k : Int) (hk : 0 ≤ k ∧ k ≤ 18446744073709551615) (w0 w : World) (hT : IsT w0 w g b s) (hB : Below w0.heap.size w0 w) (hO : Ok s) (r0 : Int) (r1 : Bool) (t : TS) (hr : findV s now k = ((r0, r1), t)) :
    Calls Try.prog 8 #[.pointer (some ⟨g, 0, none⟩), .int .i64 now, .int .u64 k] w fun e w' => e = .returned (.tuple #[.int .u64 r0, .bool r1]) ∧ Post w0 w g b t w' := by
  have hO1 := hO.later now
  have H0 := Aside0.mk (fun w' (h : IsT w0 w' g b s) => ok_c g b s w0 w' h)
  have H1 := Aside0.mk (fun w' (h : IsT w0 w' g b s) (h' : Below w0.heap.size w0 w') => later_c g b s now w0 w' h h' hO)
  unfold findV at hr
  dsimp only at hr
  obtain ⟨u, hu⟩ : ∃ u, laterV s now = u := ⟨_, rfl⟩
  rw [hu] at H1 hr hO1
  rcases hl : lookV u.l k with ⟨x, y, t1⟩
  rw [hl] at hr
  have HL := Aside0.mk hl
  have HT := Aside0.mk hT
  have HB := Aside0.mk hB
  have HK := Aside0.mk hk
  have HLL := Aside0.mk (show u.l.length ≤ 1000000 by have := hO1.len; have := hO1.room2; omega)
  have n1 := hO1.now1; have n2 := hO1.now2; have kp1 := hO1.keep1; have kp2 := hO1.keep2
  have hz := zeroB
  have huT := Try.underlying56
  clear hT hB hO hO1 hk hu
  cases t1
  · obtain ⟨rfl, rfl⟩ := look_no hl
    simp only [Bool.false_eq_true, if_false, Prod.mk.injEq] at hr
    obtain ⟨⟨rfl, rfl⟩, rfl⟩ := hr
    clear hl
    go_enter Try.func8, Try.ntmps8
    go_wp2_with (first | (go_at_call 18; (with_reducible refine (H0.out _ HT.out).mono ?_); rintro e w9 ⟨rfl, rfl⟩) | (go_at_call 19; (with_reducible refine (H1.out _ HT.out HB.out).mono ?_); rintro e w9 ⟨rfl, hp⟩; have HP := Aside0.mk hp; clear hp; have h3 := HP.out.1.c3) | (at_lookup; refine wpList_look rfl _ _ rfl b u.l HP.out.1.map k HK.out rfl rfl 0 0 false HL.out ?_) | go_in)
    go_ret2
    have bel := below_alloc (Below.refl w9.heap.size w9) (.cells #[.int .u64 0, .int .i64 0] 56 (0, 0))
    exact ⟨rfl, HP.out.1.below bel, below_step HP.out.2.1 bel, KeepBut.trans HP.out.2.2 (KeepBut.of_below bel g (some b)) (.inl rfl)⟩
  · simp only [if_true, Prod.mk.injEq] at hr
    obtain ⟨⟨rfl, rfl⟩, rfl⟩ := hr
    clear hl
    obtain ⟨nw, hnw⟩ : ∃ z, u.now = z := ⟨_, rfl⟩
    obtain ⟨kp, hkp⟩ : ∃ z, u.keep = z := ⟨_, rfl⟩
    rw [hnw] at n1 n2 ⊢
    rw [hkp] at kp1 kp2 ⊢
    have HNW := Aside0.mk hnw; have HKP := Aside0.mk hkp
    have e1 : IntKind.i64.wrap (nw + kp) = nw + kp := by rw [i64_w]; exact Base.w64 (by omega) (by omega)
    clear hnw hkp
    go_enter Try.func8, Try.ntmps8
    go_upto_region 6 with (first | (go_at_call 18; (with_reducible refine (H0.out _ HT.out).mono ?_); rintro e w9 ⟨rfl, rfl⟩) | (go_at_call 19; (with_reducible refine (H1.out _ HT.out HB.out).mono ?_); rintro e w9 ⟨rfl, hp⟩; have HP := Aside0.mk hp; clear hp; have h3 := HP.out.1.c3; have h2 := HP.out.1.c2; have h1 := HP.out.1.c1; have glt := HP.out.1.lt; rw [HNW.out] at h2; rw [HKP.out] at h1) | (at_lookup; refine wpList_look rfl _ _ rfl b u.l HP.out.1.map k HK.out rfl rfl x y true HL.out ?_) | go_in)
    obtain ⟨wq, hwq⟩ : ∃ wq, w9.alloc (.cells #[.int .u64 x, .int .i64 y] 56 (0, 0)) = wq := ⟨_, rfl⟩
    have bel := below_alloc (Below.refl w9.heap.size w9) (.cells #[.int .u64 x, .int .i64 y] 56 (0, 0))
    have n0_ := Aside0.mk (show Post w0 w g b u wq from hwq ▸ ⟨HP.out.1.below bel, below_step HP.out.2.1 bel, KeepBut.trans HP.out.2.2 (KeepBut.of_below bel g (some b)) (.inl rfl)⟩)
    have HS := Aside0.mk (show wq.heap[w9.heap.size]? = some (.cells #[.int .u64 x, .int .i64 y] 56 (0, 0)) from hwq ▸ blk_new _ _)
    have NS := Aside0.mk (show w.heap.size ≤ w9.heap.size ∧ w0.heap.size ≤ w9.heap.size from ⟨HP.out.2.2.1, HP.out.2.1.size⟩)
    rw [hwq]
    clear HP h3 h2 h1 glt hwq bel
    have HP := n0_
    clear n0_
    generalize w9.heap.size = sb at HS NS ⊢
    have h2 := HP.out.1.c2; have h1 := HP.out.1.c1
    rw [HNW.out] at h2; rw [HKP.out] at h1
    have f1 := blk_frozen HS.out 1; have y1 := blk_cell HS.out 1
    go_region
    have HS2 := Aside0.mk (show (World.drew (World.setCell wq ⟨sb, 1, none⟩ (.int .i64 (nw + kp)))).heap[sb]? = some (.cells #[.int .u64 x, .int .i64 (nw + kp)] 56 (0, 0)) from blk_drew (blk_set HS.out 1 _))
    have hT2 := HP.out.1.keep (KeepBut.set_ (KeepBut.of_below (Below.refl wq.heap.size wq) sb none) 1 (.int .i64 (nw + kp))) (blk_ne HP.out.1.1 HS.out (by decide)) (by simp) (HP.out.1.map.ne HS.out).symm (by simp)
    have HP2 := Aside0.mk (show Post w0 w g b u (World.drew (World.setCell wq ⟨sb, 1, none⟩ (.int .i64 (nw + kp)))) from ⟨hT2.drew 1, below_drew (below_set HP.out.2.1 NS.out.2), keep_drew (keep_far HP.out.2.2 (p := ⟨sb, 1, none⟩) NS.out.1 _)⟩)
    clear HP HS h2 h1 f1 y1 hT2
    generalize World.drew (World.setCell wq ⟨sb, 1, none⟩ (.int .i64 (nw + kp))) = w3 at HS2 HP2 ⊢
    have h3 := HP2.out.1.c3
    have k0 := blk_cell HS2.out 0; have k1 := blk_cell HS2.out 1
    obtain ⟨w2, hrun, hm, hg⟩ := put_run (World.drew w3) b u.l (HP2.out.1.drew 1).map HLL.out k x (nw + kp) HK.out
    have HM := Aside0.mk hm
    have HG := Aside0.mk hg
    have HP3 := Aside0.mk (show Post w0 w g b u (World.drew w3) from ⟨HP2.out.1.drew _, below_drew HP2.out.2.1, keep_drew HP2.out.2.2⟩)
    have HS3 := Aside0.mk (show w2.heap[sb]? = some (.cells #[.int .u64 x, .int .i64 (nw + kp)] 56 (0, 0)) from blk_grown (blk_drew HS2.out) HG.out (by simpa using HP2.out.1.map.ne HS2.out))
    have k2 := blk_cell HS3.out 0
    clear hm hg HP2
    go_upto_region 7 with (fail)
    go_region
    go_wp2_with fail
    go_ret2
    exact ⟨rfl, by have h := HP3.out.1.turn HM.out HG.out; rw [HNW.out, HKP.out] at h; exact h, below_map HP3.out.2.1 HP3.out.1.geb HG.out, KeepBut.trans HP3.out.2.2 (keep_map HG.out) (.inl rfl)⟩
/-! ### Bind, where there is room -/
theorem look_has (l : List Bk) (k : Int) : (lookV l k).2.2 = hasK l k := by
  unfold lookV hasK
  cases hf : l.find? (fun q => q.key == k) with
  | none =>
    symm
    rw [List.any_eq_false]
    intro q hq
    have := List.find?_eq_none.1 hf q hq
    simpa using this
  | some q =>
    symm
    rw [List.any_eq_true]
    exact ⟨q, List.mem_of_find?_eq_some hf, by simpa using List.find?_some hf⟩
set_option maxHeartbeats 8000000 in
theorem bind_c (g b : Nat) (s : TS) (now k rp : Int) (hk : 0 ≤ k ∧ k ≤ 18446744073709551615) (w0 w : World) (hT : IsT w0 w g b s) (hB : Below w0.heap.size w0 w) (hO : Ok s) (hnf : hasK (laterV s now).l k = false → ((laterV s now).l.length : Int) ≠ s.room) (t : TS) (hr : bindV s now k rp = t) :
    Calls Try.prog 9 #[.pointer (some ⟨g, 0, none⟩), .int .i64 now, .int .u64 k, .int .u64 rp] w fun e w' => e = .returned (.bool true) ∧ Post w0 w g b t w' := by
  have hO1 := hO.later now
  have H0 := Aside0.mk (fun w' (h : IsT w0 w' g b s) => ok_c g b s w0 w' h)
  have H1 := Aside0.mk (fun w' (h : IsT w0 w' g b s) (h' : Below w0.heap.size w0 w') => later_c g b s now w0 w' h h' hO)
  unfold bindV at hr
  dsimp only at hr
  have er : (laterV s now).room = s.room := by unfold laterV laterT; dsimp only; split <;> rfl
  rw [← er] at hnf
  obtain ⟨u, hu⟩ : ∃ u, laterV s now = u := ⟨_, rfl⟩
  rw [hu] at H1 hr hO1 hnf
  rcases hl : lookV u.l k with ⟨x, y, t1⟩
  have hh := look_has u.l k
  rw [hl] at hh
  dsimp only at hh
  rw [← hh] at hnf
  have HL := Aside0.mk hl
  have HT := Aside0.mk hT
  have HB := Aside0.mk hB
  have HK := Aside0.mk hk
  have HLL := Aside0.mk (show u.l.length ≤ 1000000 by have := hO1.len; have := hO1.room2; omega)
  have HQ := Aside0.mk (run_len b u.l)
  have n1 := hO1.now1; have n2 := hO1.now2; have kp1 := hO1.keep1; have kp2 := hO1.keep2
  have hz := zeroB
  have huT := Try.underlying56
  obtain ⟨nw, hnw⟩ : ∃ z, u.now = z := ⟨_, rfl⟩
  obtain ⟨kp, hkp⟩ : ∃ z, u.keep = z := ⟨_, rfl⟩
  obtain ⟨room, hroom⟩ : ∃ z, u.room = z := ⟨_, rfl⟩
  obtain ⟨len, hlen⟩ : ∃ z, u.l.length = z := ⟨_, rfl⟩
  rw [hroom, hlen] at hnf
  rw [hnw] at n1 n2 hr
  rw [hkp] at kp1 kp2 hr
  subst hr
  have HNW := Aside0.mk hnw; have HKP := Aside0.mk hkp; have HROOM := Aside0.mk hroom; have HLEN := Aside0.mk hlen
  have e1 : IntKind.i64.wrap (nw + kp) = nw + kp := by rw [i64_w]; exact Base.w64 (by omega) (by omega)
  clear hT hB hO hO1 hk hu hl hh hnw hkp hroom hlen er
  cases t1
  · have hne : ((len : Int) == room) = false := by simpa using hnf rfl
    clear hnf
    go_enter Try.func9, Try.ntmps9
    go_upto_region 5 with (first | (go_at_call 18; (with_reducible refine (H0.out _ HT.out).mono ?_); rintro e w9 ⟨rfl, rfl⟩) | (go_at_call 19; (with_reducible refine (H1.out _ HT.out HB.out).mono ?_); rintro e w9 ⟨rfl, hp⟩; have HP := Aside0.mk hp; clear hp; have h3 := HP.out.1.c3; have h2 := HP.out.1.c2; have h1 := HP.out.1.c1; have glt := HP.out.1.lt; rw [HNW.out] at h2; rw [HKP.out] at h1) | (at_lookup; refine wpList_look rfl _ _ rfl b u.l HP.out.1.map k HK.out rfl rfl x y false HL.out ?_) | go_in)
    obtain ⟨wq, hwq⟩ : ∃ wq, w9.alloc (.cells #[.int .u64 x, .int .i64 y] 56 (0, 0)) = wq := ⟨_, rfl⟩
    have bel := below_alloc (Below.refl w9.heap.size w9) (.cells #[.int .u64 x, .int .i64 y] 56 (0, 0))
    have n0_ := Aside0.mk (show Post w0 w g b u wq from hwq ▸ ⟨HP.out.1.below bel, below_step HP.out.2.1 bel, KeepBut.trans HP.out.2.2 (KeepBut.of_below bel g (some b)) (.inl rfl)⟩)
    rw [hwq]
    clear HP h3 h2 h1 glt hwq bel
    have HP := n0_
    clear n0_
    generalize w9.heap.size = sb
    have h3 := HP.out.1.c3; have h2 := HP.out.1.c2; have h1 := HP.out.1.c1; have h0 := HP.out.1.c0
    rw [HNW.out] at h2; rw [HKP.out] at h1; rw [HROOM.out] at h0
    have ql := fun n => HQ.out (World.drewN _ n) (HP.out.1.drew n).map
    rw [HLEN.out] at ql
    go_quiet (fail)
    obtain ⟨w2, hrun, hm, hg⟩ := put_run (World.drewN _ (nq + 1)) b u.l (HP.out.1.drew (nq + 1)).map HLL.out k rp (nw + kp) HK.out
    have HM := Aside0.mk hm
    have HG := Aside0.mk hg
    have HP2 := Aside0.mk (show Post w0 w g b u (World.drewN _ (nq + 1)) from ⟨HP.out.1.drew _, pw_below_drewN HP.out.2.1 _, keep_drewN HP.out.2.2 _⟩)
    clear hm hg HP h0 ql
    go_upto_region 7 with (fail)
    go_region
    go_wp2_with fail
    go_ret
    exact ⟨rfl, by have h := HP2.out.1.turn HM.out HG.out; rw [HNW.out, HKP.out] at h; exact h, below_map HP2.out.2.1 HP2.out.1.geb HG.out, KeepBut.trans HP2.out.2.2 (keep_map HG.out) (.inl rfl)⟩
  · clear hnf
    go_enter Try.func9, Try.ntmps9
    go_upto_region 5 with (first | (go_at_call 18; (with_reducible refine (H0.out _ HT.out).mono ?_); rintro e w9 ⟨rfl, rfl⟩) | (go_at_call 19; (with_reducible refine (H1.out _ HT.out HB.out).mono ?_); rintro e w9 ⟨rfl, hp⟩; have HP := Aside0.mk hp; clear hp; have h3 := HP.out.1.c3; have h2 := HP.out.1.c2; have h1 := HP.out.1.c1; have glt := HP.out.1.lt; rw [HNW.out] at h2; rw [HKP.out] at h1) | (at_lookup; refine wpList_look rfl _ _ rfl b u.l HP.out.1.map k HK.out rfl rfl x y true HL.out ?_) | go_in)
    obtain ⟨wq, hwq⟩ : ∃ wq, w9.alloc (.cells #[.int .u64 x, .int .i64 y] 56 (0, 0)) = wq := ⟨_, rfl⟩
    have bel := below_alloc (Below.refl w9.heap.size w9) (.cells #[.int .u64 x, .int .i64 y] 56 (0, 0))
    have n0_ := Aside0.mk (show Post w0 w g b u wq from hwq ▸ ⟨HP.out.1.below bel, below_step HP.out.2.1 bel, KeepBut.trans HP.out.2.2 (KeepBut.of_below bel g (some b)) (.inl rfl)⟩)
    rw [hwq]
    clear HP h3 h2 h1 glt hwq bel
    have HP := n0_
    clear n0_
    generalize w9.heap.size = sb
    have h3 := HP.out.1.c3; have h2 := HP.out.1.c2; have h1 := HP.out.1.c1; have h0 := HP.out.1.c0
    rw [HNW.out] at h2; rw [HKP.out] at h1; rw [HROOM.out] at h0
    have ql := fun n => HQ.out (World.drewN _ n) (HP.out.1.drew n).map
    rw [HLEN.out] at ql
    go_quiet (fail)
    obtain ⟨w2, hrun, hm, hg⟩ := put_run (World.drewN _ (nq + 1)) b u.l (HP.out.1.drew (nq + 1)).map HLL.out k rp (nw + kp) HK.out
    have HM := Aside0.mk hm
    have HG := Aside0.mk hg
    have HP2 := Aside0.mk (show Post w0 w g b u (World.drewN _ (nq + 1)) from ⟨HP.out.1.drew _, pw_below_drewN HP.out.2.1 _, keep_drewN HP.out.2.2 _⟩)
    clear hm hg HP h0 ql
    go_upto_region 7 with (fail)
    go_region
    go_wp2_with fail
    go_ret
    exact ⟨rfl, by have h := HP2.out.1.turn HM.out HG.out; rw [HNW.out, HKP.out] at h; exact h, below_map HP2.out.2.1 HP2.out.1.geb HG.out, KeepBut.trans HP2.out.2.2 (keep_map HG.out) (.inl rfl)⟩
/-! ### Len, Now -/
theorem len_c (g b : Nat) (s : TS) (now : Int) (w0 w : World) (hT : IsT w0 w g b s) (hB : Below w0.heap.size w0 w) (hO : Ok s) (t : TS) (ht : laterV s now = t) :
    Calls Try.prog 10 #[.pointer (some ⟨g, 0, none⟩), .int .i64 now] w fun e w' => e = .returned (.int .i64 (t.l.length : Int)) ∧ Post w0 w g b t w' := by
  have H0 := Aside0.mk (fun w' (h : IsT w0 w' g b s) => ok_c g b s w0 w' h)
  have H1 := Aside0.mk (fun w' (h : IsT w0 w' g b s) (h' : Below w0.heap.size w0 w') => later_c g b s now w0 w' h h' hO)
  rw [ht] at H1
  have HT := Aside0.mk hT
  have HB := Aside0.mk hB
  have HQ := Aside0.mk (run_len b t.l)
  clear hT hB hO ht
  go_enter Try.func10, Try.ntmps10
  go_wp2_with (first | (go_at_call 18; (with_reducible refine (H0.out _ HT.out).mono ?_); rintro e w9 ⟨rfl, rfl⟩) | (go_at_call 19; (with_reducible refine (H1.out _ HT.out HB.out).mono ?_); rintro e w9 ⟨rfl, hp⟩; have HP := Aside0.mk hp; clear hp; have h3 := HP.out.1.c3; have ql := HQ.out _ HP.out.1.map))
  go_ret
  exact ⟨rfl, HP.out⟩
theorem now_c (g b : Nat) (s : TS) (n : Int) (w0 w : World) (hT : IsT w0 w g b s) (hn : s.now = n) : Calls Try.prog 17 #[.pointer (some ⟨g, 0, none⟩)] w fun e w' => e = .returned (.int .i64 n) ∧ w = w' := by
  have H0 := Aside0.mk (fun w' (h : IsT w0 w' g b s) => ok_c g b s w0 w' h)
  have h2 := hT.c2
  rw [hn] at h2
  have HT := Aside0.mk hT
  clear hT hn
  go_enter Try.func17, Try.ntmps17
  go_wp2_with (go_at_call 18; (with_reducible refine (H0.out _ HT.out).mono ?_); rintro e w9 ⟨rfl, rfl⟩)
  go_ret
  exact ⟨rfl, rfl⟩
end Go.Proofs.Ytghicenodafbkaa.Aff
