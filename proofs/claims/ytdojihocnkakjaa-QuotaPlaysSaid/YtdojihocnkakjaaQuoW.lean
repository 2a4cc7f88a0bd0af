/- When, New, and the methods of a table that nobody made; no condition but those that stand in each. -/
import Derived.Test.YtdojihocnkakjaaQuoM
namespace Go.Proofs.Ytdojihocnkakjaa.Quo
set_option linter.unusedVariables false
set_option linter.unusedSimpArgs false
open Go.RowKit Go.Proofs.Ytdojihocnkakjaa.PA Go.Proofs.YtdojihocnkakjaaW.PrintWords Go.Proofs.YtdojihocnkakjaaW.PrintLast Go.Proofs.YtdojihocnkakjaaW.PrintMore Go.Proofs.Ytdojihocnkakjaa.Tab Go.Proofs.Ytdojihocnkakjaa.SatMul
attribute [local go_sem] max2_int min2_int max_two min_two max_three min_three max_four min_four
def whenV (s : TS) (now k n : Int) : Int :=
  let t := laterV s now
  let lack := cl (n - (fillV t k).1)
  if lack ≤ 0 then t.now else if n > t.most ∨ t.rate = 0 then 1099511627776 else mn (t.now + (lack - 1) / t.rate + 1) 1099511627776
set_option maxHeartbeats 4000000 in
theorem when_c (g b : Nat) (s : TS) (now k n : Int) (hk : 0 ≤ k ∧ k ≤ 18446744073709551615) (hn0 : -9223372036854775808 ≤ n) (hn1 : n ≤ 9223372036854775807) (w0 w : World) (hT : IsT w0 w g b s) (hB : Below w0.heap.size w0 w) (hO : Ok s) (r : Int) (t : TS) (ht : laterV s now = t) (hr : whenV s now k n = r) :
    Calls Try.prog 13 #[.pointer (some ⟨g, 0, none⟩), .int .i64 now, .int .u64 k, .int .i64 n] w fun e w' => e = .returned (.int .i64 r) ∧ Post w0 w g b t w' := by
  have hO1 := hO.later now
  have fb := fill_bd hO1 k
  unfold whenV at hr
  rw [ht] at hO1 fb hr
  dsimp only at hr
  obtain ⟨f, hf⟩ : ∃ f, (fillV t k).1 = f := ⟨_, rfl⟩
  have H0 := Aside0.mk (fun w' (h : IsT w0 w' g b s) => ok_c g b s w0 w' h)
  have H1 := Aside0.mk (fun w' (h : IsT w0 w' g b s) (h' : Below w0.heap.size w0 w') => fillm_c g b s now k hk w0 w' h h' hO t f ht hf)
  rw [hf] at fb hr
  have m2 := hO1.most2; have n1 := hO1.now1; have n2 := hO1.now2; have r1 := hO1.rate1; have r2 := hO1.rate2
  obtain ⟨lack, hlack⟩ : ∃ l, cl (n - f) = l := ⟨_, rfl⟩
  have HS := Aside0.mk (sub_c n f lack (by unfold I64; omega) (by unfold I64; omega) hlack)
  rw [hlack] at hr
  have hl2 : lack ≤ n - f ∨ lack ≤ 0 := by rw [← hlack]; unfold cl; (repeat' split) <;> omega
  have HT := Aside0.mk hT
  have HB := Aside0.mk hB
  obtain ⟨now', hnow⟩ : ∃ z, t.now = z := ⟨_, rfl⟩
  obtain ⟨most, hmost⟩ : ∃ z, t.most = z := ⟨_, rfl⟩
  obtain ⟨rate, hrate⟩ : ∃ z, t.rate = z := ⟨_, rfl⟩
  rw [hnow, hmost, hrate] at hr
  rw [hnow] at n1 n2
  rw [hmost] at m2 fb
  rw [hrate] at r1 r2
  have HNOW := Aside0.mk hnow; have HMOST := Aside0.mk hmost; have HRATE := Aside0.mk hrate
  clear hT hB hO hO1 ht hf hlack hnow hmost hrate hk
  by_cases c1 : lack ≤ 0
  · rw [if_pos c1] at hr
    subst hr
    go_enter Try.func13, Try.ntmps13
    go_wp2_with (first | (go_at_call 24; (with_reducible refine (H0.out _ HT.out).mono ?_); rintro e w9 ⟨rfl, rfl⟩) | (go_at_call 12; (with_reducible refine (H1.out _ HT.out HB.out).mono ?_); rintro e w9 ⟨rfl, hp⟩; have HP := Aside0.mk hp; clear hp) | (go_at_call 27; (with_reducible refine (HS.out _).mono ?_); rintro e w9 ⟨rfl, hd⟩; have n0_ := Aside0.mk (show Post w0 w g b t w9 from ⟨HP.out.1.below hd.below, below_step HP.out.2.1 hd.below, KeepBut.trans HP.out.2.2 (KeepBut.of_below hd.below g (some b)) (.inl rfl)⟩); clear HP hd; have HP := n0_; clear n0_; have h1 := HP.out.1.c1; have h2 := HP.out.1.c2; have h3 := HP.out.1.c3; rw [HMOST.out] at h1; rw [HRATE.out] at h2; rw [HNOW.out] at h3))
    go_ret
    exact ⟨rfl, HP.out⟩
  rw [if_neg c1] at hr
  by_cases c2 : n > most ∨ rate = 0
  · rw [if_pos c2] at hr
    subst hr
    have c3 : most < n ∨ (n ≤ most ∧ rate = 0) := by omega
    clear c2
    rcases c3 with c3 | ⟨c3, rfl⟩
    all_goals
      go_enter Try.func13, Try.ntmps13
      go_wp2_with (first | (go_at_call 24; (with_reducible refine (H0.out _ HT.out).mono ?_); rintro e w9 ⟨rfl, rfl⟩) | (go_at_call 12; (with_reducible refine (H1.out _ HT.out HB.out).mono ?_); rintro e w9 ⟨rfl, hp⟩; have HP := Aside0.mk hp; clear hp) | (go_at_call 27; (with_reducible refine (HS.out _).mono ?_); rintro e w9 ⟨rfl, hd⟩; have n0_ := Aside0.mk (show Post w0 w g b t w9 from ⟨HP.out.1.below hd.below, below_step HP.out.2.1 hd.below, KeepBut.trans HP.out.2.2 (KeepBut.of_below hd.below g (some b)) (.inl rfl)⟩); clear HP hd; have HP := n0_; clear n0_; have h1 := HP.out.1.c1; have h2 := HP.out.1.c2; have h3 := HP.out.1.c3; rw [HMOST.out] at h1; rw [HRATE.out] at h2; rw [HNOW.out] at h3))
      go_ret
      exact ⟨rfl, HP.out⟩
  rw [if_neg c2] at hr
  have c3 : n ≤ most ∧ 1 ≤ rate := by omega
  obtain ⟨c3, c4⟩ := c3
  have hl3 : lack ≤ 4294967296 := by omega
  obtain ⟨d, hd⟩ : ∃ d, (lack - 1) / rate = d := ⟨_, rfl⟩
  have d0 : 0 ≤ d := by rw [← hd]; exact Int.ediv_nonneg (by omega) (by omega)
  have d1 : d ≤ 4294967296 := by rw [← hd]; exact Int.le_trans (Int.ediv_le_self _ (by omega)) (by omega)
  rw [hd] at hr
  have e1 : IntKind.i64.wrap (lack - 1) = lack - 1 := by rw [i64_w]; exact Base.w64 (by omega) (by omega)
  have e2 : (lack - 1).tdiv rate = d := by rw [Int.tdiv_eq_ediv_of_nonneg (by omega), hd]
  have e3 : IntKind.i64.wrap d = d := by rw [i64_w]; exact Base.w64 (by omega) (by omega)
  have e4 : IntKind.i64.wrap (now' + d) = now' + d := by rw [i64_w]; exact Base.w64 (by omega) (by omega)
  have e5 : IntKind.i64.wrap (now' + d + 1) = now' + d + 1 := by rw [i64_w]; exact Base.w64 (by omega) (by omega)
  have e6 : (rate == 0) = false := by simp; omega
  have e7 : (if 1099511627776 < now' + d + 1 then 1099511627776 else now' + d + 1) = r := by rw [← hr]; unfold mn; (repeat' split) <;> omega
  have E := Aside0.mk (And.intro e1 (And.intro e2 (And.intro e3 (And.intro e4 (And.intro e5 e7)))))
  clear e1 e2 e3 e4 e5 e7 hr hd c2 d0 d1
  go_enter Try.func13, Try.ntmps13
  go_wp2_with (first | (go_at_call 24; (with_reducible refine (H0.out _ HT.out).mono ?_); rintro e w9 ⟨rfl, rfl⟩) | (go_at_call 12; (with_reducible refine (H1.out _ HT.out HB.out).mono ?_); rintro e w9 ⟨rfl, hp⟩; have HP := Aside0.mk hp; clear hp) | (go_at_call 27; (with_reducible refine (HS.out _).mono ?_); rintro e w9 ⟨rfl, hd⟩; have n0_ := Aside0.mk (show Post w0 w g b t w9 from ⟨HP.out.1.below hd.below, below_step HP.out.2.1 hd.below, KeepBut.trans HP.out.2.2 (KeepBut.of_below hd.below g (some b)) (.inl rfl)⟩); clear HP hd; have HP := n0_; clear n0_; have h1 := HP.out.1.c1; have h2 := HP.out.1.c2; have h3 := HP.out.1.c3; rw [HMOST.out] at h1; rw [HRATE.out] at h2; rw [HNOW.out] at h3))
  obtain ⟨e1, e2, e3, e4, e5, e7⟩ := E.out
  have h2 := HP.out.1.c2
  have h3 := HP.out.1.c3
  rw [HRATE.out] at h2
  rw [HNOW.out] at h3
  go_quiet (fail)
  all_goals go_wp2_with fail
  go_ret
  exact ⟨rfl, HP.out.1.drew _, pw_below_drewN HP.out.2.1 _, keep_drewN HP.out.2.2 _⟩
/-! ### New -/
def MayB (room most rate : Int) : Prop := 1 ≤ room ∧ room ≤ 1024 ∧ 1 ≤ most ∧ most ≤ 4294967296 ∧ 0 ≤ rate ∧ rate ≤ 1048576
theorem in_c (n a b : Int) (r : Bool) (h : (decide (a ≤ n) && decide (n ≤ b)) = r) (w : World) : Calls Try.prog 23 #[.int .i64 n, .int .i64 a, .int .i64 b] w fun e w' => e = .returned (.bool r) ∧ Drawn0 w w' :=
  quota_in.calls n a b r w (by
    unfold quota_in.f
    by_cases h1 : a ≤ n
    · rw [if_pos h1, ← h]; simp [h1]
    · rw [if_neg h1, ← h]; simp [h1])
theorem zeroT (w : World) : (zeroValue 55).run Try.prog w = .ok (.agg #[.int .i64 0, .int .i64 0, .int .i64 0, .int .i64 0, .map none]) w := by kernel_rfl
theorem IsT.of {w : World} {g b : Nat} {s : TS} {w0 w' : World} (h : IsT w w' g b s) (hB : Below w0.heap.size w0 w) : IsT w0 w' g b s := ⟨h.1, h.2.1, Nat.le_trans hB.size h.2.2.1, Nat.le_trans hB.size h.2.2.2⟩
set_option maxHeartbeats 4000000 in
theorem new_c (room most rate : Int) (h : MayB room most rate) (w : World) : Calls Try.prog 7 #[.agg #[.int .i64 room, .int .i64 most, .int .i64 rate]] w fun e w' => ∃ g b, e = .returned (.tuple #[.pointer (some ⟨g, 0, none⟩), .int .i64 0]) ∧ IsT w w' g b ⟨room, most, rate, 0, []⟩ ∧ Below w.heap.size w w' := by
  unfold MayB at h
  have H1 := Aside0.mk (in_c room 1 1024 true (by simp; omega))
  have H2 := Aside0.mk (in_c most 1 4294967296 true (by simp; omega))
  have H3 := Aside0.mk (in_c rate 0 1048576 true (by simp; omega))
  have HB := Aside0.mk (below_alloc (Below.refl w.heap.size w) (.cells #[.int .i64 room, .int .i64 most, .int .i64 rate] 29 (0, 0)))
  have HC := Aside0.mk (show (w.alloc (.cells #[.int .i64 room, .int .i64 most, .int .i64 rate] 29 (0, 0))).heap[w.heap.size]? = some (.cells #[.int .i64 room, .int .i64 most, .int .i64 rate] 29 (0, 0)) from blk_new _ _)
  have hc0 := blk_cell HC.out 0; have hc1 := blk_cell HC.out 1; have hc2 := blk_cell HC.out 2
  have hmm := @run_makeMap Try.prog
  have hz := zeroT
  have huT := Try.underlying29
  clear h
  go_enter Try.func7, Try.ntmps7
  go_wp2_with (first | (go_at_call 23; (with_reducible refine (H1.out _).mono ?_); rintro e w9 ⟨rfl, hd⟩; have n0_ := Aside0.mk (below_step HB.out hd.below); have n1_ := Aside0.mk (blk_below HC.out hd.below); clear HB HC hd hc0 hc1 hc2; have HB := n0_; have HC := n1_; clear n0_ n1_; have hc0 := blk_cell HC.out 0; have hc1 := blk_cell HC.out 1; have hc2 := blk_cell HC.out 2) | (go_at_call 23; (with_reducible refine (H2.out _).mono ?_); rintro e w9 ⟨rfl, hd⟩; have n0_ := Aside0.mk (below_step HB.out hd.below); have n1_ := Aside0.mk (blk_below HC.out hd.below); clear HB HC hd hc0 hc1 hc2; have HB := n0_; have HC := n1_; clear n0_ n1_; have hc0 := blk_cell HC.out 0; have hc1 := blk_cell HC.out 1; have hc2 := blk_cell HC.out 2) | (go_at_call 23; (with_reducible refine (H3.out _).mono ?_); rintro e w9 ⟨rfl, hd⟩; have n0_ := Aside0.mk (below_step HB.out hd.below); have n1_ := Aside0.mk (blk_below HC.out hd.below); clear HB HC hd hc0 hc1 hc2; have HB := n0_; have HC := n1_; clear n0_ n1_; have hc0 := blk_cell HC.out 0; have hc1 := blk_cell HC.out 1; have hc2 := blk_cell HC.out 2))
  go_ret2
  have e : (w9.alloc (.map #[] 0)).heap.size = w9.heap.size + 1 := Array.size_push ..
  refine ⟨w9.heap.size + 1, w9.heap.size, rfl, ⟨?_, (mapIs_made w9).below (below_alloc (Below.refl _ _) _), ?_, HB.out.size⟩, below_alloc (below_alloc HB.out _) _⟩
  · rw [← e]; exact blk_new _ _
  · exact Nat.le_succ_of_le HB.out.size
set_option maxHeartbeats 4000000 in
theorem new_no (room most rate : Int) (h : ¬ MayB room most rate) (w : World) : Calls Try.prog 7 #[.agg #[.int .i64 room, .int .i64 most, .int .i64 rate]] w fun e w' => e = .returned (.tuple #[.pointer none, .int .i64 1]) ∧ Below w.heap.size w w' := by
  obtain ⟨r1, h1⟩ : ∃ r, (decide (1 ≤ room) && decide (room ≤ 1024)) = r := ⟨_, rfl⟩
  obtain ⟨r2, h2⟩ : ∃ r, (decide (1 ≤ most) && decide (most ≤ 4294967296)) = r := ⟨_, rfl⟩
  obtain ⟨r3, h3⟩ : ∃ r, (decide (0 ≤ rate) && decide (rate ≤ 1048576)) = r := ⟨_, rfl⟩
  have H1 := Aside0.mk (in_c room 1 1024 r1 h1)
  have H2 := Aside0.mk (in_c most 1 4294967296 r2 h2)
  have H3 := Aside0.mk (in_c rate 0 1048576 r3 h3)
  have HB := Aside0.mk (below_alloc (Below.refl w.heap.size w) (.cells #[.int .i64 room, .int .i64 most, .int .i64 rate] 29 (0, 0)))
  have HC := Aside0.mk (show (w.alloc (.cells #[.int .i64 room, .int .i64 most, .int .i64 rate] 29 (0, 0))).heap[w.heap.size]? = some (.cells #[.int .i64 room, .int .i64 most, .int .i64 rate] 29 (0, 0)) from blk_new _ _)
  have hc0 := blk_cell HC.out 0; have hc1 := blk_cell HC.out 1; have hc2 := blk_cell HC.out 2
  have c : r1 = false ∨ (r1 = true ∧ r2 = false) ∨ (r1 = true ∧ r2 = true ∧ r3 = false) := by
    unfold MayB at h
    cases r1 <;> cases r2 <;> cases r3 <;> simp at h1 h2 h3 ⊢
    exact absurd ⟨h1.1, h1.2, h2.1, h2.2, h3.1, h3.2⟩ h
  clear h h1 h2 h3
  rcases c with rfl | ⟨rfl, rfl⟩ | ⟨rfl, rfl, rfl⟩
  all_goals
    go_enter Try.func7, Try.ntmps7
    go_wp2_with (first | (go_at_call 23; (with_reducible refine (H1.out _).mono ?_); rintro e w9 ⟨rfl, hd⟩; have n0_ := Aside0.mk (below_step HB.out hd.below); have n1_ := Aside0.mk (blk_below HC.out hd.below); clear HB HC hd hc0 hc1 hc2; have HB := n0_; have HC := n1_; clear n0_ n1_; have hc0 := blk_cell HC.out 0; have hc1 := blk_cell HC.out 1; have hc2 := blk_cell HC.out 2) | (go_at_call 23; (with_reducible refine (H2.out _).mono ?_); rintro e w9 ⟨rfl, hd⟩; have n0_ := Aside0.mk (below_step HB.out hd.below); have n1_ := Aside0.mk (blk_below HC.out hd.below); clear HB HC hd hc0 hc1 hc2; have HB := n0_; have HC := n1_; clear n0_ n1_; have hc0 := blk_cell HC.out 0; have hc1 := blk_cell HC.out 1; have hc2 := blk_cell HC.out 2) | (go_at_call 23; (with_reducible refine (H3.out _).mono ?_); rintro e w9 ⟨rfl, hd⟩; have n0_ := Aside0.mk (below_step HB.out hd.below); have n1_ := Aside0.mk (blk_below HC.out hd.below); clear HB HC hd hc0 hc1 hc2; have HB := n0_; have HC := n1_; clear n0_ n1_; have hc0 := blk_cell HC.out 0; have hc1 := blk_cell HC.out 1; have hc2 := blk_cell HC.out 2))
    go_ret2
    exact ⟨rfl, HB.out⟩
/-! ### what nobody made -/
theorem ok_nil (w : World) : Calls Try.prog 24 #[.pointer none] w fun e w' => e = .returned (.bool false) ∧ w = w' := by
  go_enter Try.func24, Try.ntmps24
  go_wp2_with fail
  go_ret
  exact ⟨rfl, rfl⟩
theorem ok_empty (g : Nat) (w : World) (h4 : w.cell? ⟨g, 4, none⟩ = some (.map none)) : Calls Try.prog 24 #[.pointer (some ⟨g, 0, none⟩)] w fun e w' => e = .returned (.bool false) ∧ w = w' := by
  have hn := run_nil
  go_enter Try.func24, Try.ntmps24
  go_wp2_with fail
  go_ret
  exact ⟨rfl, rfl⟩
theorem no_take (p : Option Addr) (now k n : Int) (w : World) (h : Calls Try.prog 24 #[.pointer p] w fun e w' => e = .returned (.bool false) ∧ w = w') : Calls Try.prog 11 #[.pointer p, .int .i64 now, .int .u64 k, .int .i64 n] w fun e w' => e = .returned (.tuple #[.bool false, .int .i64 2]) ∧ w = w' := by
  have H := Aside0.mk h
  clear h
  go_enter Try.func11, Try.ntmps11
  go_wp2_with (go_at_call 24; (with_reducible refine H.out.mono ?_); rintro e w9 ⟨rfl, rfl⟩)
  go_ret2
  exact ⟨rfl, rfl⟩
theorem no_give (p : Option Addr) (now k n : Int) (w : World) (h : Calls Try.prog 24 #[.pointer p] w fun e w' => e = .returned (.bool false) ∧ w = w') : Calls Try.prog 15 #[.pointer p, .int .i64 now, .int .u64 k, .int .i64 n] w fun e w' => e = .returned (.int .i64 2) ∧ w = w' := by
  have H := Aside0.mk h
  clear h
  go_enter Try.func15, Try.ntmps15
  go_wp2_with (go_at_call 24; (with_reducible refine H.out.mono ?_); rintro e w9 ⟨rfl, rfl⟩)
  go_ret
  exact ⟨rfl, rfl⟩
theorem no_fill (p : Option Addr) (now k : Int) (w : World) (h : Calls Try.prog 24 #[.pointer p] w fun e w' => e = .returned (.bool false) ∧ w = w') : Calls Try.prog 12 #[.pointer p, .int .i64 now, .int .u64 k] w fun e w' => e = .returned (.int .i64 0) ∧ w = w' := by
  have H := Aside0.mk h
  clear h
  go_enter Try.func12, Try.ntmps12
  go_wp2_with (go_at_call 24; (with_reducible refine H.out.mono ?_); rintro e w9 ⟨rfl, rfl⟩)
  go_ret
  exact ⟨rfl, rfl⟩
theorem no_when (p : Option Addr) (now k n : Int) (w : World) (h : Calls Try.prog 24 #[.pointer p] w fun e w' => e = .returned (.bool false) ∧ w = w') : Calls Try.prog 13 #[.pointer p, .int .i64 now, .int .u64 k, .int .i64 n] w fun e w' => e = .returned (.int .i64 1099511627776) ∧ w = w' := by
  have H := Aside0.mk h
  clear h
  go_enter Try.func13, Try.ntmps13
  go_wp2_with (go_at_call 24; (with_reducible refine H.out.mono ?_); rintro e w9 ⟨rfl, rfl⟩)
  go_ret
  exact ⟨rfl, rfl⟩
theorem no_len (p : Option Addr) (now : Int) (w : World) (h : Calls Try.prog 24 #[.pointer p] w fun e w' => e = .returned (.bool false) ∧ w = w') : Calls Try.prog 21 #[.pointer p, .int .i64 now] w fun e w' => e = .returned (.int .i64 0) ∧ w = w' := by
  have H := Aside0.mk h
  clear h
  go_enter Try.func21, Try.ntmps21
  go_wp2_with (go_at_call 24; (with_reducible refine H.out.mono ?_); rintro e w9 ⟨rfl, rfl⟩)
  go_ret
  exact ⟨rfl, rfl⟩
theorem no_now (p : Option Addr) (w : World) (h : Calls Try.prog 24 #[.pointer p] w fun e w' => e = .returned (.bool false) ∧ w = w') : Calls Try.prog 22 #[.pointer p] w fun e w' => e = .returned (.int .i64 0) ∧ w = w' := by
  have H := Aside0.mk h
  clear h
  go_enter Try.func22, Try.ntmps22
  go_wp2_with (go_at_call 24; (with_reducible refine H.out.mono ?_); rintro e w9 ⟨rfl, rfl⟩)
  go_ret
  exact ⟨rfl, rfl⟩
end Go.Proofs.Ytdojihocnkakjaa.Quo
