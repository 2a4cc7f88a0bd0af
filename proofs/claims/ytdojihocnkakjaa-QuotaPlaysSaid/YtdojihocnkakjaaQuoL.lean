/- alive, and QuotaWhen: at the time that When tells so much may be taken, ahead of it not; the walk; no condition but that numbers are of their kinds. -/
import Derived.Test.YtdojihocnkakjaaQuoP
namespace Go.Proofs.Ytdojihocnkakjaa.Quo
set_option linter.unusedVariables false
set_option linter.unusedSimpArgs false
open Go.RowKit Go.Proofs.Ytdojihocnkakjaa.PA Go.Proofs.YtdojihocnkakjaaW.PrintWords Go.Proofs.YtdojihocnkakjaaW.PrintLast Go.Proofs.YtdojihocnkakjaaW.PrintMore Go.Proofs.Ytdojihocnkakjaa.Tab Go.Proofs.Ytdojihocnkakjaa.SatMul
attribute [local go_sem] max2_int min2_int max_two min_two max_three min_three max_four min_four

set_option maxHeartbeats 8000000 in
theorem alive_c (w : World) : Calls Try.prog 9 #[] w fun e w' => e = .returned (.bool true) ∧ Below w.heap.size w w' := by
  have m : MayB 2 10 1 := by unfold MayB; omega
  have o0 := ok_new m
  have o1 := o0.take 0 5 8
  have o2 := o1.take 5 5 8
  have o3 := o2.later 5
  obtain ⟨s1, e1⟩ : ∃ s1, takeV ⟨2, 10, 1, 0, []⟩ 0 5 8 = ((true, 0), s1) := ⟨_, rfl⟩
  have q1 : s1 = (takeV ⟨2, 10, 1, 0, []⟩ 0 5 8).2 := by rw [e1]
  obtain ⟨s2, e2⟩ : ∃ s2, takeV s1 5 5 8 = ((false, 0), s2) := ⟨_, by rw [q1]; rfl⟩
  have q2 : s2 = (takeV s1 5 5 8).2 := by rw [e2]
  obtain ⟨s3, e3⟩ : ∃ s3, laterV s2 5 = s3 := ⟨_, rfl⟩
  have e4 : whenV s2 5 5 8 = 6 := by rw [q2, q1]; rfl
  obtain ⟨s4, e5⟩ : ∃ s4, takeV s3 6 5 8 = ((true, 0), s4) := ⟨_, by rw [← e3, q2, q1]; rfl⟩
  rw [e1] at o1 o2 o3
  dsimp only at o1 o2 o3
  rw [e2] at o2 o3
  dsimp only at o2 o3
  rw [e3] at o3
  have K : (0 : Int) ≤ 5 ∧ (5 : Int) ≤ 18446744073709551615 := by decide
  have H1 := Aside0.mk (fun g b w' h hB => take_c g b ⟨2, 10, 1, 0, []⟩ 0 5 8 K (by decide) w w' h hB o0 true 0 s1 e1)
  have H2 := Aside0.mk (fun g b w' h hB => take_c g b s1 5 5 8 K (by decide) w w' h hB o1 false 0 s2 e2)
  have H3 := Aside0.mk (fun g b w' h hB => when_c g b s2 5 5 8 K (by decide) (by decide) w w' h hB o2 6 s3 e3 e4)
  have H4 := Aside0.mk (fun g b w' h hB => take_c g b s3 6 5 8 K (by decide) w w' h hB o3 true 0 s4 e5)
  have HM := Aside0.mk m
  have HB := Aside0.mk (Below.refl w.heap.size w)
  clear o0 o1 o2 o3 e1 q1 e2 q2 e3 e4 e5 K m
  go_enter Try.func9, Try.ntmps9
  go_wp2_with (first | (go_at_call 7; (with_reducible refine (new_c _ _ _ HM.out _).mono ?_); rintro e w9 ⟨g, b, rfl, hi, hb⟩; have n1_ := Aside0.mk (below_step HB.out hb); have HT := Aside0.mk (hi.of HB.out); clear HB hi hb; have HB := n1_; clear n1_) | (go_at_call 11; (with_reducible refine (H1.out _ _ _ HT.out HB.out).mono ?_); rintro e w9 ⟨rfl, hp⟩; have n0_ := Aside0.mk hp.1; have n1_ := Aside0.mk hp.2.1; clear HT HB hp; have HT := n0_; have HB := n1_; clear n0_ n1_) | (go_at_call 11; (with_reducible refine (H2.out _ _ _ HT.out HB.out).mono ?_); rintro e w9 ⟨rfl, hp⟩; have n0_ := Aside0.mk hp.1; have n1_ := Aside0.mk hp.2.1; clear HT HB hp; have HT := n0_; have HB := n1_; clear n0_ n1_) | (go_at_call 13; (with_reducible refine (H3.out _ _ _ HT.out HB.out).mono ?_); rintro e w9 ⟨rfl, hp⟩; have n0_ := Aside0.mk hp.1; have n1_ := Aside0.mk hp.2.1; clear HT HB hp; have HT := n0_; have HB := n1_; clear n0_ n1_) | (go_at_call 11; (with_reducible refine (H4.out _ _ _ HT.out HB.out).mono ?_); rintro e w9 ⟨rfl, hp⟩; have n0_ := Aside0.mk hp.1; have n1_ := Aside0.mk hp.2.1; clear HT HB hp; have HT := n0_; have HB := n1_; clear n0_ n1_))
  go_ret
  exact ⟨rfl, HB.out⟩
set_option maxHeartbeats 8000000 in
theorem when_no (room most rate first n : Int) (h : ¬ MayB room most rate) (w : World) : Calls Try.prog 4 #[.agg #[.int .i64 room, .int .i64 most, .int .i64 rate], .int .i64 first, .int .i64 n] w fun e w' => e = .returned (.bool true) ∧ Below w.heap.size w w' := by
  have HA := Aside0.mk alive_c
  have HM := Aside0.mk h
  have HB := Aside0.mk (below_alloc (Below.refl w.heap.size w) (.cells #[.int .i64 room, .int .i64 most, .int .i64 rate] 23 (0, 0)))
  clear h
  have huT := Try.underlying23
  go_enter Try.func4, Try.ntmps4
  go_wp2_with (first | (go_at_call 8; (with_reducible refine (garboardlaw33_theirs.calls _ _ _ _ _ _ _ rfl).mono ?_); rintro e w9 ⟨rfl, hb⟩; have n1_ := Aside0.mk (below_step HB.out hb); clear HB hb; have HB := n1_; clear n1_) | (go_at_call 7; (with_reducible refine (new_no _ _ _ HM.out _).mono ?_); rintro e w9 ⟨rfl, hb⟩; have n1_ := Aside0.mk (below_step HB.out hb); clear HB hb; have HB := n1_; clear n1_) | (go_at_call 9; (with_reducible refine (HA.out _).mono ?_); rintro e w9 ⟨rfl, hb⟩; have n1_ := Aside0.mk (below_step HB.out hb); clear HB hb; have HB := n1_; clear n1_))
  go_ret
  exact ⟨rfl, HB.out⟩
set_option maxHeartbeats 16000000 in
theorem when_ok (room most rate first n : Int) (h : MayB room most rate) (hf1 : first ≤ 9223372036854775807) (hn0 : -9223372036854775808 ≤ n) (hn1 : n ≤ 9223372036854775807) (w : World) : Calls Try.prog 4 #[.agg #[.int .i64 room, .int .i64 most, .int .i64 rate], .int .i64 first, .int .i64 n] w fun e w' => e = .returned (.bool true) ∧ Below w.heap.size w w' := by
  obtain ⟨b1, e1, s1, at_, t1, q1, o1, q2, q3, o2, a0, a1, q4⟩ := when_script h first n hn0 hn1
  obtain ⟨w1, hw1⟩ : ∃ w1, w.alloc (.cells #[.int .i64 room, .int .i64 most, .int .i64 rate] 23 (0, 0)) = w1 := ⟨_, rfl⟩
  have HW := Aside0.mk (show Below w.heap.size w w1 from hw1 ▸ below_alloc (Below.refl w.heap.size w) _)
  have K1 := Aside0.mk (show w1.cell? ⟨w.heap.size, 1, none⟩ = some (.int .i64 most) by rw [← hw1]; exact blk_cell (blk_new w _) 1)
  have K0 := Aside0.mk (show w1.cell? ⟨w.heap.size, 0, none⟩ = some (.int .i64 room) by rw [← hw1]; exact blk_cell (blk_new w _) 0)
  have K2 := Aside0.mk (show w1.cell? ⟨w.heap.size, 2, none⟩ = some (.int .i64 rate) by rw [← hw1]; exact blk_cell (blk_new w _) 2)
  have HB := Aside0.mk (Below.refl w1.heap.size w1)
  have HA := Aside0.mk alive_c
  have HM := Aside0.mk h
  have K : (0 : Int) ≤ 7 ∧ (7 : Int) ≤ 18446744073709551615 := by decide
  have H1 := Aside0.mk (fun g b w' hT hB => take_c g b ⟨room, most, rate, 0, []⟩ 0 7 first K hf1 w1 w' hT hB (ok_new h) b1 e1 s1 q1)
  have H2 := Aside0.mk (fun g b w' hT hB => when_c g b s1 0 7 n K hn0 hn1 w1 w' hT hB o1 at_ t1 q3 q2)
  have huT := Try.underlying23
  have HO := Aside0.mk o2
  have HWW := Aside0.mk hw1
  clear h q1 q2 q3 o1 o2 hw1
  rcases q4 with (q4 | ⟨q4, q5⟩ | ⟨q4, q5, rfl⟩) | ⟨q4, q5, rfl, t3, q6⟩ | ⟨q4, q5, q7, q8, t2, t3, q6, q9, q10⟩
  · go_enter Try.func4, Try.ntmps4
    go_upto_region 1 with (fail)
    rw [HWW.out]
    have c0_ := K0.out; have c1_ := K1.out; have c2_ := K2.out
    go_wp2_with (first | (go_at_call 8; (with_reducible refine (garboardlaw33_theirs.calls _ _ _ _ _ _ _ rfl).mono ?_); rintro e w9 ⟨rfl, hb⟩; have n1_ := Aside0.mk (below_step HB.out hb); clear HB hb; have HB := n1_; clear n1_) | (go_at_call 7; (with_reducible refine (new_c _ _ _ HM.out _).mono ?_); rintro e w9 ⟨g, b, rfl, hi, hb⟩; have n1_ := Aside0.mk (below_step HB.out hb); have HT := Aside0.mk (hi.of HB.out); clear HB hi hb; have HB := n1_; clear n1_) | (go_at_call 11; (with_reducible refine (H1.out _ _ _ HT.out HB.out).mono ?_); rintro e w9 ⟨rfl, hp⟩; have n0_ := Aside0.mk hp.1; have n1_ := Aside0.mk hp.2.1; clear HT HB hp; have HT := n0_; have HB := n1_; clear n0_ n1_) | (go_at_call 13; (with_reducible refine (H2.out _ _ _ HT.out HB.out).mono ?_); rintro e w9 ⟨rfl, hp⟩; have n0_ := Aside0.mk hp.1; have n1_ := Aside0.mk hp.2.1; clear HT HB hp; have HT := n0_; have HB := n1_; clear n0_ n1_; have k1 := pw_cell_below HB.out K1.out) | (go_at_call 11; (with_reducible refine (H3.out _ _ _ HT.out HB.out).mono ?_); rintro e w9 ⟨rfl, hp⟩; have n0_ := Aside0.mk hp.1; have n1_ := Aside0.mk hp.2.1; clear HT HB hp; have HT := n0_; have HB := n1_; clear n0_ n1_) | (go_at_call 11; (with_reducible refine (H4.out _ _ _ HT.out HB.out).mono ?_); rintro e w9 ⟨rfl, hp⟩; have n0_ := Aside0.mk hp.1; have n1_ := Aside0.mk hp.2.1; clear HT HB hp; have HT := n0_; have HB := n1_; clear n0_ n1_) | (go_at_call 9; (with_reducible refine (HA.out _).mono ?_); rintro e w9 ⟨rfl, hb⟩; have n1_ := Aside0.mk (below_step HB.out hb); clear HB hb; have HB := n1_; clear n1_))
    go_ret
    exact ⟨rfl, below_step HW.out HB.out⟩
  · go_enter Try.func4, Try.ntmps4
    go_upto_region 1 with (fail)
    rw [HWW.out]
    have c0_ := K0.out; have c1_ := K1.out; have c2_ := K2.out
    go_wp2_with (first | (go_at_call 8; (with_reducible refine (garboardlaw33_theirs.calls _ _ _ _ _ _ _ rfl).mono ?_); rintro e w9 ⟨rfl, hb⟩; have n1_ := Aside0.mk (below_step HB.out hb); clear HB hb; have HB := n1_; clear n1_) | (go_at_call 7; (with_reducible refine (new_c _ _ _ HM.out _).mono ?_); rintro e w9 ⟨g, b, rfl, hi, hb⟩; have n1_ := Aside0.mk (below_step HB.out hb); have HT := Aside0.mk (hi.of HB.out); clear HB hi hb; have HB := n1_; clear n1_) | (go_at_call 11; (with_reducible refine (H1.out _ _ _ HT.out HB.out).mono ?_); rintro e w9 ⟨rfl, hp⟩; have n0_ := Aside0.mk hp.1; have n1_ := Aside0.mk hp.2.1; clear HT HB hp; have HT := n0_; have HB := n1_; clear n0_ n1_) | (go_at_call 13; (with_reducible refine (H2.out _ _ _ HT.out HB.out).mono ?_); rintro e w9 ⟨rfl, hp⟩; have n0_ := Aside0.mk hp.1; have n1_ := Aside0.mk hp.2.1; clear HT HB hp; have HT := n0_; have HB := n1_; clear n0_ n1_; have k1 := pw_cell_below HB.out K1.out) | (go_at_call 11; (with_reducible refine (H3.out _ _ _ HT.out HB.out).mono ?_); rintro e w9 ⟨rfl, hp⟩; have n0_ := Aside0.mk hp.1; have n1_ := Aside0.mk hp.2.1; clear HT HB hp; have HT := n0_; have HB := n1_; clear n0_ n1_) | (go_at_call 11; (with_reducible refine (H4.out _ _ _ HT.out HB.out).mono ?_); rintro e w9 ⟨rfl, hp⟩; have n0_ := Aside0.mk hp.1; have n1_ := Aside0.mk hp.2.1; clear HT HB hp; have HT := n0_; have HB := n1_; clear n0_ n1_) | (go_at_call 9; (with_reducible refine (HA.out _).mono ?_); rintro e w9 ⟨rfl, hb⟩; have n1_ := Aside0.mk (below_step HB.out hb); clear HB hb; have HB := n1_; clear n1_))
    go_ret
    exact ⟨rfl, below_step HW.out HB.out⟩
  · go_enter Try.func4, Try.ntmps4
    go_upto_region 1 with (fail)
    rw [HWW.out]
    have c0_ := K0.out; have c1_ := K1.out; have c2_ := K2.out
    go_wp2_with (first | (go_at_call 8; (with_reducible refine (garboardlaw33_theirs.calls _ _ _ _ _ _ _ rfl).mono ?_); rintro e w9 ⟨rfl, hb⟩; have n1_ := Aside0.mk (below_step HB.out hb); clear HB hb; have HB := n1_; clear n1_) | (go_at_call 7; (with_reducible refine (new_c _ _ _ HM.out _).mono ?_); rintro e w9 ⟨g, b, rfl, hi, hb⟩; have n1_ := Aside0.mk (below_step HB.out hb); have HT := Aside0.mk (hi.of HB.out); clear HB hi hb; have HB := n1_; clear n1_) | (go_at_call 11; (with_reducible refine (H1.out _ _ _ HT.out HB.out).mono ?_); rintro e w9 ⟨rfl, hp⟩; have n0_ := Aside0.mk hp.1; have n1_ := Aside0.mk hp.2.1; clear HT HB hp; have HT := n0_; have HB := n1_; clear n0_ n1_) | (go_at_call 13; (with_reducible refine (H2.out _ _ _ HT.out HB.out).mono ?_); rintro e w9 ⟨rfl, hp⟩; have n0_ := Aside0.mk hp.1; have n1_ := Aside0.mk hp.2.1; clear HT HB hp; have HT := n0_; have HB := n1_; clear n0_ n1_; have k1 := pw_cell_below HB.out K1.out) | (go_at_call 11; (with_reducible refine (H3.out _ _ _ HT.out HB.out).mono ?_); rintro e w9 ⟨rfl, hp⟩; have n0_ := Aside0.mk hp.1; have n1_ := Aside0.mk hp.2.1; clear HT HB hp; have HT := n0_; have HB := n1_; clear n0_ n1_) | (go_at_call 11; (with_reducible refine (H4.out _ _ _ HT.out HB.out).mono ?_); rintro e w9 ⟨rfl, hp⟩; have n0_ := Aside0.mk hp.1; have n1_ := Aside0.mk hp.2.1; clear HT HB hp; have HT := n0_; have HB := n1_; clear n0_ n1_) | (go_at_call 9; (with_reducible refine (HA.out _).mono ?_); rintro e w9 ⟨rfl, hb⟩; have n1_ := Aside0.mk (below_step HB.out hb); clear HB hb; have HB := n1_; clear n1_))
    go_ret
    exact ⟨rfl, below_step HW.out HB.out⟩
  · have H3 := Aside0.mk (fun g b w' hT hB => take_c g b t1 0 7 n K hn1 w1 w' hT hB HO.out true 0 t3 q6)
    have q6 := Aside0.mk q6
    go_enter Try.func4, Try.ntmps4
    go_upto_region 1 with (fail)
    rw [HWW.out]
    have c0_ := K0.out; have c1_ := K1.out; have c2_ := K2.out
    go_wp2_with (first | (go_at_call 8; (with_reducible refine (garboardlaw33_theirs.calls _ _ _ _ _ _ _ rfl).mono ?_); rintro e w9 ⟨rfl, hb⟩; have n1_ := Aside0.mk (below_step HB.out hb); clear HB hb; have HB := n1_; clear n1_) | (go_at_call 7; (with_reducible refine (new_c _ _ _ HM.out _).mono ?_); rintro e w9 ⟨g, b, rfl, hi, hb⟩; have n1_ := Aside0.mk (below_step HB.out hb); have HT := Aside0.mk (hi.of HB.out); clear HB hi hb; have HB := n1_; clear n1_) | (go_at_call 11; (with_reducible refine (H1.out _ _ _ HT.out HB.out).mono ?_); rintro e w9 ⟨rfl, hp⟩; have n0_ := Aside0.mk hp.1; have n1_ := Aside0.mk hp.2.1; clear HT HB hp; have HT := n0_; have HB := n1_; clear n0_ n1_) | (go_at_call 13; (with_reducible refine (H2.out _ _ _ HT.out HB.out).mono ?_); rintro e w9 ⟨rfl, hp⟩; have n0_ := Aside0.mk hp.1; have n1_ := Aside0.mk hp.2.1; clear HT HB hp; have HT := n0_; have HB := n1_; clear n0_ n1_; have k1 := pw_cell_below HB.out K1.out) | (go_at_call 11; (with_reducible refine (H3.out _ _ _ HT.out HB.out).mono ?_); rintro e w9 ⟨rfl, hp⟩; have n0_ := Aside0.mk hp.1; have n1_ := Aside0.mk hp.2.1; clear HT HB hp; have HT := n0_; have HB := n1_; clear n0_ n1_) | (go_at_call 11; (with_reducible refine (H4.out _ _ _ HT.out HB.out).mono ?_); rintro e w9 ⟨rfl, hp⟩; have n0_ := Aside0.mk hp.1; have n1_ := Aside0.mk hp.2.1; clear HT HB hp; have HT := n0_; have HB := n1_; clear n0_ n1_) | (go_at_call 9; (with_reducible refine (HA.out _).mono ?_); rintro e w9 ⟨rfl, hb⟩; have n1_ := Aside0.mk (below_step HB.out hb); clear HB hb; have HB := n1_; clear n1_))
    go_ret
    exact ⟨rfl, below_step HW.out HB.out⟩
  · have H3 := Aside0.mk (fun g b w' hT hB => take_c g b t1 (at_ - 1) 7 n K hn1 w1 w' hT hB HO.out false 0 t2 q6)
    have H4 := Aside0.mk (fun g b w' hT hB => take_c g b t2 at_ 7 n K hn1 w1 w' hT hB q9 true 0 t3 q10)
    clear q6 q9 q10
    have q7' : (at_ == 1099511627776) = false := by simp; omega
    go_enter Try.func4, Try.ntmps4
    go_upto_region 1 with (fail)
    rw [HWW.out]
    have c0_ := K0.out; have c1_ := K1.out; have c2_ := K2.out
    go_wp2_with (first | (go_at_call 8; (with_reducible refine (garboardlaw33_theirs.calls _ _ _ _ _ _ _ rfl).mono ?_); rintro e w9 ⟨rfl, hb⟩; have n1_ := Aside0.mk (below_step HB.out hb); clear HB hb; have HB := n1_; clear n1_) | (go_at_call 7; (with_reducible refine (new_c _ _ _ HM.out _).mono ?_); rintro e w9 ⟨g, b, rfl, hi, hb⟩; have n1_ := Aside0.mk (below_step HB.out hb); have HT := Aside0.mk (hi.of HB.out); clear HB hi hb; have HB := n1_; clear n1_) | (go_at_call 11; (with_reducible refine (H1.out _ _ _ HT.out HB.out).mono ?_); rintro e w9 ⟨rfl, hp⟩; have n0_ := Aside0.mk hp.1; have n1_ := Aside0.mk hp.2.1; clear HT HB hp; have HT := n0_; have HB := n1_; clear n0_ n1_) | (go_at_call 13; (with_reducible refine (H2.out _ _ _ HT.out HB.out).mono ?_); rintro e w9 ⟨rfl, hp⟩; have n0_ := Aside0.mk hp.1; have n1_ := Aside0.mk hp.2.1; clear HT HB hp; have HT := n0_; have HB := n1_; clear n0_ n1_; have k1 := pw_cell_below HB.out K1.out) | (go_at_call 11; (with_reducible refine (H3.out _ _ _ HT.out HB.out).mono ?_); rintro e w9 ⟨rfl, hp⟩; have n0_ := Aside0.mk hp.1; have n1_ := Aside0.mk hp.2.1; clear HT HB hp; have HT := n0_; have HB := n1_; clear n0_ n1_) | (go_at_call 11; (with_reducible refine (H4.out _ _ _ HT.out HB.out).mono ?_); rintro e w9 ⟨rfl, hp⟩; have n0_ := Aside0.mk hp.1; have n1_ := Aside0.mk hp.2.1; clear HT HB hp; have HT := n0_; have HB := n1_; clear n0_ n1_) | (go_at_call 9; (with_reducible refine (HA.out _).mono ?_); rintro e w9 ⟨rfl, hb⟩; have n1_ := Aside0.mk (below_step HB.out hb); clear HB hb; have HB := n1_; clear n1_))
    go_ret
    exact ⟨rfl, below_step HW.out HB.out⟩
theorem when_law (room most rate first n : Int) (hf1 : first ≤ 9223372036854775807) (hn0 : -9223372036854775808 ≤ n) (hn1 : n ≤ 9223372036854775807) (w : World) : Calls Try.prog 4 #[.agg #[.int .i64 room, .int .i64 most, .int .i64 rate], .int .i64 first, .int .i64 n] w fun e w' => e = .returned (.bool true) ∧ Below w.heap.size w w' := by
  by_cases h : MayB room most rate
  · exact when_ok room most rate first n h hf1 hn0 hn1 w
  · exact when_no room most rate first n h w
end Go.Proofs.Ytdojihocnkakjaa.Quo
