/- Fail, of the breaker and of the document's, by hand: what each call does to memory; no condition but those that stand in each. -/
import Derived.Test.YtkpablemeaaeoaaBrk
import Derived.BigRegion
import Derived.RegionTactic
import Derived.Deep.QuietTactic
import Derived.BigQuiet
namespace Go.Proofs.Ytkpablemeaaeoaa.Brk
set_option linter.unusedVariables false
set_option linter.unusedSimpArgs false
open Go.RowKit Go.Proofs.Ytkpablemeaaeoaa.PA Go.Proofs.YtkpablemeaaeoaaW.PrintWords Go.Proofs.YtkpablemeaaeoaaW.PrintLast Go.Proofs.YtkpablemeaaeoaaW.PrintMore Go.Proofs.Ytkpablemeaaeoaa.Base
attribute [local go_sem] max2_int min2_int max_two min_two max_three min_three max_four min_four
theorem IsB.mk' {w0 W : World} {g : Nat} {s : B} (h : IsS49 w0 W g s.f s.c s.m s.n s.st s.fx s.fm s.gx s.gm s.cl s.un s.tr s.nw) : IsB w0 W g s := h
theorem okm0_c (g : Nat) (s : B) (hf : 0 < s.f) (w0 w : World) (hI : IsB w0 w g s) (hB : Below w0.heap.size w0 w) : Calls Try.prog 27 #[.pointer (some ⟨g, 0, none⟩)] w fun e w' => e = .returned (.bool true) ∧ IsB w0 w' g s ∧ Below w0.heap.size w0 w' ∧ KeepBut w w' g none :=
  breaker_Breaker_ok.calls g s.f s.c s.m s.n s.st s.fx s.fm s.gx s.gm s.cl s.un s.tr s.nw true s.f s.c s.m s.n s.st s.fx s.fm s.gx s.gm s.cl s.un s.tr s.nw w0 w hI hB (by unfold breaker_Breaker_ok.f; rw [decide_eq_true (show s.f > 0 from hf)])

set_option maxHeartbeats 4000000 in
set_option maxRecDepth 100000 in
theorem fail_half (g : Nat) (s : B) (a : Int) (hf : 0 < s.f) (w0 w : World) (hI : IsB w0 w g s) (hB : Below w0.heap.size w0 w) (s1 : B) (h1 : laterV s a = s1) (hst1 : s1.st ≠ 1) (hst0 : s1.st ≠ 0) (hc0 : 0 ≤ s1.cl) (hc1 : s1.cl ≤ 4294967296) (ht0 : 0 ≤ s1.nw) (ht1 : s1.nw ≤ 1099511627776) :
    Calls Try.prog 14 #[.pointer (some ⟨g, 0, none⟩), .int .i64 a] w fun e w' => e = .returned (.tuple #[]) ∧ IsB w0 w' g (openV s1) ∧ Below w0.heap.size w0 w' ∧ KeepBut w w' g none := by
  have hu47 := Try.underlying47
  have HI := Aside0.mk hI
  have HB := Aside0.mk hB
  have HK := Aside0.mk (KeepBut.refl w g none)
  clear hI hB
  have HF := Aside0.mk hf
  have hs := fun w1 (hi : IsB w0 w1 g s) (hb : Below w0.heap.size w0 w1) => state_c g s a hf w0 w1 hi hb
  rw [h1] at hs
  have HS := Aside0.mk hs
  clear hs h1 hf
  obtain ⟨f, c, m, n, st, fx, fm, gx, gm, cl, un, tr, nw⟩ := s1
  dsimp only at hst1 hst0 hc0 hc1 ht0 ht1
  have e1 : (st == 1) = false := beq_eq_false_iff_ne.mpr hst1
  have e2 : (st == 0) = false := beq_eq_false_iff_ne.mpr hst0
  clear hst1 hst0
  obtain ⟨q, hq⟩ : ∃ q, mn (2 * cl) m = q := ⟨_, rfl⟩
  have hq' : (m < 2 * cl ∧ m = q) ∨ (2 * cl ≤ m ∧ 2 * cl = q) := by rw [← hq]; unfold mn; split <;> omega
  have HQ := Aside0.mk hq
  clear hq
  rcases hq' with ⟨hm, rfl⟩ | ⟨hm, rfl⟩
  all_goals
   go_enter Try.func14, Try.ntmps14
   go_wp2_with (first | (go_at_call 27; (with_reducible refine (okm0_c g s HF.out w0 _ HI.out HB.out).mono ?_); rintro e w9 ⟨rfl, hi, hb, hk⟩; have n0_ := Aside0.mk hi; have n1_ := Aside0.mk hb; have n2_ := Aside0.mk (KeepBut.trans HK.out hk (.inl rfl)); clear HI HB HK hi hb hk; have HI := n0_; have HB := n1_; have HK := n2_; clear n0_ n1_ n2_) | (go_at_call 11; (with_reducible refine (HS.out _ HI.out HB.out).mono ?_); rintro e w9 ⟨rfl, hi, hb, hk⟩; have n0_ := Aside0.mk hi; have n1_ := Aside0.mk hb; have n2_ := Aside0.mk (KeepBut.trans HK.out hk (.inl rfl)); clear HI HB HK hi hb hk; have HI := n0_; have HB := n1_; have HK := n2_; clear n0_ n1_ n2_))
   have HJ : IsS49 w0 w9 g f c m n st fx fm gx gm cl un tr nw := HI.out
   have HJ2 := Aside0.mk HJ
   obtain ⟨HGz, hgz⟩ := HJ; have hcz_0 := cellS49_0 HGz; have hfz_0 := blk_frozen HGz 0; have hcz_1 := cellS49_1 HGz; have hfz_1 := blk_frozen HGz 1; have hcz_2 := cellS49_2 HGz; have hfz_2 := blk_frozen HGz 2; have hcz_3 := cellS49_3 HGz; have hfz_3 := blk_frozen HGz 3; have hcz_4 := cellS49_4 HGz; have hfz_4 := blk_frozen HGz 4; have hcz_5 := cellS49_5 HGz; have hfz_5 := blk_frozen HGz 5; have hcz_6 := cellS49_6 HGz; have hfz_6 := blk_frozen HGz 6; have hcz_7 := cellS49_7 HGz; have hfz_7 := blk_frozen HGz 7; have hcz_8 := cellS49_8 HGz; have hfz_8 := blk_frozen HGz 8; have hcz_9 := cellS49_9 HGz; have hfz_9 := blk_frozen HGz 9; have hcz_10 := cellS49_10 HGz; have hfz_10 := blk_frozen HGz 10; have hcz_11 := cellS49_11 HGz; have hfz_11 := blk_frozen HGz 11; have hcz_12 := cellS49_12 HGz; have hfz_12 := blk_frozen HGz 12; clear HGz hgz
   go_region
   go_wp2_with fail
   go_region
   go_wp2_with fail
   first | go_end0 | ((try simp only [Exit.inBlock, Exit.then]); refine bodyPost_ret (results_none rfl _ _ _) rfl ?_)
   refine ⟨rfl, ?_, by repeat (first | (with_reducible first | exact HB.out | apply below_alloc | apply pw_below_drewN | apply below_drew1 | refine below_set ?_ (IsS49.ge HJ2.out)) | exact HB.out), by repeat (first | (with_reducible first | exact HK.out | apply KeepBut.set_ | apply keep_drewN | apply keep_drew | apply keep_alloc) | exact HK.out)⟩
   show IsS49 w0 _ g f c m n 1 fx fm gx gm (mn (2 * cl) m) (nw + cl) tr nw
   rw [HQ.out]
   repeat (first | (with_reducible first | exact HJ2.out | apply IsS49.alloc | apply IsS49.drewN | apply IsS49.drew | apply IsS49.set_0 | apply IsS49.set_1 | apply IsS49.set_2 | apply IsS49.set_3 | apply IsS49.set_4 | apply IsS49.set_5 | apply IsS49.set_6 | apply IsS49.set_7 | apply IsS49.set_8 | apply IsS49.set_9 | apply IsS49.set_10 | apply IsS49.set_11 | apply IsS49.set_12) | exact HJ2.out)

set_option maxHeartbeats 4000000 in
set_option maxRecDepth 100000 in
theorem fail_open (g : Nat) (s : B) (a : Int) (hf : 0 < s.f) (w0 w : World) (hI : IsB w0 w g s) (hB : Below w0.heap.size w0 w) (s1 : B) (h1 : laterV s a = s1) (hst : s1.st = 1) :
    Calls Try.prog 14 #[.pointer (some ⟨g, 0, none⟩), .int .i64 a] w fun e w' => e = .returned (.tuple #[]) ∧ IsB w0 w' g s1 ∧ Below w0.heap.size w0 w' ∧ KeepBut w w' g none := by
  have hu47 := Try.underlying47
  have HI := Aside0.mk hI
  have HB := Aside0.mk hB
  have HK := Aside0.mk (KeepBut.refl w g none)
  clear hI hB
  have HF := Aside0.mk hf
  have hs := fun w1 (hi : IsB w0 w1 g s) (hb : Below w0.heap.size w0 w1) => state_c g s a hf w0 w1 hi hb
  rw [h1] at hs
  have HS := Aside0.mk hs
  clear hs h1 hf
  obtain ⟨f, c, m, n, st, fx, fm, gx, gm, cl, un, tr, nw⟩ := s1
  dsimp only at hst
  subst hst
  go_enter Try.func14, Try.ntmps14
  go_wp2_with (first | (go_at_call 27; (with_reducible refine (okm0_c g s HF.out w0 _ HI.out HB.out).mono ?_); rintro e w9 ⟨rfl, hi, hb, hk⟩; have n0_ := Aside0.mk hi; have n1_ := Aside0.mk hb; have n2_ := Aside0.mk (KeepBut.trans HK.out hk (.inl rfl)); clear HI HB HK hi hb hk; have HI := n0_; have HB := n1_; have HK := n2_; clear n0_ n1_ n2_) | (go_at_call 11; (with_reducible refine (HS.out _ HI.out HB.out).mono ?_); rintro e w9 ⟨rfl, hi, hb, hk⟩; have n0_ := Aside0.mk hi; have n1_ := Aside0.mk hb; have n2_ := Aside0.mk (KeepBut.trans HK.out hk (.inl rfl)); clear HI HB HK hi hb hk; have HI := n0_; have HB := n1_; have HK := n2_; clear n0_ n1_ n2_))
  first | go_end0 | ((try simp only [Exit.inBlock, Exit.then]); refine bodyPost_ret (results_none rfl _ _ _) rfl ?_)
  exact ⟨rfl, HI.out, HB.out, HK.out⟩

set_option maxHeartbeats 4000000 in
set_option maxRecDepth 100000 in
theorem fail_few (g : Nat) (s : B) (a : Int) (hf : 0 < s.f) (w0 w : World) (hI : IsB w0 w g s) (hB : Below w0.heap.size w0 w) (s1 : B) (h1 : laterV s a = s1) (hst : s1.st = 0) (hu : up s1.fx s1.fm ≠ s1.fm) :
    Calls Try.prog 14 #[.pointer (some ⟨g, 0, none⟩), .int .i64 a] w fun e w' => e = .returned (.tuple #[]) ∧ IsB w0 w' g { s1 with fx := up s1.fx s1.fm } ∧ Below w0.heap.size w0 w' ∧ KeepBut w w' g none := by
  have hu47 := Try.underlying47
  have HI := Aside0.mk hI
  have HB := Aside0.mk hB
  have HK := Aside0.mk (KeepBut.refl w g none)
  clear hI hB
  have HF := Aside0.mk hf
  have hs := fun w1 (hi : IsB w0 w1 g s) (hb : Below w0.heap.size w0 w1) => state_c g s a hf w0 w1 hi hb
  rw [h1] at hs
  have HS := Aside0.mk hs
  clear hs h1 hf
  obtain ⟨f, c, m, n, st, fx, fm, gx, gm, cl, un, tr, nw⟩ := s1
  dsimp only at hst hu
  subst hst
  have HU := Aside0.mk (show sat_Counter_Up.f fx fm 1 = some (up fx fm, fm) from rfl)
  have HV := Aside0.mk (show sat_Counter_Full.f (up fx fm) fm = some false from by unfold sat_Counter_Full.f; rw [show (up fx fm == fm) = false from by simpa using hu])
  clear hu
  go_enter Try.func14, Try.ntmps14
  go_wp2_with (first | (go_at_call 27; (with_reducible refine (okm0_c g s HF.out w0 _ HI.out HB.out).mono ?_); rintro e w9 ⟨rfl, hi, hb, hk⟩; have n0_ := Aside0.mk hi; have n1_ := Aside0.mk hb; have n2_ := Aside0.mk (KeepBut.trans HK.out hk (.inl rfl)); clear HI HB HK hi hb hk; have HI := n0_; have HB := n1_; have HK := n2_; clear n0_ n1_ n2_) | ((go_at_call 11; (with_reducible refine (HS.out _ HI.out HB.out).mono ?_); rintro e w9 ⟨rfl, hi, hb, hk⟩; have n0_ := Aside0.mk hi; have n1_ := Aside0.mk hb; have n2_ := Aside0.mk (KeepBut.trans HK.out hk (.inl rfl)); clear HI HB HK hi hb hk; have HI := n0_; have HB := n1_; have HK := n2_; clear n0_ n1_ n2_); have HJ : IsS49 w0 w9 g f c m n 0 fx fm gx gm cl un tr nw := HI.out; have HJ2 := Aside0.mk HJ; obtain ⟨HGz, hgz⟩ := HJ; have hcz_0 := cellS49_0 HGz; have hfz_0 := blk_frozen HGz 0; have hcz_1 := cellS49_1 HGz; have hfz_1 := blk_frozen HGz 1; have hcz_2 := cellS49_2 HGz; have hfz_2 := blk_frozen HGz 2; have hcz_3 := cellS49_3 HGz; have hfz_3 := blk_frozen HGz 3; have hcz_4 := cellS49_4 HGz; have hfz_4 := blk_frozen HGz 4; have hcz_5 := cellS49_5 HGz; have hfz_5 := blk_frozen HGz 5; have hcz_6 := cellS49_6 HGz; have hfz_6 := blk_frozen HGz 6; have hcz_7 := cellS49_7 HGz; have hfz_7 := blk_frozen HGz 7; have hcz_8 := cellS49_8 HGz; have hfz_8 := blk_frozen HGz 8; have hcz_9 := cellS49_9 HGz; have hfz_9 := blk_frozen HGz 9; have hcz_10 := cellS49_10 HGz; have hfz_10 := blk_frozen HGz 10; have hcz_11 := cellS49_11 HGz; have hfz_11 := blk_frozen HGz 11; have hcz_12 := cellS49_12 HGz; have hfz_12 := blk_frozen HGz 12; clear HGz hgz) | (go_at_call 30; (with_reducible refine (sat_Counter_Up.calls fx fm 1 (up fx fm) fm _ HU.out).mono ?_); rintro e w9 ⟨rfl, hb⟩; have n0_ := Aside0.mk (IsS49.below (show IsS49 w0 _ g f c m n 0 fx fm gx gm cl un tr nw from by repeat (first | (with_reducible first | exact HJ2.out | apply IsS49.alloc | apply IsS49.drewN | apply IsS49.drew | apply IsS49.set_0 | apply IsS49.set_1 | apply IsS49.set_2 | apply IsS49.set_3 | apply IsS49.set_4 | apply IsS49.set_5 | apply IsS49.set_6 | apply IsS49.set_7 | apply IsS49.set_8 | apply IsS49.set_9 | apply IsS49.set_10 | apply IsS49.set_11 | apply IsS49.set_12) | exact HJ2.out)) hb); have n1_ := Aside0.mk (below_step (by repeat (first | (with_reducible first | exact HB.out | apply below_alloc | apply pw_below_drewN | apply below_drew1 | refine below_set ?_ (IsS49.ge HJ2.out)) | exact HB.out)) hb); have n2_ := Aside0.mk (KeepBut.trans (by repeat (first | (with_reducible first | exact HK.out | apply KeepBut.set_ | apply keep_drewN | apply keep_drew | apply keep_alloc) | exact HK.out)) (KeepBut.of_below hb g none) (.inl rfl)); clear HJ2 HB HK hb; have HJ2 := n0_; have HB := n1_; have HK := n2_; clear n0_ n1_ n2_; obtain ⟨HGy, hgy⟩ := HJ2.out; have hcy_0 := cellS49_0 HGy; have hfy_0 := blk_frozen HGy 0; have hcy_1 := cellS49_1 HGy; have hfy_1 := blk_frozen HGy 1; have hcy_2 := cellS49_2 HGy; have hfy_2 := blk_frozen HGy 2; have hcy_3 := cellS49_3 HGy; have hfy_3 := blk_frozen HGy 3; have hcy_4 := cellS49_4 HGy; have hfy_4 := blk_frozen HGy 4; have hcy_5 := cellS49_5 HGy; have hfy_5 := blk_frozen HGy 5; have hcy_6 := cellS49_6 HGy; have hfy_6 := blk_frozen HGy 6; have hcy_7 := cellS49_7 HGy; have hfy_7 := blk_frozen HGy 7; have hcy_8 := cellS49_8 HGy; have hfy_8 := blk_frozen HGy 8; have hcy_9 := cellS49_9 HGy; have hfy_9 := blk_frozen HGy 9; have hcy_10 := cellS49_10 HGy; have hfy_10 := blk_frozen HGy 10; have hcy_11 := cellS49_11 HGy; have hfy_11 := blk_frozen HGy 11; have hcy_12 := cellS49_12 HGy; have hfy_12 := blk_frozen HGy 12; clear HGy hgy) | (go_at_call 31; (with_reducible refine (sat_Counter_Full.calls (up fx fm) fm false _ HV.out).mono ?_); rintro e w9 ⟨rfl, hb⟩; have n0_ := Aside0.mk (IsS49.below (show IsS49 w0 _ g f c m n 0 (up fx fm) fm gx gm cl un tr nw from by repeat (first | (with_reducible first | exact HJ2.out | apply IsS49.alloc | apply IsS49.drewN | apply IsS49.drew | apply IsS49.set_0 | apply IsS49.set_1 | apply IsS49.set_2 | apply IsS49.set_3 | apply IsS49.set_4 | apply IsS49.set_5 | apply IsS49.set_6 | apply IsS49.set_7 | apply IsS49.set_8 | apply IsS49.set_9 | apply IsS49.set_10 | apply IsS49.set_11 | apply IsS49.set_12) | exact HJ2.out)) hb); have n1_ := Aside0.mk (below_step (by repeat (first | (with_reducible first | exact HB.out | apply below_alloc | apply pw_below_drewN | apply below_drew1 | refine below_set ?_ (IsS49.ge HJ2.out)) | exact HB.out)) hb); have n2_ := Aside0.mk (KeepBut.trans (by repeat (first | (with_reducible first | exact HK.out | apply KeepBut.set_ | apply keep_drewN | apply keep_drew | apply keep_alloc) | exact HK.out)) (KeepBut.of_below hb g none) (.inl rfl)); clear HJ2 HB HK hb; have HJ2 := n0_; have HB := n1_; have HK := n2_; clear n0_ n1_ n2_; obtain ⟨HGy, hgy⟩ := HJ2.out; have hcy_0 := cellS49_0 HGy; have hfy_0 := blk_frozen HGy 0; have hcy_1 := cellS49_1 HGy; have hfy_1 := blk_frozen HGy 1; have hcy_2 := cellS49_2 HGy; have hfy_2 := blk_frozen HGy 2; have hcy_3 := cellS49_3 HGy; have hfy_3 := blk_frozen HGy 3; have hcy_4 := cellS49_4 HGy; have hfy_4 := blk_frozen HGy 4; have hcy_5 := cellS49_5 HGy; have hfy_5 := blk_frozen HGy 5; have hcy_6 := cellS49_6 HGy; have hfy_6 := blk_frozen HGy 6; have hcy_7 := cellS49_7 HGy; have hfy_7 := blk_frozen HGy 7; have hcy_8 := cellS49_8 HGy; have hfy_8 := blk_frozen HGy 8; have hcy_9 := cellS49_9 HGy; have hfy_9 := blk_frozen HGy 9; have hcy_10 := cellS49_10 HGy; have hfy_10 := blk_frozen HGy 10; have hcy_11 := cellS49_11 HGy; have hfy_11 := blk_frozen HGy 11; have hcy_12 := cellS49_12 HGy; have hfy_12 := blk_frozen HGy 12; clear HGy hgy))
  first | go_end0 | ((try simp only [Exit.inBlock, Exit.then]); refine bodyPost_ret (results_none rfl _ _ _) rfl ?_)
  exact ⟨rfl, by show IsS49 w0 _ g f c m n 0 (up fx fm) fm gx gm cl un tr nw; repeat (first | (with_reducible first | exact HJ2.out | apply IsS49.alloc | apply IsS49.drewN | apply IsS49.drew | apply IsS49.set_0 | apply IsS49.set_1 | apply IsS49.set_2 | apply IsS49.set_3 | apply IsS49.set_4 | apply IsS49.set_5 | apply IsS49.set_6 | apply IsS49.set_7 | apply IsS49.set_8 | apply IsS49.set_9 | apply IsS49.set_10 | apply IsS49.set_11 | apply IsS49.set_12) | exact HJ2.out), by repeat (first | (with_reducible first | exact HB.out | apply below_alloc | apply pw_below_drewN | apply below_drew1 | refine below_set ?_ (IsS49.ge HJ2.out)) | exact HB.out), by repeat (first | (with_reducible first | exact HK.out | apply KeepBut.set_ | apply keep_drewN | apply keep_drew | apply keep_alloc) | exact HK.out)⟩

set_option maxHeartbeats 4000000 in
set_option maxRecDepth 100000 in
theorem fail_full (g : Nat) (s : B) (a : Int) (hf : 0 < s.f) (w0 w : World) (hI : IsB w0 w g s) (hB : Below w0.heap.size w0 w) (s1 : B) (h1 : laterV s a = s1) (hst : s1.st = 0) (hu : up s1.fx s1.fm = s1.fm) (hc0 : 0 ≤ s1.cl) (hc1 : s1.cl ≤ 4294967296) (ht0 : 0 ≤ s1.nw) (ht1 : s1.nw ≤ 1099511627776) :
    Calls Try.prog 14 #[.pointer (some ⟨g, 0, none⟩), .int .i64 a] w fun e w' => e = .returned (.tuple #[]) ∧ IsB w0 w' g (openV { s1 with fx := up s1.fx s1.fm }) ∧ Below w0.heap.size w0 w' ∧ KeepBut w w' g none := by
  have hu47 := Try.underlying47
  have HI := Aside0.mk hI
  have HB := Aside0.mk hB
  have HK := Aside0.mk (KeepBut.refl w g none)
  clear hI hB
  have HF := Aside0.mk hf
  have hs := fun w1 (hi : IsB w0 w1 g s) (hb : Below w0.heap.size w0 w1) => state_c g s a hf w0 w1 hi hb
  rw [h1] at hs
  have HS := Aside0.mk hs
  clear hs h1 hf
  obtain ⟨f, c, m, n, st, fx, fm, gx, gm, cl, un, tr, nw⟩ := s1
  dsimp only at hst hu hc0 hc1 ht0 ht1
  subst hst
  have HU := Aside0.mk (show sat_Counter_Up.f fx fm 1 = some (up fx fm, fm) from rfl)
  have HV := Aside0.mk (show sat_Counter_Full.f (up fx fm) fm = some true from by unfold sat_Counter_Full.f; rw [show (up fx fm == fm) = true from by simpa using hu])
  clear hu
  obtain ⟨q, hq⟩ : ∃ q, mn (2 * cl) m = q := ⟨_, rfl⟩
  have hq' : (m < 2 * cl ∧ m = q) ∨ (2 * cl ≤ m ∧ 2 * cl = q) := by rw [← hq]; unfold mn; split <;> omega
  have HQ := Aside0.mk hq
  clear hq
  rcases hq' with ⟨hm, rfl⟩ | ⟨hm, rfl⟩
  all_goals
   go_enter Try.func14, Try.ntmps14
   go_wp2_with (first | (go_at_call 27; (with_reducible refine (okm0_c g s HF.out w0 _ HI.out HB.out).mono ?_); rintro e w9 ⟨rfl, hi, hb, hk⟩; have n0_ := Aside0.mk hi; have n1_ := Aside0.mk hb; have n2_ := Aside0.mk (KeepBut.trans HK.out hk (.inl rfl)); clear HI HB HK hi hb hk; have HI := n0_; have HB := n1_; have HK := n2_; clear n0_ n1_ n2_) | ((go_at_call 11; (with_reducible refine (HS.out _ HI.out HB.out).mono ?_); rintro e w9 ⟨rfl, hi, hb, hk⟩; have n0_ := Aside0.mk hi; have n1_ := Aside0.mk hb; have n2_ := Aside0.mk (KeepBut.trans HK.out hk (.inl rfl)); clear HI HB HK hi hb hk; have HI := n0_; have HB := n1_; have HK := n2_; clear n0_ n1_ n2_); have HJ : IsS49 w0 w9 g f c m n 0 fx fm gx gm cl un tr nw := HI.out; have HJ2 := Aside0.mk HJ; obtain ⟨HGz, hgz⟩ := HJ; have hcz_0 := cellS49_0 HGz; have hfz_0 := blk_frozen HGz 0; have hcz_1 := cellS49_1 HGz; have hfz_1 := blk_frozen HGz 1; have hcz_2 := cellS49_2 HGz; have hfz_2 := blk_frozen HGz 2; have hcz_3 := cellS49_3 HGz; have hfz_3 := blk_frozen HGz 3; have hcz_4 := cellS49_4 HGz; have hfz_4 := blk_frozen HGz 4; have hcz_5 := cellS49_5 HGz; have hfz_5 := blk_frozen HGz 5; have hcz_6 := cellS49_6 HGz; have hfz_6 := blk_frozen HGz 6; have hcz_7 := cellS49_7 HGz; have hfz_7 := blk_frozen HGz 7; have hcz_8 := cellS49_8 HGz; have hfz_8 := blk_frozen HGz 8; have hcz_9 := cellS49_9 HGz; have hfz_9 := blk_frozen HGz 9; have hcz_10 := cellS49_10 HGz; have hfz_10 := blk_frozen HGz 10; have hcz_11 := cellS49_11 HGz; have hfz_11 := blk_frozen HGz 11; have hcz_12 := cellS49_12 HGz; have hfz_12 := blk_frozen HGz 12; clear HGz hgz) | (go_at_call 30; (with_reducible refine (sat_Counter_Up.calls fx fm 1 (up fx fm) fm _ HU.out).mono ?_); rintro e w9 ⟨rfl, hb⟩; have n0_ := Aside0.mk (IsS49.below (show IsS49 w0 _ g f c m n 0 fx fm gx gm cl un tr nw from by repeat (first | (with_reducible first | exact HJ2.out | apply IsS49.alloc | apply IsS49.drewN | apply IsS49.drew | apply IsS49.set_0 | apply IsS49.set_1 | apply IsS49.set_2 | apply IsS49.set_3 | apply IsS49.set_4 | apply IsS49.set_5 | apply IsS49.set_6 | apply IsS49.set_7 | apply IsS49.set_8 | apply IsS49.set_9 | apply IsS49.set_10 | apply IsS49.set_11 | apply IsS49.set_12) | exact HJ2.out)) hb); have n1_ := Aside0.mk (below_step (by repeat (first | (with_reducible first | exact HB.out | apply below_alloc | apply pw_below_drewN | apply below_drew1 | refine below_set ?_ (IsS49.ge HJ2.out)) | exact HB.out)) hb); have n2_ := Aside0.mk (KeepBut.trans (by repeat (first | (with_reducible first | exact HK.out | apply KeepBut.set_ | apply keep_drewN | apply keep_drew | apply keep_alloc) | exact HK.out)) (KeepBut.of_below hb g none) (.inl rfl)); clear HJ2 HB HK hb; have HJ2 := n0_; have HB := n1_; have HK := n2_; clear n0_ n1_ n2_; obtain ⟨HGy, hgy⟩ := HJ2.out; have hcy_0 := cellS49_0 HGy; have hfy_0 := blk_frozen HGy 0; have hcy_1 := cellS49_1 HGy; have hfy_1 := blk_frozen HGy 1; have hcy_2 := cellS49_2 HGy; have hfy_2 := blk_frozen HGy 2; have hcy_3 := cellS49_3 HGy; have hfy_3 := blk_frozen HGy 3; have hcy_4 := cellS49_4 HGy; have hfy_4 := blk_frozen HGy 4; have hcy_5 := cellS49_5 HGy; have hfy_5 := blk_frozen HGy 5; have hcy_6 := cellS49_6 HGy; have hfy_6 := blk_frozen HGy 6; have hcy_7 := cellS49_7 HGy; have hfy_7 := blk_frozen HGy 7; have hcy_8 := cellS49_8 HGy; have hfy_8 := blk_frozen HGy 8; have hcy_9 := cellS49_9 HGy; have hfy_9 := blk_frozen HGy 9; have hcy_10 := cellS49_10 HGy; have hfy_10 := blk_frozen HGy 10; have hcy_11 := cellS49_11 HGy; have hfy_11 := blk_frozen HGy 11; have hcy_12 := cellS49_12 HGy; have hfy_12 := blk_frozen HGy 12; clear HGy hgy) | (go_at_call 31; (with_reducible refine (sat_Counter_Full.calls (up fx fm) fm true _ HV.out).mono ?_); rintro e w9 ⟨rfl, hb⟩; have n0_ := Aside0.mk (IsS49.below (show IsS49 w0 _ g f c m n 0 (up fx fm) fm gx gm cl un tr nw from by repeat (first | (with_reducible first | exact HJ2.out | apply IsS49.alloc | apply IsS49.drewN | apply IsS49.drew | apply IsS49.set_0 | apply IsS49.set_1 | apply IsS49.set_2 | apply IsS49.set_3 | apply IsS49.set_4 | apply IsS49.set_5 | apply IsS49.set_6 | apply IsS49.set_7 | apply IsS49.set_8 | apply IsS49.set_9 | apply IsS49.set_10 | apply IsS49.set_11 | apply IsS49.set_12) | exact HJ2.out)) hb); have n1_ := Aside0.mk (below_step (by repeat (first | (with_reducible first | exact HB.out | apply below_alloc | apply pw_below_drewN | apply below_drew1 | refine below_set ?_ (IsS49.ge HJ2.out)) | exact HB.out)) hb); have n2_ := Aside0.mk (KeepBut.trans (by repeat (first | (with_reducible first | exact HK.out | apply KeepBut.set_ | apply keep_drewN | apply keep_drew | apply keep_alloc) | exact HK.out)) (KeepBut.of_below hb g none) (.inl rfl)); clear HJ2 HB HK hb; have HJ2 := n0_; have HB := n1_; have HK := n2_; clear n0_ n1_ n2_; obtain ⟨HGy, hgy⟩ := HJ2.out; have hcy_0 := cellS49_0 HGy; have hfy_0 := blk_frozen HGy 0; have hcy_1 := cellS49_1 HGy; have hfy_1 := blk_frozen HGy 1; have hcy_2 := cellS49_2 HGy; have hfy_2 := blk_frozen HGy 2; have hcy_3 := cellS49_3 HGy; have hfy_3 := blk_frozen HGy 3; have hcy_4 := cellS49_4 HGy; have hfy_4 := blk_frozen HGy 4; have hcy_5 := cellS49_5 HGy; have hfy_5 := blk_frozen HGy 5; have hcy_6 := cellS49_6 HGy; have hfy_6 := blk_frozen HGy 6; have hcy_7 := cellS49_7 HGy; have hfy_7 := blk_frozen HGy 7; have hcy_8 := cellS49_8 HGy; have hfy_8 := blk_frozen HGy 8; have hcy_9 := cellS49_9 HGy; have hfy_9 := blk_frozen HGy 9; have hcy_10 := cellS49_10 HGy; have hfy_10 := blk_frozen HGy 10; have hcy_11 := cellS49_11 HGy; have hfy_11 := blk_frozen HGy 11; have hcy_12 := cellS49_12 HGy; have hfy_12 := blk_frozen HGy 12; clear HGy hgy))
   go_region
   go_wp2_with fail
   go_region
   go_wp2_with fail
   first | go_end0 | ((try simp only [Exit.inBlock, Exit.then]); refine bodyPost_ret (results_none rfl _ _ _) rfl ?_)
   refine ⟨rfl, ?_, by repeat (first | (with_reducible first | exact HB.out | apply below_alloc | apply pw_below_drewN | apply below_drew1 | refine below_set ?_ (IsS49.ge HJ2.out)) | exact HB.out), by repeat (first | (with_reducible first | exact HK.out | apply KeepBut.set_ | apply keep_drewN | apply keep_drew | apply keep_alloc) | exact HK.out)⟩
   show IsS49 w0 _ g f c m n 1 (up fx fm) fm gx gm (mn (2 * cl) m) (nw + cl) tr nw
   rw [HQ.out]
   repeat (first | (with_reducible first | exact HJ2.out | apply IsS49.alloc | apply IsS49.drewN | apply IsS49.drew | apply IsS49.set_0 | apply IsS49.set_1 | apply IsS49.set_2 | apply IsS49.set_3 | apply IsS49.set_4 | apply IsS49.set_5 | apply IsS49.set_6 | apply IsS49.set_7 | apply IsS49.set_8 | apply IsS49.set_9 | apply IsS49.set_10 | apply IsS49.set_11 | apply IsS49.set_12) | exact HJ2.out)

theorem later_cl (s : B) (a : Int) : (laterV s a).cl = s.cl := by unfold laterV; split <;> rfl
theorem later_nw (s : B) (a : Int) : (laterV s a).nw = tick s.nw a := by unfold laterV; split <;> rfl
theorem tick_bd {t a : Int} (h0 : 0 ≤ t) (h1 : t ≤ 1099511627776) : 0 ≤ tick t a ∧ tick t a ≤ 1099511627776 ∧ t ≤ tick t a := by unfold tick mx; (repeat' split) <;> omega
theorem fail_c (g : Nat) (s : B) (a : Int) (hf : 0 < s.f) (hc0 : 0 ≤ s.cl) (hc1 : s.cl ≤ 4294967296) (ht0 : 0 ≤ s.nw) (ht1 : s.nw ≤ 1099511627776) (w0 w : World) (hI : IsB w0 w g s) (hB : Below w0.heap.size w0 w) :
    Calls Try.prog 14 #[.pointer (some ⟨g, 0, none⟩), .int .i64 a] w fun e w' => e = .returned (.tuple #[]) ∧ IsB w0 w' g (failV s a) ∧ Below w0.heap.size w0 w' ∧ KeepBut w w' g none := by
  have b := tick_bd (a := a) ht0 ht1
  have e1 := later_cl s a
  have e2 := later_nw s a
  unfold failV
  by_cases h1 : (laterV s a).st = 1
  · rw [if_pos h1]; exact fail_open g s a hf w0 w hI hB _ rfl h1
  rw [if_neg h1]
  by_cases h0 : (laterV s a).st = 0
  · rw [if_pos h0]
    by_cases hu : up (laterV s a).fx (laterV s a).fm = (laterV s a).fm
    · rw [if_pos hu]; exact fail_full g s a hf w0 w hI hB _ rfl h0 hu (by omega) (by omega) (by omega) (by omega)
    · rw [if_neg hu]; exact fail_few g s a hf w0 w hI hB _ rfl h0 hu
  · rw [if_neg h0]; exact fail_half g s a hf w0 w hI hB _ rfl h1 h0 (by omega) (by omega) (by omega) (by omega)

set_option maxHeartbeats 4000000 in
set_option maxRecDepth 100000 in
theorem rfail_half (g : Nat) (r : R) (a : Int) (w0 w : World) (hI : IsR w0 w g r) (hB : Below w0.heap.size w0 w) (s1 : R) (h1 : rlaterV r a = s1) (hst1 : s1.st ≠ 1) (hst0 : s1.st ≠ 0) (hc0 : 0 ≤ s1.cl) (hc1 : s1.cl ≤ 4294967296) (ht0 : 0 ≤ s1.t) (ht1 : s1.t ≤ 1099511627776) :
    Calls Try.prog 21 #[.pointer (some ⟨g, 0, none⟩), .int .i64 a] w fun e w' => e = .returned (.tuple #[]) ∧ IsR w0 w' g (ropenV s1) ∧ Below w0.heap.size w0 w' ∧ KeepBut w w' g none := by
  have hu23 := Try.underlying23
  have HI := Aside0.mk hI
  have HB := Aside0.mk hB
  have HK := Aside0.mk (KeepBut.refl w g none)
  clear hI hB
  have hs := fun w1 (hi : IsR w0 w1 g r) (hb : Below w0.heap.size w0 w1) => rlater_c g r a w0 w1 hi hb
  rw [h1] at hs
  have HS := Aside0.mk hs
  clear hs h1
  obtain ⟨f, c, m, n, st, ct, cl, un, tr, t⟩ := s1
  dsimp only at hst1 hst0 hc0 hc1 ht0 ht1
  have e1 : (st == 1) = false := beq_eq_false_iff_ne.mpr hst1
  have e2 : (st == 0) = false := beq_eq_false_iff_ne.mpr hst0
  clear hst1 hst0
  obtain ⟨q, hq⟩ : ∃ q, mn (2 * cl) m = q := ⟨_, rfl⟩
  have hq' : (m < 2 * cl ∧ m = q) ∨ (2 * cl ≤ m ∧ 2 * cl = q) := by rw [← hq]; unfold mn; split <;> omega
  have HQ := Aside0.mk hq
  clear hq
  rcases hq' with ⟨hm, rfl⟩ | ⟨hm, rfl⟩
  all_goals
   go_enter Try.func21, Try.ntmps21
   go_wp2_with ((go_at_call 22; (with_reducible refine (HS.out _ HI.out HB.out).mono ?_); rintro e w9 ⟨rfl, hi, hb, hk⟩; have n0_ := Aside0.mk hi; have n1_ := Aside0.mk hb; have n2_ := Aside0.mk (KeepBut.trans HK.out hk (.inl rfl)); clear HI HB HK hi hb hk; have HI := n0_; have HB := n1_; have HK := n2_; clear n0_ n1_ n2_); have HJ : IsS43 w0 w9 g f c m n st ct cl un tr t := HI.out; have HJ2 := Aside0.mk HJ; obtain ⟨HGz, hgz⟩ := HJ; have hcz_0 := cellS43_0 HGz; have hfz_0 := blk_frozen HGz 0; have hcz_1 := cellS43_1 HGz; have hfz_1 := blk_frozen HGz 1; have hcz_2 := cellS43_2 HGz; have hfz_2 := blk_frozen HGz 2; have hcz_3 := cellS43_3 HGz; have hfz_3 := blk_frozen HGz 3; have hcz_4 := cellS43_4 HGz; have hfz_4 := blk_frozen HGz 4; have hcz_5 := cellS43_5 HGz; have hfz_5 := blk_frozen HGz 5; have hcz_6 := cellS43_6 HGz; have hfz_6 := blk_frozen HGz 6; have hcz_7 := cellS43_7 HGz; have hfz_7 := blk_frozen HGz 7; have hcz_8 := cellS43_8 HGz; have hfz_8 := blk_frozen HGz 8; have hcz_9 := cellS43_9 HGz; have hfz_9 := blk_frozen HGz 9; clear HGz hgz)
   go_region
   go_wp2_with fail
   go_region
   go_wp2_with fail
   first | go_end0 | ((try simp only [Exit.inBlock, Exit.then]); refine bodyPost_ret (results_none rfl _ _ _) rfl ?_)
   refine ⟨rfl, ?_, by repeat (first | (with_reducible first | exact HB.out | apply below_alloc | apply pw_below_drewN | apply below_drew1 | refine below_set ?_ (IsS43.ge HJ2.out)) | exact HB.out), by repeat (first | (with_reducible first | exact HK.out | apply KeepBut.set_ | apply keep_drewN | apply keep_drew | apply keep_alloc) | exact HK.out)⟩
   show IsS43 w0 _ g f c m n 1 ct (mn (2 * cl) m) (t + cl) tr t
   rw [HQ.out]
   repeat (first | (with_reducible first | exact HJ2.out | apply IsS43.alloc | apply IsS43.drewN | apply IsS43.drew | apply IsS43.set_0 | apply IsS43.set_1 | apply IsS43.set_2 | apply IsS43.set_3 | apply IsS43.set_4 | apply IsS43.set_5 | apply IsS43.set_6 | apply IsS43.set_7 | apply IsS43.set_8 | apply IsS43.set_9) | exact HJ2.out)

set_option maxHeartbeats 4000000 in
set_option maxRecDepth 100000 in
theorem rfail_open (g : Nat) (r : R) (a : Int) (w0 w : World) (hI : IsR w0 w g r) (hB : Below w0.heap.size w0 w) (s1 : R) (h1 : rlaterV r a = s1) (hst : s1.st = 1) :
    Calls Try.prog 21 #[.pointer (some ⟨g, 0, none⟩), .int .i64 a] w fun e w' => e = .returned (.tuple #[]) ∧ IsR w0 w' g s1 ∧ Below w0.heap.size w0 w' ∧ KeepBut w w' g none := by
  have hu23 := Try.underlying23
  have HI := Aside0.mk hI
  have HB := Aside0.mk hB
  have HK := Aside0.mk (KeepBut.refl w g none)
  clear hI hB
  have hs := fun w1 (hi : IsR w0 w1 g r) (hb : Below w0.heap.size w0 w1) => rlater_c g r a w0 w1 hi hb
  rw [h1] at hs
  have HS := Aside0.mk hs
  clear hs h1
  obtain ⟨f, c, m, n, st, ct, cl, un, tr, t⟩ := s1
  dsimp only at hst
  subst hst
  go_enter Try.func21, Try.ntmps21
  go_wp2_with ((go_at_call 22; (with_reducible refine (HS.out _ HI.out HB.out).mono ?_); rintro e w9 ⟨rfl, hi, hb, hk⟩; have n0_ := Aside0.mk hi; have n1_ := Aside0.mk hb; have n2_ := Aside0.mk (KeepBut.trans HK.out hk (.inl rfl)); clear HI HB HK hi hb hk; have HI := n0_; have HB := n1_; have HK := n2_; clear n0_ n1_ n2_); have HJ : IsS43 w0 w9 g f c m n 1 ct cl un tr t := HI.out; have HJ2 := Aside0.mk HJ; obtain ⟨HGz, hgz⟩ := HJ; have hcz_0 := cellS43_0 HGz; have hfz_0 := blk_frozen HGz 0; have hcz_1 := cellS43_1 HGz; have hfz_1 := blk_frozen HGz 1; have hcz_2 := cellS43_2 HGz; have hfz_2 := blk_frozen HGz 2; have hcz_3 := cellS43_3 HGz; have hfz_3 := blk_frozen HGz 3; have hcz_4 := cellS43_4 HGz; have hfz_4 := blk_frozen HGz 4; have hcz_5 := cellS43_5 HGz; have hfz_5 := blk_frozen HGz 5; have hcz_6 := cellS43_6 HGz; have hfz_6 := blk_frozen HGz 6; have hcz_7 := cellS43_7 HGz; have hfz_7 := blk_frozen HGz 7; have hcz_8 := cellS43_8 HGz; have hfz_8 := blk_frozen HGz 8; have hcz_9 := cellS43_9 HGz; have hfz_9 := blk_frozen HGz 9; clear HGz hgz)
  first | go_end0 | ((try simp only [Exit.inBlock, Exit.then]); refine bodyPost_ret (results_none rfl _ _ _) rfl ?_)
  refine ⟨rfl, ?_, by repeat (first | (with_reducible first | exact HB.out | apply below_alloc | apply pw_below_drewN | apply below_drew1 | refine below_set ?_ (IsS43.ge HJ2.out)) | exact HB.out), by repeat (first | (with_reducible first | exact HK.out | apply KeepBut.set_ | apply keep_drewN | apply keep_drew | apply keep_alloc) | exact HK.out)⟩
  show IsS43 w0 _ g f c m n 1 ct cl un tr t
  repeat (first | (with_reducible first | exact HJ2.out | apply IsS43.alloc | apply IsS43.drewN | apply IsS43.drew | apply IsS43.set_0 | apply IsS43.set_1 | apply IsS43.set_2 | apply IsS43.set_3 | apply IsS43.set_4 | apply IsS43.set_5 | apply IsS43.set_6 | apply IsS43.set_7 | apply IsS43.set_8 | apply IsS43.set_9) | exact HJ2.out)

set_option maxHeartbeats 4000000 in
set_option maxRecDepth 100000 in
theorem rfail_few (g : Nat) (r : R) (a : Int) (w0 w : World) (hI : IsR w0 w g r) (hB : Below w0.heap.size w0 w) (s1 : R) (h1 : rlaterV r a = s1) (hst : s1.st = 0) (hu : s1.ct + 1 < s1.f) (hn0 : 0 ≤ s1.ct) (hn1 : s1.ct ≤ 100000) :
    Calls Try.prog 21 #[.pointer (some ⟨g, 0, none⟩), .int .i64 a] w fun e w' => e = .returned (.tuple #[]) ∧ IsR w0 w' g { s1 with ct := s1.ct + 1 } ∧ Below w0.heap.size w0 w' ∧ KeepBut w w' g none := by
  have hu23 := Try.underlying23
  have HI := Aside0.mk hI
  have HB := Aside0.mk hB
  have HK := Aside0.mk (KeepBut.refl w g none)
  clear hI hB
  have hs := fun w1 (hi : IsR w0 w1 g r) (hb : Below w0.heap.size w0 w1) => rlater_c g r a w0 w1 hi hb
  rw [h1] at hs
  have HS := Aside0.mk hs
  clear hs h1
  obtain ⟨f, c, m, n, st, ct, cl, un, tr, t⟩ := s1
  dsimp only at hst hu hn0 hn1
  subst hst
  go_enter Try.func21, Try.ntmps21
  go_wp2_with ((go_at_call 22; (with_reducible refine (HS.out _ HI.out HB.out).mono ?_); rintro e w9 ⟨rfl, hi, hb, hk⟩; have n0_ := Aside0.mk hi; have n1_ := Aside0.mk hb; have n2_ := Aside0.mk (KeepBut.trans HK.out hk (.inl rfl)); clear HI HB HK hi hb hk; have HI := n0_; have HB := n1_; have HK := n2_; clear n0_ n1_ n2_); have HJ : IsS43 w0 w9 g f c m n 0 ct cl un tr t := HI.out; have HJ2 := Aside0.mk HJ; obtain ⟨HGz, hgz⟩ := HJ; have hcz_0 := cellS43_0 HGz; have hfz_0 := blk_frozen HGz 0; have hcz_1 := cellS43_1 HGz; have hfz_1 := blk_frozen HGz 1; have hcz_2 := cellS43_2 HGz; have hfz_2 := blk_frozen HGz 2; have hcz_3 := cellS43_3 HGz; have hfz_3 := blk_frozen HGz 3; have hcz_4 := cellS43_4 HGz; have hfz_4 := blk_frozen HGz 4; have hcz_5 := cellS43_5 HGz; have hfz_5 := blk_frozen HGz 5; have hcz_6 := cellS43_6 HGz; have hfz_6 := blk_frozen HGz 6; have hcz_7 := cellS43_7 HGz; have hfz_7 := blk_frozen HGz 7; have hcz_8 := cellS43_8 HGz; have hfz_8 := blk_frozen HGz 8; have hcz_9 := cellS43_9 HGz; have hfz_9 := blk_frozen HGz 9; clear HGz hgz)
  go_quiet (fail)
  go_wp2_with fail
  first | go_end0 | ((try simp only [Exit.inBlock, Exit.then]); refine bodyPost_ret (results_none rfl _ _ _) rfl ?_)
  refine ⟨rfl, ?_, by repeat (first | (with_reducible first | exact HB.out | apply below_alloc | apply pw_below_drewN | apply below_drew1 | refine below_set ?_ (IsS43.ge HJ2.out)) | exact HB.out), by repeat (first | (with_reducible first | exact HK.out | apply KeepBut.set_ | apply keep_drewN | apply keep_drew | apply keep_alloc) | exact HK.out)⟩
  show IsS43 w0 _ g f c m n 0 (ct + 1) cl un tr t
  repeat (first | (with_reducible first | exact HJ2.out | apply IsS43.alloc | apply IsS43.drewN | apply IsS43.drew | apply IsS43.set_0 | apply IsS43.set_1 | apply IsS43.set_2 | apply IsS43.set_3 | apply IsS43.set_4 | apply IsS43.set_5 | apply IsS43.set_6 | apply IsS43.set_7 | apply IsS43.set_8 | apply IsS43.set_9) | exact HJ2.out)

set_option maxHeartbeats 4000000 in
set_option maxRecDepth 100000 in
theorem rfail_full (g : Nat) (r : R) (a : Int) (w0 w : World) (hI : IsR w0 w g r) (hB : Below w0.heap.size w0 w) (s1 : R) (h1 : rlaterV r a = s1) (hst : s1.st = 0) (hu : ¬ s1.ct + 1 < s1.f) (hc0 : 0 ≤ s1.cl) (hc1 : s1.cl ≤ 4294967296) (ht0 : 0 ≤ s1.t) (ht1 : s1.t ≤ 1099511627776) (hn0 : 0 ≤ s1.ct) (hn1 : s1.ct ≤ 100000) :
    Calls Try.prog 21 #[.pointer (some ⟨g, 0, none⟩), .int .i64 a] w fun e w' => e = .returned (.tuple #[]) ∧ IsR w0 w' g (ropenV { s1 with ct := s1.ct + 1 }) ∧ Below w0.heap.size w0 w' ∧ KeepBut w w' g none := by
  have hu23 := Try.underlying23
  have HI := Aside0.mk hI
  have HB := Aside0.mk hB
  have HK := Aside0.mk (KeepBut.refl w g none)
  clear hI hB
  have hs := fun w1 (hi : IsR w0 w1 g r) (hb : Below w0.heap.size w0 w1) => rlater_c g r a w0 w1 hi hb
  rw [h1] at hs
  have HS := Aside0.mk hs
  clear hs h1
  obtain ⟨f, c, m, n, st, ct, cl, un, tr, t⟩ := s1
  dsimp only at hst hu hn0 hn1 hc0 hc1 ht0 ht1
  subst hst
  obtain ⟨q, hq⟩ : ∃ q, mn (2 * cl) m = q := ⟨_, rfl⟩
  have hq' : (m < 2 * cl ∧ m = q) ∨ (2 * cl ≤ m ∧ 2 * cl = q) := by rw [← hq]; unfold mn; split <;> omega
  have HQ := Aside0.mk hq
  clear hq
  rcases hq' with ⟨hm, rfl⟩ | ⟨hm, rfl⟩
  all_goals
   go_enter Try.func21, Try.ntmps21
   go_wp2_with ((go_at_call 22; (with_reducible refine (HS.out _ HI.out HB.out).mono ?_); rintro e w9 ⟨rfl, hi, hb, hk⟩; have n0_ := Aside0.mk hi; have n1_ := Aside0.mk hb; have n2_ := Aside0.mk (KeepBut.trans HK.out hk (.inl rfl)); clear HI HB HK hi hb hk; have HI := n0_; have HB := n1_; have HK := n2_; clear n0_ n1_ n2_); have HJ : IsS43 w0 w9 g f c m n 0 ct cl un tr t := HI.out; have HJ2 := Aside0.mk HJ; obtain ⟨HGz, hgz⟩ := HJ; have hcz_0 := cellS43_0 HGz; have hfz_0 := blk_frozen HGz 0; have hcz_1 := cellS43_1 HGz; have hfz_1 := blk_frozen HGz 1; have hcz_2 := cellS43_2 HGz; have hfz_2 := blk_frozen HGz 2; have hcz_3 := cellS43_3 HGz; have hfz_3 := blk_frozen HGz 3; have hcz_4 := cellS43_4 HGz; have hfz_4 := blk_frozen HGz 4; have hcz_5 := cellS43_5 HGz; have hfz_5 := blk_frozen HGz 5; have hcz_6 := cellS43_6 HGz; have hfz_6 := blk_frozen HGz 6; have hcz_7 := cellS43_7 HGz; have hfz_7 := blk_frozen HGz 7; have hcz_8 := cellS43_8 HGz; have hfz_8 := blk_frozen HGz 8; have hcz_9 := cellS43_9 HGz; have hfz_9 := blk_frozen HGz 9; clear HGz hgz)
   go_quiet (fail)
   go_wp2_with fail
   go_region
   go_wp2_with fail
   go_region
   go_wp2_with fail
   first | go_end0 | ((try simp only [Exit.inBlock, Exit.then]); refine bodyPost_ret (results_none rfl _ _ _) rfl ?_)
   refine ⟨rfl, ?_, by repeat (first | (with_reducible first | exact HB.out | apply below_alloc | apply pw_below_drewN | apply below_drew1 | refine below_set ?_ (IsS43.ge HJ2.out)) | exact HB.out), by repeat (first | (with_reducible first | exact HK.out | apply KeepBut.set_ | apply keep_drewN | apply keep_drew | apply keep_alloc) | exact HK.out)⟩
   show IsS43 w0 _ g f c m n 1 (ct + 1) (mn (2 * cl) m) (t + cl) tr t
   rw [HQ.out]
   repeat (first | (with_reducible first | exact HJ2.out | apply IsS43.alloc | apply IsS43.drewN | apply IsS43.drew | apply IsS43.set_0 | apply IsS43.set_1 | apply IsS43.set_2 | apply IsS43.set_3 | apply IsS43.set_4 | apply IsS43.set_5 | apply IsS43.set_6 | apply IsS43.set_7 | apply IsS43.set_8 | apply IsS43.set_9) | exact HJ2.out)

theorem rlater_cl (r : R) (a : Int) : (rlaterV r a).cl = r.cl := by unfold rlaterV; dsimp only; (repeat' split) <;> rfl
theorem rlater_t (r : R) (a : Int) : (rlaterV r a).t = tick r.t a := by unfold rlaterV tick mx; dsimp only; (repeat' split) <;> dsimp only <;> omega
theorem rlater_ct (r : R) (a : Int) : (rlaterV r a).ct = r.ct ∨ (rlaterV r a).ct = 0 := by
  unfold rlaterV; dsimp only
  by_cases h : r.st = 1 ∧ (if a > r.t ∧ a ≤ 1099511627776 then a else r.t) ≥ r.un
  · rw [if_pos h]; exact .inr rfl
  · rw [if_neg h]; exact .inl rfl
theorem rfail_c (g : Nat) (r : R) (a : Int) (hc0 : 0 ≤ r.cl) (hc1 : r.cl ≤ 4294967296) (ht0 : 0 ≤ r.t) (ht1 : r.t ≤ 1099511627776) (hn0 : 0 ≤ r.ct) (hn1 : r.ct ≤ 100000) (w0 w : World) (hI : IsR w0 w g r) (hB : Below w0.heap.size w0 w) :
    Calls Try.prog 21 #[.pointer (some ⟨g, 0, none⟩), .int .i64 a] w fun e w' => e = .returned (.tuple #[]) ∧ IsR w0 w' g (rfailV r a) ∧ Below w0.heap.size w0 w' ∧ KeepBut w w' g none := by
  have b := tick_bd (a := a) ht0 ht1
  have e1 := rlater_cl r a
  have e2 := rlater_t r a
  have e3 := rlater_ct r a
  unfold rfailV
  by_cases h1 : (rlaterV r a).st = 1
  · rw [if_pos h1]; exact rfail_open g r a w0 w hI hB _ rfl h1
  rw [if_neg h1]
  by_cases h0 : (rlaterV r a).st = 0
  · rw [if_pos h0]
    by_cases hu : (rlaterV r a).ct + 1 < (rlaterV r a).f
    · rw [if_pos hu]; exact rfail_few g r a w0 w hI hB _ rfl h0 hu (by omega) (by omega)
    · rw [if_neg hu]; exact rfail_full g r a w0 w hI hB _ rfl h0 hu (by omega) (by omega) (by omega) (by omega) (by omega) (by omega)
  · rw [if_neg h0]; exact rfail_half g r a w0 w hI hB _ rfl h1 h0 (by omega) (by omega) (by omega) (by omega)

end Go.Proofs.Ytkpablemeaaeoaa.Brk
