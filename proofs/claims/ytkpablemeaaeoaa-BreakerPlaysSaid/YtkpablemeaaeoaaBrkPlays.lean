/- BreakerPlays: a breaker answers every call, in every order, at every time, as the document says; the walk; no condition but that numbers are of their kinds. -/
import Derived.Test.YtkpablemeaaeoaaBrkSim
import Derived.LoopTactic
import Derived.Deep.DeepCutAuto
import Derived.Deep.CutBlock
import Derived.Deep.RegionHeld3
namespace Go.Proofs.Ytkpablemeaaeoaa.Brk
set_option linter.unusedVariables false
set_option linter.unusedSimpArgs false
open Go.RowKit Go.Proofs.Ytkpablemeaaeoaa.PA Go.Proofs.YtkpablemeaaeoaaW.PrintWords Go.Proofs.YtkpablemeaaeoaaW.PrintLast Go.Proofs.YtkpablemeaaeoaaW.PrintMore Go.Proofs.Ytkpablemeaaeoaa.Base
attribute [local go_sem] max2_int min2_int max_two min_two max_three min_three max_four min_four
theorem may_c (f c m n : Int) (b : Bool) (hb : decide (Valid f c m n) = b) (w : World) : Calls Try.prog 17 #[.agg #[.int .i64 f, .int .i64 c, .int .i64 m, .int .i64 n]] w fun e w' => e = .returned (.bool b) ∧ Below w.heap.size w w' := by
  refine garboardref22_May.calls f c m n b w ?_
  rw [← hb]
  unfold garboardref22_May.f
  by_cases h1 : f ≥ 1 <;> by_cases h2 : f ≤ 1000 <;> by_cases h3 : c ≥ 1 <;> by_cases h4 : c ≤ m <;> by_cases h5 : m ≤ 4294967296 <;> by_cases h6 : n ≥ 1 <;> by_cases h7 : n ≤ 1000 <;>
    simp only [h1, h2, h3, h4, h5, h6, h7, if_true, if_false, decide_true, decide_false] <;> (refine congrArg some ?_; symm; first | (rw [decide_eq_true_iff]; unfold Valid; omega) | (rw [decide_eq_false_iff_not]; unfold Valid; omega))
theorem rnew_c (f c m n : Int) (w : World) : Calls Try.prog 18 #[.agg #[.int .i64 f, .int .i64 c, .int .i64 m, .int .i64 n]] w fun e w' => e = .returned (.agg #[.int .i64 f, .int .i64 c, .int .i64 m, .int .i64 n, .int .i64 0, .int .i64 0, .int .i64 c, .int .i64 0, .bool false, .int .i64 0]) ∧ Below w.heap.size w w' :=
  garboardref22_New.calls f c m n f c m n 0 0 c 0 false 0 w rfl
theorem rlater_later (r : R) (a : Int) : rlaterV (rlaterV r a) a = rlaterV r a := by
  rw [rlaterV_eq r a]
  by_cases h : r.st = 1 ∧ r.un ≤ tick r.t a
  · rw [if_pos h, rlaterV_eq, if_neg (by show ¬ ((2 : Int) = 1 ∧ _); omega)]
    show { r with st := 2, ct := 0, tr := false, t := tick (tick r.t a) a } = _
    rw [tick_tick]
  · rw [if_neg h, rlaterV_eq, if_neg (by show ¬ (r.st = 1 ∧ r.un ≤ tick (tick r.t a) a); rw [tick_tick]; exact h)]
    show { r with t := tick (tick r.t a) a } = _
    rw [tick_tick]
theorem rlater_e (g : Nat) (r r' : R) (a : Int) (h : rlaterV r a = r') (w0 w : World) (hI : IsR w0 w g r) (hB : Below w0.heap.size w0 w) :
    Calls Try.prog 22 #[.pointer (some ⟨g, 0, none⟩), .int .i64 a] w fun e w' => e = .returned (.tuple #[]) ∧ IsR w0 w' g r' ∧ Below w0.heap.size w0 w' ∧ KeepBut w w' g none := by
  have := rlater_c g r a w0 w hI hB; rw [h] at this; exact this
theorem rallow_e (g : Nat) (r r' : R) (a : Int) (b : Bool) (h : rallowV r a = (b, r')) (w0 w : World) (hI : IsR w0 w g r) (hB : Below w0.heap.size w0 w) :
    Calls Try.prog 19 #[.pointer (some ⟨g, 0, none⟩), .int .i64 a] w fun e w' => e = .returned (.bool b) ∧ IsR w0 w' g r' ∧ Below w0.heap.size w0 w' ∧ KeepBut w w' g none := by
  have := rallow_c g r a w0 w hI hB; rw [h] at this; exact this
theorem rok_e (g : Nat) (r r' : R) (a : Int) (h : rokV r a = r') (w0 w : World) (hI : IsR w0 w g r) (hB : Below w0.heap.size w0 w) :
    Calls Try.prog 20 #[.pointer (some ⟨g, 0, none⟩), .int .i64 a] w fun e w' => e = .returned (.tuple #[]) ∧ IsR w0 w' g r' ∧ Below w0.heap.size w0 w' ∧ KeepBut w w' g none := by
  have := rok_c g r a w0 w hI hB; rw [h] at this; exact this
theorem rleave_e (g : Nat) (r r' : R) (a : Int) (h : rleaveV r a = r') (w0 w : World) (hI : IsR w0 w g r) (hB : Below w0.heap.size w0 w) :
    Calls Try.prog 23 #[.pointer (some ⟨g, 0, none⟩), .int .i64 a] w fun e w' => e = .returned (.tuple #[]) ∧ IsR w0 w' g r' ∧ Below w0.heap.size w0 w' ∧ KeepBut w w' g none := by
  have := rleave_c g r a w0 w hI hB; rw [h] at this; exact this
theorem sim_bd {f c m n : Int} {s : B} {r : R} (hv : Valid f c m n) (h : Sim f c m n s r) : 0 ≤ r.cl ∧ r.cl ≤ 4294967296 ∧ 0 ≤ r.t ∧ r.t ≤ 1099511627776 ∧ 0 ≤ r.ct ∧ r.ct ≤ 100000 := by
  obtain ⟨⟨hf, hc, hm, hn, n0, c0, c1⟩, rf, rc, rm, rn, est, ecl, et, t1, st⟩ := h
  obtain ⟨v1, v2, v3, v4, v5, v6, v7⟩ := hv
  omega
theorem rfail_e {f c m n : Int} (g : Nat) (s : B) (r r' : R) (a : Int) (hv : Valid f c m n) (hs : Sim f c m n s r) (h : rfailV r a = r') (w0 w : World) (hI : IsR w0 w g r) (hB : Below w0.heap.size w0 w) :
    Calls Try.prog 21 #[.pointer (some ⟨g, 0, none⟩), .int .i64 a] w fun e w' => e = .returned (.tuple #[]) ∧ IsR w0 w' g r' ∧ Below w0.heap.size w0 w' ∧ KeepBut w w' g none := by
  obtain ⟨b1, b2, b3, b4, b5, b6⟩ := sim_bd hv hs
  have := rfail_c g r a b1 b2 b3 b4 b5 b6 w0 w hI hB; rw [h] at this; exact this
theorem fail_m {f c m n : Int} (g : Nat) (s s' : B) (r : R) (a : Int) (hv : Valid f c m n) (hs : Sim f c m n s r) (h : failV s a = s') (w0 w : World) (hI : IsB w0 w g s) (hB : Below w0.heap.size w0 w) :
    Calls Try.prog 14 #[.pointer (some ⟨g, 0, none⟩), .int .i64 a] w fun e w' => e = .returned (.tuple #[]) ∧ IsB w0 w' g s' ∧ Below w0.heap.size w0 w' ∧ KeepBut w w' g none :=
  fail_s g s s' f c m n a hv hs.cst hs.t1 h w0 w hI hB
set_option maxHeartbeats 1000000 in
set_option maxRecDepth 100000 in
theorem plays_no (f c m n : Int) (A : Option Addr) (cp : Nat) (l : List (Int × Int)) (hv : ¬ Valid f c m n) (w : World) :
    Calls Try.prog 5 #[.agg #[.int .i64 f, .int .i64 c, .int .i64 m, .int .i64 n], .slice A l.length cp] w fun e w' => e = .returned (.bool true) ∧ Below w.heap.size w w' := by
  have HV := Aside0.mk hv
  have HM := Aside0.mk (show decide (Valid f c m n) = false from decide_eq_false hv)
  clear hv
  have HB := Aside0.mk (below_alloc (Below.refl w.heap.size w) (.cells #[.int .i64 f, .int .i64 c, .int .i64 m, .int .i64 n] 23 (0, 0)))
  have HG := Aside0.mk (show Box (w.alloc (.cells #[.int .i64 f, .int .i64 c, .int .i64 m, .int .i64 n] 23 (0, 0))) w.heap.size f c m n from blk_new _ _)
  have hu23 := Try.underlying23
  go_enter Try.func5, Try.ntmps5
  go_wp2_with (first | (go_at_call 8; (with_reducible refine (theirs_c f c m n _).mono ?_); rintro e w9 ⟨rfl, hb⟩; have n1_ := Aside0.mk (below_step HB.out hb); have n3_ := Aside0.mk (HG.out.below hb);  clear HB HG hb; have HB := n1_; have HG := n3_; clear n1_ n3_; obtain ⟨hg0, hg1, hg2, hg3⟩ := HG.out.read) | (go_at_call 7; (with_reducible refine (new_no f c m n HV.out _).mono ?_); rintro e w2 ⟨rfl, hb⟩; have n1_ := Aside0.mk (below_step HB.out hb); have n2_ := Aside0.mk (HG.out.below hb); clear HB HG hb; have HB := n1_; have HG := n2_; clear n1_ n2_; obtain ⟨hg0, hg1, hg2, hg3⟩ := HG.out.read) | (go_at_call 17; (with_reducible refine (may_c f c m n false HM.out _).mono ?_); rintro e w9 ⟨rfl, hb⟩; have n1_ := Aside0.mk (below_step HB.out hb); have n3_ := Aside0.mk (HG.out.below hb);  clear HB HG hb; have HB := n1_; have HG := n3_; clear n1_ n3_; obtain ⟨hg0, hg1, hg2, hg3⟩ := HG.out.read) | (go_at_call 9; (with_reducible refine (alive_c _).mono ?_); rintro e w9 ⟨rfl, hb⟩; have n1_ := Aside0.mk (below_step HB.out hb); clear HB hb; have HB := n1_; clear n1_))
  go_ret
  exact ⟨rfl, HB.out⟩
set_option maxHeartbeats 8000000 in
set_option maxRecDepth 100000 in
theorem plays_ok (f c m n : Int) (A : Option Addr) (cp : Nat) (l : List (Int × Int)) (hv : Valid f c m n) (w : World) (hr : Row w A l) (hc : l.length ≤ cp) (hm : l.length ≤ 9223372036854775807) (hk : ∀ p ∈ l, 0 ≤ p.1 ∧ p.1 ≤ 255) :
    Calls Try.prog 5 #[.agg #[.int .i64 f, .int .i64 c, .int .i64 m, .int .i64 n], .slice A l.length cp] w fun e w' => e = .returned (.bool true) ∧ Below w.heap.size w w' := by
  have HV := Aside0.mk hv
  have HM := Aside0.mk hm
  have HMV := Aside0.mk (show decide (Valid f c m n) = true from decide_eq_true hv)
  have HC := Aside0.mk hc
  have HRW := Aside0.mk hr
  have HK := Aside0.mk hk
  clear hr hc hm hk
  have HB := Aside0.mk (below_alloc (Below.refl w.heap.size w) (.cells #[.int .i64 f, .int .i64 c, .int .i64 m, .int .i64 n] 23 (0, 0)))
  have HG := Aside0.mk (show Box (w.alloc (.cells #[.int .i64 f, .int .i64 c, .int .i64 m, .int .i64 n] 23 (0, 0))) w.heap.size f c m n from blk_new _ _)
  have hu23 := Try.underlying23
  have hu34 := Try.underlying34
  have hu43 := Try.underlying43
  obtain ⟨i0, hi0, _, hs0, _⟩ := info_parts info34
  go_enter Try.func5, Try.ntmps5
  go_wp2_with (first | (go_at_call 8; (with_reducible refine (theirs_c f c m n _).mono ?_); rintro e w9 ⟨rfl, hb⟩; have n1_ := Aside0.mk (below_step HB.out hb); have n3_ := Aside0.mk (HG.out.below hb);  clear HB HG hb; have HB := n1_; have HG := n3_; clear n1_ n3_; obtain ⟨hg0, hg1, hg2, hg3⟩ := HG.out.read) | (go_at_call 7; (with_reducible refine (new_ok f c m n HV.out _).mono ?_); rintro e w2 ⟨g, rfl, hi, hb⟩; have n0_ := Aside0.mk (hi.lower HB.out.size); have HN := Aside0.mk (show w.heap.size ≠ g from Nat.ne_of_lt (Nat.lt_of_lt_of_le (blk_lt HG.out) hi.2)); have n1_ := Aside0.mk (below_step HB.out hb); have n2_ := Aside0.mk (HG.out.below hb); clear HB HG hb hi; have HI := n0_; have HB := n1_; have HG := n2_; clear n0_ n1_ n2_; obtain ⟨hg0, hg1, hg2, hg3⟩ := HG.out.read) | (go_at_call 17; (with_reducible refine (may_c f c m n true HMV.out _).mono ?_); rintro e w9 ⟨rfl, hb⟩; have n1_ := Aside0.mk (below_step HB.out hb); have n3_ := Aside0.mk (HG.out.below hb); have n4_ := Aside0.mk (HI.out.below hb); clear HI; have HI := n4_; clear n4_;  clear HB HG hb; have HB := n1_; have HG := n3_; clear n1_ n3_; obtain ⟨hg0, hg1, hg2, hg3⟩ := HG.out.read) | (go_at_call 18; (with_reducible refine (rnew_c f c m n _).mono ?_); rintro e w9 ⟨rfl, hb⟩; have n1_ := Aside0.mk (below_step HB.out hb); have n3_ := Aside0.mk (HG.out.below hb); have n4_ := Aside0.mk (HI.out.below hb); clear HI; have HI := n4_; clear n4_;  clear HB HG hb; have HB := n1_; have HG := n3_; clear n1_ n3_; obtain ⟨hg0, hg1, hg2, hg3⟩ := HG.out.read) | (go_at_call 10; (with_reducible refine (short_c A l.length cp HC.out HM.out _).mono ?_); rintro e w3 ⟨rfl, rfl⟩))
  have HR0 := Aside0.mk (show IsR w (w9.alloc (.cells #[.int .i64 f, .int .i64 c, .int .i64 m, .int .i64 n, .int .i64 0, .int .i64 0, .int .i64 c, .int .i64 0, .bool false, .int .i64 0] 43 (0, 0))) w9.heap.size (newR f c m n 0) from ⟨blk_new _ _, HB.out.size⟩)
  have HNR := Aside0.mk (show g ≠ w9.heap.size from Nat.ne_of_lt (IsS49.lt HI.out))
  have HNG := Aside0.mk (show w.heap.size ≠ w9.heap.size from Nat.ne_of_lt (blk_lt HG.out))
  have HI0 := Aside0.mk (show IsB w (w9.alloc (.cells #[.int .i64 f, .int .i64 c, .int .i64 m, .int .i64 n, .int .i64 0, .int .i64 0, .int .i64 c, .int .i64 0, .bool false, .int .i64 0] 43 (0, 0))) g (newB f c m n) from IsS49.alloc HI.out _)
  have HB0 := Aside0.mk (below_alloc HB.out (.cells #[.int .i64 f, .int .i64 c, .int .i64 m, .int .i64 n, .int .i64 0, .int .i64 0, .int .i64 c, .int .i64 0, .bool false, .int .i64 0] 43 (0, 0)))
  have HG0 := Aside0.mk (show Box (w9.alloc (.cells #[.int .i64 f, .int .i64 c, .int .i64 m, .int .i64 n, .int .i64 0, .int .i64 0, .int .i64 c, .int .i64 0, .bool false, .int .i64 0] 43 (0, 0))) w.heap.size f c m n from blk_alloc HG.out _)
  clear HI HB HG
  generalize w9.heap.size = gr at HR0 HNR HNG ⊢
  obtain ⟨L, hL⟩ : ∃ L, min l.length 400 = L := ⟨_, rfl⟩
  rw [hL]
  have HL := Aside0.mk (show L ≤ l.length ∧ L ≤ 400 from by omega)
  clear hL hg0 hg1 hg2 hg3
  go_loopw [44] (fun vi wr => ∃ (i : Nat) (s : B) (r : R), vi = .int .i64 i ∧ Aside0 (i ≤ L) ∧ Aside0 (Sim f c m n s r) ∧ Aside0 (IsB w wr g s) ∧ Aside0 (IsR w wr gr r) ∧ Aside0 (Below w.heap.size w wr) ∧ Aside0 (Box wr w.heap.size f c m n)) (fun vi _ => (L - intOf vi).toNat)
  case atStart => exact ⟨0, _, _, rfl, ⟨by omega⟩, ⟨sim_new hv⟩, HI0, HR0, HB0, HG0⟩
  case round =>
    clear HI0 HR0 HB0 HG0
    obtain ⟨i, s, r, rfl, HIL, HS, HI, HR, HB, HG⟩ := hrel
    have l1 := HL.out.2
    have l2 := HIL.out
    by_cases hlt : i < L
    · obtain ⟨x, hx⟩ : ∃ x, l[i]? = some x := ⟨_, List.getElem?_eq_getElem (show i < l.length by have := HL.out.1; omega)⟩
      obtain ⟨a, rfl, h0, h1⟩ := HRW.out i x hx
      have k0 := pw_cell_below HB.out h0
      have k1 := pw_cell_below HB.out h1
      rw [add_field a (i * 2) 1 (by decide)] at k1
      clear h0 h1
      obtain ⟨kx0, kx1⟩ := HK.out x (List.mem_of_getElem? hx)
      clear hx
      have hrc9 := cellS43_9 (IsS43.alloc HR.out (.cells #[.int .u8 x.1, .int .i64 x.2] 34 (0, 0))).1
      go_upto_region 9 with (fail)
      go_cut [57] (fun s57 wx => s57 = .bool (decide (-100000 < x.2 ∧ x.2 < 1125899906842624)) ∧ wx = wr.alloc (.cells #[.int .u8 x.1, .int .i64 x.2] 34 (0, 0)))
      case first =>
        go_wp2_with fail
        all_goals go_meet
        all_goals exact ⟨by simp; omega, rfl⟩
      case rest =>
        obtain ⟨rfl, rfl⟩ := hcut
        go_upto_if 57 with (fail)
        go_cut [10] (fun s10 wx => ∃ now : Int, s10 = .int .i64 now ∧ wx = wr.alloc (.cells #[.int .u8 x.1, .int .i64 x.2] 34 (0, 0)))
        case first =>
          have bd := sim_bd hv HS.out
          obtain ⟨-, -, bd1, bd2, -, -⟩ := bd
          by_cases hq : -100000 < x.2 ∧ x.2 < 1125899906842624
          · rw [decide_eq_true hq]
            obtain ⟨hq0, hq1⟩ := hq
            go_wp2_with fail
            go_meet
            exact ⟨_, rfl, rfl⟩
          · rw [decide_eq_false hq]
            go_wp2_with fail
            go_meet
            exact ⟨_, rfl, rfl⟩
        case rest =>
          obtain ⟨now, rfl, rfl⟩ := hcut
          have n0_ := Aside0.mk (show IsB w (wr.alloc (.cells #[.int .u8 x.1, .int .i64 x.2] 34 (0, 0))) g s from IsS49.alloc HI.out _)
          have n1_ := Aside0.mk (below_alloc HB.out (.cells #[.int .u8 x.1, .int .i64 x.2] 34 (0, 0)))
          have n2_ := Aside0.mk (show IsR w (wr.alloc (.cells #[.int .u8 x.1, .int .i64 x.2] 34 (0, 0))) gr r from IsS43.alloc HR.out _)
          have n3_ := Aside0.mk (show Box (wr.alloc (.cells #[.int .u8 x.1, .int .i64 x.2] 34 (0, 0))) w.heap.size f c m n from blk_alloc HG.out _)
          clear HI HB HR HG k0 k1 hrc9
          have HI := n0_; have HB := n1_; have HR := n2_; have HG := n3_
          clear n0_ n1_ n2_ n3_
          have P0 := Aside0.mk (pos_of hv HS.out.cst)
          go_upto_block 2 with (fail)
          go_cut [4, 10, 11] from 62 to 106 (fun s4 s10 s11 wx => ∃ (now : Int) (s2 : B) (r2 : R), s10 = .int .i64 now ∧ Aside0 (0 < s2.f) ∧ Aside0 (Sim f c m n (laterV s2 now) (rlaterV r2 now)) ∧ Aside0 (IsB w wx g s2) ∧ Aside0 (IsR w wx gr r2) ∧ Aside0 (Below w.heap.size w wx) ∧ Aside0 (Box wx w.heap.size f c m n))
          case first =>
            have hq : x.1 % 6 = 0 ∨ x.1 % 6 = 1 ∨ x.1 % 6 = 2 ∨ x.1 % 6 = 5 ∨ x.1 % 6 = 3 ∨ x.1 % 6 = 4 := by omega
            rcases hq with hq | hq | hq | hq | hq | hq
            · obtain ⟨za, sm⟩ := sim_allow HV.out HS.out now
              obtain ⟨b, s2, ea⟩ : ∃ b s2, allowV s now = (b, s2) := ⟨_, _, rfl⟩
              obtain ⟨b', r2, eb⟩ : ∃ b r2, rallowV r now = (b, r2) := ⟨_, _, rfl⟩
              rw [ea, eb] at sm za
              dsimp only at za sm
              subst za
              have EA := Aside0.mk ea; have EB := Aside0.mk eb; have SM := Aside0.mk sm
              clear ea eb sm
              cases b
              all_goals
               go_wp2_with (first | (go_at_call 12; (with_reducible refine (allow_e g s s2 now _ P0.out EA.out w _ HI.out HB.out).mono ?_); rintro e w9 ⟨rfl, hi, hb, hk⟩; have n0_ := Aside0.mk hi; have n1_ := Aside0.mk hb; have n2_ := Aside0.mk (HR.out.keep hk HNR.out.symm); have n3_ := Aside0.mk (HG.out.keep hk HN.out); clear HI HB HR HG hi hb hk; have HI := n0_; have HB := n1_; have HR := n2_; have HG := n3_; clear n0_ n1_ n2_ n3_; have hrc4 := cellS43_4 HR.out.1; have hrc6 := cellS43_6 HR.out.1; have hrc9 := cellS43_9 HR.out.1) | (go_at_call 19; (with_reducible refine (rallow_e gr r r2 now _ EB.out w _ HR.out HB.out).mono ?_); rintro e w9 ⟨rfl, hi, hb, hk⟩; have n0_ := Aside0.mk (HI.out.keep hk HNR.out); have n1_ := Aside0.mk hb; have n2_ := Aside0.mk hi; have n3_ := Aside0.mk (HG.out.keep hk HNG.out); clear HI HB HR HG hi hb hk; have HI := n0_; have HB := n1_; have HR := n2_; have HG := n3_; clear n0_ n1_ n2_ n3_; have hrc4 := cellS43_4 HR.out.1; have hrc6 := cellS43_6 HR.out.1; have hrc9 := cellS43_9 HR.out.1))
               go_meet
               exact ⟨now, s2, r2, rfl, ⟨pos_of HV.out SM.out.cst⟩, ⟨sim_later HV.out SM.out now⟩, HI, HR, HB, HG⟩
            · obtain ⟨s2, ea⟩ : ∃ s2, okV s now = s2 := ⟨_, rfl⟩
              obtain ⟨r2, eb⟩ : ∃ r2, rokV r now = r2 := ⟨_, rfl⟩
              have sm := sim_ok HV.out HS.out now
              rw [ea, eb] at sm
              have EA := Aside0.mk ea; have EB := Aside0.mk eb; have SM := Aside0.mk sm
              clear ea eb sm
              go_wp2_with (first | (go_at_call 13; (with_reducible refine (okm_e g s s2 now P0.out EA.out w _ HI.out HB.out).mono ?_); rintro e w9 ⟨rfl, hi, hb, hk⟩; have n0_ := Aside0.mk hi; have n1_ := Aside0.mk hb; have n2_ := Aside0.mk (HR.out.keep hk HNR.out.symm); have n3_ := Aside0.mk (HG.out.keep hk HN.out); clear HI HB HR HG hi hb hk; have HI := n0_; have HB := n1_; have HR := n2_; have HG := n3_; clear n0_ n1_ n2_ n3_; have hrc4 := cellS43_4 HR.out.1; have hrc6 := cellS43_6 HR.out.1; have hrc9 := cellS43_9 HR.out.1) | (go_at_call 20; (with_reducible refine (rok_e gr r r2 now EB.out w _ HR.out HB.out).mono ?_); rintro e w9 ⟨rfl, hi, hb, hk⟩; have n0_ := Aside0.mk (HI.out.keep hk HNR.out); have n1_ := Aside0.mk hb; have n2_ := Aside0.mk hi; have n3_ := Aside0.mk (HG.out.keep hk HNG.out); clear HI HB HR HG hi hb hk; have HI := n0_; have HB := n1_; have HR := n2_; have HG := n3_; clear n0_ n1_ n2_ n3_; have hrc4 := cellS43_4 HR.out.1; have hrc6 := cellS43_6 HR.out.1; have hrc9 := cellS43_9 HR.out.1))
              go_meet
              exact ⟨now, s2, r2, rfl, ⟨pos_of HV.out SM.out.cst⟩, ⟨sim_later HV.out SM.out now⟩, HI, HR, HB, HG⟩
            · obtain ⟨s2, ea⟩ : ∃ s2, failV s now = s2 := ⟨_, rfl⟩
              obtain ⟨r2, eb⟩ : ∃ r2, rfailV r now = r2 := ⟨_, rfl⟩
              have sm := sim_fail HV.out HS.out now
              rw [ea, eb] at sm
              have EA := Aside0.mk ea; have EB := Aside0.mk eb; have SM := Aside0.mk sm
              clear ea eb sm
              go_wp2_with (first | (go_at_call 14; (with_reducible refine (fail_m g s s2 r now HV.out HS.out EA.out w _ HI.out HB.out).mono ?_); rintro e w9 ⟨rfl, hi, hb, hk⟩; have n0_ := Aside0.mk hi; have n1_ := Aside0.mk hb; have n2_ := Aside0.mk (HR.out.keep hk HNR.out.symm); have n3_ := Aside0.mk (HG.out.keep hk HN.out); clear HI HB HR HG hi hb hk; have HI := n0_; have HB := n1_; have HR := n2_; have HG := n3_; clear n0_ n1_ n2_ n3_; have hrc4 := cellS43_4 HR.out.1; have hrc6 := cellS43_6 HR.out.1; have hrc9 := cellS43_9 HR.out.1) | (go_at_call 21; (with_reducible refine (rfail_e gr s r r2 now HV.out HS.out EB.out w _ HR.out HB.out).mono ?_); rintro e w9 ⟨rfl, hi, hb, hk⟩; have n0_ := Aside0.mk (HI.out.keep hk HNR.out); have n1_ := Aside0.mk hb; have n2_ := Aside0.mk hi; have n3_ := Aside0.mk (HG.out.keep hk HNG.out); clear HI HB HR HG hi hb hk; have HI := n0_; have HB := n1_; have HR := n2_; have HG := n3_; clear n0_ n1_ n2_ n3_; have hrc4 := cellS43_4 HR.out.1; have hrc6 := cellS43_6 HR.out.1; have hrc9 := cellS43_9 HR.out.1))
              go_meet
              exact ⟨now, s2, r2, rfl, ⟨pos_of HV.out SM.out.cst⟩, ⟨sim_later HV.out SM.out now⟩, HI, HR, HB, HG⟩
            · obtain ⟨s2, ea⟩ : ∃ s2, leaveV s now = s2 := ⟨_, rfl⟩
              obtain ⟨r2, eb⟩ : ∃ r2, rleaveV r now = r2 := ⟨_, rfl⟩
              have sm := sim_leave HV.out HS.out now
              rw [ea, eb] at sm
              have EA := Aside0.mk ea; have EB := Aside0.mk eb; have SM := Aside0.mk sm
              clear ea eb sm
              go_wp2_with (first | (go_at_call 15; (with_reducible refine (leave_e g s s2 now P0.out EA.out w _ HI.out HB.out).mono ?_); rintro e w9 ⟨rfl, hi, hb, hk⟩; have n0_ := Aside0.mk hi; have n1_ := Aside0.mk hb; have n2_ := Aside0.mk (HR.out.keep hk HNR.out.symm); have n3_ := Aside0.mk (HG.out.keep hk HN.out); clear HI HB HR HG hi hb hk; have HI := n0_; have HB := n1_; have HR := n2_; have HG := n3_; clear n0_ n1_ n2_ n3_; have hrc4 := cellS43_4 HR.out.1; have hrc6 := cellS43_6 HR.out.1; have hrc9 := cellS43_9 HR.out.1) | (go_at_call 23; (with_reducible refine (rleave_e gr r r2 now EB.out w _ HR.out HB.out).mono ?_); rintro e w9 ⟨rfl, hi, hb, hk⟩; have n0_ := Aside0.mk (HI.out.keep hk HNR.out); have n1_ := Aside0.mk hb; have n2_ := Aside0.mk hi; have n3_ := Aside0.mk (HG.out.keep hk HNG.out); clear HI HB HR HG hi hb hk; have HI := n0_; have HB := n1_; have HR := n2_; have HG := n3_; clear n0_ n1_ n2_ n3_; have hrc4 := cellS43_4 HR.out.1; have hrc6 := cellS43_6 HR.out.1; have hrc9 := cellS43_9 HR.out.1))
              go_meet
              exact ⟨now, s2, r2, rfl, ⟨pos_of HV.out SM.out.cst⟩, ⟨sim_later HV.out SM.out now⟩, HI, HR, HB, HG⟩
            · obtain ⟨r2, eb⟩ : ∃ r2, rlaterV r now = r2 := ⟨_, rfl⟩
              have sm := sim_later HV.out HS.out now
              rw [← rlater_later, eb] at sm
              have EB := Aside0.mk eb; have SM := Aside0.mk sm
              clear eb sm
              go_wp2_with (go_at_call 22; (with_reducible refine (rlater_e gr r r2 now EB.out w _ HR.out HB.out).mono ?_); rintro e w9 ⟨rfl, hi, hb, hk⟩; have n0_ := Aside0.mk (HI.out.keep hk HNR.out); have n1_ := Aside0.mk hb; have n2_ := Aside0.mk hi; have n3_ := Aside0.mk (HG.out.keep hk HNG.out); clear HI HB HR HG hi hb hk; have HI := n0_; have HB := n1_; have HR := n2_; have HG := n3_; clear n0_ n1_ n2_ n3_; have hrc4 := cellS43_4 HR.out.1; have hrc6 := cellS43_6 HR.out.1; have hrc9 := cellS43_9 HR.out.1)
              go_meet
              exact ⟨now, s, r2, rfl, P0, SM, HI, HR, HB, HG⟩
            · obtain ⟨s2, ea⟩ : ∃ s2, closeV s = s2 := ⟨_, rfl⟩
              have sm := sim_reset HV.out HS.out
              rw [ea] at sm
              have EA := Aside0.mk ea; have SM := Aside0.mk sm
              clear ea sm
              go_wp2_with (first | (go_at_call 24; (with_reducible refine (reset_e g s s2 P0.out EA.out w _ HI.out HB.out).mono ?_); rintro e w9 ⟨rfl, hi, hb, hk⟩; have n0_ := Aside0.mk hi; have n1_ := Aside0.mk hb; have n2_ := Aside0.mk (HR.out.keep hk HNR.out.symm); have n3_ := Aside0.mk (HG.out.keep hk HN.out); clear HI HB HR HG hi hb hk; have HI := n0_; have HB := n1_; have HR := n2_; have HG := n3_; clear n0_ n1_ n2_ n3_; obtain ⟨hg0, hg1, hg2, hg3⟩ := HG.out.read; have hrc4 := cellS43_4 HR.out.1; have hrc6 := cellS43_6 HR.out.1; have hrc9 := cellS43_9 HR.out.1) | (go_at_call 18; (with_reducible refine (rnew_c f c m n _).mono ?_); rintro e w9 ⟨rfl, hb⟩; have n1_ := Aside0.mk (below_step HB.out hb); have n3_ := Aside0.mk (HG.out.below hb); have n4_ := Aside0.mk (HI.out.below hb); clear HI; have HI := n4_; clear n4_; have n5_ := Aside0.mk (HR.out.below hb); clear HR; have HR := n5_; clear n5_;  clear HB HG hb; have HB := n1_; have HG := n3_; clear n1_ n3_; obtain ⟨hg0, hg1, hg2, hg3⟩ := HG.out.read; have hq_0 := cellS43_0 HR.out.1; have hz_0 := blk_frozen HR.out.1 0; have hq_1 := cellS43_1 HR.out.1; have hz_1 := blk_frozen HR.out.1 1; have hq_2 := cellS43_2 HR.out.1; have hz_2 := blk_frozen HR.out.1 2; have hq_3 := cellS43_3 HR.out.1; have hz_3 := blk_frozen HR.out.1 3; have hq_4 := cellS43_4 HR.out.1; have hz_4 := blk_frozen HR.out.1 4; have hq_5 := cellS43_5 HR.out.1; have hz_5 := blk_frozen HR.out.1 5; have hq_6 := cellS43_6 HR.out.1; have hz_6 := blk_frozen HR.out.1 6; have hq_7 := cellS43_7 HR.out.1; have hz_7 := blk_frozen HR.out.1 7; have hq_8 := cellS43_8 HR.out.1; have hz_8 := blk_frozen HR.out.1 8; have hq_9 := cellS43_9 HR.out.1; have hz_9 := blk_frozen HR.out.1 9; have HR2 := Aside0.mk (show IsS43 w w9 gr r.f r.c r.m r.n r.st r.ct r.cl r.un r.tr r.t from HR.out); have HKR := Aside0.mk (KeepBut.refl w9 gr none)))
              go_meet
              exact ⟨r.t, s2, newR f c m n r.t, rfl, ⟨pos_of HV.out SM.out.cst⟩, ⟨sim_later HV.out SM.out r.t⟩, ⟨HI.out.keep (by repeat (first | (with_reducible first | exact HKR.out | apply KeepBut.set_ | apply keep_drewN | apply keep_drew | apply keep_alloc) | exact HKR.out)) HNR.out⟩, ⟨by show IsS43 w _ gr f c m n 0 0 c 0 false r.t; repeat (first | (with_reducible first | exact HR2.out | apply IsS43.alloc | apply IsS43.drewN | apply IsS43.drew | apply IsS43.set_0 | apply IsS43.set_1 | apply IsS43.set_2 | apply IsS43.set_3 | apply IsS43.set_4 | apply IsS43.set_5 | apply IsS43.set_6 | apply IsS43.set_7 | apply IsS43.set_8 | apply IsS43.set_9) | exact HR2.out)⟩, ⟨by repeat (first | (with_reducible first | exact HB.out | apply below_alloc | apply pw_below_drewN | apply below_drew1 | refine below_set ?_ (IsS43.ge HR2.out)) | exact HB.out)⟩, ⟨HG.out.keep (by repeat (first | (with_reducible first | exact HKR.out | apply KeepBut.set_ | apply keep_drewN | apply keep_drew | apply keep_alloc) | exact HKR.out)) HNG.out⟩⟩
          case rest =>
            clear HI HB HR HG
            obtain ⟨now, s2, r2, rfl, P2, SM3, HI, HR, HB, HG⟩ := hcut
            obtain ⟨s3, e3⟩ : ∃ s3, laterV s2 now = s3 := ⟨_, rfl⟩
            obtain ⟨r3, e4⟩ : ∃ r3, rlaterV r2 now = r3 := ⟨_, rfl⟩
            have sm := SM3.out
            rw [e3, e4] at sm
            clear SM3
            have SM3 := Aside0.mk sm
            have E3 := Aside0.mk e3; have E4 := Aside0.mk e4
            have P3 := Aside0.mk (pos_of hv sm.cst)
            have Z1 := Aside0.mk sm.est
            have z2 := sm.ecl
            have z3 := sm.et
            have hcl : ∀ w', IsB w w' g s3 → Calls Try.prog 16 #[.pointer (some ⟨g, 0, none⟩)] w' fun e w'' => e = .returned (.int .i64 r3.cl) ∧ w'' = w' := fun w' h => by rw [← z2]; exact cool_q g s3 P3.out w w' h
            have hnw : ∀ w', IsB w w' g s3 → Calls Try.prog 25 #[.pointer (some ⟨g, 0, none⟩)] w' fun e w'' => e = .returned (.int .i64 r3.t) ∧ w'' = w' := fun w' h => by rw [← z3]; exact now_q g s3 P3.out w w' h
            have HCL := Aside0.mk hcl; have HNW := Aside0.mk hnw
            clear e3 e4 sm z2 z3 hcl hnw
            go_upto_region 32 with (go_at_call 22; (with_reducible refine (rlater_e gr r2 r3 now E4.out w _ HR.out HB.out).mono ?_); rintro e w9 ⟨rfl, hi, hb, hk⟩; have n0_ := Aside0.mk (HI.out.keep hk HNR.out); have n1_ := Aside0.mk hb; have n2_ := Aside0.mk hi; have n3_ := Aside0.mk (HG.out.keep hk HNG.out); clear HI HB HR HG hi hb hk; have HI := n0_; have HB := n1_; have HR := n2_; have HG := n3_; clear n0_ n1_ n2_ n3_; have hrc4 := cellS43_4 HR.out.1; have hrc6 := cellS43_6 HR.out.1; have hrc9 := cellS43_9 HR.out.1)
            go_cut [128] (fun s128 wx => s128 = .bool false ∧ Aside0 (IsB w wx g s3) ∧ Aside0 (IsR w wx gr r3) ∧ Aside0 (Below w.heap.size w wx) ∧ Aside0 (Box wx w.heap.size f c m n))
            case first =>
              have n0_ := Aside0.mk (show IsB w w9.drew g s2 from HI.out)
              have n1_ := Aside0.mk (show Below w.heap.size w w9.drew from below_drew HB.out)
              have n2_ := Aside0.mk (show IsR w w9.drew gr r3 from HR.out)
              have n3_ := Aside0.mk (show Box w9.drew w.heap.size f c m n from HG.out)
              clear HI HB HR HG
              have HI := n0_; have HB := n1_; have HR := n2_; have HG := n3_
              clear n0_ n1_ n2_ n3_
              have hrc4 := cellS43_4 HR.out.1; have hrc6 := cellS43_6 HR.out.1; have hrc9 := cellS43_9 HR.out.1
              go_region_held3 (fun w' => w'.cell? ⟨gr, 4, none⟩ = some (.int .i64 r3.st) ∧ w'.cell? ⟨gr, 6, none⟩ = some (.int .i64 r3.cl) ∧ w'.cell? ⟨gr, 9, none⟩ = some (.int .i64 r3.t)) (first | exact ⟨hrc4, hrc6, hrc9⟩ | go_keep) ((first | (go_at_call 11; (with_reducible refine (state_e g s2 s3 now r3.st P2.out E3.out Z1.out w _ HI.out HB.out).mono ?_); rintro e w9 ⟨rfl, hi, hb, hk⟩; have n0_ := Aside0.mk hi; have n1_ := Aside0.mk hb; have n2_ := Aside0.mk (HR.out.keep hk HNR.out.symm); have n3_ := Aside0.mk (HG.out.keep hk HN.out); clear HI HB HR HG hi hb hk; have HI := n0_; have HB := n1_; have HR := n2_; have HG := n3_; clear n0_ n1_ n2_ n3_; have hrc4 := cellS43_4 HR.out.1; have hrc6 := cellS43_6 HR.out.1; have hrc9 := cellS43_9 HR.out.1) | (go_at_call 16; (with_reducible refine (HCL.out _ HI.out).mono ?_); rintro e w10 ⟨rfl, rfl⟩) | (go_at_call 25; (with_reducible refine (HNW.out _ HI.out).mono ?_); rintro e w10 ⟨rfl, rfl⟩)))
              go_wp2_with fail
              go_meet
              exact ⟨rfl, HI, HR, HB, HG⟩
            case rest =>
              clear HI HB HR HG
              obtain ⟨rfl, HI, HR, HB, HG⟩ := hcut
              go_wp2_with fail
              go_roundw
              case rel => exact ⟨i + 1, s3, r3, by go_num, ⟨by omega⟩, SM3, HI, HR, HB, HG⟩
              case measure => simp [intOf]; omega
    · go_wp2_with (go_at_call 9; (with_reducible refine (alive_c _).mono ?_); rintro e w9 ⟨rfl, hb⟩; have n1_ := Aside0.mk (below_step HB.out hb); clear HB hb; have HB := n1_; clear n1_)
      go_ret
      exact ⟨rfl, HB.out⟩
theorem plays_c (f c m n : Int) (A : Option Addr) (cp : Nat) (l : List (Int × Int)) (w : World) (hr : Row w A l) (hc : l.length ≤ cp) (hm : l.length ≤ 9223372036854775807) (hk : ∀ p ∈ l, 0 ≤ p.1 ∧ p.1 ≤ 255) :
    Calls Try.prog 5 #[.agg #[.int .i64 f, .int .i64 c, .int .i64 m, .int .i64 n], .slice A l.length cp] w fun e w' => e = .returned (.bool true) ∧ Below w.heap.size w w' := by
  by_cases hv : Valid f c m n
  · exact plays_ok f c m n A cp l hv w hr hc hm hk
  · exact plays_no f c m n A cp l hv w
end Go.Proofs.Ytkpablemeaaeoaa.Brk
