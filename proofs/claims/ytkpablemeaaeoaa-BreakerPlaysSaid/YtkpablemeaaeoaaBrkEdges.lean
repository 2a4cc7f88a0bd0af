/- BreakerEdges: states go from Closed to Open, from Open to Half, from Half to Open or Closed alone; no more than one trial is under way; the walk; no condition but that numbers are of their kinds. -/
import Derived.Test.YtkpablemeaaeoaaBrkSteps
import Derived.LoopTactic
import Derived.Deep.DeepCutAuto
namespace Go.Proofs.Ytkpablemeaaeoaa.Brk
set_option linter.unusedVariables false
set_option linter.unusedSimpArgs false
open Go.RowKit Go.Proofs.Ytkpablemeaaeoaa.PA Go.Proofs.YtkpablemeaaeoaaW.PrintWords Go.Proofs.YtkpablemeaaeoaaW.PrintLast Go.Proofs.YtkpablemeaaeoaaW.PrintMore Go.Proofs.Ytkpablemeaaeoaa.Base
attribute [local go_sem] max2_int min2_int max_two min_two max_three min_three max_four min_four

structure Stb (f c m n : Int) (s : B) (now tr : Int) : Prop where
  (cst : Cst f c m n s) (w : s.nw = now) (st : s.st = 0 ∨ (s.st = 1 ∧ now < s.un) ∨ s.st = 2) (tr : tr = 0 ∨ (tr = 1 ∧ s.st = 2 ∧ s.tr = true))
structure InvE (f c m n : Int) (s : B) (now tr : Int) (i : Nat) : Prop where
  (cst : Cst f c m n s) (w0 : s.nw ≤ now) (w1 : now ≤ (i : Int) * 1073741824) (st : s.st = 0 ∨ s.st = 1 ∨ s.st = 2) (tr : tr = 0 ∨ (tr = 1 ∧ s.st = 2 ∧ s.tr = true))
theorem Stb.inv {f c m n : Int} {s : B} {now tr : Int} {i : Nat} (h : Stb f c m n s now tr) (hw : now ≤ (i : Int) * 1073741824) : InvE f c m n s now tr i :=
  ⟨h.cst, by rw [h.w]; exact Int.le_refl _, hw, by rcases h.st with h | h | h <;> simp [h], h.tr⟩
theorem Stb.idem {f c m n : Int} {s : B} {now tr : Int} (h : Stb f c m n s now tr) (hb : now ≤ 1099511627776) : laterV s now = s := by
  have t1 : tick s.nw now = now := by rw [h.w]; exact tick_up (Int.le_refl _) hb
  rw [later_stay (by rcases h.st with e | ⟨e, e'⟩ | e <;> omega), t1, ← h.w]
theorem later_stb {f c m n : Int} {s : B} {now tr : Int} {i : Nat} {now' : Int} (hv : Valid f c m n) (h : InvE f c m n s now tr i) (h0 : now ≤ now') (hb : now' ≤ 1099511627776) : Stb f c m n (laterV s now') now' tr := by
  obtain ⟨⟨hf, hc, hm, hn, n0, c0, c1⟩, w0, w1, st, htr⟩ := h
  have t1 : tick s.nw now' = now' := tick_up (by omega) hb
  by_cases hx : s.st = 1 ∧ s.un ≤ tick s.nw now'
  · rw [later_half hx.1 hx.2]
    exact ⟨⟨hf, hc, hm, hn, by show 0 ≤ tick s.nw now'; omega, c0, c1⟩, t1, .inr (.inr rfl), .inl (by omega)⟩
  · rw [later_stay (by omega)]
    refine ⟨⟨hf, hc, hm, hn, by show 0 ≤ tick s.nw now'; omega, c0, c1⟩, t1, ?_, htr⟩
    show s.st = 0 ∨ (s.st = 1 ∧ now' < s.un) ∨ s.st = 2
    omega
theorem stb_ok {f c m n : Int} {s : B} {now tr : Int} (hv : Valid f c m n) (h : Stb f c m n s now tr) (hb : now ≤ 1099511627776) : ∃ s2, okV s now = s2 ∧ Stb f c m n s2 now 0 ∧
    ((s.st = 0 ∧ s2.st = 0) ∨ (s.st = 0 ∧ s2.st = 1) ∨ (s.st = 1 ∧ s2.st = 1) ∨ (s.st = 2 ∧ s2.st = 0) ∨ (s.st = 2 ∧ s2.st = 1) ∨ (s.st = 2 ∧ s2.st = 2)) := by
  have hi := h.idem hb
  obtain ⟨⟨hf, hc, hm, hn, n0, c0, c1⟩, w, st, htr⟩ := h
  obtain ⟨v1, v2, v3, v4, v5, v6, v7⟩ := hv
  refine ⟨_, rfl, ?_⟩
  unfold okV
  rw [hi]
  rcases st with e | ⟨e, e'⟩ | e
  · rw [if_pos e]; exact ⟨⟨⟨hf, hc, hm, hn, n0, c0, c1⟩, w, .inl e, .inl rfl⟩, .inl ⟨e, e⟩⟩
  · rw [if_neg (by omega), if_neg (by omega)]; exact ⟨⟨⟨hf, hc, hm, hn, n0, c0, c1⟩, w, .inr (.inl ⟨e, e'⟩), .inl rfl⟩, .inr (.inr (.inl ⟨e, e⟩))⟩
  · rw [if_neg (by omega), if_pos e]
    split
    · exact ⟨⟨⟨hf, hc, hm, hn, n0, by show c ≤ s.c; omega, by show s.c ≤ m; omega⟩, w, .inl rfl, .inl rfl⟩, .inr (.inr (.inr (.inl ⟨e, rfl⟩)))⟩
    · exact ⟨⟨⟨hf, hc, hm, hn, n0, c0, c1⟩, w, .inr (.inr e), .inl rfl⟩, .inr (.inr (.inr (.inr (.inr ⟨e, e⟩))))⟩
theorem stb_leave {f c m n : Int} {s : B} {now tr : Int} (hv : Valid f c m n) (h : Stb f c m n s now tr) (hb : now ≤ 1099511627776) : ∃ s2, leaveV s now = s2 ∧ Stb f c m n s2 now 0 ∧
    ((s.st = 0 ∧ s2.st = 0) ∨ (s.st = 0 ∧ s2.st = 1) ∨ (s.st = 1 ∧ s2.st = 1) ∨ (s.st = 2 ∧ s2.st = 0) ∨ (s.st = 2 ∧ s2.st = 1) ∨ (s.st = 2 ∧ s2.st = 2)) := by
  have hi := h.idem hb
  obtain ⟨⟨hf, hc, hm, hn, n0, c0, c1⟩, w, st, htr⟩ := h
  refine ⟨_, rfl, ?_⟩
  unfold leaveV
  rw [hi]
  rcases st with e | ⟨e, e'⟩ | e
  · rw [if_neg (by omega)]; exact ⟨⟨⟨hf, hc, hm, hn, n0, c0, c1⟩, w, .inl e, .inl rfl⟩, .inl ⟨e, e⟩⟩
  · rw [if_neg (by omega)]; exact ⟨⟨⟨hf, hc, hm, hn, n0, c0, c1⟩, w, .inr (.inl ⟨e, e'⟩), .inl rfl⟩, .inr (.inr (.inl ⟨e, e⟩))⟩
  · rw [if_pos e]; exact ⟨⟨⟨hf, hc, hm, hn, n0, c0, c1⟩, w, .inr (.inr e), .inl rfl⟩, .inr (.inr (.inr (.inr (.inr ⟨e, e⟩))))⟩
theorem open_stb {f c m n : Int} {s : B} {now : Int} (hv : Valid f c m n) (h : Cst f c m n s) (w : s.nw = now) : Stb f c m n (openV s) now 0 := by
  obtain ⟨hf, hc, hm, hn, n0, c0, c1⟩ := h
  obtain ⟨v1, v2, v3, v4, v5, v6, v7⟩ := hv
  have hmn : mn (2 * s.cl) s.m ≤ m ∧ c ≤ mn (2 * s.cl) s.m := by unfold mn; split <;> omega
  exact ⟨⟨hf, hc, hm, hn, n0, hmn.2, hmn.1⟩, w, .inr (.inl ⟨rfl, by show now < s.nw + s.cl; omega⟩), .inl rfl⟩
theorem stb_fail {f c m n : Int} {s : B} {now tr : Int} (hv : Valid f c m n) (h : Stb f c m n s now tr) (hb : now ≤ 1099511627776) : ∃ s2, failV s now = s2 ∧ Stb f c m n s2 now 0 ∧
    ((s.st = 0 ∧ s2.st = 0) ∨ (s.st = 0 ∧ s2.st = 1) ∨ (s.st = 1 ∧ s2.st = 1) ∨ (s.st = 2 ∧ s2.st = 0) ∨ (s.st = 2 ∧ s2.st = 1) ∨ (s.st = 2 ∧ s2.st = 2)) := by
  have hi := h.idem hb
  obtain ⟨hcst, w, st, htr⟩ := h
  obtain ⟨hf, hc, hm, hn, n0, c0, c1⟩ := hcst
  refine ⟨_, rfl, ?_⟩
  unfold failV
  rw [hi]
  rcases st with e | ⟨e, e'⟩ | e
  · rw [if_neg (by omega), if_pos e]
    split
    · exact ⟨open_stb (s := { s with fx := up s.fx s.fm }) hv ⟨hf, hc, hm, hn, n0, c0, c1⟩ w, .inr (.inl ⟨e, rfl⟩)⟩
    · exact ⟨⟨⟨hf, hc, hm, hn, n0, c0, c1⟩, w, .inl e, .inl rfl⟩, .inl ⟨e, e⟩⟩
  · rw [if_pos e]; exact ⟨⟨⟨hf, hc, hm, hn, n0, c0, c1⟩, w, .inr (.inl ⟨e, e'⟩), .inl rfl⟩, .inr (.inr (.inl ⟨e, e⟩))⟩
  · rw [if_neg (by omega), if_neg (by omega)]
    exact ⟨open_stb hv ⟨hf, hc, hm, hn, n0, c0, c1⟩ w, .inr (.inr (.inr (.inr (.inl ⟨e, rfl⟩))))⟩
theorem stb_allow {f c m n : Int} {s : B} {now tr : Int} (hv : Valid f c m n) (h : Stb f c m n s now tr) (hb : now ≤ 1099511627776) : ∃ s2, s2.st = s.st ∧
    ((s.st = 0 ∧ allowV s now = (true, s2) ∧ Stb f c m n s2 now tr ∧ (tr = 0 ∨ tr = 1)) ∨ (s.st = 1 ∧ allowV s now = (false, s2) ∧ Stb f c m n s2 now tr ∧ (tr = 0 ∨ tr = 1)) ∨ (s.st = 2 ∧ tr = 0 ∧ allowV s now = (true, s2) ∧ Stb f c m n s2 now 1) ∨ (s.st = 2 ∧ allowV s now = (false, s2) ∧ Stb f c m n s2 now tr ∧ (tr = 0 ∨ tr = 1))) := by
  have hi := h.idem hb
  have h' := h
  obtain ⟨⟨hf, hc, hm, hn, n0, c0, c1⟩, w, st, htr⟩ := h
  have ht : tr = 0 ∨ tr = 1 := by omega
  unfold allowV
  rw [hi]
  rcases st with e | ⟨e, e'⟩ | e
  · rw [if_pos e]; exact ⟨s, rfl, .inl ⟨e, rfl, h', ht⟩⟩
  · rw [if_neg (by omega), if_neg (by omega)]; exact ⟨s, rfl, .inr (.inl ⟨e, rfl, h', ht⟩)⟩
  · rw [if_neg (by omega), if_pos e]
    refine ⟨{ s with tr := true }, rfl, .inr (.inr ?_)⟩
    cases hr : s.tr with
    | false =>
      have : tr = 0 := by
        rcases htr with h | ⟨_, _, h⟩
        · exact h
        · rw [hr] at h; cases h
      exact .inl ⟨e, this, rfl, ⟨⟨hf, hc, hm, hn, n0, c0, c1⟩, w, .inr (.inr e), .inr ⟨rfl, e, rfl⟩⟩⟩
    | true => exact .inr ⟨e, rfl, ⟨⟨hf, hc, hm, hn, n0, c0, c1⟩, w, .inr (.inr e), htr.elim .inl (fun h => .inr ⟨h.1, e, rfl⟩)⟩, ht⟩

set_option maxHeartbeats 1000000 in
set_option maxRecDepth 100000 in
theorem edges_no (f c m n : Int) (A : Option Addr) (cp : Nat) (l : List (Int × Int)) (hv : ¬ Valid f c m n) (w : World) :
    Calls Try.prog 3 #[.agg #[.int .i64 f, .int .i64 c, .int .i64 m, .int .i64 n], .slice A l.length cp] w fun e w' => e = .returned (.bool true) ∧ Below w.heap.size w w' := by
  have HV := Aside0.mk hv
  clear hv
  have HB := Aside0.mk (below_alloc (Below.refl w.heap.size w) (.cells #[.int .i64 f, .int .i64 c, .int .i64 m, .int .i64 n] 23 (0, 0)))
  have hu23 := Try.underlying23
  go_enter Try.func3, Try.ntmps3
  go_wp2_with (first | (go_at_call 8; (with_reducible refine (theirs_c f c m n _).mono ?_); rintro e w1 ⟨rfl, hb⟩; have n1_ := Aside0.mk (below_step HB.out hb); clear HB hb; have HB := n1_; clear n1_) | (go_at_call 7; (with_reducible refine (new_no f c m n HV.out _).mono ?_); rintro e w2 ⟨rfl, hb⟩; have n1_ := Aside0.mk (below_step HB.out hb); clear HB hb; have HB := n1_; clear n1_) | (go_at_call 9; (with_reducible refine (alive_c _).mono ?_); rintro e w9 ⟨rfl, hb⟩; have n1_ := Aside0.mk (below_step HB.out hb); clear HB hb; have HB := n1_; clear n1_))
  go_ret
  exact ⟨rfl, HB.out⟩
set_option maxHeartbeats 8000000 in
set_option maxRecDepth 100000 in
theorem edges_ok (f c m n : Int) (A : Option Addr) (cp : Nat) (l : List (Int × Int)) (hv : Valid f c m n) (w : World) (hr : Row w A l) (hc : l.length ≤ cp) (hm : l.length ≤ 9223372036854775807) (hk : ∀ p ∈ l, 0 ≤ p.1 ∧ p.1 ≤ 255) :
    Calls Try.prog 3 #[.agg #[.int .i64 f, .int .i64 c, .int .i64 m, .int .i64 n], .slice A l.length cp] w fun e w' => e = .returned (.bool true) ∧ Below w.heap.size w w' := by
  have HV := Aside0.mk hv
  have HC := Aside0.mk hc
  have HM := Aside0.mk hm
  have HR := Aside0.mk hr
  have HK := Aside0.mk hk
  clear hr hc hm hk
  have HB := Aside0.mk (below_alloc (Below.refl w.heap.size w) (.cells #[.int .i64 f, .int .i64 c, .int .i64 m, .int .i64 n] 23 (0, 0)))
  have hu23 := Try.underlying23
  have hu34 := Try.underlying34
  obtain ⟨i0, hi0, _, hs0, _⟩ := info_parts info34
  go_enter Try.func3, Try.ntmps3
  go_wp2_with (first | (go_at_call 8; (with_reducible refine (theirs_c f c m n _).mono ?_); rintro e w1 ⟨rfl, hb⟩; have n1_ := Aside0.mk (below_step HB.out hb); clear HB hb; have HB := n1_; clear n1_) | (go_at_call 7; (with_reducible refine (new_ok f c m n HV.out _).mono ?_); rintro e w2 ⟨g, rfl, hi, hb⟩; have n0_ := Aside0.mk (hi.lower HB.out.size); have n1_ := Aside0.mk (below_step HB.out hb); clear HB hb hi; have HI := n0_; have HB := n1_; clear n0_ n1_) | (go_at_call 10; (with_reducible refine (short_c A l.length cp HC.out HM.out _).mono ?_); rintro e w3 ⟨rfl, rfl⟩))
  obtain ⟨L, hL⟩ : ∃ L, min l.length 400 = L := ⟨_, rfl⟩
  rw [hL]
  have HL := Aside0.mk (show L ≤ l.length ∧ L ≤ 400 from by omega)
  clear hL
  go_loopw [7, 8, 30] (fun vn vt vi wr => ∃ (i : Nat) (now tr : Int) (s : B), vi = .int .i64 i ∧ vn = .int .i64 now ∧ vt = .int .i64 tr ∧ Aside0 (i ≤ L) ∧ Aside0 (InvE f c m n s now tr i) ∧ Aside0 (IsB w wr g s) ∧ Aside0 (Below w.heap.size w wr)) (fun _ _ vi _ => (L - intOf vi).toNat)
  case atStart => exact ⟨0, 0, 0, _, rfl, rfl, rfl, ⟨by omega⟩, ⟨⟨⟨rfl, rfl, rfl, rfl, Int.le_refl _, Int.le_refl _, hv.2.2.2.2.2.1⟩, Int.le_refl _, by omega, .inl rfl, .inl rfl⟩⟩, HI, HB⟩
  case round =>
    clear HI HB
    obtain ⟨i, now, tr, s, rfl, rfl, rfl, HN, HS, HI, HB⟩ := hrel
    have l1 := HL.out.2
    have l2 := HN.out
    by_cases hlt : i < L
    · obtain ⟨x, hx⟩ : ∃ x, l[i]? = some x := ⟨_, List.getElem?_eq_getElem (show i < l.length by have := HL.out.1; omega)⟩
      obtain ⟨a, rfl, h0, h1⟩ := HR.out i x hx
      have k0 := pw_cell_below HB.out h0
      have k1 := pw_cell_below HB.out h1
      rw [add_field a (i * 2) 1 (by decide)] at k1
      clear h0 h1
      go_upto_region 9 with (fail)
      go_cut [41] (fun s41 wx => s41 = .bool (decide (0 < x.2 ∧ x.2 < 1073741824)) ∧ wx = wr.alloc (.cells #[.int .u8 x.1, .int .i64 x.2] 34 (0, 0)))
      case first =>
        go_wp2_with fail
        all_goals go_meet
        all_goals exact ⟨by simp; omega, rfl⟩
      case rest =>
        obtain ⟨rfl, rfl⟩ := hcut
        go_upto_if 41 with (fail)
        go_cut [7] (fun s7 wx => ∃ now' : Int, s7 = .int .i64 now' ∧ Aside0 (now ≤ now' ∧ now' ≤ now + 1073741824) ∧ wx = wr.alloc (.cells #[.int .u8 x.1, .int .i64 x.2] 34 (0, 0)))
        case first =>
          have nn0 : 0 ≤ now := Int.le_trans HS.out.cst.n0 HS.out.w0
          have nn1 : now ≤ 500000000000 := by have := HS.out.w1; omega
          by_cases hq : 0 < x.2 ∧ x.2 < 1073741824
          · rw [decide_eq_true hq]
            obtain ⟨hq0, hq1⟩ := hq
            go_wp2_with fail
            go_meet
            exact ⟨_, rfl, ⟨by omega, by omega⟩, rfl⟩
          · rw [decide_eq_false hq]
            go_wp2_with fail
            go_meet
            exact ⟨_, rfl, ⟨by omega, by omega⟩, rfl⟩
        case rest =>
          obtain ⟨now', rfl, HNW, rfl⟩ := hcut
          have hw1 : now' ≤ ((i + 1 : Nat) : Int) * 1073741824 := by have := HS.out.w1; have := HNW.out.2; omega
          have hw2 : now' ≤ 1099511627776 := by omega
          have stb := later_stb hv HS.out HNW.out.1 hw2
          obtain ⟨s1, e1⟩ : ∃ s1, laterV s now' = s1 := ⟨_, rfl⟩
          rw [e1] at stb
          have E1 := Aside0.mk e1
          have P0 := Aside0.mk (pos_of hv HS.out.cst)
          have P1 := Aside0.mk (pos_of hv stb.cst)
          have HX := Aside0.mk (show (wr.alloc (.cells #[.int .u8 x.1, .int .i64 x.2] 34 (0, 0))).heap[wr.heap.size]? = some (.cells #[.int .u8 x.1, .int .i64 x.2] 34 (0, 0)) from blk_new _ _)
          have HNX := Aside0.mk (show wr.heap.size ≠ g from (Nat.ne_of_lt (IsS49.lt HI.out)).symm)
          have n0_ := Aside0.mk (show IsB w (wr.alloc (.cells #[.int .u8 x.1, .int .i64 x.2] 34 (0, 0))) g s from IsS49.alloc HI.out _)
          have n1_ := Aside0.mk (below_alloc HB.out (.cells #[.int .u8 x.1, .int .i64 x.2] 34 (0, 0)))
          clear HI HB e1 k0 k1
          have HI := n0_; have HB := n1_
          clear n0_ n1_
          obtain ⟨kx0, kx1⟩ := HK.out x (List.mem_of_getElem? hx)
          have TM := Aside0.mk (show now' ≤ 1099511627776 from hw2)
          have TH := Aside0.mk hw1
          have STB := Aside0.mk stb
          clear hw1 hw2 stb hx
          have hq : x.1 % 6 = 0 ∨ x.1 % 6 = 1 ∨ x.1 % 6 = 2 ∨ x.1 % 6 = 5 ∨ x.1 % 6 = 3 ∨ x.1 % 6 = 4 := by omega
          rcases hq with hq | hq | hq | hq | hq | hq
          · obtain ⟨s2, z, H⟩ := stb_allow HV.out STB.out TM.out
            rcases H with ⟨e, ea, st2, ht⟩ | ⟨e, ea, st2, ht⟩ | ⟨e, rfl, ea, st2⟩ | ⟨e, ea, st2, ht⟩
            all_goals
             have EZ := Aside0.mk (z.trans e)
             have EV := Aside0.mk e
             have EA := Aside0.mk ea
             have E3 := Aside0.mk (st2.idem TM.out)
             have P2 := Aside0.mk (pos_of HV.out st2.cst)
             have ST2 := Aside0.mk st2
             (try have ht1 : tr ≤ 1 := by omega)
             clear e z ea st2
             (try clear ht)
             go_wp2_with (first | (go_at_call 11; (with_reducible refine (state_e g s s1 now' _ P0.out E1.out EV.out w _ HI.out HB.out).mono ?_); rintro e w9 ⟨rfl, hi, hb, hk⟩; have n0_ := Aside0.mk hi; have n1_ := Aside0.mk hb; have n2_ := Aside0.mk (hk.blk HX.out HNX.out (by simp)); clear HI HB HX hi hb hk; have HI := n0_; have HB := n1_; have HX := n2_; clear n0_ n1_ n2_; have hx0 := (blk_cell HX.out 0).trans rfl) | (go_at_call 12; (with_reducible refine (allow_e g s1 s2 now' _ P1.out EA.out w _ HI.out HB.out).mono ?_); rintro e w9 ⟨rfl, hi, hb, hk⟩; have n0_ := Aside0.mk hi; have n1_ := Aside0.mk hb; clear HI HB hi hb hk; have HI := n0_; have HB := n1_; clear n0_ n1_) | (go_at_call 11; (with_reducible refine (state_e g s2 s2 now' _ P2.out E3.out EZ.out w _ HI.out HB.out).mono ?_); rintro e w9 ⟨rfl, hi, hb, hk⟩; have n0_ := Aside0.mk hi; have n1_ := Aside0.mk hb; clear HI HB hi hb hk; have HI := n0_; have HB := n1_; clear n0_ n1_))
             go_roundw
             case rel => exact ⟨i + 1, now', _, s2, by go_num, rfl, rfl, ⟨by omega⟩, ⟨ST2.out.inv TH.out⟩, HI, HB⟩
             case measure => simp [intOf]; omega
          · obtain ⟨s2, ea, st2, H⟩ := stb_ok HV.out STB.out TM.out
            rcases H with ⟨e, z⟩ | ⟨e, z⟩ | ⟨e, z⟩ | ⟨e, z⟩ | ⟨e, z⟩ | ⟨e, z⟩
            all_goals
             have EZ := Aside0.mk z
             have EV := Aside0.mk e
             have EA := Aside0.mk ea
             have E3 := Aside0.mk (st2.idem TM.out)
             have P2 := Aside0.mk (pos_of HV.out st2.cst)
             have ST2 := Aside0.mk st2
             have CS := Aside0.mk STB.out.cst
             have TW := Aside0.mk (show s1.nw ≤ 1099511627776 from by have := STB.out.w; have := TM.out; omega)
             clear e z ea st2
             go_wp2_with (first | (go_at_call 11; (with_reducible refine (state_e g s s1 now' _ P0.out E1.out EV.out w _ HI.out HB.out).mono ?_); rintro e w9 ⟨rfl, hi, hb, hk⟩; have n0_ := Aside0.mk hi; have n1_ := Aside0.mk hb; have n2_ := Aside0.mk (hk.blk HX.out HNX.out (by simp)); clear HI HB HX hi hb hk; have HI := n0_; have HB := n1_; have HX := n2_; clear n0_ n1_ n2_; have hx0 := (blk_cell HX.out 0).trans rfl) | (go_at_call 13; (with_reducible refine (okm_e g s1 s2 now' P1.out EA.out w _ HI.out HB.out).mono ?_); rintro e w9 ⟨rfl, hi, hb, hk⟩; have n0_ := Aside0.mk hi; have n1_ := Aside0.mk hb; clear HI HB hi hb hk; have HI := n0_; have HB := n1_; clear n0_ n1_) | (go_at_call 11; (with_reducible refine (state_e g s2 s2 now' _ P2.out E3.out EZ.out w _ HI.out HB.out).mono ?_); rintro e w9 ⟨rfl, hi, hb, hk⟩; have n0_ := Aside0.mk hi; have n1_ := Aside0.mk hb; clear HI HB hi hb hk; have HI := n0_; have HB := n1_; clear n0_ n1_))
             go_roundw
             case rel => exact ⟨i + 1, now', 0, s2, by go_num, rfl, rfl, ⟨by omega⟩, ⟨ST2.out.inv TH.out⟩, HI, HB⟩
             case measure => simp [intOf]; omega
          · obtain ⟨s2, ea, st2, H⟩ := stb_fail HV.out STB.out TM.out
            rcases H with ⟨e, z⟩ | ⟨e, z⟩ | ⟨e, z⟩ | ⟨e, z⟩ | ⟨e, z⟩ | ⟨e, z⟩
            all_goals
             have EZ := Aside0.mk z
             have EV := Aside0.mk e
             have EA := Aside0.mk ea
             have E3 := Aside0.mk (st2.idem TM.out)
             have P2 := Aside0.mk (pos_of HV.out st2.cst)
             have ST2 := Aside0.mk st2
             have CS := Aside0.mk STB.out.cst
             have TW := Aside0.mk (show s1.nw ≤ 1099511627776 from by have := STB.out.w; have := TM.out; omega)
             clear e z ea st2
             go_wp2_with (first | (go_at_call 11; (with_reducible refine (state_e g s s1 now' _ P0.out E1.out EV.out w _ HI.out HB.out).mono ?_); rintro e w9 ⟨rfl, hi, hb, hk⟩; have n0_ := Aside0.mk hi; have n1_ := Aside0.mk hb; have n2_ := Aside0.mk (hk.blk HX.out HNX.out (by simp)); clear HI HB HX hi hb hk; have HI := n0_; have HB := n1_; have HX := n2_; clear n0_ n1_ n2_; have hx0 := (blk_cell HX.out 0).trans rfl) | (go_at_call 14; (with_reducible refine (fail_s g s1 s2 f c m n now' HV.out CS.out TW.out EA.out w _ HI.out HB.out).mono ?_); rintro e w9 ⟨rfl, hi, hb, hk⟩; have n0_ := Aside0.mk hi; have n1_ := Aside0.mk hb; clear HI HB hi hb hk; have HI := n0_; have HB := n1_; clear n0_ n1_) | (go_at_call 11; (with_reducible refine (state_e g s2 s2 now' _ P2.out E3.out EZ.out w _ HI.out HB.out).mono ?_); rintro e w9 ⟨rfl, hi, hb, hk⟩; have n0_ := Aside0.mk hi; have n1_ := Aside0.mk hb; clear HI HB hi hb hk; have HI := n0_; have HB := n1_; clear n0_ n1_))
             go_roundw
             case rel => exact ⟨i + 1, now', 0, s2, by go_num, rfl, rfl, ⟨by omega⟩, ⟨ST2.out.inv TH.out⟩, HI, HB⟩
             case measure => simp [intOf]; omega
          · obtain ⟨s2, ea, st2, H⟩ := stb_leave HV.out STB.out TM.out
            rcases H with ⟨e, z⟩ | ⟨e, z⟩ | ⟨e, z⟩ | ⟨e, z⟩ | ⟨e, z⟩ | ⟨e, z⟩
            all_goals
             have EZ := Aside0.mk z
             have EV := Aside0.mk e
             have EA := Aside0.mk ea
             have E3 := Aside0.mk (st2.idem TM.out)
             have P2 := Aside0.mk (pos_of HV.out st2.cst)
             have ST2 := Aside0.mk st2
             have CS := Aside0.mk STB.out.cst
             have TW := Aside0.mk (show s1.nw ≤ 1099511627776 from by have := STB.out.w; have := TM.out; omega)
             clear e z ea st2
             go_wp2_with (first | (go_at_call 11; (with_reducible refine (state_e g s s1 now' _ P0.out E1.out EV.out w _ HI.out HB.out).mono ?_); rintro e w9 ⟨rfl, hi, hb, hk⟩; have n0_ := Aside0.mk hi; have n1_ := Aside0.mk hb; have n2_ := Aside0.mk (hk.blk HX.out HNX.out (by simp)); clear HI HB HX hi hb hk; have HI := n0_; have HB := n1_; have HX := n2_; clear n0_ n1_ n2_; have hx0 := (blk_cell HX.out 0).trans rfl) | (go_at_call 15; (with_reducible refine (leave_e g s1 s2 now' P1.out EA.out w _ HI.out HB.out).mono ?_); rintro e w9 ⟨rfl, hi, hb, hk⟩; have n0_ := Aside0.mk hi; have n1_ := Aside0.mk hb; clear HI HB hi hb hk; have HI := n0_; have HB := n1_; clear n0_ n1_) | (go_at_call 11; (with_reducible refine (state_e g s2 s2 now' _ P2.out E3.out EZ.out w _ HI.out HB.out).mono ?_); rintro e w9 ⟨rfl, hi, hb, hk⟩; have n0_ := Aside0.mk hi; have n1_ := Aside0.mk hb; clear HI HB hi hb hk; have HI := n0_; have HB := n1_; clear n0_ n1_))
             go_roundw
             case rel => exact ⟨i + 1, now', 0, s2, by go_num, rfl, rfl, ⟨by omega⟩, ⟨ST2.out.inv TH.out⟩, HI, HB⟩
             case measure => simp [intOf]; omega
          all_goals
           go_wp2_with (go_at_call 11; (with_reducible refine (state_e g s s1 now' _ P0.out E1.out rfl w _ HI.out HB.out).mono ?_); rintro e w9 ⟨rfl, hi, hb, hk⟩; have n0_ := Aside0.mk hi; have n1_ := Aside0.mk hb; have n2_ := Aside0.mk (hk.blk HX.out HNX.out (by simp)); clear HI HB HX hi hb hk; have HI := n0_; have HB := n1_; have HX := n2_; clear n0_ n1_ n2_; have hx0 := (blk_cell HX.out 0).trans rfl)
           go_roundw
           case rel => exact ⟨i + 1, now', tr, s1, by go_num, rfl, rfl, ⟨by omega⟩, ⟨STB.out.inv TH.out⟩, HI, HB⟩
           case measure => simp [intOf]; omega
    · go_wp2_with (go_at_call 9; (with_reducible refine (alive_c _).mono ?_); rintro e w9 ⟨rfl, hb⟩; have n1_ := Aside0.mk (below_step HB.out hb); clear HB hb; have HB := n1_; clear n1_)
      go_ret
      exact ⟨rfl, HB.out⟩
theorem edges_c (f c m n : Int) (A : Option Addr) (cp : Nat) (l : List (Int × Int)) (w : World) (hr : Row w A l) (hc : l.length ≤ cp) (hm : l.length ≤ 9223372036854775807) (hk : ∀ p ∈ l, 0 ≤ p.1 ∧ p.1 ≤ 255) :
    Calls Try.prog 3 #[.agg #[.int .i64 f, .int .i64 c, .int .i64 m, .int .i64 n], .slice A l.length cp] w fun e w' => e = .returned (.bool true) ∧ Below w.heap.size w w' := by
  by_cases hv : Valid f c m n
  · exact edges_ok f c m n A cp l hv w hr hc hm hk
  · exact edges_no f c m n A cp l hv w
end Go.Proofs.Ytkpablemeaaeoaa.Brk
