/- BreakerEnds: behind Cool, at most Most, an Open one is Half open, and Needs successes close it; the walk and what it rests on; no condition but that numbers are of their kinds. -/
import Derived.Test.YtkpablemeaaeoaaBrkAlive
import Derived.LoopTactic
namespace Go.Proofs.Ytkpablemeaaeoaa.Brk
set_option linter.unusedVariables false
set_option linter.unusedSimpArgs false
open Go.RowKit Go.Proofs.Ytkpablemeaaeoaa.PA Go.Proofs.YtkpablemeaaeoaaW.PrintWords Go.Proofs.YtkpablemeaaeoaaW.PrintLast Go.Proofs.YtkpablemeaaeoaaW.PrintMore Go.Proofs.Ytkpablemeaaeoaa.Base
attribute [local go_sem] max2_int min2_int max_two min_two max_three min_three max_four min_four

theorem IsB.lower {w0 w1 W : World} {g : Nat} {s : B} (h : IsB w1 W g s) (hle : w0.heap.size ≤ w1.heap.size) : IsB w0 W g s := ⟨h.1, Nat.le_trans hle h.2⟩
theorem box4 {w : World} {g t : Nat} {a b c d : Value} (h : w.heap[g]? = some (.cells #[a, b, c, d] t (0, 0))) : w.cell? ⟨g, 0, none⟩ = some a ∧ w.cell? ⟨g, 1, none⟩ = some b ∧ w.cell? ⟨g, 2, none⟩ = some c ∧ w.cell? ⟨g, 3, none⟩ = some d :=
  ⟨(blk_cell h 0).trans rfl, (blk_cell h 1).trans rfl, (blk_cell h 2).trans rfl, (blk_cell h 3).trans rfl⟩
def Valid (f c m n : Int) : Prop := 1 ≤ f ∧ f ≤ 1000 ∧ 1 ≤ n ∧ n ≤ 1000 ∧ 1 ≤ c ∧ c ≤ m ∧ m ≤ 4294967296
instance (f c m n : Int) : Decidable (Valid f c m n) := by unfold Valid; infer_instance
theorem theirs_c (f c m n : Int) (w : World) : Calls Try.prog 8 #[.agg #[.int .i64 f, .int .i64 c, .int .i64 m, .int .i64 n]] w fun e w' => e = .returned (.agg #[.int .i64 f, .int .i64 c, .int .i64 m, .int .i64 n]) ∧ Below w.heap.size w w' :=
  garboardlaw22_theirs.calls f c m n f c m n w rfl
theorem new_no (f c m n : Int) (h : ¬ Valid f c m n) (w : World) : Calls Try.prog 7 #[.agg #[.int .i64 f, .int .i64 c, .int .i64 m, .int .i64 n]] w fun e w' => e = .returned (.tuple #[.pointer none, .int .i64 1]) ∧ Below w.heap.size w w' := New.no f c m n h w
theorem new_ok (f c m n : Int) (h : Valid f c m n) (w : World) : Calls Try.prog 7 #[.agg #[.int .i64 f, .int .i64 c, .int .i64 m, .int .i64 n]] w fun e w' => ∃ g, e = .returned (.tuple #[.pointer (some ⟨g, 0, none⟩), .int .i64 0]) ∧ IsB w w' g ⟨f, c, m, n, 0, 0, f, 0, 0, c, 0, false, 0⟩ ∧ Below w.heap.size w w' := New.ok f c m n h.1 h.2.1 h.2.2.1 h.2.2.2.1 h.2.2.2.2.1 h.2.2.2.2.2.1 h.2.2.2.2.2.2 w
set_option maxHeartbeats 4000000 in
set_option maxRecDepth 100000 in
theorem ends_no (f c m n k : Int) (hv : ¬ Valid f c m n) (w : World) :
    Calls Try.prog 4 #[.agg #[.int .i64 f, .int .i64 c, .int .i64 m, .int .i64 n], .int .u8 k] w fun e w' => e = .returned (.bool true) ∧ Below w.heap.size w w' := by
  have HV := Aside0.mk hv
  clear hv
  have HB := Aside0.mk (below_alloc (Below.refl w.heap.size w) (.cells #[.int .i64 f, .int .i64 c, .int .i64 m, .int .i64 n] 23 (0, 0)))
  have hu23 := Try.underlying23
  go_enter Try.func4, Try.ntmps4
  go_wp2_with (first | (go_at_call 8; (with_reducible refine (theirs_c f c m n _).mono ?_); rintro e w1 ⟨rfl, hb⟩; have n1_ := Aside0.mk (below_step HB.out hb); clear HB hb; have HB := n1_; clear n1_) | (go_at_call 7; (with_reducible refine (new_no f c m n HV.out _).mono ?_); rintro e w1 ⟨rfl, hb⟩; have n1_ := Aside0.mk (below_step HB.out hb); clear HB hb; have HB := n1_; clear n1_) | (go_at_call 9; (with_reducible refine (alive_c _).mono ?_); rintro e w1 ⟨rfl, hb⟩; have n1_ := Aside0.mk (below_step HB.out hb); clear HB hb; have HB := n1_; clear n1_))
  go_ret
  exact ⟨rfl, HB.out⟩

/-! ### what only reads -/
theorem ok_q (g : Nat) (s : B) (hf : 0 < s.f) (w0 w : World) (hI : IsB w0 w g s) : Calls Try.prog 27 #[.pointer (some ⟨g, 0, none⟩)] w fun e w' => e = .returned (.bool true) ∧ w' = w := by
  obtain ⟨HGz, hgz⟩ := hI
  have hc := cellS49_0 HGz
  clear HGz hgz
  go_enter Try.func27, Try.ntmps27
  go_wp2_with fail
  go_ret
  exact ⟨rfl, rfl⟩
theorem cool_q (g : Nat) (s : B) (hf : 0 < s.f) (w0 w : World) (hI : IsB w0 w g s) : Calls Try.prog 16 #[.pointer (some ⟨g, 0, none⟩)] w fun e w' => e = .returned (.int .i64 s.cl) ∧ w' = w := by
  have HI := Aside0.mk hI
  have HF := Aside0.mk hf
  obtain ⟨HGz, hgz⟩ := hI
  have hc := cellS49_9 HGz
  clear HGz hgz hf
  go_enter Try.func16, Try.ntmps16
  go_wp2_with (go_at_call 27; (with_reducible refine (ok_q g s HF.out w0 _ HI.out).mono ?_); rintro e w1 ⟨rfl, rfl⟩)
  go_ret
  exact ⟨rfl, rfl⟩
theorem now_q (g : Nat) (s : B) (hf : 0 < s.f) (w0 w : World) (hI : IsB w0 w g s) : Calls Try.prog 25 #[.pointer (some ⟨g, 0, none⟩)] w fun e w' => e = .returned (.int .i64 s.nw) ∧ w' = w := by
  have HI := Aside0.mk hI
  have HF := Aside0.mk hf
  obtain ⟨HGz, hgz⟩ := hI
  have hc := cellS49_12 HGz
  clear HGz hgz hf
  go_enter Try.func25, Try.ntmps25
  go_wp2_with (go_at_call 27; (with_reducible refine (ok_q g s HF.out w0 _ HI.out).mono ?_); rintro e w1 ⟨rfl, rfl⟩)
  go_ret
  exact ⟨rfl, rfl⟩

/-! ### the pure side of BreakerEnds -/
theorem tick_up {t a : Int} (h : t ≤ a) (ha : a ≤ 1099511627776) : tick t a = a := by unfold tick mx; (repeat' split) <;> omega
theorem later_stay {s : B} {a : Int} (h : s.st ≠ 1 ∨ tick s.nw a < s.un) : laterV s a = { s with nw := tick s.nw a } := by
  unfold laterV; rw [if_neg (by omega)]
theorem later_half {s : B} {a : Int} (h : s.st = 1) (h' : s.un ≤ tick s.nw a) : laterV s a = { s with st := 2, gx := 0, gm := s.n % 4294967296, tr := false, nw := tick s.nw a } := by
  unfold laterV; rw [if_pos ⟨h, h'⟩]
structure Cst (f c m n : Int) (s : B) : Prop where
  (hf : s.f = f) (hc : s.c = c) (hm : s.m = m) (hn : s.n = n) (n0 : 0 ≤ s.nw) (c0 : c ≤ s.cl) (c1 : s.cl ≤ m)
structure Inv1 (f c m n : Int) (s : B) (now : Int) (i : Nat) : Prop where
  (cst : Cst f c m n s) (w0 : s.nw ≤ now) (w1 : now ≤ (i : Int) * 4294967296) (st : (s.st = 0 ∧ s.cl = c) ∨ (s.st = 2 ∧ s.gx = 0 ∧ s.gm = n ∧ s.tr = false))
theorem round1 {f c m n now : Int} {s : B} {i : Nat} (hv : Valid f c m n) (hi : i ≤ 100) (h : Inv1 f c m n s now i) :
    (∃ s1 s2, failV s now = s1 ∧ laterV s1 now = s2 ∧ s2.st = 0 ∧ Cst f c m n s1 ∧ Inv1 f c m n s2 now (i + 1)) ∨
    (∃ s1 s2 s3, failV s now = s1 ∧ laterV s1 now = s2 ∧ s2.st = 1 ∧ laterV s2 (now + m) = s3 ∧ s3.st = 2 ∧ Cst f c m n s1 ∧ Cst f c m n s2 ∧ Inv1 f c m n s3 (now + m) (i + 1)) := by
  obtain ⟨⟨hf, hc, hm, hn, n0, c0, c1⟩, w0, w1, st⟩ := h
  obtain ⟨v1, v2, v3, v4, v5, v6, v7⟩ := hv
  have ht : tick s.nw now = now := tick_up w0 (by omega)
  have hl : laterV s now = { s with nw := now } := by rw [later_stay (.inl (by omega)), ht]
  -- what opens is half open behind Most
  have key : ∀ x : Int, ∃ s1 s2 s3, openV { s with nw := now, fx := x } = s1 ∧ laterV s1 now = s2 ∧ s2.st = 1 ∧ laterV s2 (now + m) = s3 ∧ s3.st = 2 ∧ Cst f c m n s1 ∧ Cst f c m n s2 ∧ Inv1 f c m n s3 (now + m) (i + 1) := by
    intro x
    have t1 : tick now now = now := tick_up (Int.le_refl _) (by omega)
    have t2 : tick now (now + m) = now + m := tick_up (by omega) (by omega)
    have hmn : mn (2 * s.cl) s.m ≤ m ∧ c ≤ mn (2 * s.cl) s.m := by unfold mn; split <;> omega
    have e1 : laterV (openV { s with nw := now, fx := x }) now = openV { s with nw := now, fx := x } := by
      rw [later_stay (.inr (by show tick now now < now + s.cl; rw [t1]; omega))]
      show { openV { s with nw := now, fx := x } with nw := tick now now } = _
      rw [t1]; rfl
    refine ⟨_, _, _, rfl, rfl, ?_, rfl, ?_, ?_, ?_, ?_⟩
    · rw [e1]; rfl
    · rw [e1, later_half rfl (by show now + s.cl ≤ tick now (now + m); rw [t2]; omega)]
    · exact ⟨hf, hc, hm, hn, by show 0 ≤ now; omega, hmn.2, hmn.1⟩
    · rw [e1]; exact ⟨hf, hc, hm, hn, by show 0 ≤ now; omega, hmn.2, hmn.1⟩
    · rw [e1, later_half rfl (by show now + s.cl ≤ tick now (now + m); rw [t2]; omega)]
      refine ⟨⟨hf, hc, hm, hn, by show 0 ≤ tick now (now + m); rw [t2]; omega, hmn.2, hmn.1⟩, by show tick now (now + m) ≤ now + m; rw [t2]; omega, by omega, .inr ⟨rfl, rfl, ?_, rfl⟩⟩
      show s.n % 4294967296 = n
      omega
  rcases st with ⟨s0, sc⟩ | ⟨s2, sg, sm, sr⟩
  · have hs0 : (laterV s now).st = 0 := by rw [hl]; exact s0
    by_cases hu : up (laterV s now).fx (laterV s now).fm = (laterV s now).fm
    · right
      have := key (up s.fx s.fm)
      unfold failV
      rw [if_neg (by omega), if_pos hs0, if_pos hu, hl]; exact this
    · left
      have e : failV s now = { s with nw := now, fx := up s.fx s.fm } := by
        unfold failV
        rw [if_neg (by omega), if_pos hs0, if_neg hu, hl]
      have t1 : tick now now = now := tick_up (Int.le_refl _) (by omega)
      have e2 : laterV { s with nw := now, fx := up s.fx s.fm } now = { s with nw := now, fx := up s.fx s.fm } := by
        rw [later_stay (.inl (by show s.st ≠ 1; omega))]
        show { s with nw := tick now now, fx := up s.fx s.fm } = _
        rw [t1]
      refine ⟨_, _, e, rfl, ?_, ?_, ?_⟩
      · rw [e2]; exact s0
      · exact ⟨hf, hc, hm, hn, by show 0 ≤ now; omega, c0, c1⟩
      · rw [e2]; exact ⟨⟨hf, hc, hm, hn, by show 0 ≤ now; omega, c0, c1⟩, Int.le_refl _, by omega, .inl ⟨s0, sc⟩⟩
  · right
    have := key s.fx
    have hs2 : (laterV s now).st = 2 := by rw [hl]; exact s2
    unfold failV
    rw [if_neg (by omega), if_neg (by omega), hl]; exact this
structure Inv2 (f c m n : Int) (s : B) (now : Int) (j : Nat) : Prop where
  (cst : Cst f c m n s) (w0 : s.nw ≤ now) (w1 : now ≤ 500000000000) (st : (s.st = 0 ∧ s.cl = c) ∨ (s.st = 2 ∧ s.gx = j ∧ s.gm = n ∧ s.tr = false ∧ (j : Int) < n))
theorem round2 {f c m n now : Int} {s : B} {j : Nat} (hv : Valid f c m n) (hj : (j : Int) < n) (h : Inv2 f c m n s now j) :
    ∃ s1 s2, allowV s now = (true, s1) ∧ okV s1 now = s2 ∧ Cst f c m n s1 ∧ Inv2 f c m n s2 now (j + 1) := by
  obtain ⟨⟨hf, hc, hm, hn, n0, c0, c1⟩, w0, w1, st⟩ := h
  obtain ⟨v1, v2, v3, v4, v5, v6, v7⟩ := hv
  have ht : tick s.nw now = now := tick_up w0 (by omega)
  have t1 : tick now now = now := tick_up (Int.le_refl _) (by omega)
  have hl : laterV s now = { s with nw := now } := by rw [later_stay (.inl (by omega)), ht]
  rcases st with ⟨s0, sc⟩ | ⟨s2, sg, sm, sr, sj⟩
  · have e1 : allowV s now = (true, { s with nw := now }) := by unfold allowV; rw [hl, if_pos s0]
    have e2 : laterV { s with nw := now } now = { s with nw := now } := by
      rw [later_stay (.inl (by show s.st ≠ 1; omega))]
      show { s with nw := tick now now } = _
      rw [t1]
    refine ⟨_, _, e1, rfl, ⟨hf, hc, hm, hn, by show 0 ≤ now; omega, c0, c1⟩, ?_⟩
    unfold okV
    rw [e2, if_pos s0]
    exact ⟨⟨hf, hc, hm, hn, by show 0 ≤ now; omega, c0, c1⟩, Int.le_refl _, w1, .inl ⟨s0, sc⟩⟩
  · have e1 : allowV s now = (true, { s with nw := now, tr := true }) := by
      unfold allowV
      rw [hl, if_neg (by show ¬ s.st = 0; omega), if_pos s2]
      show (!s.tr, _) = _
      rw [sr]; rfl
    have e2 : laterV { s with nw := now, tr := true } now = { s with nw := now, tr := true } := by
      rw [later_stay (.inl (by show s.st ≠ 1; omega))]
      show { s with nw := tick now now, tr := true } = _
      rw [t1]
    have hup : up s.gx s.gm = (j : Int) + 1 := by
      unfold up mn; rw [sg, sm]; (repeat' split) <;> omega
    refine ⟨_, _, e1, rfl, ⟨hf, hc, hm, hn, by show 0 ≤ now; omega, c0, c1⟩, ?_⟩
    unfold okV
    rw [e2, if_neg (by show ¬ s.st = 0; omega), if_pos s2]
    by_cases hq : up s.gx s.gm = s.gm
    · rw [if_pos (by exact hq)]
      exact ⟨⟨hf, hc, hm, hn, by show 0 ≤ now; omega, by show c ≤ s.c; omega, by show s.c ≤ m; omega⟩, Int.le_refl _, w1, .inl ⟨rfl, hc⟩⟩
    · rw [if_neg (by exact hq)]
      refine ⟨⟨hf, hc, hm, hn, by show 0 ≤ now; omega, c0, c1⟩, Int.le_refl _, w1, .inr ⟨s2, ?_, sm, rfl, ?_⟩⟩
      · show up s.gx s.gm = ((j + 1 : Nat) : Int); rw [hup]; omega
      · rw [hup, sm] at hq; omega

/-! ### the walk of BreakerEnds -/
def Box (w : World) (g : Nat) (f c m n : Int) : Prop := w.heap[g]? = some (.cells #[.int .i64 f, .int .i64 c, .int .i64 m, .int .i64 n] 23 (0, 0))
theorem Box.read {w : World} {g : Nat} {f c m n : Int} (h : Box w g f c m n) : w.cell? ⟨g, 0, none⟩ = some (.int .i64 f) ∧ w.cell? ⟨g, 1, none⟩ = some (.int .i64 c) ∧ w.cell? ⟨g, 2, none⟩ = some (.int .i64 m) ∧ w.cell? ⟨g, 3, none⟩ = some (.int .i64 n) := box4 h
theorem Box.keep {w w' : World} {g k : Nat} {f c m n : Int} (h : Box w g f c m n) (hk : KeepBut w w' k none) (hn : g ≠ k) : Box w' g f c m n := hk.blk h hn (by simp)
theorem Box.below {w w' : World} {g : Nat} {f c m n : Int} (h : Box w g f c m n) (hb : Below w.heap.size w w') : Box w' g f c m n := blk_below h hb
theorem fail_s (g : Nat) (s s1 : B) (f c m n a : Int) (hv : Valid f c m n) (hc : Cst f c m n s) (ha : s.nw ≤ 1099511627776) (h : failV s a = s1) (w0 w : World) (hI : IsB w0 w g s) (hB : Below w0.heap.size w0 w) :
    Calls Try.prog 14 #[.pointer (some ⟨g, 0, none⟩), .int .i64 a] w fun e w' => e = .returned (.tuple #[]) ∧ IsB w0 w' g s1 ∧ Below w0.heap.size w0 w' ∧ KeepBut w w' g none := by
  obtain ⟨v1, v2, v3, v4, v5, v6, v7⟩ := hv
  have e1 := hc.hf; have e2 := hc.c0; have e3 := hc.c1; have e4 := hc.n0
  exact fail_e g s s1 a (by omega) (by omega) (by omega) (by omega) ha h w0 w hI hB
theorem pos_of {f c m n : Int} {s : B} (hv : Valid f c m n) (hc : Cst f c m n s) : 0 < s.f := by
  have := hv.1; have := hc.hf; omega
set_option maxHeartbeats 4000000 in
set_option maxRecDepth 100000 in
theorem ends_ok (f c m n k : Int) (hv : Valid f c m n) (hf5 : f ≤ 50) (hn5 : n ≤ 50) (hk0 : 0 ≤ k) (hk1 : k ≤ 255) (w : World) :
    Calls Try.prog 4 #[.agg #[.int .i64 f, .int .i64 c, .int .i64 m, .int .i64 n], .int .u8 k] w fun e w' => e = .returned (.bool true) ∧ Below w.heap.size w w' := by
  have HV := Aside0.mk hv
  obtain ⟨v1, v2, v3, v4, v5, v6, v7⟩ := hv
  have HB := Aside0.mk (below_alloc (Below.refl w.heap.size w) (.cells #[.int .i64 f, .int .i64 c, .int .i64 m, .int .i64 n] 23 (0, 0)))
  have HG := Aside0.mk (show Box (w.alloc (.cells #[.int .i64 f, .int .i64 c, .int .i64 m, .int .i64 n] 23 (0, 0))) w.heap.size f c m n from blk_new _ _)
  have hu23 := Try.underlying23
  go_enter Try.func4, Try.ntmps4
  go_wp2_with (first | (go_at_call 8; (with_reducible refine (theirs_c f c m n _).mono ?_); rintro e w1 ⟨rfl, hb⟩; have n1_ := Aside0.mk (below_step HB.out hb); have n2_ := Aside0.mk (HG.out.below hb); clear HB HG hb; have HB := n1_; have HG := n2_; clear n1_ n2_) | (go_at_call 7; (with_reducible refine (new_ok f c m n HV.out _).mono ?_); rintro e w2 ⟨g, rfl, hi, hb⟩; have n0_ := Aside0.mk (hi.lower HB.out.size); have HN := Aside0.mk (show w.heap.size ≠ g from Nat.ne_of_lt (Nat.lt_of_lt_of_le (blk_lt HG.out) hi.2)); have n1_ := Aside0.mk (below_step HB.out hb); have n2_ := Aside0.mk (HG.out.below hb); clear HB HG hb hi; have HI := n0_; have HB := n1_; have HG := n2_; clear n0_ n1_ n2_; obtain ⟨hg0, hg1, hg2, hg3⟩ := HG.out.read))
  have HT := Aside0.mk (show 0 ≤ k % 10 + f ∧ k % 10 + f ≤ 60 from by omega)
  clear hg0 hg1 hg2 hg3
  go_loopw [7, 40] (fun vn vi wr => ∃ (i : Nat) (now : Int) (s : B), vi = .int .i64 i ∧ vn = .int .i64 now ∧ Aside0 ((i : Int) ≤ k % 10 + f) ∧ Aside0 (Inv1 f c m n s now i) ∧ Aside0 (IsB w wr g s) ∧ Aside0 (Below w.heap.size w wr) ∧ Aside0 (Box wr w.heap.size f c m n)) (fun _ vi _ => (k % 10 + f - intOf vi).toNat)
  case atStart => exact ⟨0, 0, _, rfl, rfl, ⟨HT.out.1⟩, ⟨⟨⟨rfl, rfl, rfl, rfl, Int.le_refl _, Int.le_refl _, v6⟩, Int.le_refl _, by omega, .inl ⟨rfl, rfl⟩⟩⟩, HI, HB, HG⟩
  case round =>
    clear HI HB HG
    obtain ⟨i, now, s, rfl, rfl, HL, HS, HI, HB, HG⟩ := hrel
    obtain ⟨hg0, hg1, hg2, hg3⟩ := HG.out.read
    have t0 := HT.out.2
    have l0 := HL.out
    have nn0 : 0 ≤ now := Int.le_trans HS.out.cst.n0 HS.out.w0
    have nn1 : now ≤ 300000000000 := by have := HS.out.w1; omega
    by_cases hlt : (i : Int) < k % 10 + f
    · rcases round1 HV.out (by omega) HS.out with ⟨s1, s2, e1, e2, z2, c1, iv⟩ | ⟨s1, s2, s3, e1, e2, z2, e3, z3, c1, c2, iv⟩
      · have E1 := Aside0.mk e1; have E2 := Aside0.mk e2; have Z2 := Aside0.mk z2; have C1 := Aside0.mk c1; have IV := Aside0.mk iv
        have q0 : ¬ s2.cl < c := by have := iv.cst.c0; omega
        have q1 : ¬ m < s2.cl := by have := iv.cst.c1; omega
        have P1 := Aside0.mk (pos_of HV.out c1); have P2 := Aside0.mk (pos_of HV.out iv.cst)
        have T1 := Aside0.mk (show s.nw ≤ 1099511627776 from by have := HS.out.w0; omega)
        clear e1 e2 z2 c1 iv
        go_wp2_with (first | (go_at_call 14; (with_reducible refine (fail_s g s s1 f c m n now HV.out HS.out.cst T1.out E1.out w _ HI.out HB.out).mono ?_); rintro e w9 ⟨rfl, hi, hb, hk⟩; have n0_ := Aside0.mk hi; have n1_ := Aside0.mk hb; have n2_ := Aside0.mk (HG.out.keep hk HN.out); clear HI HB HG hi hb hk; have HI := n0_; have HB := n1_; have HG := n2_; clear n0_ n1_ n2_; obtain ⟨hg0, hg1, hg2, hg3⟩ := HG.out.read) | (go_at_call 11; (with_reducible refine (state_e g s1 s2 now 0 P1.out E2.out Z2.out w _ HI.out HB.out).mono ?_); rintro e w9 ⟨rfl, hi, hb, hk⟩; have n0_ := Aside0.mk hi; have n1_ := Aside0.mk hb; have n2_ := Aside0.mk (HG.out.keep hk HN.out); clear HI HB HG hi hb hk; have HI := n0_; have HB := n1_; have HG := n2_; clear n0_ n1_ n2_; obtain ⟨hg0, hg1, hg2, hg3⟩ := HG.out.read))
        go_quiet ((go_at_call 16; exact Calls.quiet_of_same (cool_q g s2 P2.out w _ (IsS49.drewN HI.out _))))
        go_wp2_with fail
        go_roundw
        case rel => exact ⟨i + 1, now, s2, by go_num, rfl, ⟨by omega⟩, IV, ⟨IsS49.drewN HI.out _⟩, ⟨pw_below_drewN HB.out _⟩, ⟨blk_drewN HG.out _⟩⟩
        case measure => simp [intOf]; omega
      · have E1 := Aside0.mk e1; have E2 := Aside0.mk e2; have E3 := Aside0.mk e3; have Z2 := Aside0.mk z2; have Z3 := Aside0.mk z3; have IV := Aside0.mk iv
        have q0 : ¬ s3.cl < c := by have := iv.cst.c0; omega
        have q1 : ¬ m < s3.cl := by have := iv.cst.c1; omega
        have P1 := Aside0.mk (pos_of HV.out c1); have P2 := Aside0.mk (pos_of HV.out c2); have P3 := Aside0.mk (pos_of HV.out iv.cst)
        have T1 := Aside0.mk (show s.nw ≤ 1099511627776 from by have := HS.out.w0; omega)
        clear e1 e2 e3 z2 z3 c1 c2 iv
        go_wp2_with (first | (go_at_call 14; (with_reducible refine (fail_s g s s1 f c m n now HV.out HS.out.cst T1.out E1.out w _ HI.out HB.out).mono ?_); rintro e w9 ⟨rfl, hi, hb, hk⟩; have n0_ := Aside0.mk hi; have n1_ := Aside0.mk hb; have n2_ := Aside0.mk (HG.out.keep hk HN.out); clear HI HB HG hi hb hk; have HI := n0_; have HB := n1_; have HG := n2_; clear n0_ n1_ n2_; obtain ⟨hg0, hg1, hg2, hg3⟩ := HG.out.read) | (go_at_call 11; (with_reducible refine (state_e g s1 s2 now 1 P1.out E2.out Z2.out w _ HI.out HB.out).mono ?_); rintro e w9 ⟨rfl, hi, hb, hk⟩; have n0_ := Aside0.mk hi; have n1_ := Aside0.mk hb; have n2_ := Aside0.mk (HG.out.keep hk HN.out); clear HI HB HG hi hb hk; have HI := n0_; have HB := n1_; have HG := n2_; clear n0_ n1_ n2_; obtain ⟨hg0, hg1, hg2, hg3⟩ := HG.out.read) | (go_at_call 11; (with_reducible refine (state_e g s2 s3 (now + m) 2 P2.out E3.out Z3.out w _ HI.out HB.out).mono ?_); rintro e w9 ⟨rfl, hi, hb, hk⟩; have n0_ := Aside0.mk hi; have n1_ := Aside0.mk hb; have n2_ := Aside0.mk (HG.out.keep hk HN.out); clear HI HB HG hi hb hk; have HI := n0_; have HB := n1_; have HG := n2_; clear n0_ n1_ n2_; obtain ⟨hg0, hg1, hg2, hg3⟩ := HG.out.read))
        go_quiet ((go_at_call 16; exact Calls.quiet_of_same (cool_q g s3 P3.out w _ (IsS49.drewN HI.out _))))
        go_wp2_with fail
        go_roundw
        case rel => exact ⟨i + 1, now + m, s3, by go_num, rfl, ⟨by omega⟩, IV, ⟨IsS49.drewN HI.out _⟩, ⟨pw_below_drewN HB.out _⟩, ⟨blk_drewN HG.out _⟩⟩
        case measure => simp [intOf]; omega
    · go_wp2_with fail
      have HS2 := Aside0.mk (show Inv2 f c m n s now 0 from ⟨HS.out.cst, HS.out.w0, by omega, HS.out.st.elim .inl (fun h => .inr ⟨h.1, h.2.1, h.2.2.1, h.2.2.2, by omega⟩)⟩)
      clear hlt HS l0 HL hg0 hg1 hg2 hg3
      go_loopw [72] (fun vi wr => ∃ (j : Nat) (s : B), vi = .int .i64 j ∧ Aside0 ((j : Int) ≤ n) ∧ Aside0 (Inv2 f c m n s now j) ∧ Aside0 (IsB w wr g s) ∧ Aside0 (Below w.heap.size w wr) ∧ Aside0 (Box wr w.heap.size f c m n)) (fun vi _ => (n - intOf vi).toNat)
      case atStart => exact ⟨0, s, rfl, ⟨by omega⟩, HS2, HI, HB, HG⟩
      case round =>
        clear HI HB HG HS2
        obtain ⟨j, s, rfl, HL, HS, HI, HB, HG⟩ := hrel
        obtain ⟨hg0, hg1, hg2, hg3⟩ := HG.out.read
        have l0 := HL.out
        by_cases hlt : (j : Int) < n
        · obtain ⟨s1, s2, e1, e2, c1, iv⟩ := round2 HV.out hlt HS.out
          have E1 := Aside0.mk e1; have E2 := Aside0.mk e2; have IV := Aside0.mk iv
          have P0 := Aside0.mk (pos_of HV.out HS.out.cst); have P1 := Aside0.mk (pos_of HV.out c1)
          clear e1 e2 c1 iv
          go_wp2_with (first | (go_at_call 12; (with_reducible refine (allow_e g s s1 now true P0.out E1.out w _ HI.out HB.out).mono ?_); rintro e w9 ⟨rfl, hi, hb, hk⟩; have n0_ := Aside0.mk hi; have n1_ := Aside0.mk hb; have n2_ := Aside0.mk (HG.out.keep hk HN.out); clear HI HB HG hi hb hk; have HI := n0_; have HB := n1_; have HG := n2_; clear n0_ n1_ n2_; obtain ⟨hg0, hg1, hg2, hg3⟩ := HG.out.read) | (go_at_call 13; (with_reducible refine (okm_e g s1 s2 now P1.out E2.out w _ HI.out HB.out).mono ?_); rintro e w9 ⟨rfl, hi, hb, hk⟩; have n0_ := Aside0.mk hi; have n1_ := Aside0.mk hb; have n2_ := Aside0.mk (HG.out.keep hk HN.out); clear HI HB HG hi hb hk; have HI := n0_; have HB := n1_; have HG := n2_; clear n0_ n1_ n2_; obtain ⟨hg0, hg1, hg2, hg3⟩ := HG.out.read))
          go_roundw
          case rel => exact ⟨j + 1, s2, by go_num, ⟨by omega⟩, IV, HI, HB, HG⟩
          case measure => simp [intOf]; omega
        · obtain ⟨z0, z1⟩ : s.st = 0 ∧ s.cl = c := by
            rcases HS.out.st with h | ⟨h, h1, h2, h3, h4⟩
            · exact h
            · omega
          obtain ⟨s3, e3⟩ : ∃ s3, laterV s now = s3 := ⟨_, rfl⟩
          have z3 : s3.st = 0 := by rw [← e3, later_stay (.inl (by omega))]; exact z0
          have z4 : s3.cl = c := by rw [← e3, later_stay (.inl (by omega))]; exact z1
          have P0 := Aside0.mk (pos_of HV.out HS.out.cst)
          have P3 := Aside0.mk (show 0 < s3.f from by rw [← e3, later_stay (.inl (by omega))]; exact P0.out)
          have E3 := Aside0.mk e3; have Z3 := Aside0.mk z3
          have hcl : ∀ w', IsB w w' g s3 → Calls Try.prog 16 #[.pointer (some ⟨g, 0, none⟩)] w' fun e w'' => e = .returned (.int .i64 c) ∧ w'' = w' := fun w' h => by rw [← z4]; exact cool_q g s3 P3.out w w' h
          have HC := Aside0.mk hcl
          clear e3 z0 z1 z3 z4 hcl
          go_wp2_with fail
          have n0_ := Aside0.mk (show IsB w wr.drew g s from HI.out)
          have n1_ := Aside0.mk (show Below w.heap.size w wr.drew from below_drew HB.out)
          have n2_ := Aside0.mk (show Box wr.drew w.heap.size f c m n from HG.out)
          clear HI HB HG
          have HI := n0_; have HB := n1_; have HG := n2_
          clear n0_ n1_ n2_
          go_region_with (first | (go_at_call 11; (with_reducible refine (state_e g s s3 now 0 P0.out E3.out Z3.out w _ HI.out HB.out).mono ?_); rintro e w9 ⟨rfl, hi, hb, hk⟩; have n0_ := Aside0.mk hi; have n1_ := Aside0.mk hb; have n2_ := Aside0.mk (HG.out.keep hk HN.out); clear HI HB HG hi hb hk; have HI := n0_; have HB := n1_; have HG := n2_; clear n0_ n1_ n2_; obtain ⟨hg0, hg1, hg2, hg3⟩ := HG.out.read) | (go_at_call 16; (with_reducible refine (HC.out _ HI.out).mono ?_); rintro e w9 ⟨rfl, rfl⟩) | (go_at_call 9; (with_reducible refine (alive_c _).mono ?_); rintro e w9 ⟨rfl, hb⟩; have n1_ := Aside0.mk (below_step HB.out hb); have n2_ := Aside0.mk (HI.out.below hb); have n3_ := Aside0.mk (HG.out.below hb); clear HB HI HG hb; have HB := n1_; have HI := n2_; have HG := n3_; clear n1_ n2_ n3_))
          all_goals go_wp2_with fail
          all_goals go_ret
          all_goals exact ⟨rfl, HB.out⟩
set_option maxHeartbeats 4000000 in
set_option maxRecDepth 100000 in
theorem ends_far (f c m n k : Int) (hv : Valid f c m n) (hx : 50 < f ∨ (f ≤ 50 ∧ 50 < n)) (w : World) :
    Calls Try.prog 4 #[.agg #[.int .i64 f, .int .i64 c, .int .i64 m, .int .i64 n], .int .u8 k] w fun e w' => e = .returned (.bool true) ∧ Below w.heap.size w w' := by
  have HV := Aside0.mk hv
  obtain ⟨v1, v2, v3, v4, v5, v6, v7⟩ := hv
  have HB := Aside0.mk (below_alloc (Below.refl w.heap.size w) (.cells #[.int .i64 f, .int .i64 c, .int .i64 m, .int .i64 n] 23 (0, 0)))
  have HG := Aside0.mk (show Box (w.alloc (.cells #[.int .i64 f, .int .i64 c, .int .i64 m, .int .i64 n] 23 (0, 0))) w.heap.size f c m n from blk_new _ _)
  have hu23 := Try.underlying23
  rcases hx with hx | ⟨hx, hy⟩
  all_goals
   go_enter Try.func4, Try.ntmps4
   go_wp2_with (first | (go_at_call 8; (with_reducible refine (theirs_c f c m n _).mono ?_); rintro e w1 ⟨rfl, hb⟩; have n1_ := Aside0.mk (below_step HB.out hb); have n2_ := Aside0.mk (HG.out.below hb); clear HB HG hb; have HB := n1_; have HG := n2_; clear n1_ n2_) | (go_at_call 7; (with_reducible refine (new_ok f c m n HV.out _).mono ?_); rintro e w2 ⟨g, rfl, hi, hb⟩; have n0_ := Aside0.mk (hi.lower HB.out.size); have HN := Aside0.mk (show w.heap.size ≠ g from Nat.ne_of_lt (Nat.lt_of_lt_of_le (blk_lt HG.out) hi.2)); have n1_ := Aside0.mk (below_step HB.out hb); have n2_ := Aside0.mk (HG.out.below hb); clear HB HG hb hi; have HI := n0_; have HB := n1_; have HG := n2_; clear n0_ n1_ n2_; obtain ⟨hg0, hg1, hg2, hg3⟩ := HG.out.read) | (go_at_call 9; (with_reducible refine (alive_c _).mono ?_); rintro e w9 ⟨rfl, hb⟩; have n1_ := Aside0.mk (below_step HB.out hb); clear HB hb; have HB := n1_; clear n1_))
   go_ret
   exact ⟨rfl, HB.out⟩
theorem ends_c (f c m n k : Int) (hk0 : 0 ≤ k) (hk1 : k ≤ 255) (w : World) :
    Calls Try.prog 4 #[.agg #[.int .i64 f, .int .i64 c, .int .i64 m, .int .i64 n], .int .u8 k] w fun e w' => e = .returned (.bool true) ∧ Below w.heap.size w w' := by
  by_cases hv : Valid f c m n
  · by_cases h1 : 50 < f
    · exact ends_far f c m n k hv (.inl h1) w
    by_cases h2 : 50 < n
    · exact ends_far f c m n k hv (.inr ⟨by omega, h2⟩) w
    exact ends_ok f c m n k hv (by omega) (by omega) hk0 hk1 w
  · exact ends_no f c m n k hv w
end Go.Proofs.Ytkpablemeaaeoaa.Brk
