/- The breaker and the document's go side by side: what each call makes of both; no condition but those that stand in each. -/
import Derived.Test.YtkpablemeaaeoaaBrkEdges
namespace Go.Proofs.Ytkpablemeaaeoaa.Brk
set_option linter.unusedVariables false
set_option linter.unusedSimpArgs false
open Go.RowKit Go.Proofs.Ytkpablemeaaeoaa.PA Go.Proofs.YtkpablemeaaeoaaW.PrintWords Go.Proofs.YtkpablemeaaeoaaW.PrintLast Go.Proofs.YtkpablemeaaeoaaW.PrintMore Go.Proofs.Ytkpablemeaaeoaa.Base
structure Sim (f c m n : Int) (s : B) (r : R) : Prop where
  (cst : Cst f c m n s) (rf : r.f = f) (rc : r.c = c) (rm : r.m = m) (rn : r.n = n) (est : s.st = r.st) (ecl : s.cl = r.cl) (et : s.nw = r.t) (t1 : s.nw ≤ 1099511627776)
  (st : (s.st = 0 ∧ s.fx = r.ct ∧ s.fm = f ∧ 0 ≤ r.ct ∧ r.ct < f) ∨ (s.st = 1 ∧ s.un = r.un ∧ 0 ≤ r.ct ∧ r.ct ≤ 1000) ∨ (s.st = 2 ∧ s.gx = r.ct ∧ s.gm = n ∧ s.tr = r.tr ∧ 0 ≤ r.ct ∧ r.ct < n))
theorem rlaterV_eq (r : R) (a : Int) : rlaterV r a = if r.st = 1 ∧ r.un ≤ tick r.t a then { r with st := 2, ct := 0, tr := false, t := tick r.t a } else { r with t := tick r.t a } := by
  have e : (if a > r.t ∧ a ≤ 1099511627776 then a else r.t) = tick r.t a := by unfold tick mx; (repeat' split) <;> omega
  unfold rlaterV
  rw [e]
theorem tick_all {t a : Int} (h0 : 0 ≤ t) (h1 : t ≤ 1099511627776) : t ≤ tick t a ∧ tick t a ≤ 1099511627776 := by unfold tick mx; (repeat' split) <;> omega
theorem tick_tick (t a : Int) : tick (tick t a) a = tick t a := by unfold tick mx; (repeat' split) <;> omega
theorem later_later (s : B) (a : Int) : laterV (laterV s a) a = laterV s a := by
  by_cases h : s.st = 1 ∧ s.un ≤ tick s.nw a
  · rw [later_half h.1 h.2, later_stay (.inl (by show (2 : Int) ≠ 1; decide))]
    show { s with st := 2, gx := 0, gm := s.n % 4294967296, tr := false, nw := tick (tick s.nw a) a } = _
    rw [tick_tick]
  · rw [later_stay (s := s) (by omega), later_stay (by show s.st ≠ 1 ∨ tick (tick s.nw a) a < s.un; rw [tick_tick]; omega)]
    show { s with nw := tick (tick s.nw a) a } = _
    rw [tick_tick]
theorem sim_later {f c m n : Int} {s : B} {r : R} (hv : Valid f c m n) (h : Sim f c m n s r) (a : Int) : Sim f c m n (laterV s a) (rlaterV r a) := by
  obtain ⟨⟨hf, hc, hm, hn, n0, c0, c1⟩, rf, rc, rm, rn, est, ecl, et, t1, st⟩ := h
  obtain ⟨v1, v2, v3, v4, v5, v6, v7⟩ := hv
  have tk := tick_all (a := a) n0 t1
  rw [rlaterV_eq]
  by_cases hx : s.st = 1 ∧ s.un ≤ tick s.nw a
  · have hu : s.un = r.un := by omega
    rw [later_half hx.1 hx.2, if_pos ⟨by omega, by rw [← hu, ← et]; exact hx.2⟩]
    refine ⟨⟨hf, hc, hm, hn, by show 0 ≤ tick s.nw a; omega, c0, c1⟩, rf, rc, rm, rn, rfl, ecl, by show tick s.nw a = tick r.t a; rw [et], tk.2, .inr (.inr ⟨rfl, rfl, ?_, rfl, by show (0 : Int) ≤ 0; omega, by show (0 : Int) < n; omega⟩)⟩
    show s.n % 4294967296 = n
    omega
  · rw [later_stay (by omega), if_neg (by rw [← est, ← et]; omega)]
    exact ⟨⟨hf, hc, hm, hn, by show 0 ≤ tick s.nw a; omega, c0, c1⟩, rf, rc, rm, rn, est, ecl, by show tick s.nw a = tick r.t a; rw [et], tk.2, st⟩
theorem up_of {x m : Int} (h0 : 0 ≤ x) (h1 : x < m) (h2 : m ≤ 1000) : up x m = x + 1 := by unfold up mn; (repeat' split) <;> omega
theorem sim_allow {f c m n : Int} {s : B} {r : R} (hv : Valid f c m n) (h : Sim f c m n s r) (a : Int) : (allowV s a).1 = (rallowV r a).1 ∧ Sim f c m n (allowV s a).2 (rallowV r a).2 := by
  have h' := sim_later hv h a
  obtain ⟨s1, e1⟩ : ∃ s1, laterV s a = s1 := ⟨_, rfl⟩
  obtain ⟨r1, e2⟩ : ∃ r1, rlaterV r a = r1 := ⟨_, rfl⟩
  unfold allowV rallowV
  rw [e1, e2] at h' ⊢
  have h'' := h'
  obtain ⟨hcst, rf, rc, rm, rn, est, ecl, et, t1, st⟩ := h'
  rcases st with ⟨e, st⟩ | ⟨e, st⟩ | ⟨e, g1, g2, g3, g4, g5⟩
  · rw [if_pos e, if_neg (by omega), show (r1.st == 0) = true from by rw [← est, e]; rfl]; exact ⟨rfl, h''⟩
  · rw [if_neg (by omega), if_neg (by omega), if_neg (by omega), show (r1.st == 0) = false from by rw [← est, e]; rfl]; exact ⟨rfl, h''⟩
  · rw [if_neg (by omega), if_pos e]
    cases hr : r1.tr with
    | true =>
      rw [if_neg (by simp), show (r1.st == 0) = false from by rw [← est, e]; rfl]
      exact ⟨by show (!s1.tr) = false; rw [g3, hr]; rfl, ⟨hcst.hf, hcst.hc, hcst.hm, hcst.hn, hcst.n0, hcst.c0, hcst.c1⟩, rf, rc, rm, rn, est, ecl, et, t1, .inr (.inr ⟨e, g1, g2, hr.symm, g4, g5⟩)⟩
    | false =>
      rw [if_pos ⟨by omega, rfl⟩]
      exact ⟨by show (!s1.tr) = true; rw [g3, hr]; rfl, ⟨hcst.hf, hcst.hc, hcst.hm, hcst.hn, hcst.n0, hcst.c0, hcst.c1⟩, rf, rc, rm, rn, est, ecl, et, t1, .inr (.inr ⟨e, g1, g2, rfl, g4, g5⟩)⟩
theorem sim_ok {f c m n : Int} {s : B} {r : R} (hv : Valid f c m n) (h : Sim f c m n s r) (a : Int) : Sim f c m n (okV s a) (rokV r a) := by
  have h' := sim_later hv h a
  obtain ⟨s1, e1⟩ : ∃ s1, laterV s a = s1 := ⟨_, rfl⟩
  obtain ⟨r1, e2⟩ : ∃ r1, rlaterV r a = r1 := ⟨_, rfl⟩
  unfold okV rokV
  rw [e1, e2] at h' ⊢
  have h'' := h'
  obtain ⟨⟨hf, hc, hm, hn, n0, c0, c1⟩, rf, rc, rm, rn, est, ecl, et, t1, st⟩ := h'
  obtain ⟨v1, v2, v3, v4, v5, v6, v7⟩ := hv
  rcases st with ⟨e, g1, g2, g4, g5⟩ | ⟨e, st⟩ | ⟨e, g1, g2, g3, g4, g5⟩
  · rw [if_pos e, if_pos (by omega)]
    exact ⟨⟨hf, hc, hm, hn, n0, c0, c1⟩, rf, rc, rm, rn, est, ecl, et, t1, .inl ⟨e, rfl, by show s1.f % 4294967296 = f; omega, by show (0 : Int) ≤ 0; omega, by show (0 : Int) < f; omega⟩⟩
  · rw [if_neg (by omega), if_neg (by omega), if_neg (by omega), if_neg (by omega)]; exact h''
  · have hup := up_of (m := s1.gm) (x := s1.gx) (by omega) (by omega) (by omega)
    have hw : wrap64 (r1.ct + 1) = r1.ct + 1 := w64 (by omega) (by omega)
    by_cases hq : s1.gx + 1 = s1.gm
    · rw [if_neg (by omega), if_pos e, hup, if_pos hq, if_neg (by omega), if_pos (by omega), hw, if_pos (by omega)]
      exact ⟨⟨hf, hc, hm, hn, n0, by show c ≤ s1.c; omega, by show s1.c ≤ m; omega⟩, rf, rc, rm, rn, rfl, by show s1.c = r1.c; omega, et, t1, .inl ⟨rfl, rfl, by show s1.f % 4294967296 = f; omega, by show (0 : Int) ≤ 0; omega, by show (0 : Int) < f; omega⟩⟩
    · rw [if_neg (by omega), if_pos e, hup, if_neg hq, if_neg (by omega), if_pos (by omega), hw, if_neg (by omega)]
      exact ⟨⟨hf, hc, hm, hn, n0, c0, c1⟩, rf, rc, rm, rn, est, ecl, et, t1, .inr (.inr ⟨e, by show s1.gx + 1 = r1.ct + 1; omega, g2, rfl, by show 0 ≤ r1.ct + 1; omega, by show r1.ct + 1 < n; omega⟩)⟩
theorem sim_leave {f c m n : Int} {s : B} {r : R} (hv : Valid f c m n) (h : Sim f c m n s r) (a : Int) : Sim f c m n (leaveV s a) (rleaveV r a) := by
  have h' := sim_later hv h a
  obtain ⟨s1, e1⟩ : ∃ s1, laterV s a = s1 := ⟨_, rfl⟩
  obtain ⟨r1, e2⟩ : ∃ r1, rlaterV r a = r1 := ⟨_, rfl⟩
  unfold leaveV rleaveV
  rw [e1, e2] at h' ⊢
  have h'' := h'
  obtain ⟨hcst, rf, rc, rm, rn, est, ecl, et, t1, st⟩ := h'
  by_cases e : s1.st = 2
  · rw [if_pos e, if_pos (by omega)]
    refine ⟨⟨hcst.hf, hcst.hc, hcst.hm, hcst.hn, hcst.n0, hcst.c0, hcst.c1⟩, rf, rc, rm, rn, est, ecl, et, t1, ?_⟩
    rcases st with ⟨e', _⟩ | ⟨e', _⟩ | ⟨e', g1, g2, g3, g4, g5⟩
    · omega
    · omega
    · exact .inr (.inr ⟨e, g1, g2, rfl, g4, g5⟩)
  · rw [if_neg e, if_neg (by omega)]; exact h''
theorem sim_open {f c m n : Int} {s : B} {r : R} (hv : Valid f c m n) (hcst : Cst f c m n s) (rf : r.f = f) (rc : r.c = c) (rm : r.m = m) (rn : r.n = n) (ecl : s.cl = r.cl) (et : s.nw = r.t) (t1 : s.nw ≤ 1099511627776) (h0 : 0 ≤ r.ct) (h1 : r.ct ≤ 1000) : Sim f c m n (openV s) (ropenV r) := by
  obtain ⟨hf, hc, hm, hn, n0, c0, c1⟩ := hcst
  obtain ⟨v1, v2, v3, v4, v5, v6, v7⟩ := hv
  have hmn : mn (2 * s.cl) s.m ≤ m ∧ c ≤ mn (2 * s.cl) s.m := by unfold mn; split <;> omega
  exact ⟨⟨hf, hc, hm, hn, n0, hmn.2, hmn.1⟩, rf, rc, rm, rn, rfl, by show mn (2 * s.cl) s.m = mn (2 * r.cl) r.m; rw [ecl, hm, rm], et, t1, .inr (.inl ⟨rfl, by show s.nw + s.cl = r.t + r.cl; omega, h0, h1⟩)⟩
theorem sim_fail {f c m n : Int} {s : B} {r : R} (hv : Valid f c m n) (h : Sim f c m n s r) (a : Int) : Sim f c m n (failV s a) (rfailV r a) := by
  have h' := sim_later hv h a
  obtain ⟨s1, e1⟩ : ∃ s1, laterV s a = s1 := ⟨_, rfl⟩
  obtain ⟨r1, e2⟩ : ∃ r1, rlaterV r a = r1 := ⟨_, rfl⟩
  unfold failV rfailV
  rw [e1, e2] at h' ⊢
  have h'' := h'
  obtain ⟨hcst, rf, rc, rm, rn, est, ecl, et, t1, st⟩ := h'
  have hv' := hv
  obtain ⟨v1, v2, v3, v4, v5, v6, v7⟩ := hv
  rcases st with ⟨e, g1, g2, g4, g5⟩ | ⟨e, st⟩ | ⟨e, g1, g2, g3, g4, g5⟩
  · have hup := up_of (m := s1.fm) (x := s1.fx) (by omega) (by omega) (by omega)
    by_cases hq : s1.fx + 1 = s1.fm
    · rw [if_neg (by omega), if_pos e, hup, if_pos hq, if_neg (by omega), if_pos (by omega), if_neg (by omega)]
      exact sim_open (s := { s1 with fx := s1.fx + 1 }) (r := { r1 with ct := r1.ct + 1 }) hv' ⟨hcst.hf, hcst.hc, hcst.hm, hcst.hn, hcst.n0, hcst.c0, hcst.c1⟩ rf rc rm rn ecl et t1 (by show 0 ≤ r1.ct + 1; omega) (by show r1.ct + 1 ≤ 1000; omega)
    · rw [if_neg (by omega), if_pos e, hup, if_neg hq, if_neg (by omega), if_pos (by omega), if_pos (by omega)]
      exact ⟨⟨hcst.hf, hcst.hc, hcst.hm, hcst.hn, hcst.n0, hcst.c0, hcst.c1⟩, rf, rc, rm, rn, est, ecl, et, t1, .inl ⟨e, by show s1.fx + 1 = r1.ct + 1; omega, g2, by show 0 ≤ r1.ct + 1; omega, by show r1.ct + 1 < f; omega⟩⟩
  · rw [if_pos e, if_pos (by omega)]; exact h''
  · rw [if_neg (by omega), if_neg (by omega), if_neg (by omega), if_neg (by omega)]
    exact sim_open hv' hcst rf rc rm rn ecl et t1 g4 (by omega)
def newB (f c m n : Int) : B := ⟨f, c, m, n, 0, 0, f, 0, 0, c, 0, false, 0⟩
def newR (f c m n t : Int) : R := ⟨f, c, m, n, 0, 0, c, 0, false, t⟩
theorem sim_new {f c m n : Int} (hv : Valid f c m n) : Sim f c m n (newB f c m n) (newR f c m n 0) :=
  ⟨⟨rfl, rfl, rfl, rfl, by show (0 : Int) ≤ 0; decide, Int.le_refl _, hv.2.2.2.2.2.1⟩, rfl, rfl, rfl, rfl, rfl, rfl, rfl, by show (0 : Int) ≤ 1099511627776; decide, .inl ⟨rfl, rfl, rfl, by show (0 : Int) ≤ 0; decide, hv.1⟩⟩
theorem sim_reset {f c m n : Int} {s : B} {r : R} (hv : Valid f c m n) (h : Sim f c m n s r) : Sim f c m n (closeV s) (newR f c m n r.t) := by
  obtain ⟨⟨hf, hc, hm, hn, n0, c0, c1⟩, rf, rc, rm, rn, est, ecl, et, t1, st⟩ := h
  obtain ⟨v1, v2, v3, v4, v5, v6, v7⟩ := hv
  exact ⟨⟨hf, hc, hm, hn, n0, by show c ≤ s.c; omega, by show s.c ≤ m; omega⟩, rfl, rfl, rfl, rfl, rfl, hc, et, t1, .inl ⟨rfl, rfl, by show s.f % 4294967296 = f; omega, by show (0 : Int) ≤ 0; decide, v1⟩⟩
/-- Behind the two, the comparing: the time once more. -/
theorem sim_end {f c m n : Int} {s : B} {r : R} (hv : Valid f c m n) (h : Sim f c m n s r) (a : Int) : ∃ s3 r3, laterV s a = s3 ∧ rlaterV r a = r3 ∧ Sim f c m n s3 r3 ∧ s3.st = r3.st ∧ s3.cl = r3.cl ∧ s3.nw = r3.t ∧ 0 < s.f ∧ 0 < s3.f := by
  have h' := sim_later hv h a
  exact ⟨_, _, rfl, rfl, h', h'.est, h'.ecl, h'.et, pos_of hv h.cst, pos_of hv h'.cst⟩
end Go.Proofs.Ytkpablemeaaeoaa.Brk
