/- alive, and PageNobody: a pool that nobody made answers an error, and has nothing; the walk; no condition. -/
import Derived.Test.YtiekmjkeoicjfaaPgS
namespace Go.Proofs.Ytiekmjkeoicjfaa.Pg
set_option linter.unusedVariables false
set_option linter.unusedSimpArgs false
open Go.RowKit Go.Proofs.YtiekmjkeoicjfaaW.PrintWords Go.Proofs.YtiekmjkeoicjfaaW.PrintLast Go.Proofs.YtiekmjkeoicjfaaW.PrintMore Go.Proofs.Ytiekmjkeoicjfaa.Lst Go.Proofs.Ytiekmjkeoicjfaa.Heap
attribute [local go_sem] max2_int min2_int max_two min_two max_three min_three max_four min_four
theorem IsP.of_ {w0 w w' : World} {g : Nat} {vh v : Value} {p q : PS} (h : IsP w w' g vh v p) (hB : Below w0.heap.size w0 w) (e : p = q) : IsP w0 w' g vh v q := by
  subst e
  exact ⟨⟨h.1.1, h.fl.lower hB.size⟩, h.hl.lower hB.size, h.2.2.1, Nat.le_trans hB.size h.ge⟩
theorem take_ok {p : PS} (hO : Ok p) {x e : Int} {p' : PS} (h : takeV p = ((x, e), p')) : Ok p' := (take_sim hO h (rfl : dtakeV p.held = (((dtakeV p.held).1.1, (dtakeV p.held).1.2), (dtakeV p.held).2))).2.2.2.1
theorem drop_ok {p : PS} (hO : Ok p) (n : Int) {r : Bool} {e : Int} {p' : PS} (h : dropV p n = ((r, e), p')) : Ok p' := (drop_sim hO n h (rfl : ddropV p.held n = (((ddropV p.held n).1.1, (ddropV p.held n).1.2), (ddropV p.held n).2))).2.2.2.1
set_option maxHeartbeats 8000000 in
theorem alive_c (w : World) : Calls Try.prog 8 #[] w fun e w' => e = .returned (.bool true) ∧ Below w.heap.size w w' := by
  obtain ⟨p0, h0⟩ : ∃ p, newV 2 = p := ⟨_, rfl⟩
  have o0 : Ok p0 := by rw [← h0]; exact new_ok (by decide) (by decide)
  obtain ⟨p1, h1⟩ : ∃ p, takeV p0 = ((0, 0), p) := ⟨(takeV p0).2, by rw [← h0]; rfl⟩
  have q1 : p1 = (takeV p0).2 := by rw [h1]
  obtain ⟨p2, h2⟩ : ∃ p, takeV p1 = ((1, 0), p) := ⟨(takeV p1).2, by rw [q1, ← h0]; rfl⟩
  have q2 : p2 = (takeV p1).2 := by rw [h2]
  obtain ⟨p3, h3⟩ : ∃ p, dropV p2 0 = ((true, 0), p) := ⟨(dropV p2 0).2, by rw [q2, q1, ← h0]; rfl⟩
  have q3 : p3 = (dropV p2 0).2 := by rw [h3]
  obtain ⟨p4, h4⟩ : ∃ p, takeV p3 = ((0, 0), p) := ⟨(takeV p3).2, by rw [q3, q2, q1, ← h0]; rfl⟩
  have q4 : p4 = (takeV p3).2 := by rw [h4]
  have h5 : p4.free.length = 0 := by rw [q4, q3, q2, q1, ← h0]; rfl
  have o1 := take_ok o0 h1
  have o2 := take_ok o1 h2
  have o3 := drop_ok o2 0 h3
  have o4 := take_ok o3 h4
  have H0 := Aside0.mk h0
  have H1 := Aside0.mk (fun g vh v w' h hB => take_c w g vh v p0 o0 0 0 p1 h1 w' h hB)
  have H2 := Aside0.mk (fun g vh v w' h hB => take_c w g vh v p1 o1 1 0 p2 h2 w' h hB)
  have H3 := Aside0.mk (fun g vh v w' h hB => drop_c w g vh v p2 o2 0 true 0 p3 h3 w' h hB)
  have H4 := Aside0.mk (fun g vh v w' h hB => take_c w g vh v p3 o3 0 0 p4 h4 w' h hB)
  have H5 := Aside0.mk h5
  have H6 := Aside0.mk o4.h1
  have HB := Aside0.mk (Below.refl w.heap.size w)
  clear o0 o1 o2 o3 o4 h0 h1 h2 h3 h4 h5 q1 q2 q3 q4
  go_enter Try.func8, Try.ntmps8
  go_wp2_with (first | (go_at_call 6; (with_reducible refine (new_c 2 2 (by decide) (by decide) (by decide) _).mono ?_); rintro e w9 ⟨g, vh, v, rfl, hi, hb⟩; have HT := Aside0.mk (hi.of_ HB.out H0.out); have n1_ := Aside0.mk (below_step HB.out hb); clear HB hi hb; have HB := n1_; clear n1_) | (go_at_call 14; (with_reducible refine (H1.out _ _ _ _ HT.out HB.out).mono ?_); rintro e w9 ⟨rfl, hp⟩; obtain ⟨v9, hi, hb, _, _⟩ := hp; have n0_ := Aside0.mk hi; have n1_ := Aside0.mk hb; clear HT HB hi hb; have HT := n0_; have HB := n1_; clear n0_ n1_) | (go_at_call 14; (with_reducible refine (H2.out _ _ _ _ HT.out HB.out).mono ?_); rintro e w9 ⟨rfl, hp⟩; obtain ⟨v9, hi, hb, _, _⟩ := hp; have n0_ := Aside0.mk hi; have n1_ := Aside0.mk hb; clear HT HB hi hb; have HT := n0_; have HB := n1_; clear n0_ n1_) | (go_at_call 12; (with_reducible refine (H3.out _ _ _ _ HT.out HB.out).mono ?_); rintro e w9 ⟨rfl, hp⟩; obtain ⟨v9, hi, hb, _, _⟩ := hp; have n0_ := Aside0.mk hi; have n1_ := Aside0.mk hb; clear HT HB hi hb; have HT := n0_; have HB := n1_; clear n0_ n1_) | (go_at_call 14; (with_reducible refine (H4.out _ _ _ _ HT.out HB.out).mono ?_); rintro e w9 ⟨rfl, hp⟩; obtain ⟨v9, hi, hb, _, _⟩ := hp; have n0_ := Aside0.mk hi; have n1_ := Aside0.mk hb; clear HT HB hi hb; have HT := n0_; have HB := n1_; clear n0_ n1_) | (go_at_call 21; (with_reducible refine (free_c w _ _ _ p4 H6.out 0 H5.out _ HT.out).mono ?_); rintro e w9 ⟨rfl, rfl⟩))
  go_ret
  exact ⟨rfl, HB.out⟩
/-! ### what nobody made -/
def NoP (p : Option Addr) (w : World) : Prop := p = none ∨ ∃ g, p = some ⟨g, 0, none⟩ ∧ w.cell? ⟨g, 0, none⟩ = some (.slice none 0 0)
theorem ok_any (p : Option Addr) (w : World) (h : NoP p w) : Calls Try.prog 22 #[.pointer p] w fun e w' => e = .returned (.bool false) ∧ w = w' := by
  rcases h with rfl | ⟨g, rfl, h⟩
  · go_enter Try.func22, Try.ntmps22
    go_wp2_with fail
    go_ret
    exact ⟨rfl, rfl⟩
  · go_enter Try.func22, Try.ntmps22
    go_wp2_with fail
    go_ret
    exact ⟨rfl, rfl⟩
theorem NoP.below {p : Option Addr} {w w' : World} (h : NoP p w) (hb : Below w.heap.size w w') : NoP p w' := h.imp id fun ⟨g, e, c⟩ => ⟨g, e, pw_cell_below hb c⟩
theorem no_take (p : Option Addr) (w : World) (h : NoP p w) : Calls Try.prog 14 #[.pointer p] w fun e w' => e = .returned (.tuple #[.int .i64 0, .int .i64 2]) ∧ w = w' := by
  have H := Aside0.mk (ok_any p w h)
  clear h
  go_enter Try.func14, Try.ntmps14
  go_wp2_with (go_at_call 22; (with_reducible refine H.out.mono ?_); rintro e w9 ⟨rfl, rfl⟩)
  go_ret2
  exact ⟨rfl, rfl⟩
theorem no_drop (p : Option Addr) (n : Int) (w : World) (h : NoP p w) : Calls Try.prog 12 #[.pointer p, .int .i64 n] w fun e w' => e = .returned (.tuple #[.bool false, .int .i64 2]) ∧ w = w' := by
  have H := Aside0.mk (ok_any p w h)
  clear h
  go_enter Try.func12, Try.ntmps12
  go_wp2_with (go_at_call 22; (with_reducible refine H.out.mono ?_); rintro e w9 ⟨rfl, rfl⟩)
  go_ret2
  exact ⟨rfl, rfl⟩
theorem no_hold (p : Option Addr) (n : Int) (w : World) (h : NoP p w) : Calls Try.prog 10 #[.pointer p, .int .i64 n] w fun e w' => e = .returned (.int .i64 2) ∧ w = w' := by
  have H := Aside0.mk (ok_any p w h)
  clear h
  go_enter Try.func10, Try.ntmps10
  go_wp2_with (go_at_call 22; (with_reducible refine H.out.mono ?_); rintro e w9 ⟨rfl, rfl⟩)
  go_ret
  exact ⟨rfl, rfl⟩
theorem no_free (p : Option Addr) (w : World) (h : NoP p w) : Calls Try.prog 21 #[.pointer p] w fun e w' => e = .returned (.int .i64 0) ∧ w = w' := by
  have H := Aside0.mk (ok_any p w h)
  clear h
  go_enter Try.func21, Try.ntmps21
  go_wp2_with (go_at_call 22; (with_reducible refine H.out.mono ?_); rintro e w9 ⟨rfl, rfl⟩)
  go_ret
  exact ⟨rfl, rfl⟩
theorem no_used (p : Option Addr) (w : World) (h : NoP p w) : Calls Try.prog 19 #[.pointer p] w fun e w' => e = .returned (.slice none 0 0) ∧ w = w' := by
  have H := Aside0.mk (ok_any p w h)
  clear h
  go_enter Try.func19, Try.ntmps19
  go_wp2_with (go_at_call 22; (with_reducible refine H.out.mono ?_); rintro e w9 ⟨rfl, rfl⟩)
  go_ret
  exact ⟨rfl, rfl⟩
theorem no_held (p : Option Addr) (n : Int) (w : World) (h : NoP p w) : Calls Try.prog 16 #[.pointer p, .int .i64 n] w fun e w' => e = .returned (.int .i64 0) ∧ w = w' := by
  rcases h with rfl | ⟨g, rfl, h⟩
  · go_enter Try.func16, Try.ntmps16
    go_wp2_with fail
    go_ret
    exact ⟨rfl, rfl⟩
  · by_cases c : n < 0
    · have d1 : decide (n < 0) = true := decide_eq_true c
      clear c
      go_enter Try.func16, Try.ntmps16
      go_wp2_with fail
      go_ret
      exact ⟨rfl, rfl⟩
    · have d1 : decide (n < 0) = false := decide_eq_false c
      have d2 : decide (0 ≤ n) = true := decide_eq_true (by omega)
      clear c
      go_enter Try.func16, Try.ntmps16
      go_wp2_with fail
      go_ret
      exact ⟨rfl, rfl⟩
theorem zeroP (w : World) : (zeroValue 53).run Try.prog w = .ok (.agg #[.slice none 0 0, .slice none 0 0]) w := by kernel_rfl
set_option maxHeartbeats 16000000 in
set_option maxRecDepth 100000 in
theorem nobody_law (n : Int) (w : World) : Calls Try.prog 5 #[.int .i64 n] w fun e w' => e = .returned (.bool true) ∧ Below w.heap.size w w' := by
  have HA := Aside0.mk alive_c
  have hz := zeroP
  go_enter Try.func5, Try.ntmps5
  go_wp2_with fail
  obtain ⟨gz, hgz⟩ : ∃ gz, w.heap.size = gz := ⟨_, rfl⟩
  obtain ⟨gp, hgp⟩ : ∃ gp, w.heap.size + 1 = gp := ⟨_, rfl⟩
  have s1 : (w.alloc (.cells #[.slice none 0 0, .slice none 0 0] 53)).heap.size = w.heap.size + 1 := Array.size_push ..
  have b2 := blk_new w (.cells #[.slice none 0 0, .slice none 0 0] 53)
  have b3 := blk_new (w.alloc (.cells #[.slice none 0 0, .slice none 0 0] 53)) (.cells #[.pointer none, .pointer (some ⟨w.heap.size, 0, none⟩)] 23)
  have b2 := blk_alloc b2 (.cells #[.pointer none, .pointer (some ⟨w.heap.size, 0, none⟩)] 23)
  rw [s1, hgp] at b3
  have bel := below_alloc (below_alloc (Below.refl w.heap.size w) (.cells #[.slice none 0 0, .slice none 0 0] 53)) (.cells #[.pointer none, .pointer (some ⟨w.heap.size, 0, none⟩)] 23)
  have HW := Aside0.mk bel
  clear bel
  rw [hgz] at b2 b3
  rw [hgp]
  rw [hgz]
  obtain ⟨wz, hwz⟩ : ∃ wz, (w.alloc (.cells #[.slice none 0 0, .slice none 0 0] 53)).alloc (.cells #[.pointer none, .pointer (some ⟨gz, 0, none⟩)] 23) = wz := ⟨_, rfl⟩
  rw [hgz] at HW
  rw [hwz] at b2 b3 HW ⊢
  have HP0 := Aside0.mk (blk_cell b3 0); have HP1 := Aside0.mk (blk_cell b3 1)
  have HE := Aside0.mk (show wz.cell? ⟨gz, 0, none⟩ = some (.slice none 0 0) from blk_cell b2 0)
  have HB := Aside0.mk (Below.refl wz.heap.size wz)
  have HGZ := Aside0.mk hgz
  clear b2 b3 s1 hgp hwz hz hgz
  go_loopw [13] (fun v wr => (v = .int .i64 0 ∨ v = .int .i64 1 ∨ v = .int .i64 2) ∧ Aside0 (Below wz.heap.size wz wr)) (fun v _ => (2 - intOf v).toNat)
  case atStart => exact ⟨.inl rfl, HB⟩
  case round =>
    clear HB
    obtain ⟨hv, HB⟩ := hrel
    have p0 := pw_cell_below HB.out HP0.out; have p1 := pw_cell_below HB.out HP1.out
    rcases hv with rfl | rfl | rfl
    · have HN := Aside0.mk (show ∀ W : World, Below wz.heap.size wz W → NoP none W from fun W _ => Or.inl rfl)
      go_wp2_with (first | (go_at_call 14; (with_reducible refine (no_take _ _ (HN.out _ HB.out)).mono ?_); rintro e w9 ⟨rfl, rfl⟩) | (go_at_call 12; (with_reducible refine (no_drop _ _ _ (HN.out _ HB.out)).mono ?_); rintro e w9 ⟨rfl, rfl⟩) | (go_at_call 10; (with_reducible refine (no_hold _ _ _ (HN.out _ HB.out)).mono ?_); rintro e w9 ⟨rfl, rfl⟩) | (go_at_call 16; (with_reducible refine (no_held _ _ _ (HN.out _ HB.out)).mono ?_); rintro e w9 ⟨rfl, rfl⟩) | (go_at_call 21; (with_reducible refine (no_free _ _ (HN.out _ HB.out)).mono ?_); rintro e w9 ⟨rfl, rfl⟩) | (go_at_call 19; (with_reducible refine (no_used _ _ (HN.out _ HB.out)).mono ?_); rintro e w9 ⟨rfl, rfl⟩))
      go_roundw
      case rel => exact ⟨.inr (.inl rfl), HB⟩
      case measure => simp [intOf]
    · have HN := Aside0.mk (show ∀ W : World, Below wz.heap.size wz W → NoP (some ⟨gz, 0, none⟩) W from fun W hb => Or.inr ⟨gz, rfl, pw_cell_below hb HE.out⟩)
      go_wp2_with (first | (go_at_call 14; (with_reducible refine (no_take _ _ (HN.out _ HB.out)).mono ?_); rintro e w9 ⟨rfl, rfl⟩) | (go_at_call 12; (with_reducible refine (no_drop _ _ _ (HN.out _ HB.out)).mono ?_); rintro e w9 ⟨rfl, rfl⟩) | (go_at_call 10; (with_reducible refine (no_hold _ _ _ (HN.out _ HB.out)).mono ?_); rintro e w9 ⟨rfl, rfl⟩) | (go_at_call 16; (with_reducible refine (no_held _ _ _ (HN.out _ HB.out)).mono ?_); rintro e w9 ⟨rfl, rfl⟩) | (go_at_call 21; (with_reducible refine (no_free _ _ (HN.out _ HB.out)).mono ?_); rintro e w9 ⟨rfl, rfl⟩) | (go_at_call 19; (with_reducible refine (no_used _ _ (HN.out _ HB.out)).mono ?_); rintro e w9 ⟨rfl, rfl⟩))
      go_roundw
      case rel => exact ⟨.inr (.inr rfl), HB⟩
      case measure => simp [intOf]
    · go_wp2_with (first | (go_at_call 8; (with_reducible refine (HA.out _).mono ?_); rintro e w9 ⟨rfl, hb⟩; have n1_ := Aside0.mk (below_step HB.out hb); clear HB hb; have HB := n1_; clear n1_))
      go_ret
      exact ⟨rfl, below_step (by rw [HGZ.out]; exact HW.out) HB.out⟩
end Go.Proofs.Ytiekmjkeoicjfaa.Pg
