/- alive, and WheelNobody: a wheel that nobody made answers an error, and has nothing; the walk; no condition. -/
import Derived.Test.YtpkilechkoiffaaWhG
namespace Go.Proofs.Ytpkilechkoiffaa.Wh
set_option linter.unusedVariables false
set_option linter.unusedSimpArgs false
open Go.RowKit Go.Proofs.YtpkilechkoiffaaW.PrintWords Go.Proofs.YtpkilechkoiffaaW.PrintLast Go.Proofs.YtpkilechkoiffaaW.PrintMore Go.Proofs.Ytpkilechkoiffaa.Lst Go.Proofs.Ytpkilechkoiffaa.Heap Go.Proofs.Ytpkilechkoiffaa.TabL
attribute [local go_sem] max2_int min2_int max_two min_two max_three min_three max_four min_four
set_option maxHeartbeats 8000000 in
theorem alive_c (w : World) : Calls Try.prog 12 #[] w fun e w' => e = .returned (.bool true) ∧ Below w.heap.size w w' := by
  go_enter Try.func12, Try.ntmps12
  go_wp2_with (first | (go_at_call 6; (with_reducible refine (new_v _).mono ?_); rintro e w9 ⟨g, F, rfl, hi, hb⟩; have HT := Aside0.mk hi; have HB := Aside0.mk hb; clear hi hb) | (go_at_call 10; (with_reducible refine (set_v w _ _ _ _ _ _ (by decide) (by decide) 0 5 1 7 (by decide) 0 (by decide) 1 (by decide) 5 (by decide) _ HT.out HB.out).mono ?_); rintro e w9 ⟨rfl, hp⟩; obtain ⟨F9, hi, hb, _, _⟩ := hp; have n0_ := Aside0.mk hi; have n1_ := Aside0.mk hb; clear HT HB hi hb; have HT := n0_; have HB := n1_; clear n0_ n1_) | (go_at_call 10; (with_reducible refine (set_v w _ _ _ _ _ _ (by decide) (by decide) 0 3 2 7 (by decide) 0 (by decide) 2 (by decide) 3 (by decide) _ HT.out HB.out).mono ?_); rintro e w9 ⟨rfl, hp⟩; obtain ⟨F9, hi, hb, _, _⟩ := hp; have n0_ := Aside0.mk hi; have n1_ := Aside0.mk hb; clear HT HB hi hb; have HT := n0_; have HB := n1_; clear n0_ n1_) | (go_at_call 19; (with_reducible refine (next_v w _ _ _ _ _ _ (by decide) (by decide) 3 (by decide) true (by decide) _ HT.out HB.out).mono ?_); rintro e w9 ⟨rfl, hp⟩; obtain ⟨F9, hi, hb, _, _⟩ := hp; have n0_ := Aside0.mk hi; have n1_ := Aside0.mk hb; clear HT HB hi hb; have HT := n0_; have HB := n1_; clear n0_ n1_) | (go_at_call 9; (with_reducible refine (due_v w _ _ _ _ _ _ (by decide) (by decide) 5 5 (by decide) _ HT.out HB.out).mono ?_); rintro e w9 ⟨u, rfl, hu, hp⟩; obtain ⟨F9, hi, hb, _, _⟩ := hp; have n0_ := Aside0.mk hi; have n1_ := Aside0.mk hb; clear HT HB hi hb; have HT := n0_; have HB := n1_; clear n0_ n1_; have hu := (show Ls encT 37 w9 _ u [⟨2, 2, 7, 3⟩, ⟨1, 1, 7, 5⟩] from hu); obtain ⟨A, c, rfl, _, _⟩ := hu.form; obtain ⟨g9, rfl, _, _, ⟨k0, _⟩, _⟩ := ls_at hu (i := 0) (x := ⟨2, 2, 7, 3⟩) rfl; obtain ⟨_, e9, _, _, ⟨k1, _⟩, _⟩ := ls_at hu (i := 1) (x := ⟨1, 1, 7, 5⟩) rfl; cases e9; dsimp only at k0 k1; clear hu) | (go_at_call 11; (with_reducible refine (len_v w _ _ _ _ _ _ 0 (by decide) _ HT.out).mono ?_); rintro e w9 ⟨rfl, rfl⟩))
  go_ret
  exact ⟨rfl, HB.out⟩
/-! ### what nobody made -/
def NoP (p : Option Addr) (w : World) : Prop := p = none ∨ ∃ g, p = some ⟨g, 0, none⟩ ∧ w.cell? ⟨g, 1, none⟩ = some (.map none)
theorem ok_any (p : Option Addr) (w : World) (h : NoP p w) : Calls Try.prog 21 #[.pointer p] w fun e w' => e = .returned (.bool false) ∧ w = w' := by
  have hn := run_nil
  rcases h with rfl | ⟨g, rfl, h⟩
  · go_enter Try.func21, Try.ntmps21
    go_wp2_with fail
    go_ret
    exact ⟨rfl, rfl⟩
  · go_enter Try.func21, Try.ntmps21
    go_wp2_with fail
    go_ret
    exact ⟨rfl, rfl⟩
theorem NoP.below {p : Option Addr} {w w' : World} (h : NoP p w) (hb : Below w.heap.size w w') : NoP p w' := h.imp id fun ⟨g, e, c⟩ => ⟨g, e, pw_cell_below hb c⟩
theorem no_set (p : Option Addr) (a : Int) (b : Int) (c : Int) (d : Int) (w : World) (h : NoP p w) : Calls Try.prog 10 #[.pointer p, .int .i64 a, .int .i64 b, .int .i64 c, .int .u64 d] w fun e w' => e = .returned (.tuple #[.int .i64 0, .int .i64 2]) ∧ w = w' := by
  have H := Aside0.mk (ok_any p w h)
  clear h
  go_enter Try.func10, Try.ntmps10
  go_wp2_with (go_at_call 21; (with_reducible refine H.out.mono ?_); rintro e w9 ⟨rfl, rfl⟩)
  go_ret2
  exact ⟨rfl, rfl⟩
theorem no_stop (p : Option Addr) (n : Int) (w : World) (h : NoP p w) : Calls Try.prog 8 #[.pointer p, .int .i64 n] w fun e w' => e = .returned (.int .i64 2) ∧ w = w' := by
  have H := Aside0.mk (ok_any p w h)
  clear h
  go_enter Try.func8, Try.ntmps8
  go_wp2_with (go_at_call 21; (with_reducible refine H.out.mono ?_); rintro e w9 ⟨rfl, rfl⟩)
  go_ret
  exact ⟨rfl, rfl⟩
theorem no_stopall (p : Option Addr) (n : Int) (w : World) (h : NoP p w) : Calls Try.prog 14 #[.pointer p, .int .u64 n] w fun e w' => e = .returned (.int .i64 0) ∧ w = w' := by
  have H := Aside0.mk (ok_any p w h)
  clear h
  go_enter Try.func14, Try.ntmps14
  go_wp2_with (go_at_call 21; (with_reducible refine H.out.mono ?_); rintro e w9 ⟨rfl, rfl⟩)
  go_ret
  exact ⟨rfl, rfl⟩
theorem no_due (p : Option Addr) (n : Int) (w : World) (h : NoP p w) : Calls Try.prog 9 #[.pointer p, .int .i64 n] w fun e w' => e = .returned (.slice none 0 0) ∧ w = w' := by
  have H := Aside0.mk (ok_any p w h)
  clear h
  go_enter Try.func9, Try.ntmps9
  go_wp2_with (go_at_call 21; (with_reducible refine H.out.mono ?_); rintro e w9 ⟨rfl, rfl⟩)
  go_ret
  exact ⟨rfl, rfl⟩
theorem no_next (p : Option Addr) (w : World) (h : NoP p w) : Calls Try.prog 19 #[.pointer p] w fun e w' => e = .returned (.tuple #[.int .i64 0, .bool false]) ∧ w = w' := by
  have H := Aside0.mk (ok_any p w h)
  clear h
  go_enter Try.func19, Try.ntmps19
  go_wp2_with (go_at_call 21; (with_reducible refine H.out.mono ?_); rintro e w9 ⟨rfl, rfl⟩)
  go_ret2
  exact ⟨rfl, rfl⟩
theorem no_len (p : Option Addr) (w : World) (h : NoP p w) : Calls Try.prog 11 #[.pointer p] w fun e w' => e = .returned (.int .i64 0) ∧ w = w' := by
  have H := Aside0.mk (ok_any p w h)
  clear h
  go_enter Try.func11, Try.ntmps11
  go_wp2_with (go_at_call 21; (with_reducible refine H.out.mono ?_); rintro e w9 ⟨rfl, rfl⟩)
  go_ret
  exact ⟨rfl, rfl⟩
theorem no_now (p : Option Addr) (w : World) (h : NoP p w) : Calls Try.prog 20 #[.pointer p] w fun e w' => e = .returned (.int .i64 0) ∧ w = w' := by
  have H := Aside0.mk (ok_any p w h)
  clear h
  go_enter Try.func20, Try.ntmps20
  go_wp2_with (go_at_call 21; (with_reducible refine H.out.mono ?_); rintro e w9 ⟨rfl, rfl⟩)
  go_ret
  exact ⟨rfl, rfl⟩
theorem zeroP (w : World) : (zeroValue 58).run Try.prog w = .ok (.agg #[.slice none 0 0, .map none, .int .i64 0, .int .i64 0]) w := by kernel_rfl
set_option maxHeartbeats 16000000 in
set_option maxRecDepth 100000 in
theorem nobody_law (k later after lab n : Int) (w : World) : Calls Try.prog 5 #[.agg #[.int .u8 k, .int .i64 later, .int .i64 after, .int .u64 lab, .int .i64 n]] w fun e w' => e = .returned (.bool true) ∧ Below w.heap.size w w' := by
  have HA := Aside0.mk alive_c
  have hz := zeroP
  have hu30 := Try.underlying30
  go_enter Try.func5, Try.ntmps5
  go_upto_region 1 with (fail)
  obtain ⟨ga, hga⟩ : ∃ ga, w.heap.size = ga := ⟨_, rfl⟩
  obtain ⟨wa, hwa⟩ : ∃ wa, w.alloc (.cells #[.int .u8 k, .int .i64 later, .int .i64 after, .int .u64 lab, .int .i64 n] 30) = wa := ⟨_, rfl⟩
  have HW := Aside0.mk (show Below w.heap.size w wa from by rw [← hwa]; exact below_alloc (Below.refl _ _) _)
  have HS := Aside0.mk (show wa.heap[ga]? = some (.cells #[.int .u8 k, .int .i64 later, .int .i64 after, .int .u64 lab, .int .i64 n] 30 (0, 0)) from by rw [← hwa, ← hga]; exact blk_new w (.cells #[.int .u8 k, .int .i64 later, .int .i64 after, .int .u64 lab, .int .i64 n] 30))
  rw [hwa, hga]
  clear hwa hga
  go_wp2_with fail
  obtain ⟨gz, hgz⟩ : ∃ gz, wa.heap.size = gz := ⟨_, rfl⟩
  obtain ⟨gp, hgp⟩ : ∃ gp, wa.heap.size + 1 = gp := ⟨_, rfl⟩
  have s1 : (wa.alloc (.cells #[.slice none 0 0, .map none, .int .i64 0, .int .i64 0] 58)).heap.size = wa.heap.size + 1 := Array.size_push ..
  have b2 := blk_new wa (.cells #[.slice none 0 0, .map none, .int .i64 0, .int .i64 0] 58)
  have b3 := blk_new (wa.alloc (.cells #[.slice none 0 0, .map none, .int .i64 0, .int .i64 0] 58)) (.cells #[.pointer none, .pointer (some ⟨wa.heap.size, 0, none⟩)] 23)
  have b2 := blk_alloc b2 (.cells #[.pointer none, .pointer (some ⟨wa.heap.size, 0, none⟩)] 23)
  rw [s1, hgp] at b3
  have bel := below_alloc (below_alloc (Below.refl wa.heap.size wa) (.cells #[.slice none 0 0, .map none, .int .i64 0, .int .i64 0] 58)) (.cells #[.pointer none, .pointer (some ⟨wa.heap.size, 0, none⟩)] 23)
  have HS2 := Aside0.mk (blk_below HS.out bel)
  have HW2 := Aside0.mk (below_step HW.out bel)
  clear bel
  rw [hgz] at b2 b3
  rw [hgp]
  rw [hgz]
  obtain ⟨wz, hwz⟩ : ∃ wz, (wa.alloc (.cells #[.slice none 0 0, .map none, .int .i64 0, .int .i64 0] 58)).alloc (.cells #[.pointer none, .pointer (some ⟨gz, 0, none⟩)] 23) = wz := ⟨_, rfl⟩
  rw [hgz] at HW2 HS2
  rw [hwz] at b2 b3 HW2 HS2 ⊢
  have HP0 := Aside0.mk (blk_cell b3 0); have HP1 := Aside0.mk (blk_cell b3 1)
  have HE := Aside0.mk (show wz.cell? ⟨gz, 1, none⟩ = some (.map none) from blk_cell b2 1)
  have HB := Aside0.mk (Below.refl wz.heap.size wz)
  clear b2 b3 s1 hgp hwz hz hgz
  go_loopw [13] (fun v wr => (v = .int .i64 0 ∨ v = .int .i64 1 ∨ v = .int .i64 2) ∧ Aside0 (Below wz.heap.size wz wr)) (fun v _ => (2 - intOf v).toNat)
  case atStart => exact ⟨.inl rfl, HB⟩
  case round =>
    clear HB
    obtain ⟨hv, HB⟩ := hrel
    have p0 := pw_cell_below HB.out HP0.out; have p1 := pw_cell_below HB.out HP1.out
    have hsb := blk_below HS2.out HB.out
    have c0 := blk_cell hsb 0; have c1 := blk_cell hsb 1; have c2 := blk_cell hsb 2; have c3 := blk_cell hsb 3; have c4 := blk_cell hsb 4
    clear hsb
    rcases hv with rfl | rfl | rfl
    · have HN := Aside0.mk (show ∀ W : World, Below wz.heap.size wz W → NoP none W from fun W _ => Or.inl rfl)
      go_wp2_with (first | (go_at_call 10; (with_reducible refine (no_set _ _ _ _ _ _ (HN.out _ HB.out)).mono ?_); rintro e w9 ⟨rfl, rfl⟩) | (go_at_call 8; (with_reducible refine (no_stop _ _ _ (HN.out _ HB.out)).mono ?_); rintro e w9 ⟨rfl, rfl⟩) | (go_at_call 14; (with_reducible refine (no_stopall _ _ _ (HN.out _ HB.out)).mono ?_); rintro e w9 ⟨rfl, rfl⟩) | (go_at_call 9; (with_reducible refine (no_due _ _ _ (HN.out _ HB.out)).mono ?_); rintro e w9 ⟨rfl, rfl⟩) | (go_at_call 19; (with_reducible refine (no_next _ _ (HN.out _ HB.out)).mono ?_); rintro e w9 ⟨rfl, rfl⟩) | (go_at_call 11; (with_reducible refine (no_len _ _ (HN.out _ HB.out)).mono ?_); rintro e w9 ⟨rfl, rfl⟩) | (go_at_call 20; (with_reducible refine (no_now _ _ (HN.out _ HB.out)).mono ?_); rintro e w9 ⟨rfl, rfl⟩))
      go_roundw
      case rel => exact ⟨.inr (.inl rfl), HB⟩
      case measure => simp [intOf]
    · have HN := Aside0.mk (show ∀ W : World, Below wz.heap.size wz W → NoP (some ⟨gz, 0, none⟩) W from fun W hb => Or.inr ⟨gz, rfl, pw_cell_below hb HE.out⟩)
      go_wp2_with (first | (go_at_call 10; (with_reducible refine (no_set _ _ _ _ _ _ (HN.out _ HB.out)).mono ?_); rintro e w9 ⟨rfl, rfl⟩) | (go_at_call 8; (with_reducible refine (no_stop _ _ _ (HN.out _ HB.out)).mono ?_); rintro e w9 ⟨rfl, rfl⟩) | (go_at_call 14; (with_reducible refine (no_stopall _ _ _ (HN.out _ HB.out)).mono ?_); rintro e w9 ⟨rfl, rfl⟩) | (go_at_call 9; (with_reducible refine (no_due _ _ _ (HN.out _ HB.out)).mono ?_); rintro e w9 ⟨rfl, rfl⟩) | (go_at_call 19; (with_reducible refine (no_next _ _ (HN.out _ HB.out)).mono ?_); rintro e w9 ⟨rfl, rfl⟩) | (go_at_call 11; (with_reducible refine (no_len _ _ (HN.out _ HB.out)).mono ?_); rintro e w9 ⟨rfl, rfl⟩) | (go_at_call 20; (with_reducible refine (no_now _ _ (HN.out _ HB.out)).mono ?_); rintro e w9 ⟨rfl, rfl⟩))
      go_roundw
      case rel => exact ⟨.inr (.inr rfl), HB⟩
      case measure => simp [intOf]
    · go_wp2_with (first | (go_at_call 12; (with_reducible refine (HA.out _).mono ?_); rintro e w9 ⟨rfl, hb⟩; have n1_ := Aside0.mk (below_step HB.out hb); clear HB hb; have HB := n1_; clear n1_))
      go_ret
      exact ⟨rfl, below_step HW2.out HB.out⟩
end Go.Proofs.Ytpkilechkoiffaa.Wh
