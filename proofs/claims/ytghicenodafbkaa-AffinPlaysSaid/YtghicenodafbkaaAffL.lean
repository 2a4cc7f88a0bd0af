/- alive, and AffinNobody: a table that nobody made has nothing; the walk; no condition but that numbers are of their kinds. -/
import Derived.Test.YtghicenodafbkaaAffM
namespace Go.Proofs.Ytghicenodafbkaa.Aff
set_option linter.unusedVariables false
set_option linter.unusedSimpArgs false
open Go.RowKit Go.Proofs.Ytghicenodafbkaa.PA Go.Proofs.YtghicenodafbkaaW.PrintWords Go.Proofs.YtghicenodafbkaaW.PrintLast Go.Proofs.YtghicenodafbkaaW.PrintMore Go.Proofs.Ytghicenodafbkaa.Tab
attribute [local go_sem] max2_int min2_int max_two min_two max_three min_three max_four min_four
set_option maxHeartbeats 8000000 in
theorem alive_c (w : World) : Calls Try.prog 11 #[] w fun e w' => e = .returned (.bool true) ∧ Below w.heap.size w w' := by
  have m : MayB 2 10 := by unfold MayB; omega
  have o0 := ok_new m
  obtain ⟨s1, e1⟩ : ∃ s1, bindV ⟨2, 10, 0, []⟩ 0 5 7 = s1 := ⟨_, rfl⟩
  obtain ⟨s2, e2⟩ : ∃ s2, findV s1 9 5 = ((7, true), s2) := ⟨_, by rw [← e1]; rfl⟩
  have q2 : s2 = (findV s1 9 5).2 := by rw [e2]
  obtain ⟨s3, e3⟩ : ∃ s3, findV s2 19 5 = ((0, false), s3) := ⟨_, by rw [q2, ← e1]; rfl⟩
  have o1 : Ok s1 := by
    rw [← e1]
    exact ⟨by decide, by decide, by decide, by decide, by decide, by decide, by decide, by decide, by decide, by decide⟩
  have o2 : Ok s2 := by
    rw [q2, ← e1]
    exact ⟨by decide, by decide, by decide, by decide, by decide, by decide, by decide, by decide, by decide, by decide⟩
  have K : (0 : Int) ≤ 5 ∧ (5 : Int) ≤ 18446744073709551615 := by decide
  have H1 := Aside0.mk (fun g b w' h hB => bind_c g b ⟨2, 10, 0, []⟩ 0 5 7 K w w' h hB o0 (fun _ => by decide) s1 e1)
  have H2 := Aside0.mk (fun g b w' h hB => find_c g b s1 9 5 K w w' h hB o1 7 true s2 e2)
  have H3 := Aside0.mk (fun g b w' h hB => find_c g b s2 19 5 K w w' h hB o2 0 false s3 e3)
  have HM := Aside0.mk m
  have HB := Aside0.mk (Below.refl w.heap.size w)
  clear o0 o1 o2 e1 e2 q2 e3 K m
  go_enter Try.func11, Try.ntmps11
  go_wp2_with (first | (go_at_call 6; (with_reducible refine (new_c _ _ HM.out _).mono ?_); rintro e w9 ⟨g, b, rfl, hi, hb⟩; have n1_ := Aside0.mk (below_step HB.out hb); have HT := Aside0.mk (hi.of HB.out); clear HB hi hb; have HB := n1_; clear n1_) | (go_at_call 9; (with_reducible refine (H1.out _ _ _ HT.out HB.out).mono ?_); rintro e w9 ⟨rfl, hp⟩; have n0_ := Aside0.mk hp.1; have n1_ := Aside0.mk hp.2.1; clear HT HB hp; have HT := n0_; have HB := n1_; clear n0_ n1_) | (go_at_call 8; (with_reducible refine (H2.out _ _ _ HT.out HB.out).mono ?_); rintro e w9 ⟨rfl, hp⟩; have n0_ := Aside0.mk hp.1; have n1_ := Aside0.mk hp.2.1; clear HT HB hp; have HT := n0_; have HB := n1_; clear n0_ n1_) | (go_at_call 8; (with_reducible refine (H3.out _ _ _ HT.out HB.out).mono ?_); rintro e w9 ⟨rfl, hp⟩; have n0_ := Aside0.mk hp.1; have n1_ := Aside0.mk hp.2.1; clear HT HB hp; have HT := n0_; have HB := n1_; clear n0_ n1_))
  go_ret
  exact ⟨rfl, HB.out⟩
/-! ### nobody's -/
def NoT (p : Option Addr) (w : World) : Prop := p = none ∨ ∃ g, p = some ⟨g, 0, none⟩ ∧ w.cell? ⟨g, 3, none⟩ = some (.map none)
theorem ok_any (p : Option Addr) (w : World) (h : NoT p w) : Calls Try.prog 18 #[.pointer p] w fun e w' => e = .returned (.bool false) ∧ w = w' := by
  rcases h with rfl | ⟨g, rfl, h⟩
  · exact ok_nil w
  · exact ok_empty g w h
theorem NoT.below {p : Option Addr} {w w' : World} (h : NoT p w) (hb : Below w.heap.size w w') : NoT p w' := h.imp id fun ⟨g, e, c⟩ => ⟨g, e, pw_cell_below hb c⟩
theorem no_forget (p : Option Addr) (now r : Int) (w : World) (hp : NoT p w) : Calls Try.prog 14 #[.pointer p, .int .i64 now, .int .u64 r] w fun e w' => e = .returned (.int .i64 0) ∧ Below w.heap.size w w' := by
  have bel := below_alloc (Below.refl w.heap.size w) (.cells #[.int .u64 r] 30 (0, 0))
  have H := Aside0.mk (ok_any p _ (hp.below bel))
  have HB := Aside0.mk bel
  clear hp bel
  go_enter Try.func14, Try.ntmps14
  go_wp2_with (go_at_call 18; (with_reducible refine H.out.mono ?_); rintro e w9 ⟨rfl, rfl⟩)
  go_ret
  exact ⟨rfl, HB.out⟩
set_option maxHeartbeats 16000000 in
set_option maxRecDepth 100000 in
theorem nobody_law (a0 a1 a2 a3 : Int) (w : World) : Calls Try.prog 5 #[.agg #[.int .u8 a0, .int .i64 a1, .int .u64 a2, .int .u64 a3]] w fun e w' => e = .returned (.bool true) ∧ Below w.heap.size w w' := by
  have HA := Aside0.mk alive_c
  have hu32 := Try.underlying32
  obtain ⟨i0, hi0, _, hs0, _⟩ := info_parts info32
  have hz := zeroT
  go_enter Try.func5, Try.ntmps5
  go_wp2_with fail
  obtain ⟨gz, hgz⟩ : ∃ gz, w.heap.size + 1 = gz := ⟨_, rfl⟩
  obtain ⟨gp, hgp⟩ : ∃ gp, w.heap.size + 1 + 1 = gp := ⟨_, rfl⟩
  have s1 : (w.alloc (.cells #[.int .u8 a0, .int .i64 a1, .int .u64 a2, .int .u64 a3] 32)).heap.size = w.heap.size + 1 := Array.size_push ..
  have s2 : ((w.alloc (.cells #[.int .u8 a0, .int .i64 a1, .int .u64 a2, .int .u64 a3] 32)).alloc (.cells #[.int .i64 0, .int .i64 0, .int .i64 0, .map none] 51)).heap.size = w.heap.size + 1 + 1 := by rw [show ((w.alloc (.cells #[.int .u8 a0, .int .i64 a1, .int .u64 a2, .int .u64 a3] 32)).alloc (.cells #[.int .i64 0, .int .i64 0, .int .i64 0, .map none] 51)).heap.size = (w.alloc (.cells #[.int .u8 a0, .int .i64 a1, .int .u64 a2, .int .u64 a3] 32)).heap.size + 1 from Array.size_push .., s1]
  have b1 := blk_new w (.cells #[.int .u8 a0, .int .i64 a1, .int .u64 a2, .int .u64 a3] 32)
  have b2 := blk_new (w.alloc (.cells #[.int .u8 a0, .int .i64 a1, .int .u64 a2, .int .u64 a3] 32)) (.cells #[.int .i64 0, .int .i64 0, .int .i64 0, .map none] 51)
  have b3 := blk_new ((w.alloc (.cells #[.int .u8 a0, .int .i64 a1, .int .u64 a2, .int .u64 a3] 32)).alloc (.cells #[.int .i64 0, .int .i64 0, .int .i64 0, .map none] 51)) (.cells #[.pointer none, .pointer (some ⟨w.heap.size + 1, 0, none⟩)] 23)
  have b1 := blk_alloc (blk_alloc b1 (.cells #[.int .i64 0, .int .i64 0, .int .i64 0, .map none] 51)) (.cells #[.pointer none, .pointer (some ⟨w.heap.size + 1, 0, none⟩)] 23)
  have b2 := blk_alloc b2 (.cells #[.pointer none, .pointer (some ⟨w.heap.size + 1, 0, none⟩)] 23)
  rw [s1, hgz] at b2
  rw [s2, hgp, hgz] at b3
  rw [hgz] at b1
  have bel := below_alloc (below_alloc (below_alloc (Below.refl w.heap.size w) (.cells #[.int .u8 a0, .int .i64 a1, .int .u64 a2, .int .u64 a3] 32)) (.cells #[.int .i64 0, .int .i64 0, .int .i64 0, .map none] 51)) (.cells #[.pointer none, .pointer (some ⟨w.heap.size + 1, 0, none⟩)] 23)
  rw [hgz] at bel
  rw [hgp, hgz]
  obtain ⟨wz, hwz⟩ : ∃ wz, ((w.alloc (.cells #[.int .u8 a0, .int .i64 a1, .int .u64 a2, .int .u64 a3] 32)).alloc (.cells #[.int .i64 0, .int .i64 0, .int .i64 0, .map none] 51)).alloc (.cells #[.pointer none, .pointer (some ⟨gz, 0, none⟩)] 23) = wz := ⟨_, rfl⟩
  rw [hwz] at b1 b2 b3 bel ⊢
  have HBZ := Aside0.mk bel
  have HP0 := Aside0.mk (blk_cell b3 0); have HP1 := Aside0.mk (blk_cell b3 1)
  have HC1 := Aside0.mk (blk_cell b1 1); have HC2 := Aside0.mk (blk_cell b1 2); have HC3 := Aside0.mk (blk_cell b1 3)
  have HE := Aside0.mk (show wz.cell? ⟨gz, 3, none⟩ = some (.map none) from blk_cell b2 3)
  have HB := Aside0.mk (Below.refl wz.heap.size wz)
  clear b1 b2 b3 bel s1 s2 hgz hgp hwz hz
  skip
  go_loopw [11] (fun v wr => (v = .int .i64 0 ∨ v = .int .i64 1 ∨ v = .int .i64 2) ∧ Aside0 (Below wz.heap.size wz wr)) (fun v _ => (2 - intOf v).toNat)
  case atStart => exact ⟨.inl rfl, HB⟩
  case round =>
    clear HB
    obtain ⟨hv, HB⟩ := hrel
    have p0 := pw_cell_below HB.out HP0.out; have p1 := pw_cell_below HB.out HP1.out
    have s1 := pw_cell_below HB.out HC1.out; have s2 := pw_cell_below HB.out HC2.out; have s3 := pw_cell_below HB.out HC3.out
    rcases hv with rfl | rfl | rfl
    · have HN := Aside0.mk (show ∀ W : World, Below wz.heap.size wz W → NoT none W from fun W _ => Or.inl rfl)
      go_wp2_with (first | (go_at_call 8; go_loud (with_reducible refine (no_find _ _ _ _ (ok_any _ _ (HN.out _ HB.out))).mono ?_); rintro e w9 ⟨rfl, rfl⟩) | (go_at_call 9; go_loud (with_reducible refine (no_bind _ _ _ _ _ (ok_any _ _ (HN.out _ HB.out))).mono ?_); rintro e w9 ⟨rfl, rfl⟩) | (go_at_call 10; go_loud (with_reducible refine (no_len _ _ _ (ok_any _ _ (HN.out _ HB.out))).mono ?_); rintro e w9 ⟨rfl, rfl⟩) | (go_at_call 17; go_loud (with_reducible refine (no_now _  _ (ok_any _ _ (HN.out _ HB.out))).mono ?_); rintro e w9 ⟨rfl, rfl⟩) | (go_at_call 14; go_loud (with_reducible refine (no_forget _ _ _ _ (HN.out _ HB.out)).mono ?_); go_loud (rintro e w9 ⟨rfl, hb⟩); go_loud (have n1_ := Aside0.mk (below_step HB.out hb); clear HB hb s1 s2 s3; have HB := n1_; clear n1_; have s1 := pw_cell_below HB.out HC1.out; have s2 := pw_cell_below HB.out HC2.out; have s3 := pw_cell_below HB.out HC3.out)))
      go_roundw
      case rel => exact ⟨.inr (.inl rfl), HB⟩
      case measure => simp [intOf]
    · have HN := Aside0.mk (show ∀ W : World, Below wz.heap.size wz W → NoT (some ⟨gz, 0, none⟩) W from fun W hb => Or.inr ⟨gz, rfl, pw_cell_below hb HE.out⟩)
      go_wp2_with (first | (go_at_call 8; go_loud (with_reducible refine (no_find _ _ _ _ (ok_any _ _ (HN.out _ HB.out))).mono ?_); rintro e w9 ⟨rfl, rfl⟩) | (go_at_call 9; go_loud (with_reducible refine (no_bind _ _ _ _ _ (ok_any _ _ (HN.out _ HB.out))).mono ?_); rintro e w9 ⟨rfl, rfl⟩) | (go_at_call 10; go_loud (with_reducible refine (no_len _ _ _ (ok_any _ _ (HN.out _ HB.out))).mono ?_); rintro e w9 ⟨rfl, rfl⟩) | (go_at_call 17; go_loud (with_reducible refine (no_now _  _ (ok_any _ _ (HN.out _ HB.out))).mono ?_); rintro e w9 ⟨rfl, rfl⟩) | (go_at_call 14; go_loud (with_reducible refine (no_forget _ _ _ _ (HN.out _ HB.out)).mono ?_); go_loud (rintro e w9 ⟨rfl, hb⟩); go_loud (have n1_ := Aside0.mk (below_step HB.out hb); clear HB hb s1 s2 s3; have HB := n1_; clear n1_; have s1 := pw_cell_below HB.out HC1.out; have s2 := pw_cell_below HB.out HC2.out; have s3 := pw_cell_below HB.out HC3.out)))
      go_roundw
      case rel => exact ⟨.inr (.inr rfl), HB⟩
      case measure => simp [intOf]
    · go_wp2_with (first | (go_at_call 11; (with_reducible refine (HA.out _).mono ?_); rintro e w9 ⟨rfl, hb⟩; have n1_ := Aside0.mk (below_step HB.out hb); clear HB hb; have HB := n1_; clear n1_))
      go_ret
      exact ⟨rfl, below_step HBZ.out HB.out⟩
end Go.Proofs.Ytghicenodafbkaa.Aff
