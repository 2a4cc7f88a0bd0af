/- AffinKeeps: a binding that is used within its time stays; the walk; no condition but that numbers are of their kinds. -/
import Derived.Test.YtghicenodafbkaaAffK
import Derived.Test.YtghicenodafbkaaSteps
namespace Go.Proofs.Ytghicenodafbkaa.Aff
set_option linter.unusedVariables false
set_option linter.unusedSimpArgs false
open Go.RowKit Go.Proofs.Ytghicenodafbkaa.PA Go.Proofs.YtghicenodafbkaaW.PrintWords Go.Proofs.YtghicenodafbkaaW.PrintLast Go.Proofs.YtghicenodafbkaaW.PrintMore Go.Proofs.Ytghicenodafbkaa.Tab
attribute [local go_sem] max2_int min2_int max_two min_two max_three min_three max_four min_four
structure All (w0 W : World) (g b : Nat) (s : TS) (bb : Nat) (lb : List TabB.Bk) (bu : Nat) (lu : List TabU.Bk) (sb : Nat) (x : Stp.St) : Prop where
  iT : IsT w0 W g b s
  mb : TabB.MapIs W bb lb
  mu : TabU.MapIs W bu lu
  bl : Below w0.heap.size w0 W
  gb : w0.heap.size ≤ bb
  gu : w0.heap.size ≤ bu
  ne : bb ≠ bu ∧ b ≠ bb ∧ b ≠ bu
  blk : W.heap[sb]? = some (.cells #[.int .u8 x.a0, .int .i64 x.a1, .int .u64 x.a2, .int .u64 x.a3] 32 (0, 0))
section
variable {w0 W W' : World} {g b : Nat} {s s' : TS} {bb : Nat} {lb lb' : List TabB.Bk} {bu : Nat} {lu lu' : List TabU.Bk} {sb : Nat} {x : Stp.St}
theorem All.t (h : All w0 W g b s bb lb bu lu sb x) (hp : Post w0 W g b s' W') : All w0 W' g b s' bb lb bu lu sb x :=
  ⟨hp.1, h.mb.move (hp.2.2.2 bb h.mb.lt (fun e => h.mb.ne h.iT.1 e.symm) (fun e => h.ne.2.1 (Option.some.inj e).symm)), h.mu.move (hp.2.2.2 bu h.mu.lt (fun e => h.mu.ne h.iT.1 e.symm) (fun e => h.ne.2.2 (Option.some.inj e).symm)), hp.2.1, h.gb, h.gu, h.ne, hp.2.2.blk h.blk (blk_ne h.blk h.iT.1 (by decide)) (by simpa using h.iT.map.ne h.blk)⟩
theorem All.pb (h : All w0 W g b s bb lb bu lu sb x) (hm : TabB.MapIs W' bb lb') (hg : W.grownBy W' (some bb)) : All w0 W' g b s bb lb' bu lu sb x :=
  ⟨⟨blk_grown h.iT.1 hg (by simpa using h.mb.ne h.iT.1), h.iT.map.kept hg (by simpa using h.ne.2.1), h.iT.ge, h.iT.geb⟩, hm, h.mu.kept hg (by simpa using h.ne.1.symm), below_map h.bl h.gb hg, h.gb, h.gu, h.ne, blk_grown h.blk hg (by simpa using h.mb.ne h.blk)⟩
theorem All.pu (h : All w0 W g b s bb lb bu lu sb x) (hm : TabU.MapIs W' bu lu') (hg : W.grownBy W' (some bu)) : All w0 W' g b s bb lb bu lu' sb x :=
  ⟨⟨blk_grown h.iT.1 hg (by simpa using h.mu.ne h.iT.1), h.iT.map.kept hg (by simpa using h.ne.2.2), h.iT.ge, h.iT.geb⟩, h.mb.kept hg (by simpa using h.ne.1), hm, below_map h.bl h.gu hg, h.gb, h.gu, h.ne, blk_grown h.blk hg (by simpa using h.mu.ne h.blk)⟩
end
set_option maxHeartbeats 32000000 in
set_option maxRecDepth 100000 in
theorem keeps_law (A : Option Addr) (cp : Nat) (l : List Stp.St) (w : World) (hrw : Stp.Row w A l) (hc : l.length ≤ cp) (hmx : l.length ≤ 9223372036854775807) (hk : ∀ x ∈ l, (0 ≤ x.a2 ∧ x.a2 ≤ 18446744073709551615) ∧ (0 ≤ x.a3 ∧ x.a3 ≤ 18446744073709551615) ∧ 0 ≤ x.a0 ∧ x.a0 ≤ 255) : Calls Try.prog 3 #[.slice A l.length cp] w fun e w' => e = .returned (.bool true) ∧ Below w.heap.size w w' := by
  have HRW := Aside0.mk hrw
  have HC := Aside0.mk hc; have HMX := Aside0.mk hmx; have HK := Aside0.mk hk
  obtain ⟨L, hL⟩ : ∃ L, min l.length 150 = L := ⟨_, rfl⟩
  have HLQ := Aside0.mk hL
  have HL := Aside0.mk (show L ≤ l.length ∧ L ≤ 150 from by omega)
  have HA := Aside0.mk alive_c
  have HM := Aside0.mk (show MayB 1024 100 by unfold MayB; omega)
  have HB := Aside0.mk (Below.refl w.heap.size w)
  have hmm := @run_makeMap Try.prog
  have hu32 := Try.underlying32
  obtain ⟨i0, hi0, _, hs0, _⟩ := info_parts info32
  clear hrw hc hmx hk hL
  go_enter Try.func3, Try.ntmps3
  go_upto_region 6 with (first | (go_at_call 6; (with_reducible refine (new_c _ _ HM.out _).mono ?_); rintro e w9 ⟨g, b, rfl, hi, hb⟩; have n1_ := Aside0.mk (below_step HB.out hb); have HT := Aside0.mk (hi.of HB.out); clear HB hi hb; have HB := n1_; clear n1_))
  have q1 := TabB.mapIs_made w9
  have b1 := below_alloc (Below.refl w9.heap.size w9) (.map #[] 0)
  have q2 := TabU.mapIs_made (w9.alloc (.map #[] 0))
  have b2 := below_alloc (Below.refl (w9.alloc (.map #[] 0)).heap.size (w9.alloc (.map #[] 0))) (.map #[] 0)
  have n1_ := Aside0.mk ((HT.out.below b1).below b2)
  have n2_ := Aside0.mk (below_step (below_step HB.out b1) b2)
  have HMB := Aside0.mk (q1.below b2)
  have HMU := Aside0.mk q2
  have es : (w9.alloc (.map #[] 0)).heap.size = w9.heap.size + 1 := Array.size_push ..
  have HN := Aside0.mk (show w.heap.size ≤ w9.heap.size ∧ w.heap.size ≤ w9.heap.size + 1 ∧ w9.heap.size ≠ w9.heap.size + 1 ∧ b ≠ w9.heap.size ∧ b ≠ w9.heap.size + 1 from by have := HB.out.size; have := HT.out.ltb; exact ⟨by omega, by omega, by omega, by omega, by omega⟩)
  rw [es] at HMU
  clear HT HB q1 q2 b1 b2 es
  have HT := n1_; have HB := n2_
  clear n1_ n2_
  obtain ⟨bb, hbb⟩ : ∃ z, w9.heap.size = z := ⟨_, rfl⟩
  obtain ⟨bu, hbu⟩ : ∃ z, w9.heap.size + 1 = z := ⟨_, rfl⟩
  rw [hbu] at HMU HN ⊢
  rw [hbb] at HMB HN ⊢
  clear hbb hbu
  generalize (w9.alloc (.map #[] 0)).alloc (.map #[] 0) = wz at HT HB HMB HMU ⊢
  have HI0 := Aside0.mk KI.start
  go_wp2_with (first | (go_at_call 7; (with_reducible refine (Stp.short_c A l.length cp _ HC.out HMX.out _ HLQ.out).mono ?_); rintro e w3 ⟨rfl, rfl⟩))
  go_loopw [29, 7] (fun vi vn wr => ∃ (i : Nat) (now : Int) (s : TS) (lb : List TabB.Bk) (lu : List TabU.Bk), vi = .int .i64 i ∧ vn = .int .i64 now ∧ Aside0 (i ≤ L) ∧ Aside0 (KI i now s lb lu) ∧ Aside0 (IsT w wr g b s) ∧ Aside0 (TabB.MapIs wr bb lb) ∧ Aside0 (TabU.MapIs wr bu lu) ∧ Aside0 (Below w.heap.size w wr)) (fun vi _ _ => (L - intOf vi).toNat)
  case atStart => exact ⟨0, 0, _, _, _, rfl, rfl, ⟨by omega⟩, HI0, HT, HMB, HMU, HB⟩
  case round =>
    clear HT HB HMB HMU HI0
    obtain ⟨i, now, s, lb, lu, rfl, rfl, HIL, HKI, HT, HMB, HMU, HB⟩ := hrel
    have l1 := HL.out.2
    have l2 := HIL.out
    by_cases hlt : i < L
    · obtain ⟨x, hx⟩ : ∃ x, l[i]? = some x := ⟨_, List.getElem?_eq_getElem (show i < l.length by have := HL.out.1; omega)⟩
      obtain ⟨a, rfl, h0, h1, h2, h3⟩ := HRW.out.cells hx
      have k0 := pw_cell_below HB.out h0; have k1 := pw_cell_below HB.out h1; have k2 := pw_cell_below HB.out h2; have k3 := pw_cell_below HB.out h3
      clear h0 h1 h2 h3
      obtain ⟨kx0, kx1, kx2⟩ := HK.out x (List.mem_of_getElem? hx)
      have HK2 := Aside0.mk kx0; have HK3 := Aside0.mk kx1
      clear hx kx0 kx1
      have bi0 := HKI.out.n0; have bi1 := HKI.out.n1; have bi2 := HKI.out.ok.now1
      go_upto_region 10 with (fail)
      obtain ⟨wq, hwq⟩ : ∃ wq, wr.alloc (.cells #[.int .u8 x.a0, .int .i64 x.a1, .int .u64 x.a2, .int .u64 x.a3] 32 (0, 0)) = wq := ⟨_, rfl⟩
      have bel := below_alloc (Below.refl wr.heap.size wr) (.cells #[.int .u8 x.a0, .int .i64 x.a1, .int .u64 x.a2, .int .u64 x.a3] 32 (0, 0))
      have HALL := Aside0.mk (show All w wq g b s bb lb bu lu wr.heap.size x from by
        rw [← hwq]
        exact ⟨HT.out.below bel, HMB.out.below bel, HMU.out.below bel, below_step HB.out bel, HN.out.1, HN.out.2.1, HN.out.2.2, blk_new wr _⟩)
      rw [hwq]
      clear HT HB HMB HMU k0 k1 k2 k3 hwq bel
      generalize wr.heap.size = sb at HALL ⊢
      have kl := blk_cell HALL.out.blk 1; have kd := blk_cell HALL.out.blk 0
      go_cut [40] (fun s40 wx => s40 = .bool (decide (0 < x.a1 ∧ x.a1 < 1000)) ∧ wq = wx)
      case first =>
        go_wp2_with fail
        all_goals go_meet
        all_goals exact ⟨by simp; try omega, rfl⟩
      case rest =>
        obtain ⟨rfl, rfl⟩ := hcut
        go_upto_if 40 with (fail)
        go_cut [7] (fun s7 wx => ∃ now' : Int, s7 = .int .i64 now' ∧ Aside0 (now ≤ now' ∧ now' ≤ now + 1000) ∧ wq = wx)
        case first =>
          by_cases hq : 0 < x.a1 ∧ x.a1 < 1000
          · rw [decide_eq_true hq]
            obtain ⟨hq0, hq1⟩ := hq
            go_wp2_with fail
            go_meet
            exact ⟨_, rfl, ⟨by omega⟩, rfl⟩
          · rw [decide_eq_false hq]
            go_wp2_with fail
            go_meet
            exact ⟨_, rfl, ⟨by omega⟩, rfl⟩
        case rest =>
          obtain ⟨now', rfl, HNW, rfl⟩ := hcut
          obtain ⟨ki, j1, j2, j3⟩ := HKI.out.on HNW.out.1 HNW.out.2
          have o1 := HKI.out.ok
          have m1 := ki.n1; have m0 := HNW.out.1
          have LB := Aside0.mk (show lb.length ≤ 1000000 by omega)
          have LU := Aside0.mk (show lu.length ≤ 1000000 by omega)
          have ks := blk_cell HALL.out.blk 2; have kr := blk_cell HALL.out.blk 3
          clear kl
          by_cases hk1 : x.a0 % 4 = 1
          · have hk1' : (x.a0 % 4 == 1) = true := by simp [hk1]
            obtain ⟨r, ok, s1, at_, was, f1, f2, f3, f4, f5, f6⟩ := keeps_find ki (by omega) j1 j3 x.a2
            have H1 := Aside0.mk (fun w' hT hB => find_c g b s now' x.a2 HK2.out w w' hT hB o1 r ok s1 f1)
            have HLU := Aside0.mk f2
            obtain ⟨bx, by_, hbx⟩ : ∃ p q, TabB.lookV lb x.a2 = (p, q) := ⟨_, _, rfl⟩
            have hbd : bnd lb x.a2 = bx := by unfold bnd; rw [hbx]
            rw [hbd] at f6
            have HLB := Aside0.mk (fun W hM => TabB.look1_run W bb lb hM x.a2 HK2.out bx by_ hbx)
            have e1 : IntKind.i64.wrap (at_ + 100) = at_ + 100 := by rw [i64_w]; exact Base.w64 (by omega) (by omega)
            have c : (ok = true ∧ was = true ∧ now' < at_ + 100 ∧ r = bx ∧ KI (i + 1) now' s1 lb (TabU.putV lu x.a2 now')) ∨ (ok = false ∧ r = 0 ∧ (was = false ∨ (was = true ∧ ¬ now' < at_ + 100)) ∧ KI (i + 1) now' s1 lb (TabU.delV lu x.a2)) := by
              rcases f6 with ⟨g1, g2, g3⟩ | ⟨g1, g2, g3⟩
              · rw [g1] at f3
                have := f3.symm
                rw [Bool.and_eq_true, decide_eq_true_eq] at this
                exact .inl ⟨g1, this.1, this.2, g2, g3⟩
              · rw [g1] at f3
                have := f3.symm
                rw [Bool.and_eq_false_iff, decide_eq_false_iff_not] at this
                refine .inr ⟨g1, g2, ?_, g3⟩
                cases was
                · exact .inl rfl
                · exact .inr ⟨rfl, this.resolve_left (by simp)⟩
            clear f1 f2 f3 f6 hbx hbd o1 ki hk1 bi0 bi1 bi2
            rcases c with ⟨rfl, rfl, c2, rfl, kk⟩ | ⟨rfl, rfl, rfl | ⟨rfl, c2⟩, kk⟩
            · have HK9 := Aside0.mk kk
              clear kk
              go_wp2_with (first | (go_at_call 8; (with_reducible refine (H1.out _ HALL.out.iT HALL.out.bl).mono ?_); rintro e w9 ⟨rfl, hp⟩; have n0_ := Aside0.mk (HALL.out.t hp); clear HALL hp; have HALL := n0_; clear n0_; have ks := blk_cell HALL.out.blk 2; have kr := blk_cell HALL.out.blk 3; have hl := HLB.out _ HALL.out.mb) | (at_lookup; refine TabU.wpList_look rfl _ _ rfl bu lu HALL.out.mu x.a2 HK2.out rfl rfl at_ true HLU.out ?_) | (at_mapUpdate; refine TabU.wpList_put rfl _ _ _ rfl bu lu HALL.out.mu LU.out x.a2 now' HK2.out rfl rfl rfl ?_; intro w9 hm hg; have n0_ := Aside0.mk (HALL.out.pu hm hg); clear HALL hm hg; have HALL := n0_; clear n0_; have ks := blk_cell HALL.out.blk 2; have kr := blk_cell HALL.out.blk 3))
              go_roundw
              case rel => exact ⟨i + 1, now', s1, _, _, by go_num, rfl, ⟨by omega⟩, HK9, ⟨HALL.out.iT⟩, ⟨HALL.out.mb⟩, ⟨HALL.out.mu⟩, ⟨HALL.out.bl⟩⟩
              case measure => simp [intOf]; omega
            · have HK9 := Aside0.mk kk
              clear kk
              go_wp2_with (first | (go_at_call 8; (with_reducible refine (H1.out _ HALL.out.iT HALL.out.bl).mono ?_); rintro e w9 ⟨rfl, hp⟩; have n0_ := Aside0.mk (HALL.out.t hp); clear HALL hp; have HALL := n0_; clear n0_; have ks := blk_cell HALL.out.blk 2; have kr := blk_cell HALL.out.blk 3; have hl := HLB.out _ HALL.out.mb) | (at_lookup; refine TabU.wpList_look rfl _ _ rfl bu lu HALL.out.mu x.a2 HK2.out rfl rfl at_ false HLU.out ?_) | (at_delete; refine TabU.wpList_del rfl _ _ rfl bu lu HALL.out.mu x.a2 HK2.out rfl rfl ?_; intro w9 hm hg; have n0_ := Aside0.mk (HALL.out.pu hm hg); clear HALL hm hg; have HALL := n0_; clear n0_; have ks := blk_cell HALL.out.blk 2; have kr := blk_cell HALL.out.blk 3))
              go_roundw
              case rel => exact ⟨i + 1, now', s1, _, _, by go_num, rfl, ⟨by omega⟩, HK9, ⟨HALL.out.iT⟩, ⟨HALL.out.mb⟩, ⟨HALL.out.mu⟩, ⟨HALL.out.bl⟩⟩
              case measure => simp [intOf]; omega
            · have HK9 := Aside0.mk kk
              clear kk
              go_wp2_with (first | (go_at_call 8; (with_reducible refine (H1.out _ HALL.out.iT HALL.out.bl).mono ?_); rintro e w9 ⟨rfl, hp⟩; have n0_ := Aside0.mk (HALL.out.t hp); clear HALL hp; have HALL := n0_; clear n0_; have ks := blk_cell HALL.out.blk 2; have kr := blk_cell HALL.out.blk 3; have hl := HLB.out _ HALL.out.mb) | (at_lookup; refine TabU.wpList_look rfl _ _ rfl bu lu HALL.out.mu x.a2 HK2.out rfl rfl at_ true HLU.out ?_) | (at_delete; refine TabU.wpList_del rfl _ _ rfl bu lu HALL.out.mu x.a2 HK2.out rfl rfl ?_; intro w9 hm hg; have n0_ := Aside0.mk (HALL.out.pu hm hg); clear HALL hm hg; have HALL := n0_; clear n0_; have ks := blk_cell HALL.out.blk 2; have kr := blk_cell HALL.out.blk 3))
              go_roundw
              case rel => exact ⟨i + 1, now', s1, _, _, by go_num, rfl, ⟨by omega⟩, HK9, ⟨HALL.out.iT⟩, ⟨HALL.out.mb⟩, ⟨HALL.out.mu⟩, ⟨HALL.out.bl⟩⟩
              case measure => simp [intOf]; omega
          · have hk1' : (x.a0 % 4 == 1) = false := by simp [hk1]
            obtain ⟨nf, kb⟩ := keeps_bind ki (by omega) j1 j2 j3 x.a2 x.a3 HK3.out
            have kl := keeps_len kb (by omega)
            obtain ⟨s1, hs1⟩ : ∃ s1, bindV s now' x.a2 x.a3 = s1 := ⟨_, rfl⟩
            rw [hs1] at kb kl
            obtain ⟨k2_, en2, el2⟩ := kb.later (by omega)
            obtain ⟨s2, hs2⟩ : ∃ s2, laterV s1 now' = s2 := ⟨_, rfl⟩
            rw [hs2] at k2_ kl
            have o2 := kb.ok
            have H1 := Aside0.mk (fun w' hT hB => bind_c g b s now' x.a2 x.a3 HK2.out w w' hT hB o1 nf s1 hs1)
            have H2 := Aside0.mk (fun w' hT hB => len_c g b s1 now' w w' hT hB o2 s2 hs2)
            have HK9 := Aside0.mk k2_
            have hgt : decide (((TabU.putV lu x.a2 now').length : Int) < (s2.l.length : Int)) = false := by simp; omega
            have hgt' : decide ((TabU.putV lu x.a2 now').length < s2.l.length) = false := by simp; omega
            have HQ := Aside0.mk (TabU.run_len bu (TabU.putV lu x.a2 now'))
            clear nf kb kl hs1 en2 el2 hs2 k2_ o1 o2 hk1 bi0 bi1 bi2
            go_wp2_with (first | (go_at_call 9; (with_reducible refine (H1.out _ HALL.out.iT HALL.out.bl).mono ?_); rintro e w9 ⟨rfl, hp⟩; have n0_ := Aside0.mk (HALL.out.t hp); clear HALL hp; have HALL := n0_; clear n0_; have ks := blk_cell HALL.out.blk 2; have kr := blk_cell HALL.out.blk 3) | (at_mapUpdate; refine TabB.wpList_put rfl _ _ _ rfl bb lb HALL.out.mb LB.out x.a2 x.a3 HK2.out rfl rfl rfl ?_; intro w9 hm hg; have n0_ := Aside0.mk (HALL.out.pb hm hg); clear HALL hm hg; have HALL := n0_; clear n0_; have ks := blk_cell HALL.out.blk 2; have kr := blk_cell HALL.out.blk 3) | (at_mapUpdate; refine TabU.wpList_put rfl _ _ _ rfl bu lu HALL.out.mu LU.out x.a2 now' HK2.out rfl rfl rfl ?_; intro w9 hm hg; have n0_ := Aside0.mk (HALL.out.pu hm hg); clear HALL hm hg; have HALL := n0_; clear n0_; have ks := blk_cell HALL.out.blk 2; have kr := blk_cell HALL.out.blk 3) | (go_at_call 10; (with_reducible refine (H2.out _ HALL.out.iT HALL.out.bl).mono ?_); rintro e w9 ⟨rfl, hp⟩; have n0_ := Aside0.mk (HALL.out.t hp); clear HALL hp; have HALL := n0_; clear n0_; have ks := blk_cell HALL.out.blk 2; have kr := blk_cell HALL.out.blk 3; have ql := HQ.out _ HALL.out.mu))
            go_roundw
            case rel => exact ⟨i + 1, now', s2, _, _, by go_num, rfl, ⟨by omega⟩, HK9, ⟨HALL.out.iT⟩, ⟨HALL.out.mb⟩, ⟨HALL.out.mu⟩, ⟨HALL.out.bl⟩⟩
            case measure => simp [intOf]; omega
    · go_wp2_with (first | (go_at_call 11; (with_reducible refine (HA.out _).mono ?_); rintro e w9 ⟨rfl, hb⟩; have n1_ := Aside0.mk (below_step HB.out hb); clear HB hb; have HB := n1_; clear n1_))
      go_ret
      exact ⟨rfl, HB.out⟩
end Go.Proofs.Ytghicenodafbkaa.Aff
