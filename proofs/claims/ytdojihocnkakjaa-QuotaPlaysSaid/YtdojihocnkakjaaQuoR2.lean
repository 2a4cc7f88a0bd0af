/- The document's Later; the walk; no condition but those that stand in each. -/
import Derived.Test.YtdojihocnkakjaaQuoR
namespace Go.Proofs.Ytdojihocnkakjaa.Quo
set_option linter.unusedVariables false
set_option linter.unusedSimpArgs false
open Go.RowKit Go.Proofs.Ytdojihocnkakjaa.PA Go.Proofs.YtdojihocnkakjaaW.PrintWords Go.Proofs.YtdojihocnkakjaaW.PrintLast Go.Proofs.YtdojihocnkakjaaW.PrintMore Go.Proofs.Ytdojihocnkakjaa.Tab Go.Proofs.Ytdojihocnkakjaa.SatMul Go.Proofs.Ytdojihocnkakjaa.Lst
attribute [local go_sem] max2_int min2_int max_two min_two max_three min_three max_four min_four
theorem info66 : (Try.prog.info? 66).map (fun i => (i.zero, i.size, i.bytes)) = some (some (.agg #[.int .u64 0, .int .i64 0]), 2, 16) := by kernel_rfl
theorem keepN {w w1 : World} {g : Nat} (h : KeepBut w w1 g none) (row : Option Nat) : KeepBut w w1 g row := ⟨h.1, fun i hi hg _ => h.2 i hi hg (by simp)⟩
theorem rd_bd {r : RS} (h : OkR r) (now : Int) : 0 ≤ rd_ r now ∧ rd_ r now ≤ 1099511627776 ∧ 0 ≤ r.T + rd_ r now ∧ r.T + rd_ r now ≤ 1099511627776 := by
  have := h.T1; have := h.T2
  unfold rd_
  split <;> omega
set_option maxHeartbeats 8000000 in
set_option maxRecDepth 100000 in
theorem rlater_c (g : Nat) (v : Value) (r : RS) (now : Int) (w0 w : World) (hR : IsR w0 w g v r) (hB : Below w0.heap.size w0 w) (hO : OkR r) (r' : RS) (he : rlaterV r now = r') :
    Calls Try.prog 18 #[.pointer (some ⟨g, 0, none⟩), .int .i64 now] w fun e w' => e = .returned (.tuple #[]) ∧ PostR w0 w g v r' w' := by
  obtain ⟨d, hd⟩ : ∃ d, rd_ r now = d := ⟨_, rfl⟩
  have db := rd_bd hO now
  rw [hd] at db
  have HR := Aside0.mk hR
  have HB := Aside0.mk hB
  have HO := Aside0.mk hO
  have hc3 := hR.c3
  have hf3 := hR.free 3
  have HGE := Aside0.mk hR.ge
  obtain ⟨T, hT⟩ : ∃ T, r.T = T := ⟨_, rfl⟩
  rw [hT] at hc3 db
  have HD := Aside0.mk hd
  have HTT := Aside0.mk hT
  have hz := zeroRb
  have hu66 := Try.underlying66
  obtain ⟨i0, hi0, _, hs0, _⟩ := info_parts info66
  have HE := Aside0.mk he
  clear hR hB hO hd hT he
  go_enter Try.func18, Try.ntmps18
  go_upto_region 1 with (fail)
  go_cut [17] (fun s17 wx => s17 = .bool (decide (T < now ∧ now ≤ 1099511627776)) ∧ w = wx)
  case first =>
    go_wp2_with fail
    all_goals go_meet
    all_goals exact ⟨by simp; try omega, rfl⟩
  case rest =>
    obtain ⟨rfl, rfl⟩ := hcut
    go_upto_if 17 with (fail)
    go_cut [4] (fun s4 wx => s4 = .int .i64 d ∧ Aside0 (IsR w0 wx g v { r with T := T + d }) ∧ Aside0 (Below w0.heap.size w0 wx) ∧ Aside0 (KeepBut w wx g none))
    case first =>
      by_cases hq : T < now ∧ now ≤ 1099511627776
      · have e1 : d = now - T := by rw [← HD.out]; unfold rd_; rw [HTT.out, if_pos hq]
        rw [decide_eq_true hq]
        obtain ⟨hq0, hq1⟩ := hq
        go_wp2_with fail
        go_meet
        subst e1
        refine ⟨rfl, ⟨?_⟩, ⟨below_set HB.out HGE.out⟩, ⟨KeepBut.set_ (KeepBut.refl w g none) 3 _⟩⟩
        have := HR.out.tick now
        rw [show T + (now - T) = now by omega]
        exact this
      · have e1 : d = 0 := by rw [← HD.out]; unfold rd_; rw [HTT.out, if_neg hq]
        rw [decide_eq_false hq]
        go_wp2_with fail
        go_meet
        subst e1
        refine ⟨rfl, ⟨?_⟩, HB, ⟨KeepBut.refl w g none⟩⟩
        rw [Int.add_zero, ← HTT.out]
        exact HR.out
    case rest =>
      obtain ⟨rfl, HR1, HB1, HK1⟩ := hcut
      obtain ⟨A, c, rfl, hAc, hAm⟩ := HR1.out.ls.form
      have HLEN := Aside0.mk (show r.l.length ≤ 1024 by have := HO.out.len; have := HO.out.room2; omega)
      go_wp2_with fail
      go_loopw [5, 6] (fun vo vi wr => ∃ (i : Nat), vi = .int .i64 i ∧ Aside0 (i ≤ r.l.length) ∧ Aside0 (Ls encB 66 wr wc.heap.size vo (rkeep r d (r.l.take i))) ∧ Aside0 (Below wc.heap.size wc wr)) (fun _ vi _ => (r.l.length - intOf vi).toNat)
      case atStart => exact ⟨0, rfl, ⟨Nat.zero_le _⟩, ⟨Ls.nil _ _ _ _⟩, ⟨Below.refl _ _⟩⟩
      case round =>
        obtain ⟨i, rfl, HI, HLS, HBW⟩ := hrel
        obtain ⟨A2, c2, rfl, _, _⟩ := HLS.out.form
        have HLS0 := HLS; clear HLS; have HLS := HLS0; clear HLS0
        have l1 := HI.out
        have l0 := HLEN.out
        have HRW := Aside0.mk (HR1.out.below HBW.out)
        have hc4 := HRW.out.c4
        have hc1 := HRW.out.c1; have hc2 := HRW.out.c2
        dsimp only at hc4 hc1 hc2
        obtain ⟨most, hmost⟩ : ∃ z, r.most = z := ⟨_, rfl⟩
        obtain ⟨rate, hrate⟩ : ∃ z, r.rate = z := ⟨_, rfl⟩
        rw [hmost] at hc1; rw [hrate] at hc2
        have HM := Aside0.mk hmost; have HT2 := Aside0.mk hrate
        have m2 := HO.out.most2; have m1 := HO.out.most1; have r1 := HO.out.rate1; have r2 := HO.out.rate2
        rw [hmost] at m1 m2; rw [hrate] at r1 r2
        clear hmost hrate
        by_cases hlt : i < r.l.length
        · obtain ⟨b, hb⟩ : ∃ b, r.l[i]? = some b := ⟨_, List.getElem?_eq_getElem hlt⟩
          obtain ⟨gb, rfl, hg1, hg2, hcl, hfz, _⟩ := HRW.out.ls.at hb
          have k0 : wr.cell? ⟨gb, i * 2, none⟩ = some (.int .u64 b.s) := hcl 0 _ rfl
          have k1 : wr.cell? ⟨gb, i * 2 + 1, none⟩ = some (.int .i64 b.f) := hcl 1 _ rfl
          have fb := HO.out.fills b (List.mem_of_getElem? hb)
          rw [HM.out] at fb
          have HTK := Aside0.mk (rkeep_take (r := r) (d := d) hb)
          have glt := HRW.out.lt
          clear hb hcl hfz
          by_cases hq : 0 < rate ∧ most < d
          · obtain ⟨hq0, hq1⟩ := hq
            have HN := Aside0.mk (show rkeep r d (r.l.take (i + 1)) = rkeep r d (r.l.take i) by
              rw [HTK.out]
              have : rgrow r d b.f = r.most := by unfold rgrow; rw [HM.out, HT2.out, if_pos ⟨hq0, hq1⟩]
              rw [this, if_neg (Int.lt_irrefl _), List.append_nil])
            go_wp2_with fail
            go_quiet (fail)
            go_wp2_with fail
            go_roundw
            case rel =>
              have bel := pw_below_drewN (below_alloc (Below.refl wr.heap.size wr) (.cells #[.int .u64 b.s, .int .i64 most] 66)) nq
              exact ⟨i + 1, by go_num, ⟨by omega⟩, ⟨by rw [HN.out]; exact HLS.out.below bel⟩, ⟨below_step HBW.out bel⟩⟩
            case measure => simp [intOf]; omega
          · obtain ⟨p, hp⟩ : ∃ p, d * rate = p := ⟨_, rfl⟩
            have pb : 0 ≤ p ∧ p ≤ 4503599627370496 := by
              rw [← hp]
              refine ⟨Int.mul_nonneg (by omega) r1, ?_⟩
              by_cases hr0 : rate = 0
              · rw [hr0, Int.mul_zero]; decide
              · have : d * rate ≤ 4294967296 * 1048576 := Int.mul_le_mul (by omega) r2 r1 (by decide)
                omega
            obtain ⟨f, hf⟩ : ∃ f, mn (b.f + p) most = f := ⟨_, rfl⟩
            have hgr : rgrow r d b.f = f := by unfold rgrow; rw [HM.out, HT2.out, if_neg hq, hp]; exact hf
            have hff : (rate = 0 ∧ f = b.f) ∨ (0 < rate ∧ d ≤ most ∧ most < b.f + p ∧ f = most) ∨ (0 < rate ∧ d ≤ most ∧ b.f + p ≤ most ∧ f = b.f + p) := by
              by_cases hr0 : rate = 0
              · have : p = 0 := by rw [← hp, hr0, Int.mul_zero]
                refine .inl ⟨hr0, ?_⟩
                rw [← hf, this]; unfold mn; split <;> omega
              · refine .inr ?_
                rw [← hf]; unfold mn; split <;> omega
            have HN := Aside0.mk (show rkeep r d (r.l.take (i + 1)) = rkeep r d (r.l.take i) ++ (if f < most then [⟨b.s, f⟩] else []) by rw [HTK.out, hgr, HM.out])
            have e1 : IntKind.i64.wrap (d * rate) = p := by rw [hp, i64_w]; exact Base.w64 (by omega) (by omega)
            have e2 : IntKind.i64.wrap (b.f + p) = b.f + p := by rw [i64_w]; exact Base.w64 (by omega) (by omega)
            have E := Aside0.mk (And.intro e1 e2)
            clear hp hf hgr e1 e2 hq
            have HLB := Aside0.mk (show (rkeep r d (r.l.take i)).length ≤ 1024 by have := rkeep_len r d (r.l.take i); rw [List.length_take] at this; omega)
            rcases hff with ⟨q0, rfl⟩ | ⟨q0, q1, q2, rfl⟩ | ⟨q0, q1, q2, rfl⟩
            · subst q0
              go_wp2_with fail
              go_region
              by_cases hk : b.f < most
              · rw [if_pos hk] at HN
                go_wp2_with fail
                go_quiet (fail)
                have bel := pw_below_drewN (below_alloc (Below.refl wr.heap.size wr) (.cells #[.int .u64 b.s, .int .i64 b.f] 66)) (1 + nq)
                have HLS1 := Aside0.mk (HLS.out.below bel)
                have HBW1 := Aside0.mk (below_step HBW.out bel)
                clear bel
                go_wp2_with (first | (at_builtin; refine wpList_push rfl _ _ 43 66 _ 16 rfl Try.underlying43 info66 rfl wc.heap.size _ _ ⟨b.s, b.f⟩ rfl _ rfl (by simp) HLS1.out HBW1.out.size (by have := HLB.out; omega) (by decide) _ rfl ?_; intro v1 w1 h1 h2 h3; have HP1 := Aside0.mk h1; have HP2 := Aside0.mk h2; clear h1 h2 h3) | go_in)
                go_roundw
                case rel => exact ⟨i + 1, by go_num, ⟨by omega⟩, ⟨by rw [HN.out]; exact HP1.out⟩, ⟨pw_below_grown HBW1.out _ HBW1.out.size HP2.out (fun k hk => (HLS1.out.own k hk).1)⟩⟩
                case measure => simp [intOf]; omega
              · rw [if_neg hk, List.append_nil] at HN
                go_wp2_with fail
                go_quiet (fail)
                go_wp2_with fail
                go_roundw
                case rel =>
                  have bel := pw_below_drewN (below_alloc (Below.refl wr.heap.size wr) (.cells #[.int .u64 b.s, .int .i64 b.f] 66)) (1 + nq)
                  exact ⟨i + 1, by go_num, ⟨by omega⟩, ⟨by rw [HN.out]; exact HLS.out.below bel⟩, ⟨below_step HBW.out bel⟩⟩
                case measure => simp [intOf]; omega
            · rw [if_neg (Int.lt_irrefl _), List.append_nil] at HN
              go_wp2_with fail
              obtain ⟨e1, e2⟩ := E.out
              go_region
              · go_wp2_with fail
                go_quiet (fail)
                go_wp2_with fail
                go_roundw
                case rel =>
                  have bel := pw_below_drewN (below_alloc (Below.refl wr.heap.size wr) (.cells #[.int .u64 b.s, .int .i64 f] 66)) (1 + nq)
                  exact ⟨i + 1, by go_num, ⟨by omega⟩, ⟨by rw [HN.out]; exact HLS.out.below bel⟩, ⟨below_step HBW.out bel⟩⟩
                case measure => simp [intOf]; omega
            · go_wp2_with fail
              obtain ⟨e1, e2⟩ := E.out
              go_region
              by_cases hk : b.f + p < most
              · rw [if_pos hk] at HN
                go_wp2_with fail
                go_quiet (fail)
                have bel := pw_below_drewN (below_alloc (Below.refl wr.heap.size wr) (.cells #[.int .u64 b.s, .int .i64 (b.f + p)] 66)) (1 + nq)
                have HLS1 := Aside0.mk (HLS.out.below bel)
                have HBW1 := Aside0.mk (below_step HBW.out bel)
                clear bel
                go_wp2_with (first | (at_builtin; refine wpList_push rfl _ _ 43 66 _ 16 rfl Try.underlying43 info66 rfl wc.heap.size _ _ ⟨b.s, (b.f + p)⟩ rfl _ rfl (by simp) HLS1.out HBW1.out.size (by have := HLB.out; omega) (by decide) _ rfl ?_; intro v1 w1 h1 h2 h3; have HP1 := Aside0.mk h1; have HP2 := Aside0.mk h2; clear h1 h2 h3) | go_in)
                go_roundw
                case rel => exact ⟨i + 1, by go_num, ⟨by omega⟩, ⟨by rw [HN.out]; exact HP1.out⟩, ⟨pw_below_grown HBW1.out _ HBW1.out.size HP2.out (fun k hk => (HLS1.out.own k hk).1)⟩⟩
                case measure => simp [intOf]; omega
              · rw [if_neg hk, List.append_nil] at HN
                go_wp2_with fail
                go_quiet (fail)
                go_wp2_with fail
                go_roundw
                case rel =>
                  have bel := pw_below_drewN (below_alloc (Below.refl wr.heap.size wr) (.cells #[.int .u64 b.s, .int .i64 (b.f + p)] 66)) (1 + nq)
                  exact ⟨i + 1, by go_num, ⟨by omega⟩, ⟨by rw [HN.out]; exact HLS.out.below bel⟩, ⟨below_step HBW.out bel⟩⟩
                case measure => simp [intOf]; omega
        · have e : r.l.take i = r.l := List.take_of_length_le (by omega)
          have ER := Aside0.mk (show r' = { r with T := T + d, l := rkeep r d (r.l.take i) } by rw [e, ← HE.out]; unfold rlaterV; rw [HD.out, HTT.out])
          have hf4 := HRW.out.free 4
          clear e
          go_wp2_with fail
          first | go_end0 | ((try simp only [Exit.inBlock, Exit.then]); refine bodyPost_ret (results_none rfl _ _ _) rfl ?_)
          have hb2 := below_step HB1.out HBW.out
          refine ⟨rfl, .slice A2 (rkeep r d (r.l.take i)).length c2, ?_, below_set hb2 HGE.out, KeepBut.set_ ((keepN HK1.out _).trans (KeepBut.of_below HBW.out g _) (.inl rfl)) 4 _, ?_⟩
          · rw [ER.out]
            exact HRW.out.lay (HLS.out.lower HB1.out.size)
          · by_cases hv : (Value.slice A2 (rkeep r d (r.l.take i)).length c2).ownBlock = none
            · exact .inr (.inl hv)
            · obtain ⟨b, hb⟩ := Option.ne_none_iff_exists'.1 hv
              exact .inr (.inr ⟨b, hb, Nat.le_trans HK1.out.1 (HLS.out.own b hb).1⟩)
end Go.Proofs.Ytdojihocnkakjaa.Quo
