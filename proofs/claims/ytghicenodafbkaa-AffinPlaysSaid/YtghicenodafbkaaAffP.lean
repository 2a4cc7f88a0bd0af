/- AffinPlays: a table answers every call, in every order, at every time, as the document says; the walk; no condition but that numbers are of their kinds. -/
import Derived.Test.YtghicenodafbkaaAffS
import Derived.Test.YtghicenodafbkaaAffL
import Derived.Test.YtghicenodafbkaaSteps
namespace Go.Proofs.Ytghicenodafbkaa.Aff
set_option linter.unusedVariables false
set_option linter.unusedSimpArgs false
open Go.RowKit Go.Proofs.Ytghicenodafbkaa.PA Go.Proofs.YtghicenodafbkaaW.PrintWords Go.Proofs.YtghicenodafbkaaW.PrintLast Go.Proofs.YtghicenodafbkaaW.PrintMore Go.Proofs.Ytghicenodafbkaa.Tab Go.Proofs.Ytghicenodafbkaa.Lst
attribute [local go_sem] max2_int min2_int max_two min_two max_three min_three max_four min_four
structure AllP (w0 W : World) (g b : Nat) (s : TS) (gr : Nat) (v : Value) (r : TS) (sb : Nat) (x : Stp.St) : Prop where
  iT : IsT w0 W g b s
  iR : IsR w0 W gr v r
  bl : Below w0.heap.size w0 W
  st : W.heap[sb]? = some (.cells #[.int .u8 x.a0, .int .i64 x.a1, .int .u64 x.a2, .int .u64 x.a3] 32 (0, 0))
section
variable {w0 W W' : World} {g b : Nat} {s s' : TS} {gr : Nat} {v : Value} {r r' : TS} {sb : Nat} {x : Stp.St}
theorem AllP.t (h : AllP w0 W g b s gr v r sb x) (hp : Post w0 W g b s' W') : AllP w0 W' g b s' gr v r sb x := ⟨hp.1, h.iR.keepT h.iT hp.2.2, hp.2.1, hp.2.2.blk h.st (blk_ne h.st h.iT.1 (by decide)) (by simpa using h.iT.map.ne h.st)⟩
theorem AllP.d (h : AllP w0 W g b s gr v r sb x) (hp : PostR w0 W gr v r' W') : ∃ v', AllP w0 W' g b s gr v' r' sb x := by
  obtain ⟨v', h1, h2, h3, _⟩ := hp
  exact ⟨v', h.iT.keepR h.iR h3, h1, h2, h3.blk h.st (blk_ne h.st h.iR.1 (by decide)) (fun e => h.iR.ls.ne h.st (by decide) e)⟩
theorem AllP.drew (h : AllP w0 W g b s gr v r sb x) : AllP w0 W.drew g b s gr v r sb x := ⟨h.iT.drew 1, h.iR.drew 1, below_drew h.bl, blk_drew h.st⟩
theorem nil_form (h : Ls encB 68 W w0.heap.size v []) : ∃ A c, v = .slice A 0 c := by
  obtain ⟨A, c, e, _, _⟩ := h.form
  exact ⟨A, c, e⟩
theorem isR_new (hB : Below w0.heap.size w0 W) (room keep : Int) (hl : Ls encB 68 W w0.heap.size v []) : IsR w0 (W.alloc (.cells #[.int .i64 room, .int .i64 keep, .int .i64 0, v] 42 (0, 0))) W.heap.size v ⟨room, keep, 0, []⟩ := ⟨blk_new _ _, hl.below (below_alloc (Below.refl _ _) _), hB.size⟩
theorem Post.as {s r : TS} (h : Post w0 W g b s W') (hp : s.l.Perm r.l) (he : s = { r with l := s.l }) : Post w0 W g b r W' := ⟨h.1.as hp he, h.2⟩
end
set_option maxHeartbeats 8000000 in
set_option maxRecDepth 100000 in
theorem plays_no (room keep : Int) (h : ¬ MayB room keep) (A : Option Addr) (cp n : Nat) (w : World) : Calls Try.prog 4 #[.int .i64 room, .int .i64 keep, .slice A n cp] w fun e w' => e = .returned (.bool true) ∧ Below w.heap.size w w' := by
  have HA := Aside0.mk alive_c
  have HM := Aside0.mk h
  have HB := Aside0.mk (Below.refl w.heap.size w)
  have huR := Try.underlying42
  have hzR := zeroR
  clear h
  go_enter Try.func4, Try.ntmps4
  go_upto_region 3 with (first | (go_at_call 6; (with_reducible refine (new_no _ _ HM.out _).mono ?_); rintro e w9 ⟨rfl, rfl⟩) | (go_at_call 12; (with_reducible refine (rnew_no _ _ HM.out _).mono ?_); rintro e w9 ⟨v, rfl, hl, hb⟩; obtain ⟨A9, c9, rfl⟩ := nil_form hl; have n1_ := Aside0.mk (below_step HB.out hb); clear HB hb; have HB := n1_; clear n1_))
  have n1_ := Aside0.mk (below_alloc HB.out (.cells #[.int .i64 0, .int .i64 0, .int .i64 0, .slice A9 0 c9] 42 (0, 0)))
  clear HB
  have HB := n1_
  clear n1_
  go_wp2_with (first | (go_at_call 11; (with_reducible refine (HA.out _).mono ?_); rintro e w9 ⟨rfl, hb⟩; have n1_ := Aside0.mk (below_step HB.out hb); clear HB hb; have HB := n1_; clear n1_))
  go_ret
  exact ⟨rfl, HB.out⟩
set_option maxHeartbeats 32000000 in
set_option maxRecDepth 100000 in
theorem plays_ok (room keep : Int) (h : MayB room keep) (A : Option Addr) (cp : Nat) (l : List Stp.St) (w : World) (hrw : Stp.Row w A l) (hc : l.length ≤ cp) (hmx : l.length ≤ 9223372036854775807) (hk : ∀ x ∈ l, (0 ≤ x.a2 ∧ x.a2 ≤ 18446744073709551615) ∧ (0 ≤ x.a3 ∧ x.a3 ≤ 18446744073709551615) ∧ 0 ≤ x.a0 ∧ x.a0 ≤ 255) : Calls Try.prog 4 #[.int .i64 room, .int .i64 keep, .slice A l.length cp] w fun e w' => e = .returned (.bool true) ∧ Below w.heap.size w w' := by
  have HRW := Aside0.mk hrw
  have HC := Aside0.mk hc; have HMX := Aside0.mk hmx; have HK := Aside0.mk hk
  obtain ⟨L, hL⟩ : ∃ L, min l.length 150 = L := ⟨_, rfl⟩
  have HLQ := Aside0.mk hL
  have HL := Aside0.mk (show L ≤ l.length ∧ L ≤ 150 from by omega)
  have HA := Aside0.mk alive_c
  have HM := Aside0.mk h
  have HI0 := Aside0.mk (ok_new h)
  have HB := Aside0.mk (Below.refl w.heap.size w)
  have huR := Try.underlying42
  have hzR := zeroR
  have hu32 := Try.underlying32
  have hu68 := Try.underlying68
  obtain ⟨i0, hi0, _, hs0, _⟩ := info_parts info32
  clear h hrw hc hmx hk hL
  go_enter Try.func4, Try.ntmps4
  go_upto_region 3 with (first | (go_at_call 6; (with_reducible refine (new_c _ _ HM.out _).mono ?_); rintro e w9 ⟨g, b, rfl, hi, hb⟩; have n1_ := Aside0.mk (below_step HB.out hb); have HT := Aside0.mk (hi.of HB.out); clear HB hi hb; have HB := n1_; clear n1_) | (go_at_call 12; (with_reducible refine (rnew_c _ _ HM.out _).mono ?_); rintro e w9 ⟨v, rfl, hl, hb⟩; obtain ⟨A9, c9, rfl⟩ := nil_form hl; have HLS := Aside0.mk (hl.lower HB.out.size); have n1_ := Aside0.mk (below_step HB.out hb); have n2_ := Aside0.mk (HT.out.below hb); clear HB HT hb hl; have HB := n1_; have HT := n2_; clear n1_ n2_))
  have HR := Aside0.mk (isR_new HB.out room keep HLS.out)
  have n0_ := Aside0.mk (HT.out.below (below_alloc (Below.refl _ _) (.cells #[.int .i64 room, .int .i64 keep, .int .i64 0, .slice A9 0 c9] 42 (0, 0))))
  have n1_ := Aside0.mk (below_alloc HB.out (.cells #[.int .i64 room, .int .i64 keep, .int .i64 0, .slice A9 0 c9] 42 (0, 0)))
  clear HT HB HLS
  have HT := n0_; have HB := n1_
  clear n0_ n1_
  obtain ⟨wz, hwz⟩ : ∃ wz, World.alloc w9 (.cells #[.int .i64 room, .int .i64 keep, .int .i64 0, .slice A9 0 c9] 42 (0, 0)) = wz := ⟨_, rfl⟩
  rw [hwz] at HR HT HB ⊢
  clear hwz
  generalize w9.heap.size = gr at HR ⊢
  go_wp2_with (first | (go_at_call 7; (with_reducible refine (Stp.short_c A l.length cp _ HC.out HMX.out _ HLQ.out).mono ?_); rintro e w3 ⟨rfl, rfl⟩))
  go_loopw [58] (fun vi wr => ∃ (i : Nat) (r : TS) (v : Value), vi = .int .i64 i ∧ Aside0 (i ≤ L) ∧ Aside0 (Ok r) ∧ Aside0 (IsT w wr g b r) ∧ Aside0 (IsR w wr gr v r) ∧ Aside0 (Below w.heap.size w wr)) (fun vi _ => (L - intOf vi).toNat)
  case atStart => exact ⟨0, _, _, rfl, ⟨by omega⟩, HI0, HT, HR, HB⟩
  case round =>
    clear HT HB HR HI0
    obtain ⟨i, r, v, rfl, HIL, HO, HT, HR, HB⟩ := hrel
    have l1 := HL.out.2
    have l2 := HIL.out
    by_cases hlt : i < L
    · obtain ⟨x, hx⟩ : ∃ x, l[i]? = some x := ⟨_, List.getElem?_eq_getElem (show i < l.length by have := HL.out.1; omega)⟩
      obtain ⟨a, rfl, h0, h1, h2, h3⟩ := HRW.out.cells hx
      have k0 := pw_cell_below HB.out h0; have k1 := pw_cell_below HB.out h1; have k2 := pw_cell_below HB.out h2; have k3 := pw_cell_below HB.out h3
      clear h0 h1 h2 h3
      obtain ⟨kx0, kx1, kx2⟩ := HK.out x (List.mem_of_getElem? hx)
      have HK2 := Aside0.mk kx0; have HK3 := Aside0.mk kx1
      clear hx kx0 kx1
      go_upto_region 8 with (fail)
      obtain ⟨wq, hwq⟩ : ∃ wq, wr.alloc (.cells #[.int .u8 x.a0, .int .i64 x.a1, .int .u64 x.a2, .int .u64 x.a3] 32 (0, 0)) = wq := ⟨_, rfl⟩
      have HALL := Aside0.mk (show AllP w wq g b r gr v r wr.heap.size x from by
        rw [← hwq]
        exact ⟨HT.out.below (below_alloc (Below.refl _ _) _), HR.out.below (below_alloc (Below.refl _ _) _), below_alloc HB.out _, blk_new wr _⟩)
      rw [hwq]
      clear HT HB HR k0 k1 k2 k3 hwq
      generalize wr.heap.size = sb at HALL ⊢
      obtain ⟨T0, hT0⟩ : ∃ T0, r.now = T0 := ⟨_, rfl⟩
      have t0 := HO.out.now1; have t1 := HO.out.now2
      rw [hT0] at t0 t1
      have kT := HALL.out.iR.c2
      rw [hT0] at kT
      clear hT0
      have kl := blk_cell HALL.out.st 1; have kd := blk_cell HALL.out.st 0
      go_upto_region 9 with (fail)
      go_cut [71] (fun s71 wx => s71 = .bool (decide (-100000 < x.a1 ∧ x.a1 < 1125899906842624)) ∧ wq = wx)
      case first =>
        go_wp2_with fail
        all_goals go_meet
        all_goals exact ⟨by simp; try omega, rfl⟩
      case rest =>
        obtain ⟨rfl, rfl⟩ := hcut
        go_upto_if 71 with (fail)
        go_cut [13] (fun s13 wx => ∃ now' : Int, s13 = .int .i64 now' ∧ wq = wx)
        case first =>
          by_cases hq : -100000 < x.a1 ∧ x.a1 < 1125899906842624
          · rw [decide_eq_true hq]
            obtain ⟨hq0, hq1⟩ := hq
            go_wp2_with fail
            go_meet
            exact ⟨_, rfl, rfl⟩
          · rw [decide_eq_false hq]
            go_wp2_with fail
            go_meet
            exact ⟨_, rfl, rfl⟩
        case rest =>
          obtain ⟨now', rfl, rfl⟩ := hcut
          have ks := blk_cell HALL.out.st 2; have kr := blk_cell HALL.out.st 3
          have o := HO.out
          clear kl kT t0 t1
          by_cases hk1 : x.a0 % 4 = 1
          · have hk1' : (x.a0 % 4 == 1) = true := by simp [hk1]
            obtain ⟨x1, b1, s1, he⟩ : ∃ y z s2, findV r now' x.a2 = ((y, z), s2) := ⟨_, _, _, rfl⟩
            obtain ⟨x2, b2, r1, hr⟩ : ∃ y z s2, rfindV r now' x.a2 = ((y, z), s2) := ⟨_, _, _, rfl⟩
            obtain ⟨rfl, rfl, pp, se, o1, al, hnow⟩ := find_sim o now' x.a2 he hr
            have H1 := Aside0.mk (show ∀ w', IsT w w' g b r → Below w.heap.size w w' → Calls Try.prog 8 #[.pointer (some ⟨g, 0, none⟩), .int .i64 now', .int .u64 x.a2] w' fun e w'' => e = .returned (.tuple #[.int .u64 x1, .bool b1]) ∧ Post w w' g b r1 w'' from fun w' hT hB => (find_c g b r now' x.a2 HK2.out w w' hT hB o x1 b1 s1 he).mono fun e w'' h => ⟨h.1, h.2.as pp se⟩)
            have H2 := Aside0.mk (fun v' w' hR hB => rfind_c gr v' r now' x.a2 w w' hR hB o x1 b1 r1 hr)
            have fe : (x1 == x1) = true := by simp
            have ff : (b1 == b1) = true := by simp
            clear he hr pp se o hk1
            have H5 := Aside0.mk (fun w' hT hB => len_c g b r1 now' w w' hT hB o1 r1 (later_again hnow al))
            obtain ⟨T, hT⟩ : ∃ T, r1.now = T := ⟨_, rfl⟩
            have HTT := Aside0.mk hT
            have H6 := Aside0.mk (fun w' hT' => now_c g b r1 T w w' hT' hT)
            have HO1 := Aside0.mk o1
            clear o1 al hnow hT
            go_upto_region 21 with (first | (go_at_call 8; (with_reducible refine (H1.out _ HALL.out.iT HALL.out.bl).mono ?_); rintro e w9 ⟨rfl, hp⟩; have n0_ := Aside0.mk (HALL.out.t hp); clear HALL hp; have HALL := n0_; clear n0_; have ks := blk_cell HALL.out.st 2; have kr := blk_cell HALL.out.st 3) | (go_at_call 13; (with_reducible refine (H2.out _ _ HALL.out.iR HALL.out.bl).mono ?_); rintro e w9 ⟨rfl, hp⟩; obtain ⟨v2, hp⟩ := HALL.out.d hp; have n0_ := Aside0.mk hp; clear HALL hp; have HALL := n0_; clear n0_; have ks := blk_cell HALL.out.st 2; have kr := blk_cell HALL.out.st 3))
            have n0_ := Aside0.mk (HALL.out.drew)
            clear HALL
            try clear ks
            try clear kr
            have HALL := n0_
            clear n0_
            obtain ⟨A2, c2, rfl, _, _⟩ := HALL.out.iR.ls.form
            have k3 := HALL.out.iR.c3; have k2 := HALL.out.iR.c2
            rw [HTT.out] at k2
            have fq2 : ((r1.l.length : Int) != (r1.l.length : Int)) = false := by simp
            have fq3 : (T != T) = false := by simp
            refine start_ (n := 18) (S := fun w' => w'.cell? ⟨gr, 3, none⟩ = some (.slice A2 r1.l.length c2) ∧ w'.cell? ⟨gr, 2, none⟩ = some (.int .i64 T)) (ds := []) #[false, false, false, false, false, false, false, false, false, false, false, false, false, false, false, false, false, false] (by kernel_rfl) rfl rfl ⟨k3, k2⟩ (fun hHeld => ?_)
            refine pure_ (i := 0) (N := some 129) (v := ?_) (a' := ?_) #[true, false, false, false, false, false, false, false, false, false, false, false, false, false, false, false, false, false] rfl rfl (by kernel_rfl) (fun _ _ _ h => h) (Or.inl ⟨by rfl, ?_⟩) ?_ ?_
            rotate_left
            · intro w'
              go_simp
              with_reducible rfl
            rotate_left
            · simp only [Act.put, List.setIfInBounds_toArray, List.set_cons_zero, List.set_cons_succ, i64_w, i32_w]
              rfl
            refine pure_ (i := 1) (N := some 130) (v := ?_) (a' := ?_) #[true, true, false, false, false, false, false, false, false, false, false, false, false, false, false, false, false, false] rfl rfl (by kernel_rfl) (fun _ _ _ h => h) (Or.inl ⟨by rfl, ?_⟩) ?_ ?_
            rotate_left
            · intro w'
              go_simp
              with_reducible rfl
            rotate_left
            · simp only [Act.put, List.setIfInBounds_toArray, List.set_cons_zero, List.set_cons_succ, i64_w, i32_w]
              rfl
            refine pure_ (i := 2) (N := some 131) (v := ?_) (a' := ?_) #[true, true, true, false, false, false, false, false, false, false, false, false, false, false, false, false, false, false] rfl rfl (by kernel_rfl) (fun _ _ _ h => h) (Or.inl ⟨by rfl, ?_⟩) ?_ ?_
            rotate_left
            · intro w'
              go_simp
              with_reducible rfl
            rotate_left
            · simp only [Act.put, List.setIfInBounds_toArray, List.set_cons_zero, List.set_cons_succ, i64_w, i32_w]
              rfl
            refine pure_ (i := 3) (N := some 132) (v := ?_) (a' := ?_) #[true, true, true, true, false, false, false, false, false, false, false, false, false, false, false, false, false, false] rfl rfl (by kernel_rfl) (fun _ _ _ h => h) (Or.inl ⟨by rfl, ?_⟩) ?_ ?_
            rotate_left
            · intro w'
              go_simp
              with_reducible rfl
            rotate_left
            · simp only [Act.put, List.setIfInBounds_toArray, List.set_cons_zero, List.set_cons_succ, i64_w, i32_w]
              rfl
            refine pure_ (i := 4) (N := some 133) (v := ?_) (a' := ?_) #[true, true, true, true, true, false, false, false, false, false, false, false, false, false, false, false, false, false] rfl rfl (by kernel_rfl) (fun _ _ _ h => h) (Or.inl ⟨by rfl, ?_⟩) ?_ ?_
            rotate_left
            · intro w'
              go_simp
              with_reducible rfl
            rotate_left
            · simp only [Act.put, List.setIfInBounds_toArray, List.set_cons_zero, List.set_cons_succ, i64_w, i32_w]
              rfl
            refine pure_ (i := 6) (N := some 135) (v := ?_) (a' := ?_) #[true, true, true, true, true, false, true, false, false, false, false, false, false, false, false, false, false, false] rfl rfl (by kernel_rfl) (fun _ _ _ h => h) (Or.inl ⟨by rfl, ?_⟩) ?_ ?_
            rotate_left
            · intro w'
              go_simp
              with_reducible rfl
            rotate_left
            · simp only [Act.put, List.setIfInBounds_toArray, List.set_cons_zero, List.set_cons_succ, i64_w, i32_w]
              rfl
            refine take_ (i := 7) (N := some 136) (v := ?_) (a' := ?_) #[true, true, true, true, true, false, true, true, false, false, false, false, false, false, false, false, false, false] rfl rfl (by kernel_rfl) (fun _ _ _ h => h) (Or.inl ⟨by rfl, ?_⟩) hHeld ?_ ?_
            rotate_left
            · rintro w' ⟨s0, s1⟩
              go_simp
              with_reducible rfl
            rotate_left
            · simp only [Act.put, List.setIfInBounds_toArray, List.set_cons_zero, List.set_cons_succ, i64_w, i32_w]
              rfl
            refine pure_ (i := 8) (N := some 137) (v := ?_) (a' := ?_) #[true, true, true, true, true, false, true, true, true, false, false, false, false, false, false, false, false, false] rfl rfl (by kernel_rfl) (fun _ _ _ h => h) (Or.inl ⟨by rfl, ?_⟩) ?_ ?_
            rotate_left
            · intro w'
              go_simp
              with_reducible rfl
            rotate_left
            · simp only [Act.put, List.setIfInBounds_toArray, List.set_cons_zero, List.set_cons_succ, i64_w, i32_w]
              rfl
            refine one_ (i := 5) (N := some 134) #[true, true, true, true, true, true, true, true, true, false, false, false, false, false, false, false, false, false] rfl rfl (by kernel_rfl) (by decide) (fun K hK => ?_)
            refine goes_ Try.func10 (by kernel_rfl) rfl #[.pointer (some ⟨g, 0, none⟩), .int .i64 now'] (by rfl) rfl rfl (by simp only [List.map_toArray, List.map_cons, List.map_nil]; rfl) ?_
            with_reducible refine (H5.out _ HALL.out.iT HALL.out.bl).mono ?_
            rintro e w9 ⟨rfl, hp⟩
            refine ⟨_, rfl, ?_⟩
            have n0_ := Aside0.mk (HALL.out.t hp)
            clear HALL hp
            have HALL := n0_
            clear n0_
            have k3 := HALL.out.iR.c3; have k2 := HALL.out.iR.c2
            rw [HTT.out] at k2
            refine hK.out _ _ ⟨k3, k2⟩ (fun hHeld => ?_)
            clear hK K
            refine norm_ (a' := ?_) ?_ ?_
            rotate_left
            · show Act.put _ (some 134) _ = _
              simp only [Act.put, List.setIfInBounds_toArray, List.set_cons_zero, List.set_cons_succ, i64_w, i32_w]
              rfl
            refine pure_ (i := 9) (N := some 138) (v := ?_) (a' := ?_) #[true, true, true, true, true, true, true, true, true, true, false, false, false, false, false, false, false, false] rfl rfl (by kernel_rfl) (fun _ _ _ h => h) (Or.inl ⟨by rfl, ?_⟩) ?_ ?_
            rotate_left
            · intro w'
              go_simp
              with_reducible rfl
            rotate_left
            · simp only [Act.put, List.setIfInBounds_toArray, List.set_cons_zero, List.set_cons_succ, i64_w, i32_w]
              rfl
            refine pure_ (i := 10) (N := some 139) (v := ?_) (a' := ?_) #[true, true, true, true, true, true, true, true, true, true, true, false, false, false, false, false, false, false] rfl rfl (by kernel_rfl) (fun _ _ _ h => h) (Or.inl ⟨by rfl, ?_⟩) ?_ ?_
            rotate_left
            · intro w'
              go_simp
              with_reducible rfl
            rotate_left
            · simp only [Act.put, List.setIfInBounds_toArray, List.set_cons_zero, List.set_cons_succ, i64_w, i32_w]
              rfl
            refine pure_ (i := 11) (N := some 140) (v := ?_) (a' := ?_) #[true, true, true, true, true, true, true, true, true, true, true, true, false, false, false, false, false, false] rfl rfl (by kernel_rfl) (fun _ _ _ h => h) (Or.inl ⟨by rfl, ?_⟩) ?_ ?_
            rotate_left
            · intro w'
              go_simp
              with_reducible rfl
            rotate_left
            · simp only [Act.put, List.setIfInBounds_toArray, List.set_cons_zero, List.set_cons_succ, i64_w, i32_w]
              rfl
            refine pure_ (i := 12) (N := some 141) (v := ?_) (a' := ?_) #[true, true, true, true, true, true, true, true, true, true, true, true, true, false, false, false, false, false] rfl rfl (by kernel_rfl) (fun _ _ _ h => h) (Or.inl ⟨by rfl, ?_⟩) ?_ ?_
            rotate_left
            · intro w'
              go_simp
              with_reducible rfl
            rotate_left
            · simp only [Act.put, List.setIfInBounds_toArray, List.set_cons_zero, List.set_cons_succ, i64_w, i32_w]
              rfl
            refine pure_ (i := 14) (N := some 143) (v := ?_) (a' := ?_) #[true, true, true, true, true, true, true, true, true, true, true, true, true, false, true, false, false, false] rfl rfl (by kernel_rfl) (fun _ _ _ h => h) (Or.inl ⟨by rfl, ?_⟩) ?_ ?_
            rotate_left
            · intro w'
              go_simp
              with_reducible rfl
            rotate_left
            · simp only [Act.put, List.setIfInBounds_toArray, List.set_cons_zero, List.set_cons_succ, i64_w, i32_w]
              rfl
            refine take_ (i := 15) (N := some 144) (v := ?_) (a' := ?_) #[true, true, true, true, true, true, true, true, true, true, true, true, true, false, true, true, false, false] rfl rfl (by kernel_rfl) (fun _ _ _ h => h) (Or.inl ⟨by rfl, ?_⟩) hHeld ?_ ?_
            rotate_left
            · rintro w' ⟨s0, s1⟩
              go_simp
              with_reducible rfl
            rotate_left
            · simp only [Act.put, List.setIfInBounds_toArray, List.set_cons_zero, List.set_cons_succ, i64_w, i32_w]
              rfl
            refine one_ (i := 13) (N := some 142) #[true, true, true, true, true, true, true, true, true, true, true, true, true, true, true, true, false, false] rfl rfl (by kernel_rfl) (by decide) (fun K hK => ?_)
            refine goes_ Try.func17 (by kernel_rfl) rfl #[.pointer (some ⟨g, 0, none⟩)] (by rfl) rfl rfl (by simp only [List.map_toArray, List.map_cons, List.map_nil]; rfl) ?_
            with_reducible refine (H6.out _ HALL.out.iT).mono ?_
            rintro e w9 ⟨rfl, rfl⟩
            refine ⟨_, rfl, ?_⟩
            refine hK.out _ _ ⟨k3, k2⟩ (fun hHeld => ?_)
            clear hK K
            refine norm_ (a' := ?_) ?_ ?_
            rotate_left
            · show Act.put _ (some 142) _ = _
              simp only [Act.put, List.setIfInBounds_toArray, List.set_cons_zero, List.set_cons_succ, i64_w, i32_w]
              rfl
            refine pure_ (i := 16) (N := some 145) (v := ?_) (a' := ?_) #[true, true, true, true, true, true, true, true, true, true, true, true, true, true, true, true, true, false] rfl rfl (by kernel_rfl) (fun _ _ _ h => h) (Or.inl ⟨by rfl, ?_⟩) ?_ ?_
            rotate_left
            · intro w'
              go_simp
              with_reducible rfl
            rotate_left
            · simp only [Act.put, List.setIfInBounds_toArray, List.set_cons_zero, List.set_cons_succ, i64_w, i32_w]
              rfl
            refine pure_ (i := 17) (N := some 146) (v := ?_) (a' := ?_) #[true, true, true, true, true, true, true, true, true, true, true, true, true, true, true, true, true, true] rfl rfl (by kernel_rfl) (fun _ _ _ h => h) (Or.inl ⟨by rfl, ?_⟩) ?_ ?_
            rotate_left
            · intro w'
              go_simp
              with_reducible rfl
            rotate_left
            · simp only [Act.put, List.setIfInBounds_toArray, List.set_cons_zero, List.set_cons_succ, i64_w, i32_w]
              rfl
            refine done_ (by kernel_rfl) ?_
            go_wp2_with fail
            go_roundw
            case rel => exact ⟨i + 1, r1, _, by go_num, ⟨by omega⟩, HO1, ⟨HALL.out.iT⟩, ⟨HALL.out.iR⟩, ⟨HALL.out.bl⟩⟩
            case measure => simp [intOf]; omega
          · have hk1' : (x.a0 % 4 == 1) = false := by simp [hk1]
            by_cases hk2 : x.a0 % 4 = 2
            · have hk2' : (x.a0 % 4 == 2) = true := by simp [hk2]
              obtain ⟨n1, s1, he⟩ : ∃ n s1, forgetV r now' x.a3 = (n, s1) := ⟨_, _, rfl⟩
              obtain ⟨n2, r1, hr⟩ : ∃ n r1, rforgetV r now' x.a3 = (n, r1) := ⟨_, _, rfl⟩
              obtain ⟨rfl, rfl, o1, al, hnow⟩ := forget_sim o now' x.a3 he hr
              have H1 := Aside0.mk (fun w' hT hB => forget_c g b r now' x.a3 w w' hT hB o n1 s1 he)
              have H2 := Aside0.mk (fun v' w' hR hB => rforget_c gr v' r now' x.a3 w w' hR hB o n1 s1 hr)
              have fe : (n1 == n1) = true := by simp
              clear he hr o hk1 hk2
              obtain ⟨r1, rfl⟩ : ∃ r1, r1 = s1 := ⟨_, rfl⟩
              have H5 := Aside0.mk (fun w' hT hB => len_c g b r1 now' w w' hT hB o1 r1 (later_again hnow al))
              obtain ⟨T, hT⟩ : ∃ T, r1.now = T := ⟨_, rfl⟩
              have HTT := Aside0.mk hT
              have H6 := Aside0.mk (fun w' hT' => now_c g b r1 T w w' hT' hT)
              have HO1 := Aside0.mk o1
              clear o1 al hnow hT
              go_upto_region 20 with (fail)
              have n0_ := Aside0.mk (HALL.out.drew)
              clear HALL ks kr
              have HALL := n0_
              clear n0_
              have kr := blk_cell HALL.out.st 3
              refine start_ (n := 11) (S := fun w' => w'.cell? ⟨sb, 3, none⟩ = some (.int .u64 x.a3)) (ds := []) #[false, false, false, false, false, false, false, false, false, false, false] (by kernel_rfl) rfl rfl (kr) (fun hHeld => ?_)
              refine pure_ (i := 0) (N := some 119) (v := ?_) (a' := ?_) #[true, false, false, false, false, false, false, false, false, false, false] rfl rfl (by kernel_rfl) (fun _ _ _ h => h) (Or.inl ⟨by rfl, ?_⟩) ?_ ?_
              rotate_left
              · intro w'
                go_simp
                with_reducible rfl
              rotate_left
              · simp only [Act.put, List.setIfInBounds_toArray, List.set_cons_zero, List.set_cons_succ, i64_w, i32_w]
                rfl
              refine pure_ (i := 1) (N := some 120) (v := ?_) (a' := ?_) #[true, true, false, false, false, false, false, false, false, false, false] rfl rfl (by kernel_rfl) (fun _ _ _ h => h) (Or.inl ⟨by rfl, ?_⟩) ?_ ?_
              rotate_left
              · intro w'
                go_simp
                with_reducible rfl
              rotate_left
              · simp only [Act.put, List.setIfInBounds_toArray, List.set_cons_zero, List.set_cons_succ, i64_w, i32_w]
                rfl
              refine pure_ (i := 2) (N := some 121) (v := ?_) (a' := ?_) #[true, true, true, false, false, false, false, false, false, false, false] rfl rfl (by kernel_rfl) (fun _ _ _ h => h) (Or.inl ⟨by rfl, ?_⟩) ?_ ?_
              rotate_left
              · intro w'
                go_simp
                with_reducible rfl
              rotate_left
              · simp only [Act.put, List.setIfInBounds_toArray, List.set_cons_zero, List.set_cons_succ, i64_w, i32_w]
                rfl
              refine pure_ (i := 5) (N := some 124) (v := ?_) (a' := ?_) #[true, true, true, false, false, true, false, false, false, false, false] rfl rfl (by kernel_rfl) (fun _ _ _ h => h) (Or.inl ⟨by rfl, ?_⟩) ?_ ?_
              rotate_left
              · intro w'
                go_simp
                with_reducible rfl
              rotate_left
              · simp only [Act.put, List.setIfInBounds_toArray, List.set_cons_zero, List.set_cons_succ, i64_w, i32_w]
                rfl
              refine pure_ (i := 6) (N := some 125) (v := ?_) (a' := ?_) #[true, true, true, false, false, true, true, false, false, false, false] rfl rfl (by kernel_rfl) (fun _ _ _ h => h) (Or.inl ⟨by rfl, ?_⟩) ?_ ?_
              rotate_left
              · intro w'
                go_simp
                with_reducible rfl
              rotate_left
              · simp only [Act.put, List.setIfInBounds_toArray, List.set_cons_zero, List.set_cons_succ, i64_w, i32_w]
                rfl
              refine take_ (i := 3) (N := some 122) (v := ?_) (a' := ?_) #[true, true, true, true, false, true, true, false, false, false, false] rfl rfl (by kernel_rfl) (fun _ _ _ h => h) (Or.inl ⟨by rfl, ?_⟩) hHeld ?_ ?_
              rotate_left
              · intro w' s0
                go_simp
                with_reducible rfl
              rotate_left
              · simp only [Act.put, List.setIfInBounds_toArray, List.set_cons_zero, List.set_cons_succ, i64_w, i32_w]
                rfl
              refine take_ (i := 7) (N := some 126) (v := ?_) (a' := ?_) #[true, true, true, true, false, true, true, true, false, false, false] rfl rfl (by kernel_rfl) (fun _ _ _ h => h) (Or.inl ⟨by rfl, ?_⟩) hHeld ?_ ?_
              rotate_left
              · intro w' s0
                go_simp
                with_reducible rfl
              rotate_left
              · simp only [Act.put, List.setIfInBounds_toArray, List.set_cons_zero, List.set_cons_succ, i64_w, i32_w]
                rfl
              refine one_ (i := 4) (N := some 123) #[true, true, true, true, true, true, true, true, false, false, false] rfl rfl (by kernel_rfl) (by decide) (fun K hK => ?_)
              refine goes_ Try.func14 (by kernel_rfl) rfl #[.pointer (some ⟨g, 0, none⟩), .int .i64 now', .int .u64 x.a3] (by rfl) rfl rfl (by simp only [List.map_toArray, List.map_cons, List.map_nil]; rfl) ?_
              with_reducible refine (H1.out _ HALL.out.iT HALL.out.bl).mono ?_
              rintro e w9 ⟨rfl, hp⟩
              refine ⟨_, rfl, ?_⟩
              have n0_ := Aside0.mk (HALL.out.t hp)
              clear HALL hp
              have HALL := n0_
              clear n0_
              have kr := blk_cell HALL.out.st 3
              refine hK.out _ _ (kr) (fun hHeld => ?_)
              clear hK K
              refine norm_ (a' := ?_) ?_ ?_
              rotate_left
              · show Act.put _ (some 123) _ = _
                simp only [Act.put, List.setIfInBounds_toArray, List.set_cons_zero, List.set_cons_succ, i64_w, i32_w]
                rfl
              refine one_ (i := 8) (N := some 127) #[true, true, true, true, true, true, true, true, true, false, false] rfl rfl (by kernel_rfl) (by decide) (fun K hK => ?_)
              refine goes_ Try.func15 (by kernel_rfl) rfl #[.pointer (some ⟨gr, 0, none⟩), .int .i64 now', .int .u64 x.a3] (by rfl) rfl rfl (by simp only [List.map_toArray, List.map_cons, List.map_nil]; rfl) ?_
              with_reducible refine (H2.out _ _ HALL.out.iR HALL.out.bl).mono ?_
              rintro e w9 ⟨rfl, hp⟩
              refine ⟨_, rfl, ?_⟩
              obtain ⟨v2, hp⟩ := HALL.out.d hp
              have n0_ := Aside0.mk hp
              clear HALL hp
              have HALL := n0_
              clear n0_
              have kr := blk_cell HALL.out.st 3
              refine hK.out _ _ (kr) (fun hHeld => ?_)
              clear hK K
              refine norm_ (a' := ?_) ?_ ?_
              rotate_left
              · show Act.put _ (some 127) _ = _
                simp only [Act.put, List.setIfInBounds_toArray, List.set_cons_zero, List.set_cons_succ, i64_w, i32_w]
                rfl
              refine pure_ (i := 9) (N := some 128) (v := ?_) (a' := ?_) #[true, true, true, true, true, true, true, true, true, true, false] rfl rfl (by kernel_rfl) (fun _ _ _ h => h) (Or.inl ⟨by rfl, ?_⟩) ?_ ?_
              rotate_left
              · intro w'
                go_simp
                with_reducible rfl
              rotate_left
              · simp only [Act.put, List.setIfInBounds_toArray, List.set_cons_zero, List.set_cons_succ, i64_w, i32_w]
                rfl
              refine pure_ (i := 10) (N := some 14) (v := ?_) (a' := ?_) #[true, true, true, true, true, true, true, true, true, true, true] rfl rfl (by kernel_rfl) (fun _ _ _ h => h) (Or.inl ⟨by rfl, ?_⟩) ?_ ?_
              rotate_left
              · intro w'
                go_simp
                with_reducible rfl
              rotate_left
              · simp only [Act.put, List.setIfInBounds_toArray, List.set_cons_zero, List.set_cons_succ, i64_w, i32_w]
                rfl
              refine done_ (by kernel_rfl) ?_
              go_upto_region 21 with (fail)
              have n0_ := Aside0.mk (HALL.out.drew)
              clear HALL
              try clear ks
              try clear kr
              have HALL := n0_
              clear n0_
              obtain ⟨A2, c2, rfl, _, _⟩ := HALL.out.iR.ls.form
              have k3 := HALL.out.iR.c3; have k2 := HALL.out.iR.c2
              rw [HTT.out] at k2
              have fq2 : ((r1.l.length : Int) != (r1.l.length : Int)) = false := by simp
              have fq3 : (T != T) = false := by simp
              refine start_ (n := 18) (S := fun w' => w'.cell? ⟨gr, 3, none⟩ = some (.slice A2 r1.l.length c2) ∧ w'.cell? ⟨gr, 2, none⟩ = some (.int .i64 T)) (ds := []) #[false, false, false, false, false, false, false, false, false, false, false, false, false, false, false, false, false, false] (by kernel_rfl) rfl rfl ⟨k3, k2⟩ (fun hHeld => ?_)
              refine pure_ (i := 0) (N := some 129) (v := ?_) (a' := ?_) #[true, false, false, false, false, false, false, false, false, false, false, false, false, false, false, false, false, false] rfl rfl (by kernel_rfl) (fun _ _ _ h => h) (Or.inl ⟨by rfl, ?_⟩) ?_ ?_
              rotate_left
              · intro w'
                go_simp
                with_reducible rfl
              rotate_left
              · simp only [Act.put, List.setIfInBounds_toArray, List.set_cons_zero, List.set_cons_succ, i64_w, i32_w]
                rfl
              refine pure_ (i := 1) (N := some 130) (v := ?_) (a' := ?_) #[true, true, false, false, false, false, false, false, false, false, false, false, false, false, false, false, false, false] rfl rfl (by kernel_rfl) (fun _ _ _ h => h) (Or.inl ⟨by rfl, ?_⟩) ?_ ?_
              rotate_left
              · intro w'
                go_simp
                with_reducible rfl
              rotate_left
              · simp only [Act.put, List.setIfInBounds_toArray, List.set_cons_zero, List.set_cons_succ, i64_w, i32_w]
                rfl
              refine pure_ (i := 2) (N := some 131) (v := ?_) (a' := ?_) #[true, true, true, false, false, false, false, false, false, false, false, false, false, false, false, false, false, false] rfl rfl (by kernel_rfl) (fun _ _ _ h => h) (Or.inl ⟨by rfl, ?_⟩) ?_ ?_
              rotate_left
              · intro w'
                go_simp
                with_reducible rfl
              rotate_left
              · simp only [Act.put, List.setIfInBounds_toArray, List.set_cons_zero, List.set_cons_succ, i64_w, i32_w]
                rfl
              refine pure_ (i := 3) (N := some 132) (v := ?_) (a' := ?_) #[true, true, true, true, false, false, false, false, false, false, false, false, false, false, false, false, false, false] rfl rfl (by kernel_rfl) (fun _ _ _ h => h) (Or.inl ⟨by rfl, ?_⟩) ?_ ?_
              rotate_left
              · intro w'
                go_simp
                with_reducible rfl
              rotate_left
              · simp only [Act.put, List.setIfInBounds_toArray, List.set_cons_zero, List.set_cons_succ, i64_w, i32_w]
                rfl
              refine pure_ (i := 4) (N := some 133) (v := ?_) (a' := ?_) #[true, true, true, true, true, false, false, false, false, false, false, false, false, false, false, false, false, false] rfl rfl (by kernel_rfl) (fun _ _ _ h => h) (Or.inl ⟨by rfl, ?_⟩) ?_ ?_
              rotate_left
              · intro w'
                go_simp
                with_reducible rfl
              rotate_left
              · simp only [Act.put, List.setIfInBounds_toArray, List.set_cons_zero, List.set_cons_succ, i64_w, i32_w]
                rfl
              refine pure_ (i := 6) (N := some 135) (v := ?_) (a' := ?_) #[true, true, true, true, true, false, true, false, false, false, false, false, false, false, false, false, false, false] rfl rfl (by kernel_rfl) (fun _ _ _ h => h) (Or.inl ⟨by rfl, ?_⟩) ?_ ?_
              rotate_left
              · intro w'
                go_simp
                with_reducible rfl
              rotate_left
              · simp only [Act.put, List.setIfInBounds_toArray, List.set_cons_zero, List.set_cons_succ, i64_w, i32_w]
                rfl
              refine take_ (i := 7) (N := some 136) (v := ?_) (a' := ?_) #[true, true, true, true, true, false, true, true, false, false, false, false, false, false, false, false, false, false] rfl rfl (by kernel_rfl) (fun _ _ _ h => h) (Or.inl ⟨by rfl, ?_⟩) hHeld ?_ ?_
              rotate_left
              · rintro w' ⟨s0, s1⟩
                go_simp
                with_reducible rfl
              rotate_left
              · simp only [Act.put, List.setIfInBounds_toArray, List.set_cons_zero, List.set_cons_succ, i64_w, i32_w]
                rfl
              refine pure_ (i := 8) (N := some 137) (v := ?_) (a' := ?_) #[true, true, true, true, true, false, true, true, true, false, false, false, false, false, false, false, false, false] rfl rfl (by kernel_rfl) (fun _ _ _ h => h) (Or.inl ⟨by rfl, ?_⟩) ?_ ?_
              rotate_left
              · intro w'
                go_simp
                with_reducible rfl
              rotate_left
              · simp only [Act.put, List.setIfInBounds_toArray, List.set_cons_zero, List.set_cons_succ, i64_w, i32_w]
                rfl
              refine one_ (i := 5) (N := some 134) #[true, true, true, true, true, true, true, true, true, false, false, false, false, false, false, false, false, false] rfl rfl (by kernel_rfl) (by decide) (fun K hK => ?_)
              refine goes_ Try.func10 (by kernel_rfl) rfl #[.pointer (some ⟨g, 0, none⟩), .int .i64 now'] (by rfl) rfl rfl (by simp only [List.map_toArray, List.map_cons, List.map_nil]; rfl) ?_
              with_reducible refine (H5.out _ HALL.out.iT HALL.out.bl).mono ?_
              rintro e w9 ⟨rfl, hp⟩
              refine ⟨_, rfl, ?_⟩
              have n0_ := Aside0.mk (HALL.out.t hp)
              clear HALL hp
              have HALL := n0_
              clear n0_
              have k3 := HALL.out.iR.c3; have k2 := HALL.out.iR.c2
              rw [HTT.out] at k2
              refine hK.out _ _ ⟨k3, k2⟩ (fun hHeld => ?_)
              clear hK K
              refine norm_ (a' := ?_) ?_ ?_
              rotate_left
              · show Act.put _ (some 134) _ = _
                simp only [Act.put, List.setIfInBounds_toArray, List.set_cons_zero, List.set_cons_succ, i64_w, i32_w]
                rfl
              refine pure_ (i := 9) (N := some 138) (v := ?_) (a' := ?_) #[true, true, true, true, true, true, true, true, true, true, false, false, false, false, false, false, false, false] rfl rfl (by kernel_rfl) (fun _ _ _ h => h) (Or.inl ⟨by rfl, ?_⟩) ?_ ?_
              rotate_left
              · intro w'
                go_simp
                with_reducible rfl
              rotate_left
              · simp only [Act.put, List.setIfInBounds_toArray, List.set_cons_zero, List.set_cons_succ, i64_w, i32_w]
                rfl
              refine pure_ (i := 10) (N := some 139) (v := ?_) (a' := ?_) #[true, true, true, true, true, true, true, true, true, true, true, false, false, false, false, false, false, false] rfl rfl (by kernel_rfl) (fun _ _ _ h => h) (Or.inl ⟨by rfl, ?_⟩) ?_ ?_
              rotate_left
              · intro w'
                go_simp
                with_reducible rfl
              rotate_left
              · simp only [Act.put, List.setIfInBounds_toArray, List.set_cons_zero, List.set_cons_succ, i64_w, i32_w]
                rfl
              refine pure_ (i := 11) (N := some 140) (v := ?_) (a' := ?_) #[true, true, true, true, true, true, true, true, true, true, true, true, false, false, false, false, false, false] rfl rfl (by kernel_rfl) (fun _ _ _ h => h) (Or.inl ⟨by rfl, ?_⟩) ?_ ?_
              rotate_left
              · intro w'
                go_simp
                with_reducible rfl
              rotate_left
              · simp only [Act.put, List.setIfInBounds_toArray, List.set_cons_zero, List.set_cons_succ, i64_w, i32_w]
                rfl
              refine pure_ (i := 12) (N := some 141) (v := ?_) (a' := ?_) #[true, true, true, true, true, true, true, true, true, true, true, true, true, false, false, false, false, false] rfl rfl (by kernel_rfl) (fun _ _ _ h => h) (Or.inl ⟨by rfl, ?_⟩) ?_ ?_
              rotate_left
              · intro w'
                go_simp
                with_reducible rfl
              rotate_left
              · simp only [Act.put, List.setIfInBounds_toArray, List.set_cons_zero, List.set_cons_succ, i64_w, i32_w]
                rfl
              refine pure_ (i := 14) (N := some 143) (v := ?_) (a' := ?_) #[true, true, true, true, true, true, true, true, true, true, true, true, true, false, true, false, false, false] rfl rfl (by kernel_rfl) (fun _ _ _ h => h) (Or.inl ⟨by rfl, ?_⟩) ?_ ?_
              rotate_left
              · intro w'
                go_simp
                with_reducible rfl
              rotate_left
              · simp only [Act.put, List.setIfInBounds_toArray, List.set_cons_zero, List.set_cons_succ, i64_w, i32_w]
                rfl
              refine take_ (i := 15) (N := some 144) (v := ?_) (a' := ?_) #[true, true, true, true, true, true, true, true, true, true, true, true, true, false, true, true, false, false] rfl rfl (by kernel_rfl) (fun _ _ _ h => h) (Or.inl ⟨by rfl, ?_⟩) hHeld ?_ ?_
              rotate_left
              · rintro w' ⟨s0, s1⟩
                go_simp
                with_reducible rfl
              rotate_left
              · simp only [Act.put, List.setIfInBounds_toArray, List.set_cons_zero, List.set_cons_succ, i64_w, i32_w]
                rfl
              refine one_ (i := 13) (N := some 142) #[true, true, true, true, true, true, true, true, true, true, true, true, true, true, true, true, false, false] rfl rfl (by kernel_rfl) (by decide) (fun K hK => ?_)
              refine goes_ Try.func17 (by kernel_rfl) rfl #[.pointer (some ⟨g, 0, none⟩)] (by rfl) rfl rfl (by simp only [List.map_toArray, List.map_cons, List.map_nil]; rfl) ?_
              with_reducible refine (H6.out _ HALL.out.iT).mono ?_
              rintro e w9 ⟨rfl, rfl⟩
              refine ⟨_, rfl, ?_⟩
              refine hK.out _ _ ⟨k3, k2⟩ (fun hHeld => ?_)
              clear hK K
              refine norm_ (a' := ?_) ?_ ?_
              rotate_left
              · show Act.put _ (some 142) _ = _
                simp only [Act.put, List.setIfInBounds_toArray, List.set_cons_zero, List.set_cons_succ, i64_w, i32_w]
                rfl
              refine pure_ (i := 16) (N := some 145) (v := ?_) (a' := ?_) #[true, true, true, true, true, true, true, true, true, true, true, true, true, true, true, true, true, false] rfl rfl (by kernel_rfl) (fun _ _ _ h => h) (Or.inl ⟨by rfl, ?_⟩) ?_ ?_
              rotate_left
              · intro w'
                go_simp
                with_reducible rfl
              rotate_left
              · simp only [Act.put, List.setIfInBounds_toArray, List.set_cons_zero, List.set_cons_succ, i64_w, i32_w]
                rfl
              refine pure_ (i := 17) (N := some 146) (v := ?_) (a' := ?_) #[true, true, true, true, true, true, true, true, true, true, true, true, true, true, true, true, true, true] rfl rfl (by kernel_rfl) (fun _ _ _ h => h) (Or.inl ⟨by rfl, ?_⟩) ?_ ?_
              rotate_left
              · intro w'
                go_simp
                with_reducible rfl
              rotate_left
              · simp only [Act.put, List.setIfInBounds_toArray, List.set_cons_zero, List.set_cons_succ, i64_w, i32_w]
                rfl
              refine done_ (by kernel_rfl) ?_
              go_wp2_with fail
              go_roundw
              case rel => exact ⟨i + 1, r1, _, by go_num, ⟨by omega⟩, HO1, ⟨HALL.out.iT⟩, ⟨HALL.out.iR⟩, ⟨HALL.out.bl⟩⟩
              case measure => simp [intOf]; omega
            · have hk2' : (x.a0 % 4 == 2) = false := by simp [hk2]
              obtain ⟨hb1, hb2⟩ := bind_both o now' x.a2 x.a3 HK2.out w g b gr
              obtain ⟨o1, al, hnow⟩ := bind_plain o now' x.a2 x.a3 HK3.out
              obtain ⟨r1, hr1⟩ : ∃ r1, bindR r now' x.a2 x.a3 = r1 := ⟨_, rfl⟩
              rw [hr1] at hb1 hb2 o1 al hnow
              have H1 := Aside0.mk hb1
              have H2 := Aside0.mk hb2
              clear hb1 hb2 hr1 o hk1 hk2
              have H5 := Aside0.mk (fun w' hT hB => len_c g b r1 now' w w' hT hB o1 r1 (later_again hnow al))
              obtain ⟨T, hT⟩ : ∃ T, r1.now = T := ⟨_, rfl⟩
              have HTT := Aside0.mk hT
              have H6 := Aside0.mk (fun w' hT' => now_c g b r1 T w w' hT' hT)
              have HO1 := Aside0.mk o1
              clear o1 al hnow hT
              go_upto_region 21 with (first | (go_at_call 9; (with_reducible refine (H1.out _ HALL.out.iT HALL.out.bl).mono ?_); rintro e w9 ⟨rfl, hp⟩; have n0_ := Aside0.mk (HALL.out.t hp); clear HALL hp; have HALL := n0_; clear n0_; have ks := blk_cell HALL.out.st 2; have kr := blk_cell HALL.out.st 3) | (go_at_call 16; (with_reducible refine (H2.out _ _ HALL.out.iR HALL.out.bl).mono ?_); rintro e w9 ⟨rfl, hp⟩; obtain ⟨v2, hp⟩ := HALL.out.d hp; have n0_ := Aside0.mk hp; clear HALL hp; have HALL := n0_; clear n0_; have ks := blk_cell HALL.out.st 2; have kr := blk_cell HALL.out.st 3))
              have n0_ := Aside0.mk (HALL.out.drew)
              clear HALL
              try clear ks
              try clear kr
              have HALL := n0_
              clear n0_
              obtain ⟨A2, c2, rfl, _, _⟩ := HALL.out.iR.ls.form
              have k3 := HALL.out.iR.c3; have k2 := HALL.out.iR.c2
              rw [HTT.out] at k2
              have fq2 : ((r1.l.length : Int) != (r1.l.length : Int)) = false := by simp
              have fq3 : (T != T) = false := by simp
              refine start_ (n := 18) (S := fun w' => w'.cell? ⟨gr, 3, none⟩ = some (.slice A2 r1.l.length c2) ∧ w'.cell? ⟨gr, 2, none⟩ = some (.int .i64 T)) (ds := []) #[false, false, false, false, false, false, false, false, false, false, false, false, false, false, false, false, false, false] (by kernel_rfl) rfl rfl ⟨k3, k2⟩ (fun hHeld => ?_)
              refine pure_ (i := 0) (N := some 129) (v := ?_) (a' := ?_) #[true, false, false, false, false, false, false, false, false, false, false, false, false, false, false, false, false, false] rfl rfl (by kernel_rfl) (fun _ _ _ h => h) (Or.inl ⟨by rfl, ?_⟩) ?_ ?_
              rotate_left
              · intro w'
                go_simp
                with_reducible rfl
              rotate_left
              · simp only [Act.put, List.setIfInBounds_toArray, List.set_cons_zero, List.set_cons_succ, i64_w, i32_w]
                rfl
              refine pure_ (i := 1) (N := some 130) (v := ?_) (a' := ?_) #[true, true, false, false, false, false, false, false, false, false, false, false, false, false, false, false, false, false] rfl rfl (by kernel_rfl) (fun _ _ _ h => h) (Or.inl ⟨by rfl, ?_⟩) ?_ ?_
              rotate_left
              · intro w'
                go_simp
                with_reducible rfl
              rotate_left
              · simp only [Act.put, List.setIfInBounds_toArray, List.set_cons_zero, List.set_cons_succ, i64_w, i32_w]
                rfl
              refine pure_ (i := 2) (N := some 131) (v := ?_) (a' := ?_) #[true, true, true, false, false, false, false, false, false, false, false, false, false, false, false, false, false, false] rfl rfl (by kernel_rfl) (fun _ _ _ h => h) (Or.inl ⟨by rfl, ?_⟩) ?_ ?_
              rotate_left
              · intro w'
                go_simp
                with_reducible rfl
              rotate_left
              · simp only [Act.put, List.setIfInBounds_toArray, List.set_cons_zero, List.set_cons_succ, i64_w, i32_w]
                rfl
              refine pure_ (i := 3) (N := some 132) (v := ?_) (a' := ?_) #[true, true, true, true, false, false, false, false, false, false, false, false, false, false, false, false, false, false] rfl rfl (by kernel_rfl) (fun _ _ _ h => h) (Or.inl ⟨by rfl, ?_⟩) ?_ ?_
              rotate_left
              · intro w'
                go_simp
                with_reducible rfl
              rotate_left
              · simp only [Act.put, List.setIfInBounds_toArray, List.set_cons_zero, List.set_cons_succ, i64_w, i32_w]
                rfl
              refine pure_ (i := 4) (N := some 133) (v := ?_) (a' := ?_) #[true, true, true, true, true, false, false, false, false, false, false, false, false, false, false, false, false, false] rfl rfl (by kernel_rfl) (fun _ _ _ h => h) (Or.inl ⟨by rfl, ?_⟩) ?_ ?_
              rotate_left
              · intro w'
                go_simp
                with_reducible rfl
              rotate_left
              · simp only [Act.put, List.setIfInBounds_toArray, List.set_cons_zero, List.set_cons_succ, i64_w, i32_w]
                rfl
              refine pure_ (i := 6) (N := some 135) (v := ?_) (a' := ?_) #[true, true, true, true, true, false, true, false, false, false, false, false, false, false, false, false, false, false] rfl rfl (by kernel_rfl) (fun _ _ _ h => h) (Or.inl ⟨by rfl, ?_⟩) ?_ ?_
              rotate_left
              · intro w'
                go_simp
                with_reducible rfl
              rotate_left
              · simp only [Act.put, List.setIfInBounds_toArray, List.set_cons_zero, List.set_cons_succ, i64_w, i32_w]
                rfl
              refine take_ (i := 7) (N := some 136) (v := ?_) (a' := ?_) #[true, true, true, true, true, false, true, true, false, false, false, false, false, false, false, false, false, false] rfl rfl (by kernel_rfl) (fun _ _ _ h => h) (Or.inl ⟨by rfl, ?_⟩) hHeld ?_ ?_
              rotate_left
              · rintro w' ⟨s0, s1⟩
                go_simp
                with_reducible rfl
              rotate_left
              · simp only [Act.put, List.setIfInBounds_toArray, List.set_cons_zero, List.set_cons_succ, i64_w, i32_w]
                rfl
              refine pure_ (i := 8) (N := some 137) (v := ?_) (a' := ?_) #[true, true, true, true, true, false, true, true, true, false, false, false, false, false, false, false, false, false] rfl rfl (by kernel_rfl) (fun _ _ _ h => h) (Or.inl ⟨by rfl, ?_⟩) ?_ ?_
              rotate_left
              · intro w'
                go_simp
                with_reducible rfl
              rotate_left
              · simp only [Act.put, List.setIfInBounds_toArray, List.set_cons_zero, List.set_cons_succ, i64_w, i32_w]
                rfl
              refine one_ (i := 5) (N := some 134) #[true, true, true, true, true, true, true, true, true, false, false, false, false, false, false, false, false, false] rfl rfl (by kernel_rfl) (by decide) (fun K hK => ?_)
              refine goes_ Try.func10 (by kernel_rfl) rfl #[.pointer (some ⟨g, 0, none⟩), .int .i64 now'] (by rfl) rfl rfl (by simp only [List.map_toArray, List.map_cons, List.map_nil]; rfl) ?_
              with_reducible refine (H5.out _ HALL.out.iT HALL.out.bl).mono ?_
              rintro e w9 ⟨rfl, hp⟩
              refine ⟨_, rfl, ?_⟩
              have n0_ := Aside0.mk (HALL.out.t hp)
              clear HALL hp
              have HALL := n0_
              clear n0_
              have k3 := HALL.out.iR.c3; have k2 := HALL.out.iR.c2
              rw [HTT.out] at k2
              refine hK.out _ _ ⟨k3, k2⟩ (fun hHeld => ?_)
              clear hK K
              refine norm_ (a' := ?_) ?_ ?_
              rotate_left
              · show Act.put _ (some 134) _ = _
                simp only [Act.put, List.setIfInBounds_toArray, List.set_cons_zero, List.set_cons_succ, i64_w, i32_w]
                rfl
              refine pure_ (i := 9) (N := some 138) (v := ?_) (a' := ?_) #[true, true, true, true, true, true, true, true, true, true, false, false, false, false, false, false, false, false] rfl rfl (by kernel_rfl) (fun _ _ _ h => h) (Or.inl ⟨by rfl, ?_⟩) ?_ ?_
              rotate_left
              · intro w'
                go_simp
                with_reducible rfl
              rotate_left
              · simp only [Act.put, List.setIfInBounds_toArray, List.set_cons_zero, List.set_cons_succ, i64_w, i32_w]
                rfl
              refine pure_ (i := 10) (N := some 139) (v := ?_) (a' := ?_) #[true, true, true, true, true, true, true, true, true, true, true, false, false, false, false, false, false, false] rfl rfl (by kernel_rfl) (fun _ _ _ h => h) (Or.inl ⟨by rfl, ?_⟩) ?_ ?_
              rotate_left
              · intro w'
                go_simp
                with_reducible rfl
              rotate_left
              · simp only [Act.put, List.setIfInBounds_toArray, List.set_cons_zero, List.set_cons_succ, i64_w, i32_w]
                rfl
              refine pure_ (i := 11) (N := some 140) (v := ?_) (a' := ?_) #[true, true, true, true, true, true, true, true, true, true, true, true, false, false, false, false, false, false] rfl rfl (by kernel_rfl) (fun _ _ _ h => h) (Or.inl ⟨by rfl, ?_⟩) ?_ ?_
              rotate_left
              · intro w'
                go_simp
                with_reducible rfl
              rotate_left
              · simp only [Act.put, List.setIfInBounds_toArray, List.set_cons_zero, List.set_cons_succ, i64_w, i32_w]
                rfl
              refine pure_ (i := 12) (N := some 141) (v := ?_) (a' := ?_) #[true, true, true, true, true, true, true, true, true, true, true, true, true, false, false, false, false, false] rfl rfl (by kernel_rfl) (fun _ _ _ h => h) (Or.inl ⟨by rfl, ?_⟩) ?_ ?_
              rotate_left
              · intro w'
                go_simp
                with_reducible rfl
              rotate_left
              · simp only [Act.put, List.setIfInBounds_toArray, List.set_cons_zero, List.set_cons_succ, i64_w, i32_w]
                rfl
              refine pure_ (i := 14) (N := some 143) (v := ?_) (a' := ?_) #[true, true, true, true, true, true, true, true, true, true, true, true, true, false, true, false, false, false] rfl rfl (by kernel_rfl) (fun _ _ _ h => h) (Or.inl ⟨by rfl, ?_⟩) ?_ ?_
              rotate_left
              · intro w'
                go_simp
                with_reducible rfl
              rotate_left
              · simp only [Act.put, List.setIfInBounds_toArray, List.set_cons_zero, List.set_cons_succ, i64_w, i32_w]
                rfl
              refine take_ (i := 15) (N := some 144) (v := ?_) (a' := ?_) #[true, true, true, true, true, true, true, true, true, true, true, true, true, false, true, true, false, false] rfl rfl (by kernel_rfl) (fun _ _ _ h => h) (Or.inl ⟨by rfl, ?_⟩) hHeld ?_ ?_
              rotate_left
              · rintro w' ⟨s0, s1⟩
                go_simp
                with_reducible rfl
              rotate_left
              · simp only [Act.put, List.setIfInBounds_toArray, List.set_cons_zero, List.set_cons_succ, i64_w, i32_w]
                rfl
              refine one_ (i := 13) (N := some 142) #[true, true, true, true, true, true, true, true, true, true, true, true, true, true, true, true, false, false] rfl rfl (by kernel_rfl) (by decide) (fun K hK => ?_)
              refine goes_ Try.func17 (by kernel_rfl) rfl #[.pointer (some ⟨g, 0, none⟩)] (by rfl) rfl rfl (by simp only [List.map_toArray, List.map_cons, List.map_nil]; rfl) ?_
              with_reducible refine (H6.out _ HALL.out.iT).mono ?_
              rintro e w9 ⟨rfl, rfl⟩
              refine ⟨_, rfl, ?_⟩
              refine hK.out _ _ ⟨k3, k2⟩ (fun hHeld => ?_)
              clear hK K
              refine norm_ (a' := ?_) ?_ ?_
              rotate_left
              · show Act.put _ (some 142) _ = _
                simp only [Act.put, List.setIfInBounds_toArray, List.set_cons_zero, List.set_cons_succ, i64_w, i32_w]
                rfl
              refine pure_ (i := 16) (N := some 145) (v := ?_) (a' := ?_) #[true, true, true, true, true, true, true, true, true, true, true, true, true, true, true, true, true, false] rfl rfl (by kernel_rfl) (fun _ _ _ h => h) (Or.inl ⟨by rfl, ?_⟩) ?_ ?_
              rotate_left
              · intro w'
                go_simp
                with_reducible rfl
              rotate_left
              · simp only [Act.put, List.setIfInBounds_toArray, List.set_cons_zero, List.set_cons_succ, i64_w, i32_w]
                rfl
              refine pure_ (i := 17) (N := some 146) (v := ?_) (a' := ?_) #[true, true, true, true, true, true, true, true, true, true, true, true, true, true, true, true, true, true] rfl rfl (by kernel_rfl) (fun _ _ _ h => h) (Or.inl ⟨by rfl, ?_⟩) ?_ ?_
              rotate_left
              · intro w'
                go_simp
                with_reducible rfl
              rotate_left
              · simp only [Act.put, List.setIfInBounds_toArray, List.set_cons_zero, List.set_cons_succ, i64_w, i32_w]
                rfl
              refine done_ (by kernel_rfl) ?_
              go_wp2_with fail
              go_roundw
              case rel => exact ⟨i + 1, r1, _, by go_num, ⟨by omega⟩, HO1, ⟨HALL.out.iT⟩, ⟨HALL.out.iR⟩, ⟨HALL.out.bl⟩⟩
              case measure => simp [intOf]; omega
    · go_wp2_with (first | (go_at_call 11; (with_reducible refine (HA.out _).mono ?_); rintro e w9 ⟨rfl, hb⟩; have n1_ := Aside0.mk (below_step HB.out hb); clear HB hb; have HB := n1_; clear n1_))
      go_ret
      exact ⟨rfl, HB.out⟩
theorem plays_law (room keep : Int) (A : Option Addr) (cp : Nat) (l : List Stp.St) (w : World) (hrw : Stp.Row w A l) (hc : l.length ≤ cp) (hmx : l.length ≤ 9223372036854775807) (hk : ∀ x ∈ l, (0 ≤ x.a2 ∧ x.a2 ≤ 18446744073709551615) ∧ (0 ≤ x.a3 ∧ x.a3 ≤ 18446744073709551615) ∧ 0 ≤ x.a0 ∧ x.a0 ≤ 255) : Calls Try.prog 4 #[.int .i64 room, .int .i64 keep, .slice A l.length cp] w fun e w' => e = .returned (.bool true) ∧ Below w.heap.size w w' := by
  by_cases h : MayB room keep
  · exact plays_ok room keep h A cp l w hrw hc hmx hk
  · exact plays_no room keep h A cp l.length w
end Go.Proofs.Ytghicenodafbkaa.Aff
