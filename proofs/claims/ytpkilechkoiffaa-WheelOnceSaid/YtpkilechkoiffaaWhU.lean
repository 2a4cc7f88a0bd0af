/- The document's wheel: Set; no condition but those that stand in each. -/
import Derived.Test.YtpkilechkoiffaaWhR
namespace Go.Proofs.Ytpkilechkoiffaa.Wh
set_option linter.unusedVariables false
set_option linter.unusedSimpArgs false
open Go.RowKit Go.Proofs.YtpkilechkoiffaaW.PrintWords Go.Proofs.YtpkilechkoiffaaW.PrintLast Go.Proofs.YtpkilechkoiffaaW.PrintMore Go.Proofs.Ytpkilechkoiffaa.Lst Go.Proofs.Ytpkilechkoiffaa.Heap Go.Proofs.Ytpkilechkoiffaa.TabL
attribute [local go_sem] max2_int min2_int max_two min_two max_three min_three max_four min_four
set_option maxHeartbeats 16000000 in
theorem dset_bad (w0 : World) (g : Nat) (v : Value) (T last : Int) (L : List Tm) (now after kind lab : Int) (ha : badA after = true) (T' : Int) (hT : laterT T now = T') (w : World) (h : IsD w0 w g v T last L) (hB : Below w0.heap.size w0 w) :
    Calls Try.prog 18 #[.pointer (some ⟨g, 0, none⟩), .int .i64 now, .int .i64 after, .int .i64 kind, .int .u64 lab] w fun e w' => e = .returned (.tuple #[.int .i64 0, .int .i64 1]) ∧ PostD w0 w g v T' last L w' := by
  have HLT := Aside0.mk (dlater_c w0 g v T last L now T' hT w h hB)
  have hc : after < 0 ∨ 0 ≤ after ∧ 1099511627776 < after := by
    have := of_decide_eq_true ha
    omega
  clear hT h hB ha
  rcases hc with hc | ⟨hc1, hc⟩
  · have d1 : decide (after < 0) = true := decide_eq_true hc
    clear hc
    go_enter Try.func18, Try.ntmps18
    go_wp2_with ((go_at_call 25; (with_reducible refine HLT.out.mono ?_); rintro e w9 ⟨rfl, hi, hb, hk⟩; have HW := Aside0.mk hi; have HB := Aside0.mk hb; have HK := Aside0.mk hk; clear hi hb hk))
    go_ret2
    exact ⟨rfl, v, HW.out, HB.out, HK.out, fun k hk => .inl hk⟩
  · have d1 : decide (after < 0) = false := decide_eq_false (by omega)
    have d2 : decide (1099511627776 < after) = true := decide_eq_true hc
    clear hc hc1
    go_enter Try.func18, Try.ntmps18
    go_wp2_with ((go_at_call 25; (with_reducible refine HLT.out.mono ?_); rintro e w9 ⟨rfl, hi, hb, hk⟩; have HW := Aside0.mk hi; have HB := Aside0.mk hb; have HK := Aside0.mk hk; clear hi hb hk))
    go_ret2
    exact ⟨rfl, v, HW.out, HB.out, HK.out, fun k hk => .inl hk⟩
/-- the document's wheel, and the new timer's own block -/
structure DsI (w0 w w1 : World) (g sb : Nat) (v : Value) (T n kind lab at_ : Int) (L : List Tm) : Prop where
  iD : IsD w0 w1 g v T n L
  bl : Below w0.heap.size w0 w1
  kp : Kept w w1 (fun k => k = g)
  sk : w1.heap[sb]? = some (.cells #[.int .i64 n, .int .i64 kind, .int .u64 lab, .int .i64 at_] 54 (0, 0))
  nb : w.heap.size ≤ sb
theorem DsI.drewN {w0 w w1 : World} {g sb : Nat} {v : Value} {T n kind lab at_ : Int} {L : List Tm} (h : DsI w0 w w1 g sb v T n kind lab at_ L) (m : Nat) : DsI w0 w (w1.drewN m) g sb v T n kind lab at_ L := ⟨h.iD.drewN m, pw_below_drewN h.bl m, h.kp.drewN m, blk_drewN h.sk m, h.nb⟩
theorem fun_kept {w W : World} {g : Nat} (h : Kept w W (fun k => k = g)) : Kept w W (fun k => k = g) := h
set_option maxHeartbeats 32000000 in
theorem dset_c (w0 : World) (g : Nat) (v : Value) (T last : Int) (L : List Tm) (hl : L.length ≤ 1000) (hls : 0 ≤ last ∧ last ≤ 1000) (htk : 0 ≤ T ∧ T ≤ 1099511627776) (now after kind lab : Int) (ha : badA after = false) (T' : Int) (hT : laterT T now = T') (n : Int) (hn : last + 1 = n) (at_ : Int) (hat : attV T' after = at_) (w : World) (h : IsD w0 w g v T last L) (hB : Below w0.heap.size w0 w) :
    Calls Try.prog 18 #[.pointer (some ⟨g, 0, none⟩), .int .i64 now, .int .i64 after, .int .i64 kind, .int .u64 lab] w fun e w' => e = .returned (.tuple #[.int .i64 n, .int .i64 0]) ∧ PostD w0 w g v T' n (insV L ⟨n, kind, lab, at_⟩) w' := by
  have HLT := Aside0.mk (dlater_c w0 g v T last L now T' hT w h hB)
  have HL := Aside0.mk hl
  have hc : ¬ (after < 0 ∨ 1099511627776 < after) := of_decide_eq_false ha
  have d1 : decide (after < 0) = false := decide_eq_false (by omega)
  have d2 : decide (1099511627776 < after) = false := decide_eq_false (by omega)
  have ht' : 0 ≤ T' ∧ T' ≤ 1099511627776 := by rw [← hT]; unfold laterT; split <;> (try split) <;> omega
  obtain ⟨A, c, rfl, hac⟩ := h.ct.form
  have d3 : decide ((4096 : Int) ≤ (L.length : Int)) = false := decide_eq_false (by omega)
  have d3' : decide (4096 ≤ L.length) = false := decide_eq_false (by omega)
  have hl1 : last = n - 1 := by omega
  subst hl1
  have d4 : decide ((2147483647 : Int) ≤ n - 1) = false := decide_eq_false (by omega)
  have e3 : wrap64 n = n := Base.w64 (by omega) (by omega)
  have e4 : wrap64 (T' + after) = T' + after := Base.w64 (by omega) (by omega)
  have hu54 := Try.underlying54
  have hzz : ∀ w : World, (zeroValue 54).run Try.prog w = .ok (.agg #[.int .i64 0, .int .i64 0, .int .u64 0, .int .i64 0]) w := fun w => by kernel_rfl
  obtain ⟨i0, hi0, _, hs0, _⟩ := info_parts info54
  unfold attV at hat
  have HNB := Aside0.mk hB.size
  clear hl hls htk ha hT h hB hn hc ht'
  go_enter Try.func18, Try.ntmps18
  go_upto_region 7 with ((go_at_call 25; (with_reducible refine HLT.out.mono ?_); rintro e w9 ⟨rfl, hi, hb, hk⟩; have HW := Aside0.mk hi; have HB := Aside0.mk hb; have HK := Aside0.mk hk; clear hi hb hk; have c0_ := HW.out.c0; have c1_ := HW.out.c1; have c2_ := HW.out.c2; have f1_ := HW.out.free 1))
  have b2 := HW.out.count n
  obtain ⟨w2, hw2⟩ : ∃ w2, w9.setCell ⟨g, 1, none⟩ (.int .i64 n) = w2 := ⟨_, rfl⟩
  rw [hw2] at b2
  have HW2 := Aside0.mk b2
  have HB2 := Aside0.mk (show Below w0.heap.size w0 w2 from by rw [← hw2]; exact below_set HB.out HW.out.ge)
  have HK2 := Aside0.mk (show Kept w w2 (fun k => k = g) from by rw [← hw2]; exact HK.out.setCell (p := ⟨g, 1, none⟩) (.inl rfl) _)
  rw [hw2]
  clear hw2 b2 c0_ c1_ c2_ f1_ HW HB HK
  have c0 := HW2.out.c0; have c1 := HW2.out.c1
  have glt := HW2.out.lt
  go_region
  have b5 := below_drew1 (below_alloc (Below.refl w2.heap.size w2) (.cells #[.int .i64 n, .int .i64 kind, .int .u64 lab, .int .i64 at_] 54))
  have HD0 := Aside0.mk (show DsI w0 w (World.drew (w2.alloc (.cells #[.int .i64 n, .int .i64 kind, .int .u64 lab, .int .i64 at_] 54))) g w2.heap.size (.slice A L.length c) T' n kind lab at_ L from
    ⟨HW2.out.below b5, below_step HB2.out b5, HK2.out.below b5, blk_drew (blk_new _ _), HK2.out.1⟩)
  obtain ⟨wb, hwb⟩ : ∃ wb, World.drew (w2.alloc (.cells #[.int .i64 n, .int .i64 kind, .int .u64 lab, .int .i64 at_] 54)) = wb := ⟨_, rfl⟩
  rw [hwb] at HD0 ⊢
  clear b5 hwb c0 c1 glt HW2 HB2 HK2 d1 d2 d3 d3' d4 e3 e4 hat
  generalize w2.heap.size = sb at HD0 ⊢
  go_wp2_with fail
  go_loopw [13] (fun vi wr => ∃ (i m : Nat), vi = .int .i64 i ∧ Aside0 (i ≤ L.length) ∧ Aside0 (i ≤ (befV L at_).length) ∧ Aside0 (World.drewN wb m = wr)) (fun vi _ => (L.length - intOf vi).toNat)
  case atStart => exact ⟨0, 0, rfl, ⟨Nat.zero_le _⟩, ⟨Nat.zero_le _⟩, ⟨rfl⟩⟩
  case round =>
    obtain ⟨i, m, rfl, HI, HBI, HWR⟩ := hrel
    obtain rfl := HWR.out
    have l1 := HI.out
    have l0 := HL.out
    have HDN := Aside0.mk (HD0.out.drewN m)
    generalize hwn : World.drewN wb m = wn at HDN ⊢
    have HWNE := Aside0.mk hwn
    clear hwn
    have hc2 := (HDN.out.drewN 1).iD.c2
    have s3 := blk_cell (HDN.out.drewN 1).sk 3
    by_cases hlt : i < L.length
    · obtain ⟨gb, o, hA, hgb, k0, k1, k2, k3⟩ := (HDN.out.drewN 1).iD.ct.at (at_get zT hlt)
      subst hA
      obtain ⟨y, hy⟩ : ∃ y, Heap.at_ zT L i = y := ⟨_, rfl⟩
      have HY := Aside0.mk (show L[i]? = some y from hy ▸ at_get zT hlt)
      rw [hy] at k0 k1 k2 k3
      clear hy k0 k1 k2
      have d0 : decide ((i : Int) < (L.length : Int)) = true := decide_eq_true (by omega)
      by_cases hk : y.att ≤ at_
      · have d1 : decide (y.att ≤ at_) = true := decide_eq_true hk
        have HB2 := Aside0.mk (bef_len_succ HY.out hk HBI.out)
        clear hk
        go_upto_region 9 with (fail)
        refine start_ (n := 20) (S := fun w' => w'.cell? ⟨g, 2, none⟩ = some (.slice (some ⟨gb, o, none⟩) L.length c) ∧ w'.cell? ⟨gb, o + i * 4 + 3, none⟩ = some (.int .i64 y.att) ∧ w'.cell? ⟨sb, 3, none⟩ = some (.int .i64 at_)) (ds := []) #[false, false, false, false, false, false, false, false, false, false, false, false, false, false, false, false, false, false, false, false] (by kernel_rfl) rfl rfl ⟨hc2, k3, s3⟩ (fun hHeld => ?_)
        refine pure_ (i := 0) (N := some 57) (v := ?_) (a' := ?_) #[true, false, false, false, false, false, false, false, false, false, false, false, false, false, false, false, false, false, false, false] rfl rfl (by kernel_rfl) (fun _ _ _ h => h) (Or.inl ⟨by rfl, ?_⟩) ?_ ?_
        rotate_left
        · intro w'
          go_simp
          with_reducible rfl
        rotate_left
        · simp only [Act.put, List.setIfInBounds_toArray, List.set_cons_zero, List.set_cons_succ, i64_w, i32_w]
          rfl
        refine pure_ (i := 1) (N := some 58) (v := ?_) (a' := ?_) #[true, true, false, false, false, false, false, false, false, false, false, false, false, false, false, false, false, false, false, false] rfl rfl (by kernel_rfl) (fun _ _ _ h => h) (Or.inl ⟨by rfl, ?_⟩) ?_ ?_
        rotate_left
        · intro w'
          go_simp
          with_reducible rfl
        rotate_left
        · simp only [Act.put, List.setIfInBounds_toArray, List.set_cons_zero, List.set_cons_succ, i64_w, i32_w]
          rfl
        refine pure_ (i := 2) (N := some 59) (v := ?_) (a' := ?_) #[true, true, true, false, false, false, false, false, false, false, false, false, false, false, false, false, false, false, false, false] rfl rfl (by kernel_rfl) (fun _ _ _ h => h) (Or.inl ⟨by rfl, ?_⟩) ?_ ?_
        rotate_left
        · intro w'
          go_simp
          with_reducible rfl
        rotate_left
        · simp only [Act.put, List.setIfInBounds_toArray, List.set_cons_zero, List.set_cons_succ, i64_w, i32_w]
          rfl
        refine pure_ (i := 3) (N := some 60) (v := ?_) (a' := ?_) #[true, true, true, true, false, false, false, false, false, false, false, false, false, false, false, false, false, false, false, false] rfl rfl (by kernel_rfl) (fun _ _ _ h => h) (Or.inl ⟨by rfl, ?_⟩) ?_ ?_
        rotate_left
        · intro w'
          go_simp
          with_reducible rfl
        rotate_left
        · simp only [Act.put, List.setIfInBounds_toArray, List.set_cons_zero, List.set_cons_succ, i64_w, i32_w]
          rfl
        refine take_ (i := 4) (N := some 61) (v := ?_) (a' := ?_) #[true, true, true, true, true, false, false, false, false, false, false, false, false, false, false, false, false, false, false, false] rfl rfl (by kernel_rfl) (fun _ _ _ h => h) (Or.inl ⟨by rfl, ?_⟩) hHeld ?_ ?_
        rotate_left
        · rintro w' ⟨s0, s1, s2⟩
          go_simp
          with_reducible rfl
        rotate_left
        · simp only [Act.put, List.setIfInBounds_toArray, List.set_cons_zero, List.set_cons_succ, i64_w, i32_w]
          rfl
        refine pure_ (i := 5) (N := some 62) (v := ?_) (a' := ?_) #[true, true, true, true, true, true, false, false, false, false, false, false, false, false, false, false, false, false, false, false] rfl rfl (by kernel_rfl) (fun _ _ _ h => h) (Or.inl ⟨by rfl, ?_⟩) ?_ ?_
        rotate_left
        · intro w'
          go_simp
          with_reducible rfl
        rotate_left
        · simp only [Act.put, List.setIfInBounds_toArray, List.set_cons_zero, List.set_cons_succ, i64_w, i32_w]
          rfl
        refine pure_ (i := 6) (N := some 63) (v := ?_) (a' := ?_) #[true, true, true, true, true, true, true, false, false, false, false, false, false, false, false, false, false, false, false, false] rfl rfl (by kernel_rfl) (fun _ _ _ h => h) (Or.inl ⟨by rfl, ?_⟩) ?_ ?_
        rotate_left
        · intro w'
          go_simp
          with_reducible rfl
        rotate_left
        · simp only [Act.put, List.setIfInBounds_toArray, List.set_cons_zero, List.set_cons_succ, i64_w, i32_w]
          rfl
        refine pure_ (i := 7) (N := some 64) (v := ?_) (a' := ?_) #[true, true, true, true, true, true, true, true, false, false, false, false, false, false, false, false, false, false, false, false] rfl rfl (by kernel_rfl) (fun _ _ _ h => h) (Or.inl ⟨by rfl, ?_⟩) ?_ ?_
        rotate_left
        · intro w'
          go_simp
          with_reducible rfl
        rotate_left
        · simp only [Act.put, List.setIfInBounds_toArray, List.set_cons_zero, List.set_cons_succ, i64_w, i32_w]
          rfl
        refine pure_ (i := 8) (N := some 65) (v := ?_) (a' := ?_) #[true, true, true, true, true, true, true, true, true, false, false, false, false, false, false, false, false, false, false, false] rfl rfl (by kernel_rfl) (fun _ _ _ h => h) (Or.inl ⟨by rfl, ?_⟩) ?_ ?_
        rotate_left
        · intro w'
          go_simp
          with_reducible rfl
        rotate_left
        · simp only [Act.put, List.setIfInBounds_toArray, List.set_cons_zero, List.set_cons_succ, i64_w, i32_w]
          rfl
        refine pure_ (i := 9) (N := some 66) (v := ?_) (a' := ?_) #[true, true, true, true, true, true, true, true, true, true, false, false, false, false, false, false, false, false, false, false] rfl rfl (by kernel_rfl) (fun _ _ _ h => h) (Or.inl ⟨by rfl, ?_⟩) ?_ ?_
        rotate_left
        · intro w'
          go_simp
          with_reducible rfl
        rotate_left
        · simp only [Act.put, List.setIfInBounds_toArray, List.set_cons_zero, List.set_cons_succ, i64_w, i32_w]
          rfl
        refine pure_ (i := 10) (N := some 67) (v := ?_) (a' := ?_) #[true, true, true, true, true, true, true, true, true, true, true, false, false, false, false, false, false, false, false, false] rfl rfl (by kernel_rfl) (fun _ _ _ h => h) (Or.inl ⟨by rfl, ?_⟩) ?_ ?_
        rotate_left
        · intro w'
          go_simp
          with_reducible rfl
        rotate_left
        · simp only [Act.put, List.setIfInBounds_toArray, List.set_cons_zero, List.set_cons_succ, i64_w, i32_w]
          rfl
        refine pure_ (i := 12) (N := some 69) (v := ?_) (a' := ?_) #[true, true, true, true, true, true, true, true, true, true, true, false, true, false, false, false, false, false, false, false] rfl rfl (by kernel_rfl) (fun _ _ _ h => h) (Or.inl ⟨by rfl, ?_⟩) ?_ ?_
        rotate_left
        · intro w'
          go_simp
          with_reducible rfl
        rotate_left
        · simp only [Act.put, List.setIfInBounds_toArray, List.set_cons_zero, List.set_cons_succ, i64_w, i32_w]
          rfl
        refine pure_ (i := 16) (N := some 73) (v := ?_) (a' := ?_) #[true, true, true, true, true, true, true, true, true, true, true, false, true, false, false, false, true, false, false, false] rfl rfl (by kernel_rfl) (fun _ _ _ h => h) (Or.inl ⟨by rfl, ?_⟩) ?_ ?_
        rotate_left
        · intro w'
          go_simp
          with_reducible rfl
        rotate_left
        · simp only [Act.put, List.setIfInBounds_toArray, List.set_cons_zero, List.set_cons_succ, i64_w, i32_w]
          rfl
        refine take_ (i := 11) (N := some 68) (v := ?_) (a' := ?_) #[true, true, true, true, true, true, true, true, true, true, true, true, true, false, false, false, true, false, false, false] rfl rfl (by kernel_rfl) (fun _ _ _ h => h) (Or.inl ⟨by rfl, ?_⟩) hHeld ?_ ?_
        rotate_left
        · rintro w' ⟨s0, s1, s2⟩
          go_simp
          with_reducible rfl
        rotate_left
        · simp only [Act.put, List.setIfInBounds_toArray, List.set_cons_zero, List.set_cons_succ, i64_w, i32_w]
          rfl
        refine pure_ (i := 13) (N := some 70) (v := ?_) (a' := ?_) #[true, true, true, true, true, true, true, true, true, true, true, true, true, true, false, false, true, false, false, false] rfl rfl (by kernel_rfl) (fun _ _ _ h => h) (Or.inl ⟨by rfl, ?_⟩) ?_ ?_
        rotate_left
        · intro w'
          go_simp
          with_reducible rfl
        rotate_left
        · simp only [Act.put, List.setIfInBounds_toArray, List.set_cons_zero, List.set_cons_succ, i64_w, i32_w]
          rfl
        refine pure_ (i := 14) (N := some 71) (v := ?_) (a' := ?_) #[true, true, true, true, true, true, true, true, true, true, true, true, true, true, true, false, true, false, false, false] rfl rfl (by kernel_rfl) (fun _ _ _ h => h) (Or.inl ⟨by rfl, ?_⟩) ?_ ?_
        rotate_left
        · intro w'
          go_simp
          with_reducible rfl
        rotate_left
        · simp only [Act.put, List.setIfInBounds_toArray, List.set_cons_zero, List.set_cons_succ, i64_w, i32_w]
          rfl
        refine take_ (i := 15) (N := some 72) (v := ?_) (a' := ?_) #[true, true, true, true, true, true, true, true, true, true, true, true, true, true, true, true, true, false, false, false] rfl rfl (by kernel_rfl) (fun _ _ _ h => h) (Or.inl ⟨by rfl, ?_⟩) hHeld ?_ ?_
        rotate_left
        · rintro w' ⟨s0, s1, s2⟩
          go_simp
          with_reducible rfl
        rotate_left
        · simp only [Act.put, List.setIfInBounds_toArray, List.set_cons_zero, List.set_cons_succ, i64_w, i32_w]
          rfl
        refine take_ (i := 17) (N := some 74) (v := ?_) (a' := ?_) #[true, true, true, true, true, true, true, true, true, true, true, true, true, true, true, true, true, true, false, false] rfl rfl (by kernel_rfl) (fun _ _ _ h => h) (Or.inl ⟨by rfl, ?_⟩) hHeld ?_ ?_
        rotate_left
        · rintro w' ⟨s0, s1, s2⟩
          go_simp
          with_reducible rfl
        rotate_left
        · simp only [Act.put, List.setIfInBounds_toArray, List.set_cons_zero, List.set_cons_succ, i64_w, i32_w]
          rfl
        refine pure_ (i := 18) (N := some 75) (v := ?_) (a' := ?_) #[true, true, true, true, true, true, true, true, true, true, true, true, true, true, true, true, true, true, true, false] rfl rfl (by kernel_rfl) (fun _ _ _ h => h) (Or.inl ⟨by rfl, ?_⟩) ?_ ?_
        rotate_left
        · intro w'
          go_simp
          with_reducible rfl
        rotate_left
        · simp only [Act.put, List.setIfInBounds_toArray, List.set_cons_zero, List.set_cons_succ, i64_w, i32_w]
          rfl
        refine pure_ (i := 19) (N := some 76) (v := ?_) (a' := ?_) #[true, true, true, true, true, true, true, true, true, true, true, true, true, true, true, true, true, true, true, true] rfl rfl (by kernel_rfl) (fun _ _ _ h => h) (Or.inl ⟨by rfl, ?_⟩) ?_ ?_
        rotate_left
        · intro w'
          go_simp
          with_reducible rfl
        rotate_left
        · simp only [Act.put, List.setIfInBounds_toArray, List.set_cons_zero, List.set_cons_succ, i64_w, i32_w]
          rfl
        refine done_ (by kernel_rfl) ?_
        go_wp2_with fail
        go_roundw
        case rel => exact ⟨i + 1, m + 1, by go_num, ⟨by omega⟩, HB2, ⟨by rw [← HWNE.out]; rfl⟩⟩
        case measure => simp [intOf]; omega
      · have d1 : decide (y.att ≤ at_) = false := decide_eq_false hk
        have HB2 := Aside0.mk (show i = (befV L at_).length by have := bef_len_stop HY.out hk; have := HBI.out; omega)
        clear hk
        go_upto_region 9 with (fail)
        refine start_ (n := 20) (S := fun w' => w'.cell? ⟨g, 2, none⟩ = some (.slice (some ⟨gb, o, none⟩) L.length c) ∧ w'.cell? ⟨gb, o + i * 4 + 3, none⟩ = some (.int .i64 y.att) ∧ w'.cell? ⟨sb, 3, none⟩ = some (.int .i64 at_)) (ds := []) #[false, false, false, false, false, false, false, false, false, false, false, false, false, false, false, false, false, false, false, false] (by kernel_rfl) rfl rfl ⟨hc2, k3, s3⟩ (fun hHeld => ?_)
        refine pure_ (i := 0) (N := some 57) (v := ?_) (a' := ?_) #[true, false, false, false, false, false, false, false, false, false, false, false, false, false, false, false, false, false, false, false] rfl rfl (by kernel_rfl) (fun _ _ _ h => h) (Or.inl ⟨by rfl, ?_⟩) ?_ ?_
        rotate_left
        · intro w'
          go_simp
          with_reducible rfl
        rotate_left
        · simp only [Act.put, List.setIfInBounds_toArray, List.set_cons_zero, List.set_cons_succ, i64_w, i32_w]
          rfl
        refine pure_ (i := 1) (N := some 58) (v := ?_) (a' := ?_) #[true, true, false, false, false, false, false, false, false, false, false, false, false, false, false, false, false, false, false, false] rfl rfl (by kernel_rfl) (fun _ _ _ h => h) (Or.inl ⟨by rfl, ?_⟩) ?_ ?_
        rotate_left
        · intro w'
          go_simp
          with_reducible rfl
        rotate_left
        · simp only [Act.put, List.setIfInBounds_toArray, List.set_cons_zero, List.set_cons_succ, i64_w, i32_w]
          rfl
        refine pure_ (i := 2) (N := some 59) (v := ?_) (a' := ?_) #[true, true, true, false, false, false, false, false, false, false, false, false, false, false, false, false, false, false, false, false] rfl rfl (by kernel_rfl) (fun _ _ _ h => h) (Or.inl ⟨by rfl, ?_⟩) ?_ ?_
        rotate_left
        · intro w'
          go_simp
          with_reducible rfl
        rotate_left
        · simp only [Act.put, List.setIfInBounds_toArray, List.set_cons_zero, List.set_cons_succ, i64_w, i32_w]
          rfl
        refine pure_ (i := 3) (N := some 60) (v := ?_) (a' := ?_) #[true, true, true, true, false, false, false, false, false, false, false, false, false, false, false, false, false, false, false, false] rfl rfl (by kernel_rfl) (fun _ _ _ h => h) (Or.inl ⟨by rfl, ?_⟩) ?_ ?_
        rotate_left
        · intro w'
          go_simp
          with_reducible rfl
        rotate_left
        · simp only [Act.put, List.setIfInBounds_toArray, List.set_cons_zero, List.set_cons_succ, i64_w, i32_w]
          rfl
        refine take_ (i := 4) (N := some 61) (v := ?_) (a' := ?_) #[true, true, true, true, true, false, false, false, false, false, false, false, false, false, false, false, false, false, false, false] rfl rfl (by kernel_rfl) (fun _ _ _ h => h) (Or.inl ⟨by rfl, ?_⟩) hHeld ?_ ?_
        rotate_left
        · rintro w' ⟨s0, s1, s2⟩
          go_simp
          with_reducible rfl
        rotate_left
        · simp only [Act.put, List.setIfInBounds_toArray, List.set_cons_zero, List.set_cons_succ, i64_w, i32_w]
          rfl
        refine pure_ (i := 5) (N := some 62) (v := ?_) (a' := ?_) #[true, true, true, true, true, true, false, false, false, false, false, false, false, false, false, false, false, false, false, false] rfl rfl (by kernel_rfl) (fun _ _ _ h => h) (Or.inl ⟨by rfl, ?_⟩) ?_ ?_
        rotate_left
        · intro w'
          go_simp
          with_reducible rfl
        rotate_left
        · simp only [Act.put, List.setIfInBounds_toArray, List.set_cons_zero, List.set_cons_succ, i64_w, i32_w]
          rfl
        refine pure_ (i := 6) (N := some 63) (v := ?_) (a' := ?_) #[true, true, true, true, true, true, true, false, false, false, false, false, false, false, false, false, false, false, false, false] rfl rfl (by kernel_rfl) (fun _ _ _ h => h) (Or.inl ⟨by rfl, ?_⟩) ?_ ?_
        rotate_left
        · intro w'
          go_simp
          with_reducible rfl
        rotate_left
        · simp only [Act.put, List.setIfInBounds_toArray, List.set_cons_zero, List.set_cons_succ, i64_w, i32_w]
          rfl
        refine pure_ (i := 7) (N := some 64) (v := ?_) (a' := ?_) #[true, true, true, true, true, true, true, true, false, false, false, false, false, false, false, false, false, false, false, false] rfl rfl (by kernel_rfl) (fun _ _ _ h => h) (Or.inl ⟨by rfl, ?_⟩) ?_ ?_
        rotate_left
        · intro w'
          go_simp
          with_reducible rfl
        rotate_left
        · simp only [Act.put, List.setIfInBounds_toArray, List.set_cons_zero, List.set_cons_succ, i64_w, i32_w]
          rfl
        refine pure_ (i := 8) (N := some 65) (v := ?_) (a' := ?_) #[true, true, true, true, true, true, true, true, true, false, false, false, false, false, false, false, false, false, false, false] rfl rfl (by kernel_rfl) (fun _ _ _ h => h) (Or.inl ⟨by rfl, ?_⟩) ?_ ?_
        rotate_left
        · intro w'
          go_simp
          with_reducible rfl
        rotate_left
        · simp only [Act.put, List.setIfInBounds_toArray, List.set_cons_zero, List.set_cons_succ, i64_w, i32_w]
          rfl
        refine pure_ (i := 9) (N := some 66) (v := ?_) (a' := ?_) #[true, true, true, true, true, true, true, true, true, true, false, false, false, false, false, false, false, false, false, false] rfl rfl (by kernel_rfl) (fun _ _ _ h => h) (Or.inl ⟨by rfl, ?_⟩) ?_ ?_
        rotate_left
        · intro w'
          go_simp
          with_reducible rfl
        rotate_left
        · simp only [Act.put, List.setIfInBounds_toArray, List.set_cons_zero, List.set_cons_succ, i64_w, i32_w]
          rfl
        refine pure_ (i := 10) (N := some 67) (v := ?_) (a' := ?_) #[true, true, true, true, true, true, true, true, true, true, true, false, false, false, false, false, false, false, false, false] rfl rfl (by kernel_rfl) (fun _ _ _ h => h) (Or.inl ⟨by rfl, ?_⟩) ?_ ?_
        rotate_left
        · intro w'
          go_simp
          with_reducible rfl
        rotate_left
        · simp only [Act.put, List.setIfInBounds_toArray, List.set_cons_zero, List.set_cons_succ, i64_w, i32_w]
          rfl
        refine pure_ (i := 12) (N := some 69) (v := ?_) (a' := ?_) #[true, true, true, true, true, true, true, true, true, true, true, false, true, false, false, false, false, false, false, false] rfl rfl (by kernel_rfl) (fun _ _ _ h => h) (Or.inl ⟨by rfl, ?_⟩) ?_ ?_
        rotate_left
        · intro w'
          go_simp
          with_reducible rfl
        rotate_left
        · simp only [Act.put, List.setIfInBounds_toArray, List.set_cons_zero, List.set_cons_succ, i64_w, i32_w]
          rfl
        refine pure_ (i := 16) (N := some 73) (v := ?_) (a' := ?_) #[true, true, true, true, true, true, true, true, true, true, true, false, true, false, false, false, true, false, false, false] rfl rfl (by kernel_rfl) (fun _ _ _ h => h) (Or.inl ⟨by rfl, ?_⟩) ?_ ?_
        rotate_left
        · intro w'
          go_simp
          with_reducible rfl
        rotate_left
        · simp only [Act.put, List.setIfInBounds_toArray, List.set_cons_zero, List.set_cons_succ, i64_w, i32_w]
          rfl
        refine take_ (i := 11) (N := some 68) (v := ?_) (a' := ?_) #[true, true, true, true, true, true, true, true, true, true, true, true, true, false, false, false, true, false, false, false] rfl rfl (by kernel_rfl) (fun _ _ _ h => h) (Or.inl ⟨by rfl, ?_⟩) hHeld ?_ ?_
        rotate_left
        · rintro w' ⟨s0, s1, s2⟩
          go_simp
          with_reducible rfl
        rotate_left
        · simp only [Act.put, List.setIfInBounds_toArray, List.set_cons_zero, List.set_cons_succ, i64_w, i32_w]
          rfl
        refine pure_ (i := 13) (N := some 70) (v := ?_) (a' := ?_) #[true, true, true, true, true, true, true, true, true, true, true, true, true, true, false, false, true, false, false, false] rfl rfl (by kernel_rfl) (fun _ _ _ h => h) (Or.inl ⟨by rfl, ?_⟩) ?_ ?_
        rotate_left
        · intro w'
          go_simp
          with_reducible rfl
        rotate_left
        · simp only [Act.put, List.setIfInBounds_toArray, List.set_cons_zero, List.set_cons_succ, i64_w, i32_w]
          rfl
        refine pure_ (i := 14) (N := some 71) (v := ?_) (a' := ?_) #[true, true, true, true, true, true, true, true, true, true, true, true, true, true, true, false, true, false, false, false] rfl rfl (by kernel_rfl) (fun _ _ _ h => h) (Or.inl ⟨by rfl, ?_⟩) ?_ ?_
        rotate_left
        · intro w'
          go_simp
          with_reducible rfl
        rotate_left
        · simp only [Act.put, List.setIfInBounds_toArray, List.set_cons_zero, List.set_cons_succ, i64_w, i32_w]
          rfl
        refine take_ (i := 15) (N := some 72) (v := ?_) (a' := ?_) #[true, true, true, true, true, true, true, true, true, true, true, true, true, true, true, true, true, false, false, false] rfl rfl (by kernel_rfl) (fun _ _ _ h => h) (Or.inl ⟨by rfl, ?_⟩) hHeld ?_ ?_
        rotate_left
        · rintro w' ⟨s0, s1, s2⟩
          go_simp
          with_reducible rfl
        rotate_left
        · simp only [Act.put, List.setIfInBounds_toArray, List.set_cons_zero, List.set_cons_succ, i64_w, i32_w]
          rfl
        refine take_ (i := 17) (N := some 74) (v := ?_) (a' := ?_) #[true, true, true, true, true, true, true, true, true, true, true, true, true, true, true, true, true, true, false, false] rfl rfl (by kernel_rfl) (fun _ _ _ h => h) (Or.inl ⟨by rfl, ?_⟩) hHeld ?_ ?_
        rotate_left
        · rintro w' ⟨s0, s1, s2⟩
          go_simp
          with_reducible rfl
        rotate_left
        · simp only [Act.put, List.setIfInBounds_toArray, List.set_cons_zero, List.set_cons_succ, i64_w, i32_w]
          rfl
        refine pure_ (i := 18) (N := some 75) (v := ?_) (a' := ?_) #[true, true, true, true, true, true, true, true, true, true, true, true, true, true, true, true, true, true, true, false] rfl rfl (by kernel_rfl) (fun _ _ _ h => h) (Or.inl ⟨by rfl, ?_⟩) ?_ ?_
        rotate_left
        · intro w'
          go_simp
          with_reducible rfl
        rotate_left
        · simp only [Act.put, List.setIfInBounds_toArray, List.set_cons_zero, List.set_cons_succ, i64_w, i32_w]
          rfl
        refine pure_ (i := 19) (N := some 76) (v := ?_) (a' := ?_) #[true, true, true, true, true, true, true, true, true, true, true, true, true, true, true, true, true, true, true, true] rfl rfl (by kernel_rfl) (fun _ _ _ h => h) (Or.inl ⟨by rfl, ?_⟩) ?_ ?_
        rotate_left
        · intro w'
          go_simp
          with_reducible rfl
        rotate_left
        · simp only [Act.put, List.setIfInBounds_toArray, List.set_cons_zero, List.set_cons_succ, i64_w, i32_w]
          rfl
        refine done_ (by kernel_rfl) ?_
        clear hlt d0 d1 k3 hgb
        have HDX := Aside0.mk (HDN.out.drewN 1)
        have HKX := Aside0.mk (show Kept w (World.drew wn) (fun k => k = g) from HDX.out.kp)
        go_upto_region 11 with (fail)
        obtain ⟨wy, hwy⟩ : ∃ wy, World.drew wn = wy := ⟨_, rfl⟩
        have HDW := Aside0.mk (show DsI w0 w (World.drew wy) g sb (.slice (some ⟨gb, o, none⟩) L.length c) T' n kind lab at_ L from hwy ▸ HDX.out.drewN 1)
        clear HDX HDN hc2 s3 HWNE HKX HD0
        rw [hwy]
        clear hwy
        have c2d := HDW.out.iD.c2
        have s0 := blk_cell HDW.out.sk 0; have s1 := blk_cell HDW.out.sk 1; have s2 := blk_cell HDW.out.sk 2; have s3 := blk_cell HDW.out.sk 3
        obtain ⟨M, hM⟩ : ∃ M, befV L at_ = M := ⟨_, rfl⟩
        have HML := Aside0.mk (show M.length ≤ 1000 from by have := bef_length_le L at_; have := HL.out; rw [hM] at *; omega)
        have hTK := HDW.out.iD.ct.take l1
        rw [HB2.out, (bef_take L at_).1, ← HB2.out, hM] at hTK
        have HTK := Aside0.mk hTK
        have hDR := HDW.out.iD.ct.drop l1
        obtain ⟨ad, had⟩ : ∃ ad : Option Addr, (if c = i then some (⟨gb, o, none⟩ : Addr) else some ⟨gb, o + i * 4, none⟩) = ad := ⟨_, rfl⟩
        rw [had, show L.drop i = aftV L at_ by rw [HB2.out, (bef_take L at_).2]] at hDR
        have HDR := Aside0.mk hDR
        have hjc : i ≤ c := by omega
        have hs2 : (i : Int) ≤ (L.length : Int) := by omega
        clear hTK hDR
        refine start_ (n := 21) (S := fun w' => w'.cell? ⟨g, 2, none⟩ = some (.slice (some ⟨gb, o, none⟩) L.length c) ∧ w'.cell? ⟨sb, 0, none⟩ = some (.int .i64 n) ∧ w'.cell? ⟨sb, 1, none⟩ = some (.int .i64 kind) ∧ w'.cell? ⟨sb, 2, none⟩ = some (.int .u64 lab) ∧ w'.cell? ⟨sb, 3, none⟩ = some (.int .i64 at_)) (ds := [17, 20]) #[false, false, false, false, false, false, false, false, false, false, false, false, false, false, false, false, false, false, false, false, false] (by kernel_rfl) rfl rfl ⟨c2d, s0, s1, s2, s3⟩ (fun hHeld => ?_)
        refine pure_ (i := 0) (N := some 79) (v := ?_) (a' := ?_) #[true, false, false, false, false, false, false, false, false, false, false, false, false, false, false, false, false, false, false, false, false] rfl rfl (by kernel_rfl) (fun _ _ _ h => h) (Or.inl ⟨by rfl, ?_⟩) ?_ ?_
        rotate_left
        · intro w'
          go_simp
          with_reducible rfl
        rotate_left
        · simp only [Act.put, List.setIfInBounds_toArray, List.set_cons_zero, List.set_cons_succ, i64_w, i32_w]
          rfl
        refine pure_ (i := 1) (N := some 80) (v := ?_) (a' := ?_) #[true, true, false, false, false, false, false, false, false, false, false, false, false, false, false, false, false, false, false, false, false] rfl rfl (by kernel_rfl) (fun _ _ _ h => h) (Or.inl ⟨by rfl, ?_⟩) ?_ ?_
        rotate_left
        · intro w'
          go_simp
          with_reducible rfl
        rotate_left
        · simp only [Act.put, List.setIfInBounds_toArray, List.set_cons_zero, List.set_cons_succ, i64_w, i32_w]
          rfl
        refine pure_ (i := 2) (N := some 81) (v := ?_) (a' := ?_) #[true, true, true, false, false, false, false, false, false, false, false, false, false, false, false, false, false, false, false, false, false] rfl rfl (by kernel_rfl) (fun _ _ _ h => h) (Or.inl ⟨by rfl, ?_⟩) ?_ ?_
        rotate_left
        · intro w'
          go_simp
          with_reducible rfl
        rotate_left
        · simp only [Act.put, List.setIfInBounds_toArray, List.set_cons_zero, List.set_cons_succ, i64_w, i32_w]
          rfl
        refine pure_ (i := 3) (N := some 82) (v := ?_) (a' := ?_) #[true, true, true, true, false, false, false, false, false, false, false, false, false, false, false, false, false, false, false, false, false] rfl rfl (by kernel_rfl) (fun _ _ _ h => h) (Or.inl ⟨by rfl, ?_⟩) ?_ ?_
        rotate_left
        · intro w'
          go_simp
          with_reducible rfl
        rotate_left
        · simp only [Act.put, List.setIfInBounds_toArray, List.set_cons_zero, List.set_cons_succ, i64_w, i32_w]
          rfl
        refine pure_ (i := 5) (N := some 84) (v := ?_) (a' := ?_) #[true, true, true, true, false, true, false, false, false, false, false, false, false, false, false, false, false, false, false, false, false] rfl rfl (by kernel_rfl) (fun _ _ _ h => h) (Or.inl ⟨by rfl, ?_⟩) ?_ ?_
        rotate_left
        · intro w'
          go_simp
          with_reducible rfl
        rotate_left
        · simp only [Act.put, List.setIfInBounds_toArray, List.set_cons_zero, List.set_cons_succ, i64_w, i32_w]
          rfl
        refine pure_ (i := 11) (N := some 90) (v := ?_) (a' := ?_) #[true, true, true, true, false, true, false, false, false, false, false, true, false, false, false, false, false, false, false, false, false] rfl rfl (by kernel_rfl) (fun _ _ _ h => h) (Or.inl ⟨by rfl, ?_⟩) ?_ ?_
        rotate_left
        · intro w'
          go_simp
          with_reducible rfl
        rotate_left
        · simp only [Act.put, List.setIfInBounds_toArray, List.set_cons_zero, List.set_cons_succ, i64_w, i32_w]
          rfl
        refine pure_ (i := 12) (N := some 91) (v := ?_) (a' := ?_) #[true, true, true, true, false, true, false, false, false, false, false, true, true, false, false, false, false, false, false, false, false] rfl rfl (by kernel_rfl) (fun _ _ _ h => h) (Or.inl ⟨by rfl, ?_⟩) ?_ ?_
        rotate_left
        · intro w'
          go_simp
          with_reducible rfl
        rotate_left
        · simp only [Act.put, List.setIfInBounds_toArray, List.set_cons_zero, List.set_cons_succ, i64_w, i32_w]
          rfl
        refine pure_ (i := 13) (N := some 92) (v := ?_) (a' := ?_) #[true, true, true, true, false, true, false, false, false, false, false, true, true, true, false, false, false, false, false, false, false] rfl rfl (by kernel_rfl) (fun _ _ _ h => h) (Or.inl ⟨by rfl, ?_⟩) ?_ ?_
        rotate_left
        · intro w'
          go_simp
          with_reducible rfl
        rotate_left
        · simp only [Act.put, List.setIfInBounds_toArray, List.set_cons_zero, List.set_cons_succ, i64_w, i32_w]
          rfl
        refine pure_ (i := 15) (N := some 94) (v := ?_) (a' := ?_) #[true, true, true, true, false, true, false, false, false, false, false, true, true, true, false, true, false, false, false, false, false] rfl rfl (by kernel_rfl) (fun _ _ _ h => h) (Or.inl ⟨by rfl, ?_⟩) ?_ ?_
        rotate_left
        · intro w'
          go_simp
          with_reducible rfl
        rotate_left
        · simp only [Act.put, List.setIfInBounds_toArray, List.set_cons_zero, List.set_cons_succ, i64_w, i32_w]
          rfl
        refine take_ (i := 4) (N := some 83) (v := ?_) (a' := ?_) #[true, true, true, true, true, true, false, false, false, false, false, true, true, true, false, true, false, false, false, false, false] rfl rfl (by kernel_rfl) (fun _ _ _ h => h) (Or.inl ⟨by rfl, ?_⟩) hHeld ?_ ?_
        rotate_left
        · rintro w' ⟨s0, s1, s2, s3, s4⟩
          go_simp
          with_reducible rfl
        rotate_left
        · simp only [Act.put, List.setIfInBounds_toArray, List.set_cons_zero, List.set_cons_succ, i64_w, i32_w]
          rfl
        refine pure_ (i := 6) (N := some 85) (v := ?_) (a' := ?_) #[true, true, true, true, true, true, true, false, false, false, false, true, true, true, false, true, false, false, false, false, false] rfl rfl (by kernel_rfl) (fun _ _ _ h => h) (Or.inl ⟨by rfl, ?_⟩) ?_ ?_
        rotate_left
        · intro w'
          go_simp
          with_reducible rfl
        rotate_left
        · simp only [Act.put, List.setIfInBounds_toArray, List.set_cons_zero, List.set_cons_succ, i64_w, i32_w]
          rfl
        refine take_ (i := 8) (N := some 87) (v := ?_) (a' := ?_) #[true, true, true, true, true, true, true, false, true, false, false, true, true, true, false, true, false, false, false, false, false] rfl rfl (by kernel_rfl) (fun _ _ _ h => h) (Or.inl ⟨by rfl, ?_⟩) hHeld ?_ ?_
        rotate_left
        · rintro w' ⟨s0, s1, s2, s3, s4⟩
          go_simp
          with_reducible rfl
        rotate_left
        · simp only [Act.put, List.setIfInBounds_toArray, List.set_cons_zero, List.set_cons_succ, i64_w, i32_w]
          rfl
        refine take_ (i := 14) (N := some 93) (v := ?_) (a' := ?_) #[true, true, true, true, true, true, true, false, true, false, false, true, true, true, true, true, false, false, false, false, false] rfl rfl (by kernel_rfl) (fun _ _ _ h => h) (Or.inl ⟨by rfl, ?_⟩) hHeld ?_ ?_
        rotate_left
        · rintro w' ⟨s0, s1, s2, s3, s4⟩
          go_simp
          with_reducible rfl
        rotate_left
        · simp only [Act.put, List.setIfInBounds_toArray, List.set_cons_zero, List.set_cons_succ, i64_w, i32_w]
          rfl
        refine pure_ (i := 16) (N := some 95) (v := ?_) (a' := ?_) #[true, true, true, true, true, true, true, false, true, false, false, true, true, true, true, true, true, false, false, false, false] rfl rfl (by kernel_rfl) (fun _ _ _ h => h) (Or.inl ⟨by rfl, ?_⟩) ?_ ?_
        rotate_left
        · intro w'
          go_simp
          with_reducible rfl
        rotate_left
        · simp only [Act.put, List.setIfInBounds_toArray, List.set_cons_zero, List.set_cons_succ, i64_w, i32_w]
          rfl
        refine join_ (σ := Nat × Value) 5 #[true, true, true, true, true, true, true, true, true, true, false, true, true, true, true, true, true, false, false, false, false] (fun s => [(86, s.2), (88, .slice (some ⟨s.1, 0, none⟩) 1 1)]) (fun s w' => Ls encT 54 w' (World.drew wy).heap.size s.2 M ∧ w'.heap[s.1]? = some (.cells #[.int .i64 n, .int .i64 kind, .int .u64 lab, .int .i64 at_] 54 (0, 0)) ∧ Below (World.drew wy).heap.size (World.drew wy) w' ∧ (s.2.ownBlock = none ∨ ∃ b, s.2.ownBlock = some b ∧ (World.drew wy).heap.size ≤ b)) ?_ ?_
        rotate_left
        · intro hCont
          refine two_ (i := 7) (j := 9) (Ni := some 86) (Nj := some 88) #[true, true, true, true, true, true, true, true, true, false, false, true, true, true, true, true, true, false, false, false, false] #[true, true, true, true, true, true, true, false, true, true, false, true, true, true, true, true, true, false, false, false, false] rfl rfl rfl rfl (by kernel_rfl) (by decide) (by decide) (fun K hK => ?_) (fun K hK => ?_)
          · skip
            obtain ⟨v1, w1, hr1, l1_, g1, o1⟩ := HTK.out.cat_run (l := []) (World.drew wy).heap.size (.slice none 0 0) (Ls.nil _ _ _ _) (Nat.le_refl _) (by have := HML.out; simp; omega) 43
            rw [List.nil_append] at l1_
            refine value_ (w1 := w1) (v := v1) (by rfl) rfl (append_exec' _ _ 43 rfl rfl rfl hr1) ?_
            have b1 := below_grown0 g1
            refine hK.out _ _ ⟨pw_cell_below b1 c2d, pw_cell_below b1 s0, pw_cell_below b1 s1, pw_cell_below b1 s2, pw_cell_below b1 s3⟩ (fun hHeld => ?_)
            clear hK K
            refine norm_ (a' := ?_) ?_ ?_
            rotate_left
            · show Act.put _ (some 86) _ = _
              simp only [Act.put, List.setIfInBounds_toArray, List.set_cons_zero, List.set_cons_succ, i64_w, i32_w]
              rfl
            refine one_ (i := 9) (N := some 88) #[true, true, true, true, true, true, true, true, true, true, false, true, true, true, true, true, true, false, false, false, false] rfl rfl (by kernel_rfl) (by decide) (fun K hK => ?_)
            have b2 := below_step b1 (below_alloc (Below.refl w1.heap.size w1) (.cells #[.int .i64 n, .int .i64 kind, .int .u64 lab, .int .i64 at_] 54))
            have hn1 : (w1.alloc (.cells #[.int .i64 n, .int .i64 kind, .int .u64 lab, .int .i64 at_] 54)).heap[w1.heap.size]? = some (.cells #[.int .i64 n, .int .i64 kind, .int .u64 lab, .int .i64 at_] 54 (0, 0)) := blk_new _ _
            have l2 := l1_.below (below_alloc (Below.refl w1.heap.size w1) (.cells #[.int .i64 n, .int .i64 kind, .int .u64 lab, .int .i64 at_] 54))
            refine value_ (w1 := ?_) (v := ?_) (by rfl) rfl ?_ ?_
            rotate_left 2
            · go_simp
              constructor
              · rfl
              · rfl
            refine hK.out _ _ ⟨pw_cell_below b2 c2d, pw_cell_below b2 s0, pw_cell_below b2 s1, pw_cell_below b2 s2, pw_cell_below b2 s3⟩ (fun hHeld => ?_)
            clear hK K
            refine norm_ (a' := ?_) ?_ ?_
            rotate_left
            · show Act.put _ (some 88) _ = _
              simp only [Act.put, List.setIfInBounds_toArray, List.set_cons_zero, List.set_cons_succ, i64_w, i32_w]
              rfl
            exact norm_ (by first | (simp only [putAll, Act.put, List.setIfInBounds_toArray, List.set_cons_zero, List.set_cons_succ]; done) | (simp only [putAll, Act.put, List.setIfInBounds_toArray, List.set_cons_zero, List.set_cons_succ]; rfl)) (hCont (w1.heap.size, v1) _ ⟨l2, hn1, b2, o1.imp id fun e => ⟨_, e, Nat.le_refl _⟩⟩)
          · skip
            have b1 := below_alloc (Below.refl (World.drew wy).heap.size (World.drew wy)) (.cells #[.int .i64 n, .int .i64 kind, .int .u64 lab, .int .i64 at_] 54)
            have hn1 : ((World.drew wy).alloc (.cells #[.int .i64 n, .int .i64 kind, .int .u64 lab, .int .i64 at_] 54)).heap[(World.drew wy).heap.size]? = some (.cells #[.int .i64 n, .int .i64 kind, .int .u64 lab, .int .i64 at_] 54 (0, 0)) := blk_new _ _
            refine value_ (w1 := ?_) (v := ?_) (by rfl) rfl ?_ ?_
            rotate_left 2
            · go_simp
              constructor
              · rfl
              · rfl
            refine hK.out _ _ ⟨pw_cell_below b1 c2d, pw_cell_below b1 s0, pw_cell_below b1 s1, pw_cell_below b1 s2, pw_cell_below b1 s3⟩ (fun hHeld => ?_)
            clear hK K
            refine norm_ (a' := ?_) ?_ ?_
            rotate_left
            · show Act.put _ (some 88) _ = _
              simp only [Act.put, List.setIfInBounds_toArray, List.set_cons_zero, List.set_cons_succ, i64_w, i32_w]
              rfl
            refine one_ (i := 7) (N := some 86) #[true, true, true, true, true, true, true, true, true, true, false, true, true, true, true, true, true, false, false, false, false] rfl rfl (by kernel_rfl) (by decide) (fun K hK => ?_)
            obtain ⟨v1, w1, hr1, l2, g1, o1⟩ := (HTK.out.below b1).cat_run (l := []) (World.alloc (World.drew wy) (.cells #[.int .i64 n, .int .i64 kind, .int .u64 lab, .int .i64 at_] 54)).heap.size (.slice none 0 0) (Ls.nil _ _ _ _) (Nat.le_refl _) (by have := HML.out; simp; omega) 43
            rw [List.nil_append] at l2
            refine value_ (w1 := w1) (v := v1) (by rfl) rfl (append_exec' _ _ 43 rfl rfl rfl hr1) ?_
            have b2 := below_step b1 (below_grown0 g1)
            have hn2 := blk_grown hn1 g1 (by intro e; cases e)
            refine hK.out _ _ ⟨pw_cell_below b2 c2d, pw_cell_below b2 s0, pw_cell_below b2 s1, pw_cell_below b2 s2, pw_cell_below b2 s3⟩ (fun hHeld => ?_)
            clear hK K
            refine norm_ (a' := ?_) ?_ ?_
            rotate_left
            · show Act.put _ (some 86) _ = _
              simp only [Act.put, List.setIfInBounds_toArray, List.set_cons_zero, List.set_cons_succ, i64_w, i32_w]
              rfl
            exact norm_ (by first | (simp only [putAll, Act.put, List.setIfInBounds_toArray, List.set_cons_zero, List.set_cons_succ]; done) | (simp only [putAll, Act.put, List.setIfInBounds_toArray, List.set_cons_zero, List.set_cons_succ]; rfl)) (hCont ((World.drew wy).heap.size, v1) _ ⟨l2.lower b1.size, hn2, b2, o1.imp id fun e => ⟨_, e, b1.size⟩⟩)
        rintro ⟨nb, v1⟩ w1 ⟨l2, hn2, b2, o1⟩
        dsimp only at l2 hn2 o1 ⊢
        have hHeld : w1.cell? ⟨g, 2, none⟩ = some (.slice (some ⟨gb, o, none⟩) L.length c) ∧ w1.cell? ⟨sb, 0, none⟩ = some (.int .i64 n) ∧ w1.cell? ⟨sb, 1, none⟩ = some (.int .i64 kind) ∧ w1.cell? ⟨sb, 2, none⟩ = some (.int .u64 lab) ∧ w1.cell? ⟨sb, 3, none⟩ = some (.int .i64 at_) := ⟨pw_cell_below b2 c2d, pw_cell_below b2 s0, pw_cell_below b2 s1, pw_cell_below b2 s2, pw_cell_below b2 s3⟩
        refine norm_ (a' := ?_) ?_ ?_
        rotate_left
        · simp only [putAll, Act.put, List.setIfInBounds_toArray, List.set_cons_zero, List.set_cons_succ]
          rfl
        refine one_ (i := 10) (N := some 89) #[true, true, true, true, true, true, true, true, true, true, true, true, true, true, true, true, true, false, false, false, false] rfl rfl (by kernel_rfl) (by decide) (fun K hK => ?_)
        obtain ⟨v2, w2_, hr2, l3, g2, o2⟩ := Lst.cat_run (d := encT) (P := Try.prog) (W := w1) 43 43 54 _ 32 Try.underlying43 info54 rfl (World.drew wy).heap.size v1 M [⟨n, kind, lab, at_⟩] ⟨nb, 0, none⟩ 1 (fun j u hu => by rw [add_plain]; refine (blk_cell hn2 j).trans ?_; rw [List.getElem?_toArray]; exact hu) l2 b2.size (by have := HML.out; simp; omega) (by decide)
        refine value_ (w1 := w2_) (v := v2) (by rfl) rfl (append_exec' _ _ 43 rfl rfl rfl hr2) ?_
        have b3 := below_grownN b2 g2 o1
        have o3 : v2.ownBlock = none ∨ ∃ b, v2.ownBlock = some b ∧ (World.drew wy).heap.size ≤ b := o2.elim (fun e => by rw [e]; exact o1) (fun e => .inr ⟨_, e, b2.size⟩)
        refine hK.out _ _ ⟨pw_cell_below b3 c2d, pw_cell_below b3 s0, pw_cell_below b3 s1, pw_cell_below b3 s2, pw_cell_below b3 s3⟩ (fun hHeld => ?_)
        clear hK K
        refine norm_ (a' := ?_) ?_ ?_
        rotate_left
        · show Act.put _ (some 89) _ = _
          simp only [Act.put, List.setIfInBounds_toArray, List.set_cons_zero, List.set_cons_succ, i64_w, i32_w]
          rfl
        refine last_ (i := 17) (N := some 96) #[true, true, true, true, true, true, true, true, true, true, true, true, true, true, true, true, true, true, false, false, false] rfl rfl (by kernel_rfl) (by decide) (fun K hK => ?_)
        obtain ⟨v3, w3, hr3, l4, g3, o4⟩ := (HDR.out.below b3).cat_run (World.drew wy).heap.size v2 l3 b3.size (by have := HML.out; have := HL.out; have := (List.dropWhile_sublist (l := L) (fun t : Tm => decide (t.att ≤ at_))).length_le; unfold aftV; simp; omega) 43
        obtain ⟨A3, c3, e3, _, _⟩ := l4.form
        subst e3
        refine value_ (w1 := w3) (by rfl) rfl (append_exec' _ _ 43 rfl rfl rfl hr3) ?_
        have b4 := below_grownN b3 g3 o3
        have c1f := (HDW.out.iD.below b4).c1
        have c34 := (HDW.out.iD.below b4).c2
        have f34 := (HDW.out.iD.below b4).free 2
        refine hK.out _ _ ?_
        clear hK K
        refine norm_ (a' := ?_) ?_ ?_
        rotate_left
        · show Act.put _ (some 96) _ = _
          simp only [Act.put, List.setIfInBounds_toArray, List.set_cons_zero, List.set_cons_succ, i64_w, i32_w]
          rfl
        refine pure_ (i := 18) (N := some 97) (v := ?_) (a' := ?_) #[true, true, true, true, true, true, true, true, true, true, true, true, true, true, true, true, true, true, true, false, false] rfl rfl (by kernel_rfl) (fun _ _ _ h => h) (Or.inl ⟨by rfl, ?_⟩) ?_ ?_
        rotate_left
        · intro w'
          go_simp
          with_reducible rfl
        rotate_left
        · simp only [Act.put, List.setIfInBounds_toArray, List.set_cons_zero, List.set_cons_succ, i64_w, i32_w]
          rfl
        refine pure_ (i := 19) (N := some 98) (v := ?_) (a' := ?_) #[true, true, true, true, true, true, true, true, true, true, true, true, true, true, true, true, true, true, true, true, false] rfl rfl (by kernel_rfl) (fun _ _ _ h => h) (Or.inl ⟨by rfl, ?_⟩) ?_ ?_
        rotate_left
        · intro w'
          go_simp
          with_reducible rfl
        rotate_left
        · simp only [Act.put, List.setIfInBounds_toArray, List.set_cons_zero, List.set_cons_succ, i64_w, i32_w]
          rfl
        refine last_ (i := 20) (N := none) #[true, true, true, true, true, true, true, true, true, true, true, true, true, true, true, true, true, true, true, true, true] rfl rfl (by kernel_rfl) (by decide) (fun K hK => ?_)
        refine skip_ (w1 := ?_) (by rfl) rfl ?_ ?_
        rotate_left
        · go_simp
          rfl
        refine hK.out _ _ ?_
        clear hK K
        refine done_ (by kernel_rfl) ?_
        go_wp2_with fail
        go_ret2
        have hz := HDW.out.iD.put HDW.out.bl b4 l4
        have elen : (M ++ [(⟨n, kind, lab, at_⟩ : Tm)] ++ aftV L at_).length = M.length + ((aftV L at_).length + 1) := by simp; try omega
        rw [elen] at hz
        have hz2 := PostD.trans (T1 := 0) (last1 := 0) (L1 := []) (fun_kept HDW.out.kp) (fun k hk => .inl hk) hz
        have el : insV L ⟨n, kind, lab, at_⟩ = M ++ [⟨n, kind, lab, at_⟩] ++ aftV L at_ := by rw [← hM]; unfold insV; simp
        rw [el]
        obtain ⟨v9, i9, b9, k9, o9⟩ := hz2
        exact ⟨rfl, v9, i9, b9, k9, o9⟩
    · have d0 : decide ((i : Int) < (L.length : Int)) = false := decide_eq_false (by omega)
      have HB2 := Aside0.mk (show i = (befV L at_).length by have := bef_length_le L at_; have := HBI.out; omega)
      cases A with
      | none =>
        obtain ⟨hL, _, hc9⟩ := HD0.out.iD.ct.drop0
        obtain rfl : i = 0 := by rw [hL] at l1; simpa using l1
        have hc2 : (World.drew wn).cell? ⟨g, 2, none⟩ = some (.slice none 0 0) := by have := hc2; rw [hL, hc9] at this; exact this
        have HLN := Aside0.mk hL
        clear d0 hac l0 hL hlt hc9
        go_upto_region 9 with (fail)
        refine start_ (n := 20) (S := fun w' => w'.cell? ⟨g, 2, none⟩ = some (.slice none 0 0)) (ds := []) #[false, false, false, false, false, false, false, false, false, false, false, false, false, false, false, false, false, false, false, false] (by kernel_rfl) rfl rfl (hc2) (fun hHeld => ?_)
        refine pure_ (i := 0) (N := some 57) (v := ?_) (a' := ?_) #[true, false, false, false, false, false, false, false, false, false, false, false, false, false, false, false, false, false, false, false] rfl rfl (by kernel_rfl) (fun _ _ _ h => h) (Or.inl ⟨by rfl, ?_⟩) ?_ ?_
        rotate_left
        · intro w'
          go_simp
          with_reducible rfl
        rotate_left
        · simp only [Act.put, List.setIfInBounds_toArray, List.set_cons_zero, List.set_cons_succ, i64_w, i32_w]
          rfl
        refine pure_ (i := 1) (N := some 58) (v := ?_) (a' := ?_) #[true, true, false, false, false, false, false, false, false, false, false, false, false, false, false, false, false, false, false, false] rfl rfl (by kernel_rfl) (fun _ _ _ h => h) (Or.inl ⟨by rfl, ?_⟩) ?_ ?_
        rotate_left
        · intro w'
          go_simp
          with_reducible rfl
        rotate_left
        · simp only [Act.put, List.setIfInBounds_toArray, List.set_cons_zero, List.set_cons_succ, i64_w, i32_w]
          rfl
        refine pure_ (i := 2) (N := some 59) (v := ?_) (a' := ?_) #[true, true, true, false, false, false, false, false, false, false, false, false, false, false, false, false, false, false, false, false] rfl rfl (by kernel_rfl) (fun _ _ _ h => h) (Or.inl ⟨by rfl, ?_⟩) ?_ ?_
        rotate_left
        · intro w'
          go_simp
          with_reducible rfl
        rotate_left
        · simp only [Act.put, List.setIfInBounds_toArray, List.set_cons_zero, List.set_cons_succ, i64_w, i32_w]
          rfl
        refine pure_ (i := 3) (N := some 60) (v := ?_) (a' := ?_) #[true, true, true, true, false, false, false, false, false, false, false, false, false, false, false, false, false, false, false, false] rfl rfl (by kernel_rfl) (fun _ _ _ h => h) (Or.inl ⟨by rfl, ?_⟩) ?_ ?_
        rotate_left
        · intro w'
          go_simp
          with_reducible rfl
        rotate_left
        · simp only [Act.put, List.setIfInBounds_toArray, List.set_cons_zero, List.set_cons_succ, i64_w, i32_w]
          rfl
        refine take_ (i := 4) (N := some 61) (v := ?_) (a' := ?_) #[true, true, true, true, true, false, false, false, false, false, false, false, false, false, false, false, false, false, false, false] rfl rfl (by kernel_rfl) (fun _ _ _ h => h) (Or.inl ⟨by rfl, ?_⟩) hHeld ?_ ?_
        rotate_left
        · intro w' s0
          go_simp
          with_reducible rfl
        rotate_left
        · simp only [Act.put, List.setIfInBounds_toArray, List.set_cons_zero, List.set_cons_succ, i64_w, i32_w]
          rfl
        refine pure_ (i := 5) (N := some 62) (v := ?_) (a' := ?_) #[true, true, true, true, true, true, false, false, false, false, false, false, false, false, false, false, false, false, false, false] rfl rfl (by kernel_rfl) (fun _ _ _ h => h) (Or.inl ⟨by rfl, ?_⟩) ?_ ?_
        rotate_left
        · intro w'
          go_simp
          with_reducible rfl
        rotate_left
        · simp only [Act.put, List.setIfInBounds_toArray, List.set_cons_zero, List.set_cons_succ, i64_w, i32_w]
          rfl
        refine pure_ (i := 6) (N := some 63) (v := ?_) (a' := ?_) #[true, true, true, true, true, true, true, false, false, false, false, false, false, false, false, false, false, false, false, false] rfl rfl (by kernel_rfl) (fun _ _ _ h => h) (Or.inl ⟨by rfl, ?_⟩) ?_ ?_
        rotate_left
        · intro w'
          go_simp
          with_reducible rfl
        rotate_left
        · simp only [Act.put, List.setIfInBounds_toArray, List.set_cons_zero, List.set_cons_succ, i64_w, i32_w]
          rfl
        refine pure_ (i := 7) (N := some 64) (v := ?_) (a' := ?_) #[true, true, true, true, true, true, true, true, false, false, false, false, false, false, false, false, false, false, false, false] rfl rfl (by kernel_rfl) (fun _ _ _ h => h) (Or.inl ⟨by rfl, ?_⟩) ?_ ?_
        rotate_left
        · intro w'
          go_simp
          with_reducible rfl
        rotate_left
        · simp only [Act.put, List.setIfInBounds_toArray, List.set_cons_zero, List.set_cons_succ, i64_w, i32_w]
          rfl
        refine pure_ (i := 8) (N := some 65) (v := undef) (a' := ?_) #[true, true, true, true, true, true, true, true, true, false, false, false, false, false, false, false, false, false, false, false] rfl rfl (by kernel_rfl) (fun _ _ _ h => h) (Or.inr ⟨by rfl, rfl⟩) ?_ ?_
        rotate_left
        · simp only [Act.put, List.setIfInBounds_toArray, List.set_cons_zero, List.set_cons_succ, i64_w, i32_w]
          rfl
        refine pure_ (i := 9) (N := some 66) (v := undef) (a' := ?_) #[true, true, true, true, true, true, true, true, true, true, false, false, false, false, false, false, false, false, false, false] rfl rfl (by kernel_rfl) (fun _ _ _ h => h) (Or.inr ⟨by rfl, rfl⟩) ?_ ?_
        rotate_left
        · simp only [Act.put, List.setIfInBounds_toArray, List.set_cons_zero, List.set_cons_succ, i64_w, i32_w]
          rfl
        refine pure_ (i := 10) (N := some 67) (v := undef) (a' := ?_) #[true, true, true, true, true, true, true, true, true, true, true, false, false, false, false, false, false, false, false, false] rfl rfl (by kernel_rfl) (fun _ _ _ h => h) (Or.inr ⟨by rfl, rfl⟩) ?_ ?_
        rotate_left
        · simp only [Act.put, List.setIfInBounds_toArray, List.set_cons_zero, List.set_cons_succ, i64_w, i32_w]
          rfl
        refine pure_ (i := 11) (N := some 68) (v := undef) (a' := ?_) #[true, true, true, true, true, true, true, true, true, true, true, true, false, false, false, false, false, false, false, false] rfl rfl (by kernel_rfl) (fun _ _ _ h => h) (Or.inr ⟨by rfl, rfl⟩) ?_ ?_
        rotate_left
        · simp only [Act.put, List.setIfInBounds_toArray, List.set_cons_zero, List.set_cons_succ, i64_w, i32_w]
          rfl
        refine pure_ (i := 12) (N := some 69) (v := undef) (a' := ?_) #[true, true, true, true, true, true, true, true, true, true, true, true, true, false, false, false, false, false, false, false] rfl rfl (by kernel_rfl) (fun _ _ _ h => h) (Or.inr ⟨by rfl, rfl⟩) ?_ ?_
        rotate_left
        · simp only [Act.put, List.setIfInBounds_toArray, List.set_cons_zero, List.set_cons_succ, i64_w, i32_w]
          rfl
        refine pure_ (i := 13) (N := some 70) (v := undef) (a' := ?_) #[true, true, true, true, true, true, true, true, true, true, true, true, true, true, false, false, false, false, false, false] rfl rfl (by kernel_rfl) (fun _ _ _ h => h) (Or.inr ⟨by rfl, rfl⟩) ?_ ?_
        rotate_left
        · simp only [Act.put, List.setIfInBounds_toArray, List.set_cons_zero, List.set_cons_succ, i64_w, i32_w]
          rfl
        refine pure_ (i := 14) (N := some 71) (v := undef) (a' := ?_) #[true, true, true, true, true, true, true, true, true, true, true, true, true, true, true, false, false, false, false, false] rfl rfl (by kernel_rfl) (fun _ _ _ h => h) (Or.inr ⟨by rfl, rfl⟩) ?_ ?_
        rotate_left
        · simp only [Act.put, List.setIfInBounds_toArray, List.set_cons_zero, List.set_cons_succ, i64_w, i32_w]
          rfl
        refine pure_ (i := 15) (N := some 72) (v := undef) (a' := ?_) #[true, true, true, true, true, true, true, true, true, true, true, true, true, true, true, true, false, false, false, false] rfl rfl (by kernel_rfl) (fun _ _ _ h => h) (Or.inr ⟨by rfl, rfl⟩) ?_ ?_
        rotate_left
        · simp only [Act.put, List.setIfInBounds_toArray, List.set_cons_zero, List.set_cons_succ, i64_w, i32_w]
          rfl
        refine pure_ (i := 16) (N := some 73) (v := undef) (a' := ?_) #[true, true, true, true, true, true, true, true, true, true, true, true, true, true, true, true, true, false, false, false] rfl rfl (by kernel_rfl) (fun _ _ _ h => h) (Or.inr ⟨by rfl, rfl⟩) ?_ ?_
        rotate_left
        · simp only [Act.put, List.setIfInBounds_toArray, List.set_cons_zero, List.set_cons_succ, i64_w, i32_w]
          rfl
        refine pure_ (i := 17) (N := some 74) (v := undef) (a' := ?_) #[true, true, true, true, true, true, true, true, true, true, true, true, true, true, true, true, true, true, false, false] rfl rfl (by kernel_rfl) (fun _ _ _ h => h) (Or.inr ⟨by rfl, rfl⟩) ?_ ?_
        rotate_left
        · simp only [Act.put, List.setIfInBounds_toArray, List.set_cons_zero, List.set_cons_succ, i64_w, i32_w]
          rfl
        refine pure_ (i := 18) (N := some 75) (v := undef) (a' := ?_) #[true, true, true, true, true, true, true, true, true, true, true, true, true, true, true, true, true, true, true, false] rfl rfl (by kernel_rfl) (fun _ _ _ h => h) (Or.inr ⟨by rfl, rfl⟩) ?_ ?_
        rotate_left
        · simp only [Act.put, List.setIfInBounds_toArray, List.set_cons_zero, List.set_cons_succ, i64_w, i32_w]
          rfl
        refine pure_ (i := 19) (N := some 76) (v := ?_) (a' := ?_) #[true, true, true, true, true, true, true, true, true, true, true, true, true, true, true, true, true, true, true, true] rfl rfl (by kernel_rfl) (fun _ _ _ h => h) (Or.inl ⟨by rfl, ?_⟩) ?_ ?_
        rotate_left
        · intro w'
          go_simp
          with_reducible rfl
        rotate_left
        · simp only [Act.put, List.setIfInBounds_toArray, List.set_cons_zero, List.set_cons_succ, i64_w, i32_w]
          rfl
        refine done_ (by kernel_rfl) ?_
        have HDX := Aside0.mk (HDN.out.drewN 1)
        have HKX := Aside0.mk (show Kept w (World.drew wn) (fun k => k = g) from HDX.out.kp)
        go_upto_region 11 with (fail)
        obtain ⟨wy, hwy⟩ : ∃ wy, World.drew wn = wy := ⟨_, rfl⟩
        have HDW := Aside0.mk (show DsI w0 w (World.drew wy) g sb (.slice none L.length c) T' n kind lab at_ L from hwy ▸ HDX.out.drewN 1)
        clear HDX HDN hc2 s3 HWNE HKX HD0
        rw [hwy]
        clear hwy
        have c2d := HDW.out.iD.c2; rw [HLN.out, show c = 0 from (HDW.out.iD.ct.drop0).2.2] at c2d; have c2d := (show (World.drew wy).cell? ⟨g, 2, none⟩ = some (.slice none 0 0) from c2d)
        have s0 := blk_cell HDW.out.sk 0; have s1 := blk_cell HDW.out.sk 1; have s2 := blk_cell HDW.out.sk 2; have s3 := blk_cell HDW.out.sk 3
        obtain ⟨M, hM⟩ : ∃ M, befV L at_ = M := ⟨_, rfl⟩
        have HML := Aside0.mk (show M.length ≤ 1000 from by have := bef_length_le L at_; have := HL.out; rw [hM] at *; omega)
        have HTK := Aside0.mk (show Ct (World.drew wy) 0 (.slice none 0 0) M from by rw [← hM, HLN.out]; exact Ct.nil _ _)
        have HDR := Aside0.mk (show Ct (World.drew wy) 0 (.slice none 0 0) (aftV L at_) from by rw [HLN.out]; exact Ct.nil _ _)
        refine start_ (n := 21) (S := fun w' => w'.cell? ⟨g, 2, none⟩ = some (.slice none 0 0) ∧ w'.cell? ⟨sb, 0, none⟩ = some (.int .i64 n) ∧ w'.cell? ⟨sb, 1, none⟩ = some (.int .i64 kind) ∧ w'.cell? ⟨sb, 2, none⟩ = some (.int .u64 lab) ∧ w'.cell? ⟨sb, 3, none⟩ = some (.int .i64 at_)) (ds := [17, 20]) #[false, false, false, false, false, false, false, false, false, false, false, false, false, false, false, false, false, false, false, false, false] (by kernel_rfl) rfl rfl ⟨c2d, s0, s1, s2, s3⟩ (fun hHeld => ?_)
        refine pure_ (i := 0) (N := some 79) (v := ?_) (a' := ?_) #[true, false, false, false, false, false, false, false, false, false, false, false, false, false, false, false, false, false, false, false, false] rfl rfl (by kernel_rfl) (fun _ _ _ h => h) (Or.inl ⟨by rfl, ?_⟩) ?_ ?_
        rotate_left
        · intro w'
          go_simp
          with_reducible rfl
        rotate_left
        · simp only [Act.put, List.setIfInBounds_toArray, List.set_cons_zero, List.set_cons_succ, i64_w, i32_w]
          rfl
        refine pure_ (i := 1) (N := some 80) (v := ?_) (a' := ?_) #[true, true, false, false, false, false, false, false, false, false, false, false, false, false, false, false, false, false, false, false, false] rfl rfl (by kernel_rfl) (fun _ _ _ h => h) (Or.inl ⟨by rfl, ?_⟩) ?_ ?_
        rotate_left
        · intro w'
          go_simp
          with_reducible rfl
        rotate_left
        · simp only [Act.put, List.setIfInBounds_toArray, List.set_cons_zero, List.set_cons_succ, i64_w, i32_w]
          rfl
        refine pure_ (i := 2) (N := some 81) (v := ?_) (a' := ?_) #[true, true, true, false, false, false, false, false, false, false, false, false, false, false, false, false, false, false, false, false, false] rfl rfl (by kernel_rfl) (fun _ _ _ h => h) (Or.inl ⟨by rfl, ?_⟩) ?_ ?_
        rotate_left
        · intro w'
          go_simp
          with_reducible rfl
        rotate_left
        · simp only [Act.put, List.setIfInBounds_toArray, List.set_cons_zero, List.set_cons_succ, i64_w, i32_w]
          rfl
        refine pure_ (i := 3) (N := some 82) (v := ?_) (a' := ?_) #[true, true, true, true, false, false, false, false, false, false, false, false, false, false, false, false, false, false, false, false, false] rfl rfl (by kernel_rfl) (fun _ _ _ h => h) (Or.inl ⟨by rfl, ?_⟩) ?_ ?_
        rotate_left
        · intro w'
          go_simp
          with_reducible rfl
        rotate_left
        · simp only [Act.put, List.setIfInBounds_toArray, List.set_cons_zero, List.set_cons_succ, i64_w, i32_w]
          rfl
        refine pure_ (i := 5) (N := some 84) (v := ?_) (a' := ?_) #[true, true, true, true, false, true, false, false, false, false, false, false, false, false, false, false, false, false, false, false, false] rfl rfl (by kernel_rfl) (fun _ _ _ h => h) (Or.inl ⟨by rfl, ?_⟩) ?_ ?_
        rotate_left
        · intro w'
          go_simp
          with_reducible rfl
        rotate_left
        · simp only [Act.put, List.setIfInBounds_toArray, List.set_cons_zero, List.set_cons_succ, i64_w, i32_w]
          rfl
        refine pure_ (i := 11) (N := some 90) (v := ?_) (a' := ?_) #[true, true, true, true, false, true, false, false, false, false, false, true, false, false, false, false, false, false, false, false, false] rfl rfl (by kernel_rfl) (fun _ _ _ h => h) (Or.inl ⟨by rfl, ?_⟩) ?_ ?_
        rotate_left
        · intro w'
          go_simp
          with_reducible rfl
        rotate_left
        · simp only [Act.put, List.setIfInBounds_toArray, List.set_cons_zero, List.set_cons_succ, i64_w, i32_w]
          rfl
        refine pure_ (i := 12) (N := some 91) (v := ?_) (a' := ?_) #[true, true, true, true, false, true, false, false, false, false, false, true, true, false, false, false, false, false, false, false, false] rfl rfl (by kernel_rfl) (fun _ _ _ h => h) (Or.inl ⟨by rfl, ?_⟩) ?_ ?_
        rotate_left
        · intro w'
          go_simp
          with_reducible rfl
        rotate_left
        · simp only [Act.put, List.setIfInBounds_toArray, List.set_cons_zero, List.set_cons_succ, i64_w, i32_w]
          rfl
        refine pure_ (i := 13) (N := some 92) (v := ?_) (a' := ?_) #[true, true, true, true, false, true, false, false, false, false, false, true, true, true, false, false, false, false, false, false, false] rfl rfl (by kernel_rfl) (fun _ _ _ h => h) (Or.inl ⟨by rfl, ?_⟩) ?_ ?_
        rotate_left
        · intro w'
          go_simp
          with_reducible rfl
        rotate_left
        · simp only [Act.put, List.setIfInBounds_toArray, List.set_cons_zero, List.set_cons_succ, i64_w, i32_w]
          rfl
        refine pure_ (i := 15) (N := some 94) (v := ?_) (a' := ?_) #[true, true, true, true, false, true, false, false, false, false, false, true, true, true, false, true, false, false, false, false, false] rfl rfl (by kernel_rfl) (fun _ _ _ h => h) (Or.inl ⟨by rfl, ?_⟩) ?_ ?_
        rotate_left
        · intro w'
          go_simp
          with_reducible rfl
        rotate_left
        · simp only [Act.put, List.setIfInBounds_toArray, List.set_cons_zero, List.set_cons_succ, i64_w, i32_w]
          rfl
        refine take_ (i := 4) (N := some 83) (v := ?_) (a' := ?_) #[true, true, true, true, true, true, false, false, false, false, false, true, true, true, false, true, false, false, false, false, false] rfl rfl (by kernel_rfl) (fun _ _ _ h => h) (Or.inl ⟨by rfl, ?_⟩) hHeld ?_ ?_
        rotate_left
        · rintro w' ⟨s0, s1, s2, s3, s4⟩
          go_simp
          with_reducible rfl
        rotate_left
        · simp only [Act.put, List.setIfInBounds_toArray, List.set_cons_zero, List.set_cons_succ, i64_w, i32_w]
          rfl
        refine pure_ (i := 6) (N := some 85) (v := ?_) (a' := ?_) #[true, true, true, true, true, true, true, false, false, false, false, true, true, true, false, true, false, false, false, false, false] rfl rfl (by kernel_rfl) (fun _ _ _ h => h) (Or.inl ⟨by rfl, ?_⟩) ?_ ?_
        rotate_left
        · intro w'
          go_simp
          with_reducible rfl
        rotate_left
        · simp only [Act.put, List.setIfInBounds_toArray, List.set_cons_zero, List.set_cons_succ, i64_w, i32_w]
          rfl
        refine take_ (i := 8) (N := some 87) (v := ?_) (a' := ?_) #[true, true, true, true, true, true, true, false, true, false, false, true, true, true, false, true, false, false, false, false, false] rfl rfl (by kernel_rfl) (fun _ _ _ h => h) (Or.inl ⟨by rfl, ?_⟩) hHeld ?_ ?_
        rotate_left
        · rintro w' ⟨s0, s1, s2, s3, s4⟩
          go_simp
          with_reducible rfl
        rotate_left
        · simp only [Act.put, List.setIfInBounds_toArray, List.set_cons_zero, List.set_cons_succ, i64_w, i32_w]
          rfl
        refine take_ (i := 14) (N := some 93) (v := ?_) (a' := ?_) #[true, true, true, true, true, true, true, false, true, false, false, true, true, true, true, true, false, false, false, false, false] rfl rfl (by kernel_rfl) (fun _ _ _ h => h) (Or.inl ⟨by rfl, ?_⟩) hHeld ?_ ?_
        rotate_left
        · rintro w' ⟨s0, s1, s2, s3, s4⟩
          go_simp
          with_reducible rfl
        rotate_left
        · simp only [Act.put, List.setIfInBounds_toArray, List.set_cons_zero, List.set_cons_succ, i64_w, i32_w]
          rfl
        refine pure_ (i := 16) (N := some 95) (v := ?_) (a' := ?_) #[true, true, true, true, true, true, true, false, true, false, false, true, true, true, true, true, true, false, false, false, false] rfl rfl (by kernel_rfl) (fun _ _ _ h => h) (Or.inl ⟨by rfl, ?_⟩) ?_ ?_
        rotate_left
        · intro w'
          go_simp
          with_reducible rfl
        rotate_left
        · simp only [Act.put, List.setIfInBounds_toArray, List.set_cons_zero, List.set_cons_succ, i64_w, i32_w]
          rfl
        refine join_ (σ := Nat × Value) 5 #[true, true, true, true, true, true, true, true, true, true, false, true, true, true, true, true, true, false, false, false, false] (fun s => [(86, s.2), (88, .slice (some ⟨s.1, 0, none⟩) 1 1)]) (fun s w' => Ls encT 54 w' (World.drew wy).heap.size s.2 M ∧ w'.heap[s.1]? = some (.cells #[.int .i64 n, .int .i64 kind, .int .u64 lab, .int .i64 at_] 54 (0, 0)) ∧ Below (World.drew wy).heap.size (World.drew wy) w' ∧ (s.2.ownBlock = none ∨ ∃ b, s.2.ownBlock = some b ∧ (World.drew wy).heap.size ≤ b)) ?_ ?_
        rotate_left
        · intro hCont
          refine two_ (i := 7) (j := 9) (Ni := some 86) (Nj := some 88) #[true, true, true, true, true, true, true, true, true, false, false, true, true, true, true, true, true, false, false, false, false] #[true, true, true, true, true, true, true, false, true, true, false, true, true, true, true, true, true, false, false, false, false] rfl rfl rfl rfl (by kernel_rfl) (by decide) (by decide) (fun K hK => ?_) (fun K hK => ?_)
          · skip
            obtain ⟨v1, w1, hr1, l1_, g1, o1⟩ := HTK.out.cat_run (l := []) (World.drew wy).heap.size (.slice none 0 0) (Ls.nil _ _ _ _) (Nat.le_refl _) (by have := HML.out; simp; omega) 43
            rw [List.nil_append] at l1_
            refine value_ (w1 := w1) (v := v1) (by rfl) rfl (append_exec' _ _ 43 rfl rfl rfl hr1) ?_
            have b1 := below_grown0 g1
            refine hK.out _ _ ⟨pw_cell_below b1 c2d, pw_cell_below b1 s0, pw_cell_below b1 s1, pw_cell_below b1 s2, pw_cell_below b1 s3⟩ (fun hHeld => ?_)
            clear hK K
            refine norm_ (a' := ?_) ?_ ?_
            rotate_left
            · show Act.put _ (some 86) _ = _
              simp only [Act.put, List.setIfInBounds_toArray, List.set_cons_zero, List.set_cons_succ, i64_w, i32_w]
              rfl
            refine one_ (i := 9) (N := some 88) #[true, true, true, true, true, true, true, true, true, true, false, true, true, true, true, true, true, false, false, false, false] rfl rfl (by kernel_rfl) (by decide) (fun K hK => ?_)
            have b2 := below_step b1 (below_alloc (Below.refl w1.heap.size w1) (.cells #[.int .i64 n, .int .i64 kind, .int .u64 lab, .int .i64 at_] 54))
            have hn1 : (w1.alloc (.cells #[.int .i64 n, .int .i64 kind, .int .u64 lab, .int .i64 at_] 54)).heap[w1.heap.size]? = some (.cells #[.int .i64 n, .int .i64 kind, .int .u64 lab, .int .i64 at_] 54 (0, 0)) := blk_new _ _
            have l2 := l1_.below (below_alloc (Below.refl w1.heap.size w1) (.cells #[.int .i64 n, .int .i64 kind, .int .u64 lab, .int .i64 at_] 54))
            refine value_ (w1 := ?_) (v := ?_) (by rfl) rfl ?_ ?_
            rotate_left 2
            · go_simp
              constructor
              · rfl
              · rfl
            refine hK.out _ _ ⟨pw_cell_below b2 c2d, pw_cell_below b2 s0, pw_cell_below b2 s1, pw_cell_below b2 s2, pw_cell_below b2 s3⟩ (fun hHeld => ?_)
            clear hK K
            refine norm_ (a' := ?_) ?_ ?_
            rotate_left
            · show Act.put _ (some 88) _ = _
              simp only [Act.put, List.setIfInBounds_toArray, List.set_cons_zero, List.set_cons_succ, i64_w, i32_w]
              rfl
            exact norm_ (by first | (simp only [putAll, Act.put, List.setIfInBounds_toArray, List.set_cons_zero, List.set_cons_succ]; done) | (simp only [putAll, Act.put, List.setIfInBounds_toArray, List.set_cons_zero, List.set_cons_succ]; rfl)) (hCont (w1.heap.size, v1) _ ⟨l2, hn1, b2, o1.imp id fun e => ⟨_, e, Nat.le_refl _⟩⟩)
          · skip
            have b1 := below_alloc (Below.refl (World.drew wy).heap.size (World.drew wy)) (.cells #[.int .i64 n, .int .i64 kind, .int .u64 lab, .int .i64 at_] 54)
            have hn1 : ((World.drew wy).alloc (.cells #[.int .i64 n, .int .i64 kind, .int .u64 lab, .int .i64 at_] 54)).heap[(World.drew wy).heap.size]? = some (.cells #[.int .i64 n, .int .i64 kind, .int .u64 lab, .int .i64 at_] 54 (0, 0)) := blk_new _ _
            refine value_ (w1 := ?_) (v := ?_) (by rfl) rfl ?_ ?_
            rotate_left 2
            · go_simp
              constructor
              · rfl
              · rfl
            refine hK.out _ _ ⟨pw_cell_below b1 c2d, pw_cell_below b1 s0, pw_cell_below b1 s1, pw_cell_below b1 s2, pw_cell_below b1 s3⟩ (fun hHeld => ?_)
            clear hK K
            refine norm_ (a' := ?_) ?_ ?_
            rotate_left
            · show Act.put _ (some 88) _ = _
              simp only [Act.put, List.setIfInBounds_toArray, List.set_cons_zero, List.set_cons_succ, i64_w, i32_w]
              rfl
            refine one_ (i := 7) (N := some 86) #[true, true, true, true, true, true, true, true, true, true, false, true, true, true, true, true, true, false, false, false, false] rfl rfl (by kernel_rfl) (by decide) (fun K hK => ?_)
            obtain ⟨v1, w1, hr1, l2, g1, o1⟩ := (HTK.out.below b1).cat_run (l := []) (World.alloc (World.drew wy) (.cells #[.int .i64 n, .int .i64 kind, .int .u64 lab, .int .i64 at_] 54)).heap.size (.slice none 0 0) (Ls.nil _ _ _ _) (Nat.le_refl _) (by have := HML.out; simp; omega) 43
            rw [List.nil_append] at l2
            refine value_ (w1 := w1) (v := v1) (by rfl) rfl (append_exec' _ _ 43 rfl rfl rfl hr1) ?_
            have b2 := below_step b1 (below_grown0 g1)
            have hn2 := blk_grown hn1 g1 (by intro e; cases e)
            refine hK.out _ _ ⟨pw_cell_below b2 c2d, pw_cell_below b2 s0, pw_cell_below b2 s1, pw_cell_below b2 s2, pw_cell_below b2 s3⟩ (fun hHeld => ?_)
            clear hK K
            refine norm_ (a' := ?_) ?_ ?_
            rotate_left
            · show Act.put _ (some 86) _ = _
              simp only [Act.put, List.setIfInBounds_toArray, List.set_cons_zero, List.set_cons_succ, i64_w, i32_w]
              rfl
            exact norm_ (by first | (simp only [putAll, Act.put, List.setIfInBounds_toArray, List.set_cons_zero, List.set_cons_succ]; done) | (simp only [putAll, Act.put, List.setIfInBounds_toArray, List.set_cons_zero, List.set_cons_succ]; rfl)) (hCont ((World.drew wy).heap.size, v1) _ ⟨l2.lower b1.size, hn2, b2, o1.imp id fun e => ⟨_, e, b1.size⟩⟩)
        rintro ⟨nb, v1⟩ w1 ⟨l2, hn2, b2, o1⟩
        dsimp only at l2 hn2 o1 ⊢
        have hHeld : w1.cell? ⟨g, 2, none⟩ = some (.slice none 0 0) ∧ w1.cell? ⟨sb, 0, none⟩ = some (.int .i64 n) ∧ w1.cell? ⟨sb, 1, none⟩ = some (.int .i64 kind) ∧ w1.cell? ⟨sb, 2, none⟩ = some (.int .u64 lab) ∧ w1.cell? ⟨sb, 3, none⟩ = some (.int .i64 at_) := ⟨pw_cell_below b2 c2d, pw_cell_below b2 s0, pw_cell_below b2 s1, pw_cell_below b2 s2, pw_cell_below b2 s3⟩
        refine norm_ (a' := ?_) ?_ ?_
        rotate_left
        · simp only [putAll, Act.put, List.setIfInBounds_toArray, List.set_cons_zero, List.set_cons_succ]
          rfl
        refine one_ (i := 10) (N := some 89) #[true, true, true, true, true, true, true, true, true, true, true, true, true, true, true, true, true, false, false, false, false] rfl rfl (by kernel_rfl) (by decide) (fun K hK => ?_)
        obtain ⟨v2, w2_, hr2, l3, g2, o2⟩ := Lst.cat_run (d := encT) (P := Try.prog) (W := w1) 43 43 54 _ 32 Try.underlying43 info54 rfl (World.drew wy).heap.size v1 M [⟨n, kind, lab, at_⟩] ⟨nb, 0, none⟩ 1 (fun j u hu => by rw [add_plain]; refine (blk_cell hn2 j).trans ?_; rw [List.getElem?_toArray]; exact hu) l2 b2.size (by have := HML.out; simp; omega) (by decide)
        refine value_ (w1 := w2_) (v := v2) (by rfl) rfl (append_exec' _ _ 43 rfl rfl rfl hr2) ?_
        have b3 := below_grownN b2 g2 o1
        have o3 : v2.ownBlock = none ∨ ∃ b, v2.ownBlock = some b ∧ (World.drew wy).heap.size ≤ b := o2.elim (fun e => by rw [e]; exact o1) (fun e => .inr ⟨_, e, b2.size⟩)
        refine hK.out _ _ ⟨pw_cell_below b3 c2d, pw_cell_below b3 s0, pw_cell_below b3 s1, pw_cell_below b3 s2, pw_cell_below b3 s3⟩ (fun hHeld => ?_)
        clear hK K
        refine norm_ (a' := ?_) ?_ ?_
        rotate_left
        · show Act.put _ (some 89) _ = _
          simp only [Act.put, List.setIfInBounds_toArray, List.set_cons_zero, List.set_cons_succ, i64_w, i32_w]
          rfl
        refine last_ (i := 17) (N := some 96) #[true, true, true, true, true, true, true, true, true, true, true, true, true, true, true, true, true, true, false, false, false] rfl rfl (by kernel_rfl) (by decide) (fun K hK => ?_)
        obtain ⟨v3, w3, hr3, l4, g3, o4⟩ := (HDR.out.below b3).cat_run (World.drew wy).heap.size v2 l3 b3.size (by have := HML.out; have := HL.out; have := (List.dropWhile_sublist (l := L) (fun t : Tm => decide (t.att ≤ at_))).length_le; unfold aftV; simp; omega) 43
        obtain ⟨A3, c3, e3, _, _⟩ := l4.form
        subst e3
        refine value_ (w1 := w3) (by rfl) rfl (append_exec' _ _ 43 rfl rfl rfl hr3) ?_
        have b4 := below_grownN b3 g3 o3
        have c1f := (HDW.out.iD.below b4).c1
        have c34 := (HDW.out.iD.below b4).c2
        have f34 := (HDW.out.iD.below b4).free 2
        refine hK.out _ _ ?_
        clear hK K
        refine norm_ (a' := ?_) ?_ ?_
        rotate_left
        · show Act.put _ (some 96) _ = _
          simp only [Act.put, List.setIfInBounds_toArray, List.set_cons_zero, List.set_cons_succ, i64_w, i32_w]
          rfl
        refine pure_ (i := 18) (N := some 97) (v := ?_) (a' := ?_) #[true, true, true, true, true, true, true, true, true, true, true, true, true, true, true, true, true, true, true, false, false] rfl rfl (by kernel_rfl) (fun _ _ _ h => h) (Or.inl ⟨by rfl, ?_⟩) ?_ ?_
        rotate_left
        · intro w'
          go_simp
          with_reducible rfl
        rotate_left
        · simp only [Act.put, List.setIfInBounds_toArray, List.set_cons_zero, List.set_cons_succ, i64_w, i32_w]
          rfl
        refine pure_ (i := 19) (N := some 98) (v := ?_) (a' := ?_) #[true, true, true, true, true, true, true, true, true, true, true, true, true, true, true, true, true, true, true, true, false] rfl rfl (by kernel_rfl) (fun _ _ _ h => h) (Or.inl ⟨by rfl, ?_⟩) ?_ ?_
        rotate_left
        · intro w'
          go_simp
          with_reducible rfl
        rotate_left
        · simp only [Act.put, List.setIfInBounds_toArray, List.set_cons_zero, List.set_cons_succ, i64_w, i32_w]
          rfl
        refine last_ (i := 20) (N := none) #[true, true, true, true, true, true, true, true, true, true, true, true, true, true, true, true, true, true, true, true, true] rfl rfl (by kernel_rfl) (by decide) (fun K hK => ?_)
        refine skip_ (w1 := ?_) (by rfl) rfl ?_ ?_
        rotate_left
        · go_simp
          rfl
        refine hK.out _ _ ?_
        clear hK K
        refine done_ (by kernel_rfl) ?_
        go_wp2_with fail
        go_ret2
        have hz := HDW.out.iD.put HDW.out.bl b4 l4
        have elen : (M ++ [(⟨n, kind, lab, at_⟩ : Tm)] ++ aftV L at_).length = M.length + ((aftV L at_).length + 1) := by simp; try omega
        rw [elen] at hz
        have hz2 := PostD.trans (T1 := 0) (last1 := 0) (L1 := []) (fun_kept HDW.out.kp) (fun k hk => .inl hk) hz
        have el : insV L ⟨n, kind, lab, at_⟩ = M ++ [⟨n, kind, lab, at_⟩] ++ aftV L at_ := by rw [← hM]; unfold insV; simp
        rw [el]
        obtain ⟨v9, i9, b9, k9, o9⟩ := hz2
        exact ⟨rfl, v9, i9, b9, k9, o9⟩
      | some a =>
        obtain ⟨gb, o, rfl⟩ : ∃ gb o, a = ⟨gb, o, none⟩ := by
          obtain ⟨A', c', e, _, _, hh⟩ := HD0.out.iD.ct
          injection e with e1 e2 e3
          obtain ⟨gb, o, e, _⟩ := hh a e1.symm
          exact ⟨gb, o, e⟩
        go_upto_region 9 with (fail)
        refine start_ (n := 20) (S := fun w' => w'.cell? ⟨g, 2, none⟩ = some (.slice (some ⟨gb, o, none⟩) L.length c)) (ds := []) #[false, false, false, false, false, false, false, false, false, false, false, false, false, false, false, false, false, false, false, false] (by kernel_rfl) rfl rfl (hc2) (fun hHeld => ?_)
        refine pure_ (i := 0) (N := some 57) (v := ?_) (a' := ?_) #[true, false, false, false, false, false, false, false, false, false, false, false, false, false, false, false, false, false, false, false] rfl rfl (by kernel_rfl) (fun _ _ _ h => h) (Or.inl ⟨by rfl, ?_⟩) ?_ ?_
        rotate_left
        · intro w'
          go_simp
          with_reducible rfl
        rotate_left
        · simp only [Act.put, List.setIfInBounds_toArray, List.set_cons_zero, List.set_cons_succ, i64_w, i32_w]
          rfl
        refine pure_ (i := 1) (N := some 58) (v := ?_) (a' := ?_) #[true, true, false, false, false, false, false, false, false, false, false, false, false, false, false, false, false, false, false, false] rfl rfl (by kernel_rfl) (fun _ _ _ h => h) (Or.inl ⟨by rfl, ?_⟩) ?_ ?_
        rotate_left
        · intro w'
          go_simp
          with_reducible rfl
        rotate_left
        · simp only [Act.put, List.setIfInBounds_toArray, List.set_cons_zero, List.set_cons_succ, i64_w, i32_w]
          rfl
        refine pure_ (i := 2) (N := some 59) (v := ?_) (a' := ?_) #[true, true, true, false, false, false, false, false, false, false, false, false, false, false, false, false, false, false, false, false] rfl rfl (by kernel_rfl) (fun _ _ _ h => h) (Or.inl ⟨by rfl, ?_⟩) ?_ ?_
        rotate_left
        · intro w'
          go_simp
          with_reducible rfl
        rotate_left
        · simp only [Act.put, List.setIfInBounds_toArray, List.set_cons_zero, List.set_cons_succ, i64_w, i32_w]
          rfl
        refine pure_ (i := 3) (N := some 60) (v := ?_) (a' := ?_) #[true, true, true, true, false, false, false, false, false, false, false, false, false, false, false, false, false, false, false, false] rfl rfl (by kernel_rfl) (fun _ _ _ h => h) (Or.inl ⟨by rfl, ?_⟩) ?_ ?_
        rotate_left
        · intro w'
          go_simp
          with_reducible rfl
        rotate_left
        · simp only [Act.put, List.setIfInBounds_toArray, List.set_cons_zero, List.set_cons_succ, i64_w, i32_w]
          rfl
        refine take_ (i := 4) (N := some 61) (v := ?_) (a' := ?_) #[true, true, true, true, true, false, false, false, false, false, false, false, false, false, false, false, false, false, false, false] rfl rfl (by kernel_rfl) (fun _ _ _ h => h) (Or.inl ⟨by rfl, ?_⟩) hHeld ?_ ?_
        rotate_left
        · intro w' s0
          go_simp
          with_reducible rfl
        rotate_left
        · simp only [Act.put, List.setIfInBounds_toArray, List.set_cons_zero, List.set_cons_succ, i64_w, i32_w]
          rfl
        refine pure_ (i := 5) (N := some 62) (v := ?_) (a' := ?_) #[true, true, true, true, true, true, false, false, false, false, false, false, false, false, false, false, false, false, false, false] rfl rfl (by kernel_rfl) (fun _ _ _ h => h) (Or.inl ⟨by rfl, ?_⟩) ?_ ?_
        rotate_left
        · intro w'
          go_simp
          with_reducible rfl
        rotate_left
        · simp only [Act.put, List.setIfInBounds_toArray, List.set_cons_zero, List.set_cons_succ, i64_w, i32_w]
          rfl
        refine pure_ (i := 6) (N := some 63) (v := ?_) (a' := ?_) #[true, true, true, true, true, true, true, false, false, false, false, false, false, false, false, false, false, false, false, false] rfl rfl (by kernel_rfl) (fun _ _ _ h => h) (Or.inl ⟨by rfl, ?_⟩) ?_ ?_
        rotate_left
        · intro w'
          go_simp
          with_reducible rfl
        rotate_left
        · simp only [Act.put, List.setIfInBounds_toArray, List.set_cons_zero, List.set_cons_succ, i64_w, i32_w]
          rfl
        refine pure_ (i := 7) (N := some 64) (v := ?_) (a' := ?_) #[true, true, true, true, true, true, true, true, false, false, false, false, false, false, false, false, false, false, false, false] rfl rfl (by kernel_rfl) (fun _ _ _ h => h) (Or.inl ⟨by rfl, ?_⟩) ?_ ?_
        rotate_left
        · intro w'
          go_simp
          with_reducible rfl
        rotate_left
        · simp only [Act.put, List.setIfInBounds_toArray, List.set_cons_zero, List.set_cons_succ, i64_w, i32_w]
          rfl
        refine pure_ (i := 8) (N := some 65) (v := undef) (a' := ?_) #[true, true, true, true, true, true, true, true, true, false, false, false, false, false, false, false, false, false, false, false] rfl rfl (by kernel_rfl) (fun _ _ _ h => h) (Or.inr ⟨by rfl, rfl⟩) ?_ ?_
        rotate_left
        · simp only [Act.put, List.setIfInBounds_toArray, List.set_cons_zero, List.set_cons_succ, i64_w, i32_w]
          rfl
        refine pure_ (i := 9) (N := some 66) (v := undef) (a' := ?_) #[true, true, true, true, true, true, true, true, true, true, false, false, false, false, false, false, false, false, false, false] rfl rfl (by kernel_rfl) (fun _ _ _ h => h) (Or.inr ⟨by rfl, rfl⟩) ?_ ?_
        rotate_left
        · simp only [Act.put, List.setIfInBounds_toArray, List.set_cons_zero, List.set_cons_succ, i64_w, i32_w]
          rfl
        refine pure_ (i := 10) (N := some 67) (v := undef) (a' := ?_) #[true, true, true, true, true, true, true, true, true, true, true, false, false, false, false, false, false, false, false, false] rfl rfl (by kernel_rfl) (fun _ _ _ h => h) (Or.inr ⟨by rfl, rfl⟩) ?_ ?_
        rotate_left
        · simp only [Act.put, List.setIfInBounds_toArray, List.set_cons_zero, List.set_cons_succ, i64_w, i32_w]
          rfl
        refine pure_ (i := 11) (N := some 68) (v := undef) (a' := ?_) #[true, true, true, true, true, true, true, true, true, true, true, true, false, false, false, false, false, false, false, false] rfl rfl (by kernel_rfl) (fun _ _ _ h => h) (Or.inr ⟨by rfl, rfl⟩) ?_ ?_
        rotate_left
        · simp only [Act.put, List.setIfInBounds_toArray, List.set_cons_zero, List.set_cons_succ, i64_w, i32_w]
          rfl
        refine pure_ (i := 12) (N := some 69) (v := undef) (a' := ?_) #[true, true, true, true, true, true, true, true, true, true, true, true, true, false, false, false, false, false, false, false] rfl rfl (by kernel_rfl) (fun _ _ _ h => h) (Or.inr ⟨by rfl, rfl⟩) ?_ ?_
        rotate_left
        · simp only [Act.put, List.setIfInBounds_toArray, List.set_cons_zero, List.set_cons_succ, i64_w, i32_w]
          rfl
        refine pure_ (i := 13) (N := some 70) (v := undef) (a' := ?_) #[true, true, true, true, true, true, true, true, true, true, true, true, true, true, false, false, false, false, false, false] rfl rfl (by kernel_rfl) (fun _ _ _ h => h) (Or.inr ⟨by rfl, rfl⟩) ?_ ?_
        rotate_left
        · simp only [Act.put, List.setIfInBounds_toArray, List.set_cons_zero, List.set_cons_succ, i64_w, i32_w]
          rfl
        refine pure_ (i := 14) (N := some 71) (v := undef) (a' := ?_) #[true, true, true, true, true, true, true, true, true, true, true, true, true, true, true, false, false, false, false, false] rfl rfl (by kernel_rfl) (fun _ _ _ h => h) (Or.inr ⟨by rfl, rfl⟩) ?_ ?_
        rotate_left
        · simp only [Act.put, List.setIfInBounds_toArray, List.set_cons_zero, List.set_cons_succ, i64_w, i32_w]
          rfl
        refine pure_ (i := 15) (N := some 72) (v := undef) (a' := ?_) #[true, true, true, true, true, true, true, true, true, true, true, true, true, true, true, true, false, false, false, false] rfl rfl (by kernel_rfl) (fun _ _ _ h => h) (Or.inr ⟨by rfl, rfl⟩) ?_ ?_
        rotate_left
        · simp only [Act.put, List.setIfInBounds_toArray, List.set_cons_zero, List.set_cons_succ, i64_w, i32_w]
          rfl
        refine pure_ (i := 16) (N := some 73) (v := undef) (a' := ?_) #[true, true, true, true, true, true, true, true, true, true, true, true, true, true, true, true, true, false, false, false] rfl rfl (by kernel_rfl) (fun _ _ _ h => h) (Or.inr ⟨by rfl, rfl⟩) ?_ ?_
        rotate_left
        · simp only [Act.put, List.setIfInBounds_toArray, List.set_cons_zero, List.set_cons_succ, i64_w, i32_w]
          rfl
        refine pure_ (i := 17) (N := some 74) (v := undef) (a' := ?_) #[true, true, true, true, true, true, true, true, true, true, true, true, true, true, true, true, true, true, false, false] rfl rfl (by kernel_rfl) (fun _ _ _ h => h) (Or.inr ⟨by rfl, rfl⟩) ?_ ?_
        rotate_left
        · simp only [Act.put, List.setIfInBounds_toArray, List.set_cons_zero, List.set_cons_succ, i64_w, i32_w]
          rfl
        refine pure_ (i := 18) (N := some 75) (v := undef) (a' := ?_) #[true, true, true, true, true, true, true, true, true, true, true, true, true, true, true, true, true, true, true, false] rfl rfl (by kernel_rfl) (fun _ _ _ h => h) (Or.inr ⟨by rfl, rfl⟩) ?_ ?_
        rotate_left
        · simp only [Act.put, List.setIfInBounds_toArray, List.set_cons_zero, List.set_cons_succ, i64_w, i32_w]
          rfl
        refine pure_ (i := 19) (N := some 76) (v := ?_) (a' := ?_) #[true, true, true, true, true, true, true, true, true, true, true, true, true, true, true, true, true, true, true, true] rfl rfl (by kernel_rfl) (fun _ _ _ h => h) (Or.inl ⟨by rfl, ?_⟩) ?_ ?_
        rotate_left
        · intro w'
          go_simp
          with_reducible rfl
        rotate_left
        · simp only [Act.put, List.setIfInBounds_toArray, List.set_cons_zero, List.set_cons_succ, i64_w, i32_w]
          rfl
        refine done_ (by kernel_rfl) ?_
        clear hlt d0
        have HDX := Aside0.mk (HDN.out.drewN 1)
        have HKX := Aside0.mk (show Kept w (World.drew wn) (fun k => k = g) from HDX.out.kp)
        go_upto_region 11 with (fail)
        obtain ⟨wy, hwy⟩ : ∃ wy, World.drew wn = wy := ⟨_, rfl⟩
        have HDW := Aside0.mk (show DsI w0 w (World.drew wy) g sb (.slice (some ⟨gb, o, none⟩) L.length c) T' n kind lab at_ L from hwy ▸ HDX.out.drewN 1)
        clear HDX HDN hc2 s3 HWNE HKX HD0
        rw [hwy]
        clear hwy
        have c2d := HDW.out.iD.c2
        have s0 := blk_cell HDW.out.sk 0; have s1 := blk_cell HDW.out.sk 1; have s2 := blk_cell HDW.out.sk 2; have s3 := blk_cell HDW.out.sk 3
        obtain ⟨M, hM⟩ : ∃ M, befV L at_ = M := ⟨_, rfl⟩
        have HML := Aside0.mk (show M.length ≤ 1000 from by have := bef_length_le L at_; have := HL.out; rw [hM] at *; omega)
        have hTK := HDW.out.iD.ct.take l1
        rw [HB2.out, (bef_take L at_).1, ← HB2.out, hM] at hTK
        have HTK := Aside0.mk hTK
        have hDR := HDW.out.iD.ct.drop l1
        obtain ⟨ad, had⟩ : ∃ ad : Option Addr, (if c = i then some (⟨gb, o, none⟩ : Addr) else some ⟨gb, o + i * 4, none⟩) = ad := ⟨_, rfl⟩
        rw [had, show L.drop i = aftV L at_ by rw [HB2.out, (bef_take L at_).2]] at hDR
        have HDR := Aside0.mk hDR
        have hjc : i ≤ c := by omega
        have hs2 : (i : Int) ≤ (L.length : Int) := by omega
        clear hTK hDR
        refine start_ (n := 21) (S := fun w' => w'.cell? ⟨g, 2, none⟩ = some (.slice (some ⟨gb, o, none⟩) L.length c) ∧ w'.cell? ⟨sb, 0, none⟩ = some (.int .i64 n) ∧ w'.cell? ⟨sb, 1, none⟩ = some (.int .i64 kind) ∧ w'.cell? ⟨sb, 2, none⟩ = some (.int .u64 lab) ∧ w'.cell? ⟨sb, 3, none⟩ = some (.int .i64 at_)) (ds := [17, 20]) #[false, false, false, false, false, false, false, false, false, false, false, false, false, false, false, false, false, false, false, false, false] (by kernel_rfl) rfl rfl ⟨c2d, s0, s1, s2, s3⟩ (fun hHeld => ?_)
        refine pure_ (i := 0) (N := some 79) (v := ?_) (a' := ?_) #[true, false, false, false, false, false, false, false, false, false, false, false, false, false, false, false, false, false, false, false, false] rfl rfl (by kernel_rfl) (fun _ _ _ h => h) (Or.inl ⟨by rfl, ?_⟩) ?_ ?_
        rotate_left
        · intro w'
          go_simp
          with_reducible rfl
        rotate_left
        · simp only [Act.put, List.setIfInBounds_toArray, List.set_cons_zero, List.set_cons_succ, i64_w, i32_w]
          rfl
        refine pure_ (i := 1) (N := some 80) (v := ?_) (a' := ?_) #[true, true, false, false, false, false, false, false, false, false, false, false, false, false, false, false, false, false, false, false, false] rfl rfl (by kernel_rfl) (fun _ _ _ h => h) (Or.inl ⟨by rfl, ?_⟩) ?_ ?_
        rotate_left
        · intro w'
          go_simp
          with_reducible rfl
        rotate_left
        · simp only [Act.put, List.setIfInBounds_toArray, List.set_cons_zero, List.set_cons_succ, i64_w, i32_w]
          rfl
        refine pure_ (i := 2) (N := some 81) (v := ?_) (a' := ?_) #[true, true, true, false, false, false, false, false, false, false, false, false, false, false, false, false, false, false, false, false, false] rfl rfl (by kernel_rfl) (fun _ _ _ h => h) (Or.inl ⟨by rfl, ?_⟩) ?_ ?_
        rotate_left
        · intro w'
          go_simp
          with_reducible rfl
        rotate_left
        · simp only [Act.put, List.setIfInBounds_toArray, List.set_cons_zero, List.set_cons_succ, i64_w, i32_w]
          rfl
        refine pure_ (i := 3) (N := some 82) (v := ?_) (a' := ?_) #[true, true, true, true, false, false, false, false, false, false, false, false, false, false, false, false, false, false, false, false, false] rfl rfl (by kernel_rfl) (fun _ _ _ h => h) (Or.inl ⟨by rfl, ?_⟩) ?_ ?_
        rotate_left
        · intro w'
          go_simp
          with_reducible rfl
        rotate_left
        · simp only [Act.put, List.setIfInBounds_toArray, List.set_cons_zero, List.set_cons_succ, i64_w, i32_w]
          rfl
        refine pure_ (i := 5) (N := some 84) (v := ?_) (a' := ?_) #[true, true, true, true, false, true, false, false, false, false, false, false, false, false, false, false, false, false, false, false, false] rfl rfl (by kernel_rfl) (fun _ _ _ h => h) (Or.inl ⟨by rfl, ?_⟩) ?_ ?_
        rotate_left
        · intro w'
          go_simp
          with_reducible rfl
        rotate_left
        · simp only [Act.put, List.setIfInBounds_toArray, List.set_cons_zero, List.set_cons_succ, i64_w, i32_w]
          rfl
        refine pure_ (i := 11) (N := some 90) (v := ?_) (a' := ?_) #[true, true, true, true, false, true, false, false, false, false, false, true, false, false, false, false, false, false, false, false, false] rfl rfl (by kernel_rfl) (fun _ _ _ h => h) (Or.inl ⟨by rfl, ?_⟩) ?_ ?_
        rotate_left
        · intro w'
          go_simp
          with_reducible rfl
        rotate_left
        · simp only [Act.put, List.setIfInBounds_toArray, List.set_cons_zero, List.set_cons_succ, i64_w, i32_w]
          rfl
        refine pure_ (i := 12) (N := some 91) (v := ?_) (a' := ?_) #[true, true, true, true, false, true, false, false, false, false, false, true, true, false, false, false, false, false, false, false, false] rfl rfl (by kernel_rfl) (fun _ _ _ h => h) (Or.inl ⟨by rfl, ?_⟩) ?_ ?_
        rotate_left
        · intro w'
          go_simp
          with_reducible rfl
        rotate_left
        · simp only [Act.put, List.setIfInBounds_toArray, List.set_cons_zero, List.set_cons_succ, i64_w, i32_w]
          rfl
        refine pure_ (i := 13) (N := some 92) (v := ?_) (a' := ?_) #[true, true, true, true, false, true, false, false, false, false, false, true, true, true, false, false, false, false, false, false, false] rfl rfl (by kernel_rfl) (fun _ _ _ h => h) (Or.inl ⟨by rfl, ?_⟩) ?_ ?_
        rotate_left
        · intro w'
          go_simp
          with_reducible rfl
        rotate_left
        · simp only [Act.put, List.setIfInBounds_toArray, List.set_cons_zero, List.set_cons_succ, i64_w, i32_w]
          rfl
        refine pure_ (i := 15) (N := some 94) (v := ?_) (a' := ?_) #[true, true, true, true, false, true, false, false, false, false, false, true, true, true, false, true, false, false, false, false, false] rfl rfl (by kernel_rfl) (fun _ _ _ h => h) (Or.inl ⟨by rfl, ?_⟩) ?_ ?_
        rotate_left
        · intro w'
          go_simp
          with_reducible rfl
        rotate_left
        · simp only [Act.put, List.setIfInBounds_toArray, List.set_cons_zero, List.set_cons_succ, i64_w, i32_w]
          rfl
        refine take_ (i := 4) (N := some 83) (v := ?_) (a' := ?_) #[true, true, true, true, true, true, false, false, false, false, false, true, true, true, false, true, false, false, false, false, false] rfl rfl (by kernel_rfl) (fun _ _ _ h => h) (Or.inl ⟨by rfl, ?_⟩) hHeld ?_ ?_
        rotate_left
        · rintro w' ⟨s0, s1, s2, s3, s4⟩
          go_simp
          with_reducible rfl
        rotate_left
        · simp only [Act.put, List.setIfInBounds_toArray, List.set_cons_zero, List.set_cons_succ, i64_w, i32_w]
          rfl
        refine pure_ (i := 6) (N := some 85) (v := ?_) (a' := ?_) #[true, true, true, true, true, true, true, false, false, false, false, true, true, true, false, true, false, false, false, false, false] rfl rfl (by kernel_rfl) (fun _ _ _ h => h) (Or.inl ⟨by rfl, ?_⟩) ?_ ?_
        rotate_left
        · intro w'
          go_simp
          with_reducible rfl
        rotate_left
        · simp only [Act.put, List.setIfInBounds_toArray, List.set_cons_zero, List.set_cons_succ, i64_w, i32_w]
          rfl
        refine take_ (i := 8) (N := some 87) (v := ?_) (a' := ?_) #[true, true, true, true, true, true, true, false, true, false, false, true, true, true, false, true, false, false, false, false, false] rfl rfl (by kernel_rfl) (fun _ _ _ h => h) (Or.inl ⟨by rfl, ?_⟩) hHeld ?_ ?_
        rotate_left
        · rintro w' ⟨s0, s1, s2, s3, s4⟩
          go_simp
          with_reducible rfl
        rotate_left
        · simp only [Act.put, List.setIfInBounds_toArray, List.set_cons_zero, List.set_cons_succ, i64_w, i32_w]
          rfl
        refine take_ (i := 14) (N := some 93) (v := ?_) (a' := ?_) #[true, true, true, true, true, true, true, false, true, false, false, true, true, true, true, true, false, false, false, false, false] rfl rfl (by kernel_rfl) (fun _ _ _ h => h) (Or.inl ⟨by rfl, ?_⟩) hHeld ?_ ?_
        rotate_left
        · rintro w' ⟨s0, s1, s2, s3, s4⟩
          go_simp
          with_reducible rfl
        rotate_left
        · simp only [Act.put, List.setIfInBounds_toArray, List.set_cons_zero, List.set_cons_succ, i64_w, i32_w]
          rfl
        refine pure_ (i := 16) (N := some 95) (v := ?_) (a' := ?_) #[true, true, true, true, true, true, true, false, true, false, false, true, true, true, true, true, true, false, false, false, false] rfl rfl (by kernel_rfl) (fun _ _ _ h => h) (Or.inl ⟨by rfl, ?_⟩) ?_ ?_
        rotate_left
        · intro w'
          go_simp
          with_reducible rfl
        rotate_left
        · simp only [Act.put, List.setIfInBounds_toArray, List.set_cons_zero, List.set_cons_succ, i64_w, i32_w]
          rfl
        refine join_ (σ := Nat × Value) 5 #[true, true, true, true, true, true, true, true, true, true, false, true, true, true, true, true, true, false, false, false, false] (fun s => [(86, s.2), (88, .slice (some ⟨s.1, 0, none⟩) 1 1)]) (fun s w' => Ls encT 54 w' (World.drew wy).heap.size s.2 M ∧ w'.heap[s.1]? = some (.cells #[.int .i64 n, .int .i64 kind, .int .u64 lab, .int .i64 at_] 54 (0, 0)) ∧ Below (World.drew wy).heap.size (World.drew wy) w' ∧ (s.2.ownBlock = none ∨ ∃ b, s.2.ownBlock = some b ∧ (World.drew wy).heap.size ≤ b)) ?_ ?_
        rotate_left
        · intro hCont
          refine two_ (i := 7) (j := 9) (Ni := some 86) (Nj := some 88) #[true, true, true, true, true, true, true, true, true, false, false, true, true, true, true, true, true, false, false, false, false] #[true, true, true, true, true, true, true, false, true, true, false, true, true, true, true, true, true, false, false, false, false] rfl rfl rfl rfl (by kernel_rfl) (by decide) (by decide) (fun K hK => ?_) (fun K hK => ?_)
          · skip
            obtain ⟨v1, w1, hr1, l1_, g1, o1⟩ := HTK.out.cat_run (l := []) (World.drew wy).heap.size (.slice none 0 0) (Ls.nil _ _ _ _) (Nat.le_refl _) (by have := HML.out; simp; omega) 43
            rw [List.nil_append] at l1_
            refine value_ (w1 := w1) (v := v1) (by rfl) rfl (append_exec' _ _ 43 rfl rfl rfl hr1) ?_
            have b1 := below_grown0 g1
            refine hK.out _ _ ⟨pw_cell_below b1 c2d, pw_cell_below b1 s0, pw_cell_below b1 s1, pw_cell_below b1 s2, pw_cell_below b1 s3⟩ (fun hHeld => ?_)
            clear hK K
            refine norm_ (a' := ?_) ?_ ?_
            rotate_left
            · show Act.put _ (some 86) _ = _
              simp only [Act.put, List.setIfInBounds_toArray, List.set_cons_zero, List.set_cons_succ, i64_w, i32_w]
              rfl
            refine one_ (i := 9) (N := some 88) #[true, true, true, true, true, true, true, true, true, true, false, true, true, true, true, true, true, false, false, false, false] rfl rfl (by kernel_rfl) (by decide) (fun K hK => ?_)
            have b2 := below_step b1 (below_alloc (Below.refl w1.heap.size w1) (.cells #[.int .i64 n, .int .i64 kind, .int .u64 lab, .int .i64 at_] 54))
            have hn1 : (w1.alloc (.cells #[.int .i64 n, .int .i64 kind, .int .u64 lab, .int .i64 at_] 54)).heap[w1.heap.size]? = some (.cells #[.int .i64 n, .int .i64 kind, .int .u64 lab, .int .i64 at_] 54 (0, 0)) := blk_new _ _
            have l2 := l1_.below (below_alloc (Below.refl w1.heap.size w1) (.cells #[.int .i64 n, .int .i64 kind, .int .u64 lab, .int .i64 at_] 54))
            refine value_ (w1 := ?_) (v := ?_) (by rfl) rfl ?_ ?_
            rotate_left 2
            · go_simp
              constructor
              · rfl
              · rfl
            refine hK.out _ _ ⟨pw_cell_below b2 c2d, pw_cell_below b2 s0, pw_cell_below b2 s1, pw_cell_below b2 s2, pw_cell_below b2 s3⟩ (fun hHeld => ?_)
            clear hK K
            refine norm_ (a' := ?_) ?_ ?_
            rotate_left
            · show Act.put _ (some 88) _ = _
              simp only [Act.put, List.setIfInBounds_toArray, List.set_cons_zero, List.set_cons_succ, i64_w, i32_w]
              rfl
            exact norm_ (by first | (simp only [putAll, Act.put, List.setIfInBounds_toArray, List.set_cons_zero, List.set_cons_succ]; done) | (simp only [putAll, Act.put, List.setIfInBounds_toArray, List.set_cons_zero, List.set_cons_succ]; rfl)) (hCont (w1.heap.size, v1) _ ⟨l2, hn1, b2, o1.imp id fun e => ⟨_, e, Nat.le_refl _⟩⟩)
          · skip
            have b1 := below_alloc (Below.refl (World.drew wy).heap.size (World.drew wy)) (.cells #[.int .i64 n, .int .i64 kind, .int .u64 lab, .int .i64 at_] 54)
            have hn1 : ((World.drew wy).alloc (.cells #[.int .i64 n, .int .i64 kind, .int .u64 lab, .int .i64 at_] 54)).heap[(World.drew wy).heap.size]? = some (.cells #[.int .i64 n, .int .i64 kind, .int .u64 lab, .int .i64 at_] 54 (0, 0)) := blk_new _ _
            refine value_ (w1 := ?_) (v := ?_) (by rfl) rfl ?_ ?_
            rotate_left 2
            · go_simp
              constructor
              · rfl
              · rfl
            refine hK.out _ _ ⟨pw_cell_below b1 c2d, pw_cell_below b1 s0, pw_cell_below b1 s1, pw_cell_below b1 s2, pw_cell_below b1 s3⟩ (fun hHeld => ?_)
            clear hK K
            refine norm_ (a' := ?_) ?_ ?_
            rotate_left
            · show Act.put _ (some 88) _ = _
              simp only [Act.put, List.setIfInBounds_toArray, List.set_cons_zero, List.set_cons_succ, i64_w, i32_w]
              rfl
            refine one_ (i := 7) (N := some 86) #[true, true, true, true, true, true, true, true, true, true, false, true, true, true, true, true, true, false, false, false, false] rfl rfl (by kernel_rfl) (by decide) (fun K hK => ?_)
            obtain ⟨v1, w1, hr1, l2, g1, o1⟩ := (HTK.out.below b1).cat_run (l := []) (World.alloc (World.drew wy) (.cells #[.int .i64 n, .int .i64 kind, .int .u64 lab, .int .i64 at_] 54)).heap.size (.slice none 0 0) (Ls.nil _ _ _ _) (Nat.le_refl _) (by have := HML.out; simp; omega) 43
            rw [List.nil_append] at l2
            refine value_ (w1 := w1) (v := v1) (by rfl) rfl (append_exec' _ _ 43 rfl rfl rfl hr1) ?_
            have b2 := below_step b1 (below_grown0 g1)
            have hn2 := blk_grown hn1 g1 (by intro e; cases e)
            refine hK.out _ _ ⟨pw_cell_below b2 c2d, pw_cell_below b2 s0, pw_cell_below b2 s1, pw_cell_below b2 s2, pw_cell_below b2 s3⟩ (fun hHeld => ?_)
            clear hK K
            refine norm_ (a' := ?_) ?_ ?_
            rotate_left
            · show Act.put _ (some 86) _ = _
              simp only [Act.put, List.setIfInBounds_toArray, List.set_cons_zero, List.set_cons_succ, i64_w, i32_w]
              rfl
            exact norm_ (by first | (simp only [putAll, Act.put, List.setIfInBounds_toArray, List.set_cons_zero, List.set_cons_succ]; done) | (simp only [putAll, Act.put, List.setIfInBounds_toArray, List.set_cons_zero, List.set_cons_succ]; rfl)) (hCont ((World.drew wy).heap.size, v1) _ ⟨l2.lower b1.size, hn2, b2, o1.imp id fun e => ⟨_, e, b1.size⟩⟩)
        rintro ⟨nb, v1⟩ w1 ⟨l2, hn2, b2, o1⟩
        dsimp only at l2 hn2 o1 ⊢
        have hHeld : w1.cell? ⟨g, 2, none⟩ = some (.slice (some ⟨gb, o, none⟩) L.length c) ∧ w1.cell? ⟨sb, 0, none⟩ = some (.int .i64 n) ∧ w1.cell? ⟨sb, 1, none⟩ = some (.int .i64 kind) ∧ w1.cell? ⟨sb, 2, none⟩ = some (.int .u64 lab) ∧ w1.cell? ⟨sb, 3, none⟩ = some (.int .i64 at_) := ⟨pw_cell_below b2 c2d, pw_cell_below b2 s0, pw_cell_below b2 s1, pw_cell_below b2 s2, pw_cell_below b2 s3⟩
        refine norm_ (a' := ?_) ?_ ?_
        rotate_left
        · simp only [putAll, Act.put, List.setIfInBounds_toArray, List.set_cons_zero, List.set_cons_succ]
          rfl
        refine one_ (i := 10) (N := some 89) #[true, true, true, true, true, true, true, true, true, true, true, true, true, true, true, true, true, false, false, false, false] rfl rfl (by kernel_rfl) (by decide) (fun K hK => ?_)
        obtain ⟨v2, w2_, hr2, l3, g2, o2⟩ := Lst.cat_run (d := encT) (P := Try.prog) (W := w1) 43 43 54 _ 32 Try.underlying43 info54 rfl (World.drew wy).heap.size v1 M [⟨n, kind, lab, at_⟩] ⟨nb, 0, none⟩ 1 (fun j u hu => by rw [add_plain]; refine (blk_cell hn2 j).trans ?_; rw [List.getElem?_toArray]; exact hu) l2 b2.size (by have := HML.out; simp; omega) (by decide)
        refine value_ (w1 := w2_) (v := v2) (by rfl) rfl (append_exec' _ _ 43 rfl rfl rfl hr2) ?_
        have b3 := below_grownN b2 g2 o1
        have o3 : v2.ownBlock = none ∨ ∃ b, v2.ownBlock = some b ∧ (World.drew wy).heap.size ≤ b := o2.elim (fun e => by rw [e]; exact o1) (fun e => .inr ⟨_, e, b2.size⟩)
        refine hK.out _ _ ⟨pw_cell_below b3 c2d, pw_cell_below b3 s0, pw_cell_below b3 s1, pw_cell_below b3 s2, pw_cell_below b3 s3⟩ (fun hHeld => ?_)
        clear hK K
        refine norm_ (a' := ?_) ?_ ?_
        rotate_left
        · show Act.put _ (some 89) _ = _
          simp only [Act.put, List.setIfInBounds_toArray, List.set_cons_zero, List.set_cons_succ, i64_w, i32_w]
          rfl
        refine last_ (i := 17) (N := some 96) #[true, true, true, true, true, true, true, true, true, true, true, true, true, true, true, true, true, true, false, false, false] rfl rfl (by kernel_rfl) (by decide) (fun K hK => ?_)
        obtain ⟨v3, w3, hr3, l4, g3, o4⟩ := (HDR.out.below b3).cat_run (World.drew wy).heap.size v2 l3 b3.size (by have := HML.out; have := HL.out; have := (List.dropWhile_sublist (l := L) (fun t : Tm => decide (t.att ≤ at_))).length_le; unfold aftV; simp; omega) 43
        obtain ⟨A3, c3, e3, _, _⟩ := l4.form
        subst e3
        refine value_ (w1 := w3) (by rfl) rfl (append_exec' _ _ 43 rfl rfl rfl hr3) ?_
        have b4 := below_grownN b3 g3 o3
        have c1f := (HDW.out.iD.below b4).c1
        have c34 := (HDW.out.iD.below b4).c2
        have f34 := (HDW.out.iD.below b4).free 2
        refine hK.out _ _ ?_
        clear hK K
        refine norm_ (a' := ?_) ?_ ?_
        rotate_left
        · show Act.put _ (some 96) _ = _
          simp only [Act.put, List.setIfInBounds_toArray, List.set_cons_zero, List.set_cons_succ, i64_w, i32_w]
          rfl
        refine pure_ (i := 18) (N := some 97) (v := ?_) (a' := ?_) #[true, true, true, true, true, true, true, true, true, true, true, true, true, true, true, true, true, true, true, false, false] rfl rfl (by kernel_rfl) (fun _ _ _ h => h) (Or.inl ⟨by rfl, ?_⟩) ?_ ?_
        rotate_left
        · intro w'
          go_simp
          with_reducible rfl
        rotate_left
        · simp only [Act.put, List.setIfInBounds_toArray, List.set_cons_zero, List.set_cons_succ, i64_w, i32_w]
          rfl
        refine pure_ (i := 19) (N := some 98) (v := ?_) (a' := ?_) #[true, true, true, true, true, true, true, true, true, true, true, true, true, true, true, true, true, true, true, true, false] rfl rfl (by kernel_rfl) (fun _ _ _ h => h) (Or.inl ⟨by rfl, ?_⟩) ?_ ?_
        rotate_left
        · intro w'
          go_simp
          with_reducible rfl
        rotate_left
        · simp only [Act.put, List.setIfInBounds_toArray, List.set_cons_zero, List.set_cons_succ, i64_w, i32_w]
          rfl
        refine last_ (i := 20) (N := none) #[true, true, true, true, true, true, true, true, true, true, true, true, true, true, true, true, true, true, true, true, true] rfl rfl (by kernel_rfl) (by decide) (fun K hK => ?_)
        refine skip_ (w1 := ?_) (by rfl) rfl ?_ ?_
        rotate_left
        · go_simp
          rfl
        refine hK.out _ _ ?_
        clear hK K
        refine done_ (by kernel_rfl) ?_
        go_wp2_with fail
        go_ret2
        have hz := HDW.out.iD.put HDW.out.bl b4 l4
        have elen : (M ++ [(⟨n, kind, lab, at_⟩ : Tm)] ++ aftV L at_).length = M.length + ((aftV L at_).length + 1) := by simp; try omega
        rw [elen] at hz
        have hz2 := PostD.trans (T1 := 0) (last1 := 0) (L1 := []) (fun_kept HDW.out.kp) (fun k hk => .inl hk) hz
        have el : insV L ⟨n, kind, lab, at_⟩ = M ++ [⟨n, kind, lab, at_⟩] ++ aftV L at_ := by rw [← hM]; unfold insV; simp
        rw [el]
        obtain ⟨v9, i9, b9, k9, o9⟩ := hz2
        exact ⟨rfl, v9, i9, b9, k9, o9⟩
end Go.Proofs.Ytpkilechkoiffaa.Wh
