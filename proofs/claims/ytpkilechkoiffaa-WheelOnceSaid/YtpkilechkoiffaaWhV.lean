/- same; the document's wheel as the laws meet it; no condition but those that stand in each. -/
import Derived.Test.YtpkilechkoiffaaWhU
namespace Go.Proofs.Ytpkilechkoiffaa.Wh
set_option linter.unusedVariables false
set_option linter.unusedSimpArgs false
open Go.RowKit Go.Proofs.YtpkilechkoiffaaW.PrintWords Go.Proofs.YtpkilechkoiffaaW.PrintLast Go.Proofs.YtpkilechkoiffaaW.PrintMore Go.Proofs.Ytpkilechkoiffaa.Lst Go.Proofs.Ytpkilechkoiffaa.Heap Go.Proofs.Ytpkilechkoiffaa.TabL
attribute [local go_sem] max2_int min2_int max_two min_two max_three min_three max_four min_four
theorem neq_same (y : Tm) (w : World) : (binOp .neq 54 (.agg #[.int .i64 y.n, .int .i64 y.kind, .int .u64 y.lab, .int .i64 y.att]) (.agg #[.int .i64 y.n, .int .i64 y.kind, .int .u64 y.lab, .int .i64 y.att])).run Try.prog w = .ok (.bool false) w := by
  have hu54 := Try.underlying54
  have h1 : (y.n == y.n) = true := by simp
  have h2 : (y.kind == y.kind) = true := by simp
  have h3 : (y.lab == y.lab) = true := by simp
  have h4 : (y.att == y.att) = true := by simp
  go_simp
set_option maxHeartbeats 8000000 in
theorem same_c (b1 b2 : Nat) (u1 u2 : Value) (l : List Tm) (hl : l.length ≤ 1000) (w : World) (h1 : Ls encT 37 w b1 u1 l) (h2 : Ls encT 54 w b2 u2 l) : Calls Try.prog 16 #[u1, u2] w fun e w' => e = .returned (.bool true) ∧ Below w.heap.size w w' := by
  obtain ⟨A1, c1, rfl, _, _⟩ := h1.form
  obtain ⟨A2, c2, rfl, _, _⟩ := h2.form
  have H1 := Aside0.mk h1; have H2 := Aside0.mk (Ct.of_ls h2)
  have HL := Aside0.mk hl
  have hu37 := Try.underlying37
  have hu54 := Try.underlying54
  have hzz := hz37
  clear h1 h2 hl
  go_enter Try.func16, Try.ntmps16
  go_wp2_with fail
  go_loopw [14] (fun vi wr => ∃ i : Nat, vi = .int .i64 i ∧ Aside0 (i ≤ l.length) ∧ Aside0 (Below w.heap.size w wr)) (fun vi _ => (l.length - intOf vi).toNat)
  case atStart => exact ⟨0, rfl, ⟨Nat.zero_le _⟩, ⟨Below.refl _ _⟩⟩
  case round =>
    obtain ⟨i, rfl, HI, HB⟩ := hrel
    have l1 := HI.out
    have l0 := HL.out
    by_cases hlt : i < l.length
    · obtain ⟨g1, e1, _, _, ⟨j0, j1, j2, j3⟩, _⟩ := ls_at (H1.out.below HB.out) (at_get zT hlt)
      obtain ⟨g2, o2, e2, _, k0, k1, k2, k3⟩ := (H2.out.below HB.out).at (at_get zT hlt)
      subst e1 e2
      obtain ⟨y, hy⟩ : ∃ y, Heap.at_ zT l i = y := ⟨_, rfl⟩
      rw [hy] at j0 j1 j2 j3 k0 k1 k2 k3
      clear hy
      go_upto_region 6 with (fail)
      have bel := below_alloc (Below.refl wr.heap.size wr) (.cells #[.int .i64 y.n, .int .i64 y.kind, .int .u64 y.lab, .int .i64 y.att] 37)
      have hn := blk_new wr (.cells #[.int .i64 y.n, .int .i64 y.kind, .int .u64 y.lab, .int .i64 y.att] 37)
      obtain ⟨wq, hwq⟩ : ∃ wq, wr.alloc (.cells #[.int .i64 y.n, .int .i64 y.kind, .int .u64 y.lab, .int .i64 y.att] 37) = wq := ⟨_, rfl⟩
      have K0 := pw_cell_below bel k0; have K1 := pw_cell_below bel k1; have K2 := pw_cell_below bel k2; have K3 := pw_cell_below bel k3
      have HBQ := Aside0.mk (below_step HB.out bel)
      rw [hwq] at K0 K1 K2 K3 hn HBQ ⊢
      generalize wr.heap.size = q at hn ⊢
      have n0 := blk_cell hn 0; have n1 := blk_cell hn 1; have n2 := blk_cell hn 2; have n3 := blk_cell hn 3
      clear hn hwq bel k0 k1 k2 k3 j0 j1 j2 j3 HB
      have hfy := neq_same y
      go_upto_region 6 with (fail)
      refine start_ (n := 14) (S := fun w' => w'.cell? ⟨q, 0, none⟩ = some (.int .i64 y.n) ∧ w'.cell? ⟨q, 1, none⟩ = some (.int .i64 y.kind) ∧ w'.cell? ⟨q, 2, none⟩ = some (.int .u64 y.lab) ∧ w'.cell? ⟨q, 3, none⟩ = some (.int .i64 y.att) ∧ w'.cell? ⟨g2, o2 + i * 4, none⟩ = some (.int .i64 y.n) ∧ w'.cell? ⟨g2, o2 + i * 4 + 1, none⟩ = some (.int .i64 y.kind) ∧ w'.cell? ⟨g2, o2 + i * 4 + 2, none⟩ = some (.int .u64 y.lab) ∧ w'.cell? ⟨g2, o2 + i * 4 + 3, none⟩ = some (.int .i64 y.att)) (ds := []) #[false, false, false, false, false, false, false, false, false, false, false, false, false, false] (by kernel_rfl) rfl rfl ⟨n0, n1, n2, n3, K0, K1, K2, K3⟩ (fun hHeld => ?_)
      refine pure_ (i := 0) (N := some 19) (v := ?_) (a' := ?_) #[true, false, false, false, false, false, false, false, false, false, false, false, false, false] rfl rfl (by kernel_rfl) (fun _ _ _ h => h) (Or.inl ⟨by rfl, ?_⟩) ?_ ?_
      rotate_left
      · intro w'
        go_simp
        with_reducible rfl
      rotate_left
      · simp only [Act.put, List.setIfInBounds_toArray, List.set_cons_zero, List.set_cons_succ, i64_w, i32_w]
        rfl
      refine pure_ (i := 2) (N := some 21) (v := ?_) (a' := ?_) #[true, false, true, false, false, false, false, false, false, false, false, false, false, false] rfl rfl (by kernel_rfl) (fun _ _ _ h => h) (Or.inl ⟨by rfl, ?_⟩) ?_ ?_
      rotate_left
      · intro w'
        go_simp
        with_reducible rfl
      rotate_left
      · simp only [Act.put, List.setIfInBounds_toArray, List.set_cons_zero, List.set_cons_succ, i64_w, i32_w]
        rfl
      refine pure_ (i := 4) (N := some 23) (v := ?_) (a' := ?_) #[true, false, true, false, true, false, false, false, false, false, false, false, false, false] rfl rfl (by kernel_rfl) (fun _ _ _ h => h) (Or.inl ⟨by rfl, ?_⟩) ?_ ?_
      rotate_left
      · intro w'
        go_simp
        with_reducible rfl
      rotate_left
      · simp only [Act.put, List.setIfInBounds_toArray, List.set_cons_zero, List.set_cons_succ, i64_w, i32_w]
        rfl
      refine pure_ (i := 6) (N := some 25) (v := ?_) (a' := ?_) #[true, false, true, false, true, false, true, false, false, false, false, false, false, false] rfl rfl (by kernel_rfl) (fun _ _ _ h => h) (Or.inl ⟨by rfl, ?_⟩) ?_ ?_
      rotate_left
      · intro w'
        go_simp
        with_reducible rfl
      rotate_left
      · simp only [Act.put, List.setIfInBounds_toArray, List.set_cons_zero, List.set_cons_succ, i64_w, i32_w]
        rfl
      refine pure_ (i := 9) (N := some 28) (v := ?_) (a' := ?_) #[true, false, true, false, true, false, true, false, false, true, false, false, false, false] rfl rfl (by kernel_rfl) (fun _ _ _ h => h) (Or.inl ⟨by rfl, ?_⟩) ?_ ?_
      rotate_left
      · intro w'
        go_simp
        with_reducible rfl
      rotate_left
      · simp only [Act.put, List.setIfInBounds_toArray, List.set_cons_zero, List.set_cons_succ, i64_w, i32_w]
        rfl
      refine pure_ (i := 10) (N := some 29) (v := ?_) (a' := ?_) #[true, false, true, false, true, false, true, false, false, true, true, false, false, false] rfl rfl (by kernel_rfl) (fun _ _ _ h => h) (Or.inl ⟨by rfl, ?_⟩) ?_ ?_
      rotate_left
      · intro w'
        go_simp
        with_reducible rfl
      rotate_left
      · simp only [Act.put, List.setIfInBounds_toArray, List.set_cons_zero, List.set_cons_succ, i64_w, i32_w]
        rfl
      refine pure_ (i := 11) (N := some 30) (v := ?_) (a' := ?_) #[true, false, true, false, true, false, true, false, false, true, true, true, false, false] rfl rfl (by kernel_rfl) (fun _ _ _ h => h) (Or.inl ⟨by rfl, ?_⟩) ?_ ?_
      rotate_left
      · intro w'
        go_simp
        with_reducible rfl
      rotate_left
      · simp only [Act.put, List.setIfInBounds_toArray, List.set_cons_zero, List.set_cons_succ, i64_w, i32_w]
        rfl
      refine take_ (i := 1) (N := some 20) (v := ?_) (a' := ?_) #[true, true, true, false, true, false, true, false, false, true, true, true, false, false] rfl rfl (by kernel_rfl) (fun _ _ _ h => h) (Or.inl ⟨by rfl, ?_⟩) hHeld ?_ ?_
      rotate_left
      · rintro w' ⟨s0, s1, s2, s3, s4, s5, s6, s7⟩
        go_simp
        with_reducible rfl
      rotate_left
      · simp only [Act.put, List.setIfInBounds_toArray, List.set_cons_zero, List.set_cons_succ, i64_w, i32_w]
        rfl
      refine take_ (i := 3) (N := some 22) (v := ?_) (a' := ?_) #[true, true, true, true, true, false, true, false, false, true, true, true, false, false] rfl rfl (by kernel_rfl) (fun _ _ _ h => h) (Or.inl ⟨by rfl, ?_⟩) hHeld ?_ ?_
      rotate_left
      · rintro w' ⟨s0, s1, s2, s3, s4, s5, s6, s7⟩
        go_simp
        with_reducible rfl
      rotate_left
      · simp only [Act.put, List.setIfInBounds_toArray, List.set_cons_zero, List.set_cons_succ, i64_w, i32_w]
        rfl
      refine take_ (i := 5) (N := some 24) (v := ?_) (a' := ?_) #[true, true, true, true, true, true, true, false, false, true, true, true, false, false] rfl rfl (by kernel_rfl) (fun _ _ _ h => h) (Or.inl ⟨by rfl, ?_⟩) hHeld ?_ ?_
      rotate_left
      · rintro w' ⟨s0, s1, s2, s3, s4, s5, s6, s7⟩
        go_simp
        with_reducible rfl
      rotate_left
      · simp only [Act.put, List.setIfInBounds_toArray, List.set_cons_zero, List.set_cons_succ, i64_w, i32_w]
        rfl
      refine take_ (i := 7) (N := some 26) (v := ?_) (a' := ?_) #[true, true, true, true, true, true, true, true, false, true, true, true, false, false] rfl rfl (by kernel_rfl) (fun _ _ _ h => h) (Or.inl ⟨by rfl, ?_⟩) hHeld ?_ ?_
      rotate_left
      · rintro w' ⟨s0, s1, s2, s3, s4, s5, s6, s7⟩
        go_simp
        with_reducible rfl
      rotate_left
      · simp only [Act.put, List.setIfInBounds_toArray, List.set_cons_zero, List.set_cons_succ, i64_w, i32_w]
        rfl
      refine pure_ (i := 8) (N := some 27) (v := ?_) (a' := ?_) #[true, true, true, true, true, true, true, true, true, true, true, true, false, false] rfl rfl (by kernel_rfl) (fun _ _ _ h => h) (Or.inl ⟨by rfl, ?_⟩) ?_ ?_
      rotate_left
      · intro w'
        go_simp
        with_reducible rfl
      rotate_left
      · simp only [Act.put, List.setIfInBounds_toArray, List.set_cons_zero, List.set_cons_succ, i64_w, i32_w]
        rfl
      refine take_ (i := 12) (N := some 31) (v := ?_) (a' := ?_) #[true, true, true, true, true, true, true, true, true, true, true, true, true, false] rfl rfl (by kernel_rfl) (fun _ _ _ h => h) (Or.inl ⟨by rfl, ?_⟩) hHeld ?_ ?_
      rotate_left
      · rintro w' ⟨s0, s1, s2, s3, s4, s5, s6, s7⟩
        go_simp
        with_reducible rfl
      rotate_left
      · simp only [Act.put, List.setIfInBounds_toArray, List.set_cons_zero, List.set_cons_succ, i64_w, i32_w]
        rfl
      refine pure_ (i := 13) (N := some 32) (v := ?_) (a' := ?_) #[true, true, true, true, true, true, true, true, true, true, true, true, true, true] rfl rfl (by kernel_rfl) (fun _ _ _ h => h) (Or.inl ⟨by rfl, ?_⟩) ?_ ?_
      rotate_left
      · intro w'
        go_simp
        with_reducible rfl
      rotate_left
      · simp only [Act.put, List.setIfInBounds_toArray, List.set_cons_zero, List.set_cons_succ, i64_w, i32_w]
        rfl
      refine done_ (by kernel_rfl) ?_
      go_wp2_with fail
      go_roundw
      case rel => exact ⟨i + 1, by go_num, ⟨by omega⟩, ⟨below_drew HBQ.out⟩⟩
      case measure => simp [intOf]; omega
    · go_wp2_with fail
      go_ret
      exact ⟨rfl, HB.out⟩
/-! ### the document's wheel: its blocks are F -/
def Dst (w0 W : World) (g : Nat) (F : Nat → Prop) (T last : Int) (L : List Tm) : Prop := ∃ v, F = FoD g v ∧ IsD w0 W g v T last L
def PostE (w0 w : World) (g : Nat) (F : Nat → Prop) (T last : Int) (L : List Tm) (w' : World) : Prop := ∃ F', Dst w0 w' g F' T last L ∧ Below w0.heap.size w0 w' ∧ Kept w w' F ∧ ∀ k, F' k → F k ∨ w.heap.size ≤ k
section
variable {w0 w W W' : World} {g : Nat} {F : Nat → Prop} {T last : Int} {L : List Tm}
theorem PostD.e {v : Value} (h : PostD w0 w g v T last L W) : PostE w0 w g (FoD g v) T last L W := by
  obtain ⟨v', i, b, k, o⟩ := h
  refine ⟨FoD g v', ⟨v', rfl, i⟩, b, k.mono fun k e => .inl e, ?_⟩
  rintro k (e | e)
  · exact .inl (.inl e)
  · rcases o k e with e | e
    · exact .inl (.inr e)
    · exact .inr e
theorem Dst.lt (h : Dst w0 W g F T last L) {k : Nat} (hk : F k) : k < W.heap.size := by
  obtain ⟨v, rfl, i⟩ := h
  rcases hk with rfl | e
  · exact i.lt
  · exact (i.ct.blk k e).2.1
theorem Dst.ge (h : Dst w0 W g F T last L) {k : Nat} (hk : F k) : w0.heap.size ≤ k := by
  obtain ⟨v, rfl, i⟩ := h
  rcases hk with rfl | e
  · exact i.ge
  · exact (i.ct.blk k e).1
theorem Dst.below (h : Dst w0 W g F T last L) (hb : Below W.heap.size W W') : Dst w0 W' g F T last L := by
  obtain ⟨v, e, i⟩ := h
  exact ⟨v, e, i.below hb⟩
theorem Dst.drewN (h : Dst w0 W g F T last L) (n : Nat) : Dst w0 (W.drewN n) g F T last L := by
  obtain ⟨v, e, i⟩ := h
  exact ⟨v, e, i.drewN n⟩
theorem Dst.kept {S : Nat → Prop} (h : Dst w0 W g F T last L) (hk : Kept W W' S) (hn : ∀ k, F k → ¬ S k) : Dst w0 W' g F T last L := by
  obtain ⟨v, rfl, i⟩ := h
  exact ⟨v, rfl, (hk.2 g i.lt (hn g (.inl rfl))).trans i.1, i.ct.move hk.1 (fun k e => hk.2 k (i.ct.blk k e).2.1 (hn k (.inr e))), i.ge⟩
theorem Dst.c0 (h : Dst w0 W g F T last L) : W.cell? ⟨g, 0, none⟩ = some (.int .i64 T) := by
  obtain ⟨v, rfl, i⟩ := h
  exact i.c0
/-- what the law reads of the list: how many, and the first one's time -/
theorem Dst.reads (h : Dst w0 W g F T last L) : ∃ A c, W.cell? ⟨g, 2, none⟩ = some (.slice A L.length c) ∧ ∀ t L', L = t :: L' → ∃ gb o, A = some ⟨gb, o, none⟩ ∧ W.cell? ⟨gb, o + 3, none⟩ = some (.int .i64 t.att) := by
  obtain ⟨v, rfl, i⟩ := h
  have hc := i.c2
  obtain ⟨A, c, rfl, _⟩ := i.ct.form
  refine ⟨A, c, hc, fun t L' e => ?_⟩
  subst e
  obtain ⟨gb, o, eA, _, _, _, _, k3⟩ := i.ct.at (i := 0) (x := t) rfl
  exact ⟨gb, o, eA, by simpa using k3⟩
end
section
variable (w0 : World) (g : Nat) (F : Nat → Prop) (T last : Int) (L : List Tm)
theorem dset_bade (now after kind lab : Int) (ha : badA after = true) (T' : Int) (hT : laterT T now = T') (w : World) (h : Dst w0 w g F T last L) (hB : Below w0.heap.size w0 w) :
    Calls Try.prog 18 #[.pointer (some ⟨g, 0, none⟩), .int .i64 now, .int .i64 after, .int .i64 kind, .int .u64 lab] w fun e w' => e = .returned (.tuple #[.int .i64 0, .int .i64 1]) ∧ PostE w0 w g F T' last L w' := by
  obtain ⟨v, rfl, i⟩ := h
  exact (dset_bad w0 g v T last L now after kind lab ha T' hT w i hB).mono fun e w' ⟨h1, h2⟩ => ⟨h1, h2.e⟩
theorem dset_e (hl : L.length ≤ 1000) (hls : 0 ≤ last ∧ last ≤ 1000) (htk : 0 ≤ T ∧ T ≤ 1099511627776) (now after kind lab : Int) (ha : badA after = false) (T' : Int) (hT : laterT T now = T') (n : Int) (hn : last + 1 = n) (at_ : Int) (hat : attV T' after = at_) (w : World) (h : Dst w0 w g F T last L) (hB : Below w0.heap.size w0 w) :
    Calls Try.prog 18 #[.pointer (some ⟨g, 0, none⟩), .int .i64 now, .int .i64 after, .int .i64 kind, .int .u64 lab] w fun e w' => e = .returned (.tuple #[.int .i64 n, .int .i64 0]) ∧ PostE w0 w g F T' n (insV L ⟨n, kind, lab, at_⟩) w' := by
  obtain ⟨v, rfl, i⟩ := h
  exact (dset_c w0 g v T last L hl hls htk now after kind lab ha T' hT n hn at_ hat w i hB).mono fun e w' ⟨h1, h2⟩ => ⟨h1, h2.e⟩
theorem ddue_e (hl : L.length ≤ 1000) (now T' : Int) (hT : laterT T now = T') (w : World) (h : Dst w0 w g F T last L) (hB : Below w0.heap.size w0 w) :
    Calls Try.prog 17 #[.pointer (some ⟨g, 0, none⟩), .int .i64 now] w fun e w' => ∃ u, e = .returned u ∧ Ls encT 54 w' w.heap.size u (befV L T') ∧ PostE w0 w g F T' last (aftV L T') w' := by
  obtain ⟨v, rfl, i⟩ := h
  exact (ddue_c w0 g v T last L hl now T' hT w i hB).mono fun e w' ⟨u, h1, h2, h3⟩ => ⟨u, h1, h2, h3.e⟩
theorem dstop_e (hl : L.length ≤ 1000) (hnd : L.Nodup) (hu : ∀ t ∈ L, ∀ u ∈ L, t.n = u.n → t = u) (n : Int) (r : Int) (L' : List Tm) (hL' : L.filter (fun t => !(t.n == n)) = L') (hr : (if hasT L n then 0 else 6) = r) (w : World) (h : Dst w0 w g F T last L) (hB : Below w0.heap.size w0 w) :
    Calls Try.prog 13 #[.pointer (some ⟨g, 0, none⟩), .int .i64 n] w fun e w' => e = .returned (.int .i64 r) ∧ PostE w0 w g F T last L' w' := by
  obtain ⟨v, rfl, i⟩ := h
  exact (dstop_c w0 g v T last L hl hnd hu n r L' hL' hr w i hB).mono fun e w' ⟨h1, h2⟩ => ⟨h1, h2.e⟩
theorem dstopall_e (hl : L.length ≤ 1000) (lab : Int) (L' : List Tm) (hL' : L.filter (fun t => !(t.lab == lab)) = L') (r : Int) (hr : (L.length : Int) - (L'.length : Int) = r) (w : World) (h : Dst w0 w g F T last L) (hB : Below w0.heap.size w0 w) :
    Calls Try.prog 15 #[.pointer (some ⟨g, 0, none⟩), .int .u64 lab] w fun e w' => e = .returned (.int .i64 r) ∧ PostE w0 w g F T last L' w' := by
  obtain ⟨v, rfl, i⟩ := h
  exact (dstopall_c w0 g v T last L hl lab L' hL' r hr w i hB).mono fun e w' ⟨h1, h2⟩ => ⟨h1, h2.e⟩
end
end Go.Proofs.Ytpkilechkoiffaa.Wh
