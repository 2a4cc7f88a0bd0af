/- The wheel: Due; no condition but those that stand in each. -/
import Derived.Test.YtpkilechkoiffaaWhX
namespace Go.Proofs.Ytpkilechkoiffaa.Wh
set_option linter.unusedVariables false
set_option linter.unusedSimpArgs false
open Go.RowKit Go.Proofs.YtpkilechkoiffaaW.PrintWords Go.Proofs.YtpkilechkoiffaaW.PrintLast Go.Proofs.YtpkilechkoiffaaW.PrintMore Go.Proofs.Ytpkilechkoiffaa.Lst Go.Proofs.Ytpkilechkoiffaa.Heap Go.Proofs.Ytpkilechkoiffaa.TabL
attribute [local go_sem] max2_int min2_int max_two min_two max_three min_three max_four min_four
theorem del_run (w : World) (b : Nat) (l : List Bk) (hM : MapIs w b l) (k : Int) (hk : -9223372036854775808 ≤ k ∧ k ≤ 9223372036854775807) :
    ∃ w', (Builtin.delete_ #[56, 3] 0 #[.map (some b), .int .i64 k]).run Try.prog w = .ok (.tuple #[]) w' ∧ MapIs w' b (delV l k) ∧ w.grownBy w' (some b) := by
  obtain ⟨D, ho, r⟩ := hM
  obtain ⟨w', hrun, h1, h2⟩ := ho.drop law Try.underlying56 (keyK hk) 0
  exact ⟨w', hrun, .of h1 (r.del k), h2.grown⟩
theorem kept_keep {w w1 : World} {g b : Nat} {v : Value} (h : KeepBut w w1 g none) : Kept w w1 (FoW g v b) := ⟨h.1, fun i hi hn => h.2 i hi (fun e => hn (.inl e)) (by simp)⟩
/-- inside Due's loop: the wheel, the timer's own block q, the row of those that are due -/
structure DueI (w0 w : World) (g b : Nat) (v : Value) (last now : Int) (m : Nat) (wr : World) (q : Nat) (x : Tm) (v' vo : Value) (s' : WS) (L done : List Tm) : Prop where
  sim : Sim s' L
  ls : s'.last = last
  nw : s'.now = now
  hl : s'.heap.length ≤ m
  iw : IsW w0 wr g v' b s'
  bl : Below w0.heap.size w0 wr
  kp : Kept w wr (FoW g v b)
  ow : v'.ownBlock = v.ownBlock ∨ ∃ k, v'.ownBlock = some k ∧ w.heap.size ≤ k
  qb : wr.heap[q]? = some (.cells #[.int .i64 x.n, .int .i64 x.kind, .int .u64 x.lab, .int .i64 x.att] 37 (0, 0))
  qn : w.heap.size ≤ q
  wb : w0.heap.size ≤ w.heap.size
  qv : v'.ownBlock ≠ some q
  lo : Ls encT 37 wr w.heap.size vo done
  ov : ∀ k, vo.ownBlock = some k → v'.ownBlock ≠ some k ∧ k ≠ q
section
variable {w0 w : World} {g b : Nat} {v : Value} {last now : Int} {m : Nat} {wr w' : World} {q : Nat} {x : Tm} {v' vo : Value} {s' : WS} {L done : List Tm}
theorem DueI.wz (h : DueI w0 w g b v last now m wr q x v' vo s' L done) : w.heap.size ≤ wr.heap.size := h.kp.1
theorem DueI.drewN (h : DueI w0 w g b v last now m wr q x v' vo s' L done) (n : Nat) : DueI w0 w g b v last now m (wr.drewN n) q x v' vo s' L done :=
  { h with iw := h.iw.drew n, bl := pw_below_drewN h.bl n, kp := h.kp.drewN n, qb := blk_drewN h.qb n, lo := h.lo.drew n }
theorem DueI.drew (h : DueI w0 w g b v last now m wr q x v' vo s' L done) : DueI w0 w g b v last now m wr.drew q x v' vo s' L done := h.drewN 1
/-- the one that is due is struck -/
theorem DueI.del {t : Tm} (h : DueI w0 w g b v last now m wr q x v' vo s' (t :: L) done) (hm : MapIs w' b (delV s'.live t.n)) (hg : wr.grownBy w' (some b)) : DueI w0 w g b v last now m w' q x v' vo { s' with live := delV s'.live t.n } L done := by
  have hgb : g ≠ b := h.iw.ne
  have hqb : some q ≠ some b := by
    intro e; cases e
    exact h.iw.map.ne h.qb rfl
  refine ⟨h.sim.stop_head, h.ls, h.nw, h.hl, ⟨⟨blk_grown h.iw.f.1 hg (by intro e; cases e; exact hgb rfl), h.iw.f.2.grown hg (.inr fun e => h.iw.neb e.symm)⟩, hm, h.iw.2.2⟩, pw_below_grown h.bl _ h.bl.size hg (fun k hk => by cases hk; exact h.iw.geb), h.kp.of_grown hg (fun k hk => by cases hk; exact .inl (.inr (.inr rfl))), h.ow, blk_grown h.qb hg hqb, h.qn, h.wb, h.qv, h.lo.grown hg ?_, h.ov⟩
  obtain ⟨D, ⟨es, cl, hb, _⟩, _⟩ := h.iw.map
  exact .inr fun e => h.lo.neMap hb e.symm
/-- .. and told -/
theorem DueI.low (h : DueI w0 w g b v last now m wr q x v' vo s' L done) (hb : Below wr.heap.size wr w') : DueI w0 w g b v last now m w' q x v' vo s' L done :=
  { h with iw := h.iw.below hb, bl := below_step h.bl hb, kp := h.kp.below hb, qb := blk_below h.qb hb, lo := h.lo.below hb }
theorem DueI.push {l' : List Tm} {v1 : Value} (h : DueI w0 w g b v last now m wr q x v' vo s' L done) (h1 : Ls encT 37 w' w.heap.size v1 l') (hg : wr.grownBy w' vo.ownBlock) (ho : v1.ownBlock = vo.ownBlock ∨ ∃ k, v1.ownBlock = some k ∧ wr.heap.size ≤ k) : DueI w0 w g b v last now m w' q x v' v1 s' L l' := by
  have h2 := h
  obtain ⟨D, ⟨es, cl, hb, _⟩, _⟩ := h2.iw.map
  have hv : v'.ownBlock = none ∨ v'.ownBlock ≠ vo.ownBlock := by
    cases e : v'.ownBlock with
    | none => exact .inl rfl
    | some k => exact .inr fun e' => (h.ov k e'.symm).1 e
  have hr : ∀ k, vo.ownBlock = some k → w.heap.size ≤ k := fun k hk => (h.lo.own k hk).1
  refine ⟨h2.sim, h2.ls, h2.nw, h2.hl, ⟨⟨blk_grown h2.iw.f.1 hg (h2.lo.ne h2.iw.f.1 (by decide)), h2.iw.f.2.grown hg hv⟩, h2.iw.map.kept hg (h2.lo.neMap hb), h2.iw.2.2⟩, pw_below_grown h2.bl _ h2.bl.size hg (fun k hk => Nat.le_trans ?_ (hr k hk)), h2.kp.of_grown hg (fun k hk => .inr (hr k hk)), h2.ow, blk_grown h2.qb hg (fun e => (h.ov q e.symm).2 rfl), h2.qn, h2.wb, h2.qv, h1, fun k hk => ?_⟩
  · exact Nat.le_trans h.wb (Nat.le_refl _)
  · rcases ho with ho | ⟨k', ho, hk'⟩
    · exact h.ov k (ho ▸ hk)
    · rw [ho] at hk; cases hk
      refine ⟨fun e => ?_, fun e => ?_⟩
      · exact absurd (h2.iw.f.ls.own _ e).2.1 (Nat.not_lt.2 hk')
      · have := blk_lt h2.qb; omega
/-- a new block for the next one -/
theorem DueI.next (h : DueI w0 w g b v last now m wr q x v' vo s' L done) : DueI w0 w g b v last now m (wr.alloc (.cells #[.int .i64 x.n, .int .i64 x.kind, .int .u64 x.lab, .int .i64 x.att] 37)) wr.heap.size x v' vo s' L done := by
  have h2 := h.low (below_alloc (Below.refl wr.heap.size wr) (.cells #[.int .i64 x.n, .int .i64 x.kind, .int .u64 x.lab, .int .i64 x.att] 37))
  refine { h2 with qb := blk_new _ _, qn := h.wz, qv := fun e => ?_, ov := fun k hk => ⟨(h.ov k hk).1, fun e => ?_⟩ }
  · have := (h.iw.f.ls.own _ e).2.1; omega
  · have := (h.lo.own k hk).2.1; omega
theorem DueI.st (h : DueI w0 w g b v last now m wr q x v' vo s' L done) (y : Tm) : DueI w0 w g b v last now m (st4 wr q y.n y.kind y.lab y.att) q y v' vo s' L done := by
  have hk := st4_keep wr q y.n y.kind y.lab y.att
  refine { h with iw := h.iw.off hk ?_ h.qv ?_, bl := st4_below h.bl (Nat.le_trans h.wb h.qn) _ _ _ _, kp := kept_off h.kp hk h.qn, qb := st4_blk h.qb _ _ _ _, lo := hk.own h.lo (fun e => (h.ov q e).2 rfl) ?_ }
  · exact blk_ne h.iw.f.1 h.qb (by decide)
  · exact (h.iw.map.ne h.qb).symm
  · cases vo.ownBlock with
    | none => exact .inl rfl
    | some k => exact .inr (by simp)
theorem DueI.front (h : DueI w0 w g b v last now m wr q x v' vo s' L done) (hp : PostX w0 wr g v' b s' L w') : ∃ v2 s2, DueI w0 w g b v last now m w' q x v2 vo s2 L done := by
  obtain ⟨h2, hs, hl, v2, iw, bl, kp, ow⟩ := hp
  obtain ⟨t1, t2⟩ := fow_trans h.kp h.ow kp ow
  have hq : ¬ FoW g v' b q := by
    rintro (e | e | e)
    · exact blk_ne h.iw.f.1 h.qb (by decide) e.symm
    · exact h.qv e
    · exact (h.iw.map.ne h.qb) e
  have hlo : ∀ k, vo.ownBlock = some k → ¬ FoW g v' b k := by
    obtain ⟨D, ⟨es, cl, hb, _⟩, _⟩ := h.iw.map
    rintro k hk (e | e | e)
    · exact h.lo.ne h.iw.f.1 (by decide) (by rw [hk, e])
    · exact (h.ov k hk).1 e
    · exact h.lo.neMap hb (by rw [hk, e])
  refine ⟨v2, { s' with heap := h2 }, hs, h.ls, h.nw, Nat.le_trans hl h.hl, iw, bl, t1, t2, blk_kept h.qb kp hq, h.qn, h.wb, fun e => ?_, own_move h.lo (fun k hk => kp.2 k (h.lo.own k hk).2.1 (hlo k hk)), fun k hk => ⟨fun e => ?_, (h.ov k hk).2⟩⟩
  · rcases ow with ow | ⟨k, ow, hk⟩
    · exact h.qv (ow ▸ e)
    · rw [ow] at e; cases e
      exact absurd (blk_lt h.qb) (Nat.not_lt.2 hk)
  · rcases ow with ow | ⟨k', ow, hk'⟩
    · exact (h.ov k hk).1 (ow ▸ e)
    · rw [ow] at e; cases e
      exact absurd (h.lo.own k hk).2.1 (Nat.not_lt.2 hk')
theorem DueI.post (h : DueI w0 w g b v last now m wr q x v' vo s' L done) : PostS w0 w g v b last now m L wr := ⟨s', h.ls, h.nw, h.hl, h.sim, v', h.iw, h.bl, h.kp, h.ow⟩
end
set_option maxHeartbeats 16000000 in
theorem due_c (w0 : World) (g : Nat) (v : Value) (b : Nat) (s : WS) (L : List Tm) (hs : Sim s L) (hl : s.heap.length ≤ 1000) (hbd : s.last ≤ 2147483647) (now : Int) (s1 : WS) (hs1 : laterV s now = s1) (T : Int) (hT : s1.now = T) (w : World) (h : IsW w0 w g v b s) (hB : Below w0.heap.size w0 w) :
    Calls Try.prog 9 #[.pointer (some ⟨g, 0, none⟩), .int .i64 now] w fun e w' => ∃ u, e = .returned u ∧ Ls encT 37 w' w.heap.size u (befV L T) ∧ PostS w0 w g v b s.last T s.heap.length (aftV L T) w' := by
  have hu37 := Try.underlying37
  have hzz := hz37
  have HS1 := Aside0.mk hs1; have HTT := Aside0.mk hT
  have hsim := hs.later now
  rw [hs1] at hsim
  have HSIM := Aside0.mk hsim
  have hlh : s1.heap = s.heap ∧ s1.last = s.last := by rw [← hs1]; unfold laterV; split <;> exact ⟨rfl, rfl⟩
  have HLH := Aside0.mk hlh
  have HM := Aside0.mk hl
  have HL1 := Aside0.mk (show s1.heap.length ≤ 100000 by rw [hlh.1]; omega)
  have HLAST := Aside0.mk (show s1.last ≤ 2147483647 by rw [hlh.2]; exact hbd)
  have HW := Aside0.mk h; have HB := Aside0.mk hB
  have HLL := Aside0.mk (show L.length ≤ 4000 by have := hs.llen; omega)
  clear hT hs hl hbd hs1 hsim hlh h hB
  go_enter Try.func9, Try.ntmps9
  go_wp2_with (first | (go_at_call 21; (with_reducible refine (ok_c w0 g _ b s _ HW.out).mono ?_); rintro e w9 ⟨rfl, rfl⟩) | (go_at_call 22; (with_reducible refine (later_c w0 g _ b s now s1 HS1.out _ HW.out HB.out).mono ?_); rintro e w9 ⟨rfl, hi, hb, hk⟩; have HW1 := Aside0.mk hi; have HB1 := Aside0.mk hb; have HK1 := Aside0.mk (kept_keep (w := w) (v := v) (b := b) hk); clear hi hb hk) | (go_at_call 23; (with_reducible refine (front_c w0 g _ b s1 L HSIM.out HL1.out HLAST.out _ rfl _ rfl _ HW1.out HB1.out).mono ?_); rintro e w10 ⟨rfl, hp⟩; have HP := Aside0.mk hp; clear hp))
  have HDI := Aside0.mk (show ∃ v' s', DueI w0 w g b v s.last T s.heap.length (w10.alloc (.cells #[.int .i64 (topT L).n, .int .i64 (topT L).kind, .int .u64 (topT L).lab, .int .i64 (topT L).att] 37)) w10.heap.size (topT L) v' (.slice none 0 0) s' L [] from by
    obtain ⟨h2, hs, hl, v2, iw, bl, kp, ow⟩ := HP.out
    obtain ⟨t1, t2⟩ := fow_trans HK1.out (.inl rfl) kp ow
    have bel := below_alloc (Below.refl w10.heap.size w10) (.cells #[.int .i64 (topT L).n, .int .i64 (topT L).kind, .int .u64 (topT L).lab, .int .i64 (topT L).att] 37)
    have := HLH.out
    refine ⟨v2, { s1 with heap := h2 }, hs, this.2, HTT.out, by rw [this.1] at hl; exact hl, iw.below bel, below_step bl bel, t1.below bel, t2, blk_new _ _, t1.1, HB.out.size, fun e => ?_, Ls.nil _ _ _ _, fun k hk => by cases hk⟩
    have := (iw.f.ls.own _ e).2.1; omega)
  clear HP HW1 HB1 HK1 HW HB
  generalize w10.alloc (.cells #[.int .i64 (topT L).n, .int .i64 (topT L).kind, .int .u64 (topT L).lab, .int .i64 (topT L).att] 37) = wi at HDI ⊢
  generalize w10.heap.size = qi at HDI ⊢
  generalize hA : anyT L = ra
  have HAA := Aside0.mk hA
  clear hA
  generalize Value.slice none 0 0 = vs at HDI
  go_loopg [5, 6, 7] (L.length) (fun k v5 v6 v7 wr => ∃ (q : Nat) (v' : Value) (s' : WS) (Lr done : List Tm) (r : Bool), v6 = .pointer (some ⟨q, 0, none⟩) ∧ v7 = .bool r ∧ Aside0 (anyT Lr = r) ∧ Aside0 (Lr.length = k ∧ done.length + Lr.length = L.length) ∧ Aside0 (befV L T = done ++ befV Lr T ∧ aftV L T = aftV Lr T) ∧ Aside0 (DueI w0 w g b v s.last T s.heap.length wr q (topT Lr) v' v5 s' Lr done))
  case atStart =>
    obtain ⟨v', s', hd⟩ := HDI.out
    exact ⟨qi, v', s', L, [], ra, rfl, rfl, HAA, ⟨rfl, by simp⟩, ⟨rfl, rfl⟩, ⟨hd⟩⟩
  case round =>
    clear HDI HAA
    obtain ⟨q, v', s', Lr, done, r, rfl, rfl, HR, HNN, HT, HD⟩ := hrel
    cases Lr with
    | nil =>
      have hr : false = r := HR.out
      subst hr
      go_upto_region 6 with (fail)
      refine start_ (n := 10) (S := fun w' => True) (ds := []) #[false, false, false, false, false, false, false, false, false, false] (by kernel_rfl) rfl rfl trivial (fun hHeld => ?_)
      refine pure_ (i := 0) (N := some 19) (v := ?_) (a' := ?_) #[true, false, false, false, false, false, false, false, false, false] rfl rfl (by kernel_rfl) (fun _ _ _ h => h) (Or.inl ⟨by rfl, ?_⟩) ?_ ?_
      rotate_left
      · intro w'
        go_simp
        with_reducible rfl
      rotate_left
      · simp only [Act.put, List.setIfInBounds_toArray, List.set_cons_zero, List.set_cons_succ, i64_w, i32_w]
        rfl
      refine pure_ (i := 1) (N := some 20) (v := ?_) (a' := ?_) #[true, true, false, false, false, false, false, false, false, false] rfl rfl (by kernel_rfl) (fun _ _ _ h => h) (Or.inl ⟨by rfl, ?_⟩) ?_ ?_
      rotate_left
      · intro w'
        go_simp
        with_reducible rfl
      rotate_left
      · simp only [Act.put, List.setIfInBounds_toArray, List.set_cons_zero, List.set_cons_succ, i64_w, i32_w]
        rfl
      refine pure_ (i := 2) (N := some 21) (v := undef) (a' := ?_) #[true, true, true, false, false, false, false, false, false, false] rfl rfl (by kernel_rfl) (fun _ _ _ h => h) (Or.inr ⟨by rfl, rfl⟩) ?_ ?_
      rotate_left
      · simp only [Act.put, List.setIfInBounds_toArray, List.set_cons_zero, List.set_cons_succ, i64_w, i32_w]
        rfl
      refine pure_ (i := 3) (N := some 22) (v := undef) (a' := ?_) #[true, true, true, true, false, false, false, false, false, false] rfl rfl (by kernel_rfl) (fun _ _ _ h => h) (Or.inr ⟨by rfl, rfl⟩) ?_ ?_
      rotate_left
      · simp only [Act.put, List.setIfInBounds_toArray, List.set_cons_zero, List.set_cons_succ, i64_w, i32_w]
        rfl
      refine pure_ (i := 4) (N := some 23) (v := undef) (a' := ?_) #[true, true, true, true, true, false, false, false, false, false] rfl rfl (by kernel_rfl) (fun _ _ _ h => h) (Or.inr ⟨by rfl, rfl⟩) ?_ ?_
      rotate_left
      · simp only [Act.put, List.setIfInBounds_toArray, List.set_cons_zero, List.set_cons_succ, i64_w, i32_w]
        rfl
      refine pure_ (i := 5) (N := some 24) (v := undef) (a' := ?_) #[true, true, true, true, true, true, false, false, false, false] rfl rfl (by kernel_rfl) (fun _ _ _ h => h) (Or.inr ⟨by rfl, rfl⟩) ?_ ?_
      rotate_left
      · simp only [Act.put, List.setIfInBounds_toArray, List.set_cons_zero, List.set_cons_succ, i64_w, i32_w]
        rfl
      refine pure_ (i := 6) (N := some 25) (v := undef) (a' := ?_) #[true, true, true, true, true, true, true, false, false, false] rfl rfl (by kernel_rfl) (fun _ _ _ h => h) (Or.inr ⟨by rfl, rfl⟩) ?_ ?_
      rotate_left
      · simp only [Act.put, List.setIfInBounds_toArray, List.set_cons_zero, List.set_cons_succ, i64_w, i32_w]
        rfl
      refine pure_ (i := 7) (N := some 26) (v := undef) (a' := ?_) #[true, true, true, true, true, true, true, true, false, false] rfl rfl (by kernel_rfl) (fun _ _ _ h => h) (Or.inr ⟨by rfl, rfl⟩) ?_ ?_
      rotate_left
      · simp only [Act.put, List.setIfInBounds_toArray, List.set_cons_zero, List.set_cons_succ, i64_w, i32_w]
        rfl
      refine pure_ (i := 8) (N := some 27) (v := undef) (a' := ?_) #[true, true, true, true, true, true, true, true, true, false] rfl rfl (by kernel_rfl) (fun _ _ _ h => h) (Or.inr ⟨by rfl, rfl⟩) ?_ ?_
      rotate_left
      · simp only [Act.put, List.setIfInBounds_toArray, List.set_cons_zero, List.set_cons_succ, i64_w, i32_w]
        rfl
      refine pure_ (i := 9) (N := some 28) (v := ?_) (a' := ?_) #[true, true, true, true, true, true, true, true, true, true] rfl rfl (by kernel_rfl) (fun _ _ _ h => h) (Or.inl ⟨by rfl, ?_⟩) ?_ ?_
      rotate_left
      · intro w'
        go_simp
        with_reducible rfl
      rotate_left
      · simp only [Act.put, List.setIfInBounds_toArray, List.set_cons_zero, List.set_cons_succ, i64_w, i32_w]
        rfl
      refine done_ (by kernel_rfl) ?_
      go_wp2_with fail
      go_ret
      refine ⟨_, rfl, ?_, ?_⟩
      · rw [HT.out.1, (bef_nil T).1, List.append_nil]; exact HD.out.drew.lo
      · rw [HT.out.2, (bef_nil T).2]; exact HD.out.drew.post
    | cons t L2 =>
      have hr : true = r := HR.out
      subst hr
      have HD2 := Aside0.mk (show DueI w0 w g b v s.last T s.heap.length wr q t v' u5 s' (t :: L2) done from HD.out)
      clear HD
      have HD := HD2
      clear HD2
      have hqb := HD.out.qb
      have q0 := blk_cell hqb 0; have q1 := blk_cell hqb 1; have q2 := blk_cell hqb 2; have q3 := blk_cell hqb 3
      have hc3 := HD.out.iw.c3
      rw [HD.out.nw] at hc3
      clear hqb
      by_cases ht : t.att ≤ T
      · have d1 : decide (t.att ≤ T) = true := decide_eq_true ht
        obtain ⟨e1, e2⟩ := bef_cons (L := L2) ht
        have HT2 := Aside0.mk (show befV L T = (done ++ [t]) ++ befV L2 T ∧ aftV L T = aftV L2 T from ⟨by rw [HT.out.1, e1]; simp, by rw [HT.out.2, e2]⟩)
        clear ht e1 e2
        go_upto_region 6 with (fail)
        refine start_ (n := 10) (S := fun w' => w'.cell? ⟨q, 3, none⟩ = some (.int .i64 t.att) ∧ w'.cell? ⟨g, 3, none⟩ = some (.int .i64 T)) (ds := []) #[false, false, false, false, false, false, false, false, false, false] (by kernel_rfl) rfl rfl ⟨q3, hc3⟩ (fun hHeld => ?_)
        refine pure_ (i := 0) (N := some 19) (v := ?_) (a' := ?_) #[true, false, false, false, false, false, false, false, false, false] rfl rfl (by kernel_rfl) (fun _ _ _ h => h) (Or.inl ⟨by rfl, ?_⟩) ?_ ?_
        rotate_left
        · intro w'
          go_simp
          with_reducible rfl
        rotate_left
        · simp only [Act.put, List.setIfInBounds_toArray, List.set_cons_zero, List.set_cons_succ, i64_w, i32_w]
          rfl
        refine pure_ (i := 1) (N := some 20) (v := ?_) (a' := ?_) #[true, true, false, false, false, false, false, false, false, false] rfl rfl (by kernel_rfl) (fun _ _ _ h => h) (Or.inl ⟨by rfl, ?_⟩) ?_ ?_
        rotate_left
        · intro w'
          go_simp
          with_reducible rfl
        rotate_left
        · simp only [Act.put, List.setIfInBounds_toArray, List.set_cons_zero, List.set_cons_succ, i64_w, i32_w]
          rfl
        refine pure_ (i := 2) (N := some 21) (v := ?_) (a' := ?_) #[true, true, true, false, false, false, false, false, false, false] rfl rfl (by kernel_rfl) (fun _ _ _ h => h) (Or.inl ⟨by rfl, ?_⟩) ?_ ?_
        rotate_left
        · intro w'
          go_simp
          with_reducible rfl
        rotate_left
        · simp only [Act.put, List.setIfInBounds_toArray, List.set_cons_zero, List.set_cons_succ, i64_w, i32_w]
          rfl
        refine pure_ (i := 4) (N := some 23) (v := ?_) (a' := ?_) #[true, true, true, false, true, false, false, false, false, false] rfl rfl (by kernel_rfl) (fun _ _ _ h => h) (Or.inl ⟨by rfl, ?_⟩) ?_ ?_
        rotate_left
        · intro w'
          go_simp
          with_reducible rfl
        rotate_left
        · simp only [Act.put, List.setIfInBounds_toArray, List.set_cons_zero, List.set_cons_succ, i64_w, i32_w]
          rfl
        refine pure_ (i := 5) (N := some 24) (v := ?_) (a' := ?_) #[true, true, true, false, true, true, false, false, false, false] rfl rfl (by kernel_rfl) (fun _ _ _ h => h) (Or.inl ⟨by rfl, ?_⟩) ?_ ?_
        rotate_left
        · intro w'
          go_simp
          with_reducible rfl
        rotate_left
        · simp only [Act.put, List.setIfInBounds_toArray, List.set_cons_zero, List.set_cons_succ, i64_w, i32_w]
          rfl
        refine pure_ (i := 6) (N := some 25) (v := ?_) (a' := ?_) #[true, true, true, false, true, true, true, false, false, false] rfl rfl (by kernel_rfl) (fun _ _ _ h => h) (Or.inl ⟨by rfl, ?_⟩) ?_ ?_
        rotate_left
        · intro w'
          go_simp
          with_reducible rfl
        rotate_left
        · simp only [Act.put, List.setIfInBounds_toArray, List.set_cons_zero, List.set_cons_succ, i64_w, i32_w]
          rfl
        refine take_ (i := 3) (N := some 22) (v := ?_) (a' := ?_) #[true, true, true, true, true, true, true, false, false, false] rfl rfl (by kernel_rfl) (fun _ _ _ h => h) (Or.inl ⟨by rfl, ?_⟩) hHeld ?_ ?_
        rotate_left
        · rintro w' ⟨s0, s1⟩
          go_simp
          with_reducible rfl
        rotate_left
        · simp only [Act.put, List.setIfInBounds_toArray, List.set_cons_zero, List.set_cons_succ, i64_w, i32_w]
          rfl
        refine take_ (i := 7) (N := some 26) (v := ?_) (a' := ?_) #[true, true, true, true, true, true, true, true, false, false] rfl rfl (by kernel_rfl) (fun _ _ _ h => h) (Or.inl ⟨by rfl, ?_⟩) hHeld ?_ ?_
        rotate_left
        · rintro w' ⟨s0, s1⟩
          go_simp
          with_reducible rfl
        rotate_left
        · simp only [Act.put, List.setIfInBounds_toArray, List.set_cons_zero, List.set_cons_succ, i64_w, i32_w]
          rfl
        refine pure_ (i := 8) (N := some 27) (v := ?_) (a' := ?_) #[true, true, true, true, true, true, true, true, true, false] rfl rfl (by kernel_rfl) (fun _ _ _ h => h) (Or.inl ⟨by rfl, ?_⟩) ?_ ?_
        rotate_left
        · intro w'
          go_simp
          with_reducible rfl
        rotate_left
        · simp only [Act.put, List.setIfInBounds_toArray, List.set_cons_zero, List.set_cons_succ, i64_w, i32_w]
          rfl
        refine pure_ (i := 9) (N := some 28) (v := ?_) (a' := ?_) #[true, true, true, true, true, true, true, true, true, true] rfl rfl (by kernel_rfl) (fun _ _ _ h => h) (Or.inl ⟨by rfl, ?_⟩) ?_ ?_
        rotate_left
        · intro w'
          go_simp
          with_reducible rfl
        rotate_left
        · simp only [Act.put, List.setIfInBounds_toArray, List.set_cons_zero, List.set_cons_succ, i64_w, i32_w]
          rfl
        refine done_ (by kernel_rfl) ?_
        have HN := Aside0.mk HD.out.drew
        clear HD q0 q1 q2 q3 hc3
        obtain ⟨wa, hwa⟩ : ∃ wa, World.drew wr = wa := ⟨_, rfl⟩
        rw [hwa] at HN ⊢
        clear hwa
        go_upto_region 8 with (fail)
        have HN2 := Aside0.mk HN.out.drew
        clear HN
        have HN := HN2
        clear HN2
        have hm1 := HN.out.iw.c1
        have hqb := HN.out.qb
        have q0 := blk_cell hqb 0
        have hbd := HN.out.sim.bd t (HN.out.sim.sub t List.mem_cons_self)
        obtain ⟨wd, hrun, hm, hg⟩ := del_run (World.drew wa) b s'.live HN.out.iw.map t.n (by have := HN.out.ls; have := HLAST.out; have := HLH.out; omega)
        have HN2 := Aside0.mk (HN.out.del hm hg)
        clear hm hg hqb hbd
        refine start_ (n := 7) (S := fun w' => w'.cell? ⟨g, 1, none⟩ = some (.map (some b)) ∧ w'.cell? ⟨q, 0, none⟩ = some (.int .i64 t.n)) (ds := [6]) #[false, false, false, false, false, false, false] (by kernel_rfl) rfl rfl ⟨hm1, q0⟩ (fun hHeld => ?_)
        refine pure_ (i := 0) (N := some 34) (v := ?_) (a' := ?_) #[true, false, false, false, false, false, false] rfl rfl (by kernel_rfl) (fun _ _ _ h => h) (Or.inl ⟨by rfl, ?_⟩) ?_ ?_
        rotate_left
        · intro w'
          go_simp
          with_reducible rfl
        rotate_left
        · simp only [Act.put, List.setIfInBounds_toArray, List.set_cons_zero, List.set_cons_succ, i64_w, i32_w]
          rfl
        refine pure_ (i := 1) (N := some 35) (v := ?_) (a' := ?_) #[true, true, false, false, false, false, false] rfl rfl (by kernel_rfl) (fun _ _ _ h => h) (Or.inl ⟨by rfl, ?_⟩) ?_ ?_
        rotate_left
        · intro w'
          go_simp
          with_reducible rfl
        rotate_left
        · simp only [Act.put, List.setIfInBounds_toArray, List.set_cons_zero, List.set_cons_succ, i64_w, i32_w]
          rfl
        refine pure_ (i := 2) (N := some 36) (v := ?_) (a' := ?_) #[true, true, true, false, false, false, false] rfl rfl (by kernel_rfl) (fun _ _ _ h => h) (Or.inl ⟨by rfl, ?_⟩) ?_ ?_
        rotate_left
        · intro w'
          go_simp
          with_reducible rfl
        rotate_left
        · simp only [Act.put, List.setIfInBounds_toArray, List.set_cons_zero, List.set_cons_succ, i64_w, i32_w]
          rfl
        refine pure_ (i := 4) (N := some 38) (v := ?_) (a' := ?_) #[true, true, true, false, true, false, false] rfl rfl (by kernel_rfl) (fun _ _ _ h => h) (Or.inl ⟨by rfl, ?_⟩) ?_ ?_
        rotate_left
        · intro w'
          go_simp
          with_reducible rfl
        rotate_left
        · simp only [Act.put, List.setIfInBounds_toArray, List.set_cons_zero, List.set_cons_succ, i64_w, i32_w]
          rfl
        refine take_ (i := 3) (N := some 37) (v := ?_) (a' := ?_) #[true, true, true, true, true, false, false] rfl rfl (by kernel_rfl) (fun _ _ _ h => h) (Or.inl ⟨by rfl, ?_⟩) hHeld ?_ ?_
        rotate_left
        · rintro w' ⟨s0, s1⟩
          go_simp
          with_reducible rfl
        rotate_left
        · simp only [Act.put, List.setIfInBounds_toArray, List.set_cons_zero, List.set_cons_succ, i64_w, i32_w]
          rfl
        refine take_ (i := 5) (N := some 39) (v := ?_) (a' := ?_) #[true, true, true, true, true, true, false] rfl rfl (by kernel_rfl) (fun _ _ _ h => h) (Or.inl ⟨by rfl, ?_⟩) hHeld ?_ ?_
        rotate_left
        · rintro w' ⟨s0, s1⟩
          go_simp
          with_reducible rfl
        rotate_left
        · simp only [Act.put, List.setIfInBounds_toArray, List.set_cons_zero, List.set_cons_succ, i64_w, i32_w]
          rfl
        refine last_ (i := 6) (N := none) #[true, true, true, true, true, true, true] rfl rfl (by kernel_rfl) (by decide) (fun K hK => ?_)
        refine value_ (w1 := ?_) (v := ?_) (by rfl) rfl ?_ ?_
        rotate_left 2
        · go_simp
          constructor
          · rfl
          · rfl
        refine hK.out _ _ ?_
        clear hK K
        refine done_ (by kernel_rfl) ?_
        clear HN hrun hm1 q0
        have HN := HN2
        clear HN2
        have HDN := Aside0.mk (show (done.length + 1) * 32 ≤ 140737488355328 by have := HNN.out.2; have := HLL.out; rw [List.length_cons] at *; omega)
        have hqb := HN.out.qb
        have q0 := blk_cell hqb 0; have q1 := blk_cell hqb 1; have q2 := blk_cell hqb 2; have q3 := blk_cell hqb 3
        clear hqb
        go_upto_region 7 with (first | (at_builtin; refine wpList_push rfl _ _ 34 37 _ 32 rfl Try.underlying34 info37 rfl w.heap.size u5 done t rfl _ rfl (by simp) HN.out.lo HN.out.wz HDN.out (by decide) _ rfl ?_; intro v8 w8 h1 h2 h3; have HN2 := Aside0.mk (HN.out.push h1 h2 h3); clear HN h1 h2 h3; have HN := HN2; clear HN2; have q0 := blk_cell HN.out.qb 0; have q1 := blk_cell HN.out.qb 1; have q2 := blk_cell HN.out.qb 2; have q3 := blk_cell HN.out.qb 3) | go_in)
        obtain ⟨wq, hwq⟩ : ∃ wq, w8.alloc (.cells #[.int .i64 t.n, .int .i64 t.kind, .int .u64 t.lab, .int .i64 t.att] 37) = wq := ⟨_, rfl⟩
        obtain ⟨q9, hq9⟩ : ∃ q9, w8.heap.size = q9 := ⟨_, rfl⟩
        obtain ⟨s3, hd3⟩ : ∃ s3, DueI w0 w g b v s.last T s.heap.length wq q9 t v' v8 s3 L2 (done ++ [t]) := ⟨_, by rw [← hwq, ← hq9]; exact HN.out.next⟩
        have HN2 := Aside0.mk hd3
        clear HN q0 q1 q2 q3 hd3
        have HN := HN2
        clear HN2
        rw [hwq, hq9]
        clear hwq hq9
        go_wp2_with (first | (go_at_call 23; (with_reducible refine (front_c w0 g v' b s3 L2 HN.out.sim (by have := HN.out.hl; have := HM.out; omega) (by have := HN.out.ls; have := HLAST.out; have := HLH.out.2; omega) _ rfl _ rfl _ HN.out.iw HN.out.bl).mono ?_); rintro e w10 ⟨rfl, hp⟩; obtain ⟨v9, s9, hd9⟩ := HN.out.front hp; have HN2 := Aside0.mk hd9; have q0 := blk_frozen hd9.qb 0; have q1 := blk_frozen hd9.qb 1; have q2 := blk_frozen hd9.qb 2; have q3 := blk_frozen hd9.qb 3; have p0 := blk_cell hd9.qb 0; have p1 := blk_cell hd9.qb 1; have p2 := blk_cell hd9.qb 2; have p3 := blk_cell hd9.qb 3; clear hp hd9 HN; have HN := HN2; clear HN2))
        go_roundg L2.length
        case measure => have := HNN.out.1; rw [List.length_cons] at this; omega
        case rel =>
          refine ⟨q9, v9, s9, L2, done ++ [t], anyT L2, rfl, rfl, ⟨rfl⟩, ⟨rfl, ?_⟩, HT2, ⟨?_⟩⟩
          · have := HNN.out.2; rw [List.length_cons] at this; rw [List.length_append, List.length_singleton]; omega
          · exact HN.out.st (topT L2)
      · have d1 : decide (t.att ≤ T) = false := decide_eq_false ht
        obtain ⟨e1, e2⟩ := bef_stop (L := L2) ht
        have E1 := Aside0.mk e1; have E2 := Aside0.mk e2
        clear ht e1 e2
        go_upto_region 6 with (fail)
        refine start_ (n := 10) (S := fun w' => w'.cell? ⟨q, 3, none⟩ = some (.int .i64 t.att) ∧ w'.cell? ⟨g, 3, none⟩ = some (.int .i64 T)) (ds := []) #[false, false, false, false, false, false, false, false, false, false] (by kernel_rfl) rfl rfl ⟨q3, hc3⟩ (fun hHeld => ?_)
        refine pure_ (i := 0) (N := some 19) (v := ?_) (a' := ?_) #[true, false, false, false, false, false, false, false, false, false] rfl rfl (by kernel_rfl) (fun _ _ _ h => h) (Or.inl ⟨by rfl, ?_⟩) ?_ ?_
        rotate_left
        · intro w'
          go_simp
          with_reducible rfl
        rotate_left
        · simp only [Act.put, List.setIfInBounds_toArray, List.set_cons_zero, List.set_cons_succ, i64_w, i32_w]
          rfl
        refine pure_ (i := 1) (N := some 20) (v := ?_) (a' := ?_) #[true, true, false, false, false, false, false, false, false, false] rfl rfl (by kernel_rfl) (fun _ _ _ h => h) (Or.inl ⟨by rfl, ?_⟩) ?_ ?_
        rotate_left
        · intro w'
          go_simp
          with_reducible rfl
        rotate_left
        · simp only [Act.put, List.setIfInBounds_toArray, List.set_cons_zero, List.set_cons_succ, i64_w, i32_w]
          rfl
        refine pure_ (i := 2) (N := some 21) (v := ?_) (a' := ?_) #[true, true, true, false, false, false, false, false, false, false] rfl rfl (by kernel_rfl) (fun _ _ _ h => h) (Or.inl ⟨by rfl, ?_⟩) ?_ ?_
        rotate_left
        · intro w'
          go_simp
          with_reducible rfl
        rotate_left
        · simp only [Act.put, List.setIfInBounds_toArray, List.set_cons_zero, List.set_cons_succ, i64_w, i32_w]
          rfl
        refine pure_ (i := 4) (N := some 23) (v := ?_) (a' := ?_) #[true, true, true, false, true, false, false, false, false, false] rfl rfl (by kernel_rfl) (fun _ _ _ h => h) (Or.inl ⟨by rfl, ?_⟩) ?_ ?_
        rotate_left
        · intro w'
          go_simp
          with_reducible rfl
        rotate_left
        · simp only [Act.put, List.setIfInBounds_toArray, List.set_cons_zero, List.set_cons_succ, i64_w, i32_w]
          rfl
        refine pure_ (i := 5) (N := some 24) (v := ?_) (a' := ?_) #[true, true, true, false, true, true, false, false, false, false] rfl rfl (by kernel_rfl) (fun _ _ _ h => h) (Or.inl ⟨by rfl, ?_⟩) ?_ ?_
        rotate_left
        · intro w'
          go_simp
          with_reducible rfl
        rotate_left
        · simp only [Act.put, List.setIfInBounds_toArray, List.set_cons_zero, List.set_cons_succ, i64_w, i32_w]
          rfl
        refine pure_ (i := 6) (N := some 25) (v := ?_) (a' := ?_) #[true, true, true, false, true, true, true, false, false, false] rfl rfl (by kernel_rfl) (fun _ _ _ h => h) (Or.inl ⟨by rfl, ?_⟩) ?_ ?_
        rotate_left
        · intro w'
          go_simp
          with_reducible rfl
        rotate_left
        · simp only [Act.put, List.setIfInBounds_toArray, List.set_cons_zero, List.set_cons_succ, i64_w, i32_w]
          rfl
        refine take_ (i := 3) (N := some 22) (v := ?_) (a' := ?_) #[true, true, true, true, true, true, true, false, false, false] rfl rfl (by kernel_rfl) (fun _ _ _ h => h) (Or.inl ⟨by rfl, ?_⟩) hHeld ?_ ?_
        rotate_left
        · rintro w' ⟨s0, s1⟩
          go_simp
          with_reducible rfl
        rotate_left
        · simp only [Act.put, List.setIfInBounds_toArray, List.set_cons_zero, List.set_cons_succ, i64_w, i32_w]
          rfl
        refine take_ (i := 7) (N := some 26) (v := ?_) (a' := ?_) #[true, true, true, true, true, true, true, true, false, false] rfl rfl (by kernel_rfl) (fun _ _ _ h => h) (Or.inl ⟨by rfl, ?_⟩) hHeld ?_ ?_
        rotate_left
        · rintro w' ⟨s0, s1⟩
          go_simp
          with_reducible rfl
        rotate_left
        · simp only [Act.put, List.setIfInBounds_toArray, List.set_cons_zero, List.set_cons_succ, i64_w, i32_w]
          rfl
        refine pure_ (i := 8) (N := some 27) (v := ?_) (a' := ?_) #[true, true, true, true, true, true, true, true, true, false] rfl rfl (by kernel_rfl) (fun _ _ _ h => h) (Or.inl ⟨by rfl, ?_⟩) ?_ ?_
        rotate_left
        · intro w'
          go_simp
          with_reducible rfl
        rotate_left
        · simp only [Act.put, List.setIfInBounds_toArray, List.set_cons_zero, List.set_cons_succ, i64_w, i32_w]
          rfl
        refine pure_ (i := 9) (N := some 28) (v := ?_) (a' := ?_) #[true, true, true, true, true, true, true, true, true, true] rfl rfl (by kernel_rfl) (fun _ _ _ h => h) (Or.inl ⟨by rfl, ?_⟩) ?_ ?_
        rotate_left
        · intro w'
          go_simp
          with_reducible rfl
        rotate_left
        · simp only [Act.put, List.setIfInBounds_toArray, List.set_cons_zero, List.set_cons_succ, i64_w, i32_w]
          rfl
        refine done_ (by kernel_rfl) ?_
        go_wp2_with fail
        go_ret
        refine ⟨_, rfl, ?_, ?_⟩
        · rw [HT.out.1, E1.out, List.append_nil]; exact HD.out.drew.lo
        · rw [HT.out.2, E2.out]; exact HD.out.drew.post
end Go.Proofs.Ytpkilechkoiffaa.Wh
