/- PageCounts: as often as it was taken and held a page is dropped, until it is free; no page is taken that is held; the walk; no condition but that numbers are of their kinds. -/
import Derived.Test.YtiekmjkeoicjfaaPgL
import Derived.Test.YtiekmjkeoicjfaaTabI
import Derived.Test.YtiekmjkeoicjfaaSteps
namespace Go.Proofs.Ytiekmjkeoicjfaa.Pg
set_option linter.unusedVariables false
set_option linter.unusedSimpArgs false
open Go.RowKit Go.Proofs.Ytiekmjkeoicjfaa.PA Go.Proofs.YtiekmjkeoicjfaaW.PrintWords Go.Proofs.YtiekmjkeoicjfaaW.PrintLast Go.Proofs.YtiekmjkeoicjfaaW.PrintMore Go.Proofs.Ytiekmjkeoicjfaa.Lst Go.Proofs.Ytiekmjkeoicjfaa.Heap
attribute [local go_sem] max2_int min2_int max_two min_two max_three min_three max_four min_four
/-! ### plain -/
structure MRel (i : Nat) (lb : List TabI.Bk) (p : PS) : Prop where
  at_ : ∀ k, (TabI.lookV lb k).1 = heldV p.held k
  len : lb.length ≤ i
  top : ∀ k, heldV p.held k ≤ i
theorem look_put (l : List TabI.Bk) (k x k' : Int) : (TabI.lookV (TabI.putV l k x) k').1 = if k' = k then x else (TabI.lookV l k').1 := by
  unfold TabI.lookV TabI.putV
  by_cases h : k' = k
  · subst h
    rw [if_pos rfl, List.find?_cons_of_pos (by simp)]
  · rw [if_neg h, List.find?_cons_of_neg (by simp; exact fun e => h e.symm)]
    have e : (l.filter (fun q => !(q.key == k))).find? (fun q => q.key == k') = l.find? (fun q => q.key == k') := by
      induction l with
      | nil => rfl
      | cons a l ih =>
        by_cases h1 : a.key = k
        · rw [List.filter_cons, if_neg (by simpa using h1), ih, List.find?_cons_of_neg (by simp; intro e; exact h (e.symm.trans h1))]
        · rw [List.filter_cons, if_pos (by simpa using h1)]
          by_cases h2 : a.key = k'
          · rw [List.find?_cons_of_pos (by simpa using h2), List.find?_cons_of_pos (by simpa using h2)]
          · rw [List.find?_cons_of_neg (by simpa using h2), List.find?_cons_of_neg (by simpa using h2), ih]
    rw [e]
theorem put_len (l : List TabI.Bk) (k x : Int) : (TabI.putV l k x).length ≤ l.length + 1 := by
  unfold TabI.putV
  rw [List.length_cons]
  have := List.length_filter_le (fun q : TabI.Bk => !(q.key == k)) l
  omega
theorem MRel.on {i : Nat} {lb : List TabI.Bk} {p : PS} (h : MRel i lb p) : MRel (i + 1) lb p := ⟨h.at_, by have := h.len; omega, fun k => by have := h.top k; omega⟩
theorem MRel.put {i : Nat} {lb : List TabI.Bk} {p p' : PS} (h : MRel i lb p) {k : Int} {y : Int} (hv : ∀ k', heldV p'.held k' = if k' = k then y else heldV p.held k') (hy : y ≤ i + 1) : MRel (i + 1) (TabI.putV lb k y) p' := by
  refine ⟨fun k' => ?_, by have := put_len lb k y; have := h.len; omega, fun k' => ?_⟩
  · rw [look_put, hv, h.at_]
  · rw [hv]
    split
    · omega
    · have := h.top k'; omega
theorem held_set {l : List Int} {k : Nat} (hk : k < l.length) (y : Int) (k' : Int) : heldV (l.set k y) k' = if k' = (k : Int) then y else heldV l k' := by
  unfold heldV
  rw [List.length_set]
  by_cases c : 0 ≤ k' ∧ k' < l.length
  · rw [if_pos c, if_pos c, at_set hk]
    by_cases e : k' = (k : Int)
    · rw [if_pos e, if_pos (by omega)]
    · rw [if_neg e, if_neg (by omega)]
  · rw [if_neg c, if_neg c, if_neg (by omega)]
theorem put0 {p : PS} {k : Int} (h : heldV p.held k = 0) : ∀ k', heldV p.held k' = if k' = k then 0 else heldV p.held k' := fun k' => by
  by_cases e : k' = k
  · rw [if_pos e, e, h]
  · rw [if_neg e]
structure AllC (w0 W : World) (g : Nat) (vh v : Value) (p : PS) (b : Nat) (lb : List TabI.Bk) (sb : Nat) (x : Stp.St) : Prop where
  iP : IsP w0 W g vh v p
  mp : TabI.MapIs W b lb
  bl : Below w0.heap.size w0 W
  st : W.heap[sb]? = some (.cells #[.int .u8 x.a0, .int .i64 x.a1] 35 (0, 0))
  gb : w0.heap.size ≤ b
section
variable {w0 W W' : World} {g : Nat} {vh v : Value} {p p' : PS} {b : Nat} {lb lb' : List TabI.Bk} {sb : Nat} {x : Stp.St}
theorem foP_cells (h : IsP w0 W g vh v p) {k : Nat} (hk : FoP g vh v k) : ∃ cs t, W.heap[k]? = some (.cells cs t (0, 0)) := by
  rcases hk with rfl | e | e
  · exact ⟨_, _, h.1.1⟩
  · obtain ⟨cur, hc⟩ := (h.hl.own k e).2.2; exact ⟨_, _, hc⟩
  · obtain ⟨cur, hc⟩ := (h.fl.own k e).2.2; exact ⟨_, _, hc⟩
theorem AllC.bP (h : AllC w0 W g vh v p b lb sb x) : ¬ FoP g vh v b := fun hk => by
  obtain ⟨cs, t, hc⟩ := foP_cells h.iP hk
  exact h.mp.ne hc rfl
theorem AllC.sP (h : AllC w0 W g vh v p b lb sb x) : ¬ FoP g vh v sb := by
  rintro (e | e | e)
  · exact blk_ne h.st h.iP.1.1 (by decide) e
  · exact h.iP.hl.ne h.st (by decide) e.symm
  · exact h.iP.fl.ne h.st (by decide) e.symm
theorem AllC.t (h : AllC w0 W g vh v p b lb sb x) (hp : PostP w0 W g vh v p' W') : ∃ v', AllC w0 W' g vh v' p' b lb sb x := by
  obtain ⟨v', h1, h2, h3, h4⟩ := hp
  exact ⟨v', h1, h.mp.move (h3.2 b h.mp.lt h.bP), h2, (h3.2 sb (blk_lt h.st) h.sP).trans h.st, h.gb⟩
theorem AllC.put (h : AllC w0 W g vh v p b lb sb x) (hm : TabI.MapIs W' b lb') (hg : W.grownBy W' (some b)) : AllC w0 W' g vh v p b lb' sb x :=
  ⟨h.iP.kept (Kept.of_grown (S := fun k => k = b) hg (Kept.refl _ _) (fun k e => .inl (Option.some.inj e).symm)) (fun k hk e => h.bP (e ▸ hk)), hm, pw_below_grown h.bl (some b) h.bl.size hg (fun k hk => by cases hk; exact h.gb), blk_grown h.st hg (by simpa using h.mp.ne h.st), h.gb⟩
theorem AllC.below (h : AllC w0 W g vh v p b lb sb x) (hb : Below W.heap.size W W') : AllC w0 W' g vh v p b lb sb x := ⟨h.iP.below hb, h.mp.below hb, below_step h.bl hb, blk_below h.st hb, h.gb⟩
theorem AllC.drew1 (h : AllC w0 W g vh v p b lb sb x) : AllC w0 W.drew g vh v p b lb sb x := ⟨h.iP.drew 1, h.mp.move rfl, below_drew h.bl, blk_drew h.st, h.gb⟩
end
set_option maxHeartbeats 8000000 in
set_option maxRecDepth 100000 in
theorem counts_no (n : Int) (h : ¬ (1 ≤ n ∧ n ≤ 256)) (A : Option Addr) (cp k : Nat) (w : World) : Calls Try.prog 4 #[.int .i64 n, .slice A k cp] w fun e w' => e = .returned (.bool true) ∧ Below w.heap.size w w' := by
  have HA := Aside0.mk alive_c
  have HM := Aside0.mk h
  have HB := Aside0.mk (Below.refl w.heap.size w)
  clear h
  go_enter Try.func4, Try.ntmps4
  go_wp2_with (first | (go_at_call 6; (with_reducible refine (new_no _ HM.out _).mono ?_); rintro e w9 ⟨rfl, rfl⟩) | (go_at_call 8; (with_reducible refine (HA.out _).mono ?_); rintro e w9 ⟨rfl, hb⟩; have n1_ := Aside0.mk (below_step HB.out hb); clear HB hb; have HB := n1_; clear n1_))
  go_ret
  exact ⟨rfl, HB.out⟩
set_option maxHeartbeats 32000000 in
set_option maxRecDepth 100000 in
theorem counts_ok (m : Nat) (h1 : 1 ≤ m) (h2 : m ≤ 256) (A : Option Addr) (cp : Nat) (l : List Stp.St) (w : World) (hrw : Stp.Row w A l) (hc : l.length ≤ cp) (hmx : l.length ≤ 9223372036854775807) (hk : ∀ x ∈ l, (-9223372036854775808 ≤ x.a1 ∧ x.a1 ≤ 9223372036854775807) ∧ 0 ≤ x.a0 ∧ x.a0 ≤ 255) : Calls Try.prog 4 #[.int .i64 (m : Int), .slice A l.length cp] w fun e w' => e = .returned (.bool true) ∧ Below w.heap.size w w' := by
  have HRW := Aside0.mk hrw
  have HC := Aside0.mk hc; have HMX := Aside0.mk hmx; have HK := Aside0.mk hk
  obtain ⟨L, hL⟩ : ∃ L, min l.length 400 = L := ⟨_, rfl⟩
  have HLQ := Aside0.mk hL
  have HL := Aside0.mk (show L ≤ l.length ∧ L ≤ 400 from by omega)
  have HA := Aside0.mk alive_c
  have HM := Aside0.mk (And.intro h1 h2)
  have HI0 := Aside0.mk (new_ok h1 h2)
  have HB := Aside0.mk (Below.refl w.heap.size w)
  have hmm := @run_makeMap Try.prog
  have hu35 := Try.underlying35
  obtain ⟨i0, hi0, _, hs0, _⟩ := info_parts info35
  clear h1 h2 hrw hc hmx hk hL
  go_enter Try.func4, Try.ntmps4
  go_upto_region 5 with (first | (go_at_call 6; (with_reducible refine (new_c _ m rfl HM.out.1 HM.out.2 _).mono ?_); rintro e w9 ⟨g, vh, v, rfl, hi, hb⟩; have HT := Aside0.mk (hi.of_ HB.out rfl); have n1_ := Aside0.mk (below_step HB.out hb); clear HB hi hb; have HB := n1_; clear n1_))
  have bel := below_alloc (Below.refl w9.heap.size w9) (.map #[] 0)
  have HMP := Aside0.mk (TabI.mapIs_made w9)
  have HGB := Aside0.mk HB.out.size
  have n0_ := Aside0.mk (HT.out.below bel)
  have n1_ := Aside0.mk (below_step HB.out bel)
  clear HT HB bel
  have HT := n0_; have HB := n1_
  clear n0_ n1_
  obtain ⟨wz, hwz⟩ : ∃ wz, World.alloc w9 (.map #[] 0) = wz := ⟨_, rfl⟩
  rw [hwz] at HMP HT HB ⊢
  clear hwz
  generalize w9.heap.size = b at HMP HGB ⊢
  have HR0 := Aside0.mk (show MRel 0 [] (newV m) from by
    have z : ∀ k, heldV (newV m).held k = 0 := fun k => by
      unfold heldV
      split
      · exact at_rep (by have : (newV m).held.length = m := List.length_replicate; omega)
      · rfl
    exact ⟨fun k => (z k).symm, Nat.le_refl _, fun k => by rw [z k]; decide⟩)
  obtain ⟨p0, hp0⟩ : ∃ p0, newV m = p0 := ⟨_, rfl⟩
  have HLEN := Aside0.mk (show p0.held.length = m by rw [← hp0]; exact List.length_replicate)
  rw [hp0] at HT HI0 HR0
  clear hp0
  go_wp2_with (first | (go_at_call 9; (with_reducible refine (Stp.short_c A l.length cp _ HC.out HMX.out _ HLQ.out).mono ?_); rintro e w3 ⟨rfl, rfl⟩))
  go_loopw [37] (fun vi wr => ∃ (i : Nat) (p : PS) (v : Value) (lb : List TabI.Bk), vi = .int .i64 i ∧ Aside0 (i ≤ L) ∧ Aside0 (Ok p) ∧ Aside0 (p.held.length = m) ∧ Aside0 (MRel i lb p) ∧ Aside0 (IsP w wr g vh v p) ∧ Aside0 (TabI.MapIs wr b lb) ∧ Aside0 (Below w.heap.size w wr)) (fun vi _ => (L - intOf vi).toNat)
  case atStart => exact ⟨0, p0, v, [], rfl, ⟨by omega⟩, HI0, HLEN, HR0, HT, HMP, HB⟩
  case round =>
    clear HT HB HI0 HLEN HR0 HMP
    obtain ⟨i, p, v, lb, rfl, HIL, HO, HLN, HRL, HT, HMP, HB⟩ := hrel
    have l1 := HL.out.2
    have l2 := HIL.out
    by_cases hlt : i < L
    · obtain ⟨x, hx⟩ : ∃ x, l[i]? = some x := ⟨_, List.getElem?_eq_getElem (show i < l.length by have := HL.out.1; omega)⟩
      obtain ⟨a, rfl, h0, h1⟩ := HRW.out.cells hx
      have k0 := pw_cell_below HB.out h0; have k1 := pw_cell_below HB.out h1
      clear h0 h1
      obtain ⟨kx2, kx0, kx1⟩ := HK.out x (List.mem_of_getElem? hx)
      have HKX := Aside0.mk kx2
      clear hx kx2
      go_upto_region 8 with (fail)
      obtain ⟨wq, hwq⟩ : ∃ wq, wr.alloc (.cells #[.int .u8 x.a0, .int .i64 x.a1] 35 (0, 0)) = wq := ⟨_, rfl⟩
      have HALL := Aside0.mk (show AllC w wq g vh v p b lb wr.heap.size x from by
        rw [← hwq]
        exact ⟨HT.out.below (below_alloc (Below.refl _ _) _), HMP.out.below (below_alloc (Below.refl _ _) _), below_alloc HB.out _, blk_new wr _, HGB.out⟩)
      rw [hwq]
      clear HT HB HMP k0 k1 hwq
      generalize wr.heap.size = sb at HALL ⊢
      have o := HO.out
      have ln := HLN.out
      have rl := HRL.out
      have HLB := Aside0.mk (show lb.length ≤ 1000000 by have := rl.len; omega)
      have ks := blk_cell HALL.out.st 1; have kd := blk_cell HALL.out.st 0
      clear HO HLN HRL
      obtain ⟨y, hy⟩ : ∃ y, heldV p.held x.a1 = y := ⟨_, rfl⟩
      have yb := held_bd o x.a1
      have yt := rl.top x.a1
      have ya := rl.at_ x.a1
      rw [hy] at yb yt ya
      obtain ⟨z, hz⟩ : ∃ z, TabI.lookV lb x.a1 = (y, z) := ⟨(TabI.lookV lb x.a1).2, by rw [← ya]⟩
      have HLK := Aside0.mk (fun W hM => TabI.look1_run W b lb hM x.a1 HKX.out y z hz)
      have hl := HLK.out _ HALL.out.mp
      clear hz ya
      by_cases hk1 : x.a0 % 4 = 1
      · have hk1' : (x.a0 % 4 == 1) = true := by simp [hk1]
        obtain ⟨r1, p1, he⟩ : ∃ r q, holdV p x.a1 = (r, q) := ⟨_, _, rfl⟩
        obtain ⟨r2, L2, hr⟩ : ∃ r q, dholdV p.held x.a1 = (r, q) := ⟨_, _, rfl⟩
        obtain ⟨-, -, o1, hlen, hcs⟩ := hold_sim o x.a1 he hr
        have H1 := Aside0.mk (fun v' w' h hB => hold_c w g vh v' p o x.a1 r1 p1 he w' h hB)
        rw [ln] at hlen
        have HO1 := Aside0.mk o1; have HLEN := Aside0.mk hlen
        rw [hy] at hcs
        clear he hr hk1
        rcases hcs with ⟨rfl, rfl, rfl⟩ | ⟨_, q, _⟩ | ⟨rfl, q1, q2, q3⟩
        · have HREL := Aside0.mk rl.on
          clear rl o o1 hlen hy
          go_upto_region 17 with (fail)
          have n0_ := Aside0.mk (HALL.out.drew1)
          clear HALL ks hl
          have HALL := n0_
          clear n0_
          have ks := blk_cell HALL.out.st 1
          have hl := HLK.out _ HALL.out.mp
          refine start_ (n := 11) (S := fun w' => w'.cell? ⟨sb, 1, none⟩ = some (.int .i64 x.a1) ∧ (Instr.lookup 50 (.map (some b)) (.int .i64 x.a1) false).run Try.prog w' = .ok (.int .i64 0) w') (ds := []) #[false, false, false, false, false, false, false, false, false, false, false] (by kernel_rfl) rfl rfl ⟨ks, hl⟩ (fun hHeld => ?_)
          refine pure_ (i := 0) (N := some 82) (v := ?_) (a' := ?_) #[true, false, false, false, false, false, false, false, false, false, false] rfl rfl (by kernel_rfl) (fun _ _ _ h => h) (Or.inl ⟨by rfl, ?_⟩) ?_ ?_
          rotate_left
          · intro w'
            go_simp
            with_reducible rfl
          rotate_left
          · simp only [Act.put, List.setIfInBounds_toArray, List.set_cons_zero, List.set_cons_succ, i64_w, i32_w]
            rfl
          refine pure_ (i := 1) (N := some 83) (v := ?_) (a' := ?_) #[true, true, false, false, false, false, false, false, false, false, false] rfl rfl (by kernel_rfl) (fun _ _ _ h => h) (Or.inl ⟨by rfl, ?_⟩) ?_ ?_
          rotate_left
          · intro w'
            go_simp
            with_reducible rfl
          rotate_left
          · simp only [Act.put, List.setIfInBounds_toArray, List.set_cons_zero, List.set_cons_succ, i64_w, i32_w]
            rfl
          refine pure_ (i := 5) (N := some 87) (v := ?_) (a' := ?_) #[true, true, false, false, false, true, false, false, false, false, false] rfl rfl (by kernel_rfl) (fun _ _ _ h => h) (Or.inl ⟨by rfl, ?_⟩) ?_ ?_
          rotate_left
          · intro w'
            go_simp
            with_reducible rfl
          rotate_left
          · simp only [Act.put, List.setIfInBounds_toArray, List.set_cons_zero, List.set_cons_succ, i64_w, i32_w]
            rfl
          refine pure_ (i := 6) (N := some 88) (v := ?_) (a' := ?_) #[true, true, false, false, false, true, true, false, false, false, false] rfl rfl (by kernel_rfl) (fun _ _ _ h => h) (Or.inl ⟨by rfl, ?_⟩) ?_ ?_
          rotate_left
          · intro w'
            go_simp
            with_reducible rfl
          rotate_left
          · simp only [Act.put, List.setIfInBounds_toArray, List.set_cons_zero, List.set_cons_succ, i64_w, i32_w]
            rfl
          refine take_ (i := 2) (N := some 84) (v := ?_) (a' := ?_) #[true, true, true, false, false, true, true, false, false, false, false] rfl rfl (by kernel_rfl) (fun _ _ _ h => h) (Or.inl ⟨by rfl, ?_⟩) hHeld ?_ ?_
          rotate_left
          · rintro w' ⟨s0, s1⟩
            go_simp
            with_reducible rfl
          rotate_left
          · simp only [Act.put, List.setIfInBounds_toArray, List.set_cons_zero, List.set_cons_succ, i64_w, i32_w]
            rfl
          refine take_ (i := 7) (N := some 89) (v := ?_) (a' := ?_) #[true, true, true, false, false, true, true, true, false, false, false] rfl rfl (by kernel_rfl) (fun _ _ _ h => h) (Or.inl ⟨by rfl, ?_⟩) hHeld ?_ ?_
          rotate_left
          · rintro w' ⟨s0, s1⟩
            go_simp
            with_reducible rfl
          rotate_left
          · simp only [Act.put, List.setIfInBounds_toArray, List.set_cons_zero, List.set_cons_succ, i64_w, i32_w]
            rfl
          refine take_ (i := 8) (N := some 90) (v := ?_) (a' := ?_) #[true, true, true, false, false, true, true, true, true, false, false] rfl rfl (by kernel_rfl) (fun _ _ _ h => h) (Or.inl ⟨by rfl, ?_⟩) hHeld ?_ ?_
          rotate_left
          · rintro w' ⟨s0, s1⟩
            go_simp
            with_reducible rfl
          rotate_left
          · simp only [Act.put, List.setIfInBounds_toArray, List.set_cons_zero, List.set_cons_succ, i64_w, i32_w]
            rfl
          refine pure_ (i := 9) (N := some 91) (v := ?_) (a' := ?_) #[true, true, true, false, false, true, true, true, true, true, false] rfl rfl (by kernel_rfl) (fun _ _ _ h => h) (Or.inl ⟨by rfl, ?_⟩) ?_ ?_
          rotate_left
          · intro w'
            go_simp
            with_reducible rfl
          rotate_left
          · simp only [Act.put, List.setIfInBounds_toArray, List.set_cons_zero, List.set_cons_succ, i64_w, i32_w]
            rfl
          refine one_ (i := 3) (N := some 85) #[true, true, true, true, false, true, true, true, true, true, false] rfl rfl (by kernel_rfl) (by decide) (fun K hK => ?_)
          refine goes_ Try.func10 (by kernel_rfl) rfl #[.pointer (some ⟨g, 0, none⟩), .int .i64 x.a1] (by rfl) rfl rfl (by simp only [List.map_toArray, List.map_cons, List.map_nil]; rfl) ?_
          with_reducible refine (H1.out _ _ HALL.out.iP HALL.out.bl).mono ?_
          rintro e w9 ⟨rfl, hp⟩
          refine ⟨_, rfl, ?_⟩
          obtain ⟨v9, hp⟩ := HALL.out.t hp
          have n0_ := Aside0.mk hp
          clear HALL hp
          have HALL := n0_
          clear n0_
          have ks := blk_cell HALL.out.st 1
          have hl := HLK.out _ HALL.out.mp
          refine hK.out _ _ ⟨ks, hl⟩ (fun hHeld => ?_)
          clear hK K
          refine norm_ (a' := ?_) ?_ ?_
          rotate_left
          · show Act.put _ (some 85) _ = _
            simp only [Act.put, List.setIfInBounds_toArray, List.set_cons_zero, List.set_cons_succ, i64_w, i32_w]
            rfl
          refine pure_ (i := 4) (N := some 86) (v := ?_) (a' := ?_) #[true, true, true, true, true, true, true, true, true, true, false] rfl rfl (by kernel_rfl) (fun _ _ _ h => h) (Or.inl ⟨by rfl, ?_⟩) ?_ ?_
          rotate_left
          · intro w'
            go_simp
            with_reducible rfl
          rotate_left
          · simp only [Act.put, List.setIfInBounds_toArray, List.set_cons_zero, List.set_cons_succ, i64_w, i32_w]
            rfl
          refine pure_ (i := 10) (N := some 92) (v := ?_) (a' := ?_) #[true, true, true, true, true, true, true, true, true, true, true] rfl rfl (by kernel_rfl) (fun _ _ _ h => h) (Or.inl ⟨by rfl, ?_⟩) ?_ ?_
          rotate_left
          · intro w'
            go_simp
            with_reducible rfl
          rotate_left
          · simp only [Act.put, List.setIfInBounds_toArray, List.set_cons_zero, List.set_cons_succ, i64_w, i32_w]
            rfl
          refine done_ (by kernel_rfl) ?_
          go_wp2_with fail
          go_roundw
          case rel => exact ⟨i + 1, p1, _, _, by go_num, ⟨by omega⟩, HO1, HLEN, HREL, ⟨HALL.out.iP⟩, ⟨HALL.out.mp⟩, ⟨HALL.out.bl⟩⟩
          case measure => simp [intOf]; omega
        · omega
        · obtain ⟨k, ek, hkl, _⟩ := held_in (l := p.held) (n := x.a1) (by rw [hy]; omega)
          have HREL := Aside0.mk (rl.put (k := x.a1) (y := y + 1) (p' := p1) (fun k' => by rw [q3, ek, Int.toNat_natCast]; exact held_set hkl _ k') (by omega))
          have d1 : decide (0 < y) = true := decide_eq_true q1
          have e2 : wrap64 (y + 1) = y + 1 := Base.w64 (by omega) (by omega)
          clear rl o o1 hlen hy q3 ek hkl
          go_upto_region 17 with (fail)
          have n0_ := Aside0.mk (HALL.out.drew1)
          clear HALL ks hl
          have HALL := n0_
          clear n0_
          have ks := blk_cell HALL.out.st 1
          have hl := HLK.out _ HALL.out.mp
          refine start_ (n := 11) (S := fun w' => w'.cell? ⟨sb, 1, none⟩ = some (.int .i64 x.a1) ∧ (Instr.lookup 50 (.map (some b)) (.int .i64 x.a1) false).run Try.prog w' = .ok (.int .i64 y) w') (ds := []) #[false, false, false, false, false, false, false, false, false, false, false] (by kernel_rfl) rfl rfl ⟨ks, hl⟩ (fun hHeld => ?_)
          refine pure_ (i := 0) (N := some 82) (v := ?_) (a' := ?_) #[true, false, false, false, false, false, false, false, false, false, false] rfl rfl (by kernel_rfl) (fun _ _ _ h => h) (Or.inl ⟨by rfl, ?_⟩) ?_ ?_
          rotate_left
          · intro w'
            go_simp
            with_reducible rfl
          rotate_left
          · simp only [Act.put, List.setIfInBounds_toArray, List.set_cons_zero, List.set_cons_succ, i64_w, i32_w]
            rfl
          refine pure_ (i := 1) (N := some 83) (v := ?_) (a' := ?_) #[true, true, false, false, false, false, false, false, false, false, false] rfl rfl (by kernel_rfl) (fun _ _ _ h => h) (Or.inl ⟨by rfl, ?_⟩) ?_ ?_
          rotate_left
          · intro w'
            go_simp
            with_reducible rfl
          rotate_left
          · simp only [Act.put, List.setIfInBounds_toArray, List.set_cons_zero, List.set_cons_succ, i64_w, i32_w]
            rfl
          refine pure_ (i := 5) (N := some 87) (v := ?_) (a' := ?_) #[true, true, false, false, false, true, false, false, false, false, false] rfl rfl (by kernel_rfl) (fun _ _ _ h => h) (Or.inl ⟨by rfl, ?_⟩) ?_ ?_
          rotate_left
          · intro w'
            go_simp
            with_reducible rfl
          rotate_left
          · simp only [Act.put, List.setIfInBounds_toArray, List.set_cons_zero, List.set_cons_succ, i64_w, i32_w]
            rfl
          refine pure_ (i := 6) (N := some 88) (v := ?_) (a' := ?_) #[true, true, false, false, false, true, true, false, false, false, false] rfl rfl (by kernel_rfl) (fun _ _ _ h => h) (Or.inl ⟨by rfl, ?_⟩) ?_ ?_
          rotate_left
          · intro w'
            go_simp
            with_reducible rfl
          rotate_left
          · simp only [Act.put, List.setIfInBounds_toArray, List.set_cons_zero, List.set_cons_succ, i64_w, i32_w]
            rfl
          refine take_ (i := 2) (N := some 84) (v := ?_) (a' := ?_) #[true, true, true, false, false, true, true, false, false, false, false] rfl rfl (by kernel_rfl) (fun _ _ _ h => h) (Or.inl ⟨by rfl, ?_⟩) hHeld ?_ ?_
          rotate_left
          · rintro w' ⟨s0, s1⟩
            go_simp
            with_reducible rfl
          rotate_left
          · simp only [Act.put, List.setIfInBounds_toArray, List.set_cons_zero, List.set_cons_succ, i64_w, i32_w]
            rfl
          refine take_ (i := 7) (N := some 89) (v := ?_) (a' := ?_) #[true, true, true, false, false, true, true, true, false, false, false] rfl rfl (by kernel_rfl) (fun _ _ _ h => h) (Or.inl ⟨by rfl, ?_⟩) hHeld ?_ ?_
          rotate_left
          · rintro w' ⟨s0, s1⟩
            go_simp
            with_reducible rfl
          rotate_left
          · simp only [Act.put, List.setIfInBounds_toArray, List.set_cons_zero, List.set_cons_succ, i64_w, i32_w]
            rfl
          refine take_ (i := 8) (N := some 90) (v := ?_) (a' := ?_) #[true, true, true, false, false, true, true, true, true, false, false] rfl rfl (by kernel_rfl) (fun _ _ _ h => h) (Or.inl ⟨by rfl, ?_⟩) hHeld ?_ ?_
          rotate_left
          · rintro w' ⟨s0, s1⟩
            go_simp
            with_reducible rfl
          rotate_left
          · simp only [Act.put, List.setIfInBounds_toArray, List.set_cons_zero, List.set_cons_succ, i64_w, i32_w]
            rfl
          refine pure_ (i := 9) (N := some 91) (v := ?_) (a' := ?_) #[true, true, true, false, false, true, true, true, true, true, false] rfl rfl (by kernel_rfl) (fun _ _ _ h => h) (Or.inl ⟨by rfl, ?_⟩) ?_ ?_
          rotate_left
          · intro w'
            go_simp
            with_reducible rfl
          rotate_left
          · simp only [Act.put, List.setIfInBounds_toArray, List.set_cons_zero, List.set_cons_succ, i64_w, i32_w]
            rfl
          refine one_ (i := 3) (N := some 85) #[true, true, true, true, false, true, true, true, true, true, false] rfl rfl (by kernel_rfl) (by decide) (fun K hK => ?_)
          refine goes_ Try.func10 (by kernel_rfl) rfl #[.pointer (some ⟨g, 0, none⟩), .int .i64 x.a1] (by rfl) rfl rfl (by simp only [List.map_toArray, List.map_cons, List.map_nil]; rfl) ?_
          with_reducible refine (H1.out _ _ HALL.out.iP HALL.out.bl).mono ?_
          rintro e w9 ⟨rfl, hp⟩
          refine ⟨_, rfl, ?_⟩
          obtain ⟨v9, hp⟩ := HALL.out.t hp
          have n0_ := Aside0.mk hp
          clear HALL hp
          have HALL := n0_
          clear n0_
          have ks := blk_cell HALL.out.st 1
          have hl := HLK.out _ HALL.out.mp
          refine hK.out _ _ ⟨ks, hl⟩ (fun hHeld => ?_)
          clear hK K
          refine norm_ (a' := ?_) ?_ ?_
          rotate_left
          · show Act.put _ (some 85) _ = _
            simp only [Act.put, List.setIfInBounds_toArray, List.set_cons_zero, List.set_cons_succ, i64_w, i32_w]
            rfl
          refine pure_ (i := 4) (N := some 86) (v := ?_) (a' := ?_) #[true, true, true, true, true, true, true, true, true, true, false] rfl rfl (by kernel_rfl) (fun _ _ _ h => h) (Or.inl ⟨by rfl, ?_⟩) ?_ ?_
          rotate_left
          · intro w'
            go_simp
            with_reducible rfl
          rotate_left
          · simp only [Act.put, List.setIfInBounds_toArray, List.set_cons_zero, List.set_cons_succ, i64_w, i32_w]
            rfl
          refine pure_ (i := 10) (N := some 92) (v := ?_) (a' := ?_) #[true, true, true, true, true, true, true, true, true, true, true] rfl rfl (by kernel_rfl) (fun _ _ _ h => h) (Or.inl ⟨by rfl, ?_⟩) ?_ ?_
          rotate_left
          · intro w'
            go_simp
            with_reducible rfl
          rotate_left
          · simp only [Act.put, List.setIfInBounds_toArray, List.set_cons_zero, List.set_cons_succ, i64_w, i32_w]
            rfl
          refine done_ (by kernel_rfl) ?_
          go_wp2_with (first | (at_mapUpdate; refine TabI.wpList_put rfl _ _ _ rfl b lb HALL.out.mp HLB.out x.a1 (y + 1) HKX.out rfl rfl rfl ?_; intro w9 hm hg; have n0_ := Aside0.mk (HALL.out.put hm hg); clear HALL hm hg; have HALL := n0_; clear n0_))
          go_roundw
          case rel => exact ⟨i + 1, p1, _, _, by go_num, ⟨by omega⟩, HO1, HLEN, HREL, ⟨HALL.out.iP⟩, ⟨HALL.out.mp⟩, ⟨HALL.out.bl⟩⟩
          case measure => simp [intOf]; omega
      · have hk1' : (x.a0 % 4 == 1) = false := by simp [hk1]
        by_cases hk2 : x.a0 % 4 = 2
        · have hk2' : (x.a0 % 4 == 2) = true := by simp [hk2]
          obtain ⟨r1, e1, p1, he⟩ : ∃ r e q, dropV p x.a1 = ((r, e), q) := ⟨_, _, _, rfl⟩
          obtain ⟨r2, e2, L2, hr⟩ : ∃ r e q, ddropV p.held x.a1 = ((r, e), q) := ⟨_, _, _, rfl⟩
          obtain ⟨-, -, -, o1, hlen, hcs⟩ := drop_sim o x.a1 he hr
          have H1 := Aside0.mk (fun v' w' h hB => drop_c w g vh v' p o x.a1 r1 e1 p1 he w' h hB)
          rw [ln] at hlen
          have HO1 := Aside0.mk o1; have HLEN := Aside0.mk hlen
          rw [hy] at hcs
          clear he hr hk1 hk2
          rcases hcs with ⟨rfl, rfl, rfl, rfl⟩ | ⟨rfl, q1, q2, q3⟩
          · have HREL := Aside0.mk (rl.put (put0 hy) (by omega))
            clear rl o o1 hlen hy
            go_wp2_with (first | (go_at_call 12; (with_reducible refine (H1.out _ _ HALL.out.iP HALL.out.bl).mono ?_); rintro e w9 ⟨rfl, hp⟩; obtain ⟨v9, hp⟩ := HALL.out.t hp; have n0_ := Aside0.mk hp; clear HALL hp; have HALL := n0_; clear n0_; have ks := blk_cell HALL.out.st 1; have hl := HLK.out _ HALL.out.mp) | (at_mapUpdate; refine TabI.wpList_put rfl _ _ _ rfl b lb HALL.out.mp HLB.out x.a1 0 HKX.out rfl rfl rfl ?_; intro w9 hm hg; have n0_ := Aside0.mk (HALL.out.put hm hg); clear HALL hm hg; have HALL := n0_; clear n0_))
            go_roundw
            case rel => exact ⟨i + 1, p1, _, _, by go_num, ⟨by omega⟩, HO1, HLEN, HREL, ⟨HALL.out.iP⟩, ⟨HALL.out.mp⟩, ⟨HALL.out.bl⟩⟩
            case measure => simp [intOf]; omega
          · obtain ⟨k, ek, hkl, _⟩ := held_in (l := p.held) (n := x.a1) (by rw [hy]; omega)
            have HREL := Aside0.mk (rl.put (k := x.a1) (y := y - 1) (p' := p1) (fun k' => by rw [q3, ek, Int.toNat_natCast]; exact held_set hkl _ k') (by omega))
            have d1 : decide (0 < y) = true := decide_eq_true q1
            clear rl o o1 hlen hy q3 ek hkl
            by_cases c1 : y = 1
            · subst c1
              have q2' : r1 = true := by rw [q2]; rfl
              subst q2'
              clear q2
              go_wp2_with (first | (go_at_call 12; (with_reducible refine (H1.out _ _ HALL.out.iP HALL.out.bl).mono ?_); rintro e w9 ⟨rfl, hp⟩; obtain ⟨v9, hp⟩ := HALL.out.t hp; have n0_ := Aside0.mk hp; clear HALL hp; have HALL := n0_; clear n0_; have ks := blk_cell HALL.out.st 1; have hl := HLK.out _ HALL.out.mp) | (at_mapUpdate; refine TabI.wpList_put rfl _ _ _ rfl b lb HALL.out.mp HLB.out x.a1 0 HKX.out rfl rfl rfl ?_; intro w9 hm hg; have n0_ := Aside0.mk (HALL.out.put hm hg); clear HALL hm hg; have HALL := n0_; clear n0_))
              go_roundw
              case rel => exact ⟨i + 1, p1, _, _, by go_num, ⟨by omega⟩, HO1, HLEN, HREL, ⟨HALL.out.iP⟩, ⟨HALL.out.mp⟩, ⟨HALL.out.bl⟩⟩
              case measure => simp [intOf]; omega
            · have q2' : r1 = false := by rw [q2]; exact decide_eq_false c1
              subst q2'
              have e3 : (y == 1) = false := by simpa using c1
              have e4 : wrap64 (y - 1) = y - 1 := Base.w64 (by omega) (by omega)
              have d5 : decide (y - 1 < 0) = false := decide_eq_false (by omega)
              have d6 : decide (0 < y - 1) = true := decide_eq_true (by omega)
              have d7 : ¬ y - 1 < 0 := by omega
              have d8 : ¬ y < 1 := by omega
              clear q2 c1
              go_wp2_with (first | (go_at_call 12; (with_reducible refine (H1.out _ _ HALL.out.iP HALL.out.bl).mono ?_); rintro e w9 ⟨rfl, hp⟩; obtain ⟨v9, hp⟩ := HALL.out.t hp; have n0_ := Aside0.mk hp; clear HALL hp; have HALL := n0_; clear n0_; have ks := blk_cell HALL.out.st 1; have hl := HLK.out _ HALL.out.mp) | (at_mapUpdate; refine TabI.wpList_put rfl _ _ _ rfl b lb HALL.out.mp HLB.out x.a1 (y - 1) HKX.out rfl rfl rfl ?_; intro w9 hm hg; have n0_ := Aside0.mk (HALL.out.put hm hg); clear HALL hm hg; have HALL := n0_; clear n0_))
              go_roundw
              case rel => exact ⟨i + 1, p1, _, _, by go_num, ⟨by omega⟩, HO1, HLEN, HREL, ⟨HALL.out.iP⟩, ⟨HALL.out.mp⟩, ⟨HALL.out.bl⟩⟩
              case measure => simp [intOf]; omega
        · have hk2' : (x.a0 % 4 == 2) = false := by simp [hk2]
          obtain ⟨r1, e1, p1, he⟩ : ∃ r e q, takeV p = ((r, e), q) := ⟨_, _, _, rfl⟩
          obtain ⟨r2, e2, L2, hr⟩ : ∃ r e q, dtakeV p.held = ((r, e), q) := ⟨_, _, _, rfl⟩
          obtain ⟨-, -, -, o1, hlen, hcs⟩ := take_sim o he hr
          have H1 := Aside0.mk (fun v' w' h hB => take_c w g vh v' p o r1 e1 p1 he w' h hB)
          rw [ln] at hlen
          have HO1 := Aside0.mk o1; have HLEN := Aside0.mk hlen
          clear he hr hk1 hk2 hl
          rcases hcs with ⟨rfl, k, rfl, hkl, hz, q3⟩ | ⟨rfl, rfl, q3⟩
          · have hv0 : heldV p.held (k : Int) = 0 := by unfold heldV; rw [if_pos (by omega), Int.toNat_natCast]; exact hz
            have hz0 := rl.at_ (k : Int)
            rw [hv0] at hz0
            obtain ⟨z0, hz1⟩ : ∃ z, TabI.lookV lb (k : Int) = (0, z) := ⟨(TabI.lookV lb (k : Int)).2, by rw [← hz0]⟩
            have HKK := Aside0.mk (show -9223372036854775808 ≤ (k : Int) ∧ (k : Int) ≤ 9223372036854775807 by have := o.h2; omega)
            have HLT := Aside0.mk (fun W hM => TabI.look1_run W b lb hM (k : Int) HKK.out 0 z0 hz1)
            have HREL := Aside0.mk (rl.put (k := (k : Int)) (y := 1) (p' := p1) (fun k' => by rw [q3]; exact held_set hkl _ k') (by omega))
            have d1 : decide ((k : Int) < 0) = false := decide_eq_false (by omega)
            have d2 : decide ((m : Int) ≤ (k : Int)) = false := decide_eq_false (by omega)
            have d3 : decide (m ≤ k) = false := decide_eq_false (by omega)
            clear rl o o1 hlen hy hkl hz q3 hv0 hz0 hz1
            go_wp2_with (first | (go_at_call 14; (with_reducible refine (H1.out _ _ HALL.out.iP HALL.out.bl).mono ?_); rintro e w9 ⟨rfl, hp⟩; obtain ⟨v9, hp⟩ := HALL.out.t hp; have n0_ := Aside0.mk hp; clear HALL hp; have HALL := n0_; clear n0_; have hl := HLT.out _ HALL.out.mp) | (at_mapUpdate; refine TabI.wpList_put rfl _ _ _ rfl b lb HALL.out.mp HLB.out (k : Int) 1 HKK.out rfl rfl rfl ?_; intro w9 hm hg; have n0_ := Aside0.mk (HALL.out.put hm hg); clear HALL hm hg; have HALL := n0_; clear n0_))
            go_roundw
            case rel => exact ⟨i + 1, p1, _, _, by go_num, ⟨by omega⟩, HO1, HLEN, HREL, ⟨HALL.out.iP⟩, ⟨HALL.out.mp⟩, ⟨HALL.out.bl⟩⟩
            case measure => simp [intOf]; omega
          · have HREL := Aside0.mk rl.on
            have hca := count_all o
            have hul := used_len p1.held p1.held.length
            have H21 := Aside0.mk (fun v' w' h => free_c w g vh v' p1 o.h1 0 (by rw [q3]; rfl) w' h)
            obtain ⟨lu, hlu⟩ : ∃ lu, usedV p1.held p1.held.length = lu := ⟨_, rfl⟩
            rw [hlu] at hca hul
            rw [q3, ln] at hca
            have H19 := Aside0.mk (show ∀ v' w', IsP w w' g vh v' p1 → Calls Try.prog 19 #[.pointer (some ⟨g, 0, none⟩)] w' fun e w'' => ∃ u, e = .returned u ∧ Ls encI 3 w'' w'.heap.size u lu ∧ Below w'.heap.size w' w'' from fun v' w' h => by rw [← hlu]; exact used_c w g vh v' p1 o.h1 o.h2 w' h)
            have hll : (lu.length : Int) = (m : Int) := by simp at hca; omega
            have e9 : ((lu.length : Int) != (m : Int)) = false := by simpa using hll
            clear rl o o1 hlen hy hca hul hlu q3 hll
            go_upto_region 14 with (first | (go_at_call 14; (with_reducible refine (H1.out _ _ HALL.out.iP HALL.out.bl).mono ?_); rintro e w9 ⟨rfl, hp⟩; obtain ⟨v9, hp⟩ := HALL.out.t hp; have n0_ := Aside0.mk hp; clear HALL hp; have HALL := n0_; clear n0_))
            go_wp2_with (first | (go_at_call 21; (with_reducible refine (H21.out _ _ HALL.out.iP).mono ?_); rintro e w9 ⟨rfl, rfl⟩) | (go_at_call 19; (with_reducible refine (H19.out _ _ HALL.out.iP).mono ?_); rintro e w9 ⟨u3, rfl, hu, hb⟩; have n0_ := Aside0.mk (HALL.out.below hb); clear HALL; have HALL := n0_; clear n0_; obtain ⟨A3, c3, rfl, _, _⟩ := hu.form; clear hu hb))
            go_roundw
            case rel => exact ⟨i + 1, p1, _, _, by go_num, ⟨by omega⟩, HO1, HLEN, HREL, ⟨HALL.out.iP⟩, ⟨HALL.out.mp⟩, ⟨HALL.out.bl⟩⟩
            case measure => simp [intOf]; omega
    · go_wp2_with (first | (go_at_call 8; (with_reducible refine (HA.out _).mono ?_); rintro e w9 ⟨rfl, hb⟩; have n1_ := Aside0.mk (below_step HB.out hb); clear HB hb; have HB := n1_; clear n1_))
      go_ret
      exact ⟨rfl, HB.out⟩
theorem counts_law (n : Int) (A : Option Addr) (cp : Nat) (l : List Stp.St) (w : World) (hrw : Stp.Row w A l) (hc : l.length ≤ cp) (hmx : l.length ≤ 9223372036854775807) (hk : ∀ x ∈ l, (-9223372036854775808 ≤ x.a1 ∧ x.a1 ≤ 9223372036854775807) ∧ 0 ≤ x.a0 ∧ x.a0 ≤ 255) : Calls Try.prog 4 #[.int .i64 n, .slice A l.length cp] w fun e w' => e = .returned (.bool true) ∧ Below w.heap.size w w' := by
  by_cases h : 1 ≤ n ∧ n ≤ 256
  · obtain ⟨m, rfl⟩ : ∃ m : Nat, n = m := ⟨n.toNat, by omega⟩
    exact counts_ok m (by omega) (by omega) A cp l w hrw hc hmx hk
  · exact counts_no n h A cp l.length w
end Go.Proofs.Ytiekmjkeoicjfaa.Pg
