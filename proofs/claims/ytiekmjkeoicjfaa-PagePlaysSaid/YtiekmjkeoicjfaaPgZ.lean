/- PagePlays: a pool answers every call, in every order, as the document says, and has behind each what the document's has; the walk; no condition but that numbers are of their kinds. -/
import Derived.Test.YtiekmjkeoicjfaaPgL
import Derived.Test.YtiekmjkeoicjfaaPAx1
import Derived.Test.YtiekmjkeoicjfaaSteps
namespace Go.Proofs.Ytiekmjkeoicjfaa.Pg
set_option linter.unusedVariables false
set_option linter.unusedSimpArgs false
open Go.RowKit Go.Proofs.Ytiekmjkeoicjfaa.PA Go.Proofs.YtiekmjkeoicjfaaW.PrintWords Go.Proofs.YtiekmjkeoicjfaaW.PrintLast Go.Proofs.YtiekmjkeoicjfaaW.PrintMore Go.Proofs.Ytiekmjkeoicjfaa.Lst Go.Proofs.Ytiekmjkeoicjfaa.Heap
attribute [local go_sem] max2_int min2_int max_two min_two max_three min_three max_four min_four
theorem flat_int (xs : List Int) : xs.flatMap encI.enc = encs (Value.int .i64) xs := by
  induction xs with
  | nil => rfl
  | cons x xs ih => rw [List.flatMap_cons, ih]; rfl
theorem ls_of {w : World} {v : Value} {base : Nat} {xs : List Int} (h : Kd.R (Kd.int .i64) 3 w base (fun _ => True) v xs) : Ls encI 3 w base v xs := by
  have := Kd.own_of_R h
  unfold Ls
  rw [flat_int]
  exact this
theorem nil_form {W : World} {b0 : Nat} {v : Value} (h : Ls encI 3 W b0 v []) : ∃ A c, v = .slice A 0 c := by
  obtain ⟨A, c, e, _, _⟩ := h.form
  exact ⟨A, c, e⟩
theorem rep_form {W : World} {b0 : Nat} {v : Value} {m : Nat} (h : Ls encI 3 W b0 v (List.replicate m 0)) : ∃ A c, v = .slice A m c := by
  obtain ⟨A, c, e, _, _⟩ := h.form
  rw [List.length_replicate] at e
  exact ⟨A, c, e⟩
theorem dnew_c (n : Int) (m : Nat) (hn : n = m) (h1 : 1 ≤ m) (h2 : m ≤ 256) (w : World) : Calls Try.prog 7 #[.int .i64 n] w fun e w' => ∃ v, e = .returned (.tuple #[.agg #[v], .int .i64 0]) ∧ Ls encI 3 w' w.heap.size v (List.replicate m 0) ∧ Below w.heap.size w w' := by
  subst hn
  refine (garboardref13_New.calls _ (List.replicate m 0) 0 w ?_).mono ?_
  · unfold garboardref13_New.f
    rw [if_neg (by omega), if_neg (by omega), if_pos (by omega), if_pos (by omega)]
    simp
  · rintro e w' ⟨v, rfl, hR, hb⟩
    exact ⟨v, rfl, ls_of hR, hb⟩
theorem dnew_no (n : Int) (h : ¬ (1 ≤ n ∧ n ≤ 256)) (w : World) : Calls Try.prog 7 #[.int .i64 n] w fun e w' => ∃ v, e = .returned (.tuple #[.agg #[v], .int .i64 1]) ∧ Ls encI 3 w' w.heap.size v [] ∧ Below w.heap.size w w' := by
  refine (garboardref13_New.calls _ [] 1 w ?_).mono ?_
  · unfold garboardref13_New.f
    (repeat' split) <;> first | rfl | (exfalso; omega)
  · rintro e w' ⟨v, rfl, hR, hb⟩
    exact ⟨v, rfl, ls_of hR, hb⟩
def ApD (g : Nat) (vh v : Value) (gr : Nat) (vr : Value) : Prop := ∀ k, FoP g vh v k → ¬ Fo gr vr k
structure AllZ (w0 W : World) (g : Nat) (vh v : Value) (p : PS) (gr : Nat) (vr : Value) (L : List Int) (sb : Nat) (x : Stp.St) : Prop where
  iP : IsP w0 W g vh v p
  iD : IsD w0 W gr vr L
  bl : Below w0.heap.size w0 W
  st : W.heap[sb]? = some (.cells #[.int .u8 x.a0, .int .i64 x.a1] 35 (0, 0))
  ap : ApD g vh v gr vr
section
variable {w0 W W' : World} {g : Nat} {vh v : Value} {p p' : PS} {gr : Nat} {vr : Value} {L L' : List Int} {sb : Nat} {x : Stp.St}
theorem IsP.fo_lt (h : IsP w0 W g vh v p) {k : Nat} (hk : FoP g vh v k) : k < W.heap.size := by
  rcases hk with rfl | e | e
  · exact h.lt
  · exact (h.hl.own k e).2.1
  · exact (h.fl.own k e).2.1
theorem IsD.fo_lt (h : IsD w0 W gr vr L) {k : Nat} (hk : Fo gr vr k) : k < W.heap.size := by
  rcases hk with rfl | e
  · exact h.lt
  · exact (h.ls.own k e).2.1
theorem AllZ.sbP (h : AllZ w0 W g vh v p gr vr L sb x) : ¬ FoP g vh v sb := by
  rintro (e | e | e)
  · exact blk_ne h.st h.iP.1.1 (by decide) e
  · exact h.iP.hl.ne h.st (by decide) e.symm
  · exact h.iP.fl.ne h.st (by decide) e.symm
theorem AllZ.sbD (h : AllZ w0 W g vh v p gr vr L sb x) : ¬ Fo gr vr sb := by
  rintro (e | e)
  · exact blk_ne h.st h.iD.1 (by decide) e
  · exact h.iD.ls.ne h.st (by decide) e.symm
theorem AllZ.t (h : AllZ w0 W g vh v p gr vr L sb x) (hp : PostP w0 W g vh v p' W') : ∃ v', AllZ w0 W' g vh v' p' gr vr L sb x := by
  obtain ⟨v', h1, h2, h3, h4⟩ := hp
  refine ⟨v', h1, h.iD.kept h3 (fun k hk hk' => h.ap k hk' hk), h2, (h3.2 sb (blk_lt h.st) h.sbP).trans h.st, fun k hk hk' => ?_⟩
  rcases hk with rfl | e | e
  · exact h.ap _ (.inl rfl) hk'
  · exact h.ap _ (.inr (.inl e)) hk'
  · rcases h4 with h4 | ⟨b, h4, hb⟩
    · rw [h4] at e; exact h.ap _ (.inr (.inr e)) hk'
    · rw [h4] at e; cases e
      exact absurd (h.iD.fo_lt hk') (Nat.not_lt.2 hb)
theorem AllZ.d (h : AllZ w0 W g vh v p gr vr L sb x) (hp : PostD w0 W gr vr L' W') : AllZ w0 W' g vh v p gr vr L' sb x :=
  ⟨h.iP.kept hp.2.2 h.ap, hp.1, hp.2.1, (hp.2.2.2 sb (blk_lt h.st) h.sbD).trans h.st, h.ap⟩
theorem AllZ.below (h : AllZ w0 W g vh v p gr vr L sb x) (hb : Below W.heap.size W W') : AllZ w0 W' g vh v p gr vr L sb x := ⟨h.iP.below hb, h.iD.below hb, below_step h.bl hb, blk_below h.st hb, h.ap⟩
theorem AllZ.drew1 (h : AllZ w0 W g vh v p gr vr L sb x) : AllZ w0 W.drew g vh v p gr vr L sb x := ⟨h.iP.drew 1, h.iD.drew 1, below_drew h.bl, blk_drew h.st, h.ap⟩
theorem AllZ.drew (h : AllZ w0 W g vh v p gr vr L sb x) (n : Nat) : AllZ w0 (W.drewN n) g vh v p gr vr L sb x := ⟨h.iP.drew n, h.iD.drew n, pw_below_drewN h.bl n, blk_drewN h.st n, h.ap⟩
end
set_option maxHeartbeats 8000000 in
set_option maxRecDepth 100000 in
theorem plays_no (n : Int) (h : ¬ (1 ≤ n ∧ n ≤ 256)) (A : Option Addr) (cp k : Nat) (w : World) : Calls Try.prog 3 #[.int .i64 n, .slice A k cp] w fun e w' => e = .returned (.bool true) ∧ Below w.heap.size w w' := by
  have HA := Aside0.mk alive_c
  have HM := Aside0.mk h
  have HB := Aside0.mk (Below.refl w.heap.size w)
  have huR := Try.underlying29
  have hzR : ∀ w : World, (zeroValue 29).run Try.prog w = .ok (.agg #[.slice none 0 0]) w := fun w => by kernel_rfl
  clear h
  go_enter Try.func3, Try.ntmps3
  go_upto_region 3 with (first | (go_at_call 6; (with_reducible refine (new_no _ HM.out _).mono ?_); rintro e w9 ⟨rfl, rfl⟩) | (go_at_call 7; (with_reducible refine (dnew_no _ HM.out _).mono ?_); rintro e w9 ⟨vr, rfl, hl, hb⟩; obtain ⟨A9, c9, rfl⟩ := nil_form hl; have n1_ := Aside0.mk (below_step HB.out hb); clear HB hb; have HB := n1_; clear n1_))
  have n1_ := Aside0.mk (below_alloc HB.out (.cells #[.slice A9 0 c9] 29 (0, 0)))
  clear HB
  have HB := n1_
  clear n1_
  go_wp2_with (first | (go_at_call 8; (with_reducible refine (HA.out _).mono ?_); rintro e w9 ⟨rfl, hb⟩; have n1_ := Aside0.mk (below_step HB.out hb); clear HB hb; have HB := n1_; clear n1_))
  go_ret
  exact ⟨rfl, HB.out⟩
set_option maxHeartbeats 32000000 in
set_option maxRecDepth 100000 in
theorem plays_ok (m : Nat) (h1 : 1 ≤ m) (h2 : m ≤ 256) (A : Option Addr) (cp : Nat) (l : List Stp.St) (w : World) (hrw : Stp.Row w A l) (hc : l.length ≤ cp) (hmx : l.length ≤ 9223372036854775807) (hk : ∀ x ∈ l, 0 ≤ x.a0 ∧ x.a0 ≤ 255) : Calls Try.prog 3 #[.int .i64 (m : Int), .slice A l.length cp] w fun e w' => e = .returned (.bool true) ∧ Below w.heap.size w w' := by
  have HRW := Aside0.mk hrw
  have HC := Aside0.mk hc; have HMX := Aside0.mk hmx; have HK := Aside0.mk hk
  obtain ⟨L, hL⟩ : ∃ L, min l.length 400 = L := ⟨_, rfl⟩
  have HLQ := Aside0.mk hL
  have HL := Aside0.mk (show L ≤ l.length ∧ L ≤ 400 from by omega)
  have HA := Aside0.mk alive_c
  have HM := Aside0.mk (And.intro h1 h2)
  have HI0 := Aside0.mk (new_ok h1 h2)
  have HB := Aside0.mk (Below.refl w.heap.size w)
  have huR := Try.underlying29
  have hzR : ∀ w : World, (zeroValue 29).run Try.prog w = .ok (.agg #[.slice none 0 0]) w := fun w => by kernel_rfl
  have hu35 := Try.underlying35
  obtain ⟨i0, hi0, _, hs0, _⟩ := info_parts info35
  clear h1 h2 hrw hc hmx hk hL
  go_enter Try.func3, Try.ntmps3
  go_upto_region 3 with (first | (go_at_call 6; (with_reducible refine (new_c _ m rfl HM.out.1 HM.out.2 _).mono ?_); rintro e w9 ⟨g, vh, v, rfl, hi, hb⟩; have HT := Aside0.mk (hi.of_ HB.out rfl); have n1_ := Aside0.mk (below_step HB.out hb); clear HB hi hb; have HB := n1_; clear n1_) | (go_at_call 7; (with_reducible refine (dnew_c _ m rfl HM.out.1 HM.out.2 _).mono ?_); rintro e w10 ⟨vr, rfl, hl, hb⟩; have HLS := Aside0.mk hl; have HB0 := HB; obtain ⟨A9, c9, rfl⟩ := rep_form hl; have n1_ := Aside0.mk (below_step HB.out hb); have n2_ := Aside0.mk (HT.out.below hb); have HT0 := HT; clear HB HT hb hl; have HB := n1_; have HT := n2_; clear n1_ n2_))
  have bel := below_alloc (Below.refl w10.heap.size w10) (.cells #[.slice A9 m c9] 29 (0, 0))
  have hls := HLS.out
  have HD := Aside0.mk (show IsD w (w10.alloc (.cells #[.slice A9 m c9] 29 (0, 0))) w10.heap.size (.slice A9 m c9) (newV m).held from ⟨blk_new _ _, (HLS.out.lower HB0.out.size).below bel, HB.out.size⟩)
  have HAP := Aside0.mk (show ApD g vh v w10.heap.size (.slice A9 m c9) from fun k hk hk' => by
    have a := HT0.out.fo_lt hk
    rcases hk' with rfl | e
    · exact absurd (HT.out.fo_lt hk) (Nat.lt_irrefl _)
    · exact absurd a (Nat.not_lt.2 (hls.own k e).1))
  have n0_ := Aside0.mk (HT.out.below bel)
  have n1_ := Aside0.mk (below_step HB.out bel)
  clear HT HB HLS HB0 HT0 bel hls
  have HT := n0_; have HB := n1_
  clear n0_ n1_
  obtain ⟨wz, hwz⟩ : ∃ wz, World.alloc w10 (.cells #[.slice A9 m c9] 29 (0, 0)) = wz := ⟨_, rfl⟩
  rw [hwz] at HD HT HB ⊢
  clear hwz
  generalize w10.heap.size = gr at HD HAP ⊢
  generalize Value.slice A9 m c9 = vr at HD HAP
  obtain ⟨p0, hp0⟩ : ∃ p0, newV m = p0 := ⟨_, rfl⟩
  have HLEN := Aside0.mk (show p0.held.length = m by rw [← hp0]; exact List.length_replicate)
  rw [hp0] at HD HT HI0
  clear hp0
  go_wp2_with (first | (go_at_call 9; (with_reducible refine (Stp.short_c A l.length cp _ HC.out HMX.out _ HLQ.out).mono ?_); rintro e w3 ⟨rfl, rfl⟩))
  go_loopw [57] (fun vi wr => ∃ (i : Nat) (p : PS) (v : Value), vi = .int .i64 i ∧ Aside0 (i ≤ L) ∧ Aside0 (Ok p) ∧ Aside0 (p.held.length = m) ∧ Aside0 (IsP w wr g vh v p) ∧ Aside0 (IsD w wr gr vr p.held) ∧ Aside0 (Below w.heap.size w wr) ∧ Aside0 (ApD g vh v gr vr)) (fun vi _ => (L - intOf vi).toNat)
  case atStart => exact ⟨0, p0, v, rfl, ⟨by omega⟩, HI0, HLEN, HT, HD, HB, HAP⟩
  case round =>
    clear HT HB HD HI0 HAP HLEN
    obtain ⟨i, p, v, rfl, HIL, HO, HLN, HT, HD, HB, HAP⟩ := hrel
    have l1 := HL.out.2
    have l2 := HIL.out
    by_cases hlt : i < L
    · obtain ⟨x, hx⟩ : ∃ x, l[i]? = some x := ⟨_, List.getElem?_eq_getElem (show i < l.length by have := HL.out.1; omega)⟩
      obtain ⟨a, rfl, h0, h1⟩ := HRW.out.cells hx
      have k0 := pw_cell_below HB.out h0; have k1 := pw_cell_below HB.out h1
      clear h0 h1
      obtain ⟨kx0, kx1⟩ := HK.out x (List.mem_of_getElem? hx)
      clear hx
      go_upto_region 8 with (fail)
      obtain ⟨wq, hwq⟩ : ∃ wq, wr.alloc (.cells #[.int .u8 x.a0, .int .i64 x.a1] 35 (0, 0)) = wq := ⟨_, rfl⟩
      have HALL := Aside0.mk (show AllZ w wq g vh v p gr vr p.held wr.heap.size x from by
        rw [← hwq]
        exact ⟨HT.out.below (below_alloc (Below.refl _ _) _), HD.out.below (below_alloc (Below.refl _ _) _), below_alloc HB.out _, blk_new wr _, HAP.out⟩)
      rw [hwq]
      clear HT HB HD HAP k0 k1 hwq
      generalize wr.heap.size = sb at HALL ⊢
      have o := HO.out
      have ln := HLN.out
      have ks := blk_cell HALL.out.st 1; have kd := blk_cell HALL.out.st 0
      clear HO HLN
      by_cases hk1 : x.a0 % 4 = 1
      · have hk1' : (x.a0 % 4 == 1) = true := by simp [hk1]
        obtain ⟨r1, p1, he⟩ : ∃ r q, holdV p x.a1 = (r, q) := ⟨_, _, rfl⟩
        obtain ⟨r2, L2, hr⟩ : ∃ r q, dholdV p.held x.a1 = (r, q) := ⟨_, _, rfl⟩
        obtain ⟨rfl, rfl, o1, hlen, _⟩ := hold_sim o x.a1 he hr
        rw [ln] at hlen
        have H1 := Aside0.mk (fun v' w' h hB => hold_c w g vh v' p o x.a1 r1 p1 he w' h hB)
        have H2 := Aside0.mk (fun w' h hB => dhold_c w gr vr p.held o.bd x.a1 r1 p1.held hr w' h hB)
        have fe : (r1 == r1) = true := by simp
        clear he hr o hk1
        obtain ⟨rr, hrr⟩ : ∃ r, heldV p1.held x.a1 = r := ⟨_, rfl⟩
        obtain ⟨lu, hlu⟩ : ∃ lu, usedV p1.held p1.held.length = lu := ⟨_, rfl⟩
        obtain ⟨nf, hnf⟩ : ∃ n, p1.free.length = n := ⟨_, rfl⟩
        have hca := count_all o1
        have hul := used_len p1.held p1.held.length
        rw [hlu] at hca hul
        rw [hnf, hlen] at hca
        rw [hlen] at hul
        have H6 := Aside0.mk (fun v' w' h => held_c w g vh v' p1 x.a1 rr hrr w' h)
        have H9 := Aside0.mk (fun w' h => dheld_c w gr vr p1.held x.a1 rr hrr w' h)
        have H14 := Aside0.mk (show ∀ v' w', IsP w w' g vh v' p1 → Calls Try.prog 19 #[.pointer (some ⟨g, 0, none⟩)] w' fun e w'' => ∃ u, e = .returned u ∧ Ls encI 3 w'' w'.heap.size u lu ∧ Below w'.heap.size w' w'' from fun v' w' h => by rw [← hlu]; exact used_c w g vh v' p1 o1.h1 o1.h2 w' h)
        have H15 := Aside0.mk (show ∀ w', IsD w w' gr vr p1.held → Calls Try.prog 20 #[.pointer (some ⟨gr, 0, none⟩)] w' fun e w'' => ∃ u, e = .returned u ∧ Ls encI 3 w'' w'.heap.size u lu ∧ Below w'.heap.size w' w'' from fun w' h => by rw [← hlu]; exact dused_c w gr vr p1.held o1.h2 w' h)
        have H21 := Aside0.mk (fun v' w' h => free_c w g vh v' p1 o1.h1 nf hnf w' h)
        have hmm := HM.out.2
        have HLU := Aside0.mk (show lu.length ≤ 256 by omega)
        have e9 : wrap64 ((m : Int) - (lu.length : Int)) = (nf : Int) := by rw [← hca]; exact Base.w64 (by omega) (by omega)
        have e9' : (m : Int) - (lu.length : Int) = (nf : Int) := hca.symm
        have fr : (rr != rr) = false := by simp
        have ff9 : ((nf : Int) != (nf : Int)) = false := by simp
        have HO1 := Aside0.mk o1
        have HLEN := Aside0.mk hlen
        clear hrr hlu hnf hca hul o1 hlen hmm e9'
        go_upto_region 14 with (fail)
        have n0_ := Aside0.mk (HALL.out.drew1)
        clear HALL ks
        have HALL := n0_
        clear n0_
        have ks := blk_cell HALL.out.st 1
        refine start_ (n := 9) (S := fun w' => w'.cell? ⟨sb, 1, none⟩ = some (.int .i64 x.a1)) (ds := []) #[false, false, false, false, false, false, false, false, false] (by kernel_rfl) rfl rfl (ks) (fun hHeld => ?_)
        refine pure_ (i := 0) (N := some 83) (v := ?_) (a' := ?_) #[true, false, false, false, false, false, false, false, false] rfl rfl (by kernel_rfl) (fun _ _ _ h => h) (Or.inl ⟨by rfl, ?_⟩) ?_ ?_
        rotate_left
        · intro w'
          go_simp
          with_reducible rfl
        rotate_left
        · simp only [Act.put, List.setIfInBounds_toArray, List.set_cons_zero, List.set_cons_succ, i64_w, i32_w]
          rfl
        refine pure_ (i := 1) (N := some 84) (v := ?_) (a' := ?_) #[true, true, false, false, false, false, false, false, false] rfl rfl (by kernel_rfl) (fun _ _ _ h => h) (Or.inl ⟨by rfl, ?_⟩) ?_ ?_
        rotate_left
        · intro w'
          go_simp
          with_reducible rfl
        rotate_left
        · simp only [Act.put, List.setIfInBounds_toArray, List.set_cons_zero, List.set_cons_succ, i64_w, i32_w]
          rfl
        refine pure_ (i := 4) (N := some 87) (v := ?_) (a' := ?_) #[true, true, false, false, true, false, false, false, false] rfl rfl (by kernel_rfl) (fun _ _ _ h => h) (Or.inl ⟨by rfl, ?_⟩) ?_ ?_
        rotate_left
        · intro w'
          go_simp
          with_reducible rfl
        rotate_left
        · simp only [Act.put, List.setIfInBounds_toArray, List.set_cons_zero, List.set_cons_succ, i64_w, i32_w]
          rfl
        refine take_ (i := 2) (N := some 85) (v := ?_) (a' := ?_) #[true, true, true, false, true, false, false, false, false] rfl rfl (by kernel_rfl) (fun _ _ _ h => h) (Or.inl ⟨by rfl, ?_⟩) hHeld ?_ ?_
        rotate_left
        · intro w' s0
          go_simp
          with_reducible rfl
        rotate_left
        · simp only [Act.put, List.setIfInBounds_toArray, List.set_cons_zero, List.set_cons_succ, i64_w, i32_w]
          rfl
        refine take_ (i := 5) (N := some 88) (v := ?_) (a' := ?_) #[true, true, true, false, true, true, false, false, false] rfl rfl (by kernel_rfl) (fun _ _ _ h => h) (Or.inl ⟨by rfl, ?_⟩) hHeld ?_ ?_
        rotate_left
        · intro w' s0
          go_simp
          with_reducible rfl
        rotate_left
        · simp only [Act.put, List.setIfInBounds_toArray, List.set_cons_zero, List.set_cons_succ, i64_w, i32_w]
          rfl
        refine one_ (i := 3) (N := some 86) #[true, true, true, true, true, true, false, false, false] rfl rfl (by kernel_rfl) (by decide) (fun K hK => ?_)
        refine goes_ Try.func10 (by kernel_rfl) rfl #[.pointer (some ⟨g, 0, none⟩), .int .i64 x.a1] (by rfl) rfl rfl (by simp only [List.map_toArray, List.map_cons, List.map_nil]; rfl) ?_
        with_reducible refine (H1.out _ _ HALL.out.iP HALL.out.bl).mono ?_
        rintro e w9 ⟨rfl, hp⟩
        refine ⟨_, rfl, ?_⟩
        obtain ⟨v9, hp⟩ := HALL.out.t hp
        have n0_ := Aside0.mk hp
        clear HALL hp
        have HALL := n0_
        clear n0_
        have ks := blk_cell HALL.out.st 1
        refine hK.out _ _ (ks) (fun hHeld => ?_)
        clear hK K
        refine norm_ (a' := ?_) ?_ ?_
        rotate_left
        · show Act.put _ (some 86) _ = _
          simp only [Act.put, List.setIfInBounds_toArray, List.set_cons_zero, List.set_cons_succ, i64_w, i32_w]
          rfl
        refine one_ (i := 6) (N := some 89) #[true, true, true, true, true, true, true, false, false] rfl rfl (by kernel_rfl) (by decide) (fun K hK => ?_)
        refine goes_ Try.func11 (by kernel_rfl) rfl #[.pointer (some ⟨gr, 0, none⟩), .int .i64 x.a1] (by rfl) rfl rfl (by simp only [List.map_toArray, List.map_cons, List.map_nil]; rfl) ?_
        with_reducible refine (H2.out _ HALL.out.iD HALL.out.bl).mono ?_
        rintro e w9 ⟨rfl, hp⟩
        refine ⟨_, rfl, ?_⟩
        have n0_ := Aside0.mk (HALL.out.d hp)
        clear HALL hp
        have HALL := n0_
        clear n0_
        have ks := blk_cell HALL.out.st 1
        refine hK.out _ _ (ks) (fun hHeld => ?_)
        clear hK K
        refine norm_ (a' := ?_) ?_ ?_
        rotate_left
        · show Act.put _ (some 89) _ = _
          simp only [Act.put, List.setIfInBounds_toArray, List.set_cons_zero, List.set_cons_succ, i64_w, i32_w]
          rfl
        refine pure_ (i := 7) (N := some 90) (v := ?_) (a' := ?_) #[true, true, true, true, true, true, true, true, false] rfl rfl (by kernel_rfl) (fun _ _ _ h => h) (Or.inl ⟨by rfl, ?_⟩) ?_ ?_
        rotate_left
        · intro w'
          go_simp
          with_reducible rfl
        rotate_left
        · simp only [Act.put, List.setIfInBounds_toArray, List.set_cons_zero, List.set_cons_succ, i64_w, i32_w]
          rfl
        refine pure_ (i := 8) (N := some 11) (v := ?_) (a' := ?_) #[true, true, true, true, true, true, true, true, true] rfl rfl (by kernel_rfl) (fun _ _ _ h => h) (Or.inl ⟨by rfl, ?_⟩) ?_ ?_
        rotate_left
        · intro w'
          go_simp
          with_reducible rfl
        rotate_left
        · simp only [Act.put, List.setIfInBounds_toArray, List.set_cons_zero, List.set_cons_succ, i64_w, i32_w]
          rfl
        refine done_ (by kernel_rfl) ?_
        go_upto_region 19 with (fail)
        have n0_ := Aside0.mk (HALL.out.drew1)
        clear HALL ks
        have HALL := n0_
        clear n0_
        have ks := blk_cell HALL.out.st 1
        refine start_ (n := 28) (S := fun w' => w'.cell? ⟨sb, 1, none⟩ = some (.int .i64 x.a1)) (ds := []) #[false, false, false, false, false, false, false, false, false, false, false, false, false, false, false, false, false, false, false, false, false, false, false, false, false, false, false, false] (by kernel_rfl) rfl rfl (ks) (fun hHeld => ?_)
        refine pure_ (i := 0) (N := some 114) (v := ?_) (a' := ?_) #[true, false, false, false, false, false, false, false, false, false, false, false, false, false, false, false, false, false, false, false, false, false, false, false, false, false, false, false] rfl rfl (by kernel_rfl) (fun _ _ _ h => h) (Or.inl ⟨by rfl, ?_⟩) ?_ ?_
        rotate_left
        · intro w'
          go_simp
          with_reducible rfl
        rotate_left
        · simp only [Act.put, List.setIfInBounds_toArray, List.set_cons_zero, List.set_cons_succ, i64_w, i32_w]
          rfl
        refine pure_ (i := 1) (N := some 115) (v := ?_) (a' := ?_) #[true, true, false, false, false, false, false, false, false, false, false, false, false, false, false, false, false, false, false, false, false, false, false, false, false, false, false, false] rfl rfl (by kernel_rfl) (fun _ _ _ h => h) (Or.inl ⟨by rfl, ?_⟩) ?_ ?_
        rotate_left
        · intro w'
          go_simp
          with_reducible rfl
        rotate_left
        · simp only [Act.put, List.setIfInBounds_toArray, List.set_cons_zero, List.set_cons_succ, i64_w, i32_w]
          rfl
        refine pure_ (i := 2) (N := some 116) (v := ?_) (a' := ?_) #[true, true, true, false, false, false, false, false, false, false, false, false, false, false, false, false, false, false, false, false, false, false, false, false, false, false, false, false] rfl rfl (by kernel_rfl) (fun _ _ _ h => h) (Or.inl ⟨by rfl, ?_⟩) ?_ ?_
        rotate_left
        · intro w'
          go_simp
          with_reducible rfl
        rotate_left
        · simp only [Act.put, List.setIfInBounds_toArray, List.set_cons_zero, List.set_cons_succ, i64_w, i32_w]
          rfl
        refine pure_ (i := 3) (N := some 117) (v := ?_) (a' := ?_) #[true, true, true, true, false, false, false, false, false, false, false, false, false, false, false, false, false, false, false, false, false, false, false, false, false, false, false, false] rfl rfl (by kernel_rfl) (fun _ _ _ h => h) (Or.inl ⟨by rfl, ?_⟩) ?_ ?_
        rotate_left
        · intro w'
          go_simp
          with_reducible rfl
        rotate_left
        · simp only [Act.put, List.setIfInBounds_toArray, List.set_cons_zero, List.set_cons_succ, i64_w, i32_w]
          rfl
        refine pure_ (i := 4) (N := some 118) (v := ?_) (a' := ?_) #[true, true, true, true, true, false, false, false, false, false, false, false, false, false, false, false, false, false, false, false, false, false, false, false, false, false, false, false] rfl rfl (by kernel_rfl) (fun _ _ _ h => h) (Or.inl ⟨by rfl, ?_⟩) ?_ ?_
        rotate_left
        · intro w'
          go_simp
          with_reducible rfl
        rotate_left
        · simp only [Act.put, List.setIfInBounds_toArray, List.set_cons_zero, List.set_cons_succ, i64_w, i32_w]
          rfl
        refine pure_ (i := 7) (N := some 121) (v := ?_) (a' := ?_) #[true, true, true, true, true, false, false, true, false, false, false, false, false, false, false, false, false, false, false, false, false, false, false, false, false, false, false, false] rfl rfl (by kernel_rfl) (fun _ _ _ h => h) (Or.inl ⟨by rfl, ?_⟩) ?_ ?_
        rotate_left
        · intro w'
          go_simp
          with_reducible rfl
        rotate_left
        · simp only [Act.put, List.setIfInBounds_toArray, List.set_cons_zero, List.set_cons_succ, i64_w, i32_w]
          rfl
        refine take_ (i := 5) (N := some 119) (v := ?_) (a' := ?_) #[true, true, true, true, true, true, false, true, false, false, false, false, false, false, false, false, false, false, false, false, false, false, false, false, false, false, false, false] rfl rfl (by kernel_rfl) (fun _ _ _ h => h) (Or.inl ⟨by rfl, ?_⟩) hHeld ?_ ?_
        rotate_left
        · intro w' s0
          go_simp
          with_reducible rfl
        rotate_left
        · simp only [Act.put, List.setIfInBounds_toArray, List.set_cons_zero, List.set_cons_succ, i64_w, i32_w]
          rfl
        refine take_ (i := 8) (N := some 122) (v := ?_) (a' := ?_) #[true, true, true, true, true, true, false, true, true, false, false, false, false, false, false, false, false, false, false, false, false, false, false, false, false, false, false, false] rfl rfl (by kernel_rfl) (fun _ _ _ h => h) (Or.inl ⟨by rfl, ?_⟩) hHeld ?_ ?_
        rotate_left
        · intro w' s0
          go_simp
          with_reducible rfl
        rotate_left
        · simp only [Act.put, List.setIfInBounds_toArray, List.set_cons_zero, List.set_cons_succ, i64_w, i32_w]
          rfl
        refine one_ (i := 6) (N := some 120) #[true, true, true, true, true, true, true, true, true, false, false, false, false, false, false, false, false, false, false, false, false, false, false, false, false, false, false, false] rfl rfl (by kernel_rfl) (by decide) (fun K hK => ?_)
        refine goes_ Try.func16 (by kernel_rfl) rfl #[.pointer (some ⟨g, 0, none⟩), .int .i64 x.a1] (by rfl) rfl rfl (by simp only [List.map_toArray, List.map_cons, List.map_nil]; rfl) ?_
        with_reducible refine (H6.out _ _ HALL.out.iP).mono ?_
        rintro e w9 ⟨rfl, rfl⟩
        refine ⟨_, rfl, ?_⟩
        refine hK.out _ _ (ks) (fun hHeld => ?_)
        clear hK K
        refine norm_ (a' := ?_) ?_ ?_
        rotate_left
        · show Act.put _ (some 120) _ = _
          simp only [Act.put, List.setIfInBounds_toArray, List.set_cons_zero, List.set_cons_succ, i64_w, i32_w]
          rfl
        refine one_ (i := 9) (N := some 123) #[true, true, true, true, true, true, true, true, true, true, false, false, false, false, false, false, false, false, false, false, false, false, false, false, false, false, false, false] rfl rfl (by kernel_rfl) (by decide) (fun K hK => ?_)
        refine goes_ Try.func17 (by kernel_rfl) rfl #[.pointer (some ⟨gr, 0, none⟩), .int .i64 x.a1] (by rfl) rfl rfl (by simp only [List.map_toArray, List.map_cons, List.map_nil]; rfl) ?_
        with_reducible refine (H9.out _ HALL.out.iD).mono ?_
        rintro e w9 ⟨rfl, rfl⟩
        refine ⟨_, rfl, ?_⟩
        refine hK.out _ _ (ks) (fun hHeld => ?_)
        clear hK K
        refine norm_ (a' := ?_) ?_ ?_
        rotate_left
        · show Act.put _ (some 123) _ = _
          simp only [Act.put, List.setIfInBounds_toArray, List.set_cons_zero, List.set_cons_succ, i64_w, i32_w]
          rfl
        refine pure_ (i := 10) (N := some 124) (v := ?_) (a' := ?_) #[true, true, true, true, true, true, true, true, true, true, true, false, false, false, false, false, false, false, false, false, false, false, false, false, false, false, false, false] rfl rfl (by kernel_rfl) (fun _ _ _ h => h) (Or.inl ⟨by rfl, ?_⟩) ?_ ?_
        rotate_left
        · intro w'
          go_simp
          with_reducible rfl
        rotate_left
        · simp only [Act.put, List.setIfInBounds_toArray, List.set_cons_zero, List.set_cons_succ, i64_w, i32_w]
          rfl
        refine pure_ (i := 11) (N := some 125) (v := ?_) (a' := ?_) #[true, true, true, true, true, true, true, true, true, true, true, true, false, false, false, false, false, false, false, false, false, false, false, false, false, false, false, false] rfl rfl (by kernel_rfl) (fun _ _ _ h => h) (Or.inl ⟨by rfl, ?_⟩) ?_ ?_
        rotate_left
        · intro w'
          go_simp
          with_reducible rfl
        rotate_left
        · simp only [Act.put, List.setIfInBounds_toArray, List.set_cons_zero, List.set_cons_succ, i64_w, i32_w]
          rfl
        refine pure_ (i := 12) (N := some 126) (v := ?_) (a' := ?_) #[true, true, true, true, true, true, true, true, true, true, true, true, true, false, false, false, false, false, false, false, false, false, false, false, false, false, false, false] rfl rfl (by kernel_rfl) (fun _ _ _ h => h) (Or.inl ⟨by rfl, ?_⟩) ?_ ?_
        rotate_left
        · intro w'
          go_simp
          with_reducible rfl
        rotate_left
        · simp only [Act.put, List.setIfInBounds_toArray, List.set_cons_zero, List.set_cons_succ, i64_w, i32_w]
          rfl
        refine pure_ (i := 13) (N := some 127) (v := ?_) (a' := ?_) #[true, true, true, true, true, true, true, true, true, true, true, true, true, true, false, false, false, false, false, false, false, false, false, false, false, false, false, false] rfl rfl (by kernel_rfl) (fun _ _ _ h => h) (Or.inl ⟨by rfl, ?_⟩) ?_ ?_
        rotate_left
        · intro w'
          go_simp
          with_reducible rfl
        rotate_left
        · simp only [Act.put, List.setIfInBounds_toArray, List.set_cons_zero, List.set_cons_succ, i64_w, i32_w]
          rfl
        refine one_ (i := 14) (N := some 128) #[true, true, true, true, true, true, true, true, true, true, true, true, true, true, true, false, false, false, false, false, false, false, false, false, false, false, false, false] rfl rfl (by kernel_rfl) (by decide) (fun K hK => ?_)
        refine goes_ Try.func19 (by kernel_rfl) rfl #[.pointer (some ⟨g, 0, none⟩)] (by rfl) rfl rfl (by simp only [List.map_toArray, List.map_cons, List.map_nil]; rfl) ?_
        with_reducible refine (H14.out _ _ HALL.out.iP).mono ?_
        rintro e w9 ⟨u1, rfl, hu, hb⟩
        refine ⟨_, rfl, ?_⟩
        have n0_ := Aside0.mk (HALL.out.below hb)
        clear HALL
        have HALL := n0_
        clear n0_
        have HU1 := Aside0.mk hu
        clear hu hb
        have ks := blk_cell HALL.out.st 1
        refine hK.out _ _ (ks) (fun hHeld => ?_)
        clear hK K
        refine norm_ (a' := ?_) ?_ ?_
        rotate_left
        · show Act.put _ (some 128) _ = _
          simp only [Act.put, List.setIfInBounds_toArray, List.set_cons_zero, List.set_cons_succ, i64_w, i32_w]
          rfl
        refine one_ (i := 15) (N := some 129) #[true, true, true, true, true, true, true, true, true, true, true, true, true, true, true, true, false, false, false, false, false, false, false, false, false, false, false, false] rfl rfl (by kernel_rfl) (by decide) (fun K hK => ?_)
        refine goes_ Try.func20 (by kernel_rfl) rfl #[.pointer (some ⟨gr, 0, none⟩)] (by rfl) rfl rfl (by simp only [List.map_toArray, List.map_cons, List.map_nil]; rfl) ?_
        with_reducible refine (H15.out _ HALL.out.iD).mono ?_
        rintro e w10 ⟨u2, rfl, hu, hb⟩
        refine ⟨_, rfl, ?_⟩
        have n0_ := Aside0.mk (HALL.out.below hb)
        clear HALL
        have HALL := n0_
        clear n0_
        have HU2 := Aside0.mk hu
        have n0_ := Aside0.mk (HU1.out.below hb)
        clear hu hb HU1
        have HU1 := n0_
        clear n0_
        have ks := blk_cell HALL.out.st 1
        refine hK.out _ _ (ks) (fun hHeld => ?_)
        clear hK K
        refine norm_ (a' := ?_) ?_ ?_
        rotate_left
        · show Act.put _ (some 129) _ = _
          simp only [Act.put, List.setIfInBounds_toArray, List.set_cons_zero, List.set_cons_succ, i64_w, i32_w]
          rfl
        refine one_ (i := 16) (N := some 130) #[true, true, true, true, true, true, true, true, true, true, true, true, true, true, true, true, true, false, false, false, false, false, false, false, false, false, false, false] rfl rfl (by kernel_rfl) (by decide) (fun K hK => ?_)
        refine goes_ Try.func18 (by kernel_rfl) rfl #[u1, u2] (by rfl) rfl rfl (by simp only [List.map_toArray, List.map_cons, List.map_nil]; rfl) ?_
        with_reducible refine (same_c _ _ u1 u2 lu HLU.out _ HU1.out HU2.out).mono ?_
        rintro e w9 ⟨rfl, n9, rfl⟩
        refine ⟨_, rfl, ?_⟩
        have n0_ := Aside0.mk (HALL.out.drew n9)
        clear HALL HU1 HU2
        have HALL := n0_
        clear n0_
        have ks := blk_cell HALL.out.st 1
        refine hK.out _ _ (ks) (fun hHeld => ?_)
        clear hK K
        refine norm_ (a' := ?_) ?_ ?_
        rotate_left
        · show Act.put _ (some 130) _ = _
          simp only [Act.put, List.setIfInBounds_toArray, List.set_cons_zero, List.set_cons_succ, i64_w, i32_w]
          rfl
        refine pure_ (i := 17) (N := some 131) (v := ?_) (a' := ?_) #[true, true, true, true, true, true, true, true, true, true, true, true, true, true, true, true, true, true, false, false, false, false, false, false, false, false, false, false] rfl rfl (by kernel_rfl) (fun _ _ _ h => h) (Or.inl ⟨by rfl, ?_⟩) ?_ ?_
        rotate_left
        · intro w'
          go_simp
          with_reducible rfl
        rotate_left
        · simp only [Act.put, List.setIfInBounds_toArray, List.set_cons_zero, List.set_cons_succ, i64_w, i32_w]
          rfl
        refine pure_ (i := 18) (N := some 132) (v := ?_) (a' := ?_) #[true, true, true, true, true, true, true, true, true, true, true, true, true, true, true, true, true, true, true, false, false, false, false, false, false, false, false, false] rfl rfl (by kernel_rfl) (fun _ _ _ h => h) (Or.inl ⟨by rfl, ?_⟩) ?_ ?_
        rotate_left
        · intro w'
          go_simp
          with_reducible rfl
        rotate_left
        · simp only [Act.put, List.setIfInBounds_toArray, List.set_cons_zero, List.set_cons_succ, i64_w, i32_w]
          rfl
        refine pure_ (i := 19) (N := some 133) (v := ?_) (a' := ?_) #[true, true, true, true, true, true, true, true, true, true, true, true, true, true, true, true, true, true, true, true, false, false, false, false, false, false, false, false] rfl rfl (by kernel_rfl) (fun _ _ _ h => h) (Or.inl ⟨by rfl, ?_⟩) ?_ ?_
        rotate_left
        · intro w'
          go_simp
          with_reducible rfl
        rotate_left
        · simp only [Act.put, List.setIfInBounds_toArray, List.set_cons_zero, List.set_cons_succ, i64_w, i32_w]
          rfl
        refine pure_ (i := 20) (N := some 134) (v := ?_) (a' := ?_) #[true, true, true, true, true, true, true, true, true, true, true, true, true, true, true, true, true, true, true, true, true, false, false, false, false, false, false, false] rfl rfl (by kernel_rfl) (fun _ _ _ h => h) (Or.inl ⟨by rfl, ?_⟩) ?_ ?_
        rotate_left
        · intro w'
          go_simp
          with_reducible rfl
        rotate_left
        · simp only [Act.put, List.setIfInBounds_toArray, List.set_cons_zero, List.set_cons_succ, i64_w, i32_w]
          rfl
        refine pure_ (i := 22) (N := some 136) (v := ?_) (a' := ?_) #[true, true, true, true, true, true, true, true, true, true, true, true, true, true, true, true, true, true, true, true, true, false, true, false, false, false, false, false] rfl rfl (by kernel_rfl) (fun _ _ _ h => h) (Or.inl ⟨by rfl, ?_⟩) ?_ ?_
        rotate_left
        · intro w'
          go_simp
          with_reducible rfl
        rotate_left
        · simp only [Act.put, List.setIfInBounds_toArray, List.set_cons_zero, List.set_cons_succ, i64_w, i32_w]
          rfl
        refine one_ (i := 21) (N := some 135) #[true, true, true, true, true, true, true, true, true, true, true, true, true, true, true, true, true, true, true, true, true, true, true, false, false, false, false, false] rfl rfl (by kernel_rfl) (by decide) (fun K hK => ?_)
        refine goes_ Try.func21 (by kernel_rfl) rfl #[.pointer (some ⟨g, 0, none⟩)] (by rfl) rfl rfl (by simp only [List.map_toArray, List.map_cons, List.map_nil]; rfl) ?_
        with_reducible refine (H21.out _ _ HALL.out.iP).mono ?_
        rintro e w11 ⟨rfl, rfl⟩
        refine ⟨_, rfl, ?_⟩
        refine hK.out _ _ (ks) (fun hHeld => ?_)
        clear hK K
        refine norm_ (a' := ?_) ?_ ?_
        rotate_left
        · show Act.put _ (some 135) _ = _
          simp only [Act.put, List.setIfInBounds_toArray, List.set_cons_zero, List.set_cons_succ, i64_w, i32_w]
          rfl
        refine one_ (i := 23) (N := some 137) #[true, true, true, true, true, true, true, true, true, true, true, true, true, true, true, true, true, true, true, true, true, true, true, true, false, false, false, false] rfl rfl (by kernel_rfl) (by decide) (fun K hK => ?_)
        refine goes_ Try.func20 (by kernel_rfl) rfl #[.pointer (some ⟨gr, 0, none⟩)] (by rfl) rfl rfl (by simp only [List.map_toArray, List.map_cons, List.map_nil]; rfl) ?_
        with_reducible refine (H15.out _ HALL.out.iD).mono ?_
        rintro e w12 ⟨u3, rfl, hu, hb⟩
        refine ⟨_, rfl, ?_⟩
        have n0_ := Aside0.mk (HALL.out.below hb)
        clear HALL
        have HALL := n0_
        clear n0_
        obtain ⟨A3, c3, rfl, _, _⟩ := hu.form
        clear hu hb
        have ks := blk_cell HALL.out.st 1
        refine hK.out _ _ (ks) (fun hHeld => ?_)
        clear hK K
        refine norm_ (a' := ?_) ?_ ?_
        rotate_left
        · show Act.put _ (some 137) _ = _
          simp only [Act.put, List.setIfInBounds_toArray, List.set_cons_zero, List.set_cons_succ, i64_w, i32_w]
          rfl
        refine pure_ (i := 24) (N := some 138) (v := ?_) (a' := ?_) #[true, true, true, true, true, true, true, true, true, true, true, true, true, true, true, true, true, true, true, true, true, true, true, true, true, false, false, false] rfl rfl (by kernel_rfl) (fun _ _ _ h => h) (Or.inl ⟨by rfl, ?_⟩) ?_ ?_
        rotate_left
        · intro w'
          go_simp
          with_reducible rfl
        rotate_left
        · simp only [Act.put, List.setIfInBounds_toArray, List.set_cons_zero, List.set_cons_succ, i64_w, i32_w]
          rfl
        refine pure_ (i := 25) (N := some 139) (v := ?_) (a' := ?_) #[true, true, true, true, true, true, true, true, true, true, true, true, true, true, true, true, true, true, true, true, true, true, true, true, true, true, false, false] rfl rfl (by kernel_rfl) (fun _ _ _ h => h) (Or.inl ⟨by rfl, ?_⟩) ?_ ?_
        rotate_left
        · intro w'
          go_simp
          with_reducible rfl
        rotate_left
        · simp only [Act.put, List.setIfInBounds_toArray, List.set_cons_zero, List.set_cons_succ, i64_w, i32_w]
          rfl
        refine pure_ (i := 26) (N := some 140) (v := ?_) (a' := ?_) #[true, true, true, true, true, true, true, true, true, true, true, true, true, true, true, true, true, true, true, true, true, true, true, true, true, true, true, false] rfl rfl (by kernel_rfl) (fun _ _ _ h => h) (Or.inl ⟨by rfl, ?_⟩) ?_ ?_
        rotate_left
        · intro w'
          go_simp
          with_reducible rfl
        rotate_left
        · simp only [Act.put, List.setIfInBounds_toArray, List.set_cons_zero, List.set_cons_succ, i64_w, i32_w]
          rfl
        refine pure_ (i := 27) (N := some 141) (v := ?_) (a' := ?_) #[true, true, true, true, true, true, true, true, true, true, true, true, true, true, true, true, true, true, true, true, true, true, true, true, true, true, true, true] rfl rfl (by kernel_rfl) (fun _ _ _ h => h) (Or.inl ⟨by rfl, ?_⟩) ?_ ?_
        rotate_left
        · intro w'
          go_simp
          with_reducible rfl
        rotate_left
        · simp only [Act.put, List.setIfInBounds_toArray, List.set_cons_zero, List.set_cons_succ, i64_w, i32_w]
          rfl
        refine done_ (by kernel_rfl) ?_
        go_wp2_with fail
        go_roundw
        case rel => exact ⟨i + 1, p1, _, by go_num, ⟨by omega⟩, HO1, HLEN, ⟨HALL.out.iP⟩, ⟨HALL.out.iD⟩, ⟨HALL.out.bl⟩, ⟨HALL.out.ap⟩⟩
        case measure => simp [intOf]; omega
      · have hk1' : (x.a0 % 4 == 1) = false := by simp [hk1]
        by_cases hk2 : x.a0 % 4 = 2
        · have hk2' : (x.a0 % 4 == 2) = true := by simp [hk2]
          obtain ⟨r1, e1, p1, he⟩ : ∃ r e q, dropV p x.a1 = ((r, e), q) := ⟨_, _, _, rfl⟩
          obtain ⟨r2, e2, L2, hr⟩ : ∃ r e q, ddropV p.held x.a1 = ((r, e), q) := ⟨_, _, _, rfl⟩
          obtain ⟨rfl, rfl, rfl, o1, hlen, _⟩ := drop_sim o x.a1 he hr
          rw [ln] at hlen
          have H1 := Aside0.mk (fun v' w' h hB => drop_c w g vh v' p o x.a1 r1 e1 p1 he w' h hB)
          have H2 := Aside0.mk (fun w' h hB => ddrop_c w gr vr p.held o.bd x.a1 r1 e1 p1.held hr w' h hB)
          have fe : (r1 == r1) = true := by simp
          have ff : (e1 == e1) = true := by simp
          clear he hr o hk1 hk2
          obtain ⟨rr, hrr⟩ : ∃ r, heldV p1.held x.a1 = r := ⟨_, rfl⟩
          obtain ⟨lu, hlu⟩ : ∃ lu, usedV p1.held p1.held.length = lu := ⟨_, rfl⟩
          obtain ⟨nf, hnf⟩ : ∃ n, p1.free.length = n := ⟨_, rfl⟩
          have hca := count_all o1
          have hul := used_len p1.held p1.held.length
          rw [hlu] at hca hul
          rw [hnf, hlen] at hca
          rw [hlen] at hul
          have H6 := Aside0.mk (fun v' w' h => held_c w g vh v' p1 x.a1 rr hrr w' h)
          have H9 := Aside0.mk (fun w' h => dheld_c w gr vr p1.held x.a1 rr hrr w' h)
          have H14 := Aside0.mk (show ∀ v' w', IsP w w' g vh v' p1 → Calls Try.prog 19 #[.pointer (some ⟨g, 0, none⟩)] w' fun e w'' => ∃ u, e = .returned u ∧ Ls encI 3 w'' w'.heap.size u lu ∧ Below w'.heap.size w' w'' from fun v' w' h => by rw [← hlu]; exact used_c w g vh v' p1 o1.h1 o1.h2 w' h)
          have H15 := Aside0.mk (show ∀ w', IsD w w' gr vr p1.held → Calls Try.prog 20 #[.pointer (some ⟨gr, 0, none⟩)] w' fun e w'' => ∃ u, e = .returned u ∧ Ls encI 3 w'' w'.heap.size u lu ∧ Below w'.heap.size w' w'' from fun w' h => by rw [← hlu]; exact dused_c w gr vr p1.held o1.h2 w' h)
          have H21 := Aside0.mk (fun v' w' h => free_c w g vh v' p1 o1.h1 nf hnf w' h)
          have hmm := HM.out.2
          have HLU := Aside0.mk (show lu.length ≤ 256 by omega)
          have e9 : wrap64 ((m : Int) - (lu.length : Int)) = (nf : Int) := by rw [← hca]; exact Base.w64 (by omega) (by omega)
          have e9' : (m : Int) - (lu.length : Int) = (nf : Int) := hca.symm
          have fr : (rr != rr) = false := by simp
          have ff9 : ((nf : Int) != (nf : Int)) = false := by simp
          have HO1 := Aside0.mk o1
          have HLEN := Aside0.mk hlen
          clear hrr hlu hnf hca hul o1 hlen hmm e9'
          go_upto_region 19 with (first | (go_at_call 12; (with_reducible refine (H1.out _ _ HALL.out.iP HALL.out.bl).mono ?_); rintro e w9 ⟨rfl, hp⟩; obtain ⟨v9, hp⟩ := HALL.out.t hp; have n0_ := Aside0.mk hp; clear HALL hp; have HALL := n0_; clear n0_; have ks := blk_cell HALL.out.st 1) | (go_at_call 13; (with_reducible refine (H2.out _ HALL.out.iD HALL.out.bl).mono ?_); rintro e w9 ⟨rfl, hp⟩; have n0_ := Aside0.mk (HALL.out.d hp); clear HALL hp; have HALL := n0_; clear n0_; have ks := blk_cell HALL.out.st 1))
          have n0_ := Aside0.mk (HALL.out.drew1)
          clear HALL ks
          have HALL := n0_
          clear n0_
          have ks := blk_cell HALL.out.st 1
          refine start_ (n := 28) (S := fun w' => w'.cell? ⟨sb, 1, none⟩ = some (.int .i64 x.a1)) (ds := []) #[false, false, false, false, false, false, false, false, false, false, false, false, false, false, false, false, false, false, false, false, false, false, false, false, false, false, false, false] (by kernel_rfl) rfl rfl (ks) (fun hHeld => ?_)
          refine pure_ (i := 0) (N := some 114) (v := ?_) (a' := ?_) #[true, false, false, false, false, false, false, false, false, false, false, false, false, false, false, false, false, false, false, false, false, false, false, false, false, false, false, false] rfl rfl (by kernel_rfl) (fun _ _ _ h => h) (Or.inl ⟨by rfl, ?_⟩) ?_ ?_
          rotate_left
          · intro w'
            go_simp
            with_reducible rfl
          rotate_left
          · simp only [Act.put, List.setIfInBounds_toArray, List.set_cons_zero, List.set_cons_succ, i64_w, i32_w]
            rfl
          refine pure_ (i := 1) (N := some 115) (v := ?_) (a' := ?_) #[true, true, false, false, false, false, false, false, false, false, false, false, false, false, false, false, false, false, false, false, false, false, false, false, false, false, false, false] rfl rfl (by kernel_rfl) (fun _ _ _ h => h) (Or.inl ⟨by rfl, ?_⟩) ?_ ?_
          rotate_left
          · intro w'
            go_simp
            with_reducible rfl
          rotate_left
          · simp only [Act.put, List.setIfInBounds_toArray, List.set_cons_zero, List.set_cons_succ, i64_w, i32_w]
            rfl
          refine pure_ (i := 2) (N := some 116) (v := ?_) (a' := ?_) #[true, true, true, false, false, false, false, false, false, false, false, false, false, false, false, false, false, false, false, false, false, false, false, false, false, false, false, false] rfl rfl (by kernel_rfl) (fun _ _ _ h => h) (Or.inl ⟨by rfl, ?_⟩) ?_ ?_
          rotate_left
          · intro w'
            go_simp
            with_reducible rfl
          rotate_left
          · simp only [Act.put, List.setIfInBounds_toArray, List.set_cons_zero, List.set_cons_succ, i64_w, i32_w]
            rfl
          refine pure_ (i := 3) (N := some 117) (v := ?_) (a' := ?_) #[true, true, true, true, false, false, false, false, false, false, false, false, false, false, false, false, false, false, false, false, false, false, false, false, false, false, false, false] rfl rfl (by kernel_rfl) (fun _ _ _ h => h) (Or.inl ⟨by rfl, ?_⟩) ?_ ?_
          rotate_left
          · intro w'
            go_simp
            with_reducible rfl
          rotate_left
          · simp only [Act.put, List.setIfInBounds_toArray, List.set_cons_zero, List.set_cons_succ, i64_w, i32_w]
            rfl
          refine pure_ (i := 4) (N := some 118) (v := ?_) (a' := ?_) #[true, true, true, true, true, false, false, false, false, false, false, false, false, false, false, false, false, false, false, false, false, false, false, false, false, false, false, false] rfl rfl (by kernel_rfl) (fun _ _ _ h => h) (Or.inl ⟨by rfl, ?_⟩) ?_ ?_
          rotate_left
          · intro w'
            go_simp
            with_reducible rfl
          rotate_left
          · simp only [Act.put, List.setIfInBounds_toArray, List.set_cons_zero, List.set_cons_succ, i64_w, i32_w]
            rfl
          refine pure_ (i := 7) (N := some 121) (v := ?_) (a' := ?_) #[true, true, true, true, true, false, false, true, false, false, false, false, false, false, false, false, false, false, false, false, false, false, false, false, false, false, false, false] rfl rfl (by kernel_rfl) (fun _ _ _ h => h) (Or.inl ⟨by rfl, ?_⟩) ?_ ?_
          rotate_left
          · intro w'
            go_simp
            with_reducible rfl
          rotate_left
          · simp only [Act.put, List.setIfInBounds_toArray, List.set_cons_zero, List.set_cons_succ, i64_w, i32_w]
            rfl
          refine take_ (i := 5) (N := some 119) (v := ?_) (a' := ?_) #[true, true, true, true, true, true, false, true, false, false, false, false, false, false, false, false, false, false, false, false, false, false, false, false, false, false, false, false] rfl rfl (by kernel_rfl) (fun _ _ _ h => h) (Or.inl ⟨by rfl, ?_⟩) hHeld ?_ ?_
          rotate_left
          · intro w' s0
            go_simp
            with_reducible rfl
          rotate_left
          · simp only [Act.put, List.setIfInBounds_toArray, List.set_cons_zero, List.set_cons_succ, i64_w, i32_w]
            rfl
          refine take_ (i := 8) (N := some 122) (v := ?_) (a' := ?_) #[true, true, true, true, true, true, false, true, true, false, false, false, false, false, false, false, false, false, false, false, false, false, false, false, false, false, false, false] rfl rfl (by kernel_rfl) (fun _ _ _ h => h) (Or.inl ⟨by rfl, ?_⟩) hHeld ?_ ?_
          rotate_left
          · intro w' s0
            go_simp
            with_reducible rfl
          rotate_left
          · simp only [Act.put, List.setIfInBounds_toArray, List.set_cons_zero, List.set_cons_succ, i64_w, i32_w]
            rfl
          refine one_ (i := 6) (N := some 120) #[true, true, true, true, true, true, true, true, true, false, false, false, false, false, false, false, false, false, false, false, false, false, false, false, false, false, false, false] rfl rfl (by kernel_rfl) (by decide) (fun K hK => ?_)
          refine goes_ Try.func16 (by kernel_rfl) rfl #[.pointer (some ⟨g, 0, none⟩), .int .i64 x.a1] (by rfl) rfl rfl (by simp only [List.map_toArray, List.map_cons, List.map_nil]; rfl) ?_
          with_reducible refine (H6.out _ _ HALL.out.iP).mono ?_
          rintro e w9 ⟨rfl, rfl⟩
          refine ⟨_, rfl, ?_⟩
          refine hK.out _ _ (ks) (fun hHeld => ?_)
          clear hK K
          refine norm_ (a' := ?_) ?_ ?_
          rotate_left
          · show Act.put _ (some 120) _ = _
            simp only [Act.put, List.setIfInBounds_toArray, List.set_cons_zero, List.set_cons_succ, i64_w, i32_w]
            rfl
          refine one_ (i := 9) (N := some 123) #[true, true, true, true, true, true, true, true, true, true, false, false, false, false, false, false, false, false, false, false, false, false, false, false, false, false, false, false] rfl rfl (by kernel_rfl) (by decide) (fun K hK => ?_)
          refine goes_ Try.func17 (by kernel_rfl) rfl #[.pointer (some ⟨gr, 0, none⟩), .int .i64 x.a1] (by rfl) rfl rfl (by simp only [List.map_toArray, List.map_cons, List.map_nil]; rfl) ?_
          with_reducible refine (H9.out _ HALL.out.iD).mono ?_
          rintro e w9 ⟨rfl, rfl⟩
          refine ⟨_, rfl, ?_⟩
          refine hK.out _ _ (ks) (fun hHeld => ?_)
          clear hK K
          refine norm_ (a' := ?_) ?_ ?_
          rotate_left
          · show Act.put _ (some 123) _ = _
            simp only [Act.put, List.setIfInBounds_toArray, List.set_cons_zero, List.set_cons_succ, i64_w, i32_w]
            rfl
          refine pure_ (i := 10) (N := some 124) (v := ?_) (a' := ?_) #[true, true, true, true, true, true, true, true, true, true, true, false, false, false, false, false, false, false, false, false, false, false, false, false, false, false, false, false] rfl rfl (by kernel_rfl) (fun _ _ _ h => h) (Or.inl ⟨by rfl, ?_⟩) ?_ ?_
          rotate_left
          · intro w'
            go_simp
            with_reducible rfl
          rotate_left
          · simp only [Act.put, List.setIfInBounds_toArray, List.set_cons_zero, List.set_cons_succ, i64_w, i32_w]
            rfl
          refine pure_ (i := 11) (N := some 125) (v := ?_) (a' := ?_) #[true, true, true, true, true, true, true, true, true, true, true, true, false, false, false, false, false, false, false, false, false, false, false, false, false, false, false, false] rfl rfl (by kernel_rfl) (fun _ _ _ h => h) (Or.inl ⟨by rfl, ?_⟩) ?_ ?_
          rotate_left
          · intro w'
            go_simp
            with_reducible rfl
          rotate_left
          · simp only [Act.put, List.setIfInBounds_toArray, List.set_cons_zero, List.set_cons_succ, i64_w, i32_w]
            rfl
          refine pure_ (i := 12) (N := some 126) (v := ?_) (a' := ?_) #[true, true, true, true, true, true, true, true, true, true, true, true, true, false, false, false, false, false, false, false, false, false, false, false, false, false, false, false] rfl rfl (by kernel_rfl) (fun _ _ _ h => h) (Or.inl ⟨by rfl, ?_⟩) ?_ ?_
          rotate_left
          · intro w'
            go_simp
            with_reducible rfl
          rotate_left
          · simp only [Act.put, List.setIfInBounds_toArray, List.set_cons_zero, List.set_cons_succ, i64_w, i32_w]
            rfl
          refine pure_ (i := 13) (N := some 127) (v := ?_) (a' := ?_) #[true, true, true, true, true, true, true, true, true, true, true, true, true, true, false, false, false, false, false, false, false, false, false, false, false, false, false, false] rfl rfl (by kernel_rfl) (fun _ _ _ h => h) (Or.inl ⟨by rfl, ?_⟩) ?_ ?_
          rotate_left
          · intro w'
            go_simp
            with_reducible rfl
          rotate_left
          · simp only [Act.put, List.setIfInBounds_toArray, List.set_cons_zero, List.set_cons_succ, i64_w, i32_w]
            rfl
          refine one_ (i := 14) (N := some 128) #[true, true, true, true, true, true, true, true, true, true, true, true, true, true, true, false, false, false, false, false, false, false, false, false, false, false, false, false] rfl rfl (by kernel_rfl) (by decide) (fun K hK => ?_)
          refine goes_ Try.func19 (by kernel_rfl) rfl #[.pointer (some ⟨g, 0, none⟩)] (by rfl) rfl rfl (by simp only [List.map_toArray, List.map_cons, List.map_nil]; rfl) ?_
          with_reducible refine (H14.out _ _ HALL.out.iP).mono ?_
          rintro e w9 ⟨u1, rfl, hu, hb⟩
          refine ⟨_, rfl, ?_⟩
          have n0_ := Aside0.mk (HALL.out.below hb)
          clear HALL
          have HALL := n0_
          clear n0_
          have HU1 := Aside0.mk hu
          clear hu hb
          have ks := blk_cell HALL.out.st 1
          refine hK.out _ _ (ks) (fun hHeld => ?_)
          clear hK K
          refine norm_ (a' := ?_) ?_ ?_
          rotate_left
          · show Act.put _ (some 128) _ = _
            simp only [Act.put, List.setIfInBounds_toArray, List.set_cons_zero, List.set_cons_succ, i64_w, i32_w]
            rfl
          refine one_ (i := 15) (N := some 129) #[true, true, true, true, true, true, true, true, true, true, true, true, true, true, true, true, false, false, false, false, false, false, false, false, false, false, false, false] rfl rfl (by kernel_rfl) (by decide) (fun K hK => ?_)
          refine goes_ Try.func20 (by kernel_rfl) rfl #[.pointer (some ⟨gr, 0, none⟩)] (by rfl) rfl rfl (by simp only [List.map_toArray, List.map_cons, List.map_nil]; rfl) ?_
          with_reducible refine (H15.out _ HALL.out.iD).mono ?_
          rintro e w10 ⟨u2, rfl, hu, hb⟩
          refine ⟨_, rfl, ?_⟩
          have n0_ := Aside0.mk (HALL.out.below hb)
          clear HALL
          have HALL := n0_
          clear n0_
          have HU2 := Aside0.mk hu
          have n0_ := Aside0.mk (HU1.out.below hb)
          clear hu hb HU1
          have HU1 := n0_
          clear n0_
          have ks := blk_cell HALL.out.st 1
          refine hK.out _ _ (ks) (fun hHeld => ?_)
          clear hK K
          refine norm_ (a' := ?_) ?_ ?_
          rotate_left
          · show Act.put _ (some 129) _ = _
            simp only [Act.put, List.setIfInBounds_toArray, List.set_cons_zero, List.set_cons_succ, i64_w, i32_w]
            rfl
          refine one_ (i := 16) (N := some 130) #[true, true, true, true, true, true, true, true, true, true, true, true, true, true, true, true, true, false, false, false, false, false, false, false, false, false, false, false] rfl rfl (by kernel_rfl) (by decide) (fun K hK => ?_)
          refine goes_ Try.func18 (by kernel_rfl) rfl #[u1, u2] (by rfl) rfl rfl (by simp only [List.map_toArray, List.map_cons, List.map_nil]; rfl) ?_
          with_reducible refine (same_c _ _ u1 u2 lu HLU.out _ HU1.out HU2.out).mono ?_
          rintro e w9 ⟨rfl, n9, rfl⟩
          refine ⟨_, rfl, ?_⟩
          have n0_ := Aside0.mk (HALL.out.drew n9)
          clear HALL HU1 HU2
          have HALL := n0_
          clear n0_
          have ks := blk_cell HALL.out.st 1
          refine hK.out _ _ (ks) (fun hHeld => ?_)
          clear hK K
          refine norm_ (a' := ?_) ?_ ?_
          rotate_left
          · show Act.put _ (some 130) _ = _
            simp only [Act.put, List.setIfInBounds_toArray, List.set_cons_zero, List.set_cons_succ, i64_w, i32_w]
            rfl
          refine pure_ (i := 17) (N := some 131) (v := ?_) (a' := ?_) #[true, true, true, true, true, true, true, true, true, true, true, true, true, true, true, true, true, true, false, false, false, false, false, false, false, false, false, false] rfl rfl (by kernel_rfl) (fun _ _ _ h => h) (Or.inl ⟨by rfl, ?_⟩) ?_ ?_
          rotate_left
          · intro w'
            go_simp
            with_reducible rfl
          rotate_left
          · simp only [Act.put, List.setIfInBounds_toArray, List.set_cons_zero, List.set_cons_succ, i64_w, i32_w]
            rfl
          refine pure_ (i := 18) (N := some 132) (v := ?_) (a' := ?_) #[true, true, true, true, true, true, true, true, true, true, true, true, true, true, true, true, true, true, true, false, false, false, false, false, false, false, false, false] rfl rfl (by kernel_rfl) (fun _ _ _ h => h) (Or.inl ⟨by rfl, ?_⟩) ?_ ?_
          rotate_left
          · intro w'
            go_simp
            with_reducible rfl
          rotate_left
          · simp only [Act.put, List.setIfInBounds_toArray, List.set_cons_zero, List.set_cons_succ, i64_w, i32_w]
            rfl
          refine pure_ (i := 19) (N := some 133) (v := ?_) (a' := ?_) #[true, true, true, true, true, true, true, true, true, true, true, true, true, true, true, true, true, true, true, true, false, false, false, false, false, false, false, false] rfl rfl (by kernel_rfl) (fun _ _ _ h => h) (Or.inl ⟨by rfl, ?_⟩) ?_ ?_
          rotate_left
          · intro w'
            go_simp
            with_reducible rfl
          rotate_left
          · simp only [Act.put, List.setIfInBounds_toArray, List.set_cons_zero, List.set_cons_succ, i64_w, i32_w]
            rfl
          refine pure_ (i := 20) (N := some 134) (v := ?_) (a' := ?_) #[true, true, true, true, true, true, true, true, true, true, true, true, true, true, true, true, true, true, true, true, true, false, false, false, false, false, false, false] rfl rfl (by kernel_rfl) (fun _ _ _ h => h) (Or.inl ⟨by rfl, ?_⟩) ?_ ?_
          rotate_left
          · intro w'
            go_simp
            with_reducible rfl
          rotate_left
          · simp only [Act.put, List.setIfInBounds_toArray, List.set_cons_zero, List.set_cons_succ, i64_w, i32_w]
            rfl
          refine pure_ (i := 22) (N := some 136) (v := ?_) (a' := ?_) #[true, true, true, true, true, true, true, true, true, true, true, true, true, true, true, true, true, true, true, true, true, false, true, false, false, false, false, false] rfl rfl (by kernel_rfl) (fun _ _ _ h => h) (Or.inl ⟨by rfl, ?_⟩) ?_ ?_
          rotate_left
          · intro w'
            go_simp
            with_reducible rfl
          rotate_left
          · simp only [Act.put, List.setIfInBounds_toArray, List.set_cons_zero, List.set_cons_succ, i64_w, i32_w]
            rfl
          refine one_ (i := 21) (N := some 135) #[true, true, true, true, true, true, true, true, true, true, true, true, true, true, true, true, true, true, true, true, true, true, true, false, false, false, false, false] rfl rfl (by kernel_rfl) (by decide) (fun K hK => ?_)
          refine goes_ Try.func21 (by kernel_rfl) rfl #[.pointer (some ⟨g, 0, none⟩)] (by rfl) rfl rfl (by simp only [List.map_toArray, List.map_cons, List.map_nil]; rfl) ?_
          with_reducible refine (H21.out _ _ HALL.out.iP).mono ?_
          rintro e w11 ⟨rfl, rfl⟩
          refine ⟨_, rfl, ?_⟩
          refine hK.out _ _ (ks) (fun hHeld => ?_)
          clear hK K
          refine norm_ (a' := ?_) ?_ ?_
          rotate_left
          · show Act.put _ (some 135) _ = _
            simp only [Act.put, List.setIfInBounds_toArray, List.set_cons_zero, List.set_cons_succ, i64_w, i32_w]
            rfl
          refine one_ (i := 23) (N := some 137) #[true, true, true, true, true, true, true, true, true, true, true, true, true, true, true, true, true, true, true, true, true, true, true, true, false, false, false, false] rfl rfl (by kernel_rfl) (by decide) (fun K hK => ?_)
          refine goes_ Try.func20 (by kernel_rfl) rfl #[.pointer (some ⟨gr, 0, none⟩)] (by rfl) rfl rfl (by simp only [List.map_toArray, List.map_cons, List.map_nil]; rfl) ?_
          with_reducible refine (H15.out _ HALL.out.iD).mono ?_
          rintro e w12 ⟨u3, rfl, hu, hb⟩
          refine ⟨_, rfl, ?_⟩
          have n0_ := Aside0.mk (HALL.out.below hb)
          clear HALL
          have HALL := n0_
          clear n0_
          obtain ⟨A3, c3, rfl, _, _⟩ := hu.form
          clear hu hb
          have ks := blk_cell HALL.out.st 1
          refine hK.out _ _ (ks) (fun hHeld => ?_)
          clear hK K
          refine norm_ (a' := ?_) ?_ ?_
          rotate_left
          · show Act.put _ (some 137) _ = _
            simp only [Act.put, List.setIfInBounds_toArray, List.set_cons_zero, List.set_cons_succ, i64_w, i32_w]
            rfl
          refine pure_ (i := 24) (N := some 138) (v := ?_) (a' := ?_) #[true, true, true, true, true, true, true, true, true, true, true, true, true, true, true, true, true, true, true, true, true, true, true, true, true, false, false, false] rfl rfl (by kernel_rfl) (fun _ _ _ h => h) (Or.inl ⟨by rfl, ?_⟩) ?_ ?_
          rotate_left
          · intro w'
            go_simp
            with_reducible rfl
          rotate_left
          · simp only [Act.put, List.setIfInBounds_toArray, List.set_cons_zero, List.set_cons_succ, i64_w, i32_w]
            rfl
          refine pure_ (i := 25) (N := some 139) (v := ?_) (a' := ?_) #[true, true, true, true, true, true, true, true, true, true, true, true, true, true, true, true, true, true, true, true, true, true, true, true, true, true, false, false] rfl rfl (by kernel_rfl) (fun _ _ _ h => h) (Or.inl ⟨by rfl, ?_⟩) ?_ ?_
          rotate_left
          · intro w'
            go_simp
            with_reducible rfl
          rotate_left
          · simp only [Act.put, List.setIfInBounds_toArray, List.set_cons_zero, List.set_cons_succ, i64_w, i32_w]
            rfl
          refine pure_ (i := 26) (N := some 140) (v := ?_) (a' := ?_) #[true, true, true, true, true, true, true, true, true, true, true, true, true, true, true, true, true, true, true, true, true, true, true, true, true, true, true, false] rfl rfl (by kernel_rfl) (fun _ _ _ h => h) (Or.inl ⟨by rfl, ?_⟩) ?_ ?_
          rotate_left
          · intro w'
            go_simp
            with_reducible rfl
          rotate_left
          · simp only [Act.put, List.setIfInBounds_toArray, List.set_cons_zero, List.set_cons_succ, i64_w, i32_w]
            rfl
          refine pure_ (i := 27) (N := some 141) (v := ?_) (a' := ?_) #[true, true, true, true, true, true, true, true, true, true, true, true, true, true, true, true, true, true, true, true, true, true, true, true, true, true, true, true] rfl rfl (by kernel_rfl) (fun _ _ _ h => h) (Or.inl ⟨by rfl, ?_⟩) ?_ ?_
          rotate_left
          · intro w'
            go_simp
            with_reducible rfl
          rotate_left
          · simp only [Act.put, List.setIfInBounds_toArray, List.set_cons_zero, List.set_cons_succ, i64_w, i32_w]
            rfl
          refine done_ (by kernel_rfl) ?_
          go_wp2_with fail
          go_roundw
          case rel => exact ⟨i + 1, p1, _, by go_num, ⟨by omega⟩, HO1, HLEN, ⟨HALL.out.iP⟩, ⟨HALL.out.iD⟩, ⟨HALL.out.bl⟩, ⟨HALL.out.ap⟩⟩
          case measure => simp [intOf]; omega
        · have hk2' : (x.a0 % 4 == 2) = false := by simp [hk2]
          obtain ⟨r1, e1, p1, he⟩ : ∃ r e q, takeV p = ((r, e), q) := ⟨_, _, _, rfl⟩
          obtain ⟨r2, e2, L2, hr⟩ : ∃ r e q, dtakeV p.held = ((r, e), q) := ⟨_, _, _, rfl⟩
          obtain ⟨rfl, rfl, rfl, o1, hlen, _⟩ := take_sim o he hr
          rw [ln] at hlen
          have H1 := Aside0.mk (fun v' w' h hB => take_c w g vh v' p o r1 e1 p1 he w' h hB)
          have H2 := Aside0.mk (fun w' h hB => dtake_c w gr vr p.held o.h2 r1 e1 p1.held hr w' h hB)
          have fe : (r1 == r1) = true := by simp
          have ff : (e1 == e1) = true := by simp
          clear he hr o hk1 hk2
          obtain ⟨rr, hrr⟩ : ∃ r, heldV p1.held x.a1 = r := ⟨_, rfl⟩
          obtain ⟨lu, hlu⟩ : ∃ lu, usedV p1.held p1.held.length = lu := ⟨_, rfl⟩
          obtain ⟨nf, hnf⟩ : ∃ n, p1.free.length = n := ⟨_, rfl⟩
          have hca := count_all o1
          have hul := used_len p1.held p1.held.length
          rw [hlu] at hca hul
          rw [hnf, hlen] at hca
          rw [hlen] at hul
          have H6 := Aside0.mk (fun v' w' h => held_c w g vh v' p1 x.a1 rr hrr w' h)
          have H9 := Aside0.mk (fun w' h => dheld_c w gr vr p1.held x.a1 rr hrr w' h)
          have H14 := Aside0.mk (show ∀ v' w', IsP w w' g vh v' p1 → Calls Try.prog 19 #[.pointer (some ⟨g, 0, none⟩)] w' fun e w'' => ∃ u, e = .returned u ∧ Ls encI 3 w'' w'.heap.size u lu ∧ Below w'.heap.size w' w'' from fun v' w' h => by rw [← hlu]; exact used_c w g vh v' p1 o1.h1 o1.h2 w' h)
          have H15 := Aside0.mk (show ∀ w', IsD w w' gr vr p1.held → Calls Try.prog 20 #[.pointer (some ⟨gr, 0, none⟩)] w' fun e w'' => ∃ u, e = .returned u ∧ Ls encI 3 w'' w'.heap.size u lu ∧ Below w'.heap.size w' w'' from fun w' h => by rw [← hlu]; exact dused_c w gr vr p1.held o1.h2 w' h)
          have H21 := Aside0.mk (fun v' w' h => free_c w g vh v' p1 o1.h1 nf hnf w' h)
          have hmm := HM.out.2
          have HLU := Aside0.mk (show lu.length ≤ 256 by omega)
          have e9 : wrap64 ((m : Int) - (lu.length : Int)) = (nf : Int) := by rw [← hca]; exact Base.w64 (by omega) (by omega)
          have e9' : (m : Int) - (lu.length : Int) = (nf : Int) := hca.symm
          have fr : (rr != rr) = false := by simp
          have ff9 : ((nf : Int) != (nf : Int)) = false := by simp
          have HO1 := Aside0.mk o1
          have HLEN := Aside0.mk hlen
          clear hrr hlu hnf hca hul o1 hlen hmm e9'
          go_upto_region 19 with (first | (go_at_call 14; (with_reducible refine (H1.out _ _ HALL.out.iP HALL.out.bl).mono ?_); rintro e w9 ⟨rfl, hp⟩; obtain ⟨v9, hp⟩ := HALL.out.t hp; have n0_ := Aside0.mk hp; clear HALL hp; have HALL := n0_; clear n0_; have ks := blk_cell HALL.out.st 1) | (go_at_call 15; (with_reducible refine (H2.out _ HALL.out.iD HALL.out.bl).mono ?_); rintro e w9 ⟨rfl, hp⟩; have n0_ := Aside0.mk (HALL.out.d hp); clear HALL hp; have HALL := n0_; clear n0_; have ks := blk_cell HALL.out.st 1))
          have n0_ := Aside0.mk (HALL.out.drew1)
          clear HALL ks
          have HALL := n0_
          clear n0_
          have ks := blk_cell HALL.out.st 1
          refine start_ (n := 28) (S := fun w' => w'.cell? ⟨sb, 1, none⟩ = some (.int .i64 x.a1)) (ds := []) #[false, false, false, false, false, false, false, false, false, false, false, false, false, false, false, false, false, false, false, false, false, false, false, false, false, false, false, false] (by kernel_rfl) rfl rfl (ks) (fun hHeld => ?_)
          refine pure_ (i := 0) (N := some 114) (v := ?_) (a' := ?_) #[true, false, false, false, false, false, false, false, false, false, false, false, false, false, false, false, false, false, false, false, false, false, false, false, false, false, false, false] rfl rfl (by kernel_rfl) (fun _ _ _ h => h) (Or.inl ⟨by rfl, ?_⟩) ?_ ?_
          rotate_left
          · intro w'
            go_simp
            with_reducible rfl
          rotate_left
          · simp only [Act.put, List.setIfInBounds_toArray, List.set_cons_zero, List.set_cons_succ, i64_w, i32_w]
            rfl
          refine pure_ (i := 1) (N := some 115) (v := ?_) (a' := ?_) #[true, true, false, false, false, false, false, false, false, false, false, false, false, false, false, false, false, false, false, false, false, false, false, false, false, false, false, false] rfl rfl (by kernel_rfl) (fun _ _ _ h => h) (Or.inl ⟨by rfl, ?_⟩) ?_ ?_
          rotate_left
          · intro w'
            go_simp
            with_reducible rfl
          rotate_left
          · simp only [Act.put, List.setIfInBounds_toArray, List.set_cons_zero, List.set_cons_succ, i64_w, i32_w]
            rfl
          refine pure_ (i := 2) (N := some 116) (v := ?_) (a' := ?_) #[true, true, true, false, false, false, false, false, false, false, false, false, false, false, false, false, false, false, false, false, false, false, false, false, false, false, false, false] rfl rfl (by kernel_rfl) (fun _ _ _ h => h) (Or.inl ⟨by rfl, ?_⟩) ?_ ?_
          rotate_left
          · intro w'
            go_simp
            with_reducible rfl
          rotate_left
          · simp only [Act.put, List.setIfInBounds_toArray, List.set_cons_zero, List.set_cons_succ, i64_w, i32_w]
            rfl
          refine pure_ (i := 3) (N := some 117) (v := ?_) (a' := ?_) #[true, true, true, true, false, false, false, false, false, false, false, false, false, false, false, false, false, false, false, false, false, false, false, false, false, false, false, false] rfl rfl (by kernel_rfl) (fun _ _ _ h => h) (Or.inl ⟨by rfl, ?_⟩) ?_ ?_
          rotate_left
          · intro w'
            go_simp
            with_reducible rfl
          rotate_left
          · simp only [Act.put, List.setIfInBounds_toArray, List.set_cons_zero, List.set_cons_succ, i64_w, i32_w]
            rfl
          refine pure_ (i := 4) (N := some 118) (v := ?_) (a' := ?_) #[true, true, true, true, true, false, false, false, false, false, false, false, false, false, false, false, false, false, false, false, false, false, false, false, false, false, false, false] rfl rfl (by kernel_rfl) (fun _ _ _ h => h) (Or.inl ⟨by rfl, ?_⟩) ?_ ?_
          rotate_left
          · intro w'
            go_simp
            with_reducible rfl
          rotate_left
          · simp only [Act.put, List.setIfInBounds_toArray, List.set_cons_zero, List.set_cons_succ, i64_w, i32_w]
            rfl
          refine pure_ (i := 7) (N := some 121) (v := ?_) (a' := ?_) #[true, true, true, true, true, false, false, true, false, false, false, false, false, false, false, false, false, false, false, false, false, false, false, false, false, false, false, false] rfl rfl (by kernel_rfl) (fun _ _ _ h => h) (Or.inl ⟨by rfl, ?_⟩) ?_ ?_
          rotate_left
          · intro w'
            go_simp
            with_reducible rfl
          rotate_left
          · simp only [Act.put, List.setIfInBounds_toArray, List.set_cons_zero, List.set_cons_succ, i64_w, i32_w]
            rfl
          refine take_ (i := 5) (N := some 119) (v := ?_) (a' := ?_) #[true, true, true, true, true, true, false, true, false, false, false, false, false, false, false, false, false, false, false, false, false, false, false, false, false, false, false, false] rfl rfl (by kernel_rfl) (fun _ _ _ h => h) (Or.inl ⟨by rfl, ?_⟩) hHeld ?_ ?_
          rotate_left
          · intro w' s0
            go_simp
            with_reducible rfl
          rotate_left
          · simp only [Act.put, List.setIfInBounds_toArray, List.set_cons_zero, List.set_cons_succ, i64_w, i32_w]
            rfl
          refine take_ (i := 8) (N := some 122) (v := ?_) (a' := ?_) #[true, true, true, true, true, true, false, true, true, false, false, false, false, false, false, false, false, false, false, false, false, false, false, false, false, false, false, false] rfl rfl (by kernel_rfl) (fun _ _ _ h => h) (Or.inl ⟨by rfl, ?_⟩) hHeld ?_ ?_
          rotate_left
          · intro w' s0
            go_simp
            with_reducible rfl
          rotate_left
          · simp only [Act.put, List.setIfInBounds_toArray, List.set_cons_zero, List.set_cons_succ, i64_w, i32_w]
            rfl
          refine one_ (i := 6) (N := some 120) #[true, true, true, true, true, true, true, true, true, false, false, false, false, false, false, false, false, false, false, false, false, false, false, false, false, false, false, false] rfl rfl (by kernel_rfl) (by decide) (fun K hK => ?_)
          refine goes_ Try.func16 (by kernel_rfl) rfl #[.pointer (some ⟨g, 0, none⟩), .int .i64 x.a1] (by rfl) rfl rfl (by simp only [List.map_toArray, List.map_cons, List.map_nil]; rfl) ?_
          with_reducible refine (H6.out _ _ HALL.out.iP).mono ?_
          rintro e w9 ⟨rfl, rfl⟩
          refine ⟨_, rfl, ?_⟩
          refine hK.out _ _ (ks) (fun hHeld => ?_)
          clear hK K
          refine norm_ (a' := ?_) ?_ ?_
          rotate_left
          · show Act.put _ (some 120) _ = _
            simp only [Act.put, List.setIfInBounds_toArray, List.set_cons_zero, List.set_cons_succ, i64_w, i32_w]
            rfl
          refine one_ (i := 9) (N := some 123) #[true, true, true, true, true, true, true, true, true, true, false, false, false, false, false, false, false, false, false, false, false, false, false, false, false, false, false, false] rfl rfl (by kernel_rfl) (by decide) (fun K hK => ?_)
          refine goes_ Try.func17 (by kernel_rfl) rfl #[.pointer (some ⟨gr, 0, none⟩), .int .i64 x.a1] (by rfl) rfl rfl (by simp only [List.map_toArray, List.map_cons, List.map_nil]; rfl) ?_
          with_reducible refine (H9.out _ HALL.out.iD).mono ?_
          rintro e w9 ⟨rfl, rfl⟩
          refine ⟨_, rfl, ?_⟩
          refine hK.out _ _ (ks) (fun hHeld => ?_)
          clear hK K
          refine norm_ (a' := ?_) ?_ ?_
          rotate_left
          · show Act.put _ (some 123) _ = _
            simp only [Act.put, List.setIfInBounds_toArray, List.set_cons_zero, List.set_cons_succ, i64_w, i32_w]
            rfl
          refine pure_ (i := 10) (N := some 124) (v := ?_) (a' := ?_) #[true, true, true, true, true, true, true, true, true, true, true, false, false, false, false, false, false, false, false, false, false, false, false, false, false, false, false, false] rfl rfl (by kernel_rfl) (fun _ _ _ h => h) (Or.inl ⟨by rfl, ?_⟩) ?_ ?_
          rotate_left
          · intro w'
            go_simp
            with_reducible rfl
          rotate_left
          · simp only [Act.put, List.setIfInBounds_toArray, List.set_cons_zero, List.set_cons_succ, i64_w, i32_w]
            rfl
          refine pure_ (i := 11) (N := some 125) (v := ?_) (a' := ?_) #[true, true, true, true, true, true, true, true, true, true, true, true, false, false, false, false, false, false, false, false, false, false, false, false, false, false, false, false] rfl rfl (by kernel_rfl) (fun _ _ _ h => h) (Or.inl ⟨by rfl, ?_⟩) ?_ ?_
          rotate_left
          · intro w'
            go_simp
            with_reducible rfl
          rotate_left
          · simp only [Act.put, List.setIfInBounds_toArray, List.set_cons_zero, List.set_cons_succ, i64_w, i32_w]
            rfl
          refine pure_ (i := 12) (N := some 126) (v := ?_) (a' := ?_) #[true, true, true, true, true, true, true, true, true, true, true, true, true, false, false, false, false, false, false, false, false, false, false, false, false, false, false, false] rfl rfl (by kernel_rfl) (fun _ _ _ h => h) (Or.inl ⟨by rfl, ?_⟩) ?_ ?_
          rotate_left
          · intro w'
            go_simp
            with_reducible rfl
          rotate_left
          · simp only [Act.put, List.setIfInBounds_toArray, List.set_cons_zero, List.set_cons_succ, i64_w, i32_w]
            rfl
          refine pure_ (i := 13) (N := some 127) (v := ?_) (a' := ?_) #[true, true, true, true, true, true, true, true, true, true, true, true, true, true, false, false, false, false, false, false, false, false, false, false, false, false, false, false] rfl rfl (by kernel_rfl) (fun _ _ _ h => h) (Or.inl ⟨by rfl, ?_⟩) ?_ ?_
          rotate_left
          · intro w'
            go_simp
            with_reducible rfl
          rotate_left
          · simp only [Act.put, List.setIfInBounds_toArray, List.set_cons_zero, List.set_cons_succ, i64_w, i32_w]
            rfl
          refine one_ (i := 14) (N := some 128) #[true, true, true, true, true, true, true, true, true, true, true, true, true, true, true, false, false, false, false, false, false, false, false, false, false, false, false, false] rfl rfl (by kernel_rfl) (by decide) (fun K hK => ?_)
          refine goes_ Try.func19 (by kernel_rfl) rfl #[.pointer (some ⟨g, 0, none⟩)] (by rfl) rfl rfl (by simp only [List.map_toArray, List.map_cons, List.map_nil]; rfl) ?_
          with_reducible refine (H14.out _ _ HALL.out.iP).mono ?_
          rintro e w9 ⟨u1, rfl, hu, hb⟩
          refine ⟨_, rfl, ?_⟩
          have n0_ := Aside0.mk (HALL.out.below hb)
          clear HALL
          have HALL := n0_
          clear n0_
          have HU1 := Aside0.mk hu
          clear hu hb
          have ks := blk_cell HALL.out.st 1
          refine hK.out _ _ (ks) (fun hHeld => ?_)
          clear hK K
          refine norm_ (a' := ?_) ?_ ?_
          rotate_left
          · show Act.put _ (some 128) _ = _
            simp only [Act.put, List.setIfInBounds_toArray, List.set_cons_zero, List.set_cons_succ, i64_w, i32_w]
            rfl
          refine one_ (i := 15) (N := some 129) #[true, true, true, true, true, true, true, true, true, true, true, true, true, true, true, true, false, false, false, false, false, false, false, false, false, false, false, false] rfl rfl (by kernel_rfl) (by decide) (fun K hK => ?_)
          refine goes_ Try.func20 (by kernel_rfl) rfl #[.pointer (some ⟨gr, 0, none⟩)] (by rfl) rfl rfl (by simp only [List.map_toArray, List.map_cons, List.map_nil]; rfl) ?_
          with_reducible refine (H15.out _ HALL.out.iD).mono ?_
          rintro e w10 ⟨u2, rfl, hu, hb⟩
          refine ⟨_, rfl, ?_⟩
          have n0_ := Aside0.mk (HALL.out.below hb)
          clear HALL
          have HALL := n0_
          clear n0_
          have HU2 := Aside0.mk hu
          have n0_ := Aside0.mk (HU1.out.below hb)
          clear hu hb HU1
          have HU1 := n0_
          clear n0_
          have ks := blk_cell HALL.out.st 1
          refine hK.out _ _ (ks) (fun hHeld => ?_)
          clear hK K
          refine norm_ (a' := ?_) ?_ ?_
          rotate_left
          · show Act.put _ (some 129) _ = _
            simp only [Act.put, List.setIfInBounds_toArray, List.set_cons_zero, List.set_cons_succ, i64_w, i32_w]
            rfl
          refine one_ (i := 16) (N := some 130) #[true, true, true, true, true, true, true, true, true, true, true, true, true, true, true, true, true, false, false, false, false, false, false, false, false, false, false, false] rfl rfl (by kernel_rfl) (by decide) (fun K hK => ?_)
          refine goes_ Try.func18 (by kernel_rfl) rfl #[u1, u2] (by rfl) rfl rfl (by simp only [List.map_toArray, List.map_cons, List.map_nil]; rfl) ?_
          with_reducible refine (same_c _ _ u1 u2 lu HLU.out _ HU1.out HU2.out).mono ?_
          rintro e w9 ⟨rfl, n9, rfl⟩
          refine ⟨_, rfl, ?_⟩
          have n0_ := Aside0.mk (HALL.out.drew n9)
          clear HALL HU1 HU2
          have HALL := n0_
          clear n0_
          have ks := blk_cell HALL.out.st 1
          refine hK.out _ _ (ks) (fun hHeld => ?_)
          clear hK K
          refine norm_ (a' := ?_) ?_ ?_
          rotate_left
          · show Act.put _ (some 130) _ = _
            simp only [Act.put, List.setIfInBounds_toArray, List.set_cons_zero, List.set_cons_succ, i64_w, i32_w]
            rfl
          refine pure_ (i := 17) (N := some 131) (v := ?_) (a' := ?_) #[true, true, true, true, true, true, true, true, true, true, true, true, true, true, true, true, true, true, false, false, false, false, false, false, false, false, false, false] rfl rfl (by kernel_rfl) (fun _ _ _ h => h) (Or.inl ⟨by rfl, ?_⟩) ?_ ?_
          rotate_left
          · intro w'
            go_simp
            with_reducible rfl
          rotate_left
          · simp only [Act.put, List.setIfInBounds_toArray, List.set_cons_zero, List.set_cons_succ, i64_w, i32_w]
            rfl
          refine pure_ (i := 18) (N := some 132) (v := ?_) (a' := ?_) #[true, true, true, true, true, true, true, true, true, true, true, true, true, true, true, true, true, true, true, false, false, false, false, false, false, false, false, false] rfl rfl (by kernel_rfl) (fun _ _ _ h => h) (Or.inl ⟨by rfl, ?_⟩) ?_ ?_
          rotate_left
          · intro w'
            go_simp
            with_reducible rfl
          rotate_left
          · simp only [Act.put, List.setIfInBounds_toArray, List.set_cons_zero, List.set_cons_succ, i64_w, i32_w]
            rfl
          refine pure_ (i := 19) (N := some 133) (v := ?_) (a' := ?_) #[true, true, true, true, true, true, true, true, true, true, true, true, true, true, true, true, true, true, true, true, false, false, false, false, false, false, false, false] rfl rfl (by kernel_rfl) (fun _ _ _ h => h) (Or.inl ⟨by rfl, ?_⟩) ?_ ?_
          rotate_left
          · intro w'
            go_simp
            with_reducible rfl
          rotate_left
          · simp only [Act.put, List.setIfInBounds_toArray, List.set_cons_zero, List.set_cons_succ, i64_w, i32_w]
            rfl
          refine pure_ (i := 20) (N := some 134) (v := ?_) (a' := ?_) #[true, true, true, true, true, true, true, true, true, true, true, true, true, true, true, true, true, true, true, true, true, false, false, false, false, false, false, false] rfl rfl (by kernel_rfl) (fun _ _ _ h => h) (Or.inl ⟨by rfl, ?_⟩) ?_ ?_
          rotate_left
          · intro w'
            go_simp
            with_reducible rfl
          rotate_left
          · simp only [Act.put, List.setIfInBounds_toArray, List.set_cons_zero, List.set_cons_succ, i64_w, i32_w]
            rfl
          refine pure_ (i := 22) (N := some 136) (v := ?_) (a' := ?_) #[true, true, true, true, true, true, true, true, true, true, true, true, true, true, true, true, true, true, true, true, true, false, true, false, false, false, false, false] rfl rfl (by kernel_rfl) (fun _ _ _ h => h) (Or.inl ⟨by rfl, ?_⟩) ?_ ?_
          rotate_left
          · intro w'
            go_simp
            with_reducible rfl
          rotate_left
          · simp only [Act.put, List.setIfInBounds_toArray, List.set_cons_zero, List.set_cons_succ, i64_w, i32_w]
            rfl
          refine one_ (i := 21) (N := some 135) #[true, true, true, true, true, true, true, true, true, true, true, true, true, true, true, true, true, true, true, true, true, true, true, false, false, false, false, false] rfl rfl (by kernel_rfl) (by decide) (fun K hK => ?_)
          refine goes_ Try.func21 (by kernel_rfl) rfl #[.pointer (some ⟨g, 0, none⟩)] (by rfl) rfl rfl (by simp only [List.map_toArray, List.map_cons, List.map_nil]; rfl) ?_
          with_reducible refine (H21.out _ _ HALL.out.iP).mono ?_
          rintro e w11 ⟨rfl, rfl⟩
          refine ⟨_, rfl, ?_⟩
          refine hK.out _ _ (ks) (fun hHeld => ?_)
          clear hK K
          refine norm_ (a' := ?_) ?_ ?_
          rotate_left
          · show Act.put _ (some 135) _ = _
            simp only [Act.put, List.setIfInBounds_toArray, List.set_cons_zero, List.set_cons_succ, i64_w, i32_w]
            rfl
          refine one_ (i := 23) (N := some 137) #[true, true, true, true, true, true, true, true, true, true, true, true, true, true, true, true, true, true, true, true, true, true, true, true, false, false, false, false] rfl rfl (by kernel_rfl) (by decide) (fun K hK => ?_)
          refine goes_ Try.func20 (by kernel_rfl) rfl #[.pointer (some ⟨gr, 0, none⟩)] (by rfl) rfl rfl (by simp only [List.map_toArray, List.map_cons, List.map_nil]; rfl) ?_
          with_reducible refine (H15.out _ HALL.out.iD).mono ?_
          rintro e w12 ⟨u3, rfl, hu, hb⟩
          refine ⟨_, rfl, ?_⟩
          have n0_ := Aside0.mk (HALL.out.below hb)
          clear HALL
          have HALL := n0_
          clear n0_
          obtain ⟨A3, c3, rfl, _, _⟩ := hu.form
          clear hu hb
          have ks := blk_cell HALL.out.st 1
          refine hK.out _ _ (ks) (fun hHeld => ?_)
          clear hK K
          refine norm_ (a' := ?_) ?_ ?_
          rotate_left
          · show Act.put _ (some 137) _ = _
            simp only [Act.put, List.setIfInBounds_toArray, List.set_cons_zero, List.set_cons_succ, i64_w, i32_w]
            rfl
          refine pure_ (i := 24) (N := some 138) (v := ?_) (a' := ?_) #[true, true, true, true, true, true, true, true, true, true, true, true, true, true, true, true, true, true, true, true, true, true, true, true, true, false, false, false] rfl rfl (by kernel_rfl) (fun _ _ _ h => h) (Or.inl ⟨by rfl, ?_⟩) ?_ ?_
          rotate_left
          · intro w'
            go_simp
            with_reducible rfl
          rotate_left
          · simp only [Act.put, List.setIfInBounds_toArray, List.set_cons_zero, List.set_cons_succ, i64_w, i32_w]
            rfl
          refine pure_ (i := 25) (N := some 139) (v := ?_) (a' := ?_) #[true, true, true, true, true, true, true, true, true, true, true, true, true, true, true, true, true, true, true, true, true, true, true, true, true, true, false, false] rfl rfl (by kernel_rfl) (fun _ _ _ h => h) (Or.inl ⟨by rfl, ?_⟩) ?_ ?_
          rotate_left
          · intro w'
            go_simp
            with_reducible rfl
          rotate_left
          · simp only [Act.put, List.setIfInBounds_toArray, List.set_cons_zero, List.set_cons_succ, i64_w, i32_w]
            rfl
          refine pure_ (i := 26) (N := some 140) (v := ?_) (a' := ?_) #[true, true, true, true, true, true, true, true, true, true, true, true, true, true, true, true, true, true, true, true, true, true, true, true, true, true, true, false] rfl rfl (by kernel_rfl) (fun _ _ _ h => h) (Or.inl ⟨by rfl, ?_⟩) ?_ ?_
          rotate_left
          · intro w'
            go_simp
            with_reducible rfl
          rotate_left
          · simp only [Act.put, List.setIfInBounds_toArray, List.set_cons_zero, List.set_cons_succ, i64_w, i32_w]
            rfl
          refine pure_ (i := 27) (N := some 141) (v := ?_) (a' := ?_) #[true, true, true, true, true, true, true, true, true, true, true, true, true, true, true, true, true, true, true, true, true, true, true, true, true, true, true, true] rfl rfl (by kernel_rfl) (fun _ _ _ h => h) (Or.inl ⟨by rfl, ?_⟩) ?_ ?_
          rotate_left
          · intro w'
            go_simp
            with_reducible rfl
          rotate_left
          · simp only [Act.put, List.setIfInBounds_toArray, List.set_cons_zero, List.set_cons_succ, i64_w, i32_w]
            rfl
          refine done_ (by kernel_rfl) ?_
          go_wp2_with fail
          go_roundw
          case rel => exact ⟨i + 1, p1, _, by go_num, ⟨by omega⟩, HO1, HLEN, ⟨HALL.out.iP⟩, ⟨HALL.out.iD⟩, ⟨HALL.out.bl⟩, ⟨HALL.out.ap⟩⟩
          case measure => simp [intOf]; omega
    · go_wp2_with (first | (go_at_call 8; (with_reducible refine (HA.out _).mono ?_); rintro e w9 ⟨rfl, hb⟩; have n1_ := Aside0.mk (below_step HB.out hb); clear HB hb; have HB := n1_; clear n1_))
      go_ret
      exact ⟨rfl, HB.out⟩
theorem plays_law (n : Int) (A : Option Addr) (cp : Nat) (l : List Stp.St) (w : World) (hrw : Stp.Row w A l) (hc : l.length ≤ cp) (hmx : l.length ≤ 9223372036854775807) (hk : ∀ x ∈ l, 0 ≤ x.a0 ∧ x.a0 ≤ 255) : Calls Try.prog 3 #[.int .i64 n, .slice A l.length cp] w fun e w' => e = .returned (.bool true) ∧ Below w.heap.size w w' := by
  by_cases h : 1 ≤ n ∧ n ≤ 256
  · obtain ⟨m, rfl⟩ : ∃ m : Nat, n = m := ⟨n.toNat, by omega⟩
    exact plays_ok m (by omega) (by omega) A cp l w hrw hc hmx hk
  · exact plays_no n h A cp l.length w
end Go.Proofs.Ytiekmjkeoicjfaa.Pg
