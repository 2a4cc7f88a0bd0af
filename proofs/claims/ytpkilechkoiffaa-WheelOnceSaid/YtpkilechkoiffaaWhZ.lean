/- WheelPlays: a wheel answers every call, in every order, at every time, as the document says; the walk; no condition but that numbers are of their kinds. -/
import Derived.Test.YtpkilechkoiffaaWhL
import Derived.Test.YtpkilechkoiffaaWhV
import Derived.Test.YtpkilechkoiffaaSteps
namespace Go.Proofs.Ytpkilechkoiffaa.Wh
set_option linter.unusedVariables false
set_option linter.unusedSimpArgs false
open Go.RowKit Go.Proofs.YtpkilechkoiffaaW.PrintWords Go.Proofs.YtpkilechkoiffaaW.PrintLast Go.Proofs.YtpkilechkoiffaaW.PrintMore Go.Proofs.Ytpkilechkoiffaa.Lst Go.Proofs.Ytpkilechkoiffaa.Heap Go.Proofs.Ytpkilechkoiffaa.TabL
attribute [local go_sem] max2_int min2_int max_two min_two max_three min_three max_four min_four
theorem Wst.typ {w0 W : World} {g : Nat} {F : Nat → Prop} {last T : Int} {m : Nat} {L : List Tm} (h : Wst w0 W g F last T m L) {k t : Nat} {cs : Array Value} (hb : W.heap[k]? = some (.cells cs t (0, 0))) (h1 : t ≠ 58) (h2 : t ≠ 37) : ¬ F k := by
  obtain ⟨v, b, s, rfl, _, _, _, _, i⟩ := h
  rintro (e | e | e)
  · exact blk_ne hb i.f.1 h1 e
  · exact i.f.ls.ne hb (fun e' => h2 e'.symm) e.symm
  · exact (i.map.ne hb) e
theorem Dst.typ {w0 W : World} {g : Nat} {F : Nat → Prop} {T last : Int} {L : List Tm} (h : Dst w0 W g F T last L) {k t : Nat} {cs : Array Value} (hb : W.heap[k]? = some (.cells cs t (0, 0))) (h1 : t ≠ 45) (h2 : t ≠ 54) : ¬ F k := by
  obtain ⟨v, rfl, i⟩ := h
  rintro (e | e)
  · exact blk_ne hb i.1 h1 e
  · obtain ⟨_, _, cur, hc⟩ := i.ct.blk k e
    exact blk_ne hb hc h2 rfl
structure AllW (w0 W : World) (g : Nat) (F : Nat → Prop) (last T : Int) (m : Nat) (L : List Tm) (gr : Nat) (Fr : Nat → Prop) (T' last' : Int) (L' : List Tm) (sb : Nat) (x : Stp.St) : Prop where
  iW : Wst w0 W g F last T m L
  iD : Dst w0 W gr Fr T' last' L'
  bl : Below w0.heap.size w0 W
  st : W.heap[sb]? = some (.cells #[.int .u8 x.a0, .int .i64 x.a1, .int .i64 x.a2, .int .u64 x.a3, .int .i64 x.a4] 30 (0, 0))
  ap : ∀ k, F k → ¬ Fr k
section
variable {w0 W W' : World} {g : Nat} {F : Nat → Prop} {last T : Int} {m : Nat} {L : List Tm} {gr : Nat} {Fr : Nat → Prop} {T' last' : Int} {L' : List Tm} {sb : Nat} {x : Stp.St} {last2 T2 : Int} {m2 : Nat} {L2 : List Tm}
theorem AllW.t (h : AllW w0 W g F last T m L gr Fr T' last' L' sb x) (hp : PostV w0 W g F last2 T2 m2 L2 W') : ∃ F', AllW w0 W' g F' last2 T2 m2 L2 gr Fr T' last' L' sb x := by
  obtain ⟨F', i, b, k, o⟩ := hp
  refine ⟨F', i, h.iD.kept k (fun j hj hj' => h.ap j hj' hj), b, (k.2 sb (blk_lt h.st) (h.iW.typ h.st (by decide) (by decide))).trans h.st, fun j hj hj' => ?_⟩
  rcases o j hj with e | e
  · exact h.ap j e hj'
  · exact absurd (h.iD.lt hj') (Nat.not_lt.2 e)
theorem AllW.d (h : AllW w0 W g F last T m L gr Fr T' last' L' sb x) (hp : PostE w0 W gr Fr T2 last2 L2 W') : ∃ Fr', AllW w0 W' g F last T m L gr Fr' T2 last2 L2 sb x := by
  obtain ⟨F', i, b, k, o⟩ := hp
  refine ⟨F', h.iW.kept k h.ap, i, b, (k.2 sb (blk_lt h.st) (h.iD.typ h.st (by decide) (by decide))).trans h.st, fun j hj hj' => ?_⟩
  rcases o j hj' with e | e
  · exact h.ap j hj e
  · exact absurd (h.iW.lt hj) (Nat.not_lt.2 e)
theorem AllW.below (h : AllW w0 W g F last T m L gr Fr T' last' L' sb x) (hb : Below W.heap.size W W') : AllW w0 W' g F last T m L gr Fr T' last' L' sb x := ⟨h.iW.below hb, h.iD.below hb, below_step h.bl hb, blk_below h.st hb, h.ap⟩
/-- behind the two calls, whatever they were -/
def Aft (w0 W : World) (g gr : Nat) (L : List Tm) (sb : Nat) (x : Stp.St) (i : Nat) : Prop := ∃ F2 Fr2 last1 T1 m1, AllW w0 W g F2 last1 T1 m1 L gr Fr2 T1 last1 L sb x ∧ Aside0 (0 ≤ last1 ∧ last1 ≤ ((i + 1 : Nat) : Int)) ∧ Aside0 (m1 ≤ i + 1)
theorem AllW.aft (h : AllW w0 W g F last T m L gr Fr T last L sb x) {i : Nat} (hb : 0 ≤ last ∧ last ≤ ((i + 1 : Nat) : Int)) (hm : m ≤ i + 1) : Aft w0 W g gr L sb x i := ⟨F, Fr, last, T, m, h, ⟨hb⟩, ⟨hm⟩⟩
theorem AllW.drew (h : AllW w0 W g F last T m L gr Fr T' last' L' sb x) : AllW w0 W.drew g F last T m L gr Fr T' last' L' sb x := ⟨h.iW.drew, h.iD.drewN 1, below_drew h.bl, blk_drew h.st, h.ap⟩
end
theorem info30 : (Try.prog.info? 30).map (fun i => (i.zero, i.size, i.bytes)) = some (some (.agg #[.int .u8 0, .int .i64 0, .int .i64 0, .int .u64 0, .int .i64 0]), 5, 40) := by kernel_rfl
set_option maxHeartbeats 64000000 in
set_option maxRecDepth 100000 in
theorem plays_law (A : Option Addr) (cp : Nat) (l : List Stp.St) (w : World) (hrw : Stp.Row w A l) (hc : l.length ≤ cp) (hmx : l.length ≤ 9223372036854775807) (hk : ∀ x ∈ l, (-9223372036854775808 ≤ x.a4 ∧ x.a4 ≤ 9223372036854775807) ∧ 0 ≤ x.a0 ∧ x.a0 ≤ 255) : Calls Try.prog 4 #[.slice A l.length cp] w fun e w' => e = .returned (.bool true) ∧ Below w.heap.size w w' := by
  have HRW := Aside0.mk hrw
  have HC := Aside0.mk hc; have HMX := Aside0.mk hmx; have HK := Aside0.mk hk
  obtain ⟨L, hL⟩ : ∃ L, min l.length 300 = L := ⟨_, rfl⟩
  have HLQ := Aside0.mk hL
  have HL := Aside0.mk (show L ≤ l.length ∧ L ≤ 300 from by omega)
  have HA := Aside0.mk alive_c
  have huR := Try.underlying45
  have hzR : ∀ w : World, (zeroValue 45).run Try.prog w = .ok (.agg #[.int .i64 0, .int .i64 0, .slice none 0 0]) w := fun w => by kernel_rfl
  have hu30 := Try.underlying30
  have hu54 := Try.underlying54
  obtain ⟨i0, hi0, _, hs0, _⟩ := info_parts info30
  clear hrw hc hmx hk hL
  go_enter Try.func4, Try.ntmps4
  go_upto_region 3 with (first | (go_at_call 6; (with_reducible refine (new_v _).mono ?_); rintro e w9 ⟨g, F, rfl, hi, hb⟩; have HT := Aside0.mk hi; have HB := Aside0.mk hb; clear hi hb))
  have bel := below_alloc (Below.refl w9.heap.size w9) (.cells #[.int .i64 0, .int .i64 0, .slice none 0 0] 45)
  have HR := Aside0.mk (show Dst w (w9.alloc (.cells #[.int .i64 0, .int .i64 0, .slice none 0 0] 45)) w9.heap.size (FoD w9.heap.size (.slice none 0 0)) 0 0 [] from ⟨_, rfl, blk_new _ _, Ct.nil _ _, HB.out.size⟩)
  have HAP := Aside0.mk (show ∀ k, F k → ¬ FoD w9.heap.size (.slice none 0 0) k from fun k hk hk' => by
    have := HT.out.lt hk
    rcases hk' with rfl | e
    · exact absurd this (Nat.lt_irrefl _)
    · cases e)
  have n0_ := Aside0.mk (HT.out.below bel)
  have n1_ := Aside0.mk (below_step HB.out bel)
  clear HT HB bel
  have HT := n0_; have HB := n1_
  clear n0_ n1_
  obtain ⟨wz, hwz⟩ : ∃ wz, World.alloc w9 (.cells #[.int .i64 0, .int .i64 0, .slice none 0 0] 45) = wz := ⟨_, rfl⟩
  rw [hwz] at HR HT HB ⊢
  clear hwz
  generalize w9.heap.size = gr at HR HAP ⊢
  generalize FoD gr (.slice none 0 0) = Fr at HR HAP
  go_wp2_with (first | (go_at_call 7; (with_reducible refine (Stp.short_c A l.length cp _ HC.out HMX.out _ HLQ.out).mono ?_); rintro e w3 ⟨rfl, rfl⟩))
  go_loopw [21] (fun vi wr => ∃ (i : Nat) (F Fr : Nat → Prop) (last T : Int) (R : List Tm), vi = .int .i64 i ∧ Aside0 (i ≤ L) ∧ Aside0 (0 ≤ last ∧ last ≤ i) ∧ Aside0 (Wst w wr g F last T i R) ∧ Aside0 (Dst w wr gr Fr T last R) ∧ Aside0 (Below w.heap.size w wr) ∧ Aside0 (∀ k, F k → ¬ Fr k)) (fun vi _ => (L - intOf vi).toNat)
  case atStart => exact ⟨0, F, Fr, 0, 0, [], rfl, ⟨by omega⟩, ⟨by decide⟩, HT, HR, HB, HAP⟩
  case round =>
    clear HT HB HR HAP
    obtain ⟨i, F, Fr, last, T, R, rfl, HIL, HBD, HT, HR, HB, HAP⟩ := hrel
    have l1 := HL.out.2
    have l2 := HIL.out
    by_cases hlt : i < L
    · obtain ⟨x, hx⟩ : ∃ x, l[i]? = some x := ⟨_, List.getElem?_eq_getElem (show i < l.length by have := HL.out.1; omega)⟩
      obtain ⟨a, rfl, h0, h1, h2, h3, h4⟩ := HRW.out.cells hx
      have k0 := pw_cell_below HB.out h0; have k1 := pw_cell_below HB.out h1; have k2 := pw_cell_below HB.out h2; have k3 := pw_cell_below HB.out h3; have k4 := pw_cell_below HB.out h4
      clear h0 h1 h2 h3 h4
      obtain ⟨kx4, kx0⟩ := HK.out x (List.mem_of_getElem? hx)
      have HK4 := Aside0.mk kx4
      clear hx kx4
      go_upto_region 8 with (fail)
      obtain ⟨wq, hwq⟩ : ∃ wq, wr.alloc (.cells #[.int .u8 x.a0, .int .i64 x.a1, .int .i64 x.a2, .int .u64 x.a3, .int .i64 x.a4] 30 (0, 0)) = wq := ⟨_, rfl⟩
      have HALL := Aside0.mk (show AllW w wq g F last T i R gr Fr T last R wr.heap.size x from by
        rw [← hwq]
        exact ⟨HT.out.below (below_alloc (Below.refl _ _) _), HR.out.below (below_alloc (Below.refl _ _) _), below_alloc HB.out _, blk_new wr _, HAP.out⟩)
      rw [hwq]
      clear HT HB HR HAP k0 k1 k2 k3 k4 hwq
      generalize wr.heap.size = sb at HALL ⊢
      have t0 := HALL.out.iW.tk.1; have t1 := HALL.out.iW.tk.2
      have kT := HALL.out.iD.c0
      have kl := blk_cell HALL.out.st 1; have kd := blk_cell HALL.out.st 0
      go_upto_region 9 with (fail)
      go_cut [34] (fun s34 wx => s34 = .bool (decide (-100000 < x.a1 ∧ x.a1 < 1125899906842624)) ∧ wq = wx)
      case first =>
        go_wp2_with fail
        all_goals go_meet
        all_goals exact ⟨by simp; try omega, rfl⟩
      case rest =>
        obtain ⟨rfl, rfl⟩ := hcut
        go_upto_if 34 with (fail)
        go_cut [7] (fun s7 wx => ∃ now' : Int, s7 = .int .i64 now' ∧ wq = wx)
        case first =>
          by_cases hq : -100000 < x.a1 ∧ x.a1 < 1125899906842624
          · rw [decide_eq_true hq]
            obtain ⟨hq0, hq1⟩ := hq
            go_wp2_with fail
            go_meet
            exact ⟨_, rfl, rfl⟩
          · rw [decide_eq_false hq]
            go_wp2_with fail
            go_meet
            exact ⟨_, rfl, rfl⟩
        case rest =>
          obtain ⟨now', rfl, rfl⟩ := hcut
          clear kl kT t0 t1
          go_upto_block 2 with (fail)
          go_cut [8, 9, 10, 11, 12] from 42 to 100 (fun s8 s9 s10 s11 s12 wx => s8 = .bool true ∧ ∃ L1, Aft w wx g gr L1 sb x i)
          case first =>
            have HRL := Aside0.mk (show R.length ≤ 1000 from by have := HALL.out.iW.llen; omega)
            have HI9 := Aside0.mk (show i ≤ 1000 from by omega)
            have HB9 := Aside0.mk (show last ≤ 1000 from by have := HBD.out; omega)
            obtain ⟨T2, hT2⟩ : ∃ T2, laterT T now' = T2 := ⟨_, rfl⟩
            by_cases hk1 : x.a0 % 5 = 1
            · have hk1' : (x.a0 % 5 == 1) = true := by simp [hk1]
              obtain ⟨L1, hL1⟩ : ∃ L1, R.filter (fun t => !(t.n == x.a4)) = L1 := ⟨_, rfl⟩
              obtain ⟨r1, hr1⟩ : ∃ r1 : Int, (if hasT R x.a4 then 0 else 6) = r1 := ⟨_, rfl⟩
              have hnd : R.Nodup := by
                rw [List.nodup_iff_pairwise_ne]
                exact HALL.out.iW.srt.imp fun {a b} hab e => by subst e; rw [lt_irr] at hab; cases hab
              have huq := HALL.out.iW.uni
              have H1 := Aside0.mk (fun F' w' h hB => stop_v w g F' last T i R x.a4 HK4.out L1 hL1 r1 hr1 w' h hB)
              have H2 := Aside0.mk (fun F' w' h hB => dstop_e w gr F' T last R HRL.out hnd huq x.a4 r1 L1 hL1 hr1 w' h hB)
              have fe : (r1 == r1) = true := by simp
              clear hL1 hr1 hnd huq hk1 hT2
              go_upto_region 17 with (fail)
              have n0_ := Aside0.mk HALL.out.drew
              clear HALL
              try clear c2_
              try clear c3_
              try clear c4_
              have HALL := n0_
              clear n0_
              have kr := blk_cell HALL.out.st 4
              refine start_ (n := 9) (S := fun w' => w'.cell? ⟨sb, 4, none⟩ = some (.int .i64 x.a4)) (ds := []) #[false, false, false, false, false, false, false, false, false] (by kernel_rfl) rfl rfl (kr) (fun hHeld => ?_)
              refine pure_ (i := 0) (N := some 75) (v := ?_) (a' := ?_) #[true, false, false, false, false, false, false, false, false] rfl rfl (by kernel_rfl) (fun _ _ _ h => h) (Or.inl ⟨by rfl, ?_⟩) ?_ ?_
              rotate_left
              · intro w'
                go_simp
                with_reducible rfl
              rotate_left
              · simp only [Act.put, List.setIfInBounds_toArray, List.set_cons_zero, List.set_cons_succ, i64_w, i32_w]
                rfl
              refine pure_ (i := 1) (N := some 76) (v := ?_) (a' := ?_) #[true, true, false, false, false, false, false, false, false] rfl rfl (by kernel_rfl) (fun _ _ _ h => h) (Or.inl ⟨by rfl, ?_⟩) ?_ ?_
              rotate_left
              · intro w'
                go_simp
                with_reducible rfl
              rotate_left
              · simp only [Act.put, List.setIfInBounds_toArray, List.set_cons_zero, List.set_cons_succ, i64_w, i32_w]
                rfl
              refine pure_ (i := 4) (N := some 79) (v := ?_) (a' := ?_) #[true, true, false, false, true, false, false, false, false] rfl rfl (by kernel_rfl) (fun _ _ _ h => h) (Or.inl ⟨by rfl, ?_⟩) ?_ ?_
              rotate_left
              · intro w'
                go_simp
                with_reducible rfl
              rotate_left
              · simp only [Act.put, List.setIfInBounds_toArray, List.set_cons_zero, List.set_cons_succ, i64_w, i32_w]
                rfl
              refine take_ (i := 2) (N := some 77) (v := ?_) (a' := ?_) #[true, true, true, false, true, false, false, false, false] rfl rfl (by kernel_rfl) (fun _ _ _ h => h) (Or.inl ⟨by rfl, ?_⟩) hHeld ?_ ?_
              rotate_left
              · intro w' s0
                go_simp
                with_reducible rfl
              rotate_left
              · simp only [Act.put, List.setIfInBounds_toArray, List.set_cons_zero, List.set_cons_succ, i64_w, i32_w]
                rfl
              refine take_ (i := 5) (N := some 80) (v := ?_) (a' := ?_) #[true, true, true, false, true, true, false, false, false] rfl rfl (by kernel_rfl) (fun _ _ _ h => h) (Or.inl ⟨by rfl, ?_⟩) hHeld ?_ ?_
              rotate_left
              · intro w' s0
                go_simp
                with_reducible rfl
              rotate_left
              · simp only [Act.put, List.setIfInBounds_toArray, List.set_cons_zero, List.set_cons_succ, i64_w, i32_w]
                rfl
              refine one_ (i := 3) (N := some 78) #[true, true, true, true, true, true, false, false, false] rfl rfl (by kernel_rfl) (by decide) (fun K hK => ?_)
              refine goes_ Try.func8 (by kernel_rfl) rfl #[.pointer (some ⟨g, 0, none⟩), .int .i64 x.a4] (by rfl) rfl rfl (by simp only [List.map_toArray, List.map_cons, List.map_nil]; rfl) ?_
              with_reducible refine (H1.out _ _ HALL.out.iW HALL.out.bl).mono ?_
              rintro e w9 ⟨rfl, hp⟩
              refine ⟨_, rfl, ?_⟩
              obtain ⟨F9, hp⟩ := HALL.out.t hp
              have n0_ := Aside0.mk hp
              clear HALL hp
              have HALL := n0_
              clear n0_
              have kr := blk_cell HALL.out.st 4
              refine hK.out _ _ (kr) (fun hHeld => ?_)
              clear hK K
              refine norm_ (a' := ?_) ?_ ?_
              rotate_left
              · show Act.put _ (some 78) _ = _
                simp only [Act.put, List.setIfInBounds_toArray, List.set_cons_zero, List.set_cons_succ, i64_w, i32_w]
                rfl
              refine one_ (i := 6) (N := some 81) #[true, true, true, true, true, true, true, false, false] rfl rfl (by kernel_rfl) (by decide) (fun K hK => ?_)
              refine goes_ Try.func13 (by kernel_rfl) rfl #[.pointer (some ⟨gr, 0, none⟩), .int .i64 x.a4] (by rfl) rfl rfl (by simp only [List.map_toArray, List.map_cons, List.map_nil]; rfl) ?_
              with_reducible refine (H2.out _ _ HALL.out.iD HALL.out.bl).mono ?_
              rintro e w9 ⟨rfl, hp⟩
              refine ⟨_, rfl, ?_⟩
              obtain ⟨F9, hp⟩ := HALL.out.d hp
              have n0_ := Aside0.mk hp
              clear HALL hp
              have HALL := n0_
              clear n0_
              have kr := blk_cell HALL.out.st 4
              refine hK.out _ _ (kr) (fun hHeld => ?_)
              clear hK K
              refine norm_ (a' := ?_) ?_ ?_
              rotate_left
              · show Act.put _ (some 81) _ = _
                simp only [Act.put, List.setIfInBounds_toArray, List.set_cons_zero, List.set_cons_succ, i64_w, i32_w]
                rfl
              refine pure_ (i := 7) (N := some 82) (v := ?_) (a' := ?_) #[true, true, true, true, true, true, true, true, false] rfl rfl (by kernel_rfl) (fun _ _ _ h => h) (Or.inl ⟨by rfl, ?_⟩) ?_ ?_
              rotate_left
              · intro w'
                go_simp
                with_reducible rfl
              rotate_left
              · simp only [Act.put, List.setIfInBounds_toArray, List.set_cons_zero, List.set_cons_succ, i64_w, i32_w]
                rfl
              refine pure_ (i := 8) (N := some 8) (v := ?_) (a' := ?_) #[true, true, true, true, true, true, true, true, true] rfl rfl (by kernel_rfl) (fun _ _ _ h => h) (Or.inl ⟨by rfl, ?_⟩) ?_ ?_
              rotate_left
              · intro w'
                go_simp
                with_reducible rfl
              rotate_left
              · simp only [Act.put, List.setIfInBounds_toArray, List.set_cons_zero, List.set_cons_succ, i64_w, i32_w]
                rfl
              refine done_ (by kernel_rfl) ?_
              clear kr
              go_wp2_with fail
              go_meet
              exact ⟨rfl, _, HALL.out.aft (i := i) (by have := HBD.out; omega) (by omega)⟩
            · have hk1' : (x.a0 % 5 == 1) = false := by simp [hk1]
              by_cases hk2 : x.a0 % 5 = 2
              · have hk2' : (x.a0 % 5 == 2) = true := by simp [hk2]
                obtain ⟨L1, hL1⟩ : ∃ L1, R.filter (fun t => !(t.lab == x.a3)) = L1 := ⟨_, rfl⟩
                obtain ⟨r1, hr1⟩ : ∃ r1 : Int, (R.length : Int) - (L1.length : Int) = r1 := ⟨_, rfl⟩
                have H1 := Aside0.mk (fun F' w' h hB => stopall_v w g F' last T i R HI9.out x.a3 L1 hL1 r1 hr1 w' h hB)
                have H2 := Aside0.mk (fun F' w' h hB => dstopall_e w gr F' T last R HRL.out x.a3 L1 hL1 r1 hr1 w' h hB)
                have fe : (r1 == r1) = true := by simp
                clear hL1 hr1 hk1 hk2 hT2
                go_upto_region 19 with (fail)
                have n0_ := Aside0.mk HALL.out.drew
                clear HALL
                try clear c2_
                try clear c3_
                try clear c4_
                have HALL := n0_
                clear n0_
                have kr := blk_cell HALL.out.st 3
                refine start_ (n := 9) (S := fun w' => w'.cell? ⟨sb, 3, none⟩ = some (.int .u64 x.a3)) (ds := []) #[false, false, false, false, false, false, false, false, false] (by kernel_rfl) rfl rfl (kr) (fun hHeld => ?_)
                refine pure_ (i := 0) (N := some 85) (v := ?_) (a' := ?_) #[true, false, false, false, false, false, false, false, false] rfl rfl (by kernel_rfl) (fun _ _ _ h => h) (Or.inl ⟨by rfl, ?_⟩) ?_ ?_
                rotate_left
                · intro w'
                  go_simp
                  with_reducible rfl
                rotate_left
                · simp only [Act.put, List.setIfInBounds_toArray, List.set_cons_zero, List.set_cons_succ, i64_w, i32_w]
                  rfl
                refine pure_ (i := 1) (N := some 86) (v := ?_) (a' := ?_) #[true, true, false, false, false, false, false, false, false] rfl rfl (by kernel_rfl) (fun _ _ _ h => h) (Or.inl ⟨by rfl, ?_⟩) ?_ ?_
                rotate_left
                · intro w'
                  go_simp
                  with_reducible rfl
                rotate_left
                · simp only [Act.put, List.setIfInBounds_toArray, List.set_cons_zero, List.set_cons_succ, i64_w, i32_w]
                  rfl
                refine pure_ (i := 4) (N := some 89) (v := ?_) (a' := ?_) #[true, true, false, false, true, false, false, false, false] rfl rfl (by kernel_rfl) (fun _ _ _ h => h) (Or.inl ⟨by rfl, ?_⟩) ?_ ?_
                rotate_left
                · intro w'
                  go_simp
                  with_reducible rfl
                rotate_left
                · simp only [Act.put, List.setIfInBounds_toArray, List.set_cons_zero, List.set_cons_succ, i64_w, i32_w]
                  rfl
                refine take_ (i := 2) (N := some 87) (v := ?_) (a' := ?_) #[true, true, true, false, true, false, false, false, false] rfl rfl (by kernel_rfl) (fun _ _ _ h => h) (Or.inl ⟨by rfl, ?_⟩) hHeld ?_ ?_
                rotate_left
                · intro w' s0
                  go_simp
                  with_reducible rfl
                rotate_left
                · simp only [Act.put, List.setIfInBounds_toArray, List.set_cons_zero, List.set_cons_succ, i64_w, i32_w]
                  rfl
                refine take_ (i := 5) (N := some 90) (v := ?_) (a' := ?_) #[true, true, true, false, true, true, false, false, false] rfl rfl (by kernel_rfl) (fun _ _ _ h => h) (Or.inl ⟨by rfl, ?_⟩) hHeld ?_ ?_
                rotate_left
                · intro w' s0
                  go_simp
                  with_reducible rfl
                rotate_left
                · simp only [Act.put, List.setIfInBounds_toArray, List.set_cons_zero, List.set_cons_succ, i64_w, i32_w]
                  rfl
                refine one_ (i := 3) (N := some 88) #[true, true, true, true, true, true, false, false, false] rfl rfl (by kernel_rfl) (by decide) (fun K hK => ?_)
                refine goes_ Try.func14 (by kernel_rfl) rfl #[.pointer (some ⟨g, 0, none⟩), .int .u64 x.a3] (by rfl) rfl rfl (by simp only [List.map_toArray, List.map_cons, List.map_nil]; rfl) ?_
                with_reducible refine (H1.out _ _ HALL.out.iW HALL.out.bl).mono ?_
                rintro e w9 ⟨rfl, hp⟩
                refine ⟨_, rfl, ?_⟩
                obtain ⟨F9, hp⟩ := HALL.out.t hp
                have n0_ := Aside0.mk hp
                clear HALL hp
                have HALL := n0_
                clear n0_
                have kr := blk_cell HALL.out.st 3
                refine hK.out _ _ (kr) (fun hHeld => ?_)
                clear hK K
                refine norm_ (a' := ?_) ?_ ?_
                rotate_left
                · show Act.put _ (some 88) _ = _
                  simp only [Act.put, List.setIfInBounds_toArray, List.set_cons_zero, List.set_cons_succ, i64_w, i32_w]
                  rfl
                refine one_ (i := 6) (N := some 91) #[true, true, true, true, true, true, true, false, false] rfl rfl (by kernel_rfl) (by decide) (fun K hK => ?_)
                refine goes_ Try.func15 (by kernel_rfl) rfl #[.pointer (some ⟨gr, 0, none⟩), .int .u64 x.a3] (by rfl) rfl rfl (by simp only [List.map_toArray, List.map_cons, List.map_nil]; rfl) ?_
                with_reducible refine (H2.out _ _ HALL.out.iD HALL.out.bl).mono ?_
                rintro e w9 ⟨rfl, hp⟩
                refine ⟨_, rfl, ?_⟩
                obtain ⟨F9, hp⟩ := HALL.out.d hp
                have n0_ := Aside0.mk hp
                clear HALL hp
                have HALL := n0_
                clear n0_
                have kr := blk_cell HALL.out.st 3
                refine hK.out _ _ (kr) (fun hHeld => ?_)
                clear hK K
                refine norm_ (a' := ?_) ?_ ?_
                rotate_left
                · show Act.put _ (some 91) _ = _
                  simp only [Act.put, List.setIfInBounds_toArray, List.set_cons_zero, List.set_cons_succ, i64_w, i32_w]
                  rfl
                refine pure_ (i := 7) (N := some 92) (v := ?_) (a' := ?_) #[true, true, true, true, true, true, true, true, false] rfl rfl (by kernel_rfl) (fun _ _ _ h => h) (Or.inl ⟨by rfl, ?_⟩) ?_ ?_
                rotate_left
                · intro w'
                  go_simp
                  with_reducible rfl
                rotate_left
                · simp only [Act.put, List.setIfInBounds_toArray, List.set_cons_zero, List.set_cons_succ, i64_w, i32_w]
                  rfl
                refine pure_ (i := 8) (N := some 8) (v := ?_) (a' := ?_) #[true, true, true, true, true, true, true, true, true] rfl rfl (by kernel_rfl) (fun _ _ _ h => h) (Or.inl ⟨by rfl, ?_⟩) ?_ ?_
                rotate_left
                · intro w'
                  go_simp
                  with_reducible rfl
                rotate_left
                · simp only [Act.put, List.setIfInBounds_toArray, List.set_cons_zero, List.set_cons_succ, i64_w, i32_w]
                  rfl
                refine done_ (by kernel_rfl) ?_
                clear kr
                go_wp2_with fail
                go_meet
                exact ⟨rfl, _, HALL.out.aft (i := i) (by have := HBD.out; omega) (by omega)⟩
              · have hk2' : (x.a0 % 5 == 2) = false := by simp [hk2]
                by_cases hk3 : x.a0 % 5 = 3
                · have hk3' : (x.a0 % 5 == 3) = true := by simp [hk3]
                  obtain ⟨L1, hL1⟩ : ∃ L1, aftV R T2 = L1 := ⟨_, rfl⟩
                  obtain ⟨B1, hB1⟩ : ∃ B1, befV R T2 = B1 := ⟨_, rfl⟩
                  have HB1L := Aside0.mk (show B1.length ≤ 1000 from by have := bef_length_le R T2; have := HRL.out; rw [hB1] at *; omega)
                  have H1 := Aside0.mk (fun F' w' h hB => due_v w g F' last T i R HI9.out HB9.out now' T2 hT2 w' h hB)
                  have H2 := Aside0.mk (fun F' w' h hB => ddue_e w gr F' T last R HRL.out now' T2 hT2 w' h hB)
                  rw [hL1, hB1] at H1 H2
                  clear hL1 hB1 hk1 hk2 hk3 hT2
                  go_wp2_with (first | (go_at_call 9; (with_reducible refine (H1.out _ _ HALL.out.iW HALL.out.bl).mono ?_); rintro e w9 ⟨u1, rfl, hu, hp⟩; have HFL := Aside0.mk (fun k hk => HALL.out.iD.lt (k := k) hk); have HU := Aside0.mk hu; clear hu; obtain ⟨F9, hp⟩ := HALL.out.t hp; have n0_ := Aside0.mk hp; clear HALL hp; have HALL := n0_; clear n0_) | (go_at_call 17; (with_reducible refine (H2.out _ _ HALL.out.iD HALL.out.bl).mono ?_); rintro e w10 ⟨u2, rfl, hu, hp⟩; have hkk := hp; obtain ⟨F8, _, _, hkp, _⟩ := hkk; have HU1 := Aside0.mk (show Ls encT 37 w10 _ u1 B1 from own_move HU.out (fun k hk => hkp.2 k (HU.out.own k hk).2.1 (fun hF => absurd (HFL.out k hF) (Nat.not_lt.2 (HU.out.own k hk).1)))); have HU2 := Aside0.mk hu; clear hu hkp; obtain ⟨F9, hp⟩ := HALL.out.d hp; have n0_ := Aside0.mk hp; clear HALL hp; have HALL := n0_; clear n0_) | (go_at_call 16; (with_reducible refine (same_c _ _ u1 u2 B1 HB1L.out _ HU1.out HU2.out).mono ?_); rintro e w11 ⟨rfl, hb⟩; have n0_ := Aside0.mk (HALL.out.below hb); clear HALL hb; have HALL := n0_; clear n0_))
                  go_meet
                  exact ⟨rfl, _, HALL.out.aft (i := i) (by have := HBD.out; omega) (by omega)⟩
                · have hk3' : (x.a0 % 5 == 3) = false := by simp [hk3]
                  have c2_ := blk_cell HALL.out.st 2; have c3_ := blk_cell HALL.out.st 3; have c4_ := blk_cell HALL.out.st 4
                  obtain ⟨ba, hba⟩ : ∃ ba, badA x.a2 = ba := ⟨_, rfl⟩
                  cases ba
                  · obtain ⟨n1, hn1⟩ : ∃ n1, last + 1 = n1 := ⟨_, rfl⟩
                    obtain ⟨at1, hat1⟩ : ∃ a, attV T2 x.a2 = a := ⟨_, rfl⟩
                    obtain ⟨L1, hL1⟩ : ∃ L1, insV R ⟨n1, x.a4, x.a3, at1⟩ = L1 := ⟨_, rfl⟩
                    have H1 := Aside0.mk (fun F' w' h hB => set_v w g F' last T i R HI9.out HB9.out now' x.a2 x.a4 x.a3 hba T2 hT2 n1 hn1 at1 hat1 w' h hB)
                    have htk := HALL.out.iW.tk
                    have H2 := Aside0.mk (fun F' w' h hB => dset_e w gr F' T last R HRL.out ⟨HBD.out.1, HB9.out⟩ htk now' x.a2 x.a4 x.a3 hba T2 hT2 n1 hn1 at1 hat1 w' h hB)
                    rw [hL1] at H1 H2
                    have fe : (n1 == n1) = true := by simp
                    have HN1 := Aside0.mk (show 0 ≤ n1 ∧ n1 ≤ ((i + 1 : Nat) : Int) from by have := HBD.out; omega)
                    clear hL1 hk1 hk2 hk3 hT2 hba htk hat1 hn1
                    go_wp2_with (first | (go_at_call 10; (with_reducible refine (H1.out _ _ HALL.out.iW HALL.out.bl).mono ?_); rintro e w9 ⟨rfl, hp⟩; obtain ⟨F9, hp⟩ := HALL.out.t hp; have n0_ := Aside0.mk hp; clear HALL hp; have HALL := n0_; clear n0_; have c2_ := blk_cell HALL.out.st 2; have c3_ := blk_cell HALL.out.st 3; have c4_ := blk_cell HALL.out.st 4) | (go_at_call 18; (with_reducible refine (H2.out _ _ HALL.out.iD HALL.out.bl).mono ?_); rintro e w9 ⟨rfl, hp⟩; obtain ⟨F9, hp⟩ := HALL.out.d hp; have n0_ := Aside0.mk hp; clear HALL hp; have HALL := n0_; clear n0_; have c2_ := blk_cell HALL.out.st 2; have c3_ := blk_cell HALL.out.st 3; have c4_ := blk_cell HALL.out.st 4))
                    go_meet
                    exact ⟨rfl, _, HALL.out.aft (i := i) HN1.out (by omega)⟩
                  · have H1 := Aside0.mk (fun F' w' h hB => set_bad w g F' last T i R now' x.a2 x.a4 x.a3 hba T2 hT2 w' h hB)
                    have H2 := Aside0.mk (fun F' w' h hB => dset_bade w gr F' T last R now' x.a2 x.a4 x.a3 hba T2 hT2 w' h hB)
                    clear hk1 hk2 hk3 hT2 hba
                    go_wp2_with (first | (go_at_call 10; (with_reducible refine (H1.out _ _ HALL.out.iW HALL.out.bl).mono ?_); rintro e w9 ⟨rfl, hp⟩; obtain ⟨F9, hp⟩ := HALL.out.t hp; have n0_ := Aside0.mk hp; clear HALL hp; have HALL := n0_; clear n0_; have c2_ := blk_cell HALL.out.st 2; have c3_ := blk_cell HALL.out.st 3; have c4_ := blk_cell HALL.out.st 4) | (go_at_call 18; (with_reducible refine (H2.out _ _ HALL.out.iD HALL.out.bl).mono ?_); rintro e w9 ⟨rfl, hp⟩; obtain ⟨F9, hp⟩ := HALL.out.d hp; have n0_ := Aside0.mk hp; clear HALL hp; have HALL := n0_; clear n0_; have c2_ := blk_cell HALL.out.st 2; have c3_ := blk_cell HALL.out.st 3; have c4_ := blk_cell HALL.out.st 4))
                    go_meet
                    exact ⟨rfl, _, HALL.out.aft (i := i) (by have := HBD.out; omega) (by omega)⟩

          case rest =>
            clear HALL
            obtain ⟨rfl, L1, F2, Fr2, last1, T1, m1, ha, HBD1, HM1⟩ := hcut
            have HALL := Aside0.mk ha
            clear ha
            have HL1 := Aside0.mk (show m1 ≤ 1000 from by have := HM1.out; omega)
            have HLS1 := Aside0.mk (show last1 ≤ 1000 from by have := HBD1.out; omega)
            obtain ⟨kk, hkk⟩ : ∃ kk, L1.length = kk := ⟨_, rfl⟩
            have HLEN := Aside0.mk (fun F' w' h => len_v w g F' last1 T1 m1 L1 kk hkk w' h)
            have HNOW := Aside0.mk (fun F' w' h => now_v w g F' last1 T1 m1 L1 w' h)
            have HKK := Aside0.mk hkk
            clear hkk
            by_cases hL1 : L1 = []
            · have HNX := Aside0.mk (fun F' w' h hB => next_v w g F' last1 T1 m1 L1 HL1.out HLS1.out 0 (by rw [hL1]; rfl) false (by rw [hL1]; rfl) w' h hB)
              obtain rfl : kk = 0 := by rw [← HKK.out, hL1]; rfl
              have HLN := Aside0.mk hL1
              clear hL1
              go_upto_region 23 with ((go_at_call 19; (with_reducible refine (HNX.out _ _ HALL.out.iW HALL.out.bl).mono ?_); rintro e w9 ⟨rfl, hp⟩; obtain ⟨F9, hp⟩ := HALL.out.t hp; have n0_ := Aside0.mk hp; clear HALL hp; have HALL := n0_; clear n0_))
              have n0_ := Aside0.mk HALL.out.drew
              clear HALL
              try clear c2_
              try clear c3_
              try clear c4_
              have HALL := n0_
              clear n0_
              obtain ⟨A2, c2, r2, _⟩ := HALL.out.iD.reads
              rw [HKK.out] at r2
              have r0 := HALL.out.iD.c0
              have f2 : (T1 != T1) = false := by simp
              refine start_ (n := 37) (S := fun w' => w'.cell? ⟨gr, 2, none⟩ = some (.slice A2 0 c2) ∧ w'.cell? ⟨gr, 0, none⟩ = some (.int .i64 T1)) (ds := []) #[false, false, false, false, false, false, false, false, false, false, false, false, false, false, false, false, false, false, false, false, false, false, false, false, false, false, false, false, false, false, false, false, false, false, false, false, false] (by kernel_rfl) rfl rfl ⟨r2, r0⟩ (fun hHeld => ?_)
              refine pure_ (i := 0) (N := some 106) (v := ?_) (a' := ?_) #[true, false, false, false, false, false, false, false, false, false, false, false, false, false, false, false, false, false, false, false, false, false, false, false, false, false, false, false, false, false, false, false, false, false, false, false, false] rfl rfl (by kernel_rfl) (fun _ _ _ h => h) (Or.inl ⟨by rfl, ?_⟩) ?_ ?_
              rotate_left
              · intro w'
                go_simp
                with_reducible rfl
              rotate_left
              · simp only [Act.put, List.setIfInBounds_toArray, List.set_cons_zero, List.set_cons_succ, i64_w, i32_w]
                rfl
              refine pure_ (i := 1) (N := some 107) (v := ?_) (a' := ?_) #[true, true, false, false, false, false, false, false, false, false, false, false, false, false, false, false, false, false, false, false, false, false, false, false, false, false, false, false, false, false, false, false, false, false, false, false, false] rfl rfl (by kernel_rfl) (fun _ _ _ h => h) (Or.inl ⟨by rfl, ?_⟩) ?_ ?_
              rotate_left
              · intro w'
                go_simp
                with_reducible rfl
              rotate_left
              · simp only [Act.put, List.setIfInBounds_toArray, List.set_cons_zero, List.set_cons_succ, i64_w, i32_w]
                rfl
              refine pure_ (i := 2) (N := some 108) (v := ?_) (a' := ?_) #[true, true, true, false, false, false, false, false, false, false, false, false, false, false, false, false, false, false, false, false, false, false, false, false, false, false, false, false, false, false, false, false, false, false, false, false, false] rfl rfl (by kernel_rfl) (fun _ _ _ h => h) (Or.inl ⟨by rfl, ?_⟩) ?_ ?_
              rotate_left
              · intro w'
                go_simp
                with_reducible rfl
              rotate_left
              · simp only [Act.put, List.setIfInBounds_toArray, List.set_cons_zero, List.set_cons_succ, i64_w, i32_w]
                rfl
              refine pure_ (i := 3) (N := some 109) (v := ?_) (a' := ?_) #[true, true, true, true, false, false, false, false, false, false, false, false, false, false, false, false, false, false, false, false, false, false, false, false, false, false, false, false, false, false, false, false, false, false, false, false, false] rfl rfl (by kernel_rfl) (fun _ _ _ h => h) (Or.inl ⟨by rfl, ?_⟩) ?_ ?_
              rotate_left
              · intro w'
                go_simp
                with_reducible rfl
              rotate_left
              · simp only [Act.put, List.setIfInBounds_toArray, List.set_cons_zero, List.set_cons_succ, i64_w, i32_w]
                rfl
              refine pure_ (i := 5) (N := some 111) (v := ?_) (a' := ?_) #[true, true, true, true, false, true, false, false, false, false, false, false, false, false, false, false, false, false, false, false, false, false, false, false, false, false, false, false, false, false, false, false, false, false, false, false, false] rfl rfl (by kernel_rfl) (fun _ _ _ h => h) (Or.inl ⟨by rfl, ?_⟩) ?_ ?_
              rotate_left
              · intro w'
                go_simp
                with_reducible rfl
              rotate_left
              · simp only [Act.put, List.setIfInBounds_toArray, List.set_cons_zero, List.set_cons_succ, i64_w, i32_w]
                rfl
              refine take_ (i := 6) (N := some 112) (v := ?_) (a' := ?_) #[true, true, true, true, false, true, true, false, false, false, false, false, false, false, false, false, false, false, false, false, false, false, false, false, false, false, false, false, false, false, false, false, false, false, false, false, false] rfl rfl (by kernel_rfl) (fun _ _ _ h => h) (Or.inl ⟨by rfl, ?_⟩) hHeld ?_ ?_
              rotate_left
              · rintro w' ⟨s0, s1⟩
                go_simp
                with_reducible rfl
              rotate_left
              · simp only [Act.put, List.setIfInBounds_toArray, List.set_cons_zero, List.set_cons_succ, i64_w, i32_w]
                rfl
              refine pure_ (i := 7) (N := some 113) (v := ?_) (a' := ?_) #[true, true, true, true, false, true, true, true, false, false, false, false, false, false, false, false, false, false, false, false, false, false, false, false, false, false, false, false, false, false, false, false, false, false, false, false, false] rfl rfl (by kernel_rfl) (fun _ _ _ h => h) (Or.inl ⟨by rfl, ?_⟩) ?_ ?_
              rotate_left
              · intro w'
                go_simp
                with_reducible rfl
              rotate_left
              · simp only [Act.put, List.setIfInBounds_toArray, List.set_cons_zero, List.set_cons_succ, i64_w, i32_w]
                rfl
              refine one_ (i := 4) (N := some 110) #[true, true, true, true, true, true, true, true, false, false, false, false, false, false, false, false, false, false, false, false, false, false, false, false, false, false, false, false, false, false, false, false, false, false, false, false, false] rfl rfl (by kernel_rfl) (by decide) (fun K hK => ?_)
              refine goes_ Try.func11 (by kernel_rfl) rfl #[.pointer (some ⟨g, 0, none⟩)] (by rfl) rfl rfl (by simp only [List.map_toArray, List.map_cons, List.map_nil]; rfl) ?_
              with_reducible refine (HLEN.out _ _ HALL.out.iW).mono ?_
              rintro e w9 ⟨rfl, rfl⟩
              refine ⟨_, rfl, ?_⟩
              refine hK.out _ _ ⟨r2, r0⟩ (fun hHeld => ?_)
              clear hK K
              refine norm_ (a' := ?_) ?_ ?_
              rotate_left
              · show Act.put _ (some 110) _ = _
                simp only [Act.put, List.setIfInBounds_toArray, List.set_cons_zero, List.set_cons_succ, i64_w, i32_w]
                rfl
              refine pure_ (i := 8) (N := some 114) (v := ?_) (a' := ?_) #[true, true, true, true, true, true, true, true, true, false, false, false, false, false, false, false, false, false, false, false, false, false, false, false, false, false, false, false, false, false, false, false, false, false, false, false, false] rfl rfl (by kernel_rfl) (fun _ _ _ h => h) (Or.inl ⟨by rfl, ?_⟩) ?_ ?_
              rotate_left
              · intro w'
                go_simp
                with_reducible rfl
              rotate_left
              · simp only [Act.put, List.setIfInBounds_toArray, List.set_cons_zero, List.set_cons_succ, i64_w, i32_w]
                rfl
              refine pure_ (i := 9) (N := some 115) (v := ?_) (a' := ?_) #[true, true, true, true, true, true, true, true, true, true, false, false, false, false, false, false, false, false, false, false, false, false, false, false, false, false, false, false, false, false, false, false, false, false, false, false, false] rfl rfl (by kernel_rfl) (fun _ _ _ h => h) (Or.inl ⟨by rfl, ?_⟩) ?_ ?_
              rotate_left
              · intro w'
                go_simp
                with_reducible rfl
              rotate_left
              · simp only [Act.put, List.setIfInBounds_toArray, List.set_cons_zero, List.set_cons_succ, i64_w, i32_w]
                rfl
              refine pure_ (i := 10) (N := some 116) (v := ?_) (a' := ?_) #[true, true, true, true, true, true, true, true, true, true, true, false, false, false, false, false, false, false, false, false, false, false, false, false, false, false, false, false, false, false, false, false, false, false, false, false, false] rfl rfl (by kernel_rfl) (fun _ _ _ h => h) (Or.inl ⟨by rfl, ?_⟩) ?_ ?_
              rotate_left
              · intro w'
                go_simp
                with_reducible rfl
              rotate_left
              · simp only [Act.put, List.setIfInBounds_toArray, List.set_cons_zero, List.set_cons_succ, i64_w, i32_w]
                rfl
              refine pure_ (i := 11) (N := some 117) (v := ?_) (a' := ?_) #[true, true, true, true, true, true, true, true, true, true, true, true, false, false, false, false, false, false, false, false, false, false, false, false, false, false, false, false, false, false, false, false, false, false, false, false, false] rfl rfl (by kernel_rfl) (fun _ _ _ h => h) (Or.inl ⟨by rfl, ?_⟩) ?_ ?_
              rotate_left
              · intro w'
                go_simp
                with_reducible rfl
              rotate_left
              · simp only [Act.put, List.setIfInBounds_toArray, List.set_cons_zero, List.set_cons_succ, i64_w, i32_w]
                rfl
              refine pure_ (i := 13) (N := some 119) (v := ?_) (a' := ?_) #[true, true, true, true, true, true, true, true, true, true, true, true, false, true, false, false, false, false, false, false, false, false, false, false, false, false, false, false, false, false, false, false, false, false, false, false, false] rfl rfl (by kernel_rfl) (fun _ _ _ h => h) (Or.inl ⟨by rfl, ?_⟩) ?_ ?_
              rotate_left
              · intro w'
                go_simp
                with_reducible rfl
              rotate_left
              · simp only [Act.put, List.setIfInBounds_toArray, List.set_cons_zero, List.set_cons_succ, i64_w, i32_w]
                rfl
              refine take_ (i := 14) (N := some 120) (v := ?_) (a' := ?_) #[true, true, true, true, true, true, true, true, true, true, true, true, false, true, true, false, false, false, false, false, false, false, false, false, false, false, false, false, false, false, false, false, false, false, false, false, false] rfl rfl (by kernel_rfl) (fun _ _ _ h => h) (Or.inl ⟨by rfl, ?_⟩) hHeld ?_ ?_
              rotate_left
              · rintro w' ⟨s0, s1⟩
                go_simp
                with_reducible rfl
              rotate_left
              · simp only [Act.put, List.setIfInBounds_toArray, List.set_cons_zero, List.set_cons_succ, i64_w, i32_w]
                rfl
              refine one_ (i := 12) (N := some 118) #[true, true, true, true, true, true, true, true, true, true, true, true, true, true, true, false, false, false, false, false, false, false, false, false, false, false, false, false, false, false, false, false, false, false, false, false, false] rfl rfl (by kernel_rfl) (by decide) (fun K hK => ?_)
              refine goes_ Try.func20 (by kernel_rfl) rfl #[.pointer (some ⟨g, 0, none⟩)] (by rfl) rfl rfl (by simp only [List.map_toArray, List.map_cons, List.map_nil]; rfl) ?_
              with_reducible refine (HNOW.out _ _ HALL.out.iW).mono ?_
              rintro e w9 ⟨rfl, rfl⟩
              refine ⟨_, rfl, ?_⟩
              refine hK.out _ _ ⟨r2, r0⟩ (fun hHeld => ?_)
              clear hK K
              refine norm_ (a' := ?_) ?_ ?_
              rotate_left
              · show Act.put _ (some 118) _ = _
                simp only [Act.put, List.setIfInBounds_toArray, List.set_cons_zero, List.set_cons_succ, i64_w, i32_w]
                rfl
              refine pure_ (i := 15) (N := some 121) (v := ?_) (a' := ?_) #[true, true, true, true, true, true, true, true, true, true, true, true, true, true, true, true, false, false, false, false, false, false, false, false, false, false, false, false, false, false, false, false, false, false, false, false, false] rfl rfl (by kernel_rfl) (fun _ _ _ h => h) (Or.inl ⟨by rfl, ?_⟩) ?_ ?_
              rotate_left
              · intro w'
                go_simp
                with_reducible rfl
              rotate_left
              · simp only [Act.put, List.setIfInBounds_toArray, List.set_cons_zero, List.set_cons_succ, i64_w, i32_w]
                rfl
              refine pure_ (i := 16) (N := some 122) (v := ?_) (a' := ?_) #[true, true, true, true, true, true, true, true, true, true, true, true, true, true, true, true, true, false, false, false, false, false, false, false, false, false, false, false, false, false, false, false, false, false, false, false, false] rfl rfl (by kernel_rfl) (fun _ _ _ h => h) (Or.inl ⟨by rfl, ?_⟩) ?_ ?_
              rotate_left
              · intro w'
                go_simp
                with_reducible rfl
              rotate_left
              · simp only [Act.put, List.setIfInBounds_toArray, List.set_cons_zero, List.set_cons_succ, i64_w, i32_w]
                rfl
              refine pure_ (i := 17) (N := some 123) (v := ?_) (a' := ?_) #[true, true, true, true, true, true, true, true, true, true, true, true, true, true, true, true, true, true, false, false, false, false, false, false, false, false, false, false, false, false, false, false, false, false, false, false, false] rfl rfl (by kernel_rfl) (fun _ _ _ h => h) (Or.inl ⟨by rfl, ?_⟩) ?_ ?_
              rotate_left
              · intro w'
                go_simp
                with_reducible rfl
              rotate_left
              · simp only [Act.put, List.setIfInBounds_toArray, List.set_cons_zero, List.set_cons_succ, i64_w, i32_w]
                rfl
              refine pure_ (i := 18) (N := some 124) (v := ?_) (a' := ?_) #[true, true, true, true, true, true, true, true, true, true, true, true, true, true, true, true, true, true, true, false, false, false, false, false, false, false, false, false, false, false, false, false, false, false, false, false, false] rfl rfl (by kernel_rfl) (fun _ _ _ h => h) (Or.inl ⟨by rfl, ?_⟩) ?_ ?_
              rotate_left
              · intro w'
                go_simp
                with_reducible rfl
              rotate_left
              · simp only [Act.put, List.setIfInBounds_toArray, List.set_cons_zero, List.set_cons_succ, i64_w, i32_w]
                rfl
              refine pure_ (i := 19) (N := some 125) (v := ?_) (a' := ?_) #[true, true, true, true, true, true, true, true, true, true, true, true, true, true, true, true, true, true, true, true, false, false, false, false, false, false, false, false, false, false, false, false, false, false, false, false, false] rfl rfl (by kernel_rfl) (fun _ _ _ h => h) (Or.inl ⟨by rfl, ?_⟩) ?_ ?_
              rotate_left
              · intro w'
                go_simp
                with_reducible rfl
              rotate_left
              · simp only [Act.put, List.setIfInBounds_toArray, List.set_cons_zero, List.set_cons_succ, i64_w, i32_w]
                rfl
              refine take_ (i := 20) (N := some 126) (v := ?_) (a' := ?_) #[true, true, true, true, true, true, true, true, true, true, true, true, true, true, true, true, true, true, true, true, true, false, false, false, false, false, false, false, false, false, false, false, false, false, false, false, false] rfl rfl (by kernel_rfl) (fun _ _ _ h => h) (Or.inl ⟨by rfl, ?_⟩) hHeld ?_ ?_
              rotate_left
              · rintro w' ⟨s0, s1⟩
                go_simp
                with_reducible rfl
              rotate_left
              · simp only [Act.put, List.setIfInBounds_toArray, List.set_cons_zero, List.set_cons_succ, i64_w, i32_w]
                rfl
              refine pure_ (i := 21) (N := some 127) (v := ?_) (a' := ?_) #[true, true, true, true, true, true, true, true, true, true, true, true, true, true, true, true, true, true, true, true, true, true, false, false, false, false, false, false, false, false, false, false, false, false, false, false, false] rfl rfl (by kernel_rfl) (fun _ _ _ h => h) (Or.inl ⟨by rfl, ?_⟩) ?_ ?_
              rotate_left
              · intro w'
                go_simp
                with_reducible rfl
              rotate_left
              · simp only [Act.put, List.setIfInBounds_toArray, List.set_cons_zero, List.set_cons_succ, i64_w, i32_w]
                rfl
              refine pure_ (i := 22) (N := some 128) (v := ?_) (a' := ?_) #[true, true, true, true, true, true, true, true, true, true, true, true, true, true, true, true, true, true, true, true, true, true, true, false, false, false, false, false, false, false, false, false, false, false, false, false, false] rfl rfl (by kernel_rfl) (fun _ _ _ h => h) (Or.inl ⟨by rfl, ?_⟩) ?_ ?_
              rotate_left
              · intro w'
                go_simp
                with_reducible rfl
              rotate_left
              · simp only [Act.put, List.setIfInBounds_toArray, List.set_cons_zero, List.set_cons_succ, i64_w, i32_w]
                rfl
              refine pure_ (i := 23) (N := some 129) (v := ?_) (a' := ?_) #[true, true, true, true, true, true, true, true, true, true, true, true, true, true, true, true, true, true, true, true, true, true, true, true, false, false, false, false, false, false, false, false, false, false, false, false, false] rfl rfl (by kernel_rfl) (fun _ _ _ h => h) (Or.inl ⟨by rfl, ?_⟩) ?_ ?_
              rotate_left
              · intro w'
                go_simp
                with_reducible rfl
              rotate_left
              · simp only [Act.put, List.setIfInBounds_toArray, List.set_cons_zero, List.set_cons_succ, i64_w, i32_w]
                rfl
              refine pure_ (i := 24) (N := some 130) (v := ?_) (a' := ?_) #[true, true, true, true, true, true, true, true, true, true, true, true, true, true, true, true, true, true, true, true, true, true, true, true, true, false, false, false, false, false, false, false, false, false, false, false, false] rfl rfl (by kernel_rfl) (fun _ _ _ h => h) (Or.inl ⟨by rfl, ?_⟩) ?_ ?_
              rotate_left
              · intro w'
                go_simp
                with_reducible rfl
              rotate_left
              · simp only [Act.put, List.setIfInBounds_toArray, List.set_cons_zero, List.set_cons_succ, i64_w, i32_w]
                rfl
              refine pure_ (i := 25) (N := some 131) (v := ?_) (a' := ?_) #[true, true, true, true, true, true, true, true, true, true, true, true, true, true, true, true, true, true, true, true, true, true, true, true, true, true, false, false, false, false, false, false, false, false, false, false, false] rfl rfl (by kernel_rfl) (fun _ _ _ h => h) (Or.inl ⟨by rfl, ?_⟩) ?_ ?_
              rotate_left
              · intro w'
                go_simp
                with_reducible rfl
              rotate_left
              · simp only [Act.put, List.setIfInBounds_toArray, List.set_cons_zero, List.set_cons_succ, i64_w, i32_w]
                rfl
              refine pure_ (i := 26) (N := some 132) (v := ?_) (a' := ?_) #[true, true, true, true, true, true, true, true, true, true, true, true, true, true, true, true, true, true, true, true, true, true, true, true, true, true, true, false, false, false, false, false, false, false, false, false, false] rfl rfl (by kernel_rfl) (fun _ _ _ h => h) (Or.inl ⟨by rfl, ?_⟩) ?_ ?_
              rotate_left
              · intro w'
                go_simp
                with_reducible rfl
              rotate_left
              · simp only [Act.put, List.setIfInBounds_toArray, List.set_cons_zero, List.set_cons_succ, i64_w, i32_w]
                rfl
              refine pure_ (i := 27) (N := some 133) (v := ?_) (a' := ?_) #[true, true, true, true, true, true, true, true, true, true, true, true, true, true, true, true, true, true, true, true, true, true, true, true, true, true, true, true, false, false, false, false, false, false, false, false, false] rfl rfl (by kernel_rfl) (fun _ _ _ h => h) (Or.inl ⟨by rfl, ?_⟩) ?_ ?_
              rotate_left
              · intro w'
                go_simp
                with_reducible rfl
              rotate_left
              · simp only [Act.put, List.setIfInBounds_toArray, List.set_cons_zero, List.set_cons_succ, i64_w, i32_w]
                rfl
              refine pure_ (i := 28) (N := some 134) (v := undef) (a' := ?_) #[true, true, true, true, true, true, true, true, true, true, true, true, true, true, true, true, true, true, true, true, true, true, true, true, true, true, true, true, true, false, false, false, false, false, false, false, false] rfl rfl (by kernel_rfl) (fun _ _ _ h => h) (Or.inr ⟨by rfl, rfl⟩) ?_ ?_
              rotate_left
              · simp only [Act.put, List.setIfInBounds_toArray, List.set_cons_zero, List.set_cons_succ, i64_w, i32_w]
                rfl
              refine pure_ (i := 29) (N := some 135) (v := undef) (a' := ?_) #[true, true, true, true, true, true, true, true, true, true, true, true, true, true, true, true, true, true, true, true, true, true, true, true, true, true, true, true, true, true, false, false, false, false, false, false, false] rfl rfl (by kernel_rfl) (fun _ _ _ h => h) (Or.inr ⟨by rfl, rfl⟩) ?_ ?_
              rotate_left
              · simp only [Act.put, List.setIfInBounds_toArray, List.set_cons_zero, List.set_cons_succ, i64_w, i32_w]
                rfl
              refine pure_ (i := 30) (N := some 136) (v := undef) (a' := ?_) #[true, true, true, true, true, true, true, true, true, true, true, true, true, true, true, true, true, true, true, true, true, true, true, true, true, true, true, true, true, true, true, false, false, false, false, false, false] rfl rfl (by kernel_rfl) (fun _ _ _ h => h) (Or.inr ⟨by rfl, rfl⟩) ?_ ?_
              rotate_left
              · simp only [Act.put, List.setIfInBounds_toArray, List.set_cons_zero, List.set_cons_succ, i64_w, i32_w]
                rfl
              refine pure_ (i := 31) (N := some 137) (v := undef) (a' := ?_) #[true, true, true, true, true, true, true, true, true, true, true, true, true, true, true, true, true, true, true, true, true, true, true, true, true, true, true, true, true, true, true, true, false, false, false, false, false] rfl rfl (by kernel_rfl) (fun _ _ _ h => h) (Or.inr ⟨by rfl, rfl⟩) ?_ ?_
              rotate_left
              · simp only [Act.put, List.setIfInBounds_toArray, List.set_cons_zero, List.set_cons_succ, i64_w, i32_w]
                rfl
              refine pure_ (i := 32) (N := some 138) (v := undef) (a' := ?_) #[true, true, true, true, true, true, true, true, true, true, true, true, true, true, true, true, true, true, true, true, true, true, true, true, true, true, true, true, true, true, true, true, true, false, false, false, false] rfl rfl (by kernel_rfl) (fun _ _ _ h => h) (Or.inr ⟨by rfl, rfl⟩) ?_ ?_
              rotate_left
              · simp only [Act.put, List.setIfInBounds_toArray, List.set_cons_zero, List.set_cons_succ, i64_w, i32_w]
                rfl
              refine pure_ (i := 33) (N := some 139) (v := undef) (a' := ?_) #[true, true, true, true, true, true, true, true, true, true, true, true, true, true, true, true, true, true, true, true, true, true, true, true, true, true, true, true, true, true, true, true, true, true, false, false, false] rfl rfl (by kernel_rfl) (fun _ _ _ h => h) (Or.inr ⟨by rfl, rfl⟩) ?_ ?_
              rotate_left
              · simp only [Act.put, List.setIfInBounds_toArray, List.set_cons_zero, List.set_cons_succ, i64_w, i32_w]
                rfl
              refine pure_ (i := 34) (N := some 140) (v := undef) (a' := ?_) #[true, true, true, true, true, true, true, true, true, true, true, true, true, true, true, true, true, true, true, true, true, true, true, true, true, true, true, true, true, true, true, true, true, true, true, false, false] rfl rfl (by kernel_rfl) (fun _ _ _ h => h) (Or.inr ⟨by rfl, rfl⟩) ?_ ?_
              rotate_left
              · simp only [Act.put, List.setIfInBounds_toArray, List.set_cons_zero, List.set_cons_succ, i64_w, i32_w]
                rfl
              refine pure_ (i := 35) (N := some 141) (v := ?_) (a' := ?_) #[true, true, true, true, true, true, true, true, true, true, true, true, true, true, true, true, true, true, true, true, true, true, true, true, true, true, true, true, true, true, true, true, true, true, true, true, false] rfl rfl (by kernel_rfl) (fun _ _ _ h => h) (Or.inl ⟨by rfl, ?_⟩) ?_ ?_
              rotate_left
              · intro w'
                go_simp
                with_reducible rfl
              rotate_left
              · simp only [Act.put, List.setIfInBounds_toArray, List.set_cons_zero, List.set_cons_succ, i64_w, i32_w]
                rfl
              refine pure_ (i := 36) (N := some 142) (v := ?_) (a' := ?_) #[true, true, true, true, true, true, true, true, true, true, true, true, true, true, true, true, true, true, true, true, true, true, true, true, true, true, true, true, true, true, true, true, true, true, true, true, true] rfl rfl (by kernel_rfl) (fun _ _ _ h => h) (Or.inl ⟨by rfl, ?_⟩) ?_ ?_
              rotate_left
              · intro w'
                go_simp
                with_reducible rfl
              rotate_left
              · simp only [Act.put, List.setIfInBounds_toArray, List.set_cons_zero, List.set_cons_succ, i64_w, i32_w]
                rfl
              refine done_ (by kernel_rfl) ?_
              go_wp2_with fail
              go_roundw
              case rel => exact ⟨i + 1, _, _, last1, T1, L1, by go_num, ⟨by omega⟩, HBD1, ⟨HALL.out.iW.up HM1.out⟩, ⟨HALL.out.iD⟩, ⟨HALL.out.bl⟩, ⟨HALL.out.ap⟩⟩
              case measure => simp [intOf]; omega
            · obtain ⟨t1, L2, hcons⟩ : ∃ t L2, L1 = t :: L2 := by
                cases h : L1 with
                | nil => exact absurd h hL1
                | cons t L2 => exact ⟨t, L2, rfl⟩
              have HNX := Aside0.mk (fun F' w' h hB => next_v w g F' last1 T1 m1 L1 HL1.out HLS1.out t1.att (by rw [hcons]; rfl) true (by rw [hcons]; rfl) w' h hB)
              have hk0 : 0 < kk := by rw [← HKK.out, hcons]; simp
              have dk : decide ((0 : Int) < (kk : Int)) = true := decide_eq_true (by omega)
              have HCO := Aside0.mk hcons
              clear hL1 hcons
              go_upto_region 23 with ((go_at_call 19; (with_reducible refine (HNX.out _ _ HALL.out.iW HALL.out.bl).mono ?_); rintro e w9 ⟨rfl, hp⟩; obtain ⟨F9, hp⟩ := HALL.out.t hp; have n0_ := Aside0.mk hp; clear HALL hp; have HALL := n0_; clear n0_))
              have n0_ := Aside0.mk HALL.out.drew
              clear HALL
              try clear c2_
              try clear c3_
              try clear c4_
              have HALL := n0_
              clear n0_
              obtain ⟨A2, c2, r2, hr⟩ := HALL.out.iD.reads
              obtain ⟨gb2, o2, rfl, r3⟩ := hr t1 L2 HCO.out
              rw [HKK.out] at r2
              have r0 := HALL.out.iD.c0
              have f1 : ((kk : Int) != (kk : Int)) = false := by simp
              have f2 : (T1 != T1) = false := by simp
              have f3 : (t1.att != t1.att) = false := by simp
              clear hr
              refine start_ (n := 37) (S := fun w' => w'.cell? ⟨gr, 2, none⟩ = some (.slice (some ⟨gb2, o2, none⟩) kk c2) ∧ w'.cell? ⟨gr, 0, none⟩ = some (.int .i64 T1) ∧ w'.cell? ⟨gb2, o2 + 3, none⟩ = some (.int .i64 t1.att)) (ds := []) #[false, false, false, false, false, false, false, false, false, false, false, false, false, false, false, false, false, false, false, false, false, false, false, false, false, false, false, false, false, false, false, false, false, false, false, false, false] (by kernel_rfl) rfl rfl ⟨r2, r0, r3⟩ (fun hHeld => ?_)
              refine pure_ (i := 0) (N := some 106) (v := ?_) (a' := ?_) #[true, false, false, false, false, false, false, false, false, false, false, false, false, false, false, false, false, false, false, false, false, false, false, false, false, false, false, false, false, false, false, false, false, false, false, false, false] rfl rfl (by kernel_rfl) (fun _ _ _ h => h) (Or.inl ⟨by rfl, ?_⟩) ?_ ?_
              rotate_left
              · intro w'
                go_simp
                with_reducible rfl
              rotate_left
              · simp only [Act.put, List.setIfInBounds_toArray, List.set_cons_zero, List.set_cons_succ, i64_w, i32_w]
                rfl
              refine pure_ (i := 1) (N := some 107) (v := ?_) (a' := ?_) #[true, true, false, false, false, false, false, false, false, false, false, false, false, false, false, false, false, false, false, false, false, false, false, false, false, false, false, false, false, false, false, false, false, false, false, false, false] rfl rfl (by kernel_rfl) (fun _ _ _ h => h) (Or.inl ⟨by rfl, ?_⟩) ?_ ?_
              rotate_left
              · intro w'
                go_simp
                with_reducible rfl
              rotate_left
              · simp only [Act.put, List.setIfInBounds_toArray, List.set_cons_zero, List.set_cons_succ, i64_w, i32_w]
                rfl
              refine pure_ (i := 2) (N := some 108) (v := ?_) (a' := ?_) #[true, true, true, false, false, false, false, false, false, false, false, false, false, false, false, false, false, false, false, false, false, false, false, false, false, false, false, false, false, false, false, false, false, false, false, false, false] rfl rfl (by kernel_rfl) (fun _ _ _ h => h) (Or.inl ⟨by rfl, ?_⟩) ?_ ?_
              rotate_left
              · intro w'
                go_simp
                with_reducible rfl
              rotate_left
              · simp only [Act.put, List.setIfInBounds_toArray, List.set_cons_zero, List.set_cons_succ, i64_w, i32_w]
                rfl
              refine pure_ (i := 3) (N := some 109) (v := ?_) (a' := ?_) #[true, true, true, true, false, false, false, false, false, false, false, false, false, false, false, false, false, false, false, false, false, false, false, false, false, false, false, false, false, false, false, false, false, false, false, false, false] rfl rfl (by kernel_rfl) (fun _ _ _ h => h) (Or.inl ⟨by rfl, ?_⟩) ?_ ?_
              rotate_left
              · intro w'
                go_simp
                with_reducible rfl
              rotate_left
              · simp only [Act.put, List.setIfInBounds_toArray, List.set_cons_zero, List.set_cons_succ, i64_w, i32_w]
                rfl
              refine pure_ (i := 5) (N := some 111) (v := ?_) (a' := ?_) #[true, true, true, true, false, true, false, false, false, false, false, false, false, false, false, false, false, false, false, false, false, false, false, false, false, false, false, false, false, false, false, false, false, false, false, false, false] rfl rfl (by kernel_rfl) (fun _ _ _ h => h) (Or.inl ⟨by rfl, ?_⟩) ?_ ?_
              rotate_left
              · intro w'
                go_simp
                with_reducible rfl
              rotate_left
              · simp only [Act.put, List.setIfInBounds_toArray, List.set_cons_zero, List.set_cons_succ, i64_w, i32_w]
                rfl
              refine take_ (i := 6) (N := some 112) (v := ?_) (a' := ?_) #[true, true, true, true, false, true, true, false, false, false, false, false, false, false, false, false, false, false, false, false, false, false, false, false, false, false, false, false, false, false, false, false, false, false, false, false, false] rfl rfl (by kernel_rfl) (fun _ _ _ h => h) (Or.inl ⟨by rfl, ?_⟩) hHeld ?_ ?_
              rotate_left
              · rintro w' ⟨s0, s1, s2⟩
                go_simp
                with_reducible rfl
              rotate_left
              · simp only [Act.put, List.setIfInBounds_toArray, List.set_cons_zero, List.set_cons_succ, i64_w, i32_w]
                rfl
              refine pure_ (i := 7) (N := some 113) (v := ?_) (a' := ?_) #[true, true, true, true, false, true, true, true, false, false, false, false, false, false, false, false, false, false, false, false, false, false, false, false, false, false, false, false, false, false, false, false, false, false, false, false, false] rfl rfl (by kernel_rfl) (fun _ _ _ h => h) (Or.inl ⟨by rfl, ?_⟩) ?_ ?_
              rotate_left
              · intro w'
                go_simp
                with_reducible rfl
              rotate_left
              · simp only [Act.put, List.setIfInBounds_toArray, List.set_cons_zero, List.set_cons_succ, i64_w, i32_w]
                rfl
              refine one_ (i := 4) (N := some 110) #[true, true, true, true, true, true, true, true, false, false, false, false, false, false, false, false, false, false, false, false, false, false, false, false, false, false, false, false, false, false, false, false, false, false, false, false, false] rfl rfl (by kernel_rfl) (by decide) (fun K hK => ?_)
              refine goes_ Try.func11 (by kernel_rfl) rfl #[.pointer (some ⟨g, 0, none⟩)] (by rfl) rfl rfl (by simp only [List.map_toArray, List.map_cons, List.map_nil]; rfl) ?_
              with_reducible refine (HLEN.out _ _ HALL.out.iW).mono ?_
              rintro e w9 ⟨rfl, rfl⟩
              refine ⟨_, rfl, ?_⟩
              refine hK.out _ _ ⟨r2, r0, r3⟩ (fun hHeld => ?_)
              clear hK K
              refine norm_ (a' := ?_) ?_ ?_
              rotate_left
              · show Act.put _ (some 110) _ = _
                simp only [Act.put, List.setIfInBounds_toArray, List.set_cons_zero, List.set_cons_succ, i64_w, i32_w]
                rfl
              refine pure_ (i := 8) (N := some 114) (v := ?_) (a' := ?_) #[true, true, true, true, true, true, true, true, true, false, false, false, false, false, false, false, false, false, false, false, false, false, false, false, false, false, false, false, false, false, false, false, false, false, false, false, false] rfl rfl (by kernel_rfl) (fun _ _ _ h => h) (Or.inl ⟨by rfl, ?_⟩) ?_ ?_
              rotate_left
              · intro w'
                go_simp
                with_reducible rfl
              rotate_left
              · simp only [Act.put, List.setIfInBounds_toArray, List.set_cons_zero, List.set_cons_succ, i64_w, i32_w]
                rfl
              refine pure_ (i := 9) (N := some 115) (v := ?_) (a' := ?_) #[true, true, true, true, true, true, true, true, true, true, false, false, false, false, false, false, false, false, false, false, false, false, false, false, false, false, false, false, false, false, false, false, false, false, false, false, false] rfl rfl (by kernel_rfl) (fun _ _ _ h => h) (Or.inl ⟨by rfl, ?_⟩) ?_ ?_
              rotate_left
              · intro w'
                go_simp
                with_reducible rfl
              rotate_left
              · simp only [Act.put, List.setIfInBounds_toArray, List.set_cons_zero, List.set_cons_succ, i64_w, i32_w]
                rfl
              refine pure_ (i := 10) (N := some 116) (v := ?_) (a' := ?_) #[true, true, true, true, true, true, true, true, true, true, true, false, false, false, false, false, false, false, false, false, false, false, false, false, false, false, false, false, false, false, false, false, false, false, false, false, false] rfl rfl (by kernel_rfl) (fun _ _ _ h => h) (Or.inl ⟨by rfl, ?_⟩) ?_ ?_
              rotate_left
              · intro w'
                go_simp
                with_reducible rfl
              rotate_left
              · simp only [Act.put, List.setIfInBounds_toArray, List.set_cons_zero, List.set_cons_succ, i64_w, i32_w]
                rfl
              refine pure_ (i := 11) (N := some 117) (v := ?_) (a' := ?_) #[true, true, true, true, true, true, true, true, true, true, true, true, false, false, false, false, false, false, false, false, false, false, false, false, false, false, false, false, false, false, false, false, false, false, false, false, false] rfl rfl (by kernel_rfl) (fun _ _ _ h => h) (Or.inl ⟨by rfl, ?_⟩) ?_ ?_
              rotate_left
              · intro w'
                go_simp
                with_reducible rfl
              rotate_left
              · simp only [Act.put, List.setIfInBounds_toArray, List.set_cons_zero, List.set_cons_succ, i64_w, i32_w]
                rfl
              refine pure_ (i := 13) (N := some 119) (v := ?_) (a' := ?_) #[true, true, true, true, true, true, true, true, true, true, true, true, false, true, false, false, false, false, false, false, false, false, false, false, false, false, false, false, false, false, false, false, false, false, false, false, false] rfl rfl (by kernel_rfl) (fun _ _ _ h => h) (Or.inl ⟨by rfl, ?_⟩) ?_ ?_
              rotate_left
              · intro w'
                go_simp
                with_reducible rfl
              rotate_left
              · simp only [Act.put, List.setIfInBounds_toArray, List.set_cons_zero, List.set_cons_succ, i64_w, i32_w]
                rfl
              refine take_ (i := 14) (N := some 120) (v := ?_) (a' := ?_) #[true, true, true, true, true, true, true, true, true, true, true, true, false, true, true, false, false, false, false, false, false, false, false, false, false, false, false, false, false, false, false, false, false, false, false, false, false] rfl rfl (by kernel_rfl) (fun _ _ _ h => h) (Or.inl ⟨by rfl, ?_⟩) hHeld ?_ ?_
              rotate_left
              · rintro w' ⟨s0, s1, s2⟩
                go_simp
                with_reducible rfl
              rotate_left
              · simp only [Act.put, List.setIfInBounds_toArray, List.set_cons_zero, List.set_cons_succ, i64_w, i32_w]
                rfl
              refine one_ (i := 12) (N := some 118) #[true, true, true, true, true, true, true, true, true, true, true, true, true, true, true, false, false, false, false, false, false, false, false, false, false, false, false, false, false, false, false, false, false, false, false, false, false] rfl rfl (by kernel_rfl) (by decide) (fun K hK => ?_)
              refine goes_ Try.func20 (by kernel_rfl) rfl #[.pointer (some ⟨g, 0, none⟩)] (by rfl) rfl rfl (by simp only [List.map_toArray, List.map_cons, List.map_nil]; rfl) ?_
              with_reducible refine (HNOW.out _ _ HALL.out.iW).mono ?_
              rintro e w9 ⟨rfl, rfl⟩
              refine ⟨_, rfl, ?_⟩
              refine hK.out _ _ ⟨r2, r0, r3⟩ (fun hHeld => ?_)
              clear hK K
              refine norm_ (a' := ?_) ?_ ?_
              rotate_left
              · show Act.put _ (some 118) _ = _
                simp only [Act.put, List.setIfInBounds_toArray, List.set_cons_zero, List.set_cons_succ, i64_w, i32_w]
                rfl
              refine pure_ (i := 15) (N := some 121) (v := ?_) (a' := ?_) #[true, true, true, true, true, true, true, true, true, true, true, true, true, true, true, true, false, false, false, false, false, false, false, false, false, false, false, false, false, false, false, false, false, false, false, false, false] rfl rfl (by kernel_rfl) (fun _ _ _ h => h) (Or.inl ⟨by rfl, ?_⟩) ?_ ?_
              rotate_left
              · intro w'
                go_simp
                with_reducible rfl
              rotate_left
              · simp only [Act.put, List.setIfInBounds_toArray, List.set_cons_zero, List.set_cons_succ, i64_w, i32_w]
                rfl
              refine pure_ (i := 16) (N := some 122) (v := ?_) (a' := ?_) #[true, true, true, true, true, true, true, true, true, true, true, true, true, true, true, true, true, false, false, false, false, false, false, false, false, false, false, false, false, false, false, false, false, false, false, false, false] rfl rfl (by kernel_rfl) (fun _ _ _ h => h) (Or.inl ⟨by rfl, ?_⟩) ?_ ?_
              rotate_left
              · intro w'
                go_simp
                with_reducible rfl
              rotate_left
              · simp only [Act.put, List.setIfInBounds_toArray, List.set_cons_zero, List.set_cons_succ, i64_w, i32_w]
                rfl
              refine pure_ (i := 17) (N := some 123) (v := ?_) (a' := ?_) #[true, true, true, true, true, true, true, true, true, true, true, true, true, true, true, true, true, true, false, false, false, false, false, false, false, false, false, false, false, false, false, false, false, false, false, false, false] rfl rfl (by kernel_rfl) (fun _ _ _ h => h) (Or.inl ⟨by rfl, ?_⟩) ?_ ?_
              rotate_left
              · intro w'
                go_simp
                with_reducible rfl
              rotate_left
              · simp only [Act.put, List.setIfInBounds_toArray, List.set_cons_zero, List.set_cons_succ, i64_w, i32_w]
                rfl
              refine pure_ (i := 18) (N := some 124) (v := ?_) (a' := ?_) #[true, true, true, true, true, true, true, true, true, true, true, true, true, true, true, true, true, true, true, false, false, false, false, false, false, false, false, false, false, false, false, false, false, false, false, false, false] rfl rfl (by kernel_rfl) (fun _ _ _ h => h) (Or.inl ⟨by rfl, ?_⟩) ?_ ?_
              rotate_left
              · intro w'
                go_simp
                with_reducible rfl
              rotate_left
              · simp only [Act.put, List.setIfInBounds_toArray, List.set_cons_zero, List.set_cons_succ, i64_w, i32_w]
                rfl
              refine pure_ (i := 19) (N := some 125) (v := ?_) (a' := ?_) #[true, true, true, true, true, true, true, true, true, true, true, true, true, true, true, true, true, true, true, true, false, false, false, false, false, false, false, false, false, false, false, false, false, false, false, false, false] rfl rfl (by kernel_rfl) (fun _ _ _ h => h) (Or.inl ⟨by rfl, ?_⟩) ?_ ?_
              rotate_left
              · intro w'
                go_simp
                with_reducible rfl
              rotate_left
              · simp only [Act.put, List.setIfInBounds_toArray, List.set_cons_zero, List.set_cons_succ, i64_w, i32_w]
                rfl
              refine take_ (i := 20) (N := some 126) (v := ?_) (a' := ?_) #[true, true, true, true, true, true, true, true, true, true, true, true, true, true, true, true, true, true, true, true, true, false, false, false, false, false, false, false, false, false, false, false, false, false, false, false, false] rfl rfl (by kernel_rfl) (fun _ _ _ h => h) (Or.inl ⟨by rfl, ?_⟩) hHeld ?_ ?_
              rotate_left
              · rintro w' ⟨s0, s1, s2⟩
                go_simp
                with_reducible rfl
              rotate_left
              · simp only [Act.put, List.setIfInBounds_toArray, List.set_cons_zero, List.set_cons_succ, i64_w, i32_w]
                rfl
              refine pure_ (i := 21) (N := some 127) (v := ?_) (a' := ?_) #[true, true, true, true, true, true, true, true, true, true, true, true, true, true, true, true, true, true, true, true, true, true, false, false, false, false, false, false, false, false, false, false, false, false, false, false, false] rfl rfl (by kernel_rfl) (fun _ _ _ h => h) (Or.inl ⟨by rfl, ?_⟩) ?_ ?_
              rotate_left
              · intro w'
                go_simp
                with_reducible rfl
              rotate_left
              · simp only [Act.put, List.setIfInBounds_toArray, List.set_cons_zero, List.set_cons_succ, i64_w, i32_w]
                rfl
              refine pure_ (i := 22) (N := some 128) (v := ?_) (a' := ?_) #[true, true, true, true, true, true, true, true, true, true, true, true, true, true, true, true, true, true, true, true, true, true, true, false, false, false, false, false, false, false, false, false, false, false, false, false, false] rfl rfl (by kernel_rfl) (fun _ _ _ h => h) (Or.inl ⟨by rfl, ?_⟩) ?_ ?_
              rotate_left
              · intro w'
                go_simp
                with_reducible rfl
              rotate_left
              · simp only [Act.put, List.setIfInBounds_toArray, List.set_cons_zero, List.set_cons_succ, i64_w, i32_w]
                rfl
              refine pure_ (i := 23) (N := some 129) (v := ?_) (a' := ?_) #[true, true, true, true, true, true, true, true, true, true, true, true, true, true, true, true, true, true, true, true, true, true, true, true, false, false, false, false, false, false, false, false, false, false, false, false, false] rfl rfl (by kernel_rfl) (fun _ _ _ h => h) (Or.inl ⟨by rfl, ?_⟩) ?_ ?_
              rotate_left
              · intro w'
                go_simp
                with_reducible rfl
              rotate_left
              · simp only [Act.put, List.setIfInBounds_toArray, List.set_cons_zero, List.set_cons_succ, i64_w, i32_w]
                rfl
              refine pure_ (i := 24) (N := some 130) (v := ?_) (a' := ?_) #[true, true, true, true, true, true, true, true, true, true, true, true, true, true, true, true, true, true, true, true, true, true, true, true, true, false, false, false, false, false, false, false, false, false, false, false, false] rfl rfl (by kernel_rfl) (fun _ _ _ h => h) (Or.inl ⟨by rfl, ?_⟩) ?_ ?_
              rotate_left
              · intro w'
                go_simp
                with_reducible rfl
              rotate_left
              · simp only [Act.put, List.setIfInBounds_toArray, List.set_cons_zero, List.set_cons_succ, i64_w, i32_w]
                rfl
              refine pure_ (i := 25) (N := some 131) (v := ?_) (a' := ?_) #[true, true, true, true, true, true, true, true, true, true, true, true, true, true, true, true, true, true, true, true, true, true, true, true, true, true, false, false, false, false, false, false, false, false, false, false, false] rfl rfl (by kernel_rfl) (fun _ _ _ h => h) (Or.inl ⟨by rfl, ?_⟩) ?_ ?_
              rotate_left
              · intro w'
                go_simp
                with_reducible rfl
              rotate_left
              · simp only [Act.put, List.setIfInBounds_toArray, List.set_cons_zero, List.set_cons_succ, i64_w, i32_w]
                rfl
              refine pure_ (i := 26) (N := some 132) (v := ?_) (a' := ?_) #[true, true, true, true, true, true, true, true, true, true, true, true, true, true, true, true, true, true, true, true, true, true, true, true, true, true, true, false, false, false, false, false, false, false, false, false, false] rfl rfl (by kernel_rfl) (fun _ _ _ h => h) (Or.inl ⟨by rfl, ?_⟩) ?_ ?_
              rotate_left
              · intro w'
                go_simp
                with_reducible rfl
              rotate_left
              · simp only [Act.put, List.setIfInBounds_toArray, List.set_cons_zero, List.set_cons_succ, i64_w, i32_w]
                rfl
              refine pure_ (i := 27) (N := some 133) (v := ?_) (a' := ?_) #[true, true, true, true, true, true, true, true, true, true, true, true, true, true, true, true, true, true, true, true, true, true, true, true, true, true, true, true, false, false, false, false, false, false, false, false, false] rfl rfl (by kernel_rfl) (fun _ _ _ h => h) (Or.inl ⟨by rfl, ?_⟩) ?_ ?_
              rotate_left
              · intro w'
                go_simp
                with_reducible rfl
              rotate_left
              · simp only [Act.put, List.setIfInBounds_toArray, List.set_cons_zero, List.set_cons_succ, i64_w, i32_w]
                rfl
              refine pure_ (i := 28) (N := some 134) (v := ?_) (a' := ?_) #[true, true, true, true, true, true, true, true, true, true, true, true, true, true, true, true, true, true, true, true, true, true, true, true, true, true, true, true, true, false, false, false, false, false, false, false, false] rfl rfl (by kernel_rfl) (fun _ _ _ h => h) (Or.inl ⟨by rfl, ?_⟩) ?_ ?_
              rotate_left
              · intro w'
                go_simp
                with_reducible rfl
              rotate_left
              · simp only [Act.put, List.setIfInBounds_toArray, List.set_cons_zero, List.set_cons_succ, i64_w, i32_w]
                rfl
              refine pure_ (i := 29) (N := some 135) (v := ?_) (a' := ?_) #[true, true, true, true, true, true, true, true, true, true, true, true, true, true, true, true, true, true, true, true, true, true, true, true, true, true, true, true, true, true, false, false, false, false, false, false, false] rfl rfl (by kernel_rfl) (fun _ _ _ h => h) (Or.inl ⟨by rfl, ?_⟩) ?_ ?_
              rotate_left
              · intro w'
                go_simp
                with_reducible rfl
              rotate_left
              · simp only [Act.put, List.setIfInBounds_toArray, List.set_cons_zero, List.set_cons_succ, i64_w, i32_w]
                rfl
              refine take_ (i := 30) (N := some 136) (v := ?_) (a' := ?_) #[true, true, true, true, true, true, true, true, true, true, true, true, true, true, true, true, true, true, true, true, true, true, true, true, true, true, true, true, true, true, true, false, false, false, false, false, false] rfl rfl (by kernel_rfl) (fun _ _ _ h => h) (Or.inl ⟨by rfl, ?_⟩) hHeld ?_ ?_
              rotate_left
              · rintro w' ⟨s0, s1, s2⟩
                go_simp
                with_reducible rfl
              rotate_left
              · simp only [Act.put, List.setIfInBounds_toArray, List.set_cons_zero, List.set_cons_succ, i64_w, i32_w]
                rfl
              refine pure_ (i := 31) (N := some 137) (v := ?_) (a' := ?_) #[true, true, true, true, true, true, true, true, true, true, true, true, true, true, true, true, true, true, true, true, true, true, true, true, true, true, true, true, true, true, true, true, false, false, false, false, false] rfl rfl (by kernel_rfl) (fun _ _ _ h => h) (Or.inl ⟨by rfl, ?_⟩) ?_ ?_
              rotate_left
              · intro w'
                go_simp
                with_reducible rfl
              rotate_left
              · simp only [Act.put, List.setIfInBounds_toArray, List.set_cons_zero, List.set_cons_succ, i64_w, i32_w]
                rfl
              refine pure_ (i := 32) (N := some 138) (v := ?_) (a' := ?_) #[true, true, true, true, true, true, true, true, true, true, true, true, true, true, true, true, true, true, true, true, true, true, true, true, true, true, true, true, true, true, true, true, true, false, false, false, false] rfl rfl (by kernel_rfl) (fun _ _ _ h => h) (Or.inl ⟨by rfl, ?_⟩) ?_ ?_
              rotate_left
              · intro w'
                go_simp
                with_reducible rfl
              rotate_left
              · simp only [Act.put, List.setIfInBounds_toArray, List.set_cons_zero, List.set_cons_succ, i64_w, i32_w]
                rfl
              refine take_ (i := 33) (N := some 139) (v := ?_) (a' := ?_) #[true, true, true, true, true, true, true, true, true, true, true, true, true, true, true, true, true, true, true, true, true, true, true, true, true, true, true, true, true, true, true, true, true, true, false, false, false] rfl rfl (by kernel_rfl) (fun _ _ _ h => h) (Or.inl ⟨by rfl, ?_⟩) hHeld ?_ ?_
              rotate_left
              · rintro w' ⟨s0, s1, s2⟩
                go_simp
                with_reducible rfl
              rotate_left
              · simp only [Act.put, List.setIfInBounds_toArray, List.set_cons_zero, List.set_cons_succ, i64_w, i32_w]
                rfl
              refine pure_ (i := 34) (N := some 140) (v := ?_) (a' := ?_) #[true, true, true, true, true, true, true, true, true, true, true, true, true, true, true, true, true, true, true, true, true, true, true, true, true, true, true, true, true, true, true, true, true, true, true, false, false] rfl rfl (by kernel_rfl) (fun _ _ _ h => h) (Or.inl ⟨by rfl, ?_⟩) ?_ ?_
              rotate_left
              · intro w'
                go_simp
                with_reducible rfl
              rotate_left
              · simp only [Act.put, List.setIfInBounds_toArray, List.set_cons_zero, List.set_cons_succ, i64_w, i32_w]
                rfl
              refine pure_ (i := 35) (N := some 141) (v := ?_) (a' := ?_) #[true, true, true, true, true, true, true, true, true, true, true, true, true, true, true, true, true, true, true, true, true, true, true, true, true, true, true, true, true, true, true, true, true, true, true, true, false] rfl rfl (by kernel_rfl) (fun _ _ _ h => h) (Or.inl ⟨by rfl, ?_⟩) ?_ ?_
              rotate_left
              · intro w'
                go_simp
                with_reducible rfl
              rotate_left
              · simp only [Act.put, List.setIfInBounds_toArray, List.set_cons_zero, List.set_cons_succ, i64_w, i32_w]
                rfl
              refine pure_ (i := 36) (N := some 142) (v := ?_) (a' := ?_) #[true, true, true, true, true, true, true, true, true, true, true, true, true, true, true, true, true, true, true, true, true, true, true, true, true, true, true, true, true, true, true, true, true, true, true, true, true] rfl rfl (by kernel_rfl) (fun _ _ _ h => h) (Or.inl ⟨by rfl, ?_⟩) ?_ ?_
              rotate_left
              · intro w'
                go_simp
                with_reducible rfl
              rotate_left
              · simp only [Act.put, List.setIfInBounds_toArray, List.set_cons_zero, List.set_cons_succ, i64_w, i32_w]
                rfl
              refine done_ (by kernel_rfl) ?_
              go_wp2_with fail
              go_roundw
              case rel => exact ⟨i + 1, _, _, last1, T1, L1, by go_num, ⟨by omega⟩, HBD1, ⟨HALL.out.iW.up HM1.out⟩, ⟨HALL.out.iD⟩, ⟨HALL.out.bl⟩, ⟨HALL.out.ap⟩⟩
              case measure => simp [intOf]; omega
    · go_wp2_with (first | (go_at_call 12; (with_reducible refine (HA.out _).mono ?_); rintro e w9 ⟨rfl, hb⟩; have n1_ := Aside0.mk (below_step HB.out hb); clear HB hb; have HB := n1_; clear n1_))
      go_ret
      exact ⟨rfl, HB.out⟩
end Go.Proofs.Ytpkilechkoiffaa.Wh
