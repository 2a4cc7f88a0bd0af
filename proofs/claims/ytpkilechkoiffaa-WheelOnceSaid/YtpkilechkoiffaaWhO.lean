/- WheelOnce: each timer is told once, not ahead of its time, or stopped; what is told rises by times; the walk; no condition but that numbers are of their kinds. -/
import Derived.Test.YtpkilechkoiffaaWhZ
import Derived.Test.YtpkilechkoiffaaTabD
namespace Go.Proofs.Ytpkilechkoiffaa.Wh
set_option linter.unusedVariables false
set_option linter.unusedSimpArgs false
open Go.RowKit Go.Proofs.YtpkilechkoiffaaW.PrintWords Go.Proofs.YtpkilechkoiffaaW.PrintLast Go.Proofs.YtpkilechkoiffaaW.PrintMore Go.Proofs.Ytpkilechkoiffaa.Lst Go.Proofs.Ytpkilechkoiffaa.Heap Go.Proofs.Ytpkilechkoiffaa.TabL
attribute [local go_sem] max2_int min2_int max_two min_two max_three min_three max_four min_four
def encI : En Int := ⟨fun x => [.int .i64 x], 1, fun _ => rfl, fun x u hu => by simp at hu; subst hu; rfl, by decide⟩
theorem info3 : (Try.prog.info? 3).map (fun i => (i.zero, i.size, i.bytes)) = some (some (.int .i64 0), 1, 8) := by kernel_rfl
theorem lsI_at {W : World} {b0 : Nat} {l : List Int} {A : Option Addr} {n c : Nat} (h : Ls encI 3 W b0 (.slice A n c) l) {i : Nat} {x : Int} (hx : l[i]? = some x) : ∃ g, A = some ⟨g, 0, none⟩ ∧ W.cell? ⟨g, i, none⟩ = some (.int .i64 x) := by
  obtain ⟨g, hA, _, _, hc, _⟩ := h.at hx
  have := hc 0 _ rfl
  rw [show i * encI.sz + 0 = i from Nat.mul_one i] at this
  exact ⟨g, hA, this⟩
def dk (t : Tm) : TabD.Bk := ⟨t.n, t.att⟩
theorem dk_del (R : List Tm) (n : Int) : TabD.delV (R.map dk) n = (R.filter (fun t => !(t.n == n))).map dk := by
  unfold TabD.delV
  rw [List.filter_map]; rfl
theorem dk_has (R : List Tm) (n : Int) : TabD.hasK (R.map dk) n = hasT R n := by
  unfold TabD.hasK hasT
  rw [List.any_map]; rfl
theorem lookD_has (l : List TabD.Bk) (k : Int) : (TabD.lookV l k).2 = TabD.hasK l k := by
  unfold TabD.lookV TabD.hasK
  cases h : l.find? (fun q => q.key == k) with
  | none =>
    rw [List.find?_eq_none] at h
    symm
    rw [List.any_eq_false]
    exact h
  | some q =>
    symm
    rw [List.any_eq_true]
    exact ⟨q, List.mem_of_find?_eq_some h, by simpa using List.find?_some h⟩
theorem look_dk {R : List Tm} {n : Int} {y : Int} {z : Bool} (h : TabD.lookV (R.map dk) n = (y, z)) : z = hasT R n ∧ (z = true → ∃ t ∈ R, t.n = n ∧ t.att = y) := by
  have e := lookD_has (R.map dk) n
  rw [h, dk_has] at e
  refine ⟨e, fun hz => ?_⟩
  subst hz
  obtain ⟨q, hq, hk, hx⟩ := TabD.look_mem h
  obtain ⟨t, ht, rfl⟩ := List.mem_map.1 hq
  exact ⟨t, ht, hk, hx⟩
theorem del_one {t : Tm} {l : List Tm} (h : ∀ u ∈ l, u.n ≠ t.n) : TabD.delV ((t :: l).map dk) t.n = l.map dk := by
  rw [dk_del]
  congr 1
  rw [List.filter_cons, if_neg (by simp), List.filter_eq_self]
  intro u hu
  simpa using h u hu
theorem put_new {R : List Tm} {x : Tm} (h : ∀ u ∈ R, u.n ≠ x.n) : (TabD.putV (R.map dk) x.n x.att).Perm ((insV R x).map dk) := by
  unfold TabD.putV
  have e : (R.map dk).filter (fun q => !(q.key == x.n)) = R.map dk := by
    rw [List.filter_eq_self]
    intro q hq
    obtain ⟨t, ht, rfl⟩ := List.mem_map.1 hq
    have := h t ht
    show (!(t.n == x.n)) = true
    simpa using this
  rw [e]
  exact ((ins_perm R x).map dk).symm
structure AllO (w0 W : World) (g : Nat) (F : Nat → Prop) (last T : Int) (m : Nat) (R : List Tm) (bd : Nat) (D : List TabD.Bk) (vo : Value) (ord : List Int) (sb : Nat) (x : Stp.St) : Prop where
  iW : Wst w0 W g F last T m R
  mp : TabD.MapIs W bd D
  bl : Below w0.heap.size w0 W
  lo : Ls encI 3 W w0.heap.size vo ord
  st : W.heap[sb]? = some (.cells #[.int .u8 x.a0, .int .i64 x.a1, .int .i64 x.a2, .int .u64 x.a3, .int .i64 x.a4] 30 (0, 0))
  nb : ¬ F bd
  gb : w0.heap.size ≤ bd
section
variable {w0 W W' : World} {g : Nat} {F : Nat → Prop} {last T : Int} {m : Nat} {R : List Tm} {bd : Nat} {D D' : List TabD.Bk} {vo vo' : Value} {ord ord' : List Int} {sb : Nat} {x : Stp.St} {last2 T2 : Int} {m2 : Nat} {R2 : List Tm}
theorem AllO.nvo (h : AllO w0 W g F last T m R bd D vo ord sb x) : ∀ k, vo.ownBlock = some k → ¬ F k := fun k hk => by
  obtain ⟨_, _, cur, hc⟩ := h.lo.own k hk
  exact h.iW.typ hc (by decide) (by decide)
theorem AllO.nmp (h : AllO w0 W g F last T m R bd D vo ord sb x) : some bd ≠ vo.ownBlock := by
  obtain ⟨_, ⟨es, cl, hb, _⟩, _⟩ := h.mp
  exact h.lo.neMap hb
theorem AllO.t (h : AllO w0 W g F last T m R bd D vo ord sb x) (hp : PostV w0 W g F last2 T2 m2 R2 W') : ∃ F', AllO w0 W' g F' last2 T2 m2 R2 bd D vo ord sb x := by
  obtain ⟨F', i, b, k, o⟩ := hp
  refine ⟨F', i, h.mp.move (k.2 bd h.mp.lt h.nb), b, own_move h.lo (fun j hj => k.2 j (h.lo.own j hj).2.1 (h.nvo j hj)), (k.2 sb (blk_lt h.st) (h.iW.typ h.st (by decide) (by decide))).trans h.st, fun hb => ?_, h.gb⟩
  rcases o bd hb with e | e
  · exact h.nb e
  · exact absurd h.mp.lt (Nat.not_lt.2 e)
theorem AllO.low (h : AllO w0 W g F last T m R bd D vo ord sb x) (hb : Below W.heap.size W W') : AllO w0 W' g F last T m R bd D vo ord sb x := ⟨h.iW.below hb, h.mp.below hb, below_step h.bl hb, h.lo.below hb, blk_below h.st hb, h.nb, h.gb⟩
theorem AllO.turn (h : AllO w0 W g F last T m R bd D vo ord sb x) (hm : TabD.MapIs W' bd D') (hg : W.grownBy W' (some bd)) : AllO w0 W' g F last T m R bd D' vo ord sb x := by
  have hk : Kept W W' (fun k => k = bd) := Kept.of_grown hg (Kept.refl _ _) (fun k hk => by cases hk; exact .inl rfl)
  refine ⟨h.iW.kept hk (fun k hF e => h.nb (e ▸ hF)), hm, pw_below_grown h.bl _ h.bl.size hg (fun k hk => by cases hk; exact h.gb), h.lo.grown hg (.inr fun e => h.nmp e.symm), blk_grown h.st hg ?_, h.nb, h.gb⟩
  intro e; cases e
  exact h.mp.ne h.st rfl
theorem AllO.push (h : AllO w0 W g F last T m R bd D vo ord sb x) (hl : Ls encI 3 W' w0.heap.size vo' ord') (hg : W.grownBy W' vo.ownBlock) : AllO w0 W' g F last T m R bd D vo' ord' sb x := by
  have hk : Kept W W' (fun k => vo.ownBlock = some k) := Kept.of_grown hg (Kept.refl _ _) (fun k hk => .inl hk)
  exact ⟨h.iW.kept hk (fun k hF e => h.nvo k e hF), h.mp.kept hg h.nmp, pw_below_grown h.bl _ h.bl.size hg (fun k hk => (h.lo.own k hk).1), hl, blk_grown h.st hg (h.lo.ne h.st (by decide)), h.nb, h.gb⟩
theorem AllO.perm (h : AllO w0 W g F last T m R bd D vo ord sb x) (hp : D.Perm D') : AllO w0 W' g F last T m R bd D vo ord sb x → AllO w0 W' g F last T m R bd D' vo ord sb x := fun k => { k with mp := k.mp.perm hp }
end
theorem ne_map {W : World} {bd b0 : Nat} {D : List TabD.Bk} {v : Value} {l : List Tm} (hm : TabD.MapIs W bd D) (h : Ls encT 37 W b0 v l) : v.ownBlock ≠ some bd := by
  obtain ⟨_, ⟨es, cl, hb, _⟩, _⟩ := hm
  exact fun e => h.neMap hb e.symm
/-- behind a step -/
def AftO (w0 W : World) (g bd : Nat) (vo : Value) (sb : Nat) (x : Stp.St) (now : Int) (i : Nat) : Prop := ∃ F last T m R ord, AllO w0 W g F last T m R bd (R.map dk) vo ord sb x ∧ Aside0 (0 ≤ last ∧ last ≤ ((i + 1 : Nat) : Int)) ∧ Aside0 (m ≤ i + 1) ∧ Aside0 (T ≤ now) ∧ Aside0 (ord.length ≤ i + 1) ∧ Aside0 (∀ n ∈ ord, 1 ≤ n ∧ n ≤ last) ∧ Aside0 (∀ t ∈ R, 0 ≤ t.att)
set_option maxHeartbeats 64000000 in
set_option maxRecDepth 100000 in
theorem once_law (A : Option Addr) (cp : Nat) (l : List Stp.St) (w : World) (hrw : Stp.Row w A l) (hc : l.length ≤ cp) (hmx : l.length ≤ 9223372036854775807) (hk : ∀ x ∈ l, (-9223372036854775808 ≤ x.a4 ∧ x.a4 ≤ 9223372036854775807) ∧ 0 ≤ x.a0 ∧ x.a0 ≤ 255) : Calls Try.prog 3 #[.slice A l.length cp] w fun e w' => e = .returned (.bool true) ∧ Below w.heap.size w w' := by
  have HRW := Aside0.mk hrw
  have HC := Aside0.mk hc; have HMX := Aside0.mk hmx; have HK := Aside0.mk hk
  obtain ⟨L, hL⟩ : ∃ L, min l.length 300 = L := ⟨_, rfl⟩
  have HLQ := Aside0.mk hL
  have HL := Aside0.mk (show L ≤ l.length ∧ L ≤ 300 from by omega)
  have HA := Aside0.mk alive_c
  have hmm := @run_makeMap Try.prog
  have hu30 := Try.underlying30
  have hu37 := Try.underlying37
  have hzz := hz37
  obtain ⟨i0, hi0, _, hs0, _⟩ := info_parts info30
  clear hrw hc hmx hk hL
  go_enter Try.func3, Try.ntmps3
  go_upto_region 5 with (first | (go_at_call 6; (with_reducible refine (new_v _).mono ?_); rintro e w9 ⟨g, F, rfl, hi, hb⟩; have HT := Aside0.mk hi; have HB := Aside0.mk hb; clear hi hb))
  have bel := below_alloc (Below.refl w9.heap.size w9) (.map #[] 0)
  have HMP := Aside0.mk (TabD.mapIs_made w9)
  have HNB := Aside0.mk (show ¬ F w9.heap.size from fun h => Nat.lt_irrefl _ (HT.out.lt h))
  have HGB := Aside0.mk HB.out.size
  have n0_ := Aside0.mk (HT.out.below bel)
  have n1_ := Aside0.mk (below_step HB.out bel)
  clear HT HB bel
  have HT := n0_; have HB := n1_
  clear n0_ n1_
  obtain ⟨wz, hwz⟩ : ∃ wz, World.alloc w9 (.map #[] 0) = wz := ⟨_, rfl⟩
  rw [hwz] at HMP HT HB ⊢
  clear hwz
  generalize w9.heap.size = bd at HMP HNB HGB ⊢
  go_wp2_with (first | (go_at_call 7; (with_reducible refine (Stp.short_c A l.length cp _ HC.out HMX.out _ HLQ.out).mono ?_); rintro e w3 ⟨rfl, rfl⟩))
  go_loopg [31, 5, 6] L (fun kl vi vo vn wr => ∃ (i : Nat) (F : Nat → Prop) (last T : Int) (R : List Tm) (now : Int) (ord : List Int), vi = .int .i64 i ∧ vn = .int .i64 now ∧ Aside0 (i ≤ L) ∧ Aside0 (0 ≤ last ∧ last ≤ i) ∧ Aside0 (T ≤ now ∧ 0 ≤ now ∧ now ≤ i * 1048576) ∧ Aside0 (Wst w wr g F last T i R) ∧ Aside0 (TabD.MapIs wr bd (R.map dk)) ∧ Aside0 (Below w.heap.size w wr) ∧ Aside0 (Ls encI 3 wr w.heap.size vo ord) ∧ Aside0 (¬ F bd) ∧ Aside0 (ord.length ≤ i) ∧ Aside0 (∀ n ∈ ord, 1 ≤ n ∧ n ≤ last) ∧ Aside0 (∀ t ∈ R, 0 ≤ t.att) ∧ Aside0 (kl = L - i))
  case atStart => exact ⟨0, F, 0, 0, [], 0, [], rfl, rfl, ⟨by omega⟩, ⟨by decide⟩, ⟨by decide⟩, HT, HMP, HB, ⟨Ls.nil _ _ _ _⟩, HNB, ⟨Nat.le_refl _⟩, ⟨fun n hn => by cases hn⟩, ⟨fun t ht => by cases ht⟩, ⟨rfl⟩⟩
  case round =>
    clear HT HB HMP HNB
    obtain ⟨i, F, last, T, R, now, ord, rfl, rfl, HIL, HBD, HNW, HT, HMP, HB, HLO, HNB, HOL, HOR, HAT, HKG⟩ := hrel
    have l1 := HL.out.2
    have l2 := HIL.out
    by_cases hlt : i < L
    · obtain ⟨x, hx⟩ : ∃ x, l[i]? = some x := ⟨_, List.getElem?_eq_getElem (show i < l.length by have := HL.out.1; omega)⟩
      obtain ⟨a, rfl, h0, h1, h2, h3, h4⟩ := HRW.out.cells hx
      have k0 := pw_cell_below HB.out h0; have k1 := pw_cell_below HB.out h1; have k2 := pw_cell_below HB.out h2; have k3 := pw_cell_below HB.out h3; have k4 := pw_cell_below HB.out h4
      clear h0 h1 h2 h3 h4
      obtain ⟨kx4, kx0⟩ := HK.out x (List.mem_of_getElem? hx)
      have HK4 := Aside0.mk kx4
      clear hx kx4
      obtain ⟨A5, c5, hu5, _, _⟩ := HLO.out.form
      subst hu5
      go_upto_region 10 with (fail)
      obtain ⟨wq, hwq⟩ : ∃ wq, wr.alloc (.cells #[.int .u8 x.a0, .int .i64 x.a1, .int .i64 x.a2, .int .u64 x.a3, .int .i64 x.a4] 30 (0, 0)) = wq := ⟨_, rfl⟩
      have HALL := Aside0.mk (show AllO w wq g F last T i R bd (R.map dk) (.slice A5 ord.length c5) ord wr.heap.size x from by
        rw [← hwq]
        have b := below_alloc (Below.refl wr.heap.size wr) (.cells #[.int .u8 x.a0, .int .i64 x.a1, .int .i64 x.a2, .int .u64 x.a3, .int .i64 x.a4] 30 (0, 0))
        exact ⟨HT.out.below b, HMP.out.below b, below_step HB.out b, HLO.out.below b, blk_new wr _, HNB.out, HGB.out⟩)
      rw [hwq]
      clear HT HB HMP HLO HNB k0 k1 k2 k3 k4 hwq
      generalize wr.heap.size = sb at HALL ⊢
      have kl := blk_cell HALL.out.st 1; have kd := blk_cell HALL.out.st 0
      go_cut [42] (fun s42 wx => s42 = .bool (decide (0 < x.a1 ∧ x.a1 < 1048576)) ∧ wq = wx)
      case first =>
        go_wp2_with fail
        all_goals go_meet
        all_goals exact ⟨by simp; try omega, rfl⟩
      case rest =>
        obtain ⟨rfl, rfl⟩ := hcut
        go_upto_if 42 with (fail)
        go_cut [6] (fun s6 wx => ∃ now' : Int, s6 = .int .i64 now' ∧ Aside0 (now ≤ now' ∧ now' ≤ now + 1048576) ∧ wq = wx)
        case first =>
          have hn0 := HNW.out
          by_cases hq : 0 < x.a1 ∧ x.a1 < 1048576
          · have HQ := Aside0.mk hq
            have e1 : wrap64 (now + x.a1) = now + x.a1 := Base.w64 (by omega) (by omega)
            rw [decide_eq_true hq]
            clear hq
            go_wp2_with fail
            go_meet
            exact ⟨_, rfl, ⟨by have := HQ.out; rw [e1]; omega⟩, rfl⟩
          · rw [decide_eq_false hq]
            clear hq
            go_wp2_with fail
            go_meet
            exact ⟨_, rfl, ⟨by omega⟩, rfl⟩
        case rest =>
          obtain ⟨now', rfl, HNN, rfl⟩ := hcut
          have HN2 := Aside0.mk (show T ≤ now' ∧ 0 ≤ now' ∧ now' ≤ ((i + 1 : Nat) : Int) * 1048576 ∧ now' ≤ 1099511627776 from by have := HNN.out; have := HNW.out; omega)
          clear kl
          have HI9 := Aside0.mk (show i ≤ 1000 from by omega)
          have HB9 := Aside0.mk (show last ≤ 1000 from by have := HBD.out; omega)
          have HT2 := Aside0.mk (show laterT T now' = now' from by have := HN2.out; unfold laterT; rw [if_pos (by omega)]; split <;> omega)
          have c1_ := blk_cell HALL.out.st 1; have c2_ := blk_cell HALL.out.st 2; have c3_ := blk_cell HALL.out.st 3; have c4_ := blk_cell HALL.out.st 4
          go_upto_block 2 with (fail)
          go_cut [5, 9, 10, 11, 13, 14, 15, 17, 18, 19, 20, 21, 22, 23] from 50 to 164 (fun s5 s9 s10 s11 s13 s14 s15 s17 s18 s19 s20 s21 s22 s23 wx => AftO w wx g bd s5 sb x now' i)
          case first =>
            by_cases hk1 : x.a0 % 5 = 1
            · have hk1' : (x.a0 % 5 == 1) = true := by simp [hk1]
              obtain ⟨y, z, hy⟩ : ∃ y z, TabD.lookV (R.map dk) x.a4 = (y, z) := ⟨_, _, rfl⟩
              have hzz' := (look_dk hy).1
              obtain ⟨R1, hR1⟩ : ∃ R1, R.filter (fun t => !(t.n == x.a4)) = R1 := ⟨_, rfl⟩
              have HR1 := Aside0.mk hR1
              have HY := Aside0.mk hy
              cases z
              · have H1 := Aside0.mk (fun F' w' h hB => stop_v w g F' last T i R x.a4 HK4.out R1 HR1.out 6 (by rw [← hzz']; rfl) w' h hB)
                clear hy hzz' hR1 hk1
                go_wp2_with (first | (at_lookup; refine TabD.wpList_look rfl _ _ rfl bd (R.map dk) HALL.out.mp x.a4 HK4.out rfl rfl y false HY.out ?_) | (go_at_call 8; (with_reducible refine (H1.out _ _ HALL.out.iW HALL.out.bl).mono ?_); rintro e w9 ⟨rfl, hp⟩; obtain ⟨F9, hp⟩ := HALL.out.t hp; have n0_ := Aside0.mk hp; clear HALL hp; have HALL := n0_; clear n0_; have c1_ := blk_cell HALL.out.st 1; have c2_ := blk_cell HALL.out.st 2; have c3_ := blk_cell HALL.out.st 3; have c4_ := blk_cell HALL.out.st 4) | (at_delete; refine TabD.wpList_del rfl _ _ rfl bd (R.map dk) HALL.out.mp x.a4 HK4.out rfl rfl ?_; intro w8 hm hg; have n0_ := Aside0.mk (HALL.out.turn hm hg); clear HALL hm hg; have HALL := n0_; clear n0_; have c1_ := blk_cell HALL.out.st 1; have c2_ := blk_cell HALL.out.st 2; have c3_ := blk_cell HALL.out.st 3; have c4_ := blk_cell HALL.out.st 4))
                go_meet
                refine ⟨_, last, T, i, R1, ord, by have q := HALL.out; rw [dk_del, HR1.out] at q; exact q, ⟨by have := HBD.out; omega⟩, ⟨by omega⟩, ⟨HN2.out.1⟩, ⟨by have := HOL.out; omega⟩, HOR, ⟨fun t ht => HAT.out t ?_⟩⟩
                rw [← HR1.out] at ht
                exact (List.mem_filter.1 ht).1
              · have H1 := Aside0.mk (fun F' w' h hB => stop_v w g F' last T i R x.a4 HK4.out R1 HR1.out 0 (by rw [← hzz']; rfl) w' h hB)
                clear hy hzz' hR1 hk1
                go_wp2_with (first | (at_lookup; refine TabD.wpList_look rfl _ _ rfl bd (R.map dk) HALL.out.mp x.a4 HK4.out rfl rfl y true HY.out ?_) | (go_at_call 8; (with_reducible refine (H1.out _ _ HALL.out.iW HALL.out.bl).mono ?_); rintro e w9 ⟨rfl, hp⟩; obtain ⟨F9, hp⟩ := HALL.out.t hp; have n0_ := Aside0.mk hp; clear HALL hp; have HALL := n0_; clear n0_; have c1_ := blk_cell HALL.out.st 1; have c2_ := blk_cell HALL.out.st 2; have c3_ := blk_cell HALL.out.st 3; have c4_ := blk_cell HALL.out.st 4) | (at_delete; refine TabD.wpList_del rfl _ _ rfl bd (R.map dk) HALL.out.mp x.a4 HK4.out rfl rfl ?_; intro w8 hm hg; have n0_ := Aside0.mk (HALL.out.turn hm hg); clear HALL hm hg; have HALL := n0_; clear n0_; have c1_ := blk_cell HALL.out.st 1; have c2_ := blk_cell HALL.out.st 2; have c3_ := blk_cell HALL.out.st 3; have c4_ := blk_cell HALL.out.st 4))
                go_meet
                refine ⟨_, last, T, i, R1, ord, by have q := HALL.out; rw [dk_del, HR1.out] at q; exact q, ⟨by have := HBD.out; omega⟩, ⟨by omega⟩, ⟨HN2.out.1⟩, ⟨by have := HOL.out; omega⟩, HOR, ⟨fun t ht => HAT.out t ?_⟩⟩
                rw [← HR1.out] at ht
                exact (List.mem_filter.1 ht).1
            · have hk1' : (x.a0 % 5 == 1) = false := by simp [hk1]
              by_cases hk3 : x.a0 % 5 = 3
              · have hk3' : (x.a0 % 5 == 3) = true := by simp [hk3]
                obtain ⟨R1, hR1⟩ : ∃ R1, aftV R now' = R1 := ⟨_, rfl⟩
                obtain ⟨B, hB⟩ : ∃ B, befV R now' = B := ⟨_, rfl⟩
                have hRB : R = B ++ R1 := by rw [← hR1, ← hB]; exact (bef_aft R now').symm
                have hsrt := HALL.out.iW.srt
                have hnd : R.Nodup := by
                  rw [List.nodup_iff_pairwise_ne]
                  exact hsrt.imp fun {a b} hab e => by subst e; rw [lt_irr] at hab; cases hab
                have huq := HALL.out.iW.uni
                have HBL := Aside0.mk (show ∀ t ∈ B, t.att ≤ now' from fun t ht => bef_le (hB ▸ ht))
                have HRG := Aside0.mk (show ∀ t ∈ R1, now' < t.att from by
                  obtain ⟨_, _, s, _, _, _, _, h4, _⟩ := HALL.out.iW
                  exact fun t ht => aft_gt h4 (hR1 ▸ ht))
                have HBN := Aside0.mk (show B.length ≤ 1000 from by have := bef_length_le R now'; have := HALL.out.iW.llen; rw [hB] at *; omega)
                have H1 := Aside0.mk (fun F' w' h hB => due_v w g F' last T i R HI9.out HB9.out now' now' HT2.out w' h hB)
                rw [hR1, hB] at H1
                rw [hRB] at hsrt hnd huq
                have HSR := Aside0.mk hsrt; have HND := Aside0.mk hnd; have HUQ := Aside0.mk huq
                have HTB := Aside0.mk (show ∀ t ∈ B ++ R1, (1 ≤ t.n ∧ t.n ≤ 1000) ∧ 0 ≤ t.att from fun t ht => by have q := HALL.out.iW.bd t (hRB ▸ ht); exact ⟨by have := HB9.out; omega, HAT.out t (hRB ▸ ht)⟩)
                have HRB := Aside0.mk hRB
                clear hR1 hB hRB hsrt hnd huq hk1 hk3
                go_wp2_with ((go_at_call 9; (with_reducible refine (H1.out _ _ HALL.out.iW HALL.out.bl).mono ?_); rintro e w9 ⟨u, rfl, hu, hp⟩; obtain ⟨bu, hu⟩ : ∃ bu, Ls encT 37 w9 bu u B := ⟨_, hu⟩; obtain ⟨A7, c7, hv7, _, _⟩ := hu.form; subst hv7; have HU := Aside0.mk hu; clear hu; obtain ⟨F9, hp⟩ := HALL.out.t hp; have n0_ := Aside0.mk hp; clear HALL hp; have HALL := n0_; clear n0_; have c1_ := blk_cell HALL.out.st 1; have c2_ := blk_cell HALL.out.st 2; have c3_ := blk_cell HALL.out.st 3; have c4_ := blk_cell HALL.out.st 4))
                rw [HRB.out] at HALL
                go_loopw [109, 11] (fun vj vl wr => ∃ (j : Nat) (la : Int), vj = .int .i64 j ∧ vl = .int .i64 la ∧ Aside0 (j ≤ B.length) ∧ Aside0 (∀ t ∈ B.drop j, la ≤ t.att) ∧ Aside0 (AllO w wr g F9 last now' i R1 bd ((B.drop j ++ R1).map dk) (.slice A5 ord.length c5) ord sb x) ∧ Aside0 (Ls encT 37 wr bu (.slice A7 B.length c7) B)) (fun vj _ _ => (B.length - intOf vj).toNat)
                case atStart => exact ⟨0, 0, rfl, rfl, ⟨Nat.zero_le _⟩, ⟨fun t ht => (HTB.out t (List.mem_append_left _ ht)).2⟩, HALL, HU⟩
                case round =>
                  clear HALL HU
                  obtain ⟨j, la, rfl, rfl, HJ, HLA, HALL, HU⟩ := hrel
                  have j1 := HJ.out
                  have j0 := HBN.out
                  by_cases hj : j < B.length
                  · obtain ⟨gb, e1, _, hgb, ⟨k0, k1, k2, k3⟩, _⟩ := ls_at HU.out (at_get zT hj)
                    subst e1
                    have hdc := drop_cons hj
                    obtain ⟨t, ht⟩ : ∃ t, Heap.at_ zT B j = t := ⟨_, rfl⟩
                    rw [ht] at k0 k1 k2 k3 hdc
                    have htm : t ∈ B := ht ▸ at_mem hj
                    have hbl := HBL.out t htm
                    have hla := HLA.out t (by rw [hdc]; exact List.mem_cons_self)
                    have hd := HALL.out
                    rw [hdc] at hd
                    obtain ⟨rest, hrest⟩ : ∃ rest, B.drop (j + 1) ++ R1 = rest := ⟨_, rfl⟩
                    rw [List.cons_append, hrest] at hd
                    have hsub : (t :: rest).Sublist (B ++ R1) := by rw [← hrest, ← List.cons_append, ← hdc]; exact (List.drop_sublist j B).append_right R1
                    have HTN := Aside0.mk (show -9223372036854775808 ≤ t.n ∧ t.n ≤ 9223372036854775807 from by have := (HTB.out t (List.mem_append_left _ htm)).1; omega)
                    have HLK := Aside0.mk (show TabD.lookV ((t :: rest).map dk) t.n = (t.att, true) from by unfold TabD.lookV; rw [List.map_cons, List.find?_cons_of_pos (by simp [dk])]; rfl)
                    have HDO := Aside0.mk (show TabD.delV ((t :: rest).map dk) t.n = rest.map dk from del_one fun u hu e => by
                      have q := HND.out.sublist hsub
                      have e' := HUQ.out u (hsub.subset (List.mem_cons_of_mem _ hu)) t (hsub.subset List.mem_cons_self) e
                      subst e'
                      exact (List.nodup_cons.1 q).1 hu)
                    have HNX := Aside0.mk (show ∀ u ∈ B.drop (j + 1), t.att ≤ u.att from fun u hu => by
                      have q := (List.pairwise_cons.1 (HSR.out.sublist hsub)).1 u (by rw [← hrest]; exact List.mem_append_left _ hu)
                      rw [ltT_iff] at q
                      omega)
                    have HREST := Aside0.mk hrest
                    have f1 : (t.att != t.att) = false := by simp
                    have f2 : decide (now' < t.att) = false := decide_eq_false (by omega)
                    have f3 : decide (t.att < la) = false := decide_eq_false (by omega)
                    have HALL2 := Aside0.mk hd
                    clear hbl hla hd hdc htm ht hsub hrest HALL
                    have HALL := HALL2
                    clear HALL2
                    go_upto_region 30 with (fail)
                    have bel := below_alloc (Below.refl wr.heap.size wr) (.cells #[.int .i64 t.n, .int .i64 t.kind, .int .u64 t.lab, .int .i64 t.att] 37)
                    have hn := blk_new wr (.cells #[.int .i64 t.n, .int .i64 t.kind, .int .u64 t.lab, .int .i64 t.att] 37)
                    obtain ⟨wp, hwp⟩ : ∃ wp, wr.alloc (.cells #[.int .i64 t.n, .int .i64 t.kind, .int .u64 t.lab, .int .i64 t.att] 37) = wp := ⟨_, rfl⟩
                    have HALL2 := Aside0.mk (HALL.out.low bel)
                    have HU2 := Aside0.mk (HU.out.below bel)
                    clear HALL HU
                    have HALL := HALL2; have HU := HU2
                    clear HALL2 HU2
                    rw [hwp] at HALL HU hn ⊢
                    clear hwp bel k0 k1 k2 k3
                    generalize wr.heap.size = qb at hn ⊢
                    have HQB := Aside0.mk hn
                    have n0 := blk_cell hn 0; have n3 := blk_cell hn 3
                    clear hn
                    go_wp2_with (first | (at_lookup; refine TabD.wpList_look rfl _ _ rfl bd ((t :: rest).map dk) HALL.out.mp t.n HTN.out rfl rfl t.att true HLK.out ?_) | (at_delete; refine TabD.wpList_del rfl _ _ rfl bd ((t :: rest).map dk) HALL.out.mp t.n HTN.out rfl rfl ?_; intro w8 hm hg; have n9_ := Aside0.mk (HU.out.grown hg (.inr (ne_map HALL.out.mp HU.out))); have nq_ := blk_grown HQB.out hg (fun e => by cases e; exact HALL.out.mp.ne HQB.out rfl); have n3 := blk_cell nq_ 3; clear HU nq_; have HU := n9_; clear n9_; have n0_ := Aside0.mk (HALL.out.turn hm hg); clear HALL hm hg; have HALL := n0_; clear n0_; have c1_ := blk_cell HALL.out.st 1; have c2_ := blk_cell HALL.out.st 2; have c3_ := blk_cell HALL.out.st 3; have c4_ := blk_cell HALL.out.st 4))
                    go_roundw
                    case rel => exact ⟨j + 1, t.att, by go_num, rfl, ⟨by omega⟩, HNX, ⟨by rw [HREST.out, ← HDO.out]; exact HALL.out⟩, HU⟩
                    case measure => simp [intOf]; omega
                  · obtain rfl : j = B.length := by omega
                    have hd := HALL.out
                    rw [List.drop_length, List.nil_append] at hd
                    have HALL2 := Aside0.mk hd
                    clear hd HALL
                    have HALL := HALL2
                    clear HALL2
                    have o0 := HOL.out
                    go_wp2_with fail
                    go_loop [148] (fun vk => ∃ k : Nat, vk = .int .i64 k ∧ Aside0 (k ≤ ord.length)) (fun vk => (ord.length - intOf vk).toNat)
                    case atStart => exact ⟨0, rfl, ⟨Nat.zero_le _⟩⟩
                    case round =>
                      obtain ⟨k, rfl, HKL⟩ := hrel
                      have k1 := HKL.out
                      by_cases hkl : k < ord.length
                      · obtain ⟨n, hn⟩ : ∃ n, ord[k]? = some n := ⟨_, List.getElem?_eq_getElem hkl⟩
                        obtain ⟨go, e1, ko⟩ := lsI_at HALL.out.lo hn
                        subst e1
                        have hnb := HOR.out n (List.mem_of_getElem? hn)
                        have HNB2 := Aside0.mk (show -9223372036854775808 ≤ n ∧ n ≤ 9223372036854775807 from by have := HB9.out; omega)
                        obtain ⟨y, z, hy⟩ : ∃ y z, TabD.lookV (R1.map dk) n = (y, z) := ⟨_, _, rfl⟩
                        have hz := (look_dk hy).2
                        have HY := Aside0.mk hy
                        clear hy hn hnb
                        cases z
                        · clear hz
                          go_wp2_with (first | (at_lookup; refine TabD.wpList_look rfl _ _ rfl bd (R1.map dk) HALL.out.mp n HNB2.out rfl rfl y false HY.out ?_))
                          go_round
                          case rel => exact ⟨k + 1, by go_num, ⟨by omega⟩⟩
                          case measure => simp [intOf]; omega
                        · obtain ⟨t, ht, _, hta⟩ := hz rfl
                          have hgt := HRG.out t ht
                          have d9 : decide (y ≤ now') = false := decide_eq_false (by omega)
                          clear hz ht hta hgt
                          go_wp2_with (first | (at_lookup; refine TabD.wpList_look rfl _ _ rfl bd (R1.map dk) HALL.out.mp n HNB2.out rfl rfl y true HY.out ?_))
                          go_round
                          case rel => exact ⟨k + 1, by go_num, ⟨by omega⟩⟩
                          case measure => simp [intOf]; omega
                      · go_wp2_with fail
                        go_meet
                        exact ⟨_, last, now', i, R1, ord, HALL.out, ⟨by have := HBD.out; omega⟩, ⟨by omega⟩, ⟨Int.le_refl _⟩, ⟨by have := HOL.out; omega⟩, HOR, ⟨fun t ht => (HTB.out t (List.mem_append_right _ ht)).2⟩⟩
              · have hk3' : (x.a0 % 5 == 3) = false := by simp [hk3]
                obtain ⟨ba, hba⟩ : ∃ ba, badA x.a2 = ba := ⟨_, rfl⟩
                cases ba
                · obtain ⟨n1, hn1⟩ : ∃ n1, last + 1 = n1 := ⟨_, rfl⟩
                  obtain ⟨at1, hat1⟩ : ∃ a, attV now' x.a2 = a := ⟨_, rfl⟩
                  have H1 := Aside0.mk (fun F' w' h hB => set_v w g F' last T i R HI9.out HB9.out now' x.a2 0 x.a3 hba now' HT2.out n1 hn1 at1 hat1 w' h hB)
                  have hbb : ¬ (x.a2 < 0 ∨ 1099511627776 < x.a2) := of_decide_eq_false hba
                  have e4 : wrap64 (now' + x.a2) = now' + x.a2 := by have := HN2.out; exact Base.w64 (by omega) (by omega)
                  have HA1 := Aside0.mk (show 0 ≤ at1 from by rw [← hat1]; unfold attV; have := HN2.out; split <;> omega)
                  have HNE := Aside0.mk (show ∀ u ∈ R, u.n ≠ n1 from fun u hu e => by have := HALL.out.iW.bd u hu; omega)
                  have HN1 := Aside0.mk (show 0 ≤ last ∧ last + 1 = n1 ∧ n1 ≤ ((i + 1 : Nat) : Int) from by have := HBD.out; omega)
                  have HNK := Aside0.mk (show -9223372036854775808 ≤ n1 ∧ n1 ≤ 9223372036854775807 from by have := HN1.out; omega)
                  have d1 : decide (n1 < 1) = false := decide_eq_false (by have := HN1.out; omega)
                  obtain ⟨y, hy⟩ : ∃ y, TabD.lookV (R.map dk) n1 = (y, false) := by
                    obtain ⟨y, z, hy⟩ : ∃ y z, TabD.lookV (R.map dk) n1 = (y, z) := ⟨_, _, rfl⟩
                    cases z
                    · exact ⟨y, hy⟩
                    · obtain ⟨t, ht, e, _⟩ := (look_dk hy).2 rfl
                      exact absurd e (HNE.out t ht)
                  have HY := Aside0.mk hy
                  have HRL := Aside0.mk (show (R.map dk).length ≤ 1000000 from by rw [List.length_map]; have := HALL.out.iW.llen; omega)
                  have HOL2 := Aside0.mk (show (ord.length + 1) * 8 ≤ 140737488355328 from by have := HOL.out; omega)
                  have HHAT := Aside0.mk hat1
                  unfold attV at hat1
                  clear hba hbb hn1 hy hk1 hk3
                  go_wp2_with (first | (go_at_call 10; (with_reducible refine (H1.out _ _ HALL.out.iW HALL.out.bl).mono ?_); rintro e w9 ⟨rfl, hp⟩; obtain ⟨F9, hp⟩ := HALL.out.t hp; have n0_ := Aside0.mk hp; clear HALL hp; have HALL := n0_; clear n0_; have c1_ := blk_cell HALL.out.st 1; have c2_ := blk_cell HALL.out.st 2; have c3_ := blk_cell HALL.out.st 3; have c4_ := blk_cell HALL.out.st 4) | (at_lookup; refine TabD.wpList_look rfl _ _ rfl bd (R.map dk) HALL.out.mp n1 HNK.out rfl rfl y false HY.out ?_) | (at_mapUpdate; refine TabD.wpList_put rfl _ _ _ rfl bd (R.map dk) HALL.out.mp HRL.out n1 at1 HNK.out rfl rfl rfl ?_; intro w8 hm hg; have n0_ := Aside0.mk (HALL.out.turn hm hg); clear HALL hm hg; have HALL := n0_; clear n0_; have c1_ := blk_cell HALL.out.st 1; have c2_ := blk_cell HALL.out.st 2; have c3_ := blk_cell HALL.out.st 3; have c4_ := blk_cell HALL.out.st 4) | (at_builtin; refine wpList_push rfl _ _ 26 3 _ 8 rfl Try.underlying26 info3 rfl w.heap.size (.slice A5 ord.length c5) ord n1 rfl _ rfl (by simp) HALL.out.lo HALL.out.bl.size HOL2.out (by decide) _ rfl ?_; intro v8 w8 h1 h2 h3; have n0_ := Aside0.mk (HALL.out.push h1 h2); clear HALL h1 h2 h3; have HALL := n0_; clear n0_) | go_in)
                  go_meet
                  refine ⟨_, n1, now', i + 1, insV R ⟨n1, 0, x.a3, at1⟩, ord ++ [n1], { HALL.out with mp := HALL.out.mp.perm (put_new (x := ⟨n1, 0, x.a3, at1⟩) HNE.out) }, ⟨by have := HN1.out; omega⟩, ⟨Nat.le_refl _⟩, ⟨Int.le_refl _⟩, ⟨by rw [List.length_append, List.length_singleton]; have := HOL.out; omega⟩, ⟨fun n hn => ?_⟩, ⟨fun t ht => ?_⟩⟩
                  · have q := HN1.out
                    rcases List.mem_append.1 hn with hn | hn
                    · have := HOR.out n hn; omega
                    · rw [List.mem_singleton.1 hn]; omega
                  · rcases List.mem_cons.1 ((ins_perm R _).mem_iff.1 ht) with rfl | ht
                    · exact HA1.out
                    · exact HAT.out t ht
                · have H1 := Aside0.mk (fun F' w' h hB => set_bad w g F' last T i R now' x.a2 0 x.a3 hba now' HT2.out w' h hB)
                  clear hba hk1 hk3
                  go_wp2_with (first | (go_at_call 10; (with_reducible refine (H1.out _ _ HALL.out.iW HALL.out.bl).mono ?_); rintro e w9 ⟨rfl, hp⟩; obtain ⟨F9, hp⟩ := HALL.out.t hp; have n0_ := Aside0.mk hp; clear HALL hp; have HALL := n0_; clear n0_; have c1_ := blk_cell HALL.out.st 1; have c2_ := blk_cell HALL.out.st 2; have c3_ := blk_cell HALL.out.st 3; have c4_ := blk_cell HALL.out.st 4))
                  go_roundg (L - (i + 1))
                  case rel => exact ⟨i + 1, _, last, now', R, now', ord, by go_num, rfl, ⟨by omega⟩, ⟨by have := HBD.out; omega⟩, ⟨by have := HN2.out; omega⟩, ⟨HALL.out.iW.up (Nat.le_succ i)⟩, ⟨HALL.out.mp⟩, ⟨HALL.out.bl⟩, ⟨HALL.out.lo⟩, ⟨HALL.out.nb⟩, ⟨by have := HOL.out; omega⟩, HOR, HAT, ⟨rfl⟩⟩
                  case measure => have := HKG.out; omega
          case rest =>
            clear HALL
            obtain ⟨F2, last1, T1, m1, R1, ord1, ha, HBD1, HM1, HT1, HOL1, HOR1, HAT1⟩ := hcut
            obtain ⟨kk, hkk⟩ : ∃ kk, R1.length = kk := ⟨_, rfl⟩
            have ql := TabD.run_len bd (R1.map dk) _ ha.mp
            rw [List.length_map, hkk] at ql
            have fq : ((kk : Int) != (kk : Int)) = false := by simp
            have HKK := Aside0.mk hkk
            have HALL := Aside0.mk ha
            clear ha hkk
            go_wp2_with (first | (go_at_call 11; (with_reducible refine (len_v w g _ _ _ _ R1 kk HKK.out _ HALL.out.iW).mono ?_); rintro e w9 ⟨rfl, rfl⟩))
            go_roundg (L - (i + 1))
            case rel => exact ⟨i + 1, F2, last1, T1, R1, now', ord1, by go_num, rfl, ⟨by omega⟩, HBD1, ⟨by have := HN2.out; have := HT1.out; omega⟩, ⟨HALL.out.iW.up HM1.out⟩, ⟨HALL.out.mp⟩, ⟨HALL.out.bl⟩, ⟨HALL.out.lo⟩, ⟨HALL.out.nb⟩, HOL1, HOR1, HAT1, ⟨rfl⟩⟩
            case measure => have := HKG.out; omega
    · go_wp2_with (first | (go_at_call 12; (with_reducible refine (HA.out _).mono ?_); rintro e w9 ⟨rfl, hb⟩; have n1_ := Aside0.mk (below_step HB.out hb); clear HB hb; have HB := n1_; clear n1_))
      go_ret
      exact ⟨rfl, HB.out⟩
end Go.Proofs.Ytpkilechkoiffaa.Wh
