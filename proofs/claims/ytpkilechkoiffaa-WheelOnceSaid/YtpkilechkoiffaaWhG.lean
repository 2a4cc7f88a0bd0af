/- The wheel: StopAll, New; no condition but those that stand in each. -/
import Derived.Test.YtpkilechkoiffaaWhE
import Derived.Lib.SlMapFilter
namespace Go.Proofs.Ytpkilechkoiffaa.Wh
set_option linter.unusedVariables false
set_option linter.unusedSimpArgs false
open Go.RowKit Go.Proofs.YtpkilechkoiffaaW.PrintWords Go.Proofs.YtpkilechkoiffaaW.PrintLast Go.Proofs.YtpkilechkoiffaaW.PrintMore Go.Proofs.Ytpkilechkoiffaa.Lst Go.Proofs.Ytpkilechkoiffaa.Heap Go.Proofs.Ytpkilechkoiffaa.TabL
attribute [local go_sem] max2_int min2_int max_two min_two max_three min_three max_four min_four
def pdD (lab : Int) : Lit → DW → Bool
  | _, .lit (.int _ x) => x == lab
  | _, _ => false
def strV (l : List Bk) (lab : Int) : List Bk := l.filter (fun q => !(q.x == lab))
theorem relD_strike {D : DW} {l : List Bk} (h : RelD D l) (lab : Int) : RelD (Lib.deleteFuncD (pdD lab) D) (strV l lab) := by
  obtain ⟨es, rfl, hp⟩ := h
  refine ⟨_, rfl, ?_⟩
  have := hp.filter (fun p => !pdD lab p.1 p.2)
  refine this.trans ?_
  rw [List.filter_map]
  exact .of_eq (congrArg _ (List.filter_congr fun q _ => rfl))
theorem strV_le (l : List Bk) (lab : Int) : (strV l lab).length ≤ l.length := List.length_filter_le _ _
set_option maxHeartbeats 8000000 in
set_option maxRecDepth 100000 in
theorem stopall_w (w0 : World) (g : Nat) (v : Value) (b : Nat) (s : WS) (lab : Int) (r : Int) (hr : (s.live.length : Int) - ((strV s.live lab).length : Int) = r) (hl : s.live.length ≤ 1000) (w : World) (h : IsW w0 w g v b s) (hB : Below w0.heap.size w0 w) :
    Calls Try.prog 14 #[.pointer (some ⟨g, 0, none⟩), .int .u64 lab] w fun e w' => e = .returned (.int .i64 r) ∧ MapIs w' b (strV s.live lab) ∧ w.grownBy w' (some b) := by
  obtain ⟨D, ho, r0⟩ := h.map
  obtain ⟨es0, rfl, hp⟩ := r0
  obtain ⟨es0', he, hap, hkeys⟩ := ho.entries law
  injection he with he
  subst he
  obtain ⟨l, hll⟩ : ∃ l, s.live = l := ⟨_, rfl⟩
  rw [hll] at ho hp hr hl ⊢
  have R := Aside0.mk (show RelD (.map es0) l from ⟨es0, rfl, hp⟩)
  have HQ := Aside0.mk (run_len b l)
  have HQ2 := Aside0.mk (run_len b (strV l lab))
  have HMM := Aside0.mk (show MapIs w b l from ⟨_, ho, es0, rfl, hp⟩)
  have HW := Aside0.mk h
  have HR := Aside0.mk hr
  have HL := Aside0.mk hl
  have hc1 := h.c1
  have HGE := Aside0.mk h.ne
  have ql := HQ.out w HMM.out
  have e1 : wrap64 ((l.length : Int) - ((strV l lab).length : Int)) = r := by
    rw [hr]
    have := strV_le l lab
    exact Base.w64 (by omega) (by omega)
  have hz := zeroE
  have hnb := h.lt
  have hbb := ho.lt
  clear hp hll hr hl h hB
  go_enter Try.func14, Try.ntmps14
  go_wp2_with (first
    | (go_at_call 21; (with_reducible refine (ok_c w0 g _ b s _ HW.out).mono ?_); rintro e w9 ⟨rfl, rfl⟩)
    | (at_range; refine wpList_range_own _ rfl _ 56 rfl 3 28 law Try.underlying56 RB b l.length _ rfl ho ?_; intro w0 hrg0 hg0 hs0)
    | go_in)
  go_frame
  go_loopw [21] (fun _ wr => ∃ (left : Lit → Bool) (cnt : Nat), wr.ranges Try.prog 3 RB b w.heap.size l.length (Maps.Fk (pdD lab) es0 left) left cnt ∧ w.grownBy wr (some b))
    (fun _ wr => wr.rangeLeft b w.heap.size)
  case atStart => exact ⟨_, _, by rw [Maps.Fk_start hkeys]; exact hrg0, hg0.but _⟩
  case round =>
    obtain ⟨left, cnt, hrg, hgw⟩ := hrel
    have hne : some g ≠ some b := by intro e; cases e; exact HGE.out rfl
    have hblk := blk_grown HW.out.1.1 hgw hne
    have hcw := blk_cell hblk 1
    dsimp only [wcells] at hcw
    have hcw : wr.cell? ⟨g, 1, none⟩ = some (.map (some b)) := hcw
    have HBLK := Aside0.mk hblk
    have HNE := Aside0.mk hne
    clear hblk hne
    go_wp2_with (first
      | (at_next; refine wpList_next_ranges _ rfl _ rfl 3 law RB (Value.int .i64) (fun c : Int => Value.int .u64 c) (fun key kl h => by obtain ⟨x, rfl, _⟩ := Maps.keyOf_int_inv Try.underlying3 h; exact ⟨x, rfl⟩) (fun v y h => by obtain ⟨x, rfl, _⟩ := RB_inv h; exact ⟨x, rfl⟩) b w.heap.size l.length _ _ _ rfl hrg ?_ ?_)
      | go_in)
    · -- nothing is left
      intro _ hl0
      have hmz : MapIs wr b (strV l lab) := .of hrg.owns (by rw [Maps.Fk_end hl0]; exact relD_strike R.out lab)
      have HMZ := Aside0.mk hmz
      have HGZ := Aside0.mk hgw
      have qz := HQ2.out wr hmz
      clear hmz hrg hgw
      go_wp2_with fail
      go_ret
      exact ⟨by rw [← e1]; rfl, HMZ.out, HGZ.out⟩
    · -- an entry has come
      intro k x0 kl yd yp w1 cnt1 hkey hlx hv hat hrg1 hlt hg1 hs1 hen
      obtain ⟨k', ek, rfl, hkw⟩ := Maps.keyOf_int_inv Try.underlying3 hkey
      cases ek
      obtain ⟨x', ev, hyd⟩ := RB_inv hv
      obtain rfl : x0 = x' := by
        unfold rec2 at ev
        simpa using ev
      simp only [Prod.mk.injEq] at hyd
      obtain ⟨rfl, rfl⟩ := hyd
      clear ev
      try dsimp only at hat hen
      have hgw1 := hgw.andThen hg1 (fun j hj => by cases hj; exact Or.inl (Nat.le_refl _))
      have hbl := hrg1.owns.lt
      have hrl := hrg1.lt
      have hcw1 : w1.cell? ⟨g, 1, none⟩ = some (.map (some b)) := blk_cell (blk_grown HW.out.1.1 hgw1 HNE.out) 1
      have HPD := Aside0.mk (show pdD lab (.int .i64 k) (datX x0) = (x0 == lab) from rfl)
      have HGW := Aside0.mk hgw1
      have HRG := Aside0.mk hrg1
      have HAT := Aside0.mk hat
      have HKEY := Aside0.mk hkey
      clear hgw1 hrg1 hat hv
      obtain ⟨pb, hpb⟩ : ∃ pb, (x0 == lab) = pb := ⟨_, rfl⟩
      have HPB := Aside0.mk hpb
      have HLX := Aside0.mk hlx
      have HLT := Aside0.mk hlt
      have HW1 := Aside0.mk hs1
      clear hlx hlt hs1
      cases pb
      · go_wp2_with fail
        go_roundw
        case rel => exact ⟨_, cnt1, by rw [← Maps.Fk_stays hap (isKey k) HLX.out (HPD.out.trans HPB.out) HAT.out]; exact HRG.out, HGW.out⟩
        case measure => rw [HRG.out.left_eq, hrg.left_eq]; exact HLT.out
      · go_wp2_with (first
          | (at_delete; refine wpList_delete_ranges _ rfl _ _ 56 3 rfl 28 law Try.underlying56 RB b w.heap.size l.length _ _ _ rfl HRG.out _ _ rfl HKEY.out ?_; intro w3 cnt3 hrg3 hle hturn; go_frame)
          | go_in)
        rw [Maps.strike_twice] at hrg3
        have HRG3 := Aside0.mk hrg3
        have HTU := Aside0.mk hturn
        have HLE := Aside0.mk hle
        clear hrg3 hturn hle
        go_roundw
        case rel => exact ⟨_, cnt3, by rw [← Maps.Fk_struck hap (isKey k) HLX.out (HPD.out.trans HPB.out) HAT.out]; exact HRG3.out, HGW.out.andThen HTU.out.grown (fun j hj => by cases hj; exact Or.inr rfl)⟩
        case measure => rw [HRG3.out.left_eq, hrg.left_eq]; have a := HLT.out; have b := HLE.out; omega
theorem stopall_c (w0 : World) (g : Nat) (v : Value) (b : Nat) (s : WS) (L : List Tm) (hs : Sim s L) (hl : s.heap.length ≤ 1000) (lab : Int) (L' : List Tm) (hL' : L.filter (fun t => !(t.lab == lab)) = L') (r : Int) (hr : (L.length : Int) - (L'.length : Int) = r) (w : World) (h : IsW w0 w g v b s) (hB : Below w0.heap.size w0 w) :
    Calls Try.prog 14 #[.pointer (some ⟨g, 0, none⟩), .int .u64 lab] w fun e w' => e = .returned (.int .i64 r) ∧ PostS w0 w g v b s.last s.now s.heap.length L' w' := by
  have h2 := hs.stopAll lab
  rw [hL'] at h2
  have e1 := hs.len; have e2 := h2.len; have e3 := hs.llen
  refine (stopall_w w0 g v b s lab r ?_ (by omega) w h hB).mono ?_
  · show _ - (((s.live.filter (fun q => !(q.x == lab))).length : Nat) : Int) = r
    dsimp only at e2
    rw [e1, e2]; exact hr
  · rintro e w' ⟨rfl, hm, hg⟩
    exact ⟨rfl, { s with live := strV s.live lab }, rfl, rfl, Nat.le_refl _, h2, h.mapped hB hm hg⟩
theorem stops_c (w0 : World) (g : Nat) (v : Value) (b : Nat) (s : WS) (L : List Tm) (hs : Sim s L) (n : Int) (hn : -9223372036854775808 ≤ n ∧ n ≤ 9223372036854775807) (L' : List Tm) (hL' : L.filter (fun t => !(t.n == n)) = L') (r : Int) (hr : (if hasT L n then 0 else 6) = r) (w : World) (h : IsW w0 w g v b s) (hB : Below w0.heap.size w0 w) :
    Calls Try.prog 8 #[.pointer (some ⟨g, 0, none⟩), .int .i64 n] w fun e w' => e = .returned (.int .i64 r) ∧ PostS w0 w g v b s.last s.now s.heap.length L' w' := by
  have e := hs.has n
  by_cases hh : hasT L n = true
  · rw [hh] at e hr
    rw [if_pos rfl] at hr
    subst hr
    refine (stop_c w0 g v b s n hn 0 { s with live := delV s.live n } (by unfold stopV; rw [if_pos e]) w h hB).mono ?_
    rintro e w' ⟨rfl, hp⟩
    have h2 := hs.stop n
    rw [hL'] at h2
    exact ⟨rfl, { s with live := delV s.live n }, rfl, rfl, Nat.le_refl _, h2, hp⟩
  · have hf : hasT L n = false := by simpa using hh
    rw [hf] at e hr
    rw [if_neg (by decide)] at hr
    subst hr
    refine (stop_c w0 g v b s n hn 6 s (by unfold stopV; rw [if_neg (by rw [e]; decide)]) w h hB).mono ?_
    rintro e w' ⟨rfl, hp⟩
    have : L' = L := by
      rw [← hL', List.filter_eq_self]
      intro t ht
      have : t.n ≠ n := fun e => hh (hasT_iff.2 ⟨t, ht, e⟩)
      simpa using this
    rw [this]
    exact ⟨rfl, s, rfl, rfl, Nat.le_refl _, hs, hp⟩
def new0 : WS := ⟨[], [], 0, 0⟩
theorem new_sim : Sim new0 [] := ⟨List.Pairwise.nil, .refl _, (fun t ht => by cases ht), (fun t ht => by cases ht), (fun k h0 hk => by cases hk), (fun t ht => by cases ht), by decide, by decide⟩
theorem new_c (w : World) : Calls Try.prog 6 #[] w fun e w' => ∃ g v b, e = .returned (.pointer (some ⟨g, 0, none⟩)) ∧ IsW w w' g v b new0 ∧ Below w.heap.size w w' := by
  have hmm := @run_makeMap Try.prog
  go_enter Try.func6, Try.ntmps6
  go_wp2_with fail
  go_ret
  have e : (w.alloc (.map #[] 0)).heap.size = w.heap.size + 1 := Array.size_push ..
  have b1 := below_alloc (Below.refl w.heap.size w) (.map #[] 0)
  have b2 := below_alloc (Below.refl (w.alloc (.map #[] 0)).heap.size (w.alloc (.map #[] 0))) (.cells #[.slice none 0 0, .map (some w.heap.size), .int .i64 0, .int .i64 0] 58)
  refine ⟨w.heap.size + 1, .slice none 0 0, w.heap.size, rfl, ⟨⟨?_, Ls.nil _ _ _ _⟩, (mapIs_made w).below b2, by omega, Nat.le_refl _⟩, below_step b1 b2⟩
  rw [← e]; exact blk_new _ _
/-! ### the wheel as the laws meet it: its blocks are F -/
def Wst (w0 W : World) (g : Nat) (F : Nat → Prop) (last now : Int) (m : Nat) (L : List Tm) : Prop := ∃ v b s, F = FoW g v b ∧ s.last = last ∧ s.now = now ∧ s.heap.length ≤ m ∧ Sim s L ∧ IsW w0 W g v b s
def PostV (w0 w : World) (g : Nat) (F : Nat → Prop) (last now : Int) (m : Nat) (L : List Tm) (w' : World) : Prop := ∃ F', Wst w0 w' g F' last now m L ∧ Below w0.heap.size w0 w' ∧ Kept w w' F ∧ ∀ k, F' k → F k ∨ w.heap.size ≤ k
section
variable {w0 w W W' : World} {g : Nat} {F : Nat → Prop} {last now : Int} {m : Nat} {L : List Tm}
theorem PostS.v {v : Value} {b : Nat} {w' : World} (h : PostS w0 w g v b last now m L w') : PostV w0 w g (FoW g v b) last now m L w' := by
  obtain ⟨s, h1, h2, h3, h4, v', i, bl, k, o⟩ := h
  refine ⟨FoW g v' b, ⟨v', b, s, rfl, h1, h2, h3, h4, i⟩, bl, k, ?_⟩
  rintro k (e | e | e)
  · exact .inl (.inl e)
  · rcases o with o | ⟨k', o, hk⟩
    · rw [o] at e; exact .inl (.inr (.inl e))
    · rw [o] at e; cases e; exact .inr hk
  · exact .inl (.inr (.inr e))
theorem Wst.lt (h : Wst w0 W g F last now m L) {k : Nat} (hk : F k) : k < W.heap.size := by
  obtain ⟨v, b, s, rfl, _, _, _, _, i⟩ := h
  rcases hk with rfl | e | e
  · exact i.lt
  · exact (i.f.ls.own k e).2.1
  · rw [e]; exact i.map.lt
theorem Wst.ge (h : Wst w0 W g F last now m L) {k : Nat} (hk : F k) : w0.heap.size ≤ k := by
  obtain ⟨v, b, s, rfl, _, _, _, _, i⟩ := h
  rcases hk with rfl | e | e
  · exact i.ge
  · exact (i.f.ls.own k e).1
  · rw [e]; exact i.geb
theorem Wst.below (h : Wst w0 W g F last now m L) (hb : Below W.heap.size W W') : Wst w0 W' g F last now m L := by
  obtain ⟨v, b, s, e, h1, h2, h3, h4, i⟩ := h
  exact ⟨v, b, s, e, h1, h2, h3, h4, i.below hb⟩
theorem Wst.drewN (h : Wst w0 W g F last now m L) (n : Nat) : Wst w0 (W.drewN n) g F last now m L := by
  obtain ⟨v, b, s, e, h1, h2, h3, h4, i⟩ := h
  exact ⟨v, b, s, e, h1, h2, h3, h4, i.drew n⟩
theorem Wst.drew (h : Wst w0 W g F last now m L) : Wst w0 W.drew g F last now m L := h.drewN 1
theorem Wst.kept {S : Nat → Prop} (h : Wst w0 W g F last now m L) (hk : Kept W W' S) (hn : ∀ k, F k → ¬ S k) : Wst w0 W' g F last now m L := by
  obtain ⟨v, b, s, rfl, h1, h2, h3, h4, i⟩ := h
  exact ⟨v, b, s, rfl, h1, h2, h3, h4, ⟨(hk.2 g i.lt (hn g (.inl rfl))).trans i.f.1, own_move i.f.2 (fun k e => hk.2 k (i.f.ls.own k e).2.1 (hn k (.inr (.inl e))))⟩, i.map.move (hk.2 b i.map.lt (hn b (.inr (.inr rfl)))), i.2.2⟩
theorem Wst.up (h : Wst w0 W g F last now m L) {m' : Nat} (hm : m ≤ m') : Wst w0 W g F last now m' L := by
  obtain ⟨v, b, s, e, h1, h2, h3, h4, i⟩ := h
  exact ⟨v, b, s, e, h1, h2, Nat.le_trans h3 hm, h4, i⟩
theorem Wst.llen (h : Wst w0 W g F last now m L) : L.length ≤ m := by
  obtain ⟨v, b, s, _, _, _, h3, h4, _⟩ := h
  exact Nat.le_trans h4.llen h3
theorem Wst.tk (h : Wst w0 W g F last now m L) : 0 ≤ now ∧ now ≤ 1099511627776 := by
  obtain ⟨v, b, s, _, _, rfl, _, h4, _⟩ := h
  exact h4.tk
theorem Wst.bd (h : Wst w0 W g F last now m L) : ∀ t ∈ L, 1 ≤ t.n ∧ t.n ≤ last := by
  obtain ⟨v, b, s, _, rfl, _, _, h4, _⟩ := h
  exact fun t ht => h4.bd t (h4.sub t ht)
theorem Wst.srt (h : Wst w0 W g F last now m L) : L.Pairwise (fun a b => ltT a b = true) := by
  obtain ⟨v, b, s, _, _, _, _, h4, _⟩ := h
  exact h4.srt
theorem Wst.uni (h : Wst w0 W g F last now m L) : ∀ t ∈ L, ∀ u ∈ L, t.n = u.n → t = u := by
  obtain ⟨v, b, s, _, _, _, _, h4, _⟩ := h
  exact fun t ht => h4.uni t (h4.sub t ht)
end
def laterT (T now : Int) : Int := if now ≤ 1099511627776 then (if T < now then now else T) else T
theorem later_t (s : WS) (now : Int) : (laterV s now).now = laterT s.now now := by unfold laterV laterT; split <;> rfl
section
variable (w0 : World) (g : Nat) (F : Nat → Prop) (last T : Int) (m : Nat) (L : List Tm)
theorem new_v (w : World) : Calls Try.prog 6 #[] w fun e w' => ∃ g F, e = .returned (.pointer (some ⟨g, 0, none⟩)) ∧ Wst w w' g F 0 0 0 [] ∧ Below w.heap.size w w' := by
  refine (new_c w).mono ?_
  rintro e w' ⟨g, v, b, rfl, h, hb⟩
  exact ⟨g, _, rfl, ⟨v, b, new0, rfl, rfl, rfl, Nat.le_refl _, new_sim, h⟩, hb⟩
theorem set_bad (now after kind lab : Int) (ha : badA after = true) (T' : Int) (hT : laterT T now = T') (w : World) (h : Wst w0 w g F last T m L) (hB : Below w0.heap.size w0 w) :
    Calls Try.prog 10 #[.pointer (some ⟨g, 0, none⟩), .int .i64 now, .int .i64 after, .int .i64 kind, .int .u64 lab] w fun e w' => e = .returned (.tuple #[.int .i64 0, .int .i64 1]) ∧ PostV w0 w g F last T' m L w' := by
  obtain ⟨v, b, s, rfl, rfl, rfl, h3, h4, i⟩ := h
  refine (set_no w0 g v b s L h4 now after kind lab ha _ rfl _ ((later_t s now).trans hT) w i hB).mono ?_
  rintro e w' ⟨rfl, s', a1, a2, a3, a4, a5⟩
  exact ⟨rfl, PostS.v ⟨s', a1, a2, Nat.le_trans a3 h3, a4, a5⟩⟩
theorem set_v (hm : m ≤ 1000) (hl : last ≤ 1000) (now after kind lab : Int) (ha : badA after = false) (T' : Int) (hT : laterT T now = T') (n : Int) (hn : last + 1 = n) (at_ : Int) (hat : attV T' after = at_) (w : World) (h : Wst w0 w g F last T m L) (hB : Below w0.heap.size w0 w) :
    Calls Try.prog 10 #[.pointer (some ⟨g, 0, none⟩), .int .i64 now, .int .i64 after, .int .i64 kind, .int .u64 lab] w fun e w' => e = .returned (.tuple #[.int .i64 n, .int .i64 0]) ∧ PostV w0 w g F n T' (m + 1) (insV L ⟨n, kind, lab, at_⟩) w' := by
  obtain ⟨v, b, s, rfl, rfl, rfl, h3, h4, i⟩ := h
  refine (set_c w0 g v b s L h4 (by omega) hl now after kind lab ha _ rfl _ ((later_t s now).trans hT) n hn at_ hat w i hB).mono ?_
  rintro e w' ⟨rfl, s', a1, a2, a3, a4, a5⟩
  exact ⟨rfl, PostS.v ⟨s', a1, a2, by omega, a4, a5⟩⟩
theorem due_v (hm : m ≤ 1000) (hl : last ≤ 1000) (now : Int) (T' : Int) (hT : laterT T now = T') (w : World) (h : Wst w0 w g F last T m L) (hB : Below w0.heap.size w0 w) :
    Calls Try.prog 9 #[.pointer (some ⟨g, 0, none⟩), .int .i64 now] w fun e w' => ∃ u, e = .returned u ∧ Ls encT 37 w' w.heap.size u (befV L T') ∧ PostV w0 w g F last T' m (aftV L T') w' := by
  obtain ⟨v, b, s, rfl, rfl, rfl, h3, h4, i⟩ := h
  refine (due_c w0 g v b s L h4 (by omega) (by omega) now _ rfl T' ((later_t s now).trans hT) w i hB).mono ?_
  rintro e w' ⟨u, rfl, hu, s', a1, a2, a3, a4, a5⟩
  exact ⟨u, rfl, hu, PostS.v ⟨s', a1, a2, Nat.le_trans a3 h3, a4, a5⟩⟩
theorem next_v (hm : m ≤ 1000) (hl : last ≤ 1000) (a : Int) (ha : (topT L).att = a) (r : Bool) (hr : anyT L = r) (w : World) (h : Wst w0 w g F last T m L) (hB : Below w0.heap.size w0 w) :
    Calls Try.prog 19 #[.pointer (some ⟨g, 0, none⟩)] w fun e w' => e = .returned (.tuple #[.int .i64 a, .bool r]) ∧ PostV w0 w g F last T m L w' := by
  obtain ⟨v, b, s, rfl, rfl, rfl, h3, h4, i⟩ := h
  subst ha
  refine (next_c w0 g v b s L h4 (by omega) (by omega) _ rfl r hr w i hB).mono ?_
  rintro e w' ⟨rfl, hp⟩
  obtain ⟨s', a1, a2, a3, a4, a5⟩ := hp.s
  exact ⟨rfl, PostS.v ⟨s', a1, a2, Nat.le_trans a3 h3, a4, a5⟩⟩
theorem stop_v (n : Int) (hn : -9223372036854775808 ≤ n ∧ n ≤ 9223372036854775807) (L' : List Tm) (hL' : L.filter (fun t => !(t.n == n)) = L') (r : Int) (hr : (if hasT L n then 0 else 6) = r) (w : World) (h : Wst w0 w g F last T m L) (hB : Below w0.heap.size w0 w) :
    Calls Try.prog 8 #[.pointer (some ⟨g, 0, none⟩), .int .i64 n] w fun e w' => e = .returned (.int .i64 r) ∧ PostV w0 w g F last T m L' w' := by
  obtain ⟨v, b, s, rfl, rfl, rfl, h3, h4, i⟩ := h
  refine (stops_c w0 g v b s L h4 n hn L' hL' r hr w i hB).mono ?_
  rintro e w' ⟨rfl, s', a1, a2, a3, a4, a5⟩
  exact ⟨rfl, PostS.v ⟨s', a1, a2, Nat.le_trans a3 h3, a4, a5⟩⟩
theorem stopall_v (hm : m ≤ 1000) (lab : Int) (L' : List Tm) (hL' : L.filter (fun t => !(t.lab == lab)) = L') (r : Int) (hr : (L.length : Int) - (L'.length : Int) = r) (w : World) (h : Wst w0 w g F last T m L) (hB : Below w0.heap.size w0 w) :
    Calls Try.prog 14 #[.pointer (some ⟨g, 0, none⟩), .int .u64 lab] w fun e w' => e = .returned (.int .i64 r) ∧ PostV w0 w g F last T m L' w' := by
  obtain ⟨v, b, s, rfl, rfl, rfl, h3, h4, i⟩ := h
  refine (stopall_c w0 g v b s L h4 (by omega) lab L' hL' r hr w i hB).mono ?_
  rintro e w' ⟨rfl, s', a1, a2, a3, a4, a5⟩
  exact ⟨rfl, PostS.v ⟨s', a1, a2, Nat.le_trans a3 h3, a4, a5⟩⟩
theorem len_v (n : Nat) (hn : L.length = n) (w : World) (h : Wst w0 w g F last T m L) : Calls Try.prog 11 #[.pointer (some ⟨g, 0, none⟩)] w fun e w' => e = .returned (.int .i64 (n : Int)) ∧ w = w' := by
  obtain ⟨v, b, s, rfl, rfl, rfl, h3, h4, i⟩ := h
  exact wlen_c w0 g v b s n (h4.len.trans hn) w i
theorem now_v (w : World) (h : Wst w0 w g F last T m L) : Calls Try.prog 20 #[.pointer (some ⟨g, 0, none⟩)] w fun e w' => e = .returned (.int .i64 T) ∧ w = w' := by
  obtain ⟨v, b, s, rfl, rfl, rfl, h3, h4, i⟩ := h
  exact now_c w0 g v b s _ rfl w i
end
end Go.Proofs.Ytpkilechkoiffaa.Wh
