/- Bind of a table that is full; the walk; no condition but those that stand in each. -/
import Derived.Test.YtghicenodafbkaaAffC
namespace Go.Proofs.Ytghicenodafbkaa.Aff
set_option linter.unusedVariables false
set_option linter.unusedSimpArgs false
open Go.RowKit Go.Proofs.Ytghicenodafbkaa.PA Go.Proofs.YtghicenodafbkaaW.PrintWords Go.Proofs.YtghicenodafbkaaW.PrintLast Go.Proofs.YtghicenodafbkaaW.PrintMore Go.Proofs.Ytghicenodafbkaa.Tab Go.Proofs.Ytghicenodafbkaa.Coll
attribute [local go_sem] max2_int min2_int max_two min_two max_three min_three max_four min_four
/-- the least of the keys, as they go -/
def IsMin (l : List Bk) (m : Int) : Prop := (∃ q ∈ l, q.key = m) ∧ ∀ q ∈ l, ¬ firstV l q.key m < 0
theorem first_neg (l : List Bk) (a b : Int) : firstV l a b < 0 ↔ ((lookV l a).2.1 < (lookV l b).2.1 ∨ ((lookV l a).2.1 = (lookV l b).2.1 ∧ a < b)) := by
  unfold firstV orV cmpV
  (repeat' split) <;> omega
theorem min_least (l : List Bk) : ∀ (ss : List Int) (m : Int), ∀ x ∈ m :: ss, ¬ firstV l x (minV l m ss) < 0
  | [], m, x, hx => by
    obtain rfl : x = m := by simpa using hx
    show ¬ firstV l x x < 0
    rw [first_neg]; omega
  | y :: ss, m, x, hx => by
    have ih := min_least l ss (pick l m y)
    have e : minV l m (y :: ss) = minV l (pick l m y) ss := rfl
    rw [e]
    have hp := ih _ List.mem_cons_self
    by_cases hq : firstV l y m < 0
    · have ep : pick l m y = y := if_pos hq
      rw [ep] at hp ih ⊢
      rcases List.mem_cons.1 hx with rfl | hx
      · rw [first_neg] at hp hq ⊢; omega
      · exact ih x hx
    · have ep : pick l m y = m := if_neg hq
      rw [ep] at hp ih ⊢
      rcases List.mem_cons.1 hx with rfl | hx
      · exact hp
      · rcases List.mem_cons.1 hx with rfl | hx
        · rw [first_neg] at hp hq ⊢; omega
        · exact ih x (List.mem_cons_of_mem _ hx)
theorem minV_in (l : List Bk) (ss : List Int) (m : Int) : minV l m ss ∈ m :: ss := by
  rcases minV_mem l ss m with h | h
  · rw [h]; exact List.mem_cons_self
  · exact List.mem_cons_of_mem _ h
theorem min_is {l : List Bk} {m : Int} {ss : List Int} (h : (m :: ss).Perm (l.map (·.key))) : IsMin l (minV l m ss) := by
  constructor
  · have hm : minV l m ss ∈ m :: ss := by
      rcases minV_mem l ss m with h | h
      · rw [h]; exact List.mem_cons_self
      · exact List.mem_cons_of_mem _ h
    obtain ⟨q, hq, e⟩ := List.mem_map.1 (h.mem_iff.1 hm)
    exact ⟨q, hq, e⟩
  · intro q hq
    exact min_least l ss m q.key (h.mem_iff.2 (List.mem_map.2 ⟨q, hq, rfl⟩))
theorem min_same {l : List Bk} {m m' : Int} (h : IsMin l m) (h' : IsMin l m') : m = m' := by
  obtain ⟨⟨q, hq, rfl⟩, h1⟩ := h
  obtain ⟨⟨q', hq', rfl⟩, h1'⟩ := h'
  have a := h1 q' hq'; have b := h1' q hq
  rw [first_neg] at a b
  omega
theorem keys_in_kind {W : World} {b : Nat} {l : List Bk} (h : MapIs W b l) : ∀ q ∈ l, 0 ≤ q.key ∧ q.key ≤ 18446744073709551615 := by
  obtain ⟨D, h, es, rfl, hp⟩ := h
  obtain ⟨es', he, hk⟩ := h.keysOf
  injection he with he
  subst he
  intro q hq
  obtain ⟨v, hv⟩ := hk (ent q) (hp.mem_iff.2 (List.mem_map.2 ⟨q, hq, rfl⟩))
  obtain ⟨x, _, hx, hw⟩ := keyOf_k hv
  have e : q.key = x := by simpa [ent] using hx
  rw [e]
  exact Base.wf_u64 hw
theorem del_run (w : World) (b : Nat) (l : List Bk) (hM : MapIs w b l) (k : Int) (hk : 0 ≤ k ∧ k ≤ 18446744073709551615) :
    ∃ w', (Builtin.delete_ #[49, 30] 0 #[.map (some b), .int .u64 k]).run Try.prog w = .ok (.tuple #[]) w' ∧ MapIs w' b (delV l k) ∧ w.grownBy w' (some b) := by
  obtain ⟨D, ho, r⟩ := hM
  obtain ⟨w', hrun, h1, h2⟩ := ho.drop law Try.underlying49 (keyK hk) 0
  exact ⟨w', hrun, .of h1 (r.del k), h2.grown⟩
set_option maxHeartbeats 16000000 in
theorem bindfull_c (g b : Nat) (s : TS) (now k rp : Int) (hk : 0 ≤ k ∧ k ≤ 18446744073709551615) (w0 w : World) (hT : IsT w0 w g b s) (hB : Below w0.heap.size w0 w) (hO : Ok s) (hno : hasK (laterV s now).l k = false) (hfull : ((laterV s now).l.length : Int) = s.room) :
    Calls Try.prog 9 #[.pointer (some ⟨g, 0, none⟩), .int .i64 now, .int .u64 k, .int .u64 rp] w fun e w' => e = .returned (.bool true) ∧ ∃ m, IsMin (laterV s now).l m ∧ Post w0 w g b { laterV s now with l := putV (delV (laterV s now).l m) k rp ((laterV s now).now + (laterV s now).keep) } w' := by
  have hO1 := hO.later now
  have H0 := Aside0.mk (fun w' (h : IsT w0 w' g b s) => ok_c g b s w0 w' h)
  have H1 := Aside0.mk (fun w' (h : IsT w0 w' g b s) (h' : Below w0.heap.size w0 w') => later_c g b s now w0 w' h h' hO)
  have er : (laterV s now).room = s.room := by unfold laterV laterT; dsimp only; split <;> rfl
  rw [← er] at hfull
  obtain ⟨u, hu⟩ : ∃ u, laterV s now = u := ⟨_, rfl⟩
  rw [hu] at H1 hO1 hno hfull ⊢
  have hh := look_has u.l k
  rw [hno] at hh
  rcases hl : lookV u.l k with ⟨x, y, t1⟩
  rw [hl] at hh
  dsimp only at hh
  subst hh
  have HL := Aside0.mk hl
  have HT := Aside0.mk hT
  have HB := Aside0.mk hB
  have HK := Aside0.mk hk
  have HLL := Aside0.mk (show u.l.length ≤ 1000000 by have := hO1.len; have := hO1.room2; omega)
  have HL1 := Aside0.mk (show 1 ≤ u.l.length by have := hO1.room1; omega)
  have HQ := Aside0.mk (run_len b u.l)
  have n1 := hO1.now1; have n2 := hO1.now2; have kp1 := hO1.keep1; have kp2 := hO1.keep2
  have hz := zeroB
  have huT := Try.underlying56
  obtain ⟨nw, hnw⟩ : ∃ z, u.now = z := ⟨_, rfl⟩
  obtain ⟨kp, hkp⟩ : ∃ z, u.keep = z := ⟨_, rfl⟩
  obtain ⟨room, hroom⟩ : ∃ z, u.room = z := ⟨_, rfl⟩
  obtain ⟨len, hlen⟩ : ∃ z, u.l.length = z := ⟨_, rfl⟩
  rw [hroom, hlen] at hfull
  rw [hnw] at n1 n2
  rw [hkp] at kp1 kp2
  have HNW := Aside0.mk hnw; have HKP := Aside0.mk hkp; have HROOM := Aside0.mk hroom; have HLEN := Aside0.mk hlen
  have e1 : IntKind.i64.wrap (nw + kp) = nw + kp := by rw [i64_w]; exact Base.w64 (by omega) (by omega)
  clear hT hB hO hO1 hk hu hl hnw hkp hroom hlen er hno
  have hne : ((len : Int) == room) = true := by simpa using hfull
  clear hfull
  go_enter Try.func9, Try.ntmps9
  go_upto_region 5 with (first | (go_at_call 18; (with_reducible refine (H0.out _ HT.out).mono ?_); rintro e w9 ⟨rfl, rfl⟩) | (go_at_call 19; (with_reducible refine (H1.out _ HT.out HB.out).mono ?_); rintro e w9 ⟨rfl, hp⟩; have HP := Aside0.mk hp; clear hp; have h3 := HP.out.1.c3; have h2 := HP.out.1.c2; have h1 := HP.out.1.c1; have glt := HP.out.1.lt; rw [HNW.out] at h2; rw [HKP.out] at h1) | (at_lookup; refine wpList_look rfl _ _ rfl b u.l HP.out.1.map k HK.out rfl rfl x y false HL.out ?_) | go_in)
  obtain ⟨wq, hwq⟩ : ∃ wq, w9.alloc (.cells #[.int .u64 x, .int .i64 y] 56 (0, 0)) = wq := ⟨_, rfl⟩
  have bel := below_alloc (Below.refl w9.heap.size w9) (.cells #[.int .u64 x, .int .i64 y] 56 (0, 0))
  have n0_ := Aside0.mk (show Post w0 w g b u wq from hwq ▸ ⟨HP.out.1.below bel, below_step HP.out.2.1 bel, KeepBut.trans HP.out.2.2 (KeepBut.of_below bel g (some b)) (.inl rfl)⟩)
  rw [hwq]
  clear HP h3 h2 h1 glt hwq bel
  have HP := n0_
  clear n0_
  generalize w9.heap.size = sb
  have h3 := HP.out.1.c3; have h0 := HP.out.1.c0
  rw [HROOM.out] at h0
  have ql := fun n => HQ.out (World.drewN _ n) (HP.out.1.drew n).map
  rw [HLEN.out] at ql
  go_quiet (fail)
  have n0_ := Aside0.mk (show Post w0 w g b u (World.drewN wq nq) from ⟨HP.out.1.drew _, pw_below_drewN HP.out.2.1 _, keep_drewN HP.out.2.2 _⟩)
  clear HP h3 h0 ql
  have HP := n0_
  clear n0_
  go_upto_region 6 with (fail)
  generalize World.drewN wq nq = wa at HP ⊢
  have n0_ := Aside0.mk (show Post w0 w g b u (World.drew wa) from ⟨HP.out.1.drew _, below_drew HP.out.2.1, keep_drew HP.out.2.2⟩)
  clear HP
  have HP := n0_
  clear n0_
  have h3 := HP.out.1.c3
  refine start_ (n := 14) (S := fun w' => w'.cell? ⟨g, 3, none⟩ = some (.map (some b))) (ds := [13]) #[false, false, false, false, false, false, false, false, false, false, false, false, false, false] (by kernel_rfl) rfl rfl (h3) (fun hHeld => ?_)
  refine pure_ (i := 0) (N := some 40) (v := ?_) (a' := ?_) #[true, false, false, false, false, false, false, false, false, false, false, false, false, false] rfl rfl (by kernel_rfl) (fun _ _ _ h => h) (Or.inl ⟨by rfl, ?_⟩) ?_ ?_
  rotate_left
  · intro w'
    go_simp
    with_reducible rfl
  rotate_left
  · simp only [Act.put, List.setIfInBounds_toArray, List.set_cons_zero, List.set_cons_succ, i64_w, i32_w]
    rfl
  refine pure_ (i := 1) (N := some 41) (v := ?_) (a' := ?_) #[true, true, false, false, false, false, false, false, false, false, false, false, false, false] rfl rfl (by kernel_rfl) (fun _ _ _ h => h) (Or.inl ⟨by rfl, ?_⟩) ?_ ?_
  rotate_left
  · intro w'
    go_simp
    with_reducible rfl
  rotate_left
  · simp only [Act.put, List.setIfInBounds_toArray, List.set_cons_zero, List.set_cons_succ, i64_w, i32_w]
    rfl
  refine pure_ (i := 2) (N := some 42) (v := ?_) (a' := ?_) #[true, true, true, false, false, false, false, false, false, false, false, false, false, false] rfl rfl (by kernel_rfl) (fun _ _ _ h => h) (Or.inl ⟨by rfl, ?_⟩) ?_ ?_
  rotate_left
  · intro w'
    go_simp
    with_reducible rfl
  rotate_left
  · simp only [Act.put, List.setIfInBounds_toArray, List.set_cons_zero, List.set_cons_succ, i64_w, i32_w]
    rfl
  refine pure_ (i := 4) (N := some 44) (v := ?_) (a' := ?_) #[true, true, true, false, true, false, false, false, false, false, false, false, false, false] rfl rfl (by kernel_rfl) (fun _ _ _ h => h) (Or.inl ⟨by rfl, ?_⟩) ?_ ?_
  rotate_left
  · intro w'
    go_simp
    with_reducible rfl
  rotate_left
  · simp only [Act.put, List.setIfInBounds_toArray, List.set_cons_zero, List.set_cons_succ, i64_w, i32_w]
    rfl
  refine pure_ (i := 5) (N := some 45) (v := ?_) (a' := ?_) #[true, true, true, false, true, true, false, false, false, false, false, false, false, false] rfl rfl (by kernel_rfl) (fun _ _ _ h => h) (Or.inl ⟨by rfl, ?_⟩) ?_ ?_
  rotate_left
  · intro w'
    go_simp
    with_reducible rfl
  rotate_left
  · simp only [Act.put, List.setIfInBounds_toArray, List.set_cons_zero, List.set_cons_succ, i64_w, i32_w]
    rfl
  refine pure_ (i := 6) (N := some 46) (v := ?_) (a' := ?_) #[true, true, true, false, true, true, true, false, false, false, false, false, false, false] rfl rfl (by kernel_rfl) (fun _ _ _ h => h) (Or.inl ⟨by rfl, ?_⟩) ?_ ?_
  rotate_left
  · intro w'
    go_simp
    with_reducible rfl
  rotate_left
  · simp only [Act.put, List.setIfInBounds_toArray, List.set_cons_zero, List.set_cons_succ, i64_w, i32_w]
    rfl
  refine pure_ (i := 10) (N := some 50) (v := ?_) (a' := ?_) #[true, true, true, false, true, true, true, false, false, false, true, false, false, false] rfl rfl (by kernel_rfl) (fun _ _ _ h => h) (Or.inl ⟨by rfl, ?_⟩) ?_ ?_
  rotate_left
  · intro w'
    go_simp
    with_reducible rfl
  rotate_left
  · simp only [Act.put, List.setIfInBounds_toArray, List.set_cons_zero, List.set_cons_succ, i64_w, i32_w]
    rfl
  refine pure_ (i := 11) (N := some 51) (v := ?_) (a' := ?_) #[true, true, true, false, true, true, true, false, false, false, true, true, false, false] rfl rfl (by kernel_rfl) (fun _ _ _ h => h) (Or.inl ⟨by rfl, ?_⟩) ?_ ?_
  rotate_left
  · intro w'
    go_simp
    with_reducible rfl
  rotate_left
  · simp only [Act.put, List.setIfInBounds_toArray, List.set_cons_zero, List.set_cons_succ, i64_w, i32_w]
    rfl
  refine take_ (i := 3) (N := some 43) (v := ?_) (a' := ?_) #[true, true, true, true, true, true, true, false, false, false, true, true, false, false] rfl rfl (by kernel_rfl) (fun _ _ _ h => h) (Or.inl ⟨by rfl, ?_⟩) hHeld ?_ ?_
  rotate_left
  · intro w' s0
    go_simp
    with_reducible rfl
  rotate_left
  · simp only [Act.put, List.setIfInBounds_toArray, List.set_cons_zero, List.set_cons_succ, i64_w, i32_w]
    rfl
  refine take_ (i := 7) (N := some 47) (v := ?_) (a' := ?_) #[true, true, true, true, true, true, true, true, false, false, true, true, false, false] rfl rfl (by kernel_rfl) (fun _ _ _ h => h) (Or.inl ⟨by rfl, ?_⟩) hHeld ?_ ?_
  rotate_left
  · intro w' s0
    go_simp
    with_reducible rfl
  rotate_left
  · simp only [Act.put, List.setIfInBounds_toArray, List.set_cons_zero, List.set_cons_succ, i64_w, i32_w]
    rfl
  refine one_ (i := 8) (N := some 48) #[true, true, true, true, true, true, true, true, true, false, true, true, false, false] rfl rfl (by kernel_rfl) (by decide) (fun K hK => ?_)
  refine goes_ Try.func22 (by kernel_rfl) rfl #[.map (some b)] (by rfl) rfl rfl (by simp only [List.map_toArray, List.map_cons, List.map_nil]; rfl) ?_
  with_reducible refine (keys_c b _).mono ?_
  rintro e w3 ⟨rfl, ew⟩
  refine ⟨_, rfl, ?_⟩
  have hb : Below wa.drew.heap.size wa.drew w3 := by rw [ew]; exact below_alloc (Below.refl _ _) _
  have hbx : w3.cell? ⟨wa.drew.heap.size, 0, none⟩ = some (.map (some b)) := by rw [ew]; exact blk_cell (blk_new _ (.cells #[.map (some b)] 49 (0, 0))) 0
  clear ew
  have n0_ := Aside0.mk (show Post w0 w g b u w3 from ⟨HP.out.1.below hb, below_step HP.out.2.1 hb, KeepBut.trans HP.out.2.2 (KeepBut.of_below hb g (some b)) (.inl rfl)⟩)
  clear HP
  have HP := n0_
  clear n0_
  have h3 := HP.out.1.c3
  refine hK.out _ _ (h3) (fun hHeld => ?_)
  clear hK K
  refine norm_ (a' := ?_) ?_ ?_
  rotate_left
  · show Act.put _ (some 48) _ = _
    simp only [Act.put, List.setIfInBounds_toArray, List.set_cons_zero, List.set_cons_succ, i64_w, i32_w]
    rfl
  refine one_ (i := 9) (N := some 49) #[true, true, true, true, true, true, true, true, true, true, true, true, false, false] rfl rfl (by kernel_rfl) (by decide) (fun K hK => ?_)
  refine goes_ Try.func21 (by kernel_rfl) rfl #[.func (.func 30) #[] #[.pointer (some ⟨wa.drew.heap.size, 0, none⟩)]] (by rfl) rfl rfl (by simp only [List.map_toArray, List.map_cons, List.map_nil]; rfl) ?_
  with_reducible refine (collect_c _ b u.l _ hbx HP.out.1.map HLL.out).mono ?_
  rintro e wb ⟨v, ss, rfl, hpm, how, hb⟩
  refine ⟨_, rfl, ?_⟩
  clear hbx
  have n0_ := Aside0.mk (show Post w0 w g b u wb from ⟨HP.out.1.below hb, below_step HP.out.2.1 hb, KeepBut.trans HP.out.2.2 (KeepBut.of_below hb g (some b)) (.inl rfl)⟩)
  clear HP
  have HP := n0_
  clear n0_
  have h3 := HP.out.1.c3
  obtain ⟨m0, rest, rfl⟩ : ∃ m0 rest, ss = m0 :: rest := by
    cases ss with
    | nil => exact absurd hpm.length_eq (by have := HL1.out; simp; omega)
    | cons a c => exact ⟨a, c, rfl⟩
  obtain ⟨gb, cp, rfl, hcp⟩ : ∃ gb cp, v = .slice (some ⟨gb, 0, none⟩) (m0 :: rest).length cp ∧ (m0 :: rest).length ≤ cp := by
    rcases how.2 with ⟨_, h0⟩ | ⟨gb, cp, cur, hv, _, _, hc, _⟩
    · simp at h0
    · exact ⟨gb, cp, hv, hc⟩
  have hcl : ∀ (i : Nat) (x : Int), (m0 :: rest)[i]? = some x → wb.cell? ⟨gb, i, none⟩ = some (.int .u64 x) := by
    intro i x hx
    have q := World.ownsRow.cells how (g := gb) rfl i (encU x) (by rw [List.getElem?_map, hx]; rfl)
    rw [add_plain] at q
    exact q
  have HMIN := Aside0.mk (min_is hpm)
  have HKU := Aside0.mk (show ∀ x ∈ m0 :: rest, 0 ≤ x ∧ x ≤ 18446744073709551615 from fun x hx => by obtain ⟨q, hq, e⟩ := List.mem_map.1 (hpm.mem_iff.1 hx); rw [← e]; exact keys_in_kind HP.out.1.map q hq)
  have HRL := Aside0.mk (show rest.length ≤ 1000000 by have e := hpm.length_eq; rw [List.length_map] at e; have := HLL.out; simp at e; omega)
  have HC12 := Aside0.mk (minf_c g b gb cp u m0 rest HKU.out HRL.out hcp wb HP.out.1.1 HP.out.1.map hcl _ rfl)
  obtain ⟨mk, hmk⟩ : ∃ mk, minV u.l m0 rest = mk := ⟨_, rfl⟩
  have HMK := Aside0.mk (show 0 ≤ mk ∧ mk ≤ 18446744073709551615 by rw [← hmk]; exact HKU.out _ (minV_in u.l rest m0))
  rw [hmk] at HMIN HC12
  clear hpm how hb hcl hcp hmk
  refine hK.out _ _ (h3) (fun hHeld => ?_)
  clear hK K
  refine norm_ (a' := ?_) ?_ ?_
  rotate_left
  · show Act.put _ (some 49) _ = _
    simp only [Act.put, List.setIfInBounds_toArray, List.set_cons_zero, List.set_cons_succ, i64_w, i32_w]
    rfl
  refine one_ (i := 12) (N := some 52) #[true, true, true, true, true, true, true, true, true, true, true, true, true, false] rfl rfl (by kernel_rfl) (by decide) (fun K hK => ?_)
  refine goes_ Try.func20 (by kernel_rfl) rfl #[.slice (some ⟨gb, 0, none⟩) (m0 :: rest).length cp, .func (.func 23) #[.pointer (some ⟨g, 0, none⟩)] #[]] (by rfl) rfl rfl (by simp only [List.map_toArray, List.map_cons, List.map_nil]; rfl) ?_
  with_reducible refine (HC12.out).mono ?_
  rintro e w3 ⟨rfl, hb⟩
  refine ⟨_, rfl, ?_⟩
  have n0_ := Aside0.mk (show Post w0 w g b u w3 from ⟨HP.out.1.below hb, below_step HP.out.2.1 hb, KeepBut.trans HP.out.2.2 (KeepBut.of_below hb g (some b)) (.inl rfl)⟩)
  clear HP
  have HP := n0_
  clear n0_
  have h3 := HP.out.1.c3
  obtain ⟨wd, hrun, hm, hg⟩ := del_run w3 b u.l HP.out.1.map mk HMK.out
  have n0_ := Aside0.mk (show Post w0 w g b { u with l := delV u.l mk } wd from ⟨HP.out.1.turn hm hg, below_map HP.out.2.1 HP.out.1.geb hg, KeepBut.trans HP.out.2.2 (keep_map hg) (.inl rfl)⟩)
  clear HP hm hg
  have HP := n0_
  clear n0_
  refine hK.out _ _ (h3) (fun hHeld => ?_)
  clear hK K
  refine norm_ (a' := ?_) ?_ ?_
  rotate_left
  · show Act.put _ (some 52) _ = _
    simp only [Act.put, List.setIfInBounds_toArray, List.set_cons_zero, List.set_cons_succ, i64_w, i32_w]
    rfl
  refine last_ (i := 13) (N := none) #[true, true, true, true, true, true, true, true, true, true, true, true, true, true] rfl rfl (by kernel_rfl) (by decide) (fun K hK => ?_)
  refine value_ (w1 := ?_) (v := ?_) (by rfl) rfl ?_ ?_
  rotate_left 2
  · go_simp
    constructor
    · rfl
    · rfl
  refine hK.out _ _ ?_
  clear hK K
  refine done_ (by kernel_rfl) ?_
  have h3 := HP.out.1.c3; have h2 := HP.out.1.c2; have h1 := HP.out.1.c1
  dsimp only at h2 h1
  rw [HNW.out] at h2; rw [HKP.out] at h1
  obtain ⟨w2, hrun, hm, hg⟩ := put_run (World.drew wd) b (delV u.l mk) (HP.out.1.drew 1).map (Nat.le_trans (List.length_filter_le _ _) HLL.out) k rp (nw + kp) HK.out
  have HM := Aside0.mk hm
  have HG := Aside0.mk hg
  have HP2 := Aside0.mk (show Post w0 w g b { u with l := delV u.l mk } (World.drew wd) from ⟨HP.out.1.drew _, below_drew HP.out.2.1, keep_drew HP.out.2.2⟩)
  clear hm hg HP
  go_upto_region 7 with (fail)
  go_region
  all_goals go_wp2_with fail
  all_goals go_ret
  all_goals refine ⟨rfl, mk, HMIN.out, ?_, below_map HP2.out.2.1 HP2.out.1.geb HG.out, KeepBut.trans HP2.out.2.2 (keep_map HG.out) (.inl rfl)⟩
  all_goals
    have h := HP2.out.1.turn HM.out HG.out
    have a1 := HNW.out; have a2 := HKP.out
    subst a1 a2
    exact h
end Go.Proofs.Ytghicenodafbkaa.Aff
