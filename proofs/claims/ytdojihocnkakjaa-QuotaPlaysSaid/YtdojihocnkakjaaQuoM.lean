/- The methods of a table of quotas; no condition but those that stand in each. -/
import Derived.Test.YtdojihocnkakjaaQuo
namespace Go.Proofs.Ytdojihocnkakjaa.Quo
set_option linter.unusedVariables false
set_option linter.unusedSimpArgs false
open Go.RowKit Go.Proofs.Ytdojihocnkakjaa.PA Go.Proofs.YtdojihocnkakjaaW.PrintWords Go.Proofs.YtdojihocnkakjaaW.PrintLast Go.Proofs.YtdojihocnkakjaaW.PrintMore Go.Proofs.Ytdojihocnkakjaa.Tab Go.Proofs.Ytdojihocnkakjaa.SatMul
attribute [local go_sem] max2_int min2_int max_two min_two max_three min_three max_four min_four
theorem has_bd {s : TS} (h : Ok s) {x y : Int} (hx0 : 0 ≤ x) (hx1 : x ≤ s.most) (hy0 : 0 ≤ y) (hy1 : y ≤ s.now) : 0 ≤ hasV s x y ∧ hasV s x y ≤ s.most := by
  have := Int.mul_nonneg (show 0 ≤ s.now - y by omega) h.rate1
  have := h.most1
  unfold hasV mn
  split <;> omega
theorem fill_bd {s : TS} (h : Ok s) (k : Int) : 0 ≤ (fillV s k).1 ∧ (fillV s k).1 ≤ s.most := by
  unfold fillV
  rcases hl : lookV s.l k with ⟨r0, r1, r2⟩
  cases r2
  · simp only [Bool.false_eq_true, if_false]; have := h.most1; omega
  · obtain ⟨q, hq, _, rfl, rfl⟩ := look_mem hl
    have f := h.fills q hq
    simp only [if_true]
    exact has_bd h f.1 f.2.1 f.2.2.1 f.2.2.2
theorem zeroB (w : World) : (zeroValue 61).run Try.prog w = .ok (.agg #[.int .i64 0, .int .i64 0]) w := by kernel_rfl
set_option maxHeartbeats 4000000 in
theorem fill_c (g b : Nat) (s : TS) (k : Int) (hk : 0 ≤ k ∧ k ≤ 18446744073709551615) (w0 w : World) (hT : IsT w0 w g b s) (hO : Ok s) (r0 : Int) (r1 : Bool) (hr : fillV s k = (r0, r1)) :
    Calls Try.prog 26 #[.pointer (some ⟨g, 0, none⟩), .int .u64 k] w fun e w' => e = .returned (.tuple #[.int .i64 r0, .bool r1]) ∧ Below w.heap.size w w' := by
  have h4 := hT.c4
  have h1 := hT.c1
  have glt := hT.lt
  have HM := Aside0.mk hT.map
  rcases hl : lookV s.l k with ⟨x, y, t⟩
  have HL := Aside0.mk hl
  have HR := Aside0.mk hr
  have hz := zeroB
  have huT := Try.underlying61
  cases t
  · have hr' := hr
    unfold fillV at hr'
    rw [hl] at hr'
    simp only [Bool.false_eq_true, if_false, Prod.mk.injEq] at hr'
    obtain ⟨hm, rfl⟩ := hr'
    rw [hm] at h1
    have HK := Aside0.mk hk
    clear hr hl hm hk hO hT HR
    go_enter Try.func26, Try.ntmps26
    go_wp2_with (at_lookup; refine wpList_look rfl _ _ rfl b s.l HM.out k HK.out rfl rfl x y false HL.out ?_)
    go_ret2
    exact ⟨rfl, below_alloc (Below.refl _ _) _⟩
  · obtain ⟨q, hq, _, e1, e2⟩ := look_mem hl
    have hf := hO.fills q hq
    rw [e1, e2] at hf
    have hr' := hr
    unfold fillV at hr'
    rw [hl] at hr'
    simp only [if_true, Prod.mk.injEq] at hr'
    obtain ⟨hm, rfl⟩ := hr'
    have HH := Aside0.mk (fun w' (h : Tc w' g b s) => has_c g b s x y w' h hO hf.1 hf.2.1 hf.2.2.1 hf.2.2.2)
    rw [hm] at HH
    have HK := Aside0.mk hk
    have HT := Aside0.mk (show Tc w g b s from hT.1)
    clear hr hl hm hk hO hT HR hf e1 e2 h1 hq
    go_enter Try.func26, Try.ntmps26
    go_wp2_with (first | (at_lookup; refine wpList_look rfl _ _ rfl b s.l HM.out k HK.out rfl rfl x y true HL.out ?_) | (go_at_call 32; (with_reducible refine (HH.out _ (HT.out.below (below_alloc (Below.refl _ _) _))).mono ?_); rintro e w9 ⟨rfl, hb⟩; have HB9 := Aside0.mk (below_step (below_alloc (Below.refl w.heap.size w) _) hb); clear hb) | go_in)
    go_ret2
    exact ⟨rfl, HB9.out⟩
/-! ### Take -/
def takeV (s : TS) (now k n : Int) : (Bool × Int) × TS :=
  let t := laterV s now
  let f := fillV t k
  if n < 1 then ((false, 1), t) else if f.1 < n then ((false, 0), t) else if f.2 = false ∧ (t.l.length : Int) = t.room then ((false, 9), t) else ((true, 0), { t with l := putV t.l k (f.1 - n) t.now })
theorem Ok.put {t : TS} (h : Ok t) {k x : Int} (hx0 : 0 ≤ x) (hx1 : x ≤ t.most) (hl : hasK t.l k = false → (t.l.length : Int) < t.room) : Ok { t with l := putV t.l k x t.now } := by
  refine ⟨h.1, h.2, h.3, h.4, h.5, h.6, h.7, h.8, fun q hq => ?_, ?_, ?_⟩
  · rcases List.mem_cons.1 hq with rfl | hq
    · exact ⟨hx0, hx1, h.now1, Int.le_refl _⟩
    · exact h.fills q (List.mem_filter.1 hq).1
  · show ((putV t.l k x t.now).length : Int) ≤ t.room
    unfold putV
    rw [List.length_cons]
    by_cases hh : hasK t.l k = true
    · have : (t.l.filter (fun q => !(q.key == k))).length < t.l.length := by
        unfold hasK at hh
        obtain ⟨q, hq, hqk⟩ := List.any_eq_true.1 hh
        exact List.length_filter_lt_length_iff_exists.2 ⟨q, hq, by simpa using hqk⟩
      have := h.len
      omega
    · have := hl (by simpa using hh)
      have := List.length_filter_le (fun q => !(q.key == k)) t.l
      omega
  · show ((putV t.l k x t.now).map (·.key)).Nodup
    unfold putV
    rw [List.map_cons, List.nodup_cons]
    refine ⟨fun hm => ?_, h.keys.sublist (List.filter_sublist.map _)⟩
    obtain ⟨q, hq, e⟩ := List.mem_map.1 hm
    have := (List.mem_filter.1 hq).2
    rw [e] at this
    simp at this
theorem look_has (l : List Bk) (k : Int) : (lookV l k).2.2 = hasK l k := by
  unfold lookV
  cases hf : l.find? (fun q => q.key == k) with
  | none =>
    symm
    unfold hasK
    rw [List.any_eq_false]
    intro q hq
    have := List.find?_eq_none.1 hf q hq
    simpa using this
  | some q =>
    obtain ⟨hm, hk⟩ := find_some hf
    symm
    unfold hasK
    rw [List.any_eq_true]
    exact ⟨q, hm, by simpa using hk⟩
theorem fill_has (s : TS) (k : Int) : (fillV s k).2 = hasK s.l k := by
  rw [← look_has]
  unfold fillV
  dsimp only
  by_cases h : (lookV s.l k).2.2 = true
  · rw [if_pos h, h]
  · rw [if_neg h]; simpa using h
theorem Ok.take {s : TS} (h : Ok s) (now k n : Int) : Ok (takeV s now k n).2 := by
  have h1 := h.later now
  have hb := fill_bd h1 k
  unfold takeV
  dsimp only
  split
  · exact h1
  · split
    · exact h1
    · split
      · exact h1
      · rename_i a b c
        refine h1.put (by omega) (by omega) fun hh => ?_
        rw [← fill_has] at hh
        have := h1.len
        have : ¬ ((laterV s now).l.length : Int) = (laterV s now).room := fun e => c ⟨hh, e⟩
        omega
def okarm : Prop := True
set_option maxHeartbeats 8000000 in
theorem take_c (g b : Nat) (s : TS) (now k n : Int) (hk : 0 ≤ k ∧ k ≤ 18446744073709551615) (hn1 : n ≤ 9223372036854775807) (w0 w : World) (hT : IsT w0 w g b s) (hB : Below w0.heap.size w0 w) (hO : Ok s) (r0 : Bool) (r1 : Int) (t : TS) (hr : takeV s now k n = ((r0, r1), t)) :
    Calls Try.prog 11 #[.pointer (some ⟨g, 0, none⟩), .int .i64 now, .int .u64 k, .int .i64 n] w fun e w' => e = .returned (.tuple #[.bool r0, .int .i64 r1]) ∧ Post w0 w g b t w' := by
  have hO1 := hO.later now
  rcases hf : fillV (laterV s now) k with ⟨f0, f1⟩
  have fb := fill_bd hO1 k
  rw [hf] at fb
  have H0 := Aside0.mk (fun w' (h : IsT w0 w' g b s) => ok_c g b s w0 w' h)
  have H1 := Aside0.mk (fun w' (h : IsT w0 w' g b s) (h' : Below w0.heap.size w0 w') => later_c g b s now w0 w' h h' hO)
  have H2 := Aside0.mk (fun w' (h : IsT w0 w' g b (laterV s now)) => fill_c g b (laterV s now) k hk w0 w' h hO1 f0 f1 hf)
  have hr' := hr
  unfold takeV at hr'
  dsimp only at hr'
  rw [hf] at hr'
  dsimp only at hr'
  obtain ⟨u, hu⟩ : ∃ u, laterV s now = u := ⟨_, rfl⟩
  rw [hu] at H1 H2 hr' fb hO1
  have HT := Aside0.mk hT
  have HB := Aside0.mk hB
  have m2 := hO1.most2
  have HO1 := Aside0.mk hO1
  have HKK := Aside0.mk hk
  clear hT hB hO hr hf hu hO1 hk
  by_cases c1 : n < 1
  · rw [if_pos c1] at hr'
    simp only [Prod.mk.injEq] at hr'
    obtain ⟨⟨rfl, rfl⟩, rfl⟩ := hr'
    go_enter Try.func11, Try.ntmps11
    go_wp2_with (first | (go_at_call 24; (with_reducible refine (H0.out _ HT.out).mono ?_); rintro e w9 ⟨rfl, rfl⟩) | (go_at_call 25; (with_reducible refine (H1.out _ HT.out HB.out).mono ?_); rintro e w9 ⟨rfl, hp⟩; have HP := Aside0.mk hp; clear hp) | (go_at_call 26; (with_reducible refine (H2.out _ HP.out.1).mono ?_); rintro e w9 ⟨rfl, hb⟩; have n0_ := Aside0.mk (show Post w0 w g b u w9 from ⟨HP.out.1.below hb, below_step HP.out.2.1 hb, KeepBut.trans HP.out.2.2 (KeepBut.of_below hb g (some b)) (.inl rfl)⟩); clear HP hb; have HP := n0_; clear n0_))
    go_ret2
    exact ⟨rfl, HP.out⟩
  rw [if_neg c1] at hr'
  by_cases c2 : f0 < n
  · rw [if_pos c2] at hr'
    simp only [Prod.mk.injEq] at hr'
    obtain ⟨⟨rfl, rfl⟩, rfl⟩ := hr'
    go_enter Try.func11, Try.ntmps11
    go_wp2_with (first | (go_at_call 24; (with_reducible refine (H0.out _ HT.out).mono ?_); rintro e w9 ⟨rfl, rfl⟩) | (go_at_call 25; (with_reducible refine (H1.out _ HT.out HB.out).mono ?_); rintro e w9 ⟨rfl, hp⟩; have HP := Aside0.mk hp; clear hp) | (go_at_call 26; (with_reducible refine (H2.out _ HP.out.1).mono ?_); rintro e w9 ⟨rfl, hb⟩; have n0_ := Aside0.mk (show Post w0 w g b u w9 from ⟨HP.out.1.below hb, below_step HP.out.2.1 hb, KeepBut.trans HP.out.2.2 (KeepBut.of_below hb g (some b)) (.inl rfl)⟩); clear HP hb; have HP := n0_; clear n0_))
    go_ret2
    exact ⟨rfl, HP.out⟩
  rw [if_neg c2] at hr'
  have ql := run_len b u.l
  have HQ := Aside0.mk ql
  clear ql
  by_cases c3 : f1 = false ∧ (u.l.length : Int) = u.room
  · rw [if_pos c3] at hr'
    simp only [Prod.mk.injEq] at hr'
    obtain ⟨⟨rfl, rfl⟩, rfl⟩ := hr'
    obtain ⟨rfl, c3⟩ := c3
    go_enter Try.func11, Try.ntmps11
    go_wp2_with (first | (go_at_call 24; (with_reducible refine (H0.out _ HT.out).mono ?_); rintro e w9 ⟨rfl, rfl⟩) | (go_at_call 25; (with_reducible refine (H1.out _ HT.out HB.out).mono ?_); rintro e w9 ⟨rfl, hp⟩; have HP := Aside0.mk hp; clear hp) | (go_at_call 26; (with_reducible refine (H2.out _ HP.out.1).mono ?_); rintro e w9 ⟨rfl, hb⟩; have n0_ := Aside0.mk (show Post w0 w g b u w9 from ⟨HP.out.1.below hb, below_step HP.out.2.1 hb, KeepBut.trans HP.out.2.2 (KeepBut.of_below hb g (some b)) (.inl rfl)⟩); clear HP hb; have HP := n0_; clear n0_))
    have h4 := HP.out.1.c4
    have h0 := HP.out.1.c0
    rw [← c3] at h0
    have ql := fun n => HQ.out (World.drewN _ n) (HP.out.1.drew n).map
    clear c3
    go_quiet (fail)
    go_wp2_with fail
    go_ret2
    exact ⟨rfl, HP.out.1.drew _, pw_below_drewN HP.out.2.1 _, keep_drewN HP.out.2.2 _⟩
  · rw [if_neg c3] at hr'
    simp only [Prod.mk.injEq] at hr'
    obtain ⟨⟨rfl, rfl⟩, rfl⟩ := hr'
    have c4 : f1 = true ∨ (f1 = false ∧ ((u.l.length : Int) == u.room) = false) := by
      cases f1
      · exact .inr ⟨rfl, by simpa using c3⟩
      · exact .inl rfl
    obtain ⟨room, hroom⟩ : ∃ z, u.room = z := ⟨_, rfl⟩
    obtain ⟨now', hnow⟩ : ∃ z, u.now = z := ⟨_, rfl⟩
    obtain ⟨len, hlen⟩ : ∃ z, u.l.length = z := ⟨_, rfl⟩
    have HROOM := Aside0.mk hroom; have HNOW := Aside0.mk hnow; have HLEN := Aside0.mk hlen
    have HLL := Aside0.mk (show u.l.length ≤ 1000000 by have := HO1.out.len; have := HO1.out.room2; omega)
    rw [hroom, hlen] at c4
    rw [hnow]
    clear c3 hroom hnow hlen
    rcases c4 with rfl | ⟨rfl, c4⟩
    all_goals
      go_enter Try.func11, Try.ntmps11
      go_wp2_with (first | (go_at_call 24; (with_reducible refine (H0.out _ HT.out).mono ?_); rintro e w9 ⟨rfl, rfl⟩) | (go_at_call 25; (with_reducible refine (H1.out _ HT.out HB.out).mono ?_); rintro e w9 ⟨rfl, hp⟩; have HP := Aside0.mk hp; clear hp) | (go_at_call 26; (with_reducible refine (H2.out _ HP.out.1).mono ?_); rintro e w9 ⟨rfl, hb⟩; have n0_ := Aside0.mk (show Post w0 w g b u w9 from ⟨HP.out.1.below hb, below_step HP.out.2.1 hb, KeepBut.trans HP.out.2.2 (KeepBut.of_below hb g (some b)) (.inl rfl)⟩); clear HP hb; have HP := n0_; clear n0_))
      have h4 := HP.out.1.c4
      have h0 := HP.out.1.c0
      have h3 := HP.out.1.c3
      rw [HROOM.out] at h0
      rw [HNOW.out] at h3
      have ql := fun n => HQ.out (World.drewN _ n) (HP.out.1.drew n).map
      rw [HLEN.out] at ql
      go_quiet (fail)
      go_wp2_with fail
      obtain ⟨w2, hrun, hm, hg⟩ := put_run (World.drewN _ (nq + 1)) b u.l (HP.out.1.drew (nq + 1)).map HLL.out k (f0 - n) now' HKK.out
      have HM := Aside0.mk hm
      have HG := Aside0.mk hg
      have HP2 := Aside0.mk (show Post w0 w g b u (World.drewN _ (nq + 1)) from ⟨HP.out.1.drew _, pw_below_drewN HP.out.2.1 _, keep_drewN HP.out.2.2 _⟩)
      clear hm hg HP h0 ql
      go_region
      go_wp2_with fail
      go_ret2
      refine ⟨rfl, by have h := HP2.out.1.turn HM.out HG.out; rw [HNOW.out] at h; exact h, below_map HP2.out.2.1 HP2.out.1.geb HG.out, KeepBut.trans HP2.out.2.2 (keep_map HG.out) (.inl rfl)⟩
/-! ### Fill, Len, Now -/
theorem fillm_c (g b : Nat) (s : TS) (now k : Int) (hk : 0 ≤ k ∧ k ≤ 18446744073709551615) (w0 w : World) (hT : IsT w0 w g b s) (hB : Below w0.heap.size w0 w) (hO : Ok s) (t : TS) (r : Int) (ht : laterV s now = t) (hr : (fillV t k).1 = r) :
    Calls Try.prog 12 #[.pointer (some ⟨g, 0, none⟩), .int .i64 now, .int .u64 k] w fun e w' => e = .returned (.int .i64 r) ∧ Post w0 w g b t w' := by
  have hO1 := hO.later now
  rcases hf : fillV (laterV s now) k with ⟨f0, f1⟩
  have H0 := Aside0.mk (fun w' (h : IsT w0 w' g b s) => ok_c g b s w0 w' h)
  have H1 := Aside0.mk (fun w' (h : IsT w0 w' g b s) (h' : Below w0.heap.size w0 w') => later_c g b s now w0 w' h h' hO)
  have H2 := Aside0.mk (fun w' (h : IsT w0 w' g b (laterV s now)) => fill_c g b (laterV s now) k hk w0 w' h hO1 f0 f1 hf)
  rw [ht] at H1 H2 hf
  rw [hf] at hr
  dsimp only at hr
  subst hr
  have HT := Aside0.mk hT
  have HB := Aside0.mk hB
  clear hT hB hO hf ht hO1 hk
  go_enter Try.func12, Try.ntmps12
  go_wp2_with (first | (go_at_call 24; (with_reducible refine (H0.out _ HT.out).mono ?_); rintro e w9 ⟨rfl, rfl⟩) | (go_at_call 25; (with_reducible refine (H1.out _ HT.out HB.out).mono ?_); rintro e w9 ⟨rfl, hp⟩; have HP := Aside0.mk hp; clear hp) | (go_at_call 26; (with_reducible refine (H2.out _ HP.out.1).mono ?_); rintro e w9 ⟨rfl, hb⟩; have n0_ := Aside0.mk (show Post w0 w g b t w9 from ⟨HP.out.1.below hb, below_step HP.out.2.1 hb, KeepBut.trans HP.out.2.2 (KeepBut.of_below hb g (some b)) (.inl rfl)⟩); clear HP hb; have HP := n0_; clear n0_))
  go_ret
  exact ⟨rfl, HP.out⟩
theorem len_c (g b : Nat) (s : TS) (now : Int) (w0 w : World) (hT : IsT w0 w g b s) (hB : Below w0.heap.size w0 w) (hO : Ok s) (t : TS) (ht : laterV s now = t) :
    Calls Try.prog 21 #[.pointer (some ⟨g, 0, none⟩), .int .i64 now] w fun e w' => e = .returned (.int .i64 (t.l.length : Int)) ∧ Post w0 w g b t w' := by
  have H0 := Aside0.mk (fun w' (h : IsT w0 w' g b s) => ok_c g b s w0 w' h)
  have H1 := Aside0.mk (fun w' (h : IsT w0 w' g b s) (h' : Below w0.heap.size w0 w') => later_c g b s now w0 w' h h' hO)
  rw [ht] at H1
  have HT := Aside0.mk hT
  have HB := Aside0.mk hB
  have HQ := Aside0.mk (run_len b t.l)
  clear hT hB hO ht
  go_enter Try.func21, Try.ntmps21
  go_wp2_with (first | (go_at_call 24; (with_reducible refine (H0.out _ HT.out).mono ?_); rintro e w9 ⟨rfl, rfl⟩) | (go_at_call 25; (with_reducible refine (H1.out _ HT.out HB.out).mono ?_); rintro e w9 ⟨rfl, hp⟩; have HP := Aside0.mk hp; clear hp; have h4 := HP.out.1.c4; have ql := HQ.out _ HP.out.1.map))
  go_ret
  exact ⟨rfl, HP.out⟩
theorem now_c (g b : Nat) (s : TS) (n : Int) (w0 w : World) (hT : IsT w0 w g b s) (hn : s.now = n) : Calls Try.prog 22 #[.pointer (some ⟨g, 0, none⟩)] w fun e w' => e = .returned (.int .i64 n) ∧ w = w' := by
  have H0 := Aside0.mk (fun w' (h : IsT w0 w' g b s) => ok_c g b s w0 w' h)
  have h3 := hT.c3
  rw [hn] at h3
  have HT := Aside0.mk hT
  clear hT hn
  go_enter Try.func22, Try.ntmps22
  go_wp2_with (go_at_call 24; (with_reducible refine (H0.out _ HT.out).mono ?_); rintro e w9 ⟨rfl, rfl⟩)
  go_ret
  exact ⟨rfl, rfl⟩
/-! ### Give -/
def giveV (s : TS) (now k n : Int) : Int × TS :=
  let t := laterV s now
  if n < 1 then (1, t) else let f := fillV t k
  if f.2 = true then (0, { t with l := putV t.l k (mn (cl (f.1 + n)) t.most) t.now }) else (0, t)
theorem Ok.give {s : TS} (h : Ok s) (now k n : Int) : Ok (giveV s now k n).2 := by
  have h1 := h.later now
  have hb := fill_bd h1 k
  unfold giveV
  dsimp only
  split
  · exact h1
  · split
    · rename_i a b
      refine h1.put ?_ ?_ fun hh => ?_
      · have := h1.most1; have q : 0 ≤ cl ((fillV (laterV s now) k).1 + n) := by unfold cl; (repeat' split) <;> omega
        unfold mn; split <;> omega
      · unfold mn; split <;> omega
      · rw [← fill_has, b] at hh; cases hh
    · exact h1
set_option maxHeartbeats 8000000 in
theorem give_c (g b : Nat) (s : TS) (now k n : Int) (hk : 0 ≤ k ∧ k ≤ 18446744073709551615) (hn0 : -9223372036854775808 ≤ n) (hn1 : n ≤ 9223372036854775807) (w0 w : World) (hT : IsT w0 w g b s) (hB : Below w0.heap.size w0 w) (hO : Ok s) (r : Int) (t : TS) (hr : giveV s now k n = (r, t)) :
    Calls Try.prog 15 #[.pointer (some ⟨g, 0, none⟩), .int .i64 now, .int .u64 k, .int .i64 n] w fun e w' => e = .returned (.int .i64 r) ∧ Post w0 w g b t w' := by
  have hO1 := hO.later now
  rcases hf : fillV (laterV s now) k with ⟨f0, f1⟩
  have fb := fill_bd hO1 k
  rw [hf] at fb
  have H0 := Aside0.mk (fun w' (h : IsT w0 w' g b s) => ok_c g b s w0 w' h)
  have H1 := Aside0.mk (fun w' (h : IsT w0 w' g b s) (h' : Below w0.heap.size w0 w') => later_c g b s now w0 w' h h' hO)
  have H2 := Aside0.mk (fun w' (h : IsT w0 w' g b (laterV s now)) => fill_c g b (laterV s now) k hk w0 w' h hO1 f0 f1 hf)
  have hr' := hr
  unfold giveV at hr'
  dsimp only at hr'
  rw [hf] at hr'
  dsimp only at hr'
  obtain ⟨u, hu⟩ : ∃ u, laterV s now = u := ⟨_, rfl⟩
  rw [hu] at H1 H2 hr' fb hO1
  have HT := Aside0.mk hT
  have HB := Aside0.mk hB
  have m2 := hO1.most2
  have HO1 := Aside0.mk hO1
  have HKK := Aside0.mk hk
  clear hT hB hO hr hf hu hO1 hk
  by_cases c1 : n < 1
  · rw [if_pos c1] at hr'
    simp only [Prod.mk.injEq] at hr'
    obtain ⟨rfl, rfl⟩ := hr'
    go_enter Try.func15, Try.ntmps15
    go_wp2_with (first | (go_at_call 24; (with_reducible refine (H0.out _ HT.out).mono ?_); rintro e w9 ⟨rfl, rfl⟩) | (go_at_call 25; (with_reducible refine (H1.out _ HT.out HB.out).mono ?_); rintro e w9 ⟨rfl, hp⟩; have HP := Aside0.mk hp; clear hp) | (go_at_call 26; (with_reducible refine (H2.out _ HP.out.1).mono ?_); rintro e w9 ⟨rfl, hb⟩; have n0_ := Aside0.mk (show Post w0 w g b u w9 from ⟨HP.out.1.below hb, below_step HP.out.2.1 hb, KeepBut.trans HP.out.2.2 (KeepBut.of_below hb g (some b)) (.inl rfl)⟩); clear HP hb; have HP := n0_; clear n0_))
    go_ret
    exact ⟨rfl, HP.out⟩
  rw [if_neg c1] at hr'
  cases f1
  · simp only [Bool.false_eq_true, if_false, Prod.mk.injEq] at hr'
    obtain ⟨rfl, rfl⟩ := hr'
    go_enter Try.func15, Try.ntmps15
    go_wp2_with (first | (go_at_call 24; (with_reducible refine (H0.out _ HT.out).mono ?_); rintro e w9 ⟨rfl, rfl⟩) | (go_at_call 25; (with_reducible refine (H1.out _ HT.out HB.out).mono ?_); rintro e w9 ⟨rfl, hp⟩; have HP := Aside0.mk hp; clear hp) | (go_at_call 26; (with_reducible refine (H2.out _ HP.out.1).mono ?_); rintro e w9 ⟨rfl, hb⟩; have n0_ := Aside0.mk (show Post w0 w g b u w9 from ⟨HP.out.1.below hb, below_step HP.out.2.1 hb, KeepBut.trans HP.out.2.2 (KeepBut.of_below hb g (some b)) (.inl rfl)⟩); clear HP hb; have HP := n0_; clear n0_))
    go_ret
    exact ⟨rfl, HP.out⟩
  simp only [if_true, Prod.mk.injEq] at hr'
  obtain ⟨rfl, rfl⟩ := hr'
  obtain ⟨a, ha⟩ : ∃ a, cl (f0 + n) = a := ⟨_, rfl⟩
  have HA := Aside0.mk (add_c f0 n a (by unfold I64; omega) (by unfold I64; omega) ha)
  obtain ⟨v, hv⟩ : ∃ v, mn a u.most = v := ⟨_, rfl⟩
  rw [ha, hv]
  obtain ⟨most, hmost⟩ : ∃ z, u.most = z := ⟨_, rfl⟩
  have HMOST := Aside0.mk hmost
  have hv' : (most < a ∧ v = most) ∨ (a ≤ most ∧ v = a) := by rw [← hv, hmost]; unfold mn; split <;> omega
  obtain ⟨now', hnow⟩ : ∃ z, u.now = z := ⟨_, rfl⟩
  have HNOW := Aside0.mk hnow
  have HLL := Aside0.mk (show u.l.length ≤ 1000000 by have := HO1.out.len; have := HO1.out.room2; omega)
  rw [hnow]
  clear ha hv hmost hnow
  have hif : (if most < a then most else a) = v := by rcases hv' with ⟨h, rfl⟩ | ⟨h, rfl⟩ <;> split <;> omega
  have HIF := Aside0.mk hif
  clear hif hv'
  go_enter Try.func15, Try.ntmps15
  go_wp2_with (first | (go_at_call 24; (with_reducible refine (H0.out _ HT.out).mono ?_); rintro e w9 ⟨rfl, rfl⟩) | (go_at_call 25; (with_reducible refine (H1.out _ HT.out HB.out).mono ?_); rintro e w9 ⟨rfl, hp⟩; have HP := Aside0.mk hp; clear hp) | (go_at_call 26; (with_reducible refine (H2.out _ HP.out.1).mono ?_); rintro e w9 ⟨rfl, hb⟩; have n0_ := Aside0.mk (show Post w0 w g b u w9 from ⟨HP.out.1.below hb, below_step HP.out.2.1 hb, KeepBut.trans HP.out.2.2 (KeepBut.of_below hb g (some b)) (.inl rfl)⟩); clear HP hb; have HP := n0_; clear n0_))
  have n0_ := Aside0.mk (show Post w0 w g b u (World.drew _) from ⟨HP.out.1.drew 1, below_drew HP.out.2.1, keep_drew HP.out.2.2⟩)
  clear HP
  have HP := n0_
  clear n0_
  have h4 := HP.out.1.c4
  have h3 := HP.out.1.c3
  have h1 := HP.out.1.c1
  rw [HNOW.out] at h3
  rw [HMOST.out] at h1
  have hif := HIF.out
  go_region_held3 (fun w' => w'.cell? ⟨g, 4, none⟩ = some (.map (some b)) ∧ w'.cell? ⟨g, 3, none⟩ = some (.int .i64 now') ∧ w'.cell? ⟨g, 1, none⟩ = some (.int .i64 most)) (first | exact ⟨h4, h3, h1⟩ | exact HS.out | go_keep) ((first | (go_simp; go_at_call 28; (with_reducible refine (HA.out _).mono ?_); rintro e w9 ⟨rfl, hd⟩; have n0_ := Aside0.mk (show Post w0 w g b u w9 from ⟨HP.out.1.below hd.below, below_step HP.out.2.1 hd.below, KeepBut.trans HP.out.2.2 (KeepBut.of_below hd.below g (some b)) (.inl rfl)⟩); clear HP hd h4 h3 h1; have HP := n0_; clear n0_; have h4 := HP.out.1.c4; have h3 := HP.out.1.c3; have h1 := HP.out.1.c1; rw [HNOW.out] at h3; rw [HMOST.out] at h1; obtain ⟨w2, hrun, hm, hg⟩ := put_run _ b u.l HP.out.1.map HLL.out k v now' HKK.out; have HM := Aside0.mk hm; have HG := Aside0.mk hg; have HS := Aside0.mk (And.intro (hg.cell h4 (by simp [HP.out.1.ne])) (And.intro (hg.cell h3 (by simp [HP.out.1.ne])) (hg.cell h1 (by simp [HP.out.1.ne])))); clear hm hg)))
  all_goals go_wp2_with fail
  all_goals go_ret
  all_goals exact ⟨rfl, by have h := HP.out.1.turn HM.out HG.out; rw [HNOW.out] at h; exact h, below_map HP.out.2.1 HP.out.1.geb HG.out, KeepBut.trans HP.out.2.2 (keep_map HG.out) (.inl rfl)⟩
end Go.Proofs.Ytdojihocnkakjaa.Quo
