/- The wheel: what lies, ok, later, New, Len, Now; no condition but those that stand in each. -/
import Derived.Test.YtpkilechkoiffaaWhF
import Derived.Test.YtpkilechkoiffaaTabL
namespace Go.Proofs.Ytpkilechkoiffaa.Wh
set_option linter.unusedVariables false
set_option linter.unusedSimpArgs false
open Go.RowKit Go.Proofs.YtpkilechkoiffaaW.PrintWords Go.Proofs.YtpkilechkoiffaaW.PrintLast Go.Proofs.YtpkilechkoiffaaW.PrintMore Go.Proofs.Ytpkilechkoiffaa.Lst Go.Proofs.Ytpkilechkoiffaa.Heap Go.Proofs.Ytpkilechkoiffaa.TabL
attribute [local go_sem] max2_int min2_int max_two min_two max_three min_three max_four min_four
structure WS where
  heap : List Tm
  live : List Bk
  last : Int
  now : Int
def IsW (w0 W : World) (g : Nat) (v : Value) (b : Nat) (s : WS) : Prop := IsF w0 W g v (.map (some b)) (.int .i64 s.last) (.int .i64 s.now) s.heap ∧ MapIs W b s.live ∧ w0.heap.size ≤ g ∧ w0.heap.size ≤ b
def FoW (g : Nat) (v : Value) (b : Nat) (i : Nat) : Prop := i = g ∨ v.ownBlock = some i ∨ i = b
def PostW (w0 w : World) (g : Nat) (v : Value) (b : Nat) (s' : WS) (w' : World) : Prop := ∃ v', IsW w0 w' g v' b s' ∧ Below w0.heap.size w0 w' ∧ Kept w w' (FoW g v b) ∧ (v'.ownBlock = v.ownBlock ∨ ∃ k, v'.ownBlock = some k ∧ w.heap.size ≤ k)
section
variable {w0 w W W' : World} {g b : Nat} {v : Value} {s : WS}
theorem IsW.f (h : IsW w0 W g v b s) : IsF w0 W g v (.map (some b)) (.int .i64 s.last) (.int .i64 s.now) s.heap := h.1
theorem IsW.c0 (h : IsW w0 W g v b s) : W.cell? ⟨g, 0, none⟩ = some v := h.1.c0
theorem IsW.c1 (h : IsW w0 W g v b s) : W.cell? ⟨g, 1, none⟩ = some (.map (some b)) := h.1.c1
theorem IsW.c2 (h : IsW w0 W g v b s) : W.cell? ⟨g, 2, none⟩ = some (.int .i64 s.last) := h.1.c2
theorem IsW.c3 (h : IsW w0 W g v b s) : W.cell? ⟨g, 3, none⟩ = some (.int .i64 s.now) := h.1.c3
theorem IsW.free (h : IsW w0 W g v b s) (k : Nat) : W.frozen? ⟨g, k, none⟩ = false := h.1.free k
theorem IsW.map (h : IsW w0 W g v b s) : MapIs W b s.live := h.2.1
theorem IsW.ge (h : IsW w0 W g v b s) : w0.heap.size ≤ g := h.2.2.1
theorem IsW.geb (h : IsW w0 W g v b s) : w0.heap.size ≤ b := h.2.2.2
theorem IsW.lt (h : IsW w0 W g v b s) : g < W.heap.size := h.1.lt
theorem IsW.ne (h : IsW w0 W g v b s) : g ≠ b := h.map.ne h.1.1
theorem IsW.neb (h : IsW w0 W g v b s) : some b ≠ v.ownBlock := by
  obtain ⟨D, ⟨es, cl, hb, _⟩, _⟩ := h.map
  exact h.1.2.neMap hb
theorem IsW.below (h : IsW w0 W g v b s) (hb : Below W.heap.size W W') : IsW w0 W' g v b s := ⟨h.1.below hb, h.2.1.below hb, h.2.2⟩
theorem IsW.drew (h : IsW w0 W g v b s) (n : Nat) : IsW w0 (W.drewN n) g v b s := ⟨h.1, h.2.1.move rfl, h.2.2⟩
theorem PostW.refl (h : IsW w0 w g v b s) (hB : Below w0.heap.size w0 w) : PostW w0 w g v b s w := ⟨v, h, hB, Kept.refl _ _, .inl rfl⟩
/-- the time, or the last number, is laid -/
theorem IsW.tick (h : IsW w0 W g v b s) (n : Int) : IsW w0 (W.setCell ⟨g, 3, none⟩ (.int .i64 n)) g v b { s with now := n } :=
  ⟨⟨blk_set h.1.1 3 _, h.1.2.far (p := ⟨g, 3, none⟩) h.1.ne _⟩, h.2.1.move (Below.heap_setCell W ⟨g, 3, none⟩ _ b (fun e => h.ne e.symm)), h.2.2⟩
theorem IsW.count (h : IsW w0 W g v b s) (n : Int) : IsW w0 (W.setCell ⟨g, 2, none⟩ (.int .i64 n)) g v b { s with last := n } :=
  ⟨⟨blk_set h.1.1 2 _, h.1.2.far (p := ⟨g, 2, none⟩) h.1.ne _⟩, h.2.1.move (Below.heap_setCell W ⟨g, 2, none⟩ _ b (fun e => h.ne e.symm)), h.2.2⟩
end
theorem ok_c (w0 : World) (g : Nat) (v : Value) (b : Nat) (s : WS) (w : World) (h : IsW w0 w g v b s) : Calls Try.prog 21 #[.pointer (some ⟨g, 0, none⟩)] w fun e w' => e = .returned (.bool true) ∧ w = w' := by
  have hc := h.c1
  have hn := run_nil
  clear h
  go_enter Try.func21, Try.ntmps21
  go_wp2_with fail
  go_ret
  exact ⟨rfl, rfl⟩
theorem now_c (w0 : World) (g : Nat) (v : Value) (b : Nat) (s : WS) (T : Int) (hT : s.now = T) (w : World) (h : IsW w0 w g v b s) : Calls Try.prog 20 #[.pointer (some ⟨g, 0, none⟩)] w fun e w' => e = .returned (.int .i64 T) ∧ w = w' := by
  have hc := h.c3
  rw [hT] at hc
  have HW := Aside0.mk h
  clear h hT
  go_enter Try.func20, Try.ntmps20
  go_wp2_with (first | (go_at_call 21; (with_reducible refine (ok_c w0 g v b s _ HW.out).mono ?_); rintro e w9 ⟨rfl, rfl⟩))
  go_ret
  exact ⟨rfl, rfl⟩
theorem wlen_c (w0 : World) (g : Nat) (v : Value) (b : Nat) (s : WS) (n : Nat) (hT : s.live.length = n) (w : World) (h : IsW w0 w g v b s) : Calls Try.prog 11 #[.pointer (some ⟨g, 0, none⟩)] w fun e w' => e = .returned (.int .i64 (n : Int)) ∧ w = w' := by
  have hc := h.c1
  have hl := run_len b s.live w h.map
  rw [hT] at hl
  have HW := Aside0.mk h
  clear h hT
  go_enter Try.func11, Try.ntmps11
  go_wp2_with (first | (go_at_call 21; (with_reducible refine (ok_c w0 g v b s _ HW.out).mono ?_); rintro e w9 ⟨rfl, rfl⟩))
  go_ret
  exact ⟨rfl, rfl⟩
def laterV (s : WS) (now : Int) : WS := if now ≤ 1099511627776 then { s with now := if s.now < now then now else s.now } else s
set_option maxHeartbeats 4000000 in
theorem later_c (w0 : World) (g : Nat) (v : Value) (b : Nat) (s : WS) (now : Int) (s' : WS) (hs : laterV s now = s') (w : World) (h : IsW w0 w g v b s) (hB : Below w0.heap.size w0 w) : Calls Try.prog 22 #[.pointer (some ⟨g, 0, none⟩), .int .i64 now] w fun e w' => e = .returned (.tuple #[]) ∧ IsW w0 w' g v b s' ∧ Below w0.heap.size w0 w' ∧ KeepBut w w' g none := by
  have hc := h.c3
  have hf := h.free 3
  obtain ⟨T, hT⟩ : ∃ T, s.now = T := ⟨_, rfl⟩
  unfold laterV at hs
  rw [hT] at hc hs
  have HW := Aside0.mk h; have HB := Aside0.mk hB; have HG := Aside0.mk h.ge
  by_cases hq : now ≤ 1099511627776
  · rw [if_pos hq] at hs
    have d1 : decide (now ≤ 1099511627776) = true := decide_eq_true hq
    by_cases ht : T < now
    all_goals
      first | rw [if_pos ht] at hs | rw [if_neg ht] at hs
      have HS := Aside0.mk hs
      clear h hB hs hT hq
      go_enter Try.func22, Try.ntmps22
      go_wp2_with fail
      first | go_end0 | ((try simp only [Exit.inBlock, Exit.then]); refine bodyPost_ret (results_none rfl _ _ _) rfl ?_)
      exact ⟨rfl, by rw [← HS.out]; exact HW.out.tick _, below_set HB.out HG.out, KeepBut.set_ (KeepBut.refl w g none) 3 _⟩
  · rw [if_neg hq] at hs
    subst hs
    have d1 : decide (now ≤ 1099511627776) = false := decide_eq_false hq
    clear h hB hT hq
    go_enter Try.func22, Try.ntmps22
    go_wp2_with fail
    first | go_end0 | ((try simp only [Exit.inBlock, Exit.then]); refine bodyPost_ret (results_none rfl _ _ _) rfl ?_)
    exact ⟨rfl, HW.out, HB.out, KeepBut.refl w g none⟩
theorem IsW.mapped {w0 w w' : World} {g b : Nat} {v : Value} {s : WS} {l' : List Bk} (h : IsW w0 w g v b s) (hB : Below w0.heap.size w0 w) (hm : MapIs w' b l') (hg : w.grownBy w' (some b)) : PostW w0 w g v b { s with live := l' } w' :=
  ⟨v, ⟨⟨blk_grown h.1.1 hg (by intro e; cases e; exact h.ne rfl), h.1.2.grown hg (.inr fun e => h.neb e.symm)⟩, hm, h.2.2⟩, pw_below_grown hB _ hB.size hg (fun k hk => by cases hk; exact h.geb), Kept.of_grown hg (Kept.refl _ _) (fun k hk => by cases hk; exact .inl (.inr (.inr rfl))), .inl rfl⟩
theorem PostW.trans {w0 w w1 w2 : World} {g b : Nat} {v v1 : Value} {s2 : WS} (hk : Kept w w1 (FoW g v b)) (ho : v1.ownBlock = v.ownBlock ∨ ∃ k, v1.ownBlock = some k ∧ w.heap.size ≤ k) (h : PostW w0 w1 g v1 b s2 w2) : PostW w0 w g v b s2 w2 := by
  obtain ⟨v2, h1, h2, h3, h4⟩ := h
  refine ⟨v2, h1, h2, hk.then_ h3 fun k hk' => ?_, ?_⟩
  · rcases hk' with rfl | e | e
    · exact .inl (.inl rfl)
    · rcases ho with ho | ⟨b, ho, hb⟩
      · exact .inl (.inr (.inl (ho ▸ e)))
      · rw [ho] at e; cases e; exact .inr hb
    · exact .inl (.inr (.inr e))
  · rcases h4 with h4 | ⟨b, h4, hb'⟩
    · rw [h4]; exact ho
    · exact .inr ⟨b, h4, Nat.le_trans hk.1 hb'⟩
def stopV (s : WS) (n : Int) : Int × WS := if (lookV s.live n).2 = true then (0, { s with live := delV s.live n }) else (6, s)
set_option maxHeartbeats 4000000 in
theorem stop_c (w0 : World) (g : Nat) (v : Value) (b : Nat) (s : WS) (n : Int) (hn : -9223372036854775808 ≤ n ∧ n ≤ 9223372036854775807) (r : Int) (s' : WS) (hs : stopV s n = (r, s')) (w : World) (h : IsW w0 w g v b s) (hB : Below w0.heap.size w0 w) : Calls Try.prog 8 #[.pointer (some ⟨g, 0, none⟩), .int .i64 n] w fun e w' => e = .returned (.int .i64 r) ∧ PostW w0 w g v b s' w' := by
  have hc := h.c1
  have HW := Aside0.mk h; have HB := Aside0.mk hB; have HN := Aside0.mk hn
  unfold stopV at hs
  rcases hl : lookV s.live n with ⟨x, y⟩
  rw [hl] at hs
  have HL := Aside0.mk hl
  cases y
  · simp only [Bool.false_eq_true, if_false, Prod.mk.injEq] at hs
    obtain ⟨rfl, rfl⟩ := hs
    clear h hB hn hl
    go_enter Try.func8, Try.ntmps8
    go_wp2_with (first | (go_at_call 21; (with_reducible refine (ok_c w0 g v b s _ HW.out).mono ?_); rintro e w9 ⟨rfl, rfl⟩) | (at_lookup; refine wpList_look rfl _ _ rfl b s.live HW.out.map n HN.out rfl rfl x false HL.out ?_))
    go_ret
    exact ⟨rfl, PostW.refl HW.out HB.out⟩
  · simp only [if_true, Prod.mk.injEq] at hs
    obtain ⟨rfl, rfl⟩ := hs
    clear h hB hn hl
    go_enter Try.func8, Try.ntmps8
    go_wp2_with (first | (go_at_call 21; (with_reducible refine (ok_c w0 g v b s _ HW.out).mono ?_); rintro e w9 ⟨rfl, rfl⟩) | (at_lookup; refine wpList_look rfl _ _ rfl b s.live HW.out.map n HN.out rfl rfl x true HL.out ?_) | (at_delete; refine wpList_del rfl _ _ rfl b s.live HW.out.map n HN.out rfl rfl ?_; intro w9 hm hg; have HP := Aside0.mk (HW.out.mapped HB.out hm hg); clear hm hg))
    go_ret
    exact ⟨rfl, HP.out⟩
end Go.Proofs.Ytpkilechkoiffaa.Wh
