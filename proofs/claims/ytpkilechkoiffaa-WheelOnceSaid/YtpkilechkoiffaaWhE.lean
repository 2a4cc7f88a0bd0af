/- The wheel: Set; no condition but those that stand in each. -/
import Derived.Test.YtpkilechkoiffaaWhD
namespace Go.Proofs.Ytpkilechkoiffaa.Wh
set_option linter.unusedVariables false
set_option linter.unusedSimpArgs false
open Go.RowKit Go.Proofs.YtpkilechkoiffaaW.PrintWords Go.Proofs.YtpkilechkoiffaaW.PrintLast Go.Proofs.YtpkilechkoiffaaW.PrintMore Go.Proofs.Ytpkilechkoiffaa.Lst Go.Proofs.Ytpkilechkoiffaa.Heap Go.Proofs.Ytpkilechkoiffaa.TabL
attribute [local go_sem] max2_int min2_int max_two min_two max_three min_three max_four min_four
theorem IsW.put {w0 w w1 w' : World} {g b : Nat} {v : Value} {s : WS} {l' : List Bk} (h : IsW w0 w1 g v b s) (hB : Below w0.heap.size w0 w1) (hk : Kept w w1 (FoW g v b)) (hm : MapIs w' b l') (hg : (World.drew w1).grownBy w' (some b)) : IsW w0 w' g v b { s with live := l' } ∧ Below w0.heap.size w0 w' ∧ Kept w w' (FoW g v b) :=
  ⟨⟨⟨blk_grown (h.drew 1).1.1 hg (by intro e; cases e; exact h.ne rfl), (h.drew 1).1.2.grown hg (.inr fun e => h.neb e.symm)⟩, hm, h.2.2⟩, pw_below_grown (pw_below_drewN hB 1) _ hB.size hg (fun k hk => by cases hk; exact h.geb), (hk.drewN 1).of_grown hg (fun k hk => by cases hk; exact .inl (.inr (.inr rfl)))⟩
def attV (T after : Int) : Int := if 1099511627776 < T + after then 1099511627776 else T + after
def badA (after : Int) : Bool := decide (after < 0 ∨ 1099511627776 < after)
theorem IsW.post {w0 w w1 : World} {g b : Nat} {v : Value} {s : WS} {L : List Tm} (h : IsW w0 w1 g v b s) (hs : Sim s L) (hB : Below w0.heap.size w0 w1) (hk : Kept w w1 (FoW g v b)) {last now : Int} {m : Nat} (h1 : s.last = last) (h2 : s.now = now) (h3 : s.heap.length ≤ m) : PostS w0 w g v b last now m L w1 :=
  ⟨s, h1, h2, h3, hs, v, h, hB, hk, .inl rfl⟩
set_option maxHeartbeats 16000000 in
theorem set_no (w0 : World) (g : Nat) (v : Value) (b : Nat) (s : WS) (L : List Tm) (hs : Sim s L) (now after kind lab : Int) (ha : badA after = true) (s1 : WS) (hs1 : laterV s now = s1) (T : Int) (hT : s1.now = T) (w : World) (h : IsW w0 w g v b s) (hB : Below w0.heap.size w0 w) :
    Calls Try.prog 10 #[.pointer (some ⟨g, 0, none⟩), .int .i64 now, .int .i64 after, .int .i64 kind, .int .u64 lab] w fun e w' => e = .returned (.tuple #[.int .i64 0, .int .i64 1]) ∧ PostS w0 w g v b s.last T s.heap.length L w' := by
  have HS1 := Aside0.mk hs1; have HTT := Aside0.mk hT
  have hsim := hs.later now
  rw [hs1] at hsim
  have HSIM := Aside0.mk hsim
  have hlh : s1.heap = s.heap ∧ s1.last = s.last := by rw [← hs1]; unfold laterV; split <;> exact ⟨rfl, rfl⟩
  have HLH := Aside0.mk hlh
  have HW := Aside0.mk h; have HB := Aside0.mk hB
  have hc : after < 0 ∨ 0 ≤ after ∧ 1099511627776 < after := by
    have := of_decide_eq_true ha
    omega
  clear hT hs hs1 hsim hlh h hB ha
  rcases hc with hc | ⟨hc1, hc⟩
  · have d1 : decide (after < 0) = true := decide_eq_true hc
    clear hc
    go_enter Try.func10, Try.ntmps10
    go_wp2_with (first | (go_at_call 21; (with_reducible refine (ok_c w0 g _ b s _ HW.out).mono ?_); rintro e w9 ⟨rfl, rfl⟩) | (go_at_call 22; (with_reducible refine (later_c w0 g _ b s now s1 HS1.out _ HW.out HB.out).mono ?_); rintro e w9 ⟨rfl, hi, hb, hk⟩; have HW1 := Aside0.mk hi; have HB1 := Aside0.mk hb; have HK1 := Aside0.mk (kept_keep (w := w) (v := v) (b := b) hk); clear hi hb hk))
    go_ret2
    exact ⟨rfl, HW1.out.post HSIM.out HB1.out HK1.out HLH.out.2 HTT.out (by rw [HLH.out.1]; exact Nat.le_refl _)⟩
  · have d1 : decide (after < 0) = false := decide_eq_false (by omega)
    have d2 : decide (1099511627776 < after) = true := decide_eq_true hc
    clear hc hc1
    go_enter Try.func10, Try.ntmps10
    go_wp2_with (first | (go_at_call 21; (with_reducible refine (ok_c w0 g _ b s _ HW.out).mono ?_); rintro e w9 ⟨rfl, rfl⟩) | (go_at_call 22; (with_reducible refine (later_c w0 g _ b s now s1 HS1.out _ HW.out HB.out).mono ?_); rintro e w9 ⟨rfl, hi, hb, hk⟩; have HW1 := Aside0.mk hi; have HB1 := Aside0.mk hb; have HK1 := Aside0.mk (kept_keep (w := w) (v := v) (b := b) hk); clear hi hb hk))
    go_ret2
    exact ⟨rfl, HW1.out.post HSIM.out HB1.out HK1.out HLH.out.2 HTT.out (by rw [HLH.out.1]; exact Nat.le_refl _)⟩
set_option maxHeartbeats 16000000 in
theorem set_c (w0 : World) (g : Nat) (v : Value) (b : Nat) (s : WS) (L : List Tm) (hs : Sim s L) (hl : s.heap.length ≤ 1000) (hbd : s.last ≤ 1000) (now after kind lab : Int) (ha : badA after = false) (s1 : WS) (hs1 : laterV s now = s1) (T : Int) (hT : s1.now = T) (n : Int) (hn : s.last + 1 = n) (at_ : Int) (hat : attV T after = at_) (w : World) (h : IsW w0 w g v b s) (hB : Below w0.heap.size w0 w) :
    Calls Try.prog 10 #[.pointer (some ⟨g, 0, none⟩), .int .i64 now, .int .i64 after, .int .i64 kind, .int .u64 lab] w fun e w' => e = .returned (.tuple #[.int .i64 n, .int .i64 0]) ∧ PostS w0 w g v b n T (s.heap.length + 1) (insV L ⟨n, kind, lab, at_⟩) w' := by
  have HS1 := Aside0.mk hs1; have HTT := Aside0.mk hT
  have hsim := hs.later now
  rw [hs1] at hsim
  have HSIM := Aside0.mk hsim
  have hlh : s1.heap = s.heap ∧ s1.last = s.last := by rw [← hs1]; unfold laterV; split <;> exact ⟨rfl, rfl⟩
  have HLH := Aside0.mk hlh
  have HM := Aside0.mk hl
  have hlive : s1.live.length ≤ 1000 := by rw [hsim.len]; have := hsim.llen; rw [hlh.1] at this; omega
  have HLIVE := Aside0.mk hlive
  have HW := Aside0.mk h; have HB := Aside0.mk hB
  have hc : ¬ (after < 0 ∨ 1099511627776 < after) := of_decide_eq_false ha
  have d1 : decide (after < 0) = false := decide_eq_false (by omega)
  have d2 : decide (1099511627776 < after) = false := decide_eq_false (by omega)
  have hls0 := hs.ls
  have hl1 : s1.last = n - 1 := by rw [hlh.2]; omega
  have e1 : ((s1.live.length : Int) == 4096) = false := by simp; omega
  have e2 : ((n - 1) == 2147483647) = false := by simp; omega
  have e3 : wrap64 n = n := Base.w64 (by omega) (by omega)
  have e4 : wrap64 (T + after) = T + after := by have := hsim.tk; rw [hT] at this; exact Base.w64 (by omega) (by omega)
  have HN := Aside0.mk (show 1 ≤ n ∧ n ≤ 1001 by omega)
  have HQ := Aside0.mk (run_len b s1.live)
  have HHN := Aside0.mk hn
  unfold attV at hat
  obtain ⟨len, hlen⟩ : ∃ z, s1.live.length = z := ⟨_, rfl⟩
  rw [hlen] at HQ e1
  have HLEN := Aside0.mk hlen
  have HL1 := Aside0.mk hl1
  clear hT hs hs1 hsim hlh h hB ha hc hls0 hl hbd hlive hn hlen hl1
  go_enter Try.func10, Try.ntmps10
  go_upto_region 9 with (first | (go_at_call 21; (with_reducible refine (ok_c w0 g _ b s _ HW.out).mono ?_); rintro e w9 ⟨rfl, rfl⟩) | (go_at_call 22; (with_reducible refine (later_c w0 g _ b s now s1 HS1.out _ HW.out HB.out).mono ?_); rintro e w9 ⟨rfl, hi, hb, hk⟩; have HW1 := Aside0.mk hi; have HB1 := Aside0.mk hb; have HK1 := Aside0.mk (kept_keep (w := w) (v := v) (b := b) hk); clear hi hb hk; have c1 := HW1.out.c1; have c2 := HW1.out.c2; have c3 := HW1.out.c3; rw [HL1.out] at c2; rw [HTT.out] at c3; have f2 := HW1.out.free 2; have ql := HQ.out _ HW1.out.map))
  obtain ⟨w2, hw2⟩ : ∃ w2, w9.setCell ⟨g, 2, none⟩ (.int .i64 n) = w2 := ⟨_, rfl⟩
  have HW2 := Aside0.mk (show IsW w0 w2 g v b { s1 with last := n } from by rw [← hw2]; exact HW1.out.count n)
  have HB2 := Aside0.mk (show Below w0.heap.size w0 w2 from by rw [← hw2]; exact below_set HB1.out HW1.out.ge)
  have HK2 := Aside0.mk (show Kept w w2 (FoW g v b) from by rw [← hw2]; exact HK1.out.setCell (p := ⟨g, 2, none⟩) (.inl (.inl rfl)) _)
  rw [hw2]
  clear hw2 c1 c2 c3 f2 ql HW1 HB1 HK1
  have c1 := (HW2.out.drew 1).c1; have c2 := (HW2.out.drew 1).c2
  obtain ⟨wd, hrun, hm, hg⟩ := put_run (World.drew w2) b s1.live (HW2.out.drew 1).map (by have := HLIVE.out; omega) n lab (by have := HN.out; omega)
  have HW3 := Aside0.mk (HW2.out.put HB2.out HK2.out hm hg)
  clear hm hg HW2 HB2 HK2
  refine start_ (n := 10) (S := fun w' => w'.cell? ⟨g, 1, none⟩ = some (.map (some b)) ∧ w'.cell? ⟨g, 2, none⟩ = some (.int .i64 n)) (ds := [9]) #[false, false, false, false, false, false, false, false, false, false] (by kernel_rfl) rfl rfl ⟨c1, c2⟩ (fun hHeld => ?_)
  refine pure_ (i := 0) (N := some 46) (v := ?_) (a' := ?_) #[true, false, false, false, false, false, false, false, false, false] rfl rfl (by kernel_rfl) (fun _ _ _ h => h) (Or.inl ⟨by rfl, ?_⟩) ?_ ?_
  rotate_left
  · intro w'
    go_simp
    with_reducible rfl
  rotate_left
  · simp only [Act.put, List.setIfInBounds_toArray, List.set_cons_zero, List.set_cons_succ, i64_w, i32_w]
    rfl
  refine pure_ (i := 1) (N := some 47) (v := ?_) (a' := ?_) #[true, true, false, false, false, false, false, false, false, false] rfl rfl (by kernel_rfl) (fun _ _ _ h => h) (Or.inl ⟨by rfl, ?_⟩) ?_ ?_
  rotate_left
  · intro w'
    go_simp
    with_reducible rfl
  rotate_left
  · simp only [Act.put, List.setIfInBounds_toArray, List.set_cons_zero, List.set_cons_succ, i64_w, i32_w]
    rfl
  refine pure_ (i := 2) (N := some 48) (v := ?_) (a' := ?_) #[true, true, true, false, false, false, false, false, false, false] rfl rfl (by kernel_rfl) (fun _ _ _ h => h) (Or.inl ⟨by rfl, ?_⟩) ?_ ?_
  rotate_left
  · intro w'
    go_simp
    with_reducible rfl
  rotate_left
  · simp only [Act.put, List.setIfInBounds_toArray, List.set_cons_zero, List.set_cons_succ, i64_w, i32_w]
    rfl
  refine pure_ (i := 4) (N := some 50) (v := ?_) (a' := ?_) #[true, true, true, false, true, false, false, false, false, false] rfl rfl (by kernel_rfl) (fun _ _ _ h => h) (Or.inl ⟨by rfl, ?_⟩) ?_ ?_
  rotate_left
  · intro w'
    go_simp
    with_reducible rfl
  rotate_left
  · simp only [Act.put, List.setIfInBounds_toArray, List.set_cons_zero, List.set_cons_succ, i64_w, i32_w]
    rfl
  refine pure_ (i := 5) (N := some 51) (v := ?_) (a' := ?_) #[true, true, true, false, true, true, false, false, false, false] rfl rfl (by kernel_rfl) (fun _ _ _ h => h) (Or.inl ⟨by rfl, ?_⟩) ?_ ?_
  rotate_left
  · intro w'
    go_simp
    with_reducible rfl
  rotate_left
  · simp only [Act.put, List.setIfInBounds_toArray, List.set_cons_zero, List.set_cons_succ, i64_w, i32_w]
    rfl
  refine pure_ (i := 6) (N := some 52) (v := ?_) (a' := ?_) #[true, true, true, false, true, true, true, false, false, false] rfl rfl (by kernel_rfl) (fun _ _ _ h => h) (Or.inl ⟨by rfl, ?_⟩) ?_ ?_
  rotate_left
  · intro w'
    go_simp
    with_reducible rfl
  rotate_left
  · simp only [Act.put, List.setIfInBounds_toArray, List.set_cons_zero, List.set_cons_succ, i64_w, i32_w]
    rfl
  refine pure_ (i := 8) (N := some 54) (v := ?_) (a' := ?_) #[true, true, true, false, true, true, true, false, true, false] rfl rfl (by kernel_rfl) (fun _ _ _ h => h) (Or.inl ⟨by rfl, ?_⟩) ?_ ?_
  rotate_left
  · intro w'
    go_simp
    with_reducible rfl
  rotate_left
  · simp only [Act.put, List.setIfInBounds_toArray, List.set_cons_zero, List.set_cons_succ, i64_w, i32_w]
    rfl
  refine take_ (i := 3) (N := some 49) (v := ?_) (a' := ?_) #[true, true, true, true, true, true, true, false, true, false] rfl rfl (by kernel_rfl) (fun _ _ _ h => h) (Or.inl ⟨by rfl, ?_⟩) hHeld ?_ ?_
  rotate_left
  · rintro w' ⟨s0, s1⟩
    go_simp
    with_reducible rfl
  rotate_left
  · simp only [Act.put, List.setIfInBounds_toArray, List.set_cons_zero, List.set_cons_succ, i64_w, i32_w]
    rfl
  refine take_ (i := 7) (N := some 53) (v := ?_) (a' := ?_) #[true, true, true, true, true, true, true, true, true, false] rfl rfl (by kernel_rfl) (fun _ _ _ h => h) (Or.inl ⟨by rfl, ?_⟩) hHeld ?_ ?_
  rotate_left
  · rintro w' ⟨s0, s1⟩
    go_simp
    with_reducible rfl
  rotate_left
  · simp only [Act.put, List.setIfInBounds_toArray, List.set_cons_zero, List.set_cons_succ, i64_w, i32_w]
    rfl
  refine last_ (i := 9) (N := none) #[true, true, true, true, true, true, true, true, true, true] rfl rfl (by kernel_rfl) (by decide) (fun K hK => ?_)
  refine skip_ (w1 := ?_) (by rfl) rfl ?_ ?_
  rotate_left
  · go_simp
    rfl
  refine hK.out _ _ ?_
  clear hK K
  refine done_ (by kernel_rfl) ?_
  clear c1 c2 hrun
  obtain ⟨l', hl'⟩ : ∃ l', pushV zT ltT s1.heap ⟨n, kind, lab, at_⟩ = l' := ⟨_, rfl⟩
  have HPU := Aside0.mk hl'
  clear hl'
  have HPC := Aside0.mk (show Calls Try.prog 24 #[.iface 66 (.pointer (some ⟨g, 0, none⟩)), .iface 37 (.agg #[.int .i64 n, .int .i64 kind, .int .u64 lab, .int .i64 at_])] (World.drew wd) (fun e w' => e = .returned (.tuple #[]) ∧ PostF w0 (World.drew wd) g v (.map (some b)) (.int .i64 n) (.int .i64 s1.now) l' w') from
    heappush_c w0 g v _ _ _ s1.heap ⟨n, kind, lab, at_⟩ (by have := HM.out; have := HLH.out.1; rw [this]; omega) l' HPU.out _ (HW3.out.1.drew 1).f (pw_below_drewN HW3.out.2.1 1) HW3.out.1.ge)
  go_upto_region 10 with (fail)
  have c2 := (HW3.out.1.drew 1).c2; have c3 := (HW3.out.1.drew 1).c3
  dsimp only at c3
  rw [HTT.out] at c3
  refine start_ (n := 20) (S := fun w' => w'.cell? ⟨g, 2, none⟩ = some (.int .i64 n) ∧ w'.cell? ⟨g, 3, none⟩ = some (.int .i64 T)) (ds := [19]) #[false, false, false, false, false, false, false, false, false, false, false, false, false, false, false, false, false, false, false, false] (by kernel_rfl) rfl rfl ⟨c2, c3⟩ (fun hHeld => ?_)
  refine pure_ (i := 0) (N := some 55) (v := ?_) (a' := ?_) #[true, false, false, false, false, false, false, false, false, false, false, false, false, false, false, false, false, false, false, false] rfl rfl (by kernel_rfl) (fun _ _ _ h => h) (Or.inl ⟨by rfl, ?_⟩) ?_ ?_
  rotate_left
  · intro w'
    go_simp
    with_reducible rfl
  rotate_left
  · simp only [Act.put, List.setIfInBounds_toArray, List.set_cons_zero, List.set_cons_succ, i64_w, i32_w]
    rfl
  refine pure_ (i := 1) (N := some 56) (v := ?_) (a' := ?_) #[true, true, false, false, false, false, false, false, false, false, false, false, false, false, false, false, false, false, false, false] rfl rfl (by kernel_rfl) (fun _ _ _ h => h) (Or.inl ⟨by rfl, ?_⟩) ?_ ?_
  rotate_left
  · intro w'
    go_simp
    with_reducible rfl
  rotate_left
  · simp only [Act.put, List.setIfInBounds_toArray, List.set_cons_zero, List.set_cons_succ, i64_w, i32_w]
    rfl
  refine pure_ (i := 2) (N := some 57) (v := ?_) (a' := ?_) #[true, true, true, false, false, false, false, false, false, false, false, false, false, false, false, false, false, false, false, false] rfl rfl (by kernel_rfl) (fun _ _ _ h => h) (Or.inl ⟨by rfl, ?_⟩) ?_ ?_
  rotate_left
  · intro w'
    go_simp
    with_reducible rfl
  rotate_left
  · simp only [Act.put, List.setIfInBounds_toArray, List.set_cons_zero, List.set_cons_succ, i64_w, i32_w]
    rfl
  refine pure_ (i := 3) (N := some 58) (v := ?_) (a' := ?_) #[true, true, true, true, false, false, false, false, false, false, false, false, false, false, false, false, false, false, false, false] rfl rfl (by kernel_rfl) (fun _ _ _ h => h) (Or.inl ⟨by rfl, ?_⟩) ?_ ?_
  rotate_left
  · intro w'
    go_simp
    with_reducible rfl
  rotate_left
  · simp only [Act.put, List.setIfInBounds_toArray, List.set_cons_zero, List.set_cons_succ, i64_w, i32_w]
    rfl
  refine pure_ (i := 4) (N := some 59) (v := ?_) (a' := ?_) #[true, true, true, true, true, false, false, false, false, false, false, false, false, false, false, false, false, false, false, false] rfl rfl (by kernel_rfl) (fun _ _ _ h => h) (Or.inl ⟨by rfl, ?_⟩) ?_ ?_
  rotate_left
  · intro w'
    go_simp
    with_reducible rfl
  rotate_left
  · simp only [Act.put, List.setIfInBounds_toArray, List.set_cons_zero, List.set_cons_succ, i64_w, i32_w]
    rfl
  refine pure_ (i := 5) (N := some 60) (v := ?_) (a' := ?_) #[true, true, true, true, true, true, false, false, false, false, false, false, false, false, false, false, false, false, false, false] rfl rfl (by kernel_rfl) (fun _ _ _ h => h) (Or.inl ⟨by rfl, ?_⟩) ?_ ?_
  rotate_left
  · intro w'
    go_simp
    with_reducible rfl
  rotate_left
  · simp only [Act.put, List.setIfInBounds_toArray, List.set_cons_zero, List.set_cons_succ, i64_w, i32_w]
    rfl
  refine pure_ (i := 6) (N := some 61) (v := ?_) (a' := ?_) #[true, true, true, true, true, true, true, false, false, false, false, false, false, false, false, false, false, false, false, false] rfl rfl (by kernel_rfl) (fun _ _ _ h => h) (Or.inl ⟨by rfl, ?_⟩) ?_ ?_
  rotate_left
  · intro w'
    go_simp
    with_reducible rfl
  rotate_left
  · simp only [Act.put, List.setIfInBounds_toArray, List.set_cons_zero, List.set_cons_succ, i64_w, i32_w]
    rfl
  refine pure_ (i := 8) (N := some 63) (v := ?_) (a' := ?_) #[true, true, true, true, true, true, true, false, true, false, false, false, false, false, false, false, false, false, false, false] rfl rfl (by kernel_rfl) (fun _ _ _ h => h) (Or.inl ⟨by rfl, ?_⟩) ?_ ?_
  rotate_left
  · intro w'
    go_simp
    with_reducible rfl
  rotate_left
  · simp only [Act.put, List.setIfInBounds_toArray, List.set_cons_zero, List.set_cons_succ, i64_w, i32_w]
    rfl
  refine pure_ (i := 9) (N := some 64) (v := ?_) (a' := ?_) #[true, true, true, true, true, true, true, false, true, true, false, false, false, false, false, false, false, false, false, false] rfl rfl (by kernel_rfl) (fun _ _ _ h => h) (Or.inl ⟨by rfl, ?_⟩) ?_ ?_
  rotate_left
  · intro w'
    go_simp
    with_reducible rfl
  rotate_left
  · simp only [Act.put, List.setIfInBounds_toArray, List.set_cons_zero, List.set_cons_succ, i64_w, i32_w]
    rfl
  refine pure_ (i := 10) (N := some 65) (v := ?_) (a' := ?_) #[true, true, true, true, true, true, true, false, true, true, true, false, false, false, false, false, false, false, false, false] rfl rfl (by kernel_rfl) (fun _ _ _ h => h) (Or.inl ⟨by rfl, ?_⟩) ?_ ?_
  rotate_left
  · intro w'
    go_simp
    with_reducible rfl
  rotate_left
  · simp only [Act.put, List.setIfInBounds_toArray, List.set_cons_zero, List.set_cons_succ, i64_w, i32_w]
    rfl
  refine pure_ (i := 11) (N := some 66) (v := ?_) (a' := ?_) #[true, true, true, true, true, true, true, false, true, true, true, true, false, false, false, false, false, false, false, false] rfl rfl (by kernel_rfl) (fun _ _ _ h => h) (Or.inl ⟨by rfl, ?_⟩) ?_ ?_
  rotate_left
  · intro w'
    go_simp
    with_reducible rfl
  rotate_left
  · simp only [Act.put, List.setIfInBounds_toArray, List.set_cons_zero, List.set_cons_succ, i64_w, i32_w]
    rfl
  refine pure_ (i := 12) (N := some 67) (v := ?_) (a' := ?_) #[true, true, true, true, true, true, true, false, true, true, true, true, true, false, false, false, false, false, false, false] rfl rfl (by kernel_rfl) (fun _ _ _ h => h) (Or.inl ⟨by rfl, ?_⟩) ?_ ?_
  rotate_left
  · intro w'
    go_simp
    with_reducible rfl
  rotate_left
  · simp only [Act.put, List.setIfInBounds_toArray, List.set_cons_zero, List.set_cons_succ, i64_w, i32_w]
    rfl
  refine pure_ (i := 14) (N := some 69) (v := ?_) (a' := ?_) #[true, true, true, true, true, true, true, false, true, true, true, true, true, false, true, false, false, false, false, false] rfl rfl (by kernel_rfl) (fun _ _ _ h => h) (Or.inl ⟨by rfl, ?_⟩) ?_ ?_
  rotate_left
  · intro w'
    go_simp
    with_reducible rfl
  rotate_left
  · simp only [Act.put, List.setIfInBounds_toArray, List.set_cons_zero, List.set_cons_succ, i64_w, i32_w]
    rfl
  refine take_ (i := 7) (N := some 62) (v := ?_) (a' := ?_) #[true, true, true, true, true, true, true, true, true, true, true, true, true, false, true, false, false, false, false, false] rfl rfl (by kernel_rfl) (fun _ _ _ h => h) (Or.inl ⟨by rfl, ?_⟩) hHeld ?_ ?_
  rotate_left
  · rintro w' ⟨s0, s1⟩
    go_simp
    with_reducible rfl
  rotate_left
  · simp only [Act.put, List.setIfInBounds_toArray, List.set_cons_zero, List.set_cons_succ, i64_w, i32_w]
    rfl
  refine take_ (i := 13) (N := some 68) (v := ?_) (a' := ?_) #[true, true, true, true, true, true, true, true, true, true, true, true, true, true, true, false, false, false, false, false] rfl rfl (by kernel_rfl) (fun _ _ _ h => h) (Or.inl ⟨by rfl, ?_⟩) hHeld ?_ ?_
  rotate_left
  · rintro w' ⟨s0, s1⟩
    go_simp
    with_reducible rfl
  rotate_left
  · simp only [Act.put, List.setIfInBounds_toArray, List.set_cons_zero, List.set_cons_succ, i64_w, i32_w]
    rfl
  refine pure_ (i := 15) (N := some 70) (v := ?_) (a' := ?_) #[true, true, true, true, true, true, true, true, true, true, true, true, true, true, true, true, false, false, false, false] rfl rfl (by kernel_rfl) (fun _ _ _ h => h) (Or.inl ⟨by rfl, ?_⟩) ?_ ?_
  rotate_left
  · intro w'
    go_simp
    with_reducible rfl
  rotate_left
  · simp only [Act.put, List.setIfInBounds_toArray, List.set_cons_zero, List.set_cons_succ, i64_w, i32_w]
    rfl
  refine pure_ (i := 16) (N := some 71) (v := ?_) (a' := ?_) #[true, true, true, true, true, true, true, true, true, true, true, true, true, true, true, true, true, false, false, false] rfl rfl (by kernel_rfl) (fun _ _ _ h => h) (Or.inl ⟨by rfl, ?_⟩) ?_ ?_
  rotate_left
  · intro w'
    go_simp
    with_reducible rfl
  rotate_left
  · simp only [Act.put, List.setIfInBounds_toArray, List.set_cons_zero, List.set_cons_succ, i64_w, i32_w]
    rfl
  refine pure_ (i := 17) (N := some 72) (v := ?_) (a' := ?_) #[true, true, true, true, true, true, true, true, true, true, true, true, true, true, true, true, true, true, false, false] rfl rfl (by kernel_rfl) (fun _ _ _ h => h) (Or.inl ⟨by rfl, ?_⟩) ?_ ?_
  rotate_left
  · intro w'
    go_simp
    with_reducible rfl
  rotate_left
  · simp only [Act.put, List.setIfInBounds_toArray, List.set_cons_zero, List.set_cons_succ, i64_w, i32_w]
    rfl
  refine pure_ (i := 18) (N := some 73) (v := ?_) (a' := ?_) #[true, true, true, true, true, true, true, true, true, true, true, true, true, true, true, true, true, true, true, false] rfl rfl (by kernel_rfl) (fun _ _ _ h => h) (Or.inl ⟨by rfl, ?_⟩) ?_ ?_
  rotate_left
  · intro w'
    go_simp
    with_reducible rfl
  rotate_left
  · simp only [Act.put, List.setIfInBounds_toArray, List.set_cons_zero, List.set_cons_succ, i64_w, i32_w]
    rfl
  refine last_ (i := 19) (N := some 74) #[true, true, true, true, true, true, true, true, true, true, true, true, true, true, true, true, true, true, true, true] rfl rfl (by kernel_rfl) (by decide) (fun K hK => ?_)
  refine goes_ Try.func24 (by kernel_rfl) rfl #[.iface 66 (.pointer (some ⟨g, 0, none⟩)), .iface 37 (.agg #[.int .i64 n, .int .i64 kind, .int .u64 lab, .int .i64 at_])] (by rfl) rfl rfl (by simp only [List.map_toArray, List.map_cons, List.map_nil]; rfl) ?_
  with_reducible refine (HPC.out).mono ?_
  rintro e w10 ⟨rfl, hp⟩
  refine ⟨_, rfl, ?_⟩
  have HP := Aside0.mk ((HW3.out.1.drew 1).heap hp)
  clear hp
  refine hK.out _ _ ?_
  clear hK K
  refine norm_ (a' := ?_) ?_ ?_
  rotate_left
  · show Act.put _ (some 74) _ = _
    simp only [Act.put, List.setIfInBounds_toArray, List.set_cons_zero, List.set_cons_succ, i64_w, i32_w]
    rfl
  refine done_ (by kernel_rfl) ?_
  obtain ⟨v9, i9, b9, k9, o9⟩ := HP.out
  have c2 := i9.c2
  have HI := Aside0.mk i9; have HBB := Aside0.mk b9
  have HT2 := Aside0.mk (fow_trans (HW3.out.2.2.drewN 1) (.inl rfl) k9 o9)
  clear i9 b9 k9 o9
  go_wp2_with fail
  go_ret2
  refine ⟨rfl, ⟨l', putV s1.live n lab, n, s1.now⟩, rfl, HTT.out, ?_, ?_, v9, HI.out, HBB.out, HT2.out.1, HT2.out.2⟩
  · have := (push_ok ltT_ord HSIM.out.hp (⟨n, kind, lab, at_⟩ : Tm)).2.2
    rw [HPU.out, HLH.out.1] at this
    exact Nat.le_of_eq this
  · have := HSIM.out.set kind lab at_
    rw [show s1.last + 1 = n by rw [HL1.out]; omega, HPU.out] at this
    exact this
end Go.Proofs.Ytpkilechkoiffaa.Wh
