/- The document's wheel: later, Stop, StopAll, Due; no condition but those that stand in each. -/
import Derived.Test.YtpkilechkoiffaaWhT
import Derived.Test.YtpkilechkoiffaaLst2
namespace Go.Proofs.Ytpkilechkoiffaa.Wh
set_option linter.unusedVariables false
set_option linter.unusedSimpArgs false
open Go.RowKit Go.Proofs.YtpkilechkoiffaaW.PrintWords Go.Proofs.YtpkilechkoiffaaW.PrintLast Go.Proofs.YtpkilechkoiffaaW.PrintMore Go.Proofs.Ytpkilechkoiffaa.Lst Go.Proofs.Ytpkilechkoiffaa.Heap Go.Proofs.Ytpkilechkoiffaa.TabL
attribute [local go_sem] max2_int min2_int max_two min_two max_three min_three max_four min_four
theorem append_exec' {P : Program} {oi : Oper} {a : Act} {w w1 : World} {v1 vs vx : Value} (s x : Operand) (t : TypeId) (ho : oi.op = .call { callee := .builtin .append, args := #[s, x], argTypes := #[t, t] }) (hs : a.eval s = vs) (hx : a.eval x = vx)
    (hr : (Builtin.append_ #[t, t] oi.type #[vs, vx]).run P w = .ok v1 w1) : (execOp a.eval oi).run P w = .ok (.value v1) w1 := by
  unfold execOp
  simp only [ho, resolve, invoke, builtin, Sem.run_bind, Sem.run_pure, Result.andThen_ok, List.map_toArray, List.map_cons, List.map_nil, hs, hx, hr]
theorem below_grown0 {W W' : World} (h : W.grownBy W' none) : Below W.heap.size W W' := ⟨h.os, h.tape, h.output, h.size, fun k hk => h.block k hk (by simp)⟩
theorem below_grownN {W W1 W' : World} {v : Value} (hB : Below W.heap.size W W1) (h : W1.grownBy W' v.ownBlock) (hv : v.ownBlock = none ∨ ∃ b, v.ownBlock = some b ∧ W.heap.size ≤ b) : Below W.heap.size W W' :=
  pw_below_grown hB _ hB.size h (fun k hk => by
    rcases hv with hv | ⟨b, hv, hb⟩
    · rw [hv] at hk; cases hk
    · rw [hv] at hk; cases hk; exact hb)
theorem kept_set (w : World) (g j : Nat) (u : Value) : Kept w (w.setCell ⟨g, j, none⟩ u) (fun k => k = g) := (Kept.refl w (fun k => k = g)).setCell (p := ⟨g, j, none⟩) (.inl rfl) u
theorem wpList_append_run {P : Program} {ops : Array Oper} {rest : List Oper} {o : Oper} {a : Act} {Q : Exit → Act → World → Prop} {w w1 : World} {v1 vs vx : Value} (hgd : o.guard = none) (s x : Operand) (t : TypeId) (ho : o.op = .call { callee := .builtin .append, args := #[s, x], argTypes := #[t, t] }) (hs : a.eval s = vs) (hx : a.eval x = vx)
    (hr : (Builtin.append_ #[t, t] o.type #[vs, vx]).run P w = .ok v1 w1) (h : wpList P ops Q rest (a.put o.dst v1) w1) : wpList P ops Q (o :: rest) a w := by
  refine wpList_plain hgd fun K hK => ?_
  unfold Oper.wp
  rw [append_exec' s x t ho hs hx hr]
  exact hK _ _ h
theorem bef_length_le (L : List Tm) (a : Int) : (befV L a).length ≤ L.length := (List.takeWhile_sublist _).length_le
def IsD (w0 W : World) (g : Nat) (v : Value) (T last : Int) (L : List Tm) : Prop := W.heap[g]? = some (.cells #[.int .i64 T, .int .i64 last, v] 45 (0, 0)) ∧ Ct W w0.heap.size v L ∧ w0.heap.size ≤ g
def FoD (g : Nat) (v : Value) (k : Nat) : Prop := k = g ∨ blkOf v = some k
def PostD (w0 w : World) (g : Nat) (v : Value) (T last : Int) (L : List Tm) (w' : World) : Prop := ∃ v', IsD w0 w' g v' T last L ∧ Below w0.heap.size w0 w' ∧ Kept w w' (fun k => k = g) ∧ ∀ k, blkOf v' = some k → blkOf v = some k ∨ w.heap.size ≤ k
section
variable {w0 w W W' : World} {g : Nat} {v : Value} {T last : Int} {L : List Tm}
theorem IsD.c0 (h : IsD w0 W g v T last L) : W.cell? ⟨g, 0, none⟩ = some (.int .i64 T) := blk_cell h.1 0
theorem IsD.c1 (h : IsD w0 W g v T last L) : W.cell? ⟨g, 1, none⟩ = some (.int .i64 last) := blk_cell h.1 1
theorem IsD.c2 (h : IsD w0 W g v T last L) : W.cell? ⟨g, 2, none⟩ = some v := blk_cell h.1 2
theorem IsD.free (h : IsD w0 W g v T last L) (k : Nat) : W.frozen? ⟨g, k, none⟩ = false := blk_frozen h.1 k
theorem IsD.ct (h : IsD w0 W g v T last L) : Ct W w0.heap.size v L := h.2.1
theorem IsD.ge (h : IsD w0 W g v T last L) : w0.heap.size ≤ g := h.2.2
theorem IsD.lt (h : IsD w0 W g v T last L) : g < W.heap.size := blk_lt h.1
theorem IsD.ne (h : IsD w0 W g v T last L) {k : Nat} (hk : blkOf v = some k) : k ≠ g := by
  obtain ⟨_, _, cur, hc⟩ := h.ct.blk k hk
  exact blk_ne hc h.1 (by decide)
theorem IsD.below (h : IsD w0 W g v T last L) (hb : Below W.heap.size W W') : IsD w0 W' g v T last L := ⟨blk_below h.1 hb, h.ct.below hb, h.2.2⟩
theorem IsD.drewN (h : IsD w0 W g v T last L) (n : Nat) : IsD w0 (W.drewN n) g v T last L := h
theorem IsD.far (h : IsD w0 W g v T last L) (j : Nat) (u : Value) {W2 : World} (e : W.setCell ⟨g, j, none⟩ u = W2) : Ct W2 w0.heap.size v L := by
  subst e
  exact h.ct.move (by simp [World.setCell]) fun k hk => Below.heap_setCell W ⟨g, j, none⟩ u k (h.ne hk)
theorem IsD.tick (h : IsD w0 W g v T last L) (n : Int) : IsD w0 (W.setCell ⟨g, 0, none⟩ (.int .i64 n)) g v n last L := ⟨blk_set h.1 0 _, h.far 0 _ rfl, h.2.2⟩
theorem IsD.count (h : IsD w0 W g v T last L) (n : Int) : IsD w0 (W.setCell ⟨g, 1, none⟩ (.int .i64 n)) g v T n L := ⟨blk_set h.1 1 _, h.far 1 _ rfl, h.2.2⟩
/-- another row is laid -/
theorem IsD.lay (h : IsD w0 W g v T last L) {v' : Value} {L' : List Tm} (hc : Ct W w0.heap.size v' L') : IsD w0 (W.setCell ⟨g, 2, none⟩ v') g v' T last L' := by
  refine ⟨blk_set h.1 2 _, hc.move (by simp [World.setCell]) fun k hk => Below.heap_setCell W ⟨g, 2, none⟩ v' k ?_, h.2.2⟩
  obtain ⟨_, _, cur, hcu⟩ := hc.blk k hk
  exact blk_ne hcu h.1 (by decide)
theorem PostD.refl (h : IsD w0 w g v T last L) (hB : Below w0.heap.size w0 w) : PostD w0 w g v T last L w := ⟨v, h, hB, Kept.refl _ _, fun k hk => .inl hk⟩
theorem PostD.trans {T1 last1 : Int} {L1 : List Tm} {w1 w2 : World} {v1 : Value} (hk : Kept w w1 (fun k => k = g)) (ho : ∀ k, blkOf v1 = some k → blkOf v = some k ∨ w.heap.size ≤ k) (h : PostD w0 w1 g v1 T last L w2) : PostD w0 w g v T last L w2 := by
  obtain ⟨v2, i, b, k2, o2⟩ := h
  refine ⟨v2, i, b, hk.then_ k2 fun k e => .inl e, fun k e => ?_⟩
  rcases o2 k e with e | e
  · exact ho k e
  · exact .inr (Nat.le_trans hk.1 e)
end
set_option maxHeartbeats 4000000 in
theorem dlater_c (w0 : World) (g : Nat) (v : Value) (T last : Int) (L : List Tm) (now T' : Int) (hT : laterT T now = T') (w : World) (h : IsD w0 w g v T last L) (hB : Below w0.heap.size w0 w) : Calls Try.prog 25 #[.pointer (some ⟨g, 0, none⟩), .int .i64 now] w fun e w' => e = .returned (.tuple #[]) ∧ IsD w0 w' g v T' last L ∧ Below w0.heap.size w0 w' ∧ Kept w w' (fun k => k = g) := by
  have hc := h.c0
  have hf := h.free 0
  have HW := Aside0.mk h; have HB := Aside0.mk hB
  unfold laterT at hT
  have e : (now ≤ 1099511627776 ∧ T < now ∧ T' = now) ∨ (T < now ∧ 1099511627776 < now ∧ T' = T) ∨ (¬ T < now ∧ T' = T) := by
    by_cases h1 : now ≤ 1099511627776 <;> by_cases h2 : T < now <;> simp only [h1, h2, if_true, if_false] at hT <;> omega
  clear hT h hB
  rcases e with ⟨h1, h2, rfl⟩ | ⟨h1, h2, rfl⟩ | ⟨h1, rfl⟩
  · have d1 : decide (T < T') = true := decide_eq_true h2
    have d2 : decide (T' ≤ 1099511627776) = true := decide_eq_true h1
    clear h1 h2
    go_enter Try.func25, Try.ntmps25
    go_wp2_with fail
    first | go_end0 | ((try simp only [Exit.inBlock, Exit.then]); refine bodyPost_ret (results_none rfl _ _ _) rfl ?_)
    exact ⟨rfl, HW.out.tick _, below_set HB.out HW.out.ge, kept_set _ _ _ _⟩
  · have d1 : decide (T' < now) = true := decide_eq_true h1
    have d2 : decide (now ≤ 1099511627776) = false := decide_eq_false (by omega)
    clear h1 h2
    go_enter Try.func25, Try.ntmps25
    go_wp2_with fail
    first | go_end0 | ((try simp only [Exit.inBlock, Exit.then]); refine bodyPost_ret (results_none rfl _ _ _) rfl ?_)
    exact ⟨rfl, HW.out, HB.out, Kept.refl _ _⟩
  · have d1 : decide (T' < now) = false := decide_eq_false h1
    clear h1
    go_enter Try.func25, Try.ntmps25
    go_wp2_with fail
    first | go_end0 | ((try simp only [Exit.inBlock, Exit.then]); refine bodyPost_ret (results_none rfl _ _ _) rfl ?_)
    exact ⟨rfl, HW.out, HB.out, Kept.refl _ _⟩
/-- a new row, laid -/
theorem IsD.put {w0 w w2 : World} {g : Nat} {v v2 : Value} {T last : Int} {L L' : List Tm} (h : IsD w0 w g v T last L) (hB : Below w0.heap.size w0 w) (hb : Below w.heap.size w w2) (hl : Ls encT 54 w2 w.heap.size v2 L') : PostD w0 w g v T last L' (w2.setCell ⟨g, 2, none⟩ v2) := by
  refine ⟨v2, (h.below hb).lay ((Ct.of_ls hl).lower hB.size), below_set (below_step hB hb) h.ge, ((Kept.of_below hb (fun k => k = g)).setCell (p := ⟨g, 2, none⟩) (.inl rfl) v2), fun k hk => .inr (hl.own k hk).1⟩
/-! ### Stop -/
def posN (n : Int) : List Tm → Nat → Option Nat
  | [], _ => none
  | x :: l, i => if x.n = n then some i else posN n l (i + 1)
theorem drop_cons {l : List Tm} {i : Nat} (h : i < l.length) : l.drop i = Heap.at_ zT l i :: l.drop (i + 1) := by
  obtain ⟨hi, e⟩ := List.getElem?_eq_some_iff.1 (at_get zT h)
  rw [List.drop_eq_getElem_cons hi, e]
set_option maxHeartbeats 8000000 in
theorem dstop_w (w0 : World) (g : Nat) (v : Value) (T last : Int) (L : List Tm) (hl : L.length ≤ 1000) (n : Int) (r : Int) (L' : List Tm) (hr : (match posN n L 0 with | none => ((6 : Int), L) | some i => (0, L.take i ++ L.drop (i + 1))) = (r, L')) (w : World) (h : IsD w0 w g v T last L) (hB : Below w0.heap.size w0 w) :
    Calls Try.prog 13 #[.pointer (some ⟨g, 0, none⟩), .int .i64 n] w fun e w' => e = .returned (.int .i64 r) ∧ PostD w0 w g v T last L' w' := by
  have hc := h.c2
  have HW := Aside0.mk h; have HB := Aside0.mk hB; have HR := Aside0.mk hr; have HL := Aside0.mk hl
  obtain ⟨A, c, rfl, hac⟩ := h.ct.form
  have HCT := Aside0.mk h.ct
  clear h hB hr hl
  go_enter Try.func13, Try.ntmps13
  go_wp2_with fail
  go_loop [5] (fun vi => ∃ i : Nat, vi = .int .i64 i ∧ Aside0 (i ≤ L.length) ∧ Aside0 (posN n (L.drop i) i = posN n L 0)) (fun vi => (L.length - intOf vi).toNat)
  case atStart => exact ⟨0, rfl, ⟨Nat.zero_le _⟩, ⟨rfl⟩⟩
  case round =>
    obtain ⟨i, rfl, HI, HQ⟩ := hrel
    have l1 := HI.out
    have l0 := HL.out
    by_cases hlt : i < L.length
    · obtain ⟨gb, o, rfl, hgb, k0, _⟩ := HCT.out.at (at_get zT hlt)
      have q := HQ.out
      rw [drop_cons hlt, posN] at q
      obtain ⟨y, hy⟩ : ∃ y, (Heap.at_ zT L i).n = y := ⟨_, rfl⟩
      rw [hy] at q k0
      clear hy
      by_cases hz : y = n
      · rw [if_pos hz] at q
        subst hz
        have hr := HR.out
        rw [← q] at hr
        simp only [Prod.mk.injEq] at hr
        obtain ⟨rfl, rfl⟩ := hr
        have HK := Aside0.mk hlt
        have hff : (y == y) = true := by simp
        have lj := List.length_take_of_le l1
        have ld : (L.drop (i + 1)).length = L.length - (i + 1) := List.length_drop
        have HLJ := Aside0.mk lj; have HLD := Aside0.mk ld
        have hjc : i ≤ c := by omega
        have hs1 : (0 : Int) ≤ (i : Int) + 1 := by omega
        have hs2 : (i : Int) + 1 ≤ (L.length : Int) := by omega
        have e5 : IntKind.i64.wrap ((i : Int) + 1) = (i : Int) + 1 := by rw [i64_w]; exact Base.w64 (by omega) (by omega)
        obtain ⟨ad, had⟩ : ∃ ad : Option Addr, (if c = i + 1 then some (⟨gb, o, none⟩ : Addr) else some ⟨gb, o + (i + 1) * 4, none⟩) = ad := ⟨_, rfl⟩
        have HDR := Aside0.mk (show Ct w w0.heap.size (.slice ad (L.length - (i + 1)) (c - (i + 1))) (L.drop (i + 1)) from had ▸ HCT.out.drop hlt)
        have HTK := Aside0.mk (HCT.out.take (i := i) l1)
        clear q HR lj ld
        go_upto_region 5 with (fail)
        have hcd : (World.drew w).cell? ⟨g, 2, none⟩ = some (.slice (some ⟨gb, o, none⟩) L.length c) := hc
        refine start_ (n := 19) (S := fun w' => w'.cell? ⟨g, 2, none⟩ = some (.slice (some ⟨gb, o, none⟩) L.length c)) (ds := [15, 18]) #[false, false, false, false, false, false, false, false, false, false, false, false, false, false, false, false, false, false, false] (by kernel_rfl) rfl rfl (hcd) (fun hHeld => ?_)
        refine pure_ (i := 0) (N := some 25) (v := ?_) (a' := ?_) #[true, false, false, false, false, false, false, false, false, false, false, false, false, false, false, false, false, false, false] rfl rfl (by kernel_rfl) (fun _ _ _ h => h) (Or.inl ⟨by rfl, ?_⟩) ?_ ?_
        rotate_left
        · intro w'
          go_simp
          with_reducible rfl
        rotate_left
        · simp only [Act.put, List.setIfInBounds_toArray, List.set_cons_zero, List.set_cons_succ, i64_w, i32_w]
          rfl
        refine pure_ (i := 1) (N := some 26) (v := ?_) (a' := ?_) #[true, true, false, false, false, false, false, false, false, false, false, false, false, false, false, false, false, false, false] rfl rfl (by kernel_rfl) (fun _ _ _ h => h) (Or.inl ⟨by rfl, ?_⟩) ?_ ?_
        rotate_left
        · intro w'
          go_simp
          with_reducible rfl
        rotate_left
        · simp only [Act.put, List.setIfInBounds_toArray, List.set_cons_zero, List.set_cons_succ, i64_w, i32_w]
          rfl
        refine pure_ (i := 2) (N := some 27) (v := ?_) (a' := ?_) #[true, true, true, false, false, false, false, false, false, false, false, false, false, false, false, false, false, false, false] rfl rfl (by kernel_rfl) (fun _ _ _ h => h) (Or.inl ⟨by rfl, ?_⟩) ?_ ?_
        rotate_left
        · intro w'
          go_simp
          with_reducible rfl
        rotate_left
        · simp only [Act.put, List.setIfInBounds_toArray, List.set_cons_zero, List.set_cons_succ, i64_w, i32_w]
          rfl
        refine pure_ (i := 3) (N := some 28) (v := ?_) (a' := ?_) #[true, true, true, true, false, false, false, false, false, false, false, false, false, false, false, false, false, false, false] rfl rfl (by kernel_rfl) (fun _ _ _ h => h) (Or.inl ⟨by rfl, ?_⟩) ?_ ?_
        rotate_left
        · intro w'
          go_simp
          with_reducible rfl
        rotate_left
        · simp only [Act.put, List.setIfInBounds_toArray, List.set_cons_zero, List.set_cons_succ, i64_w, i32_w]
          rfl
        refine pure_ (i := 5) (N := some 30) (v := ?_) (a' := ?_) #[true, true, true, true, false, true, false, false, false, false, false, false, false, false, false, false, false, false, false] rfl rfl (by kernel_rfl) (fun _ _ _ h => h) (Or.inl ⟨by rfl, ?_⟩) ?_ ?_
        rotate_left
        · intro w'
          go_simp
          with_reducible rfl
        rotate_left
        · simp only [Act.put, List.setIfInBounds_toArray, List.set_cons_zero, List.set_cons_succ, i64_w, i32_w]
          rfl
        refine pure_ (i := 8) (N := some 33) (v := ?_) (a' := ?_) #[true, true, true, true, false, true, false, false, true, false, false, false, false, false, false, false, false, false, false] rfl rfl (by kernel_rfl) (fun _ _ _ h => h) (Or.inl ⟨by rfl, ?_⟩) ?_ ?_
        rotate_left
        · intro w'
          go_simp
          with_reducible rfl
        rotate_left
        · simp only [Act.put, List.setIfInBounds_toArray, List.set_cons_zero, List.set_cons_succ, i64_w, i32_w]
          rfl
        refine pure_ (i := 9) (N := some 34) (v := ?_) (a' := ?_) #[true, true, true, true, false, true, false, false, true, true, false, false, false, false, false, false, false, false, false] rfl rfl (by kernel_rfl) (fun _ _ _ h => h) (Or.inl ⟨by rfl, ?_⟩) ?_ ?_
        rotate_left
        · intro w'
          go_simp
          with_reducible rfl
        rotate_left
        · simp only [Act.put, List.setIfInBounds_toArray, List.set_cons_zero, List.set_cons_succ, i64_w, i32_w]
          rfl
        refine pure_ (i := 10) (N := some 35) (v := ?_) (a' := ?_) #[true, true, true, true, false, true, false, false, true, true, true, false, false, false, false, false, false, false, false] rfl rfl (by kernel_rfl) (fun _ _ _ h => h) (Or.inl ⟨by rfl, ?_⟩) ?_ ?_
        rotate_left
        · intro w'
          go_simp
          with_reducible rfl
        rotate_left
        · simp only [Act.put, List.setIfInBounds_toArray, List.set_cons_zero, List.set_cons_succ, i64_w, i32_w]
          rfl
        refine pure_ (i := 12) (N := some 37) (v := ?_) (a' := ?_) #[true, true, true, true, false, true, false, false, true, true, true, false, true, false, false, false, false, false, false] rfl rfl (by kernel_rfl) (fun _ _ _ h => h) (Or.inl ⟨by rfl, ?_⟩) ?_ ?_
        rotate_left
        · intro w'
          go_simp
          with_reducible rfl
        rotate_left
        · simp only [Act.put, List.setIfInBounds_toArray, List.set_cons_zero, List.set_cons_succ, i64_w, i32_w]
          rfl
        refine pure_ (i := 13) (N := some 38) (v := ?_) (a' := ?_) #[true, true, true, true, false, true, false, false, true, true, true, false, true, true, false, false, false, false, false] rfl rfl (by kernel_rfl) (fun _ _ _ h => h) (Or.inl ⟨by rfl, ?_⟩) ?_ ?_
        rotate_left
        · intro w'
          go_simp
          with_reducible rfl
        rotate_left
        · simp only [Act.put, List.setIfInBounds_toArray, List.set_cons_zero, List.set_cons_succ, i64_w, i32_w]
          rfl
        refine take_ (i := 4) (N := some 29) (v := ?_) (a' := ?_) #[true, true, true, true, true, true, false, false, true, true, true, false, true, true, false, false, false, false, false] rfl rfl (by kernel_rfl) (fun _ _ _ h => h) (Or.inl ⟨by rfl, ?_⟩) hHeld ?_ ?_
        rotate_left
        · intro w' s0
          go_simp
          with_reducible rfl
        rotate_left
        · simp only [Act.put, List.setIfInBounds_toArray, List.set_cons_zero, List.set_cons_succ, i64_w, i32_w]
          rfl
        refine pure_ (i := 6) (N := some 31) (v := ?_) (a' := ?_) #[true, true, true, true, true, true, true, false, true, true, true, false, true, true, false, false, false, false, false] rfl rfl (by kernel_rfl) (fun _ _ _ h => h) (Or.inl ⟨by rfl, ?_⟩) ?_ ?_
        rotate_left
        · intro w'
          go_simp
          with_reducible rfl
        rotate_left
        · simp only [Act.put, List.setIfInBounds_toArray, List.set_cons_zero, List.set_cons_succ, i64_w, i32_w]
          rfl
        refine take_ (i := 11) (N := some 36) (v := ?_) (a' := ?_) #[true, true, true, true, true, true, true, false, true, true, true, true, true, true, false, false, false, false, false] rfl rfl (by kernel_rfl) (fun _ _ _ h => h) (Or.inl ⟨by rfl, ?_⟩) hHeld ?_ ?_
        rotate_left
        · intro w' s0
          go_simp
          with_reducible rfl
        rotate_left
        · simp only [Act.put, List.setIfInBounds_toArray, List.set_cons_zero, List.set_cons_succ, i64_w, i32_w]
          rfl
        refine pure_ (i := 14) (N := some 39) (v := ?_) (a' := ?_) #[true, true, true, true, true, true, true, false, true, true, true, true, true, true, true, false, false, false, false] rfl rfl (by kernel_rfl) (fun _ _ _ h => h) (Or.inl ⟨by rfl, ?_⟩) ?_ ?_
        rotate_left
        · intro w'
          go_simp
          with_reducible rfl
        rotate_left
        · simp only [Act.put, List.setIfInBounds_toArray, List.set_cons_zero, List.set_cons_succ, i64_w, i32_w]
          rfl
        refine one_ (i := 7) (N := some 32) #[true, true, true, true, true, true, true, true, true, true, true, true, true, true, true, false, false, false, false] rfl rfl (by kernel_rfl) (by decide) (fun K hK => ?_)
        obtain ⟨v1, w1, hr1, l1_, g1, o1⟩ := (HTK.out.drewN 1).cat_run (l := []) (World.drew w).heap.size (.slice none 0 0) (Ls.nil _ _ _ _) (Nat.le_refl _) (by rw [HLJ.out]; simp; omega) 43
        rw [List.nil_append] at l1_
        refine value_ (w1 := w1) (v := v1) (by rfl) rfl (append_exec' _ _ 43 rfl rfl rfl hr1) ?_
        have b1 := below_grown0 g1
        refine hK.out _ _ (pw_cell_below b1 hcd) (fun hHeld => ?_)
        clear hK K
        refine norm_ (a' := ?_) ?_ ?_
        rotate_left
        · show Act.put _ (some 32) _ = _
          simp only [Act.put, List.setIfInBounds_toArray, List.set_cons_zero, List.set_cons_succ, i64_w, i32_w]
          rfl
        refine last_ (i := 15) (N := some 40) #[true, true, true, true, true, true, true, true, true, true, true, true, true, true, true, true, false, false, false] rfl rfl (by kernel_rfl) (by decide) (fun K hK => ?_)
        obtain ⟨v2, w2, hr2, l2_, g2, o2⟩ := ((HDR.out.drewN 1).below b1).cat_run (World.drew w).heap.size v1 l1_ b1.size (by rw [HLJ.out, HLD.out]; omega) 43
        obtain ⟨A3, c3, e3, _, _⟩ := l2_.form
        subst e3
        refine value_ (w1 := w2) (by rfl) rfl (append_exec' _ _ 43 rfl rfl rfl hr2) ?_
        have b2 := below_grownN b1 g2 (o1.imp id fun e => ⟨_, e, Nat.le_refl _⟩)
        have c34 := pw_cell_below b2 hcd
        have f34 := ((HW.out.drewN 1).below b2).free 2
        refine hK.out _ _ ?_
        clear hK K
        refine norm_ (a' := ?_) ?_ ?_
        rotate_left
        · show Act.put _ (some 40) _ = _
          simp only [Act.put, List.setIfInBounds_toArray, List.set_cons_zero, List.set_cons_succ, i64_w, i32_w]
          rfl
        refine pure_ (i := 16) (N := some 41) (v := ?_) (a' := ?_) #[true, true, true, true, true, true, true, true, true, true, true, true, true, true, true, true, true, false, false] rfl rfl (by kernel_rfl) (fun _ _ _ h => h) (Or.inl ⟨by rfl, ?_⟩) ?_ ?_
        rotate_left
        · intro w'
          go_simp
          with_reducible rfl
        rotate_left
        · simp only [Act.put, List.setIfInBounds_toArray, List.set_cons_zero, List.set_cons_succ, i64_w, i32_w]
          rfl
        refine pure_ (i := 17) (N := some 42) (v := ?_) (a' := ?_) #[true, true, true, true, true, true, true, true, true, true, true, true, true, true, true, true, true, true, false] rfl rfl (by kernel_rfl) (fun _ _ _ h => h) (Or.inl ⟨by rfl, ?_⟩) ?_ ?_
        rotate_left
        · intro w'
          go_simp
          with_reducible rfl
        rotate_left
        · simp only [Act.put, List.setIfInBounds_toArray, List.set_cons_zero, List.set_cons_succ, i64_w, i32_w]
          rfl
        refine last_ (i := 18) (N := none) #[true, true, true, true, true, true, true, true, true, true, true, true, true, true, true, true, true, true, true] rfl rfl (by kernel_rfl) (by decide) (fun K hK => ?_)
        refine skip_ (w1 := ?_) (by rfl) rfl ?_ ?_
        rotate_left
        · go_simp
          rfl
        refine hK.out _ _ ?_
        clear hK K
        refine done_ (by kernel_rfl) ?_
        go_wp2_with fail
        go_ret
        have hz := (HW.out.drewN 1).put (pw_below_drewN HB.out 1) b2 l2_
        rw [show (L.take i ++ L.drop (i + 1)).length = i + (L.length - (i + 1)) by rw [List.length_append, HLJ.out, HLD.out]] at hz
        obtain ⟨v9, i9, b9, k9, o9⟩ := hz
        exact ⟨rfl, v9, i9, b9, k9, o9⟩
      · rw [if_neg hz] at q
        have e0 : (y == n) = false := by simpa using hz
        have HQ2 := Aside0.mk q
        clear q hz
        go_wp2_with fail
        go_round
        case rel => exact ⟨i + 1, by go_num, ⟨by omega⟩, HQ2⟩
        case measure => simp [intOf]; omega
    · have q := HQ.out
      rw [List.drop_eq_nil_of_le (by omega), posN] at q
      have hr := HR.out
      rw [← q] at hr
      simp only [Prod.mk.injEq] at hr
      obtain ⟨rfl, rfl⟩ := hr
      clear q HR
      go_wp2_with fail
      go_ret
      exact ⟨rfl, PostD.refl HW.out HB.out⟩
theorem posN_none {n : Int} : ∀ {l : List Tm} {i : Nat}, posN n l i = none → hasT l n = false
  | [], _, _ => rfl
  | x :: l, i, h => by
    unfold posN at h
    by_cases c : x.n = n
    · rw [if_pos c] at h; cases h
    · rw [if_neg c] at h
      have := posN_none h
      unfold hasT at this ⊢
      rw [List.any_cons, this]
      simpa using c
theorem posN_some {n : Int} : ∀ {l : List Tm} {i j : Nat}, posN n l i = some j → ∃ k x, j = i + k ∧ l[k]? = some x ∧ x.n = n
  | [], _, _, h => by cases h
  | x :: l, i, j, h => by
    unfold posN at h
    by_cases c : x.n = n
    · rw [if_pos c] at h
      cases h
      exact ⟨0, x, rfl, rfl, c⟩
    · rw [if_neg c] at h
      obtain ⟨k, y, e, hy, hn⟩ := posN_some h
      exact ⟨k + 1, y, by omega, by simpa using hy, hn⟩
/-- the one that is struck is the only one of its number -/
theorem strike_one {n : Int} {L : List Tm} {k : Nat} {x : Tm} (hx : L[k]? = some x) (hn : x.n = n) (hnd : L.Nodup) (hu : ∀ t ∈ L, ∀ u ∈ L, t.n = u.n → t = u) : L.filter (fun t => !(t.n == n)) = L.take k ++ L.drop (k + 1) := by
  obtain ⟨hk, e⟩ := List.getElem?_eq_some_iff.1 hx
  have h0 : L = L.take k ++ x :: L.drop (k + 1) := by
    have := (List.take_append_drop k L).symm
    rw [List.drop_eq_getElem_cons hk, e] at this
    exact this
  have hd := hnd
  rw [h0, List.nodup_append] at hd
  obtain ⟨_, hd2, hd3⟩ := hd
  rw [List.nodup_cons] at hd2
  have hm : x ∈ L := List.mem_of_getElem? hx
  have hne : ∀ t ∈ L, t ≠ x → (!(t.n == n)) = true := fun t ht hx' => by
    have : t.n ≠ n := fun e => hx' (hu t ht x hm (e.trans hn.symm))
    simpa using this
  have f1 : (L.take k).filter (fun t => !(t.n == n)) = L.take k := List.filter_eq_self.2 fun t ht => hne t (List.mem_of_mem_take ht) (fun e => hd3 t ht x List.mem_cons_self e)
  have f2 : (L.drop (k + 1)).filter (fun t => !(t.n == n)) = L.drop (k + 1) := List.filter_eq_self.2 fun t ht => hne t (List.mem_of_mem_drop ht) (fun e => hd2.1 (e ▸ ht))
  have e2 : L.filter (fun t => !(t.n == n)) = (L.take k ++ x :: L.drop (k + 1)).filter (fun t => !(t.n == n)) := by rw [← h0]
  rw [e2, List.filter_append, f1, List.filter_cons, if_neg (by simp [hn]), f2]
theorem dstop_c (w0 : World) (g : Nat) (v : Value) (T last : Int) (L : List Tm) (hl : L.length ≤ 1000) (hnd : L.Nodup) (hu : ∀ t ∈ L, ∀ u ∈ L, t.n = u.n → t = u) (n : Int) (r : Int) (L' : List Tm) (hL' : L.filter (fun t => !(t.n == n)) = L') (hr : (if hasT L n then 0 else 6) = r) (w : World) (h : IsD w0 w g v T last L) (hB : Below w0.heap.size w0 w) :
    Calls Try.prog 13 #[.pointer (some ⟨g, 0, none⟩), .int .i64 n] w fun e w' => e = .returned (.int .i64 r) ∧ PostD w0 w g v T last L' w' := by
  refine dstop_w w0 g v T last L hl n r L' ?_ w h hB
  cases hp : posN n L 0 with
  | none =>
    have e := posN_none hp
    rw [e] at hr
    subst hr
    have : L' = L := by
      rw [← hL', List.filter_eq_self]
      intro t ht
      have : t.n ≠ n := fun e' => by
        have := hasT_iff.2 ⟨t, ht, e'⟩
        rw [e] at this; cases this
      simpa using this
    rw [this]; rfl
  | some j =>
    obtain ⟨k, x, e, hx, hn⟩ := posN_some hp
    have ht : hasT L n = true := hasT_iff.2 ⟨x, List.mem_of_getElem? hx, hn⟩
    rw [ht] at hr
    subst hr
    obtain rfl : j = k := by omega
    rw [← hL', strike_one hx hn hnd hu]; rfl
/-! ### StopAll -/
theorem filt_succ (p : Tm → Bool) (l : List Tm) {i : Nat} (h : i < l.length) : (l.take (i + 1)).filter p = (l.take i).filter p ++ (if p (Heap.at_ zT l i) then [Heap.at_ zT l i] else []) := by
  obtain ⟨hi, e⟩ := List.getElem?_eq_some_iff.1 (at_get zT h)
  rw [List.take_succ_eq_append_getElem hi, List.filter_append, e]
  congr 1
  rw [List.filter_cons]
  split <;> rfl
set_option maxHeartbeats 8000000 in
theorem dstopall_c (w0 : World) (g : Nat) (v : Value) (T last : Int) (L : List Tm) (hl : L.length ≤ 1000) (lab : Int) (L' : List Tm) (hL' : L.filter (fun t => !(t.lab == lab)) = L') (r : Int) (hr : (L.length : Int) - (L'.length : Int) = r) (w : World) (h : IsD w0 w g v T last L) (hB : Below w0.heap.size w0 w) :
    Calls Try.prog 15 #[.pointer (some ⟨g, 0, none⟩), .int .u64 lab] w fun e w' => e = .returned (.int .i64 r) ∧ PostD w0 w g v T last L' w' := by
  have hc := h.c2
  have HW := Aside0.mk h; have HB := Aside0.mk hB; have HR := Aside0.mk hr; have HL := Aside0.mk hl
  obtain ⟨p, hp⟩ : ∃ p : Tm → Bool, (fun t => !(t.lab == lab)) = p := ⟨_, rfl⟩
  rw [hp] at hL'
  have HPP := Aside0.mk (show ∀ t, p t = (t.lab != lab) from fun t => by rw [← hp]; rfl)
  have HLP := Aside0.mk hL'
  obtain ⟨A, c, rfl, hac⟩ := h.ct.form
  have hu54 := Try.underlying54
  clear h hB hr hl hp hL'
  go_enter Try.func15, Try.ntmps15
  go_wp2_with fail
  go_loopw [5, 6] (fun vo vi wr => ∃ (i : Nat), vi = .int .i64 i ∧ Aside0 (i ≤ L.length) ∧ Aside0 (Ls encT 54 wr w.heap.size vo ((L.take i).filter p)) ∧ Aside0 (Below w.heap.size w wr)) (fun _ vi _ => (L.length - intOf vi).toNat)
  case atStart => exact ⟨0, rfl, ⟨Nat.zero_le _⟩, ⟨Ls.nil _ _ _ _⟩, ⟨Below.refl _ _⟩⟩
  case round =>
    obtain ⟨i, rfl, HI, HLS, HBW⟩ := hrel
    obtain ⟨A2, c2, rfl, _, _⟩ := HLS.out.form
    have l1 := HI.out
    have l0 := HL.out
    have hcw := (HW.out.below HBW.out).c2
    have hfw := (HW.out.below HBW.out).free 2
    by_cases hlt : i < L.length
    · obtain ⟨gb, o, rfl, hgb, k0, k1, k2, k3⟩ := (HW.out.below HBW.out).ct.at (at_get zT hlt)
      obtain ⟨y, hy⟩ : ∃ y, Heap.at_ zT L i = y := ⟨_, rfl⟩
      rw [hy] at k0 k1 k2 k3
      have HS := Aside0.mk (filt_succ p L hlt)
      rw [hy, HPP.out] at HS
      have HLB := Aside0.mk (show ((L.take i).filter p).length ≤ 1000 by have a := List.length_filter_le p (L.take i); rw [List.length_take] at a; omega)
      clear hy hc
      by_cases hk : y.lab = lab
      · have d1 : (y.lab != lab) = false := by simpa using hk
        rw [d1] at HS
        clear hk
        go_wp2_with fail
        go_roundw
        case rel => exact ⟨i + 1, by go_num, ⟨by omega⟩, ⟨by rw [HS.out]; simpa using HLS.out⟩, ⟨HBW.out⟩⟩
        case measure => simp [intOf]; omega
      · have d1 : (y.lab != lab) = true := by simpa using hk
        rw [d1, if_pos rfl] at HS
        clear hk
        go_wp2_with (first | (at_builtin; refine wpList_push rfl _ _ 43 54 _ 32 rfl Try.underlying43 info54 rfl w.heap.size _ _ y rfl _ rfl (by simp) HLS.out HBW.out.size (by have := HLB.out; omega) (by decide) _ rfl ?_; intro v1 w1 h1 h2 h3; have HP1 := Aside0.mk h1; have HP2 := Aside0.mk h2; clear h1 h2 h3) | go_in)
        go_roundw
        case rel => exact ⟨i + 1, by go_num, ⟨by omega⟩, ⟨by rw [HS.out]; exact HP1.out⟩, ⟨pw_below_grown HBW.out _ HBW.out.size HP2.out (fun k hk => (HLS.out.own k hk).1)⟩⟩
        case measure => simp [intOf]; omega
    · obtain rfl : i = L.length := by omega
      have hls := HLS.out
      rw [List.take_length, HLP.out] at hls
      have HLZ := Aside0.mk hls
      have e9 : wrap64 ((L.length : Int) - (L'.length : Int)) = r := by
        rw [HR.out]
        have a := List.length_filter_le p L
        rw [HLP.out] at a
        have := HR.out
        exact Base.w64 (by omega) (by omega)
      have e8 : ((L.take L.length).filter p).length = L'.length := by rw [List.take_length, HLP.out]
      clear hls
      go_wp2_with fail
      go_ret
      rw [HLP.out]
      have hz := HW.out.put HB.out HBW.out HLZ.out
      try rw [e8] at hz
      exact ⟨by rw [← e9]; rfl, hz⟩
/-! ### Due -/
theorem bef_len_succ {L : List Tm} {a : Int} {i : Nat} {x : Tm} (hx : L[i]? = some x) (h : x.att ≤ a) (hb : i ≤ (befV L a).length) : i + 1 ≤ (befV L a).length := by
  rcases Nat.lt_or_ge i (befV L a).length with c | c
  · exact c
  · exfalso
    have e : i = (befV L a).length := by omega
    have h0 := bef_aft L a
    rw [← h0, List.getElem?_append_right (by omega), e, Nat.sub_self] at hx
    have := List.head?_dropWhile_not (fun t : Tm => decide (t.att ≤ a)) L
    rw [show List.dropWhile (fun t : Tm => decide (t.att ≤ a)) L = aftV L a from rfl, List.head?_eq_getElem?, hx] at this
    simp at this
    omega
theorem bef_len_stop {L : List Tm} {a : Int} {i : Nat} {x : Tm} (hx : L[i]? = some x) (h : ¬ x.att ≤ a) : (befV L a).length ≤ i := by
  rcases Nat.lt_or_ge i (befV L a).length with c | c
  · exfalso
    have h0 := bef_aft L a
    rw [← h0, List.getElem?_append_left c] at hx
    exact h (bef_le (List.mem_of_getElem? hx))
  · exact c
theorem bef_take (L : List Tm) (a : Int) : L.take (befV L a).length = befV L a ∧ L.drop (befV L a).length = aftV L a := by
  have h := bef_aft L a
  constructor
  · conv => lhs; arg 2; rw [← h]
    rw [List.take_left]
  · conv => lhs; arg 2; rw [← h]
    rw [List.drop_left]
set_option maxHeartbeats 16000000 in
theorem ddue_c (w0 : World) (g : Nat) (v : Value) (T last : Int) (L : List Tm) (hl : L.length ≤ 1000) (now T' : Int) (hT : laterT T now = T') (w : World) (h : IsD w0 w g v T last L) (hB : Below w0.heap.size w0 w) :
    Calls Try.prog 17 #[.pointer (some ⟨g, 0, none⟩), .int .i64 now] w fun e w' => ∃ u, e = .returned u ∧ Ls encT 54 w' w.heap.size u (befV L T') ∧ PostD w0 w g v T' last (aftV L T') w' := by
  have HLT := Aside0.mk (dlater_c w0 g v T last L now T' hT w h hB)
  have HL := Aside0.mk hl
  obtain ⟨A, c, rfl, hac⟩ := h.ct.form
  clear hl hT h hB
  go_enter Try.func17, Try.ntmps17
  go_wp2_with (go_at_call 25; (with_reducible refine HLT.out.mono ?_); rintro e w9 ⟨rfl, hi, hb, hk⟩; have HW := Aside0.mk hi; have HB := Aside0.mk hb; have HK := Aside0.mk hk; clear hi hb hk)
  go_loopw [5] (fun vi wr => ∃ (i n : Nat), vi = .int .i64 i ∧ Aside0 (i ≤ L.length) ∧ Aside0 (i ≤ (befV L T').length) ∧ Aside0 (World.drewN w9 n = wr)) (fun vi _ => (L.length - intOf vi).toNat)
  case atStart => exact ⟨0, 0, rfl, ⟨Nat.zero_le _⟩, ⟨Nat.zero_le _⟩, ⟨rfl⟩⟩
  case round =>
    obtain ⟨i, n, rfl, HI, HBI, HWR⟩ := hrel
    obtain rfl := HWR.out
    have l1 := HI.out
    have l0 := HL.out
    have HWN := Aside0.mk (HW.out.drewN n)
    have HBN := Aside0.mk (pw_below_drewN HB.out n)
    generalize hwn : World.drewN w9 n = wn at HWN HBN ⊢
    have HWNE := Aside0.mk hwn
    clear hwn
    have hc2 := (HWN.out.drewN 1).c2; have hc0 := (HWN.out.drewN 1).c0
    by_cases hlt : i < L.length
    · obtain ⟨gb, o, hA, hgb, k0, k1, k2, k3⟩ := (HWN.out.drewN 1).ct.at (at_get zT hlt)
      subst hA
      obtain ⟨y, hy⟩ : ∃ y, Heap.at_ zT L i = y := ⟨_, rfl⟩
      have HY := Aside0.mk (show L[i]? = some y from hy ▸ at_get zT hlt)
      rw [hy] at k0 k1 k2 k3
      clear hy k0 k1 k2
      have d0 : decide ((i : Int) < (L.length : Int)) = true := decide_eq_true (by omega)
      by_cases hk : y.att ≤ T'
      · have d1 : decide (y.att ≤ T') = true := decide_eq_true hk
        have HB2 := Aside0.mk (bef_len_succ HY.out hk HBI.out)
        clear hk
        go_upto_region 3 with (fail)
        refine start_ (n := 22) (S := fun w' => w'.cell? ⟨g, 2, none⟩ = some (.slice (some ⟨gb, o, none⟩) L.length c) ∧ w'.cell? ⟨gb, o + i * 4 + 3, none⟩ = some (.int .i64 y.att) ∧ w'.cell? ⟨g, 0, none⟩ = some (.int .i64 T')) (ds := []) #[false, false, false, false, false, false, false, false, false, false, false, false, false, false, false, false, false, false, false, false, false, false] (by kernel_rfl) rfl rfl ⟨hc2, k3, hc0⟩ (fun hHeld => ?_)
        refine pure_ (i := 0) (N := some 10) (v := ?_) (a' := ?_) #[true, false, false, false, false, false, false, false, false, false, false, false, false, false, false, false, false, false, false, false, false, false] rfl rfl (by kernel_rfl) (fun _ _ _ h => h) (Or.inl ⟨by rfl, ?_⟩) ?_ ?_
        rotate_left
        · intro w'
          go_simp
          with_reducible rfl
        rotate_left
        · simp only [Act.put, List.setIfInBounds_toArray, List.set_cons_zero, List.set_cons_succ, i64_w, i32_w]
          rfl
        refine pure_ (i := 1) (N := some 11) (v := ?_) (a' := ?_) #[true, true, false, false, false, false, false, false, false, false, false, false, false, false, false, false, false, false, false, false, false, false] rfl rfl (by kernel_rfl) (fun _ _ _ h => h) (Or.inl ⟨by rfl, ?_⟩) ?_ ?_
        rotate_left
        · intro w'
          go_simp
          with_reducible rfl
        rotate_left
        · simp only [Act.put, List.setIfInBounds_toArray, List.set_cons_zero, List.set_cons_succ, i64_w, i32_w]
          rfl
        refine pure_ (i := 2) (N := some 12) (v := ?_) (a' := ?_) #[true, true, true, false, false, false, false, false, false, false, false, false, false, false, false, false, false, false, false, false, false, false] rfl rfl (by kernel_rfl) (fun _ _ _ h => h) (Or.inl ⟨by rfl, ?_⟩) ?_ ?_
        rotate_left
        · intro w'
          go_simp
          with_reducible rfl
        rotate_left
        · simp only [Act.put, List.setIfInBounds_toArray, List.set_cons_zero, List.set_cons_succ, i64_w, i32_w]
          rfl
        refine pure_ (i := 3) (N := some 13) (v := ?_) (a' := ?_) #[true, true, true, true, false, false, false, false, false, false, false, false, false, false, false, false, false, false, false, false, false, false] rfl rfl (by kernel_rfl) (fun _ _ _ h => h) (Or.inl ⟨by rfl, ?_⟩) ?_ ?_
        rotate_left
        · intro w'
          go_simp
          with_reducible rfl
        rotate_left
        · simp only [Act.put, List.setIfInBounds_toArray, List.set_cons_zero, List.set_cons_succ, i64_w, i32_w]
          rfl
        refine take_ (i := 4) (N := some 14) (v := ?_) (a' := ?_) #[true, true, true, true, true, false, false, false, false, false, false, false, false, false, false, false, false, false, false, false, false, false] rfl rfl (by kernel_rfl) (fun _ _ _ h => h) (Or.inl ⟨by rfl, ?_⟩) hHeld ?_ ?_
        rotate_left
        · rintro w' ⟨s0, s1, s2⟩
          go_simp
          with_reducible rfl
        rotate_left
        · simp only [Act.put, List.setIfInBounds_toArray, List.set_cons_zero, List.set_cons_succ, i64_w, i32_w]
          rfl
        refine pure_ (i := 5) (N := some 15) (v := ?_) (a' := ?_) #[true, true, true, true, true, true, false, false, false, false, false, false, false, false, false, false, false, false, false, false, false, false] rfl rfl (by kernel_rfl) (fun _ _ _ h => h) (Or.inl ⟨by rfl, ?_⟩) ?_ ?_
        rotate_left
        · intro w'
          go_simp
          with_reducible rfl
        rotate_left
        · simp only [Act.put, List.setIfInBounds_toArray, List.set_cons_zero, List.set_cons_succ, i64_w, i32_w]
          rfl
        refine pure_ (i := 6) (N := some 16) (v := ?_) (a' := ?_) #[true, true, true, true, true, true, true, false, false, false, false, false, false, false, false, false, false, false, false, false, false, false] rfl rfl (by kernel_rfl) (fun _ _ _ h => h) (Or.inl ⟨by rfl, ?_⟩) ?_ ?_
        rotate_left
        · intro w'
          go_simp
          with_reducible rfl
        rotate_left
        · simp only [Act.put, List.setIfInBounds_toArray, List.set_cons_zero, List.set_cons_succ, i64_w, i32_w]
          rfl
        refine pure_ (i := 7) (N := some 17) (v := ?_) (a' := ?_) #[true, true, true, true, true, true, true, true, false, false, false, false, false, false, false, false, false, false, false, false, false, false] rfl rfl (by kernel_rfl) (fun _ _ _ h => h) (Or.inl ⟨by rfl, ?_⟩) ?_ ?_
        rotate_left
        · intro w'
          go_simp
          with_reducible rfl
        rotate_left
        · simp only [Act.put, List.setIfInBounds_toArray, List.set_cons_zero, List.set_cons_succ, i64_w, i32_w]
          rfl
        refine pure_ (i := 8) (N := some 18) (v := ?_) (a' := ?_) #[true, true, true, true, true, true, true, true, true, false, false, false, false, false, false, false, false, false, false, false, false, false] rfl rfl (by kernel_rfl) (fun _ _ _ h => h) (Or.inl ⟨by rfl, ?_⟩) ?_ ?_
        rotate_left
        · intro w'
          go_simp
          with_reducible rfl
        rotate_left
        · simp only [Act.put, List.setIfInBounds_toArray, List.set_cons_zero, List.set_cons_succ, i64_w, i32_w]
          rfl
        refine pure_ (i := 9) (N := some 19) (v := ?_) (a' := ?_) #[true, true, true, true, true, true, true, true, true, true, false, false, false, false, false, false, false, false, false, false, false, false] rfl rfl (by kernel_rfl) (fun _ _ _ h => h) (Or.inl ⟨by rfl, ?_⟩) ?_ ?_
        rotate_left
        · intro w'
          go_simp
          with_reducible rfl
        rotate_left
        · simp only [Act.put, List.setIfInBounds_toArray, List.set_cons_zero, List.set_cons_succ, i64_w, i32_w]
          rfl
        refine pure_ (i := 10) (N := some 20) (v := ?_) (a' := ?_) #[true, true, true, true, true, true, true, true, true, true, true, false, false, false, false, false, false, false, false, false, false, false] rfl rfl (by kernel_rfl) (fun _ _ _ h => h) (Or.inl ⟨by rfl, ?_⟩) ?_ ?_
        rotate_left
        · intro w'
          go_simp
          with_reducible rfl
        rotate_left
        · simp only [Act.put, List.setIfInBounds_toArray, List.set_cons_zero, List.set_cons_succ, i64_w, i32_w]
          rfl
        refine pure_ (i := 12) (N := some 22) (v := ?_) (a' := ?_) #[true, true, true, true, true, true, true, true, true, true, true, false, true, false, false, false, false, false, false, false, false, false] rfl rfl (by kernel_rfl) (fun _ _ _ h => h) (Or.inl ⟨by rfl, ?_⟩) ?_ ?_
        rotate_left
        · intro w'
          go_simp
          with_reducible rfl
        rotate_left
        · simp only [Act.put, List.setIfInBounds_toArray, List.set_cons_zero, List.set_cons_succ, i64_w, i32_w]
          rfl
        refine pure_ (i := 16) (N := some 26) (v := ?_) (a' := ?_) #[true, true, true, true, true, true, true, true, true, true, true, false, true, false, false, false, true, false, false, false, false, false] rfl rfl (by kernel_rfl) (fun _ _ _ h => h) (Or.inl ⟨by rfl, ?_⟩) ?_ ?_
        rotate_left
        · intro w'
          go_simp
          with_reducible rfl
        rotate_left
        · simp only [Act.put, List.setIfInBounds_toArray, List.set_cons_zero, List.set_cons_succ, i64_w, i32_w]
          rfl
        refine pure_ (i := 17) (N := some 27) (v := ?_) (a' := ?_) #[true, true, true, true, true, true, true, true, true, true, true, false, true, false, false, false, true, true, false, false, false, false] rfl rfl (by kernel_rfl) (fun _ _ _ h => h) (Or.inl ⟨by rfl, ?_⟩) ?_ ?_
        rotate_left
        · intro w'
          go_simp
          with_reducible rfl
        rotate_left
        · simp only [Act.put, List.setIfInBounds_toArray, List.set_cons_zero, List.set_cons_succ, i64_w, i32_w]
          rfl
        refine pure_ (i := 18) (N := some 28) (v := ?_) (a' := ?_) #[true, true, true, true, true, true, true, true, true, true, true, false, true, false, false, false, true, true, true, false, false, false] rfl rfl (by kernel_rfl) (fun _ _ _ h => h) (Or.inl ⟨by rfl, ?_⟩) ?_ ?_
        rotate_left
        · intro w'
          go_simp
          with_reducible rfl
        rotate_left
        · simp only [Act.put, List.setIfInBounds_toArray, List.set_cons_zero, List.set_cons_succ, i64_w, i32_w]
          rfl
        refine take_ (i := 11) (N := some 21) (v := ?_) (a' := ?_) #[true, true, true, true, true, true, true, true, true, true, true, true, true, false, false, false, true, true, true, false, false, false] rfl rfl (by kernel_rfl) (fun _ _ _ h => h) (Or.inl ⟨by rfl, ?_⟩) hHeld ?_ ?_
        rotate_left
        · rintro w' ⟨s0, s1, s2⟩
          go_simp
          with_reducible rfl
        rotate_left
        · simp only [Act.put, List.setIfInBounds_toArray, List.set_cons_zero, List.set_cons_succ, i64_w, i32_w]
          rfl
        refine pure_ (i := 13) (N := some 23) (v := ?_) (a' := ?_) #[true, true, true, true, true, true, true, true, true, true, true, true, true, true, false, false, true, true, true, false, false, false] rfl rfl (by kernel_rfl) (fun _ _ _ h => h) (Or.inl ⟨by rfl, ?_⟩) ?_ ?_
        rotate_left
        · intro w'
          go_simp
          with_reducible rfl
        rotate_left
        · simp only [Act.put, List.setIfInBounds_toArray, List.set_cons_zero, List.set_cons_succ, i64_w, i32_w]
          rfl
        refine pure_ (i := 14) (N := some 24) (v := ?_) (a' := ?_) #[true, true, true, true, true, true, true, true, true, true, true, true, true, true, true, false, true, true, true, false, false, false] rfl rfl (by kernel_rfl) (fun _ _ _ h => h) (Or.inl ⟨by rfl, ?_⟩) ?_ ?_
        rotate_left
        · intro w'
          go_simp
          with_reducible rfl
        rotate_left
        · simp only [Act.put, List.setIfInBounds_toArray, List.set_cons_zero, List.set_cons_succ, i64_w, i32_w]
          rfl
        refine take_ (i := 15) (N := some 25) (v := ?_) (a' := ?_) #[true, true, true, true, true, true, true, true, true, true, true, true, true, true, true, true, true, true, true, false, false, false] rfl rfl (by kernel_rfl) (fun _ _ _ h => h) (Or.inl ⟨by rfl, ?_⟩) hHeld ?_ ?_
        rotate_left
        · rintro w' ⟨s0, s1, s2⟩
          go_simp
          with_reducible rfl
        rotate_left
        · simp only [Act.put, List.setIfInBounds_toArray, List.set_cons_zero, List.set_cons_succ, i64_w, i32_w]
          rfl
        refine take_ (i := 19) (N := some 29) (v := ?_) (a' := ?_) #[true, true, true, true, true, true, true, true, true, true, true, true, true, true, true, true, true, true, true, true, false, false] rfl rfl (by kernel_rfl) (fun _ _ _ h => h) (Or.inl ⟨by rfl, ?_⟩) hHeld ?_ ?_
        rotate_left
        · rintro w' ⟨s0, s1, s2⟩
          go_simp
          with_reducible rfl
        rotate_left
        · simp only [Act.put, List.setIfInBounds_toArray, List.set_cons_zero, List.set_cons_succ, i64_w, i32_w]
          rfl
        refine pure_ (i := 20) (N := some 30) (v := ?_) (a' := ?_) #[true, true, true, true, true, true, true, true, true, true, true, true, true, true, true, true, true, true, true, true, true, false] rfl rfl (by kernel_rfl) (fun _ _ _ h => h) (Or.inl ⟨by rfl, ?_⟩) ?_ ?_
        rotate_left
        · intro w'
          go_simp
          with_reducible rfl
        rotate_left
        · simp only [Act.put, List.setIfInBounds_toArray, List.set_cons_zero, List.set_cons_succ, i64_w, i32_w]
          rfl
        refine pure_ (i := 21) (N := some 31) (v := ?_) (a' := ?_) #[true, true, true, true, true, true, true, true, true, true, true, true, true, true, true, true, true, true, true, true, true, true] rfl rfl (by kernel_rfl) (fun _ _ _ h => h) (Or.inl ⟨by rfl, ?_⟩) ?_ ?_
        rotate_left
        · intro w'
          go_simp
          with_reducible rfl
        rotate_left
        · simp only [Act.put, List.setIfInBounds_toArray, List.set_cons_zero, List.set_cons_succ, i64_w, i32_w]
          rfl
        refine done_ (by kernel_rfl) ?_
        go_wp2_with fail
        go_roundw
        case rel => exact ⟨i + 1, n + 1, by go_num, ⟨by omega⟩, HB2, ⟨by rw [← HWNE.out]; rfl⟩⟩
        case measure => simp [intOf]; omega
      · have d1 : decide (y.att ≤ T') = false := decide_eq_false hk
        have HB2 := Aside0.mk (show i = (befV L T').length by have := bef_len_stop HY.out hk; have := HBI.out; omega)
        clear hk
        go_upto_region 3 with (fail)
        refine start_ (n := 22) (S := fun w' => w'.cell? ⟨g, 2, none⟩ = some (.slice (some ⟨gb, o, none⟩) L.length c) ∧ w'.cell? ⟨gb, o + i * 4 + 3, none⟩ = some (.int .i64 y.att) ∧ w'.cell? ⟨g, 0, none⟩ = some (.int .i64 T')) (ds := []) #[false, false, false, false, false, false, false, false, false, false, false, false, false, false, false, false, false, false, false, false, false, false] (by kernel_rfl) rfl rfl ⟨hc2, k3, hc0⟩ (fun hHeld => ?_)
        refine pure_ (i := 0) (N := some 10) (v := ?_) (a' := ?_) #[true, false, false, false, false, false, false, false, false, false, false, false, false, false, false, false, false, false, false, false, false, false] rfl rfl (by kernel_rfl) (fun _ _ _ h => h) (Or.inl ⟨by rfl, ?_⟩) ?_ ?_
        rotate_left
        · intro w'
          go_simp
          with_reducible rfl
        rotate_left
        · simp only [Act.put, List.setIfInBounds_toArray, List.set_cons_zero, List.set_cons_succ, i64_w, i32_w]
          rfl
        refine pure_ (i := 1) (N := some 11) (v := ?_) (a' := ?_) #[true, true, false, false, false, false, false, false, false, false, false, false, false, false, false, false, false, false, false, false, false, false] rfl rfl (by kernel_rfl) (fun _ _ _ h => h) (Or.inl ⟨by rfl, ?_⟩) ?_ ?_
        rotate_left
        · intro w'
          go_simp
          with_reducible rfl
        rotate_left
        · simp only [Act.put, List.setIfInBounds_toArray, List.set_cons_zero, List.set_cons_succ, i64_w, i32_w]
          rfl
        refine pure_ (i := 2) (N := some 12) (v := ?_) (a' := ?_) #[true, true, true, false, false, false, false, false, false, false, false, false, false, false, false, false, false, false, false, false, false, false] rfl rfl (by kernel_rfl) (fun _ _ _ h => h) (Or.inl ⟨by rfl, ?_⟩) ?_ ?_
        rotate_left
        · intro w'
          go_simp
          with_reducible rfl
        rotate_left
        · simp only [Act.put, List.setIfInBounds_toArray, List.set_cons_zero, List.set_cons_succ, i64_w, i32_w]
          rfl
        refine pure_ (i := 3) (N := some 13) (v := ?_) (a' := ?_) #[true, true, true, true, false, false, false, false, false, false, false, false, false, false, false, false, false, false, false, false, false, false] rfl rfl (by kernel_rfl) (fun _ _ _ h => h) (Or.inl ⟨by rfl, ?_⟩) ?_ ?_
        rotate_left
        · intro w'
          go_simp
          with_reducible rfl
        rotate_left
        · simp only [Act.put, List.setIfInBounds_toArray, List.set_cons_zero, List.set_cons_succ, i64_w, i32_w]
          rfl
        refine take_ (i := 4) (N := some 14) (v := ?_) (a' := ?_) #[true, true, true, true, true, false, false, false, false, false, false, false, false, false, false, false, false, false, false, false, false, false] rfl rfl (by kernel_rfl) (fun _ _ _ h => h) (Or.inl ⟨by rfl, ?_⟩) hHeld ?_ ?_
        rotate_left
        · rintro w' ⟨s0, s1, s2⟩
          go_simp
          with_reducible rfl
        rotate_left
        · simp only [Act.put, List.setIfInBounds_toArray, List.set_cons_zero, List.set_cons_succ, i64_w, i32_w]
          rfl
        refine pure_ (i := 5) (N := some 15) (v := ?_) (a' := ?_) #[true, true, true, true, true, true, false, false, false, false, false, false, false, false, false, false, false, false, false, false, false, false] rfl rfl (by kernel_rfl) (fun _ _ _ h => h) (Or.inl ⟨by rfl, ?_⟩) ?_ ?_
        rotate_left
        · intro w'
          go_simp
          with_reducible rfl
        rotate_left
        · simp only [Act.put, List.setIfInBounds_toArray, List.set_cons_zero, List.set_cons_succ, i64_w, i32_w]
          rfl
        refine pure_ (i := 6) (N := some 16) (v := ?_) (a' := ?_) #[true, true, true, true, true, true, true, false, false, false, false, false, false, false, false, false, false, false, false, false, false, false] rfl rfl (by kernel_rfl) (fun _ _ _ h => h) (Or.inl ⟨by rfl, ?_⟩) ?_ ?_
        rotate_left
        · intro w'
          go_simp
          with_reducible rfl
        rotate_left
        · simp only [Act.put, List.setIfInBounds_toArray, List.set_cons_zero, List.set_cons_succ, i64_w, i32_w]
          rfl
        refine pure_ (i := 7) (N := some 17) (v := ?_) (a' := ?_) #[true, true, true, true, true, true, true, true, false, false, false, false, false, false, false, false, false, false, false, false, false, false] rfl rfl (by kernel_rfl) (fun _ _ _ h => h) (Or.inl ⟨by rfl, ?_⟩) ?_ ?_
        rotate_left
        · intro w'
          go_simp
          with_reducible rfl
        rotate_left
        · simp only [Act.put, List.setIfInBounds_toArray, List.set_cons_zero, List.set_cons_succ, i64_w, i32_w]
          rfl
        refine pure_ (i := 8) (N := some 18) (v := ?_) (a' := ?_) #[true, true, true, true, true, true, true, true, true, false, false, false, false, false, false, false, false, false, false, false, false, false] rfl rfl (by kernel_rfl) (fun _ _ _ h => h) (Or.inl ⟨by rfl, ?_⟩) ?_ ?_
        rotate_left
        · intro w'
          go_simp
          with_reducible rfl
        rotate_left
        · simp only [Act.put, List.setIfInBounds_toArray, List.set_cons_zero, List.set_cons_succ, i64_w, i32_w]
          rfl
        refine pure_ (i := 9) (N := some 19) (v := ?_) (a' := ?_) #[true, true, true, true, true, true, true, true, true, true, false, false, false, false, false, false, false, false, false, false, false, false] rfl rfl (by kernel_rfl) (fun _ _ _ h => h) (Or.inl ⟨by rfl, ?_⟩) ?_ ?_
        rotate_left
        · intro w'
          go_simp
          with_reducible rfl
        rotate_left
        · simp only [Act.put, List.setIfInBounds_toArray, List.set_cons_zero, List.set_cons_succ, i64_w, i32_w]
          rfl
        refine pure_ (i := 10) (N := some 20) (v := ?_) (a' := ?_) #[true, true, true, true, true, true, true, true, true, true, true, false, false, false, false, false, false, false, false, false, false, false] rfl rfl (by kernel_rfl) (fun _ _ _ h => h) (Or.inl ⟨by rfl, ?_⟩) ?_ ?_
        rotate_left
        · intro w'
          go_simp
          with_reducible rfl
        rotate_left
        · simp only [Act.put, List.setIfInBounds_toArray, List.set_cons_zero, List.set_cons_succ, i64_w, i32_w]
          rfl
        refine pure_ (i := 12) (N := some 22) (v := ?_) (a' := ?_) #[true, true, true, true, true, true, true, true, true, true, true, false, true, false, false, false, false, false, false, false, false, false] rfl rfl (by kernel_rfl) (fun _ _ _ h => h) (Or.inl ⟨by rfl, ?_⟩) ?_ ?_
        rotate_left
        · intro w'
          go_simp
          with_reducible rfl
        rotate_left
        · simp only [Act.put, List.setIfInBounds_toArray, List.set_cons_zero, List.set_cons_succ, i64_w, i32_w]
          rfl
        refine pure_ (i := 16) (N := some 26) (v := ?_) (a' := ?_) #[true, true, true, true, true, true, true, true, true, true, true, false, true, false, false, false, true, false, false, false, false, false] rfl rfl (by kernel_rfl) (fun _ _ _ h => h) (Or.inl ⟨by rfl, ?_⟩) ?_ ?_
        rotate_left
        · intro w'
          go_simp
          with_reducible rfl
        rotate_left
        · simp only [Act.put, List.setIfInBounds_toArray, List.set_cons_zero, List.set_cons_succ, i64_w, i32_w]
          rfl
        refine pure_ (i := 17) (N := some 27) (v := ?_) (a' := ?_) #[true, true, true, true, true, true, true, true, true, true, true, false, true, false, false, false, true, true, false, false, false, false] rfl rfl (by kernel_rfl) (fun _ _ _ h => h) (Or.inl ⟨by rfl, ?_⟩) ?_ ?_
        rotate_left
        · intro w'
          go_simp
          with_reducible rfl
        rotate_left
        · simp only [Act.put, List.setIfInBounds_toArray, List.set_cons_zero, List.set_cons_succ, i64_w, i32_w]
          rfl
        refine pure_ (i := 18) (N := some 28) (v := ?_) (a' := ?_) #[true, true, true, true, true, true, true, true, true, true, true, false, true, false, false, false, true, true, true, false, false, false] rfl rfl (by kernel_rfl) (fun _ _ _ h => h) (Or.inl ⟨by rfl, ?_⟩) ?_ ?_
        rotate_left
        · intro w'
          go_simp
          with_reducible rfl
        rotate_left
        · simp only [Act.put, List.setIfInBounds_toArray, List.set_cons_zero, List.set_cons_succ, i64_w, i32_w]
          rfl
        refine take_ (i := 11) (N := some 21) (v := ?_) (a' := ?_) #[true, true, true, true, true, true, true, true, true, true, true, true, true, false, false, false, true, true, true, false, false, false] rfl rfl (by kernel_rfl) (fun _ _ _ h => h) (Or.inl ⟨by rfl, ?_⟩) hHeld ?_ ?_
        rotate_left
        · rintro w' ⟨s0, s1, s2⟩
          go_simp
          with_reducible rfl
        rotate_left
        · simp only [Act.put, List.setIfInBounds_toArray, List.set_cons_zero, List.set_cons_succ, i64_w, i32_w]
          rfl
        refine pure_ (i := 13) (N := some 23) (v := ?_) (a' := ?_) #[true, true, true, true, true, true, true, true, true, true, true, true, true, true, false, false, true, true, true, false, false, false] rfl rfl (by kernel_rfl) (fun _ _ _ h => h) (Or.inl ⟨by rfl, ?_⟩) ?_ ?_
        rotate_left
        · intro w'
          go_simp
          with_reducible rfl
        rotate_left
        · simp only [Act.put, List.setIfInBounds_toArray, List.set_cons_zero, List.set_cons_succ, i64_w, i32_w]
          rfl
        refine pure_ (i := 14) (N := some 24) (v := ?_) (a' := ?_) #[true, true, true, true, true, true, true, true, true, true, true, true, true, true, true, false, true, true, true, false, false, false] rfl rfl (by kernel_rfl) (fun _ _ _ h => h) (Or.inl ⟨by rfl, ?_⟩) ?_ ?_
        rotate_left
        · intro w'
          go_simp
          with_reducible rfl
        rotate_left
        · simp only [Act.put, List.setIfInBounds_toArray, List.set_cons_zero, List.set_cons_succ, i64_w, i32_w]
          rfl
        refine take_ (i := 15) (N := some 25) (v := ?_) (a' := ?_) #[true, true, true, true, true, true, true, true, true, true, true, true, true, true, true, true, true, true, true, false, false, false] rfl rfl (by kernel_rfl) (fun _ _ _ h => h) (Or.inl ⟨by rfl, ?_⟩) hHeld ?_ ?_
        rotate_left
        · rintro w' ⟨s0, s1, s2⟩
          go_simp
          with_reducible rfl
        rotate_left
        · simp only [Act.put, List.setIfInBounds_toArray, List.set_cons_zero, List.set_cons_succ, i64_w, i32_w]
          rfl
        refine take_ (i := 19) (N := some 29) (v := ?_) (a' := ?_) #[true, true, true, true, true, true, true, true, true, true, true, true, true, true, true, true, true, true, true, true, false, false] rfl rfl (by kernel_rfl) (fun _ _ _ h => h) (Or.inl ⟨by rfl, ?_⟩) hHeld ?_ ?_
        rotate_left
        · rintro w' ⟨s0, s1, s2⟩
          go_simp
          with_reducible rfl
        rotate_left
        · simp only [Act.put, List.setIfInBounds_toArray, List.set_cons_zero, List.set_cons_succ, i64_w, i32_w]
          rfl
        refine pure_ (i := 20) (N := some 30) (v := ?_) (a' := ?_) #[true, true, true, true, true, true, true, true, true, true, true, true, true, true, true, true, true, true, true, true, true, false] rfl rfl (by kernel_rfl) (fun _ _ _ h => h) (Or.inl ⟨by rfl, ?_⟩) ?_ ?_
        rotate_left
        · intro w'
          go_simp
          with_reducible rfl
        rotate_left
        · simp only [Act.put, List.setIfInBounds_toArray, List.set_cons_zero, List.set_cons_succ, i64_w, i32_w]
          rfl
        refine pure_ (i := 21) (N := some 31) (v := ?_) (a' := ?_) #[true, true, true, true, true, true, true, true, true, true, true, true, true, true, true, true, true, true, true, true, true, true] rfl rfl (by kernel_rfl) (fun _ _ _ h => h) (Or.inl ⟨by rfl, ?_⟩) ?_ ?_
        rotate_left
        · intro w'
          go_simp
          with_reducible rfl
        rotate_left
        · simp only [Act.put, List.setIfInBounds_toArray, List.set_cons_zero, List.set_cons_succ, i64_w, i32_w]
          rfl
        refine done_ (by kernel_rfl) ?_
        have HWD := Aside0.mk (HWN.out.drewN 1)
        have HBD := Aside0.mk (pw_below_drewN HBN.out 1)
        have HKD := Aside0.mk (show Kept w (World.drew wn) (fun k => k = g) from by rw [← HWNE.out]; exact (HK.out.drewN n).drewN 1)
        have hTK := HWD.out.ct.take l1
        rw [HB2.out, (bef_take L T').1, ← HB2.out] at hTK
        have HDR := HWD.out.ct.drop l1
        obtain ⟨ad, had⟩ : ∃ ad : Option Addr, (if c = i then some (⟨gb, o, none⟩ : Addr) else some ⟨gb, o + i * 4, none⟩) = ad := ⟨_, rfl⟩
        rw [if_neg (show ¬ c = i by omega)] at had
        rw [if_neg (show ¬ c = i by omega), had] at HDR
        have HDR := Aside0.mk HDR
        subst had
        obtain ⟨v1, w1, hr1, l1_, g1, o1⟩ := hTK.cat_run (l := []) w.heap.size (.slice none 0 0) (Ls.nil _ _ _ _) HKD.out.1 (by have := bef_length_le L T'; simp; omega) 43
        rw [List.nil_append] at l1_
        have HLS := Aside0.mk l1_
        have HB1 := Aside0.mk (below_grown0 g1)
        have hc21 := (HWD.out.below (below_grown0 g1)).c2
        have f21 := (HWD.out.below (below_grown0 g1)).free 2
        have hjc : i ≤ c := by omega
        have hs2 : (i : Int) ≤ (L.length : Int) := by omega
        clear hTK l1_ g1 o1
        go_wp2_with (first | (at_builtin; refine wpList_append_run rfl _ _ 43 rfl rfl rfl hr1 ?_) | go_in)
        go_ret
        have hdr := HDR.out.below HB1.out
        rw [HB2.out, (bef_take L T').2, ← HB2.out] at hdr
        refine ⟨v1, rfl, HLS.out.far (p := ⟨g, 2, none⟩) (HLS.out.ne (HWD.out.below HB1.out).1 (by decide)) _, .slice (some ⟨gb, o + i * 4, none⟩) (L.length - i) (c - i), (HWD.out.below HB1.out).lay hdr, below_set (below_step HBD.out HB1.out) HWD.out.ge, (HKD.out.below HB1.out).setCell (p := ⟨g, 2, none⟩) (.inl rfl) _, fun k hk => ?_⟩
        exact .inl hk
    · have d0 : decide ((i : Int) < (L.length : Int)) = false := decide_eq_false (by omega)
      have HB2 := Aside0.mk (show i = (befV L T').length by have := bef_length_le L T'; have := HBI.out; omega)
      cases A with
      | none =>
        obtain ⟨hL, _, hc9⟩ := HW.out.ct.drop0
        obtain rfl : i = 0 := by rw [hL] at l1; simpa using l1
        have hc2 : (World.drew wn).cell? ⟨g, 2, none⟩ = some (.slice none 0 0) := by have := hc2; rw [hL, hc9] at this; exact this
        have HLN := Aside0.mk hL
        clear d0 hac l0 hL hlt hc9
        go_upto_region 3 with (fail)
        refine start_ (n := 22) (S := fun w' => w'.cell? ⟨g, 2, none⟩ = some (.slice none 0 0)) (ds := []) #[false, false, false, false, false, false, false, false, false, false, false, false, false, false, false, false, false, false, false, false, false, false] (by kernel_rfl) rfl rfl (hc2) (fun hHeld => ?_)
        refine pure_ (i := 0) (N := some 10) (v := ?_) (a' := ?_) #[true, false, false, false, false, false, false, false, false, false, false, false, false, false, false, false, false, false, false, false, false, false] rfl rfl (by kernel_rfl) (fun _ _ _ h => h) (Or.inl ⟨by rfl, ?_⟩) ?_ ?_
        rotate_left
        · intro w'
          go_simp
          with_reducible rfl
        rotate_left
        · simp only [Act.put, List.setIfInBounds_toArray, List.set_cons_zero, List.set_cons_succ, i64_w, i32_w]
          rfl
        refine pure_ (i := 1) (N := some 11) (v := ?_) (a' := ?_) #[true, true, false, false, false, false, false, false, false, false, false, false, false, false, false, false, false, false, false, false, false, false] rfl rfl (by kernel_rfl) (fun _ _ _ h => h) (Or.inl ⟨by rfl, ?_⟩) ?_ ?_
        rotate_left
        · intro w'
          go_simp
          with_reducible rfl
        rotate_left
        · simp only [Act.put, List.setIfInBounds_toArray, List.set_cons_zero, List.set_cons_succ, i64_w, i32_w]
          rfl
        refine pure_ (i := 2) (N := some 12) (v := ?_) (a' := ?_) #[true, true, true, false, false, false, false, false, false, false, false, false, false, false, false, false, false, false, false, false, false, false] rfl rfl (by kernel_rfl) (fun _ _ _ h => h) (Or.inl ⟨by rfl, ?_⟩) ?_ ?_
        rotate_left
        · intro w'
          go_simp
          with_reducible rfl
        rotate_left
        · simp only [Act.put, List.setIfInBounds_toArray, List.set_cons_zero, List.set_cons_succ, i64_w, i32_w]
          rfl
        refine pure_ (i := 3) (N := some 13) (v := ?_) (a' := ?_) #[true, true, true, true, false, false, false, false, false, false, false, false, false, false, false, false, false, false, false, false, false, false] rfl rfl (by kernel_rfl) (fun _ _ _ h => h) (Or.inl ⟨by rfl, ?_⟩) ?_ ?_
        rotate_left
        · intro w'
          go_simp
          with_reducible rfl
        rotate_left
        · simp only [Act.put, List.setIfInBounds_toArray, List.set_cons_zero, List.set_cons_succ, i64_w, i32_w]
          rfl
        refine take_ (i := 4) (N := some 14) (v := ?_) (a' := ?_) #[true, true, true, true, true, false, false, false, false, false, false, false, false, false, false, false, false, false, false, false, false, false] rfl rfl (by kernel_rfl) (fun _ _ _ h => h) (Or.inl ⟨by rfl, ?_⟩) hHeld ?_ ?_
        rotate_left
        · intro w' s0
          go_simp
          with_reducible rfl
        rotate_left
        · simp only [Act.put, List.setIfInBounds_toArray, List.set_cons_zero, List.set_cons_succ, i64_w, i32_w]
          rfl
        refine pure_ (i := 5) (N := some 15) (v := ?_) (a' := ?_) #[true, true, true, true, true, true, false, false, false, false, false, false, false, false, false, false, false, false, false, false, false, false] rfl rfl (by kernel_rfl) (fun _ _ _ h => h) (Or.inl ⟨by rfl, ?_⟩) ?_ ?_
        rotate_left
        · intro w'
          go_simp
          with_reducible rfl
        rotate_left
        · simp only [Act.put, List.setIfInBounds_toArray, List.set_cons_zero, List.set_cons_succ, i64_w, i32_w]
          rfl
        refine pure_ (i := 6) (N := some 16) (v := ?_) (a' := ?_) #[true, true, true, true, true, true, true, false, false, false, false, false, false, false, false, false, false, false, false, false, false, false] rfl rfl (by kernel_rfl) (fun _ _ _ h => h) (Or.inl ⟨by rfl, ?_⟩) ?_ ?_
        rotate_left
        · intro w'
          go_simp
          with_reducible rfl
        rotate_left
        · simp only [Act.put, List.setIfInBounds_toArray, List.set_cons_zero, List.set_cons_succ, i64_w, i32_w]
          rfl
        refine pure_ (i := 7) (N := some 17) (v := ?_) (a' := ?_) #[true, true, true, true, true, true, true, true, false, false, false, false, false, false, false, false, false, false, false, false, false, false] rfl rfl (by kernel_rfl) (fun _ _ _ h => h) (Or.inl ⟨by rfl, ?_⟩) ?_ ?_
        rotate_left
        · intro w'
          go_simp
          with_reducible rfl
        rotate_left
        · simp only [Act.put, List.setIfInBounds_toArray, List.set_cons_zero, List.set_cons_succ, i64_w, i32_w]
          rfl
        refine pure_ (i := 8) (N := some 18) (v := undef) (a' := ?_) #[true, true, true, true, true, true, true, true, true, false, false, false, false, false, false, false, false, false, false, false, false, false] rfl rfl (by kernel_rfl) (fun _ _ _ h => h) (Or.inr ⟨by rfl, rfl⟩) ?_ ?_
        rotate_left
        · simp only [Act.put, List.setIfInBounds_toArray, List.set_cons_zero, List.set_cons_succ, i64_w, i32_w]
          rfl
        refine pure_ (i := 9) (N := some 19) (v := undef) (a' := ?_) #[true, true, true, true, true, true, true, true, true, true, false, false, false, false, false, false, false, false, false, false, false, false] rfl rfl (by kernel_rfl) (fun _ _ _ h => h) (Or.inr ⟨by rfl, rfl⟩) ?_ ?_
        rotate_left
        · simp only [Act.put, List.setIfInBounds_toArray, List.set_cons_zero, List.set_cons_succ, i64_w, i32_w]
          rfl
        refine pure_ (i := 10) (N := some 20) (v := undef) (a' := ?_) #[true, true, true, true, true, true, true, true, true, true, true, false, false, false, false, false, false, false, false, false, false, false] rfl rfl (by kernel_rfl) (fun _ _ _ h => h) (Or.inr ⟨by rfl, rfl⟩) ?_ ?_
        rotate_left
        · simp only [Act.put, List.setIfInBounds_toArray, List.set_cons_zero, List.set_cons_succ, i64_w, i32_w]
          rfl
        refine pure_ (i := 11) (N := some 21) (v := undef) (a' := ?_) #[true, true, true, true, true, true, true, true, true, true, true, true, false, false, false, false, false, false, false, false, false, false] rfl rfl (by kernel_rfl) (fun _ _ _ h => h) (Or.inr ⟨by rfl, rfl⟩) ?_ ?_
        rotate_left
        · simp only [Act.put, List.setIfInBounds_toArray, List.set_cons_zero, List.set_cons_succ, i64_w, i32_w]
          rfl
        refine pure_ (i := 12) (N := some 22) (v := undef) (a' := ?_) #[true, true, true, true, true, true, true, true, true, true, true, true, true, false, false, false, false, false, false, false, false, false] rfl rfl (by kernel_rfl) (fun _ _ _ h => h) (Or.inr ⟨by rfl, rfl⟩) ?_ ?_
        rotate_left
        · simp only [Act.put, List.setIfInBounds_toArray, List.set_cons_zero, List.set_cons_succ, i64_w, i32_w]
          rfl
        refine pure_ (i := 13) (N := some 23) (v := undef) (a' := ?_) #[true, true, true, true, true, true, true, true, true, true, true, true, true, true, false, false, false, false, false, false, false, false] rfl rfl (by kernel_rfl) (fun _ _ _ h => h) (Or.inr ⟨by rfl, rfl⟩) ?_ ?_
        rotate_left
        · simp only [Act.put, List.setIfInBounds_toArray, List.set_cons_zero, List.set_cons_succ, i64_w, i32_w]
          rfl
        refine pure_ (i := 14) (N := some 24) (v := undef) (a' := ?_) #[true, true, true, true, true, true, true, true, true, true, true, true, true, true, true, false, false, false, false, false, false, false] rfl rfl (by kernel_rfl) (fun _ _ _ h => h) (Or.inr ⟨by rfl, rfl⟩) ?_ ?_
        rotate_left
        · simp only [Act.put, List.setIfInBounds_toArray, List.set_cons_zero, List.set_cons_succ, i64_w, i32_w]
          rfl
        refine pure_ (i := 15) (N := some 25) (v := undef) (a' := ?_) #[true, true, true, true, true, true, true, true, true, true, true, true, true, true, true, true, false, false, false, false, false, false] rfl rfl (by kernel_rfl) (fun _ _ _ h => h) (Or.inr ⟨by rfl, rfl⟩) ?_ ?_
        rotate_left
        · simp only [Act.put, List.setIfInBounds_toArray, List.set_cons_zero, List.set_cons_succ, i64_w, i32_w]
          rfl
        refine pure_ (i := 16) (N := some 26) (v := undef) (a' := ?_) #[true, true, true, true, true, true, true, true, true, true, true, true, true, true, true, true, true, false, false, false, false, false] rfl rfl (by kernel_rfl) (fun _ _ _ h => h) (Or.inr ⟨by rfl, rfl⟩) ?_ ?_
        rotate_left
        · simp only [Act.put, List.setIfInBounds_toArray, List.set_cons_zero, List.set_cons_succ, i64_w, i32_w]
          rfl
        refine pure_ (i := 17) (N := some 27) (v := undef) (a' := ?_) #[true, true, true, true, true, true, true, true, true, true, true, true, true, true, true, true, true, true, false, false, false, false] rfl rfl (by kernel_rfl) (fun _ _ _ h => h) (Or.inr ⟨by rfl, rfl⟩) ?_ ?_
        rotate_left
        · simp only [Act.put, List.setIfInBounds_toArray, List.set_cons_zero, List.set_cons_succ, i64_w, i32_w]
          rfl
        refine pure_ (i := 18) (N := some 28) (v := undef) (a' := ?_) #[true, true, true, true, true, true, true, true, true, true, true, true, true, true, true, true, true, true, true, false, false, false] rfl rfl (by kernel_rfl) (fun _ _ _ h => h) (Or.inr ⟨by rfl, rfl⟩) ?_ ?_
        rotate_left
        · simp only [Act.put, List.setIfInBounds_toArray, List.set_cons_zero, List.set_cons_succ, i64_w, i32_w]
          rfl
        refine pure_ (i := 19) (N := some 29) (v := undef) (a' := ?_) #[true, true, true, true, true, true, true, true, true, true, true, true, true, true, true, true, true, true, true, true, false, false] rfl rfl (by kernel_rfl) (fun _ _ _ h => h) (Or.inr ⟨by rfl, rfl⟩) ?_ ?_
        rotate_left
        · simp only [Act.put, List.setIfInBounds_toArray, List.set_cons_zero, List.set_cons_succ, i64_w, i32_w]
          rfl
        refine pure_ (i := 20) (N := some 30) (v := undef) (a' := ?_) #[true, true, true, true, true, true, true, true, true, true, true, true, true, true, true, true, true, true, true, true, true, false] rfl rfl (by kernel_rfl) (fun _ _ _ h => h) (Or.inr ⟨by rfl, rfl⟩) ?_ ?_
        rotate_left
        · simp only [Act.put, List.setIfInBounds_toArray, List.set_cons_zero, List.set_cons_succ, i64_w, i32_w]
          rfl
        refine pure_ (i := 21) (N := some 31) (v := ?_) (a' := ?_) #[true, true, true, true, true, true, true, true, true, true, true, true, true, true, true, true, true, true, true, true, true, true] rfl rfl (by kernel_rfl) (fun _ _ _ h => h) (Or.inl ⟨by rfl, ?_⟩) ?_ ?_
        rotate_left
        · intro w'
          go_simp
          with_reducible rfl
        rotate_left
        · simp only [Act.put, List.setIfInBounds_toArray, List.set_cons_zero, List.set_cons_succ, i64_w, i32_w]
          rfl
        refine done_ (by kernel_rfl) ?_
        have HWD := Aside0.mk (HWN.out.drewN 1)
        have HBD := Aside0.mk (pw_below_drewN HBN.out 1)
        have HKD := Aside0.mk (show Kept w (World.drew wn) (fun k => k = g) from by rw [← HWNE.out]; exact (HK.out.drewN n).drewN 1)
        obtain ⟨v1, w1, hr1, l1_, g1, o1⟩ := (Ct.nil (World.drewN wn 1) 0).cat_run (l := []) w.heap.size (.slice none 0 0) (Ls.nil _ _ _ _) HKD.out.1 (by decide) 43
        rw [List.nil_append] at l1_
        have HLS := Aside0.mk l1_
        have HB1 := Aside0.mk (below_grown0 g1)
        have hc21 := pw_cell_below HB1.out hc2
        have f21 := (HWD.out.below (below_grown0 g1)).free 2
        clear l1_ g1 o1
        go_wp2_with (first | (at_builtin; refine wpList_append_run rfl _ _ 43 rfl rfl rfl hr1 ?_) | go_in)
        go_ret
        rw [HLN.out]
        refine ⟨v1, rfl, HLS.out.far (p := ⟨g, 2, none⟩) (HLS.out.ne (HWD.out.below HB1.out).1 (by decide)) _, .slice none 0 0, (HWD.out.below HB1.out).lay (Ct.nil _ _), below_set (below_step HBD.out HB1.out) HWD.out.ge, (HKD.out.below HB1.out).setCell (p := ⟨g, 2, none⟩) (.inl rfl) _, fun k hk => (by cases hk)⟩
      | some a =>
        obtain ⟨gb, o, rfl⟩ : ∃ gb o, a = ⟨gb, o, none⟩ := by
          obtain ⟨A', c', e, _, _, hh⟩ := HW.out.ct
          injection e with e1 e2 e3
          obtain ⟨gb, o, e, _⟩ := hh a e1.symm
          exact ⟨gb, o, e⟩
        go_upto_region 3 with (fail)
        refine start_ (n := 22) (S := fun w' => w'.cell? ⟨g, 2, none⟩ = some (.slice (some ⟨gb, o, none⟩) L.length c)) (ds := []) #[false, false, false, false, false, false, false, false, false, false, false, false, false, false, false, false, false, false, false, false, false, false] (by kernel_rfl) rfl rfl (hc2) (fun hHeld => ?_)
        refine pure_ (i := 0) (N := some 10) (v := ?_) (a' := ?_) #[true, false, false, false, false, false, false, false, false, false, false, false, false, false, false, false, false, false, false, false, false, false] rfl rfl (by kernel_rfl) (fun _ _ _ h => h) (Or.inl ⟨by rfl, ?_⟩) ?_ ?_
        rotate_left
        · intro w'
          go_simp
          with_reducible rfl
        rotate_left
        · simp only [Act.put, List.setIfInBounds_toArray, List.set_cons_zero, List.set_cons_succ, i64_w, i32_w]
          rfl
        refine pure_ (i := 1) (N := some 11) (v := ?_) (a' := ?_) #[true, true, false, false, false, false, false, false, false, false, false, false, false, false, false, false, false, false, false, false, false, false] rfl rfl (by kernel_rfl) (fun _ _ _ h => h) (Or.inl ⟨by rfl, ?_⟩) ?_ ?_
        rotate_left
        · intro w'
          go_simp
          with_reducible rfl
        rotate_left
        · simp only [Act.put, List.setIfInBounds_toArray, List.set_cons_zero, List.set_cons_succ, i64_w, i32_w]
          rfl
        refine pure_ (i := 2) (N := some 12) (v := ?_) (a' := ?_) #[true, true, true, false, false, false, false, false, false, false, false, false, false, false, false, false, false, false, false, false, false, false] rfl rfl (by kernel_rfl) (fun _ _ _ h => h) (Or.inl ⟨by rfl, ?_⟩) ?_ ?_
        rotate_left
        · intro w'
          go_simp
          with_reducible rfl
        rotate_left
        · simp only [Act.put, List.setIfInBounds_toArray, List.set_cons_zero, List.set_cons_succ, i64_w, i32_w]
          rfl
        refine pure_ (i := 3) (N := some 13) (v := ?_) (a' := ?_) #[true, true, true, true, false, false, false, false, false, false, false, false, false, false, false, false, false, false, false, false, false, false] rfl rfl (by kernel_rfl) (fun _ _ _ h => h) (Or.inl ⟨by rfl, ?_⟩) ?_ ?_
        rotate_left
        · intro w'
          go_simp
          with_reducible rfl
        rotate_left
        · simp only [Act.put, List.setIfInBounds_toArray, List.set_cons_zero, List.set_cons_succ, i64_w, i32_w]
          rfl
        refine take_ (i := 4) (N := some 14) (v := ?_) (a' := ?_) #[true, true, true, true, true, false, false, false, false, false, false, false, false, false, false, false, false, false, false, false, false, false] rfl rfl (by kernel_rfl) (fun _ _ _ h => h) (Or.inl ⟨by rfl, ?_⟩) hHeld ?_ ?_
        rotate_left
        · intro w' s0
          go_simp
          with_reducible rfl
        rotate_left
        · simp only [Act.put, List.setIfInBounds_toArray, List.set_cons_zero, List.set_cons_succ, i64_w, i32_w]
          rfl
        refine pure_ (i := 5) (N := some 15) (v := ?_) (a' := ?_) #[true, true, true, true, true, true, false, false, false, false, false, false, false, false, false, false, false, false, false, false, false, false] rfl rfl (by kernel_rfl) (fun _ _ _ h => h) (Or.inl ⟨by rfl, ?_⟩) ?_ ?_
        rotate_left
        · intro w'
          go_simp
          with_reducible rfl
        rotate_left
        · simp only [Act.put, List.setIfInBounds_toArray, List.set_cons_zero, List.set_cons_succ, i64_w, i32_w]
          rfl
        refine pure_ (i := 6) (N := some 16) (v := ?_) (a' := ?_) #[true, true, true, true, true, true, true, false, false, false, false, false, false, false, false, false, false, false, false, false, false, false] rfl rfl (by kernel_rfl) (fun _ _ _ h => h) (Or.inl ⟨by rfl, ?_⟩) ?_ ?_
        rotate_left
        · intro w'
          go_simp
          with_reducible rfl
        rotate_left
        · simp only [Act.put, List.setIfInBounds_toArray, List.set_cons_zero, List.set_cons_succ, i64_w, i32_w]
          rfl
        refine pure_ (i := 7) (N := some 17) (v := ?_) (a' := ?_) #[true, true, true, true, true, true, true, true, false, false, false, false, false, false, false, false, false, false, false, false, false, false] rfl rfl (by kernel_rfl) (fun _ _ _ h => h) (Or.inl ⟨by rfl, ?_⟩) ?_ ?_
        rotate_left
        · intro w'
          go_simp
          with_reducible rfl
        rotate_left
        · simp only [Act.put, List.setIfInBounds_toArray, List.set_cons_zero, List.set_cons_succ, i64_w, i32_w]
          rfl
        refine pure_ (i := 8) (N := some 18) (v := undef) (a' := ?_) #[true, true, true, true, true, true, true, true, true, false, false, false, false, false, false, false, false, false, false, false, false, false] rfl rfl (by kernel_rfl) (fun _ _ _ h => h) (Or.inr ⟨by rfl, rfl⟩) ?_ ?_
        rotate_left
        · simp only [Act.put, List.setIfInBounds_toArray, List.set_cons_zero, List.set_cons_succ, i64_w, i32_w]
          rfl
        refine pure_ (i := 9) (N := some 19) (v := undef) (a' := ?_) #[true, true, true, true, true, true, true, true, true, true, false, false, false, false, false, false, false, false, false, false, false, false] rfl rfl (by kernel_rfl) (fun _ _ _ h => h) (Or.inr ⟨by rfl, rfl⟩) ?_ ?_
        rotate_left
        · simp only [Act.put, List.setIfInBounds_toArray, List.set_cons_zero, List.set_cons_succ, i64_w, i32_w]
          rfl
        refine pure_ (i := 10) (N := some 20) (v := undef) (a' := ?_) #[true, true, true, true, true, true, true, true, true, true, true, false, false, false, false, false, false, false, false, false, false, false] rfl rfl (by kernel_rfl) (fun _ _ _ h => h) (Or.inr ⟨by rfl, rfl⟩) ?_ ?_
        rotate_left
        · simp only [Act.put, List.setIfInBounds_toArray, List.set_cons_zero, List.set_cons_succ, i64_w, i32_w]
          rfl
        refine pure_ (i := 11) (N := some 21) (v := undef) (a' := ?_) #[true, true, true, true, true, true, true, true, true, true, true, true, false, false, false, false, false, false, false, false, false, false] rfl rfl (by kernel_rfl) (fun _ _ _ h => h) (Or.inr ⟨by rfl, rfl⟩) ?_ ?_
        rotate_left
        · simp only [Act.put, List.setIfInBounds_toArray, List.set_cons_zero, List.set_cons_succ, i64_w, i32_w]
          rfl
        refine pure_ (i := 12) (N := some 22) (v := undef) (a' := ?_) #[true, true, true, true, true, true, true, true, true, true, true, true, true, false, false, false, false, false, false, false, false, false] rfl rfl (by kernel_rfl) (fun _ _ _ h => h) (Or.inr ⟨by rfl, rfl⟩) ?_ ?_
        rotate_left
        · simp only [Act.put, List.setIfInBounds_toArray, List.set_cons_zero, List.set_cons_succ, i64_w, i32_w]
          rfl
        refine pure_ (i := 13) (N := some 23) (v := undef) (a' := ?_) #[true, true, true, true, true, true, true, true, true, true, true, true, true, true, false, false, false, false, false, false, false, false] rfl rfl (by kernel_rfl) (fun _ _ _ h => h) (Or.inr ⟨by rfl, rfl⟩) ?_ ?_
        rotate_left
        · simp only [Act.put, List.setIfInBounds_toArray, List.set_cons_zero, List.set_cons_succ, i64_w, i32_w]
          rfl
        refine pure_ (i := 14) (N := some 24) (v := undef) (a' := ?_) #[true, true, true, true, true, true, true, true, true, true, true, true, true, true, true, false, false, false, false, false, false, false] rfl rfl (by kernel_rfl) (fun _ _ _ h => h) (Or.inr ⟨by rfl, rfl⟩) ?_ ?_
        rotate_left
        · simp only [Act.put, List.setIfInBounds_toArray, List.set_cons_zero, List.set_cons_succ, i64_w, i32_w]
          rfl
        refine pure_ (i := 15) (N := some 25) (v := undef) (a' := ?_) #[true, true, true, true, true, true, true, true, true, true, true, true, true, true, true, true, false, false, false, false, false, false] rfl rfl (by kernel_rfl) (fun _ _ _ h => h) (Or.inr ⟨by rfl, rfl⟩) ?_ ?_
        rotate_left
        · simp only [Act.put, List.setIfInBounds_toArray, List.set_cons_zero, List.set_cons_succ, i64_w, i32_w]
          rfl
        refine pure_ (i := 16) (N := some 26) (v := undef) (a' := ?_) #[true, true, true, true, true, true, true, true, true, true, true, true, true, true, true, true, true, false, false, false, false, false] rfl rfl (by kernel_rfl) (fun _ _ _ h => h) (Or.inr ⟨by rfl, rfl⟩) ?_ ?_
        rotate_left
        · simp only [Act.put, List.setIfInBounds_toArray, List.set_cons_zero, List.set_cons_succ, i64_w, i32_w]
          rfl
        refine pure_ (i := 17) (N := some 27) (v := undef) (a' := ?_) #[true, true, true, true, true, true, true, true, true, true, true, true, true, true, true, true, true, true, false, false, false, false] rfl rfl (by kernel_rfl) (fun _ _ _ h => h) (Or.inr ⟨by rfl, rfl⟩) ?_ ?_
        rotate_left
        · simp only [Act.put, List.setIfInBounds_toArray, List.set_cons_zero, List.set_cons_succ, i64_w, i32_w]
          rfl
        refine pure_ (i := 18) (N := some 28) (v := undef) (a' := ?_) #[true, true, true, true, true, true, true, true, true, true, true, true, true, true, true, true, true, true, true, false, false, false] rfl rfl (by kernel_rfl) (fun _ _ _ h => h) (Or.inr ⟨by rfl, rfl⟩) ?_ ?_
        rotate_left
        · simp only [Act.put, List.setIfInBounds_toArray, List.set_cons_zero, List.set_cons_succ, i64_w, i32_w]
          rfl
        refine pure_ (i := 19) (N := some 29) (v := undef) (a' := ?_) #[true, true, true, true, true, true, true, true, true, true, true, true, true, true, true, true, true, true, true, true, false, false] rfl rfl (by kernel_rfl) (fun _ _ _ h => h) (Or.inr ⟨by rfl, rfl⟩) ?_ ?_
        rotate_left
        · simp only [Act.put, List.setIfInBounds_toArray, List.set_cons_zero, List.set_cons_succ, i64_w, i32_w]
          rfl
        refine pure_ (i := 20) (N := some 30) (v := undef) (a' := ?_) #[true, true, true, true, true, true, true, true, true, true, true, true, true, true, true, true, true, true, true, true, true, false] rfl rfl (by kernel_rfl) (fun _ _ _ h => h) (Or.inr ⟨by rfl, rfl⟩) ?_ ?_
        rotate_left
        · simp only [Act.put, List.setIfInBounds_toArray, List.set_cons_zero, List.set_cons_succ, i64_w, i32_w]
          rfl
        refine pure_ (i := 21) (N := some 31) (v := ?_) (a' := ?_) #[true, true, true, true, true, true, true, true, true, true, true, true, true, true, true, true, true, true, true, true, true, true] rfl rfl (by kernel_rfl) (fun _ _ _ h => h) (Or.inl ⟨by rfl, ?_⟩) ?_ ?_
        rotate_left
        · intro w'
          go_simp
          with_reducible rfl
        rotate_left
        · simp only [Act.put, List.setIfInBounds_toArray, List.set_cons_zero, List.set_cons_succ, i64_w, i32_w]
          rfl
        refine done_ (by kernel_rfl) ?_
        have HWD := Aside0.mk (HWN.out.drewN 1)
        have HBD := Aside0.mk (pw_below_drewN HBN.out 1)
        have HKD := Aside0.mk (show Kept w (World.drew wn) (fun k => k = g) from by rw [← HWNE.out]; exact (HK.out.drewN n).drewN 1)
        have hTK := HWD.out.ct.take l1
        rw [HB2.out, (bef_take L T').1, ← HB2.out] at hTK
        have HDR := HWD.out.ct.drop l1
        obtain ⟨ad, had⟩ : ∃ ad : Option Addr, (if c = i then some (⟨gb, o, none⟩ : Addr) else some ⟨gb, o + i * 4, none⟩) = ad := ⟨_, rfl⟩
        rw [had] at HDR
        have HDR := Aside0.mk HDR
        have HAD := Aside0.mk had
        obtain ⟨v1, w1, hr1, l1_, g1, o1⟩ := hTK.cat_run (l := []) w.heap.size (.slice none 0 0) (Ls.nil _ _ _ _) HKD.out.1 (by have := bef_length_le L T'; simp; omega) 43
        rw [List.nil_append] at l1_
        have HLS := Aside0.mk l1_
        have HB1 := Aside0.mk (below_grown0 g1)
        have hc21 := (HWD.out.below (below_grown0 g1)).c2
        have f21 := (HWD.out.below (below_grown0 g1)).free 2
        have hjc : i ≤ c := by omega
        have hs2 : (i : Int) ≤ (L.length : Int) := by omega
        clear hTK l1_ g1 o1
        go_wp2_with (first | (at_builtin; refine wpList_append_run rfl _ _ 43 rfl rfl rfl hr1 ?_) | go_in)
        go_ret
        have hdr := HDR.out.below HB1.out
        rw [HB2.out, (bef_take L T').2, ← HB2.out] at hdr
        refine ⟨v1, rfl, HLS.out.far (p := ⟨g, 2, none⟩) (HLS.out.ne (HWD.out.below HB1.out).1 (by decide)) _, .slice ad (L.length - i) (c - i), (HWD.out.below HB1.out).lay hdr, below_set (below_step HBD.out HB1.out) HWD.out.ge, (HKD.out.below HB1.out).setCell (p := ⟨g, 2, none⟩) (.inl rfl) _, fun k hk => ?_⟩
        have := HAD.out
        subst this
        split at hk <;> exact .inl hk
end Go.Proofs.Ytpkilechkoiffaa.Wh
