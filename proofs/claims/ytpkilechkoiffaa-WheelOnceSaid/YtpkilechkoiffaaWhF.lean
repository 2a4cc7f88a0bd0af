/- The heap of timers: what lies, its methods, and the library's Push and Pop at it; no condition but those that stand in each. -/
import Derived.Test.YtpkilechkoiffaaWhC
namespace Go.Proofs.Ytpkilechkoiffaa.Wh
set_option linter.unusedVariables false
set_option linter.unusedSimpArgs false
open Go.RowKit Go.Proofs.YtpkilechkoiffaaW.PrintWords Go.Proofs.YtpkilechkoiffaaW.PrintLast Go.Proofs.YtpkilechkoiffaaW.PrintMore Go.Proofs.Ytpkilechkoiffaa.Lst Go.Proofs.Ytpkilechkoiffaa.Heap
attribute [local go_sem] max2_int min2_int max_two min_two max_three min_three max_four min_four
/-- the wheel's block, and the row of its timers -/
def wcells (v vm vl vn : Value) : Array Value := #[v, vm, vl, vn]
def IsF (w0 W : World) (g : Nat) (v vm vl vn : Value) (l : List Tm) : Prop := W.heap[g]? = some (.cells (wcells v vm vl vn) 58 (0, 0)) ∧ Ls encT 37 W w0.heap.size v l
def Fo (g : Nat) (v : Value) (i : Nat) : Prop := i = g ∨ v.ownBlock = some i
section
variable {b0 : Nat} {w0 W W' : World} {g : Nat} {v vm vl vn : Value} {l : List Tm}
theorem ls_at {A : Option Addr} {n c : Nat} (h : Ls encT 37 W b0 (.slice A n c) l) {i : Nat} {x : Tm} (hx : l[i]? = some x) : ∃ g, A = some ⟨g, 0, none⟩ ∧ b0 ≤ g ∧ g < W.heap.size ∧ (W.cell? ⟨g, i * 4, none⟩ = some (.int .i64 x.n) ∧ W.cell? ⟨g, i * 4 + 1, none⟩ = some (.int .i64 x.kind) ∧ W.cell? ⟨g, i * 4 + 2, none⟩ = some (.int .u64 x.lab) ∧ W.cell? ⟨g, i * 4 + 3, none⟩ = some (.int .i64 x.att)) ∧ (∀ k, W.frozen? ⟨g, k, none⟩ = false) := by
  obtain ⟨g, h1, h2, h3, h4, h5, _⟩ := h.at hx
  exact ⟨g, h1, h2, h3, ⟨h4 0 _ rfl, h4 1 _ rfl, h4 2 _ rfl, h4 3 _ rfl⟩, h5⟩
theorem set_set {l : List Tm} {i : Nat} {a b : Tm} : (l.set i a).set i b = l.set i b := by simp
theorem ls_put {gb n c : Nat} (h : Ls encT 37 W b0 (.slice (some ⟨gb, 0, none⟩) n c) l) {i : Nat} (hi : i < l.length) (x : Tm) : Ls encT 37 ((((W.setCell ⟨gb, i * 4, none⟩ (.int .i64 x.n)).setCell ⟨gb, i * 4 + 1, none⟩ (.int .i64 x.kind)).setCell ⟨gb, i * 4 + 2, none⟩ (.int .u64 x.lab)).setCell ⟨gb, i * 4 + 3, none⟩ (.int .i64 x.att)) b0 (.slice (some ⟨gb, 0, none⟩) n c) (l.set i x) := by
  have g0 := List.getElem?_eq_getElem hi
  have s : ∀ y : Tm, (l.set i y)[i]? = some y := fun y => by rw [List.getElem?_set, if_pos rfl, if_pos hi]
  have h1 := h.put (i := i) (j := 0) (x' := { l[i] with n := x.n }) (u := .int .i64 x.n) g0 (by decide) rfl
  have h2 := h1.put (i := i) (j := 1) (x' := { l[i] with n := x.n, kind := x.kind }) (u := .int .i64 x.kind) (s _) (by decide) rfl
  rw [set_set] at h2
  have h3 := h2.put (i := i) (j := 2) (x' := { l[i] with n := x.n, kind := x.kind, lab := x.lab }) (u := .int .u64 x.lab) (s _) (by decide) rfl
  rw [set_set] at h3
  have h4 := h3.put (i := i) (j := 3) (x' := x) (u := .int .i64 x.att) (s _) (by decide) rfl
  rw [set_set] at h4
  exact h4
theorem ls_cut {gb n c : Nat} (h : Ls encT 37 W b0 (.slice (some ⟨gb, 0, none⟩) n c) l) {k : Nat} (hk : k ≤ l.length) : Ls encT 37 W b0 (.slice (some ⟨gb, 0, none⟩) k c) (l.take k) := by
  obtain ⟨h1, h2⟩ := h
  have lk : (l.take k).length = k := by rw [List.length_take]; omega
  refine ⟨flat_len encT _, ?_⟩
  rw [lk]
  rcases h2 with ⟨h2, _⟩ | ⟨g', cap, cur, hv, hb, hg, hc, hm, hs, ht⟩
  · cases h2
  · injection hv with hA hn hcap
    injection hA with hA
    injection hA with hA
    subst hA
    refine .inr ⟨gb, cap, cur, by rw [hcap], hb, hg, by omega, hm, hs, ?_⟩
    have e1 : l.flatMap encT.enc = (l.take k).flatMap encT.enc ++ (l.drop k).flatMap encT.enc := by rw [← List.flatMap_append, List.take_append_drop]
    rw [e1] at ht
    have e2 : ((l.take k).flatMap encT.enc).length = k * encT.sz := by rw [flat_len, lk]
    have := congrArg (List.take (k * encT.sz)) ht
    rw [List.take_take, List.take_left' e2, Nat.min_eq_left (Nat.mul_le_mul_right _ hk)] at this
    exact this
theorem IsF.c0 (h : IsF w0 W g v vm vl vn l) : W.cell? ⟨g, 0, none⟩ = some v := blk_cell h.1 0
theorem IsF.c1 (h : IsF w0 W g v vm vl vn l) : W.cell? ⟨g, 1, none⟩ = some vm := blk_cell h.1 1
theorem IsF.c2 (h : IsF w0 W g v vm vl vn l) : W.cell? ⟨g, 2, none⟩ = some vl := blk_cell h.1 2
theorem IsF.c3 (h : IsF w0 W g v vm vl vn l) : W.cell? ⟨g, 3, none⟩ = some vn := blk_cell h.1 3
theorem IsF.free (h : IsF w0 W g v vm vl vn l) (k : Nat) : W.frozen? ⟨g, k, none⟩ = false := blk_frozen h.1 k
theorem IsF.ls (h : IsF w0 W g v vm vl vn l) : Ls encT 37 W w0.heap.size v l := h.2
theorem IsF.ne (h : IsF w0 W g v vm vl vn l) : some g ≠ v.ownBlock := h.2.ne h.1 (by decide)
theorem IsF.lt (h : IsF w0 W g v vm vl vn l) : g < W.heap.size := blk_lt h.1
theorem IsF.below (h : IsF w0 W g v vm vl vn l) (hb : Below W.heap.size W W') : IsF w0 W' g v vm vl vn l := ⟨blk_below h.1 hb, h.2.below hb⟩
theorem IsF.drew (h : IsF w0 W g v vm vl vn l) (n : Nat) : IsF w0 (W.drewN n) g v vm vl vn l := h
end
/-- the row is turned, or grown; not the wheel's block -/
structure IsG (W : World) (g : Nat) (v vm vl vn : Value) : Prop where
  blk : W.heap[g]? = some (.cells (wcells v vm vl vn) 58 (0, 0))
theorem IsG.c0 {W : World} {g : Nat} {v vm vl vn : Value} (h : IsG W g v vm vl vn) : W.cell? ⟨g, 0, none⟩ = some v := blk_cell h.blk 0
theorem IsG.free {W : World} {g : Nat} {v vm vl vn : Value} (h : IsG W g v vm vl vn) (k : Nat) : W.frozen? ⟨g, k, none⟩ = false := blk_frozen h.blk k
theorem IsF.grown_ {w0 W W' : World} {g : Nat} {v vm vl vn : Value} {l : List Tm} (h : IsF w0 W g v vm vl vn l) (hg : W.grownBy W' v.ownBlock) : IsG W' g v vm vl vn := ⟨blk_grown h.1 hg h.ne⟩
theorem ta_run (x : Tm) (w : World) : (Instr.typeAssert (.iface 37 (.agg #[.int .i64 x.n, .int .i64 x.kind, .int .u64 x.lab, .int .i64 x.att])) 20 37 true).run Try.prog w = .ok (.tuple #[.agg #[.int .i64 x.n, .int .i64 x.kind, .int .u64 x.lab, .int .i64 x.att], .bool true]) w := by kernel_rfl
theorem goesV_ {P : Program} {ops : Array Oper} {Q : Exit → Act → World → Prop} {oi : Oper} {N : Option Tmp} {a : Act} {w : World} {K : Act → World → Prop} {f : FuncId} {fn : Func} {o : Operand} {ags : Array Operand} {ts : Array TypeId} (hf : P.funcs[f]? = some fn) (hname : (fn.name == "runtime.NumGoroutine") = false) (hb : fn.body.isSome = true) (args : Array Value)
    (hw : Region.wanted oi (yielded ops a.tmps) = true) (hN : oi.dst = N) (hop : oi.op = .call { callee := .value o, args := ags, argTypes := ts }) (ho : a.eval o = .func (.func f) #[] #[]) (hargs : ags.map a.eval = args)
    (h : Calls P f args w fun e w' => ∃ v, e = .returned v ∧ K (a.put N v) w') : if Region.wanted oi (yielded ops a.tmps) = true then Oper.wp P oi a w K Q else K (a.put N undef) w := by
  refine call_ f args hw hN ?_ h
  have he := enters_ hf hname hb args w
  unfold execOp
  simp [hop, ho, resolve, Deferred.ofValue, invoke, hargs, he]
/-! ### its methods -/
theorem len_c (w0 : World) (g : Nat) (v vm vl vn : Value) (l : List Tm) (n : Nat) (hn : l.length = n) (w : World) (h : IsF w0 w g v vm vl vn l) : Calls Try.prog 47 #[.pointer (some ⟨g, 0, none⟩)] w fun e w' => e = .returned (.int .i64 (n : Int)) ∧ w = w' := by
  have hc := h.c0
  obtain ⟨A, c, rfl, _, _⟩ := h.ls.form
  subst hn
  clear h
  go_enter Try.func47, Try.ntmps47
  go_wp2_with fail
  go_ret
  exact ⟨rfl, rfl⟩
set_option maxHeartbeats 8000000 in
theorem less_c (w0 : World) (g : Nat) (v vm vl vn : Value) (l : List Tm) (i j : Nat) (a b : Int) (ha : a = (i : Int)) (hb : b = (j : Int)) (hi : i < l.length) (hj : j < l.length) (r : Bool) (hr : ltT (at_ zT l i) (at_ zT l j) = r) (w : World) (h : IsF w0 w g v vm vl vn l) : Calls Try.prog 48 #[.pointer (some ⟨g, 0, none⟩), .int .i64 a, .int .i64 b] w fun e w' => e = .returned (.bool r) ∧ Below w.heap.size w w' := by
  subst ha hb
  have kr : (World.drew w).cell? ⟨g, 0, none⟩ = some v := h.c0
  obtain ⟨x, hx⟩ : ∃ x, at_ zT l i = x := ⟨_, rfl⟩
  obtain ⟨y, hy⟩ : ∃ y, at_ zT l j = y := ⟨_, rfl⟩
  have gx := at_get zT hi; have gy := at_get zT hj
  rw [hx] at gx hr; rw [hy] at gy hr
  obtain ⟨A, c, rfl, hac, _⟩ := h.ls.form
  obtain ⟨gb, rfl, _, _, ⟨ki0, ki1, ki2, ki3⟩, _⟩ := ls_at (h.drew 1).ls gx
  obtain ⟨gb', e, _, _, ⟨kj0, kj1, kj2, kj3⟩, _⟩ := ls_at (h.drew 1).ls gy
  cases e
  unfold ltT at hr
  obtain ⟨r0, hr0⟩ : ∃ r0, soonV x y = r0 := ⟨_, rfl⟩
  rw [hr0] at hr
  have HR := Aside0.mk hr0
  obtain ⟨n, hn⟩ : ∃ n, l.length = n := ⟨_, rfl⟩
  rw [hn] at hi hj hac kr
  have huT := Try.underlying37
  clear h hx hy gx gy hr0 hn
  go_enter Try.func48, Try.ntmps48
  go_upto_region 2 with (fail)
  refine start_ (n := 16) (S := fun w' => w'.cell? ⟨g, 0, none⟩ = some (.slice (some ⟨gb, 0, none⟩) n c) ∧ w'.cell? ⟨gb, i * 4, none⟩ = some (.int .i64 x.n) ∧ w'.cell? ⟨gb, i * 4 + 1, none⟩ = some (.int .i64 x.kind) ∧ w'.cell? ⟨gb, i * 4 + 2, none⟩ = some (.int .u64 x.lab) ∧ w'.cell? ⟨gb, i * 4 + 3, none⟩ = some (.int .i64 x.att) ∧ w'.cell? ⟨gb, j * 4, none⟩ = some (.int .i64 y.n) ∧ w'.cell? ⟨gb, j * 4 + 1, none⟩ = some (.int .i64 y.kind) ∧ w'.cell? ⟨gb, j * 4 + 2, none⟩ = some (.int .u64 y.lab) ∧ w'.cell? ⟨gb, j * 4 + 3, none⟩ = some (.int .i64 y.att)) (ds := [13]) #[false, false, false, false, false, false, false, false, false, false, false, false, false, false, false, false] (by kernel_rfl) rfl rfl ⟨kr, ki0, ki1, ki2, ki3, kj0, kj1, kj2, kj3⟩ (fun hHeld => ?_)
  refine pure_ (i := 0) (N := some 8) (v := ?_) (a' := ?_) #[true, false, false, false, false, false, false, false, false, false, false, false, false, false, false, false] rfl rfl (by kernel_rfl) (fun _ _ _ h => h) (Or.inl ⟨by rfl, ?_⟩) ?_ ?_
  rotate_left
  · intro w'
    go_simp
    with_reducible rfl
  rotate_left
  · simp only [Act.put, List.setIfInBounds_toArray, List.set_cons_zero, List.set_cons_succ, i64_w, i32_w]
    rfl
  refine pure_ (i := 1) (N := some 9) (v := ?_) (a' := ?_) #[true, true, false, false, false, false, false, false, false, false, false, false, false, false, false, false] rfl rfl (by kernel_rfl) (fun _ _ _ h => h) (Or.inl ⟨by rfl, ?_⟩) ?_ ?_
  rotate_left
  · intro w'
    go_simp
    with_reducible rfl
  rotate_left
  · simp only [Act.put, List.setIfInBounds_toArray, List.set_cons_zero, List.set_cons_succ, i64_w, i32_w]
    rfl
  refine pure_ (i := 2) (N := some 10) (v := ?_) (a' := ?_) #[true, true, true, false, false, false, false, false, false, false, false, false, false, false, false, false] rfl rfl (by kernel_rfl) (fun _ _ _ h => h) (Or.inl ⟨by rfl, ?_⟩) ?_ ?_
  rotate_left
  · intro w'
    go_simp
    with_reducible rfl
  rotate_left
  · simp only [Act.put, List.setIfInBounds_toArray, List.set_cons_zero, List.set_cons_succ, i64_w, i32_w]
    rfl
  refine pure_ (i := 4) (N := some 12) (v := ?_) (a' := ?_) #[true, true, true, false, true, false, false, false, false, false, false, false, false, false, false, false] rfl rfl (by kernel_rfl) (fun _ _ _ h => h) (Or.inl ⟨by rfl, ?_⟩) ?_ ?_
  rotate_left
  · intro w'
    go_simp
    with_reducible rfl
  rotate_left
  · simp only [Act.put, List.setIfInBounds_toArray, List.set_cons_zero, List.set_cons_succ, i64_w, i32_w]
    rfl
  refine pure_ (i := 7) (N := some 15) (v := ?_) (a' := ?_) #[true, true, true, false, true, false, false, true, false, false, false, false, false, false, false, false] rfl rfl (by kernel_rfl) (fun _ _ _ h => h) (Or.inl ⟨by rfl, ?_⟩) ?_ ?_
  rotate_left
  · intro w'
    go_simp
    with_reducible rfl
  rotate_left
  · simp only [Act.put, List.setIfInBounds_toArray, List.set_cons_zero, List.set_cons_succ, i64_w, i32_w]
    rfl
  refine pure_ (i := 8) (N := some 16) (v := ?_) (a' := ?_) #[true, true, true, false, true, false, false, true, true, false, false, false, false, false, false, false] rfl rfl (by kernel_rfl) (fun _ _ _ h => h) (Or.inl ⟨by rfl, ?_⟩) ?_ ?_
  rotate_left
  · intro w'
    go_simp
    with_reducible rfl
  rotate_left
  · simp only [Act.put, List.setIfInBounds_toArray, List.set_cons_zero, List.set_cons_succ, i64_w, i32_w]
    rfl
  refine pure_ (i := 10) (N := some 18) (v := ?_) (a' := ?_) #[true, true, true, false, true, false, false, true, true, false, true, false, false, false, false, false] rfl rfl (by kernel_rfl) (fun _ _ _ h => h) (Or.inl ⟨by rfl, ?_⟩) ?_ ?_
  rotate_left
  · intro w'
    go_simp
    with_reducible rfl
  rotate_left
  · simp only [Act.put, List.setIfInBounds_toArray, List.set_cons_zero, List.set_cons_succ, i64_w, i32_w]
    rfl
  refine take_ (i := 3) (N := some 11) (v := ?_) (a' := ?_) #[true, true, true, true, true, false, false, true, true, false, true, false, false, false, false, false] rfl rfl (by kernel_rfl) (fun _ _ _ h => h) (Or.inl ⟨by rfl, ?_⟩) hHeld ?_ ?_
  rotate_left
  · rintro w' ⟨s0, s1, s2, s3, s4, s5, s6, s7, s8⟩
    go_simp
    with_reducible rfl
  rotate_left
  · simp only [Act.put, List.setIfInBounds_toArray, List.set_cons_zero, List.set_cons_succ, i64_w, i32_w]
    rfl
  refine pure_ (i := 5) (N := some 13) (v := ?_) (a' := ?_) #[true, true, true, true, true, true, false, true, true, false, true, false, false, false, false, false] rfl rfl (by kernel_rfl) (fun _ _ _ h => h) (Or.inl ⟨by rfl, ?_⟩) ?_ ?_
  rotate_left
  · intro w'
    go_simp
    with_reducible rfl
  rotate_left
  · simp only [Act.put, List.setIfInBounds_toArray, List.set_cons_zero, List.set_cons_succ, i64_w, i32_w]
    rfl
  refine take_ (i := 6) (N := some 14) (v := ?_) (a' := ?_) #[true, true, true, true, true, true, true, true, true, false, true, false, false, false, false, false] rfl rfl (by kernel_rfl) (fun _ _ _ h => h) (Or.inl ⟨by rfl, ?_⟩) hHeld ?_ ?_
  rotate_left
  · rintro w' ⟨s0, s1, s2, s3, s4, s5, s6, s7, s8⟩
    go_simp
    with_reducible rfl
  rotate_left
  · simp only [Act.put, List.setIfInBounds_toArray, List.set_cons_zero, List.set_cons_succ, i64_w, i32_w]
    rfl
  refine take_ (i := 9) (N := some 17) (v := ?_) (a' := ?_) #[true, true, true, true, true, true, true, true, true, true, true, false, false, false, false, false] rfl rfl (by kernel_rfl) (fun _ _ _ h => h) (Or.inl ⟨by rfl, ?_⟩) hHeld ?_ ?_
  rotate_left
  · rintro w' ⟨s0, s1, s2, s3, s4, s5, s6, s7, s8⟩
    go_simp
    with_reducible rfl
  rotate_left
  · simp only [Act.put, List.setIfInBounds_toArray, List.set_cons_zero, List.set_cons_succ, i64_w, i32_w]
    rfl
  refine pure_ (i := 11) (N := some 19) (v := ?_) (a' := ?_) #[true, true, true, true, true, true, true, true, true, true, true, true, false, false, false, false] rfl rfl (by kernel_rfl) (fun _ _ _ h => h) (Or.inl ⟨by rfl, ?_⟩) ?_ ?_
  rotate_left
  · intro w'
    go_simp
    with_reducible rfl
  rotate_left
  · simp only [Act.put, List.setIfInBounds_toArray, List.set_cons_zero, List.set_cons_succ, i64_w, i32_w]
    rfl
  refine take_ (i := 12) (N := some 20) (v := ?_) (a' := ?_) #[true, true, true, true, true, true, true, true, true, true, true, true, true, false, false, false] rfl rfl (by kernel_rfl) (fun _ _ _ h => h) (Or.inl ⟨by rfl, ?_⟩) hHeld ?_ ?_
  rotate_left
  · rintro w' ⟨s0, s1, s2, s3, s4, s5, s6, s7, s8⟩
    go_simp
    with_reducible rfl
  rotate_left
  · simp only [Act.put, List.setIfInBounds_toArray, List.set_cons_zero, List.set_cons_succ, i64_w, i32_w]
    rfl
  refine last_ (i := 13) (N := some 21) #[true, true, true, true, true, true, true, true, true, true, true, true, true, true, false, false] rfl rfl (by kernel_rfl) (by decide) (fun K hK => ?_)
  refine goesV_ Try.func46 (by kernel_rfl) rfl #[.agg #[.int .i64 x.n, .int .i64 x.kind, .int .u64 x.lab, .int .i64 x.att], .agg #[.int .i64 y.n, .int .i64 y.kind, .int .u64 y.lab, .int .i64 y.att]] (by rfl) rfl rfl rfl (by simp only [List.map_toArray, List.map_cons, List.map_nil]; rfl) ?_
  with_reducible refine (sooner_c x y r0 HR.out _).mono ?_
  rintro e w3 ⟨rfl, hb⟩
  refine ⟨_, rfl, ?_⟩
  have HB9 := Aside0.mk hb
  clear hb
  refine hK.out _ _ ?_
  clear hK K
  refine norm_ (a' := ?_) ?_ ?_
  rotate_left
  · show Act.put _ (some 21) _ = _
    simp only [Act.put, List.setIfInBounds_toArray, List.set_cons_zero, List.set_cons_succ, i64_w, i32_w]
    rfl
  refine pure_ (i := 14) (N := some 22) (v := ?_) (a' := ?_) #[true, true, true, true, true, true, true, true, true, true, true, true, true, true, true, false] rfl rfl (by kernel_rfl) (fun _ _ _ h => h) (Or.inl ⟨by rfl, ?_⟩) ?_ ?_
  rotate_left
  · intro w'
    go_simp
    with_reducible rfl
  rotate_left
  · simp only [Act.put, List.setIfInBounds_toArray, List.set_cons_zero, List.set_cons_succ, i64_w, i32_w]
    rfl
  refine pure_ (i := 15) (N := some 6) (v := ?_) (a' := ?_) #[true, true, true, true, true, true, true, true, true, true, true, true, true, true, true, true] rfl rfl (by kernel_rfl) (fun _ _ _ h => h) (Or.inl ⟨by rfl, ?_⟩) ?_ ?_
  rotate_left
  · intro w'
    go_simp
    with_reducible rfl
  rotate_left
  · simp only [Act.put, List.setIfInBounds_toArray, List.set_cons_zero, List.set_cons_succ, i64_w, i32_w]
    rfl
  refine done_ (by kernel_rfl) ?_
  go_wp2_with fail
  go_ret
  exact ⟨rfl, below_step (below_drew (Below.refl w.heap.size w)) HB9.out⟩
def PostF (w0 w : World) (g : Nat) (v vm vl vn : Value) (l' : List Tm) (w' : World) : Prop := ∃ v', IsF w0 w' g v' vm vl vn l' ∧ Below w0.heap.size w0 w' ∧ Kept w w' (Fo g v) ∧ (v'.ownBlock = v.ownBlock ∨ ∃ b, v'.ownBlock = some b ∧ w.heap.size ≤ b)
theorem PostF.refl {w0 w : World} {g : Nat} {v vm vl vn : Value} {l : List Tm} (h : IsF w0 w g v vm vl vn l) (hB : Below w0.heap.size w0 w) : PostF w0 w g v vm vl vn l w := ⟨v, h, hB, Kept.refl _ _, .inl rfl⟩
theorem PostF.trans {w0 w w1 w2 : World} {g : Nat} {v v1 vm vl vn : Value} {l2 : List Tm} (hk : Kept w w1 (Fo g v)) (ho : v1.ownBlock = v.ownBlock ∨ ∃ b, v1.ownBlock = some b ∧ w.heap.size ≤ b) (h : PostF w0 w1 g v1 vm vl vn l2 w2) : PostF w0 w g v vm vl vn l2 w2 := by
  obtain ⟨v2, h1, h2, h3, h4⟩ := h
  refine ⟨v2, h1, h2, hk.then_ h3 fun k hk' => ?_, ?_⟩
  · rcases hk' with rfl | e
    · exact .inl (.inl rfl)
    · rcases ho with ho | ⟨b, ho, hb⟩
      · exact .inl (.inr (ho ▸ e))
      · rw [ho] at e; cases e; exact .inr hb
  · rcases h4 with h4 | ⟨b, h4, hb'⟩
    · rw [h4]; exact ho
    · exact .inr ⟨b, h4, Nat.le_trans hk.1 hb'⟩
theorem sets_at {W : World} {gb i : Nat} (x : Tm) {g : Nat} (hne : g ≠ gb) {cs : Array Value} {t : TypeId} (h : W.heap[g]? = some (.cells cs t (0, 0))) : ((((W.setCell ⟨gb, i * 4, none⟩ (.int .i64 x.n)).setCell ⟨gb, i * 4 + 1, none⟩ (.int .i64 x.kind)).setCell ⟨gb, i * 4 + 2, none⟩ (.int .u64 x.lab)).setCell ⟨gb, i * 4 + 3, none⟩ (.int .i64 x.att)).heap[g]? = some (.cells cs t (0, 0)) :=
  blk_far (blk_far (blk_far (blk_far h (p := ⟨gb, i * 4, none⟩) hne (.int .i64 x.n)) (p := ⟨gb, i * 4 + 1, none⟩) hne (.int .i64 x.kind)) (p := ⟨gb, i * 4 + 2, none⟩) hne (.int .u64 x.lab)) (p := ⟨gb, i * 4 + 3, none⟩) hne (.int .i64 x.att)
theorem sets_below {w0 W : World} {gb i : Nat} (x : Tm) (h : Below w0.heap.size w0 W) (hg : w0.heap.size ≤ gb) : Below w0.heap.size w0 ((((W.setCell ⟨gb, i * 4, none⟩ (.int .i64 x.n)).setCell ⟨gb, i * 4 + 1, none⟩ (.int .i64 x.kind)).setCell ⟨gb, i * 4 + 2, none⟩ (.int .u64 x.lab)).setCell ⟨gb, i * 4 + 3, none⟩ (.int .i64 x.att)) := below_set (below_set (below_set (below_set h hg) hg) hg) hg
theorem sets_kept {w W : World} {S : Nat → Prop} {gb i : Nat} (x : Tm) (h : Kept w W S) (hg : S gb ∨ w.heap.size ≤ gb) : Kept w ((((W.setCell ⟨gb, i * 4, none⟩ (.int .i64 x.n)).setCell ⟨gb, i * 4 + 1, none⟩ (.int .i64 x.kind)).setCell ⟨gb, i * 4 + 2, none⟩ (.int .u64 x.lab)).setCell ⟨gb, i * 4 + 3, none⟩ (.int .i64 x.att)) S :=
  ((((h.setCell (p := ⟨gb, i * 4, none⟩) hg _).setCell (p := ⟨gb, i * 4 + 1, none⟩) hg _).setCell (p := ⟨gb, i * 4 + 2, none⟩) hg _).setCell (p := ⟨gb, i * 4 + 3, none⟩) hg _)
set_option maxHeartbeats 8000000 in
theorem swap_c (w0 : World) (g : Nat) (v vm vl vn : Value) (l : List Tm) (i j : Nat) (a b : Int) (ha : a = (i : Int)) (hb : b = (j : Int)) (hi : i < l.length) (hj : j < l.length) (l' : List Tm) (hl : sw zT l i j = l') (w : World) (h : IsF w0 w g v vm vl vn l) (hB : Below w0.heap.size w0 w) : Calls Try.prog 51 #[.pointer (some ⟨g, 0, none⟩), .int .i64 a, .int .i64 b] w fun e w' => e = .returned (.tuple #[]) ∧ PostF w0 w g v vm vl vn l' w' := by
  subst ha hb
  have kr : (World.drew w).cell? ⟨g, 0, none⟩ = some v := h.c0
  obtain ⟨x, hx⟩ : ∃ x, at_ zT l i = x := ⟨_, rfl⟩
  obtain ⟨y, hy⟩ : ∃ y, at_ zT l j = y := ⟨_, rfl⟩
  have gx := at_get zT hi; have gy := at_get zT hj
  rw [hx] at gx; rw [hy] at gy
  obtain ⟨A, c, rfl, hac, _⟩ := h.ls.form
  obtain ⟨gb, rfl, hgb, _, ⟨ki0, ki1, ki2, ki3⟩, hf⟩ := ls_at (h.drew 1).ls gx
  obtain ⟨gb', e, _, _, ⟨kj0, kj1, kj2, kj3⟩, _⟩ := ls_at (h.drew 1).ls gy
  cases e
  have fz : ∀ k, (World.drew w).frozen? ⟨gb, k, none⟩ = false := hf
  have p1 := ls_put h.ls hi y
  obtain ⟨_, e2, _, _, ⟨wi0, wi1, wi2, wi3⟩, _⟩ := ls_at h.ls gx
  cases e2
  obtain ⟨_, e2, _, _, ⟨wj0, wj1, wj2, wj3⟩, _⟩ := ls_at h.ls gy
  cases e2
  have gy2 : (l.set i y)[j]? = some y := by
    rw [List.getElem?_set]
    by_cases e : i = j
    · rw [if_pos e, if_pos hi]
    · rw [if_neg e, gy]
  obtain ⟨_, e1, _, _, ⟨qj0, qj1, qj2, qj3⟩, hf1⟩ := ls_at (ls_put h.ls hi y) gy2
  cases e1
  have fz0 : ∀ k, w.frozen? ⟨gb, k, none⟩ = false := hf
  have p2 := ls_put p1 (i := j) (by rw [List.length_set]; exact hj) x
  have el : (l.set i y).set j x = l' := by rw [← hl, ← hx, ← hy]; rfl
  rw [el] at p2
  have HBd := Aside0.mk (show Below w0.heap.size w0 w from hB)
  have HKd := Aside0.mk (show Kept w w (Fo g (.slice (some ⟨gb, 0, none⟩) l.length c)) from Kept.refl w _)
  have hne : g ≠ gb := by have := h.ne; simpa [Value.ownBlock] using this
  have HD := Aside0.mk (show w.heap[g]? = some (.cells (wcells (.slice (some ⟨gb, 0, none⟩) l.length c) vm vl vn) 58 (0, 0)) from h.1)
  have HGB := Aside0.mk hgb; have P2 := Aside0.mk (show Ls encT 37 ((((((((w.setCell ⟨gb, i * 4, none⟩ (.int .i64 y.n)).setCell ⟨gb, i * 4 + 1, none⟩ (.int .i64 y.kind)).setCell ⟨gb, i * 4 + 2, none⟩ (.int .u64 y.lab)).setCell ⟨gb, i * 4 + 3, none⟩ (.int .i64 y.att)).setCell ⟨gb, j * 4, none⟩ (.int .i64 x.n)).setCell ⟨gb, j * 4 + 1, none⟩ (.int .i64 x.kind)).setCell ⟨gb, j * 4 + 2, none⟩ (.int .u64 x.lab)).setCell ⟨gb, j * 4 + 3, none⟩ (.int .i64 x.att)) w0.heap.size (.slice (some ⟨gb, 0, none⟩) l.length c) l' from p2)
  have HNE := Aside0.mk hne
  obtain ⟨n, hn⟩ : ∃ n, l.length = n := ⟨_, rfl⟩
  rw [hn] at hi hj hac kr
  have HN := Aside0.mk hn
  have huT := Try.underlying37
  clear h hx hy gx gy hgb hn p1 p2 el hf hl hB hne hf1 gy2
  go_enter Try.func51, Try.ntmps51
  go_upto_region 0 with (fail)
  refine start_ (n := 24) (S := fun w' => w'.cell? ⟨g, 0, none⟩ = some (.slice (some ⟨gb, 0, none⟩) n c) ∧ w'.cell? ⟨gb, i * 4, none⟩ = some (.int .i64 x.n) ∧ w'.cell? ⟨gb, i * 4 + 1, none⟩ = some (.int .i64 x.kind) ∧ w'.cell? ⟨gb, i * 4 + 2, none⟩ = some (.int .u64 x.lab) ∧ w'.cell? ⟨gb, i * 4 + 3, none⟩ = some (.int .i64 x.att) ∧ w'.cell? ⟨gb, j * 4, none⟩ = some (.int .i64 y.n) ∧ w'.cell? ⟨gb, j * 4 + 1, none⟩ = some (.int .i64 y.kind) ∧ w'.cell? ⟨gb, j * 4 + 2, none⟩ = some (.int .u64 y.lab) ∧ w'.cell? ⟨gb, j * 4 + 3, none⟩ = some (.int .i64 y.att)) (ds := [21, 23]) #[false, false, false, false, false, false, false, false, false, false, false, false, false, false, false, false, false, false, false, false, false, false, false, false] (by kernel_rfl) rfl rfl ⟨kr, ki0, ki1, ki2, ki3, kj0, kj1, kj2, kj3⟩ (fun hHeld => ?_)
  refine pure_ (i := 0) (N := some 6) (v := ?_) (a' := ?_) #[true, false, false, false, false, false, false, false, false, false, false, false, false, false, false, false, false, false, false, false, false, false, false, false] rfl rfl (by kernel_rfl) (fun _ _ _ h => h) (Or.inl ⟨by rfl, ?_⟩) ?_ ?_
  rotate_left
  · intro w'
    go_simp
    with_reducible rfl
  rotate_left
  · simp only [Act.put, List.setIfInBounds_toArray, List.set_cons_zero, List.set_cons_succ, i64_w, i32_w]
    rfl
  refine pure_ (i := 1) (N := some 7) (v := ?_) (a' := ?_) #[true, true, false, false, false, false, false, false, false, false, false, false, false, false, false, false, false, false, false, false, false, false, false, false] rfl rfl (by kernel_rfl) (fun _ _ _ h => h) (Or.inl ⟨by rfl, ?_⟩) ?_ ?_
  rotate_left
  · intro w'
    go_simp
    with_reducible rfl
  rotate_left
  · simp only [Act.put, List.setIfInBounds_toArray, List.set_cons_zero, List.set_cons_succ, i64_w, i32_w]
    rfl
  refine pure_ (i := 3) (N := some 9) (v := ?_) (a' := ?_) #[true, true, false, true, false, false, false, false, false, false, false, false, false, false, false, false, false, false, false, false, false, false, false, false] rfl rfl (by kernel_rfl) (fun _ _ _ h => h) (Or.inl ⟨by rfl, ?_⟩) ?_ ?_
  rotate_left
  · intro w'
    go_simp
    with_reducible rfl
  rotate_left
  · simp only [Act.put, List.setIfInBounds_toArray, List.set_cons_zero, List.set_cons_succ, i64_w, i32_w]
    rfl
  refine pure_ (i := 4) (N := some 10) (v := ?_) (a' := ?_) #[true, true, false, true, true, false, false, false, false, false, false, false, false, false, false, false, false, false, false, false, false, false, false, false] rfl rfl (by kernel_rfl) (fun _ _ _ h => h) (Or.inl ⟨by rfl, ?_⟩) ?_ ?_
  rotate_left
  · intro w'
    go_simp
    with_reducible rfl
  rotate_left
  · simp only [Act.put, List.setIfInBounds_toArray, List.set_cons_zero, List.set_cons_succ, i64_w, i32_w]
    rfl
  refine pure_ (i := 5) (N := some 11) (v := ?_) (a' := ?_) #[true, true, false, true, true, true, false, false, false, false, false, false, false, false, false, false, false, false, false, false, false, false, false, false] rfl rfl (by kernel_rfl) (fun _ _ _ h => h) (Or.inl ⟨by rfl, ?_⟩) ?_ ?_
  rotate_left
  · intro w'
    go_simp
    with_reducible rfl
  rotate_left
  · simp only [Act.put, List.setIfInBounds_toArray, List.set_cons_zero, List.set_cons_succ, i64_w, i32_w]
    rfl
  refine pure_ (i := 7) (N := some 13) (v := ?_) (a' := ?_) #[true, true, false, true, true, true, false, true, false, false, false, false, false, false, false, false, false, false, false, false, false, false, false, false] rfl rfl (by kernel_rfl) (fun _ _ _ h => h) (Or.inl ⟨by rfl, ?_⟩) ?_ ?_
  rotate_left
  · intro w'
    go_simp
    with_reducible rfl
  rotate_left
  · simp only [Act.put, List.setIfInBounds_toArray, List.set_cons_zero, List.set_cons_succ, i64_w, i32_w]
    rfl
  refine pure_ (i := 8) (N := some 14) (v := ?_) (a' := ?_) #[true, true, false, true, true, true, false, true, true, false, false, false, false, false, false, false, false, false, false, false, false, false, false, false] rfl rfl (by kernel_rfl) (fun _ _ _ h => h) (Or.inl ⟨by rfl, ?_⟩) ?_ ?_
  rotate_left
  · intro w'
    go_simp
    with_reducible rfl
  rotate_left
  · simp only [Act.put, List.setIfInBounds_toArray, List.set_cons_zero, List.set_cons_succ, i64_w, i32_w]
    rfl
  refine pure_ (i := 9) (N := some 15) (v := ?_) (a' := ?_) #[true, true, false, true, true, true, false, true, true, true, false, false, false, false, false, false, false, false, false, false, false, false, false, false] rfl rfl (by kernel_rfl) (fun _ _ _ h => h) (Or.inl ⟨by rfl, ?_⟩) ?_ ?_
  rotate_left
  · intro w'
    go_simp
    with_reducible rfl
  rotate_left
  · simp only [Act.put, List.setIfInBounds_toArray, List.set_cons_zero, List.set_cons_succ, i64_w, i32_w]
    rfl
  refine pure_ (i := 11) (N := some 17) (v := ?_) (a' := ?_) #[true, true, false, true, true, true, false, true, true, true, false, true, false, false, false, false, false, false, false, false, false, false, false, false] rfl rfl (by kernel_rfl) (fun _ _ _ h => h) (Or.inl ⟨by rfl, ?_⟩) ?_ ?_
  rotate_left
  · intro w'
    go_simp
    with_reducible rfl
  rotate_left
  · simp only [Act.put, List.setIfInBounds_toArray, List.set_cons_zero, List.set_cons_succ, i64_w, i32_w]
    rfl
  refine pure_ (i := 14) (N := some 20) (v := ?_) (a' := ?_) #[true, true, false, true, true, true, false, true, true, true, false, true, false, false, true, false, false, false, false, false, false, false, false, false] rfl rfl (by kernel_rfl) (fun _ _ _ h => h) (Or.inl ⟨by rfl, ?_⟩) ?_ ?_
  rotate_left
  · intro w'
    go_simp
    with_reducible rfl
  rotate_left
  · simp only [Act.put, List.setIfInBounds_toArray, List.set_cons_zero, List.set_cons_succ, i64_w, i32_w]
    rfl
  refine pure_ (i := 15) (N := some 21) (v := ?_) (a' := ?_) #[true, true, false, true, true, true, false, true, true, true, false, true, false, false, true, true, false, false, false, false, false, false, false, false] rfl rfl (by kernel_rfl) (fun _ _ _ h => h) (Or.inl ⟨by rfl, ?_⟩) ?_ ?_
  rotate_left
  · intro w'
    go_simp
    with_reducible rfl
  rotate_left
  · simp only [Act.put, List.setIfInBounds_toArray, List.set_cons_zero, List.set_cons_succ, i64_w, i32_w]
    rfl
  refine pure_ (i := 17) (N := some 23) (v := ?_) (a' := ?_) #[true, true, false, true, true, true, false, true, true, true, false, true, false, false, true, true, false, true, false, false, false, false, false, false] rfl rfl (by kernel_rfl) (fun _ _ _ h => h) (Or.inl ⟨by rfl, ?_⟩) ?_ ?_
  rotate_left
  · intro w'
    go_simp
    with_reducible rfl
  rotate_left
  · simp only [Act.put, List.setIfInBounds_toArray, List.set_cons_zero, List.set_cons_succ, i64_w, i32_w]
    rfl
  refine take_ (i := 2) (N := some 8) (v := ?_) (a' := ?_) #[true, true, true, true, true, true, false, true, true, true, false, true, false, false, true, true, false, true, false, false, false, false, false, false] rfl rfl (by kernel_rfl) (fun _ _ _ h => h) (Or.inl ⟨by rfl, ?_⟩) hHeld ?_ ?_
  rotate_left
  · rintro w' ⟨s0, s1, s2, s3, s4, s5, s6, s7, s8⟩
    go_simp
    with_reducible rfl
  rotate_left
  · simp only [Act.put, List.setIfInBounds_toArray, List.set_cons_zero, List.set_cons_succ, i64_w, i32_w]
    rfl
  refine take_ (i := 6) (N := some 12) (v := ?_) (a' := ?_) #[true, true, true, true, true, true, true, true, true, true, false, true, false, false, true, true, false, true, false, false, false, false, false, false] rfl rfl (by kernel_rfl) (fun _ _ _ h => h) (Or.inl ⟨by rfl, ?_⟩) hHeld ?_ ?_
  rotate_left
  · rintro w' ⟨s0, s1, s2, s3, s4, s5, s6, s7, s8⟩
    go_simp
    with_reducible rfl
  rotate_left
  · simp only [Act.put, List.setIfInBounds_toArray, List.set_cons_zero, List.set_cons_succ, i64_w, i32_w]
    rfl
  refine take_ (i := 10) (N := some 16) (v := ?_) (a' := ?_) #[true, true, true, true, true, true, true, true, true, true, true, true, false, false, true, true, false, true, false, false, false, false, false, false] rfl rfl (by kernel_rfl) (fun _ _ _ h => h) (Or.inl ⟨by rfl, ?_⟩) hHeld ?_ ?_
  rotate_left
  · rintro w' ⟨s0, s1, s2, s3, s4, s5, s6, s7, s8⟩
    go_simp
    with_reducible rfl
  rotate_left
  · simp only [Act.put, List.setIfInBounds_toArray, List.set_cons_zero, List.set_cons_succ, i64_w, i32_w]
    rfl
  refine pure_ (i := 12) (N := some 18) (v := ?_) (a' := ?_) #[true, true, true, true, true, true, true, true, true, true, true, true, true, false, true, true, false, true, false, false, false, false, false, false] rfl rfl (by kernel_rfl) (fun _ _ _ h => h) (Or.inl ⟨by rfl, ?_⟩) ?_ ?_
  rotate_left
  · intro w'
    go_simp
    with_reducible rfl
  rotate_left
  · simp only [Act.put, List.setIfInBounds_toArray, List.set_cons_zero, List.set_cons_succ, i64_w, i32_w]
    rfl
  refine take_ (i := 13) (N := some 19) (v := ?_) (a' := ?_) #[true, true, true, true, true, true, true, true, true, true, true, true, true, true, true, true, false, true, false, false, false, false, false, false] rfl rfl (by kernel_rfl) (fun _ _ _ h => h) (Or.inl ⟨by rfl, ?_⟩) hHeld ?_ ?_
  rotate_left
  · rintro w' ⟨s0, s1, s2, s3, s4, s5, s6, s7, s8⟩
    go_simp
    with_reducible rfl
  rotate_left
  · simp only [Act.put, List.setIfInBounds_toArray, List.set_cons_zero, List.set_cons_succ, i64_w, i32_w]
    rfl
  refine take_ (i := 16) (N := some 22) (v := ?_) (a' := ?_) #[true, true, true, true, true, true, true, true, true, true, true, true, true, true, true, true, true, true, false, false, false, false, false, false] rfl rfl (by kernel_rfl) (fun _ _ _ h => h) (Or.inl ⟨by rfl, ?_⟩) hHeld ?_ ?_
  rotate_left
  · rintro w' ⟨s0, s1, s2, s3, s4, s5, s6, s7, s8⟩
    go_simp
    with_reducible rfl
  rotate_left
  · simp only [Act.put, List.setIfInBounds_toArray, List.set_cons_zero, List.set_cons_succ, i64_w, i32_w]
    rfl
  refine pure_ (i := 18) (N := some 24) (v := ?_) (a' := ?_) #[true, true, true, true, true, true, true, true, true, true, true, true, true, true, true, true, true, true, true, false, false, false, false, false] rfl rfl (by kernel_rfl) (fun _ _ _ h => h) (Or.inl ⟨by rfl, ?_⟩) ?_ ?_
  rotate_left
  · intro w'
    go_simp
    with_reducible rfl
  rotate_left
  · simp only [Act.put, List.setIfInBounds_toArray, List.set_cons_zero, List.set_cons_succ, i64_w, i32_w]
    rfl
  refine take_ (i := 19) (N := some 25) (v := ?_) (a' := ?_) #[true, true, true, true, true, true, true, true, true, true, true, true, true, true, true, true, true, true, true, true, false, false, false, false] rfl rfl (by kernel_rfl) (fun _ _ _ h => h) (Or.inl ⟨by rfl, ?_⟩) hHeld ?_ ?_
  rotate_left
  · rintro w' ⟨s0, s1, s2, s3, s4, s5, s6, s7, s8⟩
    go_simp
    with_reducible rfl
  rotate_left
  · simp only [Act.put, List.setIfInBounds_toArray, List.set_cons_zero, List.set_cons_succ, i64_w, i32_w]
    rfl
  refine pure_ (i := 20) (N := some 26) (v := ?_) (a' := ?_) #[true, true, true, true, true, true, true, true, true, true, true, true, true, true, true, true, true, true, true, true, true, false, false, false] rfl rfl (by kernel_rfl) (fun _ _ _ h => h) (Or.inl ⟨by rfl, ?_⟩) ?_ ?_
  rotate_left
  · intro w'
    go_simp
    with_reducible rfl
  rotate_left
  · simp only [Act.put, List.setIfInBounds_toArray, List.set_cons_zero, List.set_cons_succ, i64_w, i32_w]
    rfl
  refine last_ (i := 21) (N := none) #[true, true, true, true, true, true, true, true, true, true, true, true, true, true, true, true, true, true, true, true, true, true, false, false] rfl rfl (by kernel_rfl) (by decide) (fun K hK => ?_)
  refine skip_ (w1 := ?_) (by rfl) rfl ?_ ?_
  rotate_left
  · go_simp
    rfl
  refine hK.out _ _ ?_
  clear hK K
  refine pure_ (i := 22) (N := some 27) (v := ?_) (a' := ?_) #[true, true, true, true, true, true, true, true, true, true, true, true, true, true, true, true, true, true, true, true, true, true, true, false] rfl rfl (by kernel_rfl) (fun _ _ _ h => h) (Or.inl ⟨by rfl, ?_⟩) ?_ ?_
  rotate_left
  · intro w'
    go_simp
    with_reducible rfl
  rotate_left
  · simp only [Act.put, List.setIfInBounds_toArray, List.set_cons_zero, List.set_cons_succ, i64_w, i32_w]
    rfl
  refine last_ (i := 23) (N := none) #[true, true, true, true, true, true, true, true, true, true, true, true, true, true, true, true, true, true, true, true, true, true, true, true] rfl rfl (by kernel_rfl) (by decide) (fun K hK => ?_)
  refine skip_ (w1 := ?_) (by rfl) rfl ?_ ?_
  rotate_left
  · go_simp
    rfl
  refine hK.out _ _ ?_
  clear hK K
  refine done_ (by kernel_rfl) ?_
  go_wp2_with fail
  first | go_end0 | ((try simp only [Exit.inBlock, Exit.then]); refine bodyPost_ret (results_none rfl _ _ _) rfl ?_)
  have a1 : ((((((((w.setCell ⟨gb, i * 4, none⟩ (.int .i64 y.n)).setCell ⟨gb, i * 4 + 1, none⟩ (.int .i64 y.kind)).setCell ⟨gb, i * 4 + 2, none⟩ (.int .u64 y.lab)).setCell ⟨gb, i * 4 + 3, none⟩ (.int .i64 y.att)).setCell ⟨gb, j * 4, none⟩ (.int .i64 x.n)).setCell ⟨gb, j * 4 + 1, none⟩ (.int .i64 x.kind)).setCell ⟨gb, j * 4 + 2, none⟩ (.int .u64 x.lab)).setCell ⟨gb, j * 4 + 3, none⟩ (.int .i64 x.att)).heap[g]? = some (.cells (wcells (.slice (some ⟨gb, 0, none⟩) l.length c) vm vl vn) 58 (0, 0)) := sets_at (i := j) x HNE.out (sets_at (i := i) y HNE.out HD.out)
  have a2 : Below w0.heap.size w0 ((((((((w.setCell ⟨gb, i * 4, none⟩ (.int .i64 y.n)).setCell ⟨gb, i * 4 + 1, none⟩ (.int .i64 y.kind)).setCell ⟨gb, i * 4 + 2, none⟩ (.int .u64 y.lab)).setCell ⟨gb, i * 4 + 3, none⟩ (.int .i64 y.att)).setCell ⟨gb, j * 4, none⟩ (.int .i64 x.n)).setCell ⟨gb, j * 4 + 1, none⟩ (.int .i64 x.kind)).setCell ⟨gb, j * 4 + 2, none⟩ (.int .u64 x.lab)).setCell ⟨gb, j * 4 + 3, none⟩ (.int .i64 x.att)) := sets_below (i := j) x (sets_below (i := i) y HBd.out HGB.out) HGB.out
  have a3 : Kept w ((((((((w.setCell ⟨gb, i * 4, none⟩ (.int .i64 y.n)).setCell ⟨gb, i * 4 + 1, none⟩ (.int .i64 y.kind)).setCell ⟨gb, i * 4 + 2, none⟩ (.int .u64 y.lab)).setCell ⟨gb, i * 4 + 3, none⟩ (.int .i64 y.att)).setCell ⟨gb, j * 4, none⟩ (.int .i64 x.n)).setCell ⟨gb, j * 4 + 1, none⟩ (.int .i64 x.kind)).setCell ⟨gb, j * 4 + 2, none⟩ (.int .u64 x.lab)).setCell ⟨gb, j * 4 + 3, none⟩ (.int .i64 x.att)) (Fo g (.slice (some ⟨gb, 0, none⟩) l.length c)) := sets_kept (i := j) x (sets_kept (i := i) y HKd.out (.inl (.inr rfl))) (.inl (.inr rfl))
  have a4 := P2.out
  clear P2 HKd HBd
  revert a1 a2 a3 a4
  generalize ((((((((w.setCell ⟨gb, i * 4, none⟩ (.int .i64 y.n)).setCell ⟨gb, i * 4 + 1, none⟩ (.int .i64 y.kind)).setCell ⟨gb, i * 4 + 2, none⟩ (.int .u64 y.lab)).setCell ⟨gb, i * 4 + 3, none⟩ (.int .i64 y.att)).setCell ⟨gb, j * 4, none⟩ (.int .i64 x.n)).setCell ⟨gb, j * 4 + 1, none⟩ (.int .i64 x.kind)).setCell ⟨gb, j * 4 + 2, none⟩ (.int .u64 x.lab)).setCell ⟨gb, j * 4 + 3, none⟩ (.int .i64 x.att)) = X
  intro a1 a2 a3 a4
  exact ⟨rfl, _, ⟨blk_drew a1, a4⟩, below_drew a2, a3.drew, .inl rfl⟩
set_option maxHeartbeats 4000000 in
theorem hpop_c (w0 : World) (g : Nat) (v vm vl vn : Value) (l : List Tm) (n : Nat) (hn : l.length = n + 1) (x : Tm) (hx : at_ zT l n = x) (w : World) (h : IsF w0 w g v vm vl vn l) (hB : Below w0.heap.size w0 w) (hg : w0.heap.size ≤ g) : Calls Try.prog 49 #[.pointer (some ⟨g, 0, none⟩)] w fun e w' => e = .returned (.iface 37 (.agg #[.int .i64 x.n, .int .i64 x.kind, .int .u64 x.lab, .int .i64 x.att])) ∧ PostF w0 w g v vm vl vn (l.take n) w' := by
  have hc := h.c0
  have hf := h.free 0
  have hgl := h.lt
  obtain ⟨A, c, rfl, hac, hm⟩ := h.ls.form
  have gx := at_get zT (show n < l.length by omega)
  rw [hx] at gx
  obtain ⟨gb, rfl, hgb, hgbl, ⟨ki0, ki1, ki2, ki3⟩, _⟩ := ls_at h.ls gx
  have H := Aside0.mk h
  have HN := Aside0.mk hn
  have HG := Aside0.mk hg
  have hm2 : n + 1 ≤ maxLen := by rw [← hn]; exact hm
  unfold maxLen at hm2
  have e1 : wrap64 ((n : Int) + 1 - 1) = n := by rw [show (n : Int) + 1 - 1 = n by omega]; exact Base.w64 (by omega) (by omega)
  have hnc : n ≤ c := by omega
  have huT := Try.underlying37
  rw [hn] at hc
  have HB := Aside0.mk hB
  obtain ⟨wa, hwa⟩ : ∃ wa, w.alloc (.cells #[.int .i64 x.n, .int .i64 x.kind, .int .u64 x.lab, .int .i64 x.att] 37) = wa := ⟨_, rfl⟩
  obtain ⟨nb, hnb⟩ : ∃ nb, w.heap.size = nb := ⟨_, rfl⟩
  have hba : Below w.heap.size w wa := by rw [← hwa]; exact below_alloc (Below.refl _ _) _
  have hnw : wa.heap[nb]? = some (.cells #[.int .i64 x.n, .int .i64 x.kind, .int .u64 x.lab, .int .i64 x.att] 37 (0, 0)) := by rw [← hwa, ← hnb]; exact blk_new _ _
  have x0 := blk_cell hnw 0; have x1 := blk_cell hnw 1; have x2 := blk_cell hnw 2; have x3 := blk_cell hnw 3
  have ha := h.below hba
  have y0 := ha.c0; have y1 := ha.free 0
  rw [hn] at y0
  have hne1 : (nb == g) = false := by simp; omega
  have hne2 : (g == nb) = false := by simp; omega
  have HA := Aside0.mk ha
  have HBA := Aside0.mk hba
  clear h hx hg hm hn hB gx hba hnw ha
  go_enter Try.func49, Try.ntmps49
  go_upto_region 3 with (fail)
  go_wp2_with fail
  go_ret
  have q := ls_cut HA.out.ls (show n ≤ l.length by have := HN.out; omega)
  exact ⟨rfl, _, ⟨blk_set HA.out.1 0 _, q.far (p := ⟨g, 0, none⟩) (by have := HA.out.ne; exact this) _⟩, below_set (below_then HB.out HB.out.size HBA.out) HG.out, ((Kept.refl w _).below HBA.out).setCell (p := ⟨g, 0, none⟩) (.inl (.inl rfl)) _, .inl rfl⟩
theorem append_exec {P : Program} {oi : Oper} {a : Act} {w w1 : World} {v1 vs vx : Value} (s x : Operand) (t : TypeId) (ho : oi.op = .call { callee := .builtin .append, args := #[s, x], argTypes := #[t, t] }) (hs : a.eval s = vs) (hx : a.eval x = vx)
    (hr : (Builtin.append_ #[t, t] oi.type #[vs, vx]).run P w = .ok v1 w1) : (execOp a.eval oi).run P w = .ok (.value v1) w1 := by
  unfold execOp
  simp only [ho, resolve, invoke, builtin, Sem.run_bind, Sem.run_pure, Result.andThen_ok, List.map_toArray, List.map_cons, List.map_nil, hs, hx, hr]
set_option maxHeartbeats 8000000 in
theorem hpush_c (w0 : World) (g : Nat) (v vm vl vn : Value) (l : List Tm) (x : Tm) (hl : l.length ≤ 1000000) (w : World) (h : IsF w0 w g v vm vl vn l) (hB : Below w0.heap.size w0 w) (hg : w0.heap.size ≤ g) : Calls Try.prog 50 #[.pointer (some ⟨g, 0, none⟩), .iface 37 (.agg #[.int .i64 x.n, .int .i64 x.kind, .int .u64 x.lab, .int .i64 x.att])] w fun e w' => e = .returned (.tuple #[]) ∧ PostF w0 w g v vm vl vn (l ++ [x]) w' := by
  obtain ⟨A, c, rfl, hac, hm⟩ := h.ls.form
  obtain ⟨wa, hwa⟩ : ∃ wa, w.alloc (.cells #[.int .i64 x.n, .int .i64 x.kind, .int .u64 x.lab, .int .i64 x.att] 37) = wa := ⟨_, rfl⟩
  obtain ⟨nb, hnb⟩ : ∃ nb, w.heap.size = nb := ⟨_, rfl⟩
  have hba : Below w.heap.size w wa := by rw [← hwa]; exact below_alloc (Below.refl _ _) _
  have hnw : (World.drew wa).heap[nb]? = some (.cells #[.int .i64 x.n, .int .i64 x.kind, .int .u64 x.lab, .int .i64 x.att] 37 (0, 0)) := by rw [← hwa, ← hnb]; exact blk_new _ _
  have ha := h.below hba
  have had := ha.drew 1
  have hbd : Below w0.heap.size w0 (World.drew wa) := below_drew (below_then hB hB.size hba)
  have hls : Ls encT 37 (World.drew wa) w0.heap.size (.slice A l.length c) l := ha.ls
  obtain ⟨nc, hnc⟩ : ∃ nc, (World.drew wa).heap.size = nc := ⟨_, rfl⟩
  obtain ⟨v1, w2, hr, h1, h2, h3⟩ := push_run (d := encT) (P := Try.prog) (W := World.drew wa) 55 55 37 _ 32 Try.underlying55 info37 rfl w0.heap.size (.slice A l.length c) l x nc hnc.symm #[.int .i64 x.n, .int .i64 x.kind, .int .u64 x.lab, .int .i64 x.att] rfl hls hbd.size (by omega) (by decide)
  obtain ⟨A1, c1, rfl, _, _⟩ := h1.form
  have k0 : (World.drew wa).cell? ⟨g, 0, none⟩ = some (.slice A l.length c) := ha.c0
  have k1 := blk_cell hnw 0; have k2 := blk_cell hnw 1; have k3 := blk_cell hnw 2; have k4 := blk_cell hnw 3
  have hbb : Below (World.drew wa).heap.size (World.drew wa) ((World.drew wa).alloc (.cells #[.int .i64 x.n, .int .i64 x.kind, .int .u64 x.lab, .int .i64 x.att] 37)) := below_alloc (Below.refl _ _) _
  have m0 := pw_cell_below hbb k0; have m1 := pw_cell_below hbb k1; have m2 := pw_cell_below hbb k2; have m3 := pw_cell_below hbb k3; have m4 := pw_cell_below hbb k4
  have hG := IsF.grown_ (show IsF w0 (World.drew wa) g (.slice A l.length c) vm vl vn l from ha) h2
  have y0 := hG.c0; have y1 := hG.free 0
  have HG2 := Aside0.mk hG
  have H1 := Aside0.mk h1; have H2 := Aside0.mk h2; have H3 := Aside0.mk h3; have HBD := Aside0.mk hbd; have HLS := Aside0.mk hls
  have HBA := Aside0.mk hba; have HG := Aside0.mk hg
  obtain ⟨n, hn⟩ : ∃ n, l.length = n := ⟨_, rfl⟩
  have HN := Aside0.mk hn
  rw [hn] at k0 m0 hr y0
  obtain ⟨n2, hn2⟩ : ∃ n, (l ++ [x]).length = n := ⟨_, rfl⟩
  rw [hn2] at hr
  have HN2 := Aside0.mk hn2
  clear h hB hg hm hl hba hnw ha had hbd hls h1 h2 h3 hbb hG hn hn2
  have hta := ta_run
  have huT := Try.underlying37
  go_enter Try.func50, Try.ntmps50
  go_upto_region 2 with (fail)
  refine start_ (n := 9) (S := fun w' => w'.cell? ⟨g, 0, none⟩ = some (.slice A n c) ∧ w'.cell? ⟨nb, 0, none⟩ = some (.int .i64 x.n) ∧ w'.cell? ⟨nb, 1, none⟩ = some (.int .i64 x.kind) ∧ w'.cell? ⟨nb, 2, none⟩ = some (.int .u64 x.lab) ∧ w'.cell? ⟨nb, 3, none⟩ = some (.int .i64 x.att)) (ds := [6, 8]) #[false, false, false, false, false, false, false, false, false] (by kernel_rfl) rfl rfl ⟨k0, k1, k2, k3, k4⟩ (fun hHeld => ?_)
  refine pure_ (i := 0) (N := some 12) (v := ?_) (a' := ?_) #[true, false, false, false, false, false, false, false, false] rfl rfl (by kernel_rfl) (fun _ _ _ h => h) (Or.inl ⟨by rfl, ?_⟩) ?_ ?_
  rotate_left
  · intro w'
    go_simp
    with_reducible rfl
  rotate_left
  · simp only [Act.put, List.setIfInBounds_toArray, List.set_cons_zero, List.set_cons_succ, i64_w, i32_w]
    rfl
  refine pure_ (i := 1) (N := some 13) (v := ?_) (a' := ?_) #[true, true, false, false, false, false, false, false, false] rfl rfl (by kernel_rfl) (fun _ _ _ h => h) (Or.inl ⟨by rfl, ?_⟩) ?_ ?_
  rotate_left
  · intro w'
    go_simp
    with_reducible rfl
  rotate_left
  · simp only [Act.put, List.setIfInBounds_toArray, List.set_cons_zero, List.set_cons_succ, i64_w, i32_w]
    rfl
  refine pure_ (i := 2) (N := some 14) (v := ?_) (a' := ?_) #[true, true, true, false, false, false, false, false, false] rfl rfl (by kernel_rfl) (fun _ _ _ h => h) (Or.inl ⟨by rfl, ?_⟩) ?_ ?_
  rotate_left
  · intro w'
    go_simp
    with_reducible rfl
  rotate_left
  · simp only [Act.put, List.setIfInBounds_toArray, List.set_cons_zero, List.set_cons_succ, i64_w, i32_w]
    rfl
  refine take_ (i := 3) (N := some 15) (v := ?_) (a' := ?_) #[true, true, true, true, false, false, false, false, false] rfl rfl (by kernel_rfl) (fun _ _ _ h => h) (Or.inl ⟨by rfl, ?_⟩) hHeld ?_ ?_
  rotate_left
  · rintro w' ⟨s0, s1, s2, s3, s4⟩
    go_simp
    with_reducible rfl
  rotate_left
  · simp only [Act.put, List.setIfInBounds_toArray, List.set_cons_zero, List.set_cons_succ, i64_w, i32_w]
    rfl
  refine take_ (i := 4) (N := some 16) (v := ?_) (a' := ?_) #[true, true, true, true, true, false, false, false, false] rfl rfl (by kernel_rfl) (fun _ _ _ h => h) (Or.inl ⟨by rfl, ?_⟩) hHeld ?_ ?_
  rotate_left
  · rintro w' ⟨s0, s1, s2, s3, s4⟩
    go_simp
    with_reducible rfl
  rotate_left
  · simp only [Act.put, List.setIfInBounds_toArray, List.set_cons_zero, List.set_cons_succ, i64_w, i32_w]
    rfl
  refine one_ (i := 5) (N := some 17) #[true, true, true, true, true, true, false, false, false] rfl rfl (by kernel_rfl) (by decide) (fun K hK => ?_)
  refine value_ (w1 := ?_) (v := ?_) (by rfl) rfl ?_ ?_
  rotate_left 2
  · go_simp
    constructor
    · rfl
    · rfl
  refine hK.out _ _ ⟨m0, m1, m2, m3, m4⟩ (fun hHeld => ?_)
  clear hK K
  refine norm_ (a' := ?_) ?_ ?_
  rotate_left
  · show Act.put _ (some 17) _ = _
    simp only [Act.put, List.setIfInBounds_toArray, List.set_cons_zero, List.set_cons_succ, i64_w, i32_w]
    rfl
  refine last_ (i := 6) (N := some 18) #[true, true, true, true, true, true, true, false, false] rfl rfl (by kernel_rfl) (by decide) (fun K hK => ?_)
  refine value_ (w1 := w2) (by rfl) rfl (append_exec _ _ 55 rfl rfl rfl hr) ?_
  refine hK.out _ _ ?_
  clear hK K
  refine norm_ (a' := ?_) ?_ ?_
  rotate_left
  · show Act.put _ (some 18) _ = _
    simp only [Act.put, List.setIfInBounds_toArray, List.set_cons_zero, List.set_cons_succ, i64_w, i32_w]
    rfl
  refine pure_ (i := 7) (N := some 19) (v := ?_) (a' := ?_) #[true, true, true, true, true, true, true, true, false] rfl rfl (by kernel_rfl) (fun _ _ _ h => h) (Or.inl ⟨by rfl, ?_⟩) ?_ ?_
  rotate_left
  · intro w'
    go_simp
    with_reducible rfl
  rotate_left
  · simp only [Act.put, List.setIfInBounds_toArray, List.set_cons_zero, List.set_cons_succ, i64_w, i32_w]
    rfl
  refine last_ (i := 8) (N := none) #[true, true, true, true, true, true, true, true, true] rfl rfl (by kernel_rfl) (by decide) (fun K hK => ?_)
  refine skip_ (w1 := ?_) (by rfl) rfl ?_ ?_
  rotate_left
  · go_simp
    rfl
  refine hK.out _ _ ?_
  clear hK K
  refine done_ (by kernel_rfl) ?_
  go_wp2_with fail
  first | go_end0 | ((try simp only [Exit.inBlock, Exit.then]); refine bodyPost_ret (results_none rfl _ _ _) rfl ?_)
  have q := H1.out
  rw [HN2.out] at q
  have b := HG2.out.blk
  have h3 := H3.out
  rw [HN2.out] at h3
  have k2 := Kept.of_grown H2.out (((Kept.refl w (Fo g (.slice A l.length c))).below HBA.out).drew) (fun k hk => .inl (.inr hk))
  refine ⟨rfl, _, ⟨blk_set b 0 _, q.far (p := ⟨g, 0, none⟩) (q.ne b (by decide)) _⟩, below_set (pw_below_grown HBD.out _ HBD.out.size H2.out (fun k hk => (HLS.out.own k hk).1)) HG.out, k2.setCell (p := ⟨g, 0, none⟩) (.inl (.inl rfl)) _, ?_⟩
  rcases h3 with h3 | ⟨b, h3, hb⟩
  · exact .inl h3
  · exact .inr ⟨b, h3, Nat.le_trans HBA.out.size hb⟩
/-! ### sifting -/
theorem m_len (p : Option Addr) (w : World) : (method 185 66 (.pointer p) "Len").run Try.prog w = .ok (47, .pointer p) w := by kernel_rfl
theorem m_less (p : Option Addr) (w : World) : (method 185 66 (.pointer p) "Less").run Try.prog w = .ok (48, .pointer p) w := by kernel_rfl
theorem m_pop (p : Option Addr) (w : World) : (method 185 66 (.pointer p) "Pop").run Try.prog w = .ok (49, .pointer p) w := by kernel_rfl
theorem m_push (p : Option Addr) (w : World) : (method 185 66 (.pointer p) "Push").run Try.prog w = .ok (50, .pointer p) w := by kernel_rfl
theorem m_swap (p : Option Addr) (w : World) : (method 185 66 (.pointer p) "Swap").run Try.prog w = .ok (51, .pointer p) w := by kernel_rfl
def ptr (g : Nat) : Value := .iface 66 (.pointer (some ⟨g, 0, none⟩))
set_option maxHeartbeats 8000000 in
theorem down_c (w0 : World) (g : Nat) (v vm vl vn : Value) (l : List Tm) (n : Nat) (hn : n ≤ l.length) (hl : l.length ≤ 1000000) (hl0 : 0 < l.length) (l' : List Tm) (hl' : downV zT ltT n n l 0 = l') (w : World) (h : IsF w0 w g v vm vl vn l) (hB : Below w0.heap.size w0 w) :
    Calls Try.prog 28 #[.iface 66 (.pointer (some ⟨g, 0, none⟩)), .int .i64 0, .int .i64 (n : Int)] w fun e w' => (∃ z, e = .returned z) ∧ PostF w0 w g v vm vl vn l' w' := by
  have HN := Aside0.mk hn; have HL := Aside0.mk hl; have HL0 := Aside0.mk hl0; have HT := Aside0.mk hl'
  have HP := Aside0.mk (PostF.refl h hB)
  clear hn hl hl0 hl' h hB
  have hml := m_less; have hms := m_swap
  go_enter Try.func28, Try.ntmps28
  go_wp2_with fail
  go_loopw [7] (fun vi wr => ∃ (i f : Nat) (l1 : List Tm), vi = .int .i64 i ∧ Aside0 (i < l.length ∧ n ≤ i + f ∧ l1.length = l.length) ∧ Aside0 (downV zT ltT n f l1 i = l') ∧ Aside0 (PostF w0 w g v vm vl vn l1 wr)) (fun vi _ => (n - intOf vi).toNat)
  case atStart => exact ⟨0, n, l, rfl, ⟨HL0.out, by omega, rfl⟩, HT, HP⟩
  case round =>
    obtain ⟨i, f, l1, rfl, HI, HQ, HP1⟩ := hrel
    obtain ⟨v1, hf1, hb1, hk1, ho1⟩ := HP1.out
    have i1 := HI.out.1; have i2 := HI.out.2.1; have i3 := HI.out.2.2
    have n1 := HN.out; have n2 := HL.out
    have HF := Aside0.mk hf1; have HB := Aside0.mk hb1; have HK := Aside0.mk hk1; have HO := Aside0.mk ho1
    clear hf1 hb1 hk1 ho1
    have e1 : wrap64 (2 * (i : Int)) = 2 * i := Base.w64 (by omega) (by omega)
    have e2 : wrap64 (2 * (i : Int) + 1) = 2 * i + 1 := Base.w64 (by omega) (by omega)
    have e3 : wrap64 (2 * (i : Int) + 1 + 1) = 2 * i + 1 + 1 := Base.w64 (by omega) (by omega)
    by_cases h1 : 2 * i + 1 < n
    · obtain ⟨f, rfl⟩ : ∃ f', f = f' + 1 := ⟨f - 1, by omega⟩
      have q := HQ.out
      unfold downV at q
      rw [if_pos h1] at q
      dsimp only at q
      have d1 : decide ((n : Int) ≤ 2 * (i : Int) + 1) = false := by simp; omega
      have d2 : decide (2 * (i : Int) + 1 < 0) = false := by simp; omega
      by_cases h2 : 2 * i + 2 < n
      · have d3 : decide (2 * (i : Int) + 1 + 1 < (n : Int)) = true := by simp; omega
        cases r1 : ltT (at_ zT l1 (2 * i + 2)) (at_ zT l1 (2 * i + 1))
        · have hj : (if 2 * i + 2 < n ∧ ltT (at_ zT l1 (2 * i + 2)) (at_ zT l1 (2 * i + 1)) = true then 2 * i + 2 else 2 * i + 1) = 2 * i + 1 := if_neg (fun e => by rw [r1] at e; simp at e)
          rw [hj] at q
          cases r2 : ltT (at_ zT l1 (2 * i + 1)) (at_ zT l1 i)
          · try clear hj
            rw [r2] at q
            simp only [Bool.false_eq_true, if_false] at q
            subst q
            clear HQ
            go_wp2_with (first | (show Calls Try.prog 48 _ _ _; go_at_call 48; (refine (less_c w0 g v1 vm vl vn l1 (2 * i + 2) (2 * i + 1) _ _ (by omega) (by omega) (by omega) (by omega) false r1 _ HF.out).mono ?_); rintro e w9 ⟨rfl, hb9⟩; have HF := Aside0.mk (HF.out.below hb9); have HB := Aside0.mk (below_then HB.out HB.out.size hb9); have HK := Aside0.mk (HK.out.below hb9); clear hb9) | (show Calls Try.prog 48 _ _ _; go_at_call 48; (refine (less_c w0 g v1 vm vl vn l1 (2 * i + 1) (i) _ _ (by omega) (by omega) (by omega) (by omega) false r2 _ HF.out).mono ?_); rintro e w9 ⟨rfl, hb9⟩; have HF := Aside0.mk (HF.out.below hb9); have HB := Aside0.mk (below_then HB.out HB.out.size hb9); have HK := Aside0.mk (HK.out.below hb9); clear hb9))
            go_ret
            exact ⟨⟨_, rfl⟩, v1, HF.out, HB.out, HK.out, HO.out⟩
          · try clear hj
            rw [r2] at q
            simp only [if_true] at q
            have HQ2 := Aside0.mk q
            clear q HQ
            go_wp2_with (first | (show Calls Try.prog 48 _ _ _; go_at_call 48; (refine (less_c w0 g v1 vm vl vn l1 (2 * i + 2) (2 * i + 1) _ _ (by omega) (by omega) (by omega) (by omega) false r1 _ HF.out).mono ?_); rintro e w9 ⟨rfl, hb9⟩; have HF := Aside0.mk (HF.out.below hb9); have HB := Aside0.mk (below_then HB.out HB.out.size hb9); have HK := Aside0.mk (HK.out.below hb9); clear hb9) | (show Calls Try.prog 48 _ _ _; go_at_call 48; (refine (less_c w0 g v1 vm vl vn l1 (2 * i + 1) (i) _ _ (by omega) (by omega) (by omega) (by omega) true r2 _ HF.out).mono ?_); rintro e w9 ⟨rfl, hb9⟩; have HF := Aside0.mk (HF.out.below hb9); have HB := Aside0.mk (below_then HB.out HB.out.size hb9); have HK := Aside0.mk (HK.out.below hb9); clear hb9) | (show Calls Try.prog 51 _ _ _; go_at_call 51; (refine (swap_c w0 g v1 vm vl vn l1 (i) (2 * i + 1) _ _ (by omega) (by omega) (by omega) (by omega) _ rfl _ HF.out HB.out).mono ?_); rintro e w9 ⟨rfl, hp⟩; have HP2 := Aside0.mk (PostF.trans HK.out HO.out hp); clear hp))
            go_roundw
            case rel => exact ⟨2 * i + 1, f, _, by go_num, ⟨by omega, by omega, by rw [sw_len]; exact i3⟩, HQ2, HP2⟩
            case measure => simp [intOf]; omega
        · have hj : (if 2 * i + 2 < n ∧ ltT (at_ zT l1 (2 * i + 2)) (at_ zT l1 (2 * i + 1)) = true then 2 * i + 2 else 2 * i + 1) = 2 * i + 2 := if_pos ⟨h2, r1⟩
          rw [hj] at q
          cases r2 : ltT (at_ zT l1 (2 * i + 2)) (at_ zT l1 i)
          · try clear hj
            rw [r2] at q
            simp only [Bool.false_eq_true, if_false] at q
            subst q
            clear HQ
            go_wp2_with (first | (show Calls Try.prog 48 _ _ _; go_at_call 48; (refine (less_c w0 g v1 vm vl vn l1 (2 * i + 2) (2 * i + 1) _ _ (by omega) (by omega) (by omega) (by omega) true r1 _ HF.out).mono ?_); rintro e w9 ⟨rfl, hb9⟩; have HF := Aside0.mk (HF.out.below hb9); have HB := Aside0.mk (below_then HB.out HB.out.size hb9); have HK := Aside0.mk (HK.out.below hb9); clear hb9) | (show Calls Try.prog 48 _ _ _; go_at_call 48; (refine (less_c w0 g v1 vm vl vn l1 (2 * i + 2) (i) _ _ (by omega) (by omega) (by omega) (by omega) false r2 _ HF.out).mono ?_); rintro e w9 ⟨rfl, hb9⟩; have HF := Aside0.mk (HF.out.below hb9); have HB := Aside0.mk (below_then HB.out HB.out.size hb9); have HK := Aside0.mk (HK.out.below hb9); clear hb9))
            go_ret
            exact ⟨⟨_, rfl⟩, v1, HF.out, HB.out, HK.out, HO.out⟩
          · try clear hj
            rw [r2] at q
            simp only [if_true] at q
            have HQ2 := Aside0.mk q
            clear q HQ
            go_wp2_with (first | (show Calls Try.prog 48 _ _ _; go_at_call 48; (refine (less_c w0 g v1 vm vl vn l1 (2 * i + 2) (2 * i + 1) _ _ (by omega) (by omega) (by omega) (by omega) true r1 _ HF.out).mono ?_); rintro e w9 ⟨rfl, hb9⟩; have HF := Aside0.mk (HF.out.below hb9); have HB := Aside0.mk (below_then HB.out HB.out.size hb9); have HK := Aside0.mk (HK.out.below hb9); clear hb9) | (show Calls Try.prog 48 _ _ _; go_at_call 48; (refine (less_c w0 g v1 vm vl vn l1 (2 * i + 2) (i) _ _ (by omega) (by omega) (by omega) (by omega) true r2 _ HF.out).mono ?_); rintro e w9 ⟨rfl, hb9⟩; have HF := Aside0.mk (HF.out.below hb9); have HB := Aside0.mk (below_then HB.out HB.out.size hb9); have HK := Aside0.mk (HK.out.below hb9); clear hb9) | (show Calls Try.prog 51 _ _ _; go_at_call 51; (refine (swap_c w0 g v1 vm vl vn l1 (i) (2 * i + 2) _ _ (by omega) (by omega) (by omega) (by omega) _ rfl _ HF.out HB.out).mono ?_); rintro e w9 ⟨rfl, hp⟩; have HP2 := Aside0.mk (PostF.trans HK.out HO.out hp); clear hp))
            go_roundw
            case rel => exact ⟨2 * i + 2, f, _, by go_num, ⟨by omega, by omega, by rw [sw_len]; exact i3⟩, HQ2, HP2⟩
            case measure => simp [intOf]; omega
      · have d3 : decide (2 * (i : Int) + 1 + 1 < (n : Int)) = false := by simp; omega
        have hj : (if 2 * i + 2 < n ∧ ltT (at_ zT l1 (2 * i + 2)) (at_ zT l1 (2 * i + 1)) = true then 2 * i + 2 else 2 * i + 1) = 2 * i + 1 := if_neg (fun e => h2 e.1)
        rw [hj] at q
        cases r2 : ltT (at_ zT l1 (2 * i + 1)) (at_ zT l1 i)
        · try clear hj
          rw [r2] at q
          simp only [Bool.false_eq_true, if_false] at q
          subst q
          clear HQ
          go_wp2_with (first | (show Calls Try.prog 48 _ _ _; go_at_call 48; (refine (less_c w0 g v1 vm vl vn l1 (2 * i + 1) (i) _ _ (by omega) (by omega) (by omega) (by omega) false r2 _ HF.out).mono ?_); rintro e w9 ⟨rfl, hb9⟩; have HF := Aside0.mk (HF.out.below hb9); have HB := Aside0.mk (below_then HB.out HB.out.size hb9); have HK := Aside0.mk (HK.out.below hb9); clear hb9))
          go_ret
          exact ⟨⟨_, rfl⟩, v1, HF.out, HB.out, HK.out, HO.out⟩
        · try clear hj
          rw [r2] at q
          simp only [if_true] at q
          have HQ2 := Aside0.mk q
          clear q HQ
          go_wp2_with (first | (show Calls Try.prog 48 _ _ _; go_at_call 48; (refine (less_c w0 g v1 vm vl vn l1 (2 * i + 1) (i) _ _ (by omega) (by omega) (by omega) (by omega) true r2 _ HF.out).mono ?_); rintro e w9 ⟨rfl, hb9⟩; have HF := Aside0.mk (HF.out.below hb9); have HB := Aside0.mk (below_then HB.out HB.out.size hb9); have HK := Aside0.mk (HK.out.below hb9); clear hb9) | (show Calls Try.prog 51 _ _ _; go_at_call 51; (refine (swap_c w0 g v1 vm vl vn l1 (i) (2 * i + 1) _ _ (by omega) (by omega) (by omega) (by omega) _ rfl _ HF.out HB.out).mono ?_); rintro e w9 ⟨rfl, hp⟩; have HP2 := Aside0.mk (PostF.trans HK.out HO.out hp); clear hp))
          go_roundw
          case rel => exact ⟨2 * i + 1, f, _, by go_num, ⟨by omega, by omega, by rw [sw_len]; exact i3⟩, HQ2, HP2⟩
          case measure => simp [intOf]; omega
    · have q : l1 = l' := by
        have q := HQ.out
        cases f with
        | zero => exact q
        | succ f => unfold downV at q; rw [if_neg h1] at q; exact q
      subst q
      go_wp2_with fail
      go_ret
      exact ⟨⟨_, rfl⟩, HP1.out⟩
set_option maxHeartbeats 8000000 in
theorem up_c (w0 : World) (g : Nat) (v vm vl vn : Value) (l : List Tm) (j0 : Nat) (hj : j0 < l.length) (hl : l.length ≤ 1000000) (l' : List Tm) (hl' : upV zT ltT j0 l j0 = l') (a : Int) (ha : a = (j0 : Int)) (w : World) (h : IsF w0 w g v vm vl vn l) (hB : Below w0.heap.size w0 w) :
    Calls Try.prog 27 #[.iface 66 (.pointer (some ⟨g, 0, none⟩)), .int .i64 a] w fun e w' => e = .returned (.tuple #[]) ∧ PostF w0 w g v vm vl vn l' w' := by
  subst ha
  have HL := Aside0.mk hl; have HL0 := Aside0.mk hj; have HT := Aside0.mk hl'
  have HP := Aside0.mk (PostF.refl h hB)
  clear hl hj hl' h hB
  have hml := m_less; have hms := m_swap
  go_enter Try.func27, Try.ntmps27
  go_wp2_with fail
  go_loopw [1] (fun vj wr => ∃ (j f : Nat) (l1 : List Tm), vj = .int .i64 j ∧ Aside0 (j < l.length ∧ j ≤ f ∧ l1.length = l.length) ∧ Aside0 (upV zT ltT f l1 j = l') ∧ Aside0 (PostF w0 w g v vm vl vn l1 wr)) (fun vj _ => (intOf vj).toNat)
  case atStart => exact ⟨j0, j0, l, rfl, ⟨HL0.out, Nat.le_refl _, rfl⟩, HT, HP⟩
  case round =>
    obtain ⟨j, f, l1, rfl, HI, HQ, HP1⟩ := hrel
    obtain ⟨v1, hf1, hb1, hk1, ho1⟩ := HP1.out
    have i1 := HI.out.1; have i2 := HI.out.2.1; have i3 := HI.out.2.2
    have n2 := HL.out
    have HF := Aside0.mk hf1; have HB := Aside0.mk hb1; have HK := Aside0.mk hk1; have HO := Aside0.mk ho1
    clear hf1 hb1 hk1 ho1
    cases j with
    | zero =>
      have q : l1 = l' := by
        have q := HQ.out
        cases f with
        | zero => exact q
        | succ f => unfold upV at q; rw [if_pos rfl] at q; exact q
      subst q
      have e0 : (((0 : Nat) : Int)) = 0 := rfl
      rw [e0]
      go_wp2_with fail
      go_end0
      exact ⟨rfl, HP1.out⟩
    | succ k =>
      obtain ⟨f, rfl⟩ : ∃ f', f = f' + 1 := ⟨f - 1, by omega⟩
      have ek : (((k + 1 : Nat)) : Int) = (k : Int) + 1 := by omega
      rw [ek]
      have q := HQ.out
      unfold upV at q
      rw [if_neg (Nat.succ_ne_zero k), show k + 1 - 1 = k by omega] at q
      obtain ⟨i, hi⟩ : ∃ i, k / 2 = i := ⟨_, rfl⟩
      rw [hi] at q
      have e1 : wrap64 ((k : Int) + 1 - 1) = k := by rw [show (k : Int) + 1 - 1 = k by omega]; exact Base.w64 (by omega) (by omega)
      have e2 : (k : Int).tdiv 2 = (i : Int) := by rw [← hi]; rfl
      have e3 : wrap64 ((i : Nat) : Int) = i := Base.w64 (by omega) (by omega)
      have e4 : ((i : Int) == (k : Int) + 1) = false := by simp; omega
      have e5 : wrap64 ((k : Int).tdiv 2) = (i : Int) := by rw [e2, e3]
      cases r2 : ltT (at_ zT l1 (k + 1)) (at_ zT l1 i)
      · rw [r2] at q
        simp only [Bool.false_eq_true, if_false] at q
        subst q
        clear HQ
        go_wp2_with (first | (show Calls Try.prog 48 _ _ _; go_at_call 48; (refine (less_c w0 g v1 vm vl vn l1 (k + 1) (i) _ _ (by omega) (by omega) (by omega) (by omega) false r2 _ HF.out).mono ?_); rintro e w9 ⟨rfl, hb9⟩; have HF := Aside0.mk (HF.out.below hb9); have HB := Aside0.mk (below_then HB.out HB.out.size hb9); have HK := Aside0.mk (HK.out.below hb9); clear hb9))
        go_end0
        exact ⟨rfl, v1, HF.out, HB.out, HK.out, HO.out⟩
      · rw [r2] at q
        simp only [if_true] at q
        have HQ2 := Aside0.mk q
        clear q HQ
        go_wp2_with (first | (show Calls Try.prog 48 _ _ _; go_at_call 48; (refine (less_c w0 g v1 vm vl vn l1 (k + 1) (i) _ _ (by omega) (by omega) (by omega) (by omega) true r2 _ HF.out).mono ?_); rintro e w9 ⟨rfl, hb9⟩; have HF := Aside0.mk (HF.out.below hb9); have HB := Aside0.mk (below_then HB.out HB.out.size hb9); have HK := Aside0.mk (HK.out.below hb9); clear hb9) | (show Calls Try.prog 51 _ _ _; go_at_call 51; (refine (swap_c w0 g v1 vm vl vn l1 (i) (k + 1) _ _ (by omega) (by omega) (by omega) (by omega) _ rfl _ HF.out HB.out).mono ?_); rintro e w9 ⟨rfl, hp⟩; have HP2 := Aside0.mk (PostF.trans HK.out HO.out hp); clear hp))
        go_roundw
        case rel => exact ⟨i, f, _, rfl, ⟨by omega, by omega, by rw [sw_len]; exact i3⟩, HQ2, HP2⟩
        case measure => simp [intOf]; omega
/-! ### the library's Pop and Push -/
set_option maxHeartbeats 8000000 in
theorem heappop_c (w0 : World) (g : Nat) (v vm vl vn : Value) (l : List Tm) (hl : l.length ≤ 1000000) (hl0 : 0 < l.length) (x : Tm) (l' : List Tm) (hx : popV zT ltT l = (x, l')) (w : World) (h : IsF w0 w g v vm vl vn l) (hB : Below w0.heap.size w0 w) (hg : w0.heap.size ≤ g) :
    Calls Try.prog 26 #[.iface 66 (.pointer (some ⟨g, 0, none⟩))] w fun e w' => e = .returned (.iface 37 (.agg #[.int .i64 x.n, .int .i64 x.kind, .int .u64 x.lab, .int .i64 x.att])) ∧ PostF w0 w g v vm vl vn l' w' := by
  obtain ⟨n, hn⟩ : ∃ n, l.length = n + 1 := ⟨l.length - 1, by omega⟩
  have e0 : l.length - 1 = n := by omega
  obtain ⟨l1, hl1⟩ : ∃ l1, sw zT l 0 n = l1 := ⟨_, rfl⟩
  have ln1 : l1.length = n + 1 := by rw [← hl1, sw_len, hn]
  obtain ⟨l2, hl2⟩ : ∃ l2, downV zT ltT n n l1 0 = l2 := ⟨_, rfl⟩
  have ep : popL zT ltT l = l2 := by unfold popL; rw [e0, hl1, hl2]
  have ln2 : l2.length = n + 1 := by
    rw [← hl2, down_len, ln1]
  unfold popV at hx
  rw [ep, e0] at hx
  simp only [Prod.mk.injEq] at hx
  obtain ⟨hx1, hx2⟩ := hx
  have HF := Aside0.mk h; have HB := Aside0.mk hB; have HG := Aside0.mk hg
  have H1 := Aside0.mk hl1; have H2 := Aside0.mk hl2; have H3 := Aside0.mk hx1; have H4 := Aside0.mk hx2
  have hm1 := m_len; have hm2 := m_swap; have hm3 := m_pop
  have w1 : wrap64 ((n : Int) + 1 - 1) = n := by rw [show (n : Int) + 1 - 1 = n by omega]; exact Base.w64 (by omega) (by omega)
  have hn' : (((n + 1 : Nat)) : Int) = (n : Int) + 1 := by omega
  clear h hB hg hl1 hl2 hx1 hx2 ep hl0 e0
  go_enter Try.func26, Try.ntmps26
  go_wp2_with (first
    | (show Calls Try.prog 47 _ _ _; go_at_call 47; (refine (len_c w0 g v vm vl vn l (n + 1) hn _ HF.out).mono ?_); rintro e w9 ⟨rfl, rfl⟩)
    | (show Calls Try.prog 51 _ _ _; go_at_call 51; (refine (swap_c w0 g v vm vl vn l 0 n _ _ (by omega) (by omega) (by omega) (by omega) l1 H1.out _ HF.out HB.out).mono ?_); rintro e w9 ⟨rfl, v1, hf, hb, hk, ho⟩; have HF1 := Aside0.mk hf; have HB1 := Aside0.mk hb; have HK1 := Aside0.mk hk; have HO1 := Aside0.mk ho; clear hf hb hk ho)
    | (show Calls Try.prog 28 _ _ _; go_at_call 28; (refine (down_c w0 g v1 vm vl vn l1 n (by omega) (by omega) (by omega) l2 H2.out _ HF1.out HB1.out).mono ?_); rintro e w9 ⟨⟨z9, rfl⟩, hp⟩; have HP := Aside0.mk (PostF.trans HK1.out HO1.out hp); clear hp; obtain ⟨v2, hf, hb, hk, ho⟩ := HP.out; have HF2 := Aside0.mk hf; have HB2 := Aside0.mk hb; have HK2 := Aside0.mk hk; have HO2 := Aside0.mk ho; clear hf hb hk ho)
    | (show Calls Try.prog 49 _ _ _; go_at_call 49; (refine (hpop_c w0 g v2 vm vl vn l2 n ln2 x H3.out _ HF2.out HB2.out HG.out).mono ?_); rintro e w9 ⟨rfl, hp⟩; have HP3 := Aside0.mk (PostF.trans HK2.out HO2.out hp); clear hp))
  go_ret
  exact ⟨rfl, by rw [← H4.out]; exact HP3.out⟩
set_option maxHeartbeats 8000000 in
theorem heappush_c (w0 : World) (g : Nat) (v vm vl vn : Value) (l : List Tm) (x : Tm) (hl : l.length ≤ 100000) (l' : List Tm) (hx : pushV zT ltT l x = l') (w : World) (h : IsF w0 w g v vm vl vn l) (hB : Below w0.heap.size w0 w) (hg : w0.heap.size ≤ g) :
    Calls Try.prog 24 #[.iface 66 (.pointer (some ⟨g, 0, none⟩)), .iface 37 (.agg #[.int .i64 x.n, .int .i64 x.kind, .int .u64 x.lab, .int .i64 x.att])] w fun e w' => e = .returned (.tuple #[]) ∧ PostF w0 w g v vm vl vn l' w' := by
  have ln : (l ++ [x]).length = l.length + 1 := by simp
  obtain ⟨n, hn⟩ : ∃ n, l.length = n := ⟨_, rfl⟩
  rw [hn] at ln hl
  unfold pushV at hx
  rw [hn] at hx
  have HF := Aside0.mk h; have HB := Aside0.mk hB; have HG := Aside0.mk hg; have HX := Aside0.mk hx
  have hm1 := m_len; have hm2 := m_push
  have w1 : wrap64 ((n : Int) + 1 - 1) = n := by rw [show (n : Int) + 1 - 1 = n by omega]; exact Base.w64 (by omega) (by omega)
  have hn' : (((n + 1 : Nat)) : Int) = (n : Int) + 1 := by omega
  have HN := Aside0.mk hn
  clear h hB hg hx hn
  go_enter Try.func24, Try.ntmps24
  go_wp2_with (first
    | (show Calls Try.prog 50 _ _ _; go_at_call 50; (refine (hpush_c w0 g v vm vl vn l x (by rw [HN.out]; omega) _ HF.out HB.out HG.out).mono ?_); rintro e w9 ⟨rfl, v1, hf, hb, hk, ho⟩; have HF1 := Aside0.mk hf; have HB1 := Aside0.mk hb; have HK1 := Aside0.mk hk; have HO1 := Aside0.mk ho; clear hf hb hk ho)
    | (show Calls Try.prog 47 _ _ _; go_at_call 47; (refine (len_c w0 g v1 vm vl vn (l ++ [x]) (n + 1) ln _ HF1.out).mono ?_); rintro e w9 ⟨rfl, rfl⟩)
    | (show Calls Try.prog 27 _ _ _; go_at_call 27; (refine (up_c w0 g v1 vm vl vn (l ++ [x]) n (by omega) (by omega) l' HX.out _ (by omega) _ HF1.out HB1.out).mono ?_); rintro e w9 ⟨rfl, hp⟩; have HP := Aside0.mk (PostF.trans HK1.out HO1.out hp); clear hp))
  first | go_end0 | ((try simp only [Exit.inBlock, Exit.then]); refine bodyPost_ret (results_none rfl _ _ _) rfl ?_)
  exact ⟨rfl, HP.out⟩
end Go.Proofs.Ytpkilechkoiffaa.Wh
