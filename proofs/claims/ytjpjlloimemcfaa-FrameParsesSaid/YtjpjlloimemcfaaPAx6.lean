-- written by myprint.py, a program of this session, over the kit's print.py
import Derived.Test.YtjpjlloimemcfaaPAx0
import Derived.Test.YtjpjlloimemcfaaPAx5
namespace Go.Proofs.Ytjpjlloimemcfaa.PA
open Go.RowKit Go.Proofs.YtjpjlloimemcfaaW.PrintWords Go.Proofs.YtjpjlloimemcfaaW.PrintLast Go.Proofs.YtjpjlloimemcfaaW.PrintMore
attribute [local go_sem] max2_int min2_int max_two min_two max_three min_three max_four min_four   -- for this text's walks alone
set_option linter.unusedVariables false
set_option linter.unusedSimpArgs false

/-! ### varint_PutBytes: function 22 -/
def varint_PutBytes.f (k : Nat) (l0 : List Int) (l1 : List Int) : Option (List Int) := (varint_Put.f k l0 (([IntKind.u64.wrap ((l1.length : Int))] : List Int))).bind fun t134 => (if t134.length + l1.length < 140737488355328 then (some (t134 ++ l1)) else (none))
theorem varint_PutBytes.mono : ∀ a0 a1 k, LeO (varint_PutBytes.f k a0 a1) (varint_PutBytes.f (k + 1) a0 a1) := by
  intro a0 a1 k
  unfold varint_PutBytes.f
  repeat' first
      | (with_reducible exact varint_Put.mono _ _ _)
      | (with_reducible exact LeO.refl _)
      | (with_reducible exact LeO.none _)
      | (with_reducible refine LeO.ite ?_ ?_)
      | (with_reducible refine LeO.bind ?_ (fun _ => ?_))
      | exact varint_Put.mono _ _ _
      | exact LeO.none _
      | refine LeO.ite ?_ ?_
      | refine LeO.bind ?_ (fun _ => ?_)
set_option maxHeartbeats 8000000 in
set_option maxRecDepth 100000 in
theorem varint_PutBytes.calls (k : Nat) (A0 : Option Addr) (c0 : Nat) (l0 : List Int) (A1 : Option Addr) (c1 : Nat) (l1 : List Int) (r : List Int) (w : World) (hr0 : Kd.C (Kd.int .u8) w A0 l0.length l0) (hc0 : l0.length ≤ c0) (hr1 : Kd.C (Kd.int .u8) w A1 l1.length l1) (hc1 : l1.length ≤ c1) (h : varint_PutBytes.f k l0 l1 = some r) :
    Calls Try.prog 22 #[.slice A0 l0.length c0, .slice A1 l1.length c1] w fun e w' => ∃ v0_ : Value, e = .returned (v0_) ∧ Kd.R (Kd.int .u8) 5 w' w.heap.size (fun _ => True) v0_ r ∧ Below w.heap.size w w' := by
  have HR0 := Aside0.mk hr0
  have HC0 := Aside0.mk hc0
  clear hr0 hc0
  have HR1 := Aside0.mk hr1
  have HC1 := Aside0.mk hc1
  clear hr1 hc1
  have HB := Aside0.mk (Below.refl w.heap.size w)
  have H : ((varint_Put.f k l0 (([IntKind.u64.wrap ((l1.length : Int))] : List Int))).bind fun t134 => (if t134.length + l1.length < 140737488355328 then (some (t134 ++ l1)) else (none))) = some r := h
  clear h
  obtain ⟨y131, hy131⟩ : ∃ y_ : List Int, y_ = (([IntKind.u64.wrap ((l1.length : Int))] : List Int)) := ⟨_, rfl⟩
  replace H : ((varint_Put.f k l0 y131).bind fun t134 => (if t134.length + l1.length < 140737488355328 then (some (t134 ++ l1)) else (none))) = some r := by first | (rw [hy131]; with_reducible exact H) | (have H2_ := (Option.bind_some _ _).symm.trans H; rw [hy131]; with_reducible exact H2_) | (have H2_ := (Option.bind_some _ _).symm.trans H; with_reducible exact H2_) | with_reducible exact H | (rw [hy131]; exact H) | exact H
  have Ny131 := Aside0.mk hy131
  clear hy131
  replace H := Option.bind_eq_some_iff.mp H
  obtain ⟨t134, A30, H⟩ := H
  replace H : (if t134.length + l1.length < 140737488355328 then (some (t134 ++ l1)) else (none)) = some r := H
  have A3 := Aside0.mk A30
  clear A30
  by_cases c4 : t134.length + l1.length < 140737488355328
  · rw [if_pos c4] at H
    have LMc4 := Aside0.mk c4
    clear c4
    obtain ⟨y137, hy137⟩ : ∃ y_ : List Int, y_ = (t134 ++ l1) := ⟨_, rfl⟩
    replace H : (some y137) = some r := by first | (rw [hy137]; with_reducible exact H) | (have H2_ := (Option.bind_some _ _).symm.trans H; rw [hy137]; with_reducible exact H2_) | (have H2_ := (Option.bind_some _ _).symm.trans H; with_reducible exact H2_) | with_reducible exact H | (rw [hy137]; exact H) | exact H
    have Ny137 := Aside0.mk hy137
    clear hy137
    obtain rfl := Option.some.inj H
    go_enter Try.func22, Try.ntmps22
    go_wp2_with (first | ((with_reducible refine gate_dst (N := 9) rfl ?_); refine Kd.R_lit (Kd.int .u64) _ 55 ?hg (N := 9) ?hd (xs := ([IntKind.u64.wrap ((l1.length : Int))] : List Int)) (inner := [.int .u64 (IntKind.u64.wrap ((l1.length : Int)))]) (ok := fun _ => True) (okp := fun _ => True) ?hr ?hp (fun _ hk => hk) trivial (Below.refl _ _) (Nat.le_refl _) (by simp) ?_; (case hd => rfl); (case hg => rfl); (case hr => first | (go_simp; done) | (go_simp; rfl)); (case hp => exact (Reps.one (show Kd.M (Kd.int .u64) _ _ _ (IntKind.u64.wrap ((l1.length : Int))) [.int .u64 (IntKind.u64.wrap ((l1.length : Int)))] from rfl) (Reps.none _ _))); intro v132 w5 ho6 hb hg_ hnew_; clear hg_ hnew_; (first | rw [← Ny131.out] at ho6 | (simp only [Int.reduceToNat] at ho6; rw [← Ny131.out] at ho6)); have n0_ := Aside0.mk (Kd.R_lower ho6 (below_size (by repeat (first | (with_reducible first | exact HB.out | apply below_alloc | apply pw_below_drewN | apply below_drew1) | exact HB.out | (with_reducible exact Below.refl _ _))))); have n1_ := Aside0.mk (below_step (by repeat (first | (with_reducible first | exact HB.out | apply below_alloc | apply pw_below_drewN | apply below_drew1) | exact HB.out | (with_reducible exact Below.refl _ _))) hb); clear HB; have HO133 := n0_; have HB := n1_; clear n0_ n1_; clear hb ho6; obtain ⟨Ao7, co7, eo7⟩ := Kd.R_slice HO133.out; subst eo7) | ((with_reducible refine gate_callee (f := 34) rfl ?_); refine goesL_ (some 10) rfl rfl Try.func34 (by kernel_rfl) rfl #[.slice A0 l0.length c0, .slice Ao7 y131.length co7] rfl (by (try simp only [List.map_toArray, List.map_cons, List.map_nil]); first | done | rfl | (simp only [List.length_drop, List.length_take]; rfl)) ?_; (with_reducible refine (varint_Put.calls k _ _ l0 _ _ y131 t134 _ ?side1 ?side2 ?side3 ?side4 A3.out).mono ?_); (case side1 => repeat (first | exact (Kd.C_below HR0.out HB.out) | exact HR0.out | (with_reducible refine Kd.C_alloc ?_ _) | (with_reducible refine Kd.C_drewN ?_ _) | (with_reducible refine Kd.C_drew ?_))); (case side2 => exact HC0.out); (case side3 => repeat (first | exact (Kd.R_reads' HO133.out).2.2 | (with_reducible refine Kd.C_alloc ?_ _) | (with_reducible refine Kd.C_drewN ?_ _) | (with_reducible refine Kd.C_drew ?_))); (case side4 => exact (Kd.R_reads' HO133.out).2.1); rintro e w8 ⟨v135, rfl, ho0, hb⟩; refine ⟨_, rfl, ?_⟩; have n0_ := Aside0.mk (Kd.R_below (by (with_reducible repeat (first | apply Kd.R_alloc | apply Kd.R_drewN | apply Kd.R_drew)); exact HO133.out) hb); have n1_ := Aside0.mk (Kd.R_lower ho0 (below_size (by repeat (first | (with_reducible first | exact HB.out | apply below_alloc | apply pw_below_drewN | apply below_drew1) | exact HB.out | (with_reducible exact Below.refl _ _))))); have n2_ := Aside0.mk (below_step (by repeat (first | (with_reducible first | exact HB.out | apply below_alloc | apply pw_below_drewN | apply below_drew1) | exact HB.out | (with_reducible exact Below.refl _ _))) hb); clear HO133; clear HB; have HO133 := n0_; have HO136 := n1_; have HB := n2_; clear n0_ n1_ n2_; (try clear hb); (try clear hb2); (try clear hk); (try clear hi); (try clear ho0)) | ((with_reducible refine gate_builtin (b := .append) (xs := #[.tmp 10, .tmp 11]) rfl ?_); at_builtin; refine Kd.R_append_rows (Kd.int .u8) (w0 := w) w.heap.size rfl (.tmp 10) (.tmp 11) 22 5 (.int .u8 0) 1 rfl Try.underlying22 info5 rfl (by decide) (by omega) v135 t134 l1 _ _ _ (fun _ => True) (fun _ => False) rfl rfl ?aO ?aR (fun _ _ h => h) (fun _ h => h.elim) ?aF ?aB ?aS ?aL ?_; (case aR => repeat (first | exact (Kd.C_below HR1.out HB.out) | exact HR1.out | (with_reducible refine Kd.C_alloc ?_ _) | (with_reducible refine Kd.C_drewN ?_ _) | (with_reducible refine Kd.C_drew ?_))); (case aB => exact (by repeat (first | (with_reducible first | exact HB.out | apply below_alloc | apply pw_below_drewN | apply below_drew1) | exact HB.out | (with_reducible exact Below.refl _ _)))); (case aF => exact (fun _ _ => trivial)); (case aO => exact (by (with_reducible repeat (first | apply Kd.R_alloc | apply Kd.R_drewN | apply Kd.R_drew)); exact HO136.out)); (case aS => exact (below_size (by repeat (first | (with_reducible first | exact HB.out | apply below_alloc | apply pw_below_drewN | apply below_drew1) | exact HB.out | (with_reducible exact Below.refl _ _))))); (case aL => have := LMc4.out; omega); intro v138 w9 ho hb hg hat; rw [← Ny137.out] at ho; have n0_ := Aside0.mk (Kd.R_over' (by (with_reducible repeat (first | apply Kd.R_alloc | apply Kd.R_drewN | apply Kd.R_drew)); exact HO133.out) (Kd.R_typed (by (with_reducible repeat (first | apply Kd.R_alloc | apply Kd.R_drewN | apply Kd.R_drew)); exact HO136.out)) (by decide) hg); have n1_ := Aside0.mk (hb); have n2_ := Aside0.mk (ho); clear HO133; clear HB; clear HO136; have HO133 := n0_; have HB := n1_; have HO139 := n2_; clear n0_ n1_ n2_; clear ho hb hg hat))
    go_ret
    exact ⟨_, by first | rfl | (simp [errW_none, errW_some] <;> rfl) | (simp [*, errW_none, errW_some] <;> rfl), by (with_reducible repeat (first | apply Kd.R_alloc | apply Kd.R_drewN | apply Kd.R_drew)); exact HO139.out, by repeat (first | (with_reducible first | exact HB.out | apply below_alloc | apply pw_below_drewN | apply below_drew1) | exact HB.out | (with_reducible exact Below.refl _ _))⟩
  · rw [if_neg c4] at H
    exact absurd H (by simp)

/-! ### frame_mark: function 23 -/
theorem markedCell {W : World} {g : Nat} {t : TypeId} {C : Array Value} {m : Nat × Nat} (h : W.heap[g]? = some (.cells C t m)) (i : Nat) : W.cell? ⟨g, i, none⟩ = C[i]? := cell_of_row W g i C t m h
/-- The frame's mark, as it lies: a row whose place behind the last is marked. -/
def MkR (e : Nat) (w : World) (base : Nat) (ok : Nat → Prop) (v : Value) (xs : List Int) : Prop :=
  xs = [71, 98] ∧ ∃ g, v = .slice (some ⟨g, 0, none⟩) 2 2 ∧ base ≤ g ∧ w.heap[g]? = some (.cells #[.int .u8 71, .int .u8 98] e (2, 3))
theorem MkR_lower {e : Nat} {w : World} {base base' : Nat} {ok : Nat → Prop} {v : Value} {xs : List Int} (h : MkR e w base ok v xs) (hb : base' ≤ base) : MkR e w base' ok v xs := by
  obtain ⟨h0, g, h1, h2, h3⟩ := h
  exact ⟨h0, g, h1, Nat.le_trans hb h2, h3⟩
theorem MkR_slice {e : Nat} {w : World} {base : Nat} {ok : Nat → Prop} {v : Value} {xs : List Int} (h : MkR e w base ok v xs) : ∃ A c, v = .slice A xs.length c := by
  obtain ⟨rfl, g, h1, h2, h3⟩ := h
  exact ⟨_, _, h1⟩
theorem MkR_below {e : Nat} {w W : World} {base : Nat} {ok : Nat → Prop} {v : Value} {xs : List Int} (h : MkR e w base ok v xs) (hb : Below w.heap.size w W) : MkR e W base ok v xs := by
  obtain ⟨h0, g, h1, h2, h3⟩ := h
  exact ⟨h0, g, h1, h2, (hb.block g (blk_lt h3)).trans h3⟩
theorem MkR_alloc {e : Nat} {w : World} {base : Nat} {ok : Nat → Prop} {v : Value} {xs : List Int} (h : MkR e w base ok v xs) (o : Obj) : MkR e (w.alloc o) base ok v xs := MkR_below h (below_alloc (Below.refl _ _) o)
theorem MkR_drew {e : Nat} {w : World} {base : Nat} {ok : Nat → Prop} {v : Value} {xs : List Int} (h : MkR e w base ok v xs) : MkR e w.drew base ok v xs := MkR_below h (below_drew (Below.refl _ _))
theorem MkR_drewN {e : Nat} {w : World} {base : Nat} {ok : Nat → Prop} {v : Value} {xs : List Int} (h : MkR e w base ok v xs) (n : Nat) : MkR e (w.drewN n) base ok v xs := MkR_below h (pw_below_drewN (Below.refl _ _) n)
theorem MkR_reads' {e : Nat} {w : World} {base n c : Nat} {A : Option Addr} {ok : Nat → Prop} {xs : List Int} (h : MkR e w base ok (.slice A n c) xs) : n = xs.length ∧ n ≤ c ∧ Kd.C (Kd.int .u8) w A n xs := by
  obtain ⟨rfl, g, h1, h2, h3⟩ := h
  injection h1 with hA hn hc
  subst hA hn hc
  refine ⟨rfl, Nat.le_refl _, ⟨rfl, by decide, fun _ => ⟨_, rfl, fun j p hp => ⟨[.int .u8 p], rfl, rfl, fun i u hu => ?_⟩⟩⟩⟩
  have hi : i = 0 := by
    rcases i with _ | i
    · rfl
    · simp at hu
  subst hi
  simp only [List.getElem?_cons_zero] at hu
  obtain rfl := Option.some.inj hu
  rw [add_plain]
  refine (markedCell h3 _).trans ?_
  rcases j with _ | _ | j
  · simp at hp; subst hp; rfl
  · simp at hp; subst hp; rfl
  · simp at hp
section
variable {P : Program} {ops : Array Oper} {rest : List Oper} {o : Oper} {a : Act} {Q : Exit → Act → World → Prop}
/-- One byte behind the mark: always a new row. -/
theorem MkR_append (d : Kd Int) {w0 W : World} (base : Nat) (hgd : o.guard = none) (s x : Operand) (t e : TypeId) (z : Value) (bytes : Nat)
    (ho : o.op = .call { callee := .builtin .append, args := #[s, x], argTypes := #[t, t] })
    (ht : P.underlying t = some (.slice e)) (hinfo : (P.info? e).map (fun i => (i.zero, i.size, i.bytes)) = some (some (.int .u8 0), 1, 1)) (hz : z.cells.size = d.sz) (hs0 : 0 < d.sz) (hb0 : 0 < bytes)
    (v : Value) (xs : List Int) (p : Int) (cs : List Value) (ok okp : Nat → Prop) (hs : a.eval s = v) (hx : a.eval x = .slice (some ⟨W.heap.size, 0, none⟩) 1 1) (hp : cs = [.int .u8 p]) (hokp : ∀ k, okp k → ok k ∧ some k ≠ v.ownBlock) (hfresh : ∀ k, W.heap.size ≤ k → ok k)
    (HO : MkR e W base ok v xs) (HB : Below base w0 W) (hbase : base ≤ W.heap.size) (hl : (xs.length + 1) * bytes ≤ 140737488355328)
    (h : ∀ v1 w1, Kd.R (Kd.int .u8) e w1 base ok v1 (xs ++ [p]) → Below base w0 w1 → W.grownBy w1 v.ownBlock → (v1.ownBlock = v.ownBlock ∨ ∃ b, v1.ownBlock = some b ∧ W.heap.size ≤ b) → wpList P ops Q rest (a.put o.dst v1) w1) :
    wpList P ops Q (o :: rest) a (W.alloc (.cells cs.toArray e)) := by
  subst hp
  obtain ⟨rfl, g, rfl, hbg, hg⟩ := HO
  obtain ⟨i, hi, hi1, hi2, hi3⟩ : ∃ i, P.info? e = some i ∧ i.zero = some (.int .u8 0) ∧ i.size = 1 ∧ i.bytes = 1 := by
    cases hh : P.info? e with
    | none => rw [hh] at hinfo; cases hinfo
    | some i =>
      rw [hh] at hinfo
      simp only [Option.map_some, Option.some.injEq, Prod.mk.injEq] at hinfo
      exact ⟨i, rfl, hinfo.1, hinfo.2.1, hinfo.2.2⟩
  refine wpList_plain hgd fun K hK => ?_
  have hgl := blk_lt hg
  have hg' : (W.alloc (.cells [Value.int .u8 p].toArray e)).heap[g]? = some (.cells #[.int .u8 71, .int .u8 98] e (2, 3)) := ((below_alloc (Below.refl W.heap.size W) _).block g hgl).trans hg
  have hn' := blk_new W (.cells [Value.int .u8 p].toArray e)
  have hr := run_append_grow (P := P) (W.alloc (.cells [Value.int .u8 p].toArray e)) t o.type e i (.int .u8 0) ht hi hi1 ⟨g, 0, none⟩ 2 2 [.int .u8 71, .int .u8 98] (by rw [hi2]; rfl)
    (fun j u hu => by
      rw [add_plain]
      refine (markedCell hg' _).trans ?_
      rw [← hu]; simp) ⟨W.heap.size, 0, none⟩ 1 1 [.int .u8 p] (by rw [hi2]; rfl)
    (fun j u hu => by
      rw [add_plain]
      refine (markedCell hn' _).trans ?_
      rw [← hu]; simp) (by decide) (by decide) (growslice_fits (by decide) (by rw [hi3]; decide))
  unfold Oper.wp execOp
  simp only [ho, resolve, invoke, builtin, Sem.run_bind, Sem.run_pure, Result.andThen_ok, List.map_toArray, List.map_cons, List.map_nil, hs, hx, hr]
  have hpw : ∀ O : Obj, Below W.heap.size W ((W.alloc (.cells [Value.int .u8 p].toArray e)).drew.alloc O) := fun O => below_alloc (below_drew (below_alloc (Below.refl _ _) _)) O
  have hsz : (W.alloc (.cells [Value.int .u8 p].toArray e)).heap.size = W.heap.size + 1 := Array.size_push ..
  refine hK _ _ (h _ _ ?_ (below_then HB hbase (hpw _)) (grown_of_below (hpw _) _) (.inr ⟨_, rfl, Nat.le_of_lt (by show W.heap.size < (W.alloc (.cells [Value.int .u8 p].toArray e)).heap.size; omega)⟩))
  refine Kd.R_of_own ⟨rfl, .inr ⟨(W.alloc (.cells [Value.int .u8 p].toArray e)).heap.size, _, _, rfl, by rw [hsz]; exact Nat.le_succ_of_le hbase, heap_alloc_new _ _, grownCap_ge _ (2 + 1) 2 e, grownCap_le_maxLen _ (2 + 1) 2 e (by decide), ?_, ?_⟩⟩ (fun k hk => hfresh k ?_)
  · have := grownCap_ge (W.alloc (.cells [Value.int .u8 p].toArray e)) (2 + 1) 2 e
    have hz1 : (Value.int .u8 0).cells.size = 1 := rfl
    simp only [Array.size_append, List.size_toArray, size_zeroCells, List.length_cons, List.length_nil, hz1]
    omega
  · simp only [Array.toList_append]
    rfl
  · have e1 : (W.alloc (.cells [Value.int .u8 p].toArray e)).heap.size = k := by simpa [Value.ownBlock] using hk
    omega
end
def frame_mark.f : Option (List Int) := some [71, 98]
set_option maxHeartbeats 8000000 in
set_option maxRecDepth 100000 in
theorem frame_mark.calls (r : List Int) (w : World) (h : frame_mark.f = some r) :
    Calls Try.prog 23 #[] w fun e w' => ∃ v0_ : Value, e = .returned (v0_) ∧ MkR 5 w' w.heap.size (fun _ => True) v0_ r ∧ Below w.heap.size w w' := by
  obtain rfl := Option.some.inj h
  clear h
  have kc := fun (w : World) (C : Array Value) (n c : Nat) => Lib.run_convert_bytes_const (P := Try.prog) w 22 5 C n c Try.underlying22 Try.underlying5
  go_enter Try.func23, Try.ntmps23
  go_wp2
  go_ret
  exact ⟨_, rfl, ⟨rfl, _, rfl, Nat.le_refl _, blk_new w _⟩, below_alloc (Below.refl _ _) _⟩

end Go.Proofs.Ytjpjlloimemcfaa.PA
