-- written by myprint.py, a program of this session, over the kit's print.py
import Derived.Test.YtbfmbjkalldonaaPAx0
namespace Go.Proofs.Ytbfmbjkalldonaa.PA
open Go.RowKit Go.Proofs.YtbfmbjkalldonaaW.PrintWords Go.Proofs.YtbfmbjkalldonaaW.PrintLast Go.Proofs.YtbfmbjkalldonaaW.PrintMore
attribute [local go_sem] max2_int min2_int max_two min_two max_three min_three max_four min_four   -- for this text's walks alone
set_option linter.unusedVariables false
set_option linter.unusedSimpArgs false

/-! ### frame_mark: function 56 -/
theorem markedCell {W : World} {g : Nat} {t : TypeId} {C : Array Value} {m : Nat × Nat} (h : W.heap[g]? = some (.cells C t m)) (i : Nat) : W.cell? ⟨g, i, none⟩ = C[i]? := cell_of_row W g i C t m h
/-- The frame's mark, as it lies: a row whose place behind the last is marked. -/
def MkR (e : Nat) (w : World) (base : Nat) (ok : Nat → Prop) (v : Value) (xs : List Int) : Prop :=
  xs = [71, 98] ∧ ∃ g, v = .slice (some ⟨g, 0, none⟩) 2 2 ∧ base ≤ g ∧ w.heap[g]? = some (.cells #[.int .u8 71, .int .u8 98] e (2, 3))
theorem MkR_lower {e : Nat} {w : World} {base base' : Nat} {ok : Nat → Prop} {v : Value} {xs : List Int} (h : MkR e w base ok v xs) (hb : base' ≤ base) : MkR e w base' ok v xs := by
  obtain ⟨h0, g, h1, h2, h3⟩ := h
  exact ⟨h0, g, h1, Nat.le_trans hb h2, h3⟩
theorem MkR_slice {e : Nat} {w : World} {base : Nat} {ok : Nat → Prop} {v : Value} {xs : List Int} (h : MkR e w base ok v xs) : ∃ A c, v = .slice A xs.length c := by
  obtain ⟨rfl, g, h1, h2, h3⟩ := h
  exact ⟨_, _, h1⟩
theorem MkR_below {e : Nat} {w W : World} {base : Nat} {ok : Nat → Prop} {v : Value} {xs : List Int} (h : MkR e w base ok v xs) (hb : Below w.heap.size w W) : MkR e W base ok v xs := by
  obtain ⟨h0, g, h1, h2, h3⟩ := h
  exact ⟨h0, g, h1, h2, (hb.block g (blk_lt h3)).trans h3⟩
theorem MkR_alloc {e : Nat} {w : World} {base : Nat} {ok : Nat → Prop} {v : Value} {xs : List Int} (h : MkR e w base ok v xs) (o : Obj) : MkR e (w.alloc o) base ok v xs := MkR_below h (below_alloc (Below.refl _ _) o)
theorem MkR_drew {e : Nat} {w : World} {base : Nat} {ok : Nat → Prop} {v : Value} {xs : List Int} (h : MkR e w base ok v xs) : MkR e w.drew base ok v xs := MkR_below h (below_drew (Below.refl _ _))
theorem MkR_drewN {e : Nat} {w : World} {base : Nat} {ok : Nat → Prop} {v : Value} {xs : List Int} (h : MkR e w base ok v xs) (n : Nat) : MkR e (w.drewN n) base ok v xs := MkR_below h (pw_below_drewN (Below.refl _ _) n)
theorem MkR_reads' {e : Nat} {w : World} {base n c : Nat} {A : Option Addr} {ok : Nat → Prop} {xs : List Int} (h : MkR e w base ok (.slice A n c) xs) : n = xs.length ∧ n ≤ c ∧ Kd.C (Kd.int .u8) w A n xs := by
  obtain ⟨rfl, g, h1, h2, h3⟩ := h
  injection h1 with hA hn hc
  subst hA hn hc
  refine ⟨rfl, Nat.le_refl _, ⟨rfl, by decide, fun _ => ⟨_, rfl, fun j p hp => ⟨[.int .u8 p], rfl, rfl, fun i u hu => ?_⟩⟩⟩⟩
  have hi : i = 0 := by
    rcases i with _ | i
    · rfl
    · simp at hu
  subst hi
  simp only [List.getElem?_cons_zero] at hu
  obtain rfl := Option.some.inj hu
  rw [add_plain]
  refine (markedCell h3 _).trans ?_
  rcases j with _ | _ | j
  · simp at hp; subst hp; rfl
  · simp at hp; subst hp; rfl
  · simp at hp
section
variable {P : Program} {ops : Array Oper} {rest : List Oper} {o : Oper} {a : Act} {Q : Exit → Act → World → Prop}
/-- One byte behind the mark: always a new row. -/
theorem MkR_append (d : Kd Int) {w0 W : World} (base : Nat) (hgd : o.guard = none) (s x : Operand) (t e : TypeId) (z : Value) (bytes : Nat)
    (ho : o.op = .call { callee := .builtin .append, args := #[s, x], argTypes := #[t, t] })
    (ht : P.underlying t = some (.slice e)) (hinfo : (P.info? e).map (fun i => (i.zero, i.size, i.bytes)) = some (some (.int .u8 0), 1, 1)) (hz : z.cells.size = d.sz) (hs0 : 0 < d.sz) (hb0 : 0 < bytes)
    (v : Value) (xs : List Int) (p : Int) (cs : List Value) (ok okp : Nat → Prop) (hs : a.eval s = v) (hx : a.eval x = .slice (some ⟨W.heap.size, 0, none⟩) 1 1) (hp : cs = [.int .u8 p]) (hokp : ∀ k, okp k → ok k ∧ some k ≠ v.ownBlock) (hfresh : ∀ k, W.heap.size ≤ k → ok k)
    (HO : MkR e W base ok v xs) (HB : Below base w0 W) (hbase : base ≤ W.heap.size) (hl : (xs.length + 1) * bytes ≤ 140737488355328)
    (h : ∀ v1 w1, Kd.R (Kd.int .u8) e w1 base ok v1 (xs ++ [p]) → Below base w0 w1 → W.grownBy w1 v.ownBlock → (v1.ownBlock = v.ownBlock ∨ ∃ b, v1.ownBlock = some b ∧ W.heap.size ≤ b) → wpList P ops Q rest (a.put o.dst v1) w1) :
    wpList P ops Q (o :: rest) a (W.alloc (.cells cs.toArray e)) := by
  subst hp
  obtain ⟨rfl, g, rfl, hbg, hg⟩ := HO
  obtain ⟨i, hi, hi1, hi2, hi3⟩ : ∃ i, P.info? e = some i ∧ i.zero = some (.int .u8 0) ∧ i.size = 1 ∧ i.bytes = 1 := by
    cases hh : P.info? e with
    | none => rw [hh] at hinfo; cases hinfo
    | some i =>
      rw [hh] at hinfo
      simp only [Option.map_some, Option.some.injEq, Prod.mk.injEq] at hinfo
      exact ⟨i, rfl, hinfo.1, hinfo.2.1, hinfo.2.2⟩
  refine wpList_plain hgd fun K hK => ?_
  have hgl := blk_lt hg
  have hg' : (W.alloc (.cells [Value.int .u8 p].toArray e)).heap[g]? = some (.cells #[.int .u8 71, .int .u8 98] e (2, 3)) := ((below_alloc (Below.refl W.heap.size W) _).block g hgl).trans hg
  have hn' := blk_new W (.cells [Value.int .u8 p].toArray e)
  have hr := run_append_grow (P := P) (W.alloc (.cells [Value.int .u8 p].toArray e)) t o.type e i (.int .u8 0) ht hi hi1 ⟨g, 0, none⟩ 2 2 [.int .u8 71, .int .u8 98] (by rw [hi2]; rfl)
    (fun j u hu => by
      rw [add_plain]
      refine (markedCell hg' _).trans ?_
      rw [← hu]; simp) ⟨W.heap.size, 0, none⟩ 1 1 [.int .u8 p] (by rw [hi2]; rfl)
    (fun j u hu => by
      rw [add_plain]
      refine (markedCell hn' _).trans ?_
      rw [← hu]; simp) (by decide) (by decide) (growslice_fits (by decide) (by rw [hi3]; decide))
  unfold Oper.wp execOp
  simp only [ho, resolve, invoke, builtin, Sem.run_bind, Sem.run_pure, Result.andThen_ok, List.map_toArray, List.map_cons, List.map_nil, hs, hx, hr]
  have hpw : ∀ O : Obj, Below W.heap.size W ((W.alloc (.cells [Value.int .u8 p].toArray e)).drew.alloc O) := fun O => below_alloc (below_drew (below_alloc (Below.refl _ _) _)) O
  have hsz : (W.alloc (.cells [Value.int .u8 p].toArray e)).heap.size = W.heap.size + 1 := Array.size_push ..
  refine hK _ _ (h _ _ ?_ (below_then HB hbase (hpw _)) (grown_of_below (hpw _) _) (.inr ⟨_, rfl, Nat.le_of_lt (by show W.heap.size < (W.alloc (.cells [Value.int .u8 p].toArray e)).heap.size; omega)⟩))
  refine Kd.R_of_own ⟨rfl, .inr ⟨(W.alloc (.cells [Value.int .u8 p].toArray e)).heap.size, _, _, rfl, by rw [hsz]; exact Nat.le_succ_of_le hbase, heap_alloc_new _ _, grownCap_ge _ (2 + 1) 2 e, grownCap_le_maxLen _ (2 + 1) 2 e (by decide), ?_, ?_⟩⟩ (fun k hk => hfresh k ?_)
  · have := grownCap_ge (W.alloc (.cells [Value.int .u8 p].toArray e)) (2 + 1) 2 e
    have hz1 : (Value.int .u8 0).cells.size = 1 := rfl
    simp only [Array.size_append, List.size_toArray, size_zeroCells, List.length_cons, List.length_nil, hz1]
    omega
  · simp only [Array.toList_append]
    rfl
  · have e1 : (W.alloc (.cells [Value.int .u8 p].toArray e)).heap.size = k := by simpa [Value.ownBlock] using hk
    omega
end
def frame_mark.f : Option (List Int) := some [71, 98]
set_option maxHeartbeats 8000000 in
set_option maxRecDepth 100000 in
theorem frame_mark.calls (r : List Int) (w : World) (h : frame_mark.f = some r) :
    Calls Try.prog 56 #[] w fun e w' => ∃ v0_ : Value, e = .returned (v0_) ∧ MkR 5 w' w.heap.size (fun _ => True) v0_ r ∧ Below w.heap.size w w' := by
  obtain rfl := Option.some.inj h
  clear h
  have kc := fun (w : World) (C : Array Value) (n c : Nat) => Lib.run_convert_bytes_const (P := Try.prog) w 22 5 C n c Try.underlying22 Try.underlying5
  go_enter Try.func56, Try.ntmps56
  go_wp2
  go_ret
  exact ⟨_, rfl, ⟨rfl, _, rfl, Nat.le_refl _, blk_new w _⟩, below_alloc (Below.refl _ _) _⟩

end Go.Proofs.Ytbfmbjkalldonaa.PA
