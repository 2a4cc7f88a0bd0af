/- A part of a row of records, wherever it begins: read only; no condition but those that stand in each. -/
import Derived.Test.YtpkilechkoiffaaWhG
namespace Go.Proofs.Ytpkilechkoiffaa.Wh
set_option linter.unusedVariables false
set_option linter.unusedSimpArgs false
open Go.RowKit Go.Proofs.YtpkilechkoiffaaW.PrintWords Go.Proofs.YtpkilechkoiffaaW.PrintLast Go.Proofs.YtpkilechkoiffaaW.PrintMore Go.Proofs.Ytpkilechkoiffaa.Lst Go.Proofs.Ytpkilechkoiffaa.Heap
abbrev blkOf (v : Value) : Option Nat := v.ownBlock
theorem add_at (g o j : Nat) : (⟨g, o, none⟩ : Addr).add j = ⟨g, o + j, none⟩ := by
  unfold Addr.add
  split
  · rename_i h
    subst h
    rfl
  · rfl
def Ct (W : World) (b0 : Nat) (v : Value) (l : List Tm) : Prop := ∃ A c, v = .slice A l.length c ∧ l.length ≤ c ∧ (A = none → c = 0) ∧
  ∀ a, A = some a → ∃ g o, a = ⟨g, o, none⟩ ∧ b0 ≤ g ∧ g < W.heap.size ∧ (∃ cur, W.heap[g]? = some (.cells cur 54 (0, 0))) ∧ ∀ j u, (l.flatMap encT.enc)[j]? = some u → W.cell? ⟨g, o + j, none⟩ = some u
theorem info54 : (Try.prog.info? 54).map (fun i => (i.zero, i.size, i.bytes)) = some (some (.agg #[.int .i64 0, .int .i64 0, .int .u64 0, .int .i64 0]), 4, 32) := by kernel_rfl
section
variable {W W' : World} {b0 b1 : Nat} {v : Value} {l : List Tm}
theorem Ct.nil (W : World) (b0 : Nat) : Ct W b0 (.slice none 0 0) [] := ⟨none, 0, rfl, Nat.le_refl _, fun _ => rfl, fun a e => by cases e⟩
theorem Ct.of_ls (h : Ls encT 54 W b0 v l) : Ct W b0 v l := by
  rcases h.2 with ⟨rfl, h0⟩ | ⟨g, c, cur, rfl, hb, hg, hc, hm, _⟩
  · obtain rfl : l = [] := List.length_eq_zero_iff.1 h0
    exact Ct.nil W b0
  · refine ⟨_, c, rfl, hc, fun e => (by cases e), fun a e => ?_⟩
    cases e
    refine ⟨g, 0, rfl, hb, (h.own g rfl).2.1, ⟨cur, hg⟩, fun j u hu => ?_⟩
    have := World.ownsRow.cells h (g := g) rfl j u hu
    rw [add_plain] at this
    simpa using this
theorem Ct.blk (h : Ct W b0 v l) : ∀ k, blkOf v = some k → b0 ≤ k ∧ k < W.heap.size ∧ ∃ cur, W.heap[k]? = some (.cells cur 54 (0, 0)) := by
  obtain ⟨A, c, rfl, _, _, h⟩ := h
  intro k hk
  cases A with
  | none => cases hk
  | some a =>
    obtain ⟨g, o, rfl, h1, h2, h3, _⟩ := h a rfl
    cases hk
    exact ⟨h1, h2, h3⟩
theorem Ct.move (h : Ct W b0 v l) (hs : W.heap.size ≤ W'.heap.size) (hm : ∀ k, blkOf v = some k → W'.heap[k]? = W.heap[k]?) : Ct W' b0 v l := by
  obtain ⟨A, c, rfl, hc, hn, h⟩ := h
  refine ⟨A, c, rfl, hc, hn, fun a e => ?_⟩
  obtain ⟨g, o, rfl, h1, h2, ⟨cur, h3⟩, h4⟩ := h a e
  subst e
  have hg := hm g rfl
  refine ⟨g, o, rfl, h1, by omega, ⟨cur, hg.trans h3⟩, fun j u hu => ?_⟩
  rw [← h4 j u hu]
  simp only [World.cell?, hg]
theorem Ct.below (h : Ct W b0 v l) (hb : Below W.heap.size W W') : Ct W' b0 v l := h.move hb.size fun k hk => hb.block k (h.blk k hk).2.1
theorem Ct.drewN (h : Ct W b0 v l) (n : Nat) : Ct (W.drewN n) b0 v l := h
theorem Ct.lower (h : Ct W b1 v l) (hb : b0 ≤ b1) : Ct W b0 v l := by
  obtain ⟨A, c, rfl, hc, hn, h⟩ := h
  refine ⟨A, c, rfl, hc, hn, fun a e => ?_⟩
  obtain ⟨g, o, rfl, h1, h2⟩ := h a e
  exact ⟨g, o, rfl, Nat.le_trans hb h1, h2⟩
theorem Ct.form (h : Ct W b0 v l) : ∃ A c, v = .slice A l.length c ∧ l.length ≤ c := by
  obtain ⟨A, c, e, hc, _⟩ := h
  exact ⟨A, c, e, hc⟩
theorem Ct.at {A : Option Addr} {n c : Nat} (h : Ct W b0 (.slice A n c) l) {i : Nat} {x : Tm} (hx : l[i]? = some x) : ∃ g o, A = some ⟨g, o, none⟩ ∧ g < W.heap.size ∧ W.cell? ⟨g, o + i * 4, none⟩ = some (.int .i64 x.n) ∧ W.cell? ⟨g, o + i * 4 + 1, none⟩ = some (.int .i64 x.kind) ∧ W.cell? ⟨g, o + i * 4 + 2, none⟩ = some (.int .u64 x.lab) ∧ W.cell? ⟨g, o + i * 4 + 3, none⟩ = some (.int .i64 x.att) := by
  obtain ⟨A', c', e, hc, hn, h⟩ := h
  injection e with e1 e2 e3
  subst e1 e2 e3
  have hi := (List.getElem?_eq_some_iff.1 hx).1
  cases A with
  | none => have := hn rfl; omega
  | some a =>
    obtain ⟨g, o, rfl, h1, h2, _, h4⟩ := h a rfl
    refine ⟨g, o, rfl, h2, ?_, ?_, ?_, ?_⟩
    · have := h4 (i * 4 + 0) _ (flat_get encT l i x hx 0 _ rfl); simpa using this
    · have := h4 (i * 4 + 1) _ (flat_get encT l i x hx 1 _ rfl); simpa [Nat.add_assoc] using this
    · have := h4 (i * 4 + 2) _ (flat_get encT l i x hx 2 _ rfl); simpa [Nat.add_assoc] using this
    · have := h4 (i * 4 + 3) _ (flat_get encT l i x hx 3 _ rfl); simpa [Nat.add_assoc] using this
/-- its beginning -/
theorem Ct.take {A : Option Addr} {n c : Nat} (h : Ct W b0 (.slice A n c) l) {i : Nat} (hi : i ≤ l.length) : Ct W b0 (.slice A i c) (l.take i) := by
  obtain ⟨A', c', e, hc, hn, h⟩ := h
  injection e with e1 e2 e3
  subst e1 e2 e3
  refine ⟨A, c, by rw [List.length_take_of_le hi], by rw [List.length_take_of_le hi]; omega, hn, fun a e => ?_⟩
  obtain ⟨g, o, rfl, h1, h2, h3, h4⟩ := h a e
  exact ⟨g, o, rfl, h1, h2, h3, fun j u hu => h4 j u (flat_take hu)⟩
/-- its end -/
theorem Ct.drop {g o n c : Nat} (h : Ct W b0 (.slice (some ⟨g, o, none⟩) n c) l) {i : Nat} (hi : i ≤ l.length) : Ct W b0 (.slice (if c = i then some ⟨g, o, none⟩ else some ⟨g, o + i * 4, none⟩) (l.length - i) (c - i)) (l.drop i) := by
  obtain ⟨A', c', e, hc, hn, h⟩ := h
  injection e with e1 e2 e3
  subst e1 e2 e3
  obtain ⟨g', o', e, h1, h2, h3, h4⟩ := h _ rfl
  cases e
  have hl : (l.drop i).length = l.length - i := List.length_drop
  have e1 : l.flatMap encT.enc = (l.take i).flatMap encT.enc ++ (l.drop i).flatMap encT.enc := by rw [← List.flatMap_append, List.take_append_drop]
  by_cases hci : c = i
  · rw [if_pos hci]
    refine ⟨_, c - i, by rw [hl], by rw [hl]; omega, fun e => (by cases e), fun a e => ?_⟩
    cases e
    refine ⟨g, o, rfl, h1, h2, h3, fun j u hu => ?_⟩
    rw [List.drop_eq_nil_of_le (by omega)] at hu
    simp at hu
  · rw [if_neg hci]
    refine ⟨_, c - i, by rw [hl], by rw [hl]; omega, fun e => (by cases e), fun a e => ?_⟩
    cases e
    refine ⟨g, o + i * 4, rfl, h1, h2, h3, fun j u hu => ?_⟩
    have := h4 (i * 4 + j) u (by rw [e1, List.getElem?_append_right (by rw [flat_len, List.length_take_of_le hi]; exact Nat.le_add_right _ _), flat_len, List.length_take_of_le hi, show i * 4 + j - i * encT.sz = j from Nat.add_sub_cancel_left _ _]; exact hu)
    rw [Nat.add_assoc]; exact this
theorem Ct.drop0 {n c : Nat} (h : Ct W b0 (.slice none n c) l) : l = [] ∧ n = 0 ∧ c = 0 := by
  obtain ⟨A', c', e, hc, hn, h⟩ := h
  injection e with e1 e2 e3
  subst e1 e2 e3
  have := hn rfl
  exact ⟨List.length_eq_zero_iff.1 (by omega), by omega, this⟩
/-- 'append(x, part...)', as it runs -/
theorem Ct.cat_run {m : List Tm} {u : Value} (h : Ct W b0 u m) (base : Nat) (v : Value) (HO : Ls encT 54 W base v l) (hbase : base ≤ W.heap.size) (hl : (l.length + m.length) * 32 ≤ 140737488355328) (ty : TypeId) :
    ∃ v1 w1, (Builtin.append_ #[43, 43] ty #[v, u]).run Try.prog W = .ok v1 w1 ∧ Ls encT 54 w1 base v1 (l ++ m) ∧ W.grownBy w1 v.ownBlock ∧ (v1.ownBlock = v.ownBlock ∨ v1.ownBlock = some W.heap.size) := by
  obtain ⟨A, c, rfl, hc, hn, h⟩ := h
  cases A with
  | none =>
    have := hn rfl
    obtain rfl : m = [] := List.length_eq_zero_iff.1 (by omega)
    subst this
    obtain ⟨i0, hi, hzz⟩ := Option.map_eq_some_iff.1 info54
    rw [List.append_nil]
    exact ⟨_, W, run_append_owned_none (P := Try.prog) (w := W) base 43 ty 54 i0 encT.sz Try.underlying43 hi v l.length (l.flatMap encT.enc) HO, HO, World.grownBy.refl _ _, .inl rfl⟩
  | some a =>
    obtain ⟨g, o, rfl, _, _, _, h4⟩ := h a rfl
    exact Lst.cat_run (d := encT) (P := Try.prog) (W := W) 43 ty 54 _ 32 Try.underlying43 info54 rfl base v l m ⟨g, o, none⟩ c (fun j u hu => by rw [add_at]; exact h4 j u hu) HO hbase hl (by decide)
end
end Go.Proofs.Ytpkilechkoiffaa.Wh
