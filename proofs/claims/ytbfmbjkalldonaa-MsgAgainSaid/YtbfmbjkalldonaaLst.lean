/- Slices of the call's own as lists of records: what lies, reading, storing, appending, copying, cutting; no condition but those that stand in each. -/
import Derived.Test.YtbfmbjkalldonaaBase
import Derived.Maps.AppendAt
import Derived.Laws.AppendOwn
import Derived.OwnWalk
import Derived.Laws.AppendOwnNone
namespace Go.Proofs.Ytbfmbjkalldonaa.Lst
set_option linter.unusedVariables false
set_option linter.unusedSimpArgs false
open Go.RowKit Go.Proofs.YtbfmbjkalldonaaW.PrintWords Go.Proofs.YtbfmbjkalldonaaW.PrintLast Go.Proofs.YtbfmbjkalldonaaW.PrintMore
structure En (α : Type) where
  enc : α → List Value
  sz : Nat
  len : ∀ x, (enc x).length = sz
  one : ∀ x, ∀ u ∈ enc x, u.oneCell' = true
  pos : 0 < sz
section
variable {α : Type} (d : En α)
theorem flat_len (l : List α) : (l.flatMap d.enc).length = l.length * d.sz := by
  induction l with
  | nil => simp
  | cons x l ih => rw [List.flatMap_cons, List.length_append, ih, d.len, List.length_cons, Nat.add_mul]; omega
theorem flat_one (l : List α) : ∀ u ∈ l.flatMap d.enc, u.oneCell' = true := fun u hu => by
  obtain ⟨x, _, hx⟩ := List.mem_flatMap.1 hu
  exact d.one x u hx
theorem flat_get : ∀ (l : List α) (i : Nat) (x : α), l[i]? = some x → ∀ (j : Nat) (u : Value), (d.enc x)[j]? = some u → (l.flatMap d.enc)[i * d.sz + j]? = some u
  | [], i, x, h, _, _, _ => by simp at h
  | y :: l, 0, x, h, j, u, hj => by
    simp only [List.getElem?_cons_zero, Option.some.injEq] at h
    subst h
    have hl : j < (d.enc y).length := (List.getElem?_eq_some_iff.1 hj).1
    rw [List.flatMap_cons, Nat.zero_mul, Nat.zero_add, List.getElem?_append_left hl]
    exact hj
  | y :: l, i + 1, x, h, j, u, hj => by
    rw [List.getElem?_cons_succ] at h
    have := flat_get l i x h j u hj
    rw [List.flatMap_cons, List.getElem?_append_right (by rw [d.len, Nat.add_mul]; omega), d.len]
    rw [show (i + 1) * d.sz + j - d.sz = i * d.sz + j by rw [Nat.add_mul]; omega]
    exact this
theorem flat_set : ∀ (l : List α) (i : Nat) (x x' : α) (j : Nat) (u : Value), l[i]? = some x → d.enc x' = (d.enc x).set j u → j < d.sz → (l.set i x').flatMap d.enc = (l.flatMap d.enc).set (i * d.sz + j) u
  | [], i, x, _, _, _, h, _, _ => by simp at h
  | y :: l, 0, x, x', j, u, h, he, hj => by
    simp only [List.getElem?_cons_zero, Option.some.injEq] at h
    subst h
    rw [List.set_cons_zero, List.flatMap_cons, List.flatMap_cons, he, Nat.zero_mul, Nat.zero_add, List.set_append_left _ _ (by rw [d.len]; exact hj)]
  | y :: l, i + 1, x, x', j, u, h, he, hj => by
    rw [List.getElem?_cons_succ] at h
    rw [List.set_cons_succ, List.flatMap_cons, List.flatMap_cons, flat_set l i x x' j u h he hj, List.set_append_right _ _ (by rw [d.len, Nat.add_mul]; omega), d.len]
    rw [show (i + 1) * d.sz + j - d.sz = i * d.sz + j by rw [Nat.add_mul]; omega]
end
def Ls {α : Type} (d : En α) (e : TypeId) (W : World) (base : Nat) (v : Value) (l : List α) : Prop := W.ownsRow base e d.sz v l.length (l.flatMap d.enc)
section
variable {α : Type} {d : En α} {e : TypeId} {W W' : World} {base : Nat} {v : Value} {l : List α}
theorem Ls.nil (d : En α) (e : TypeId) (W : World) (base : Nat) : Ls d e W base (.slice none 0 0) [] := World.ownsRow_nil W base e d.sz
theorem Ls.form (h : Ls d e W base v l) : ∃ A c, v = .slice A l.length c ∧ l.length ≤ c ∧ l.length ≤ maxLen := by
  rcases h.2 with ⟨rfl, h0⟩ | ⟨g, cap, cur, rfl, _, _, hc, hm, _⟩
  · exact ⟨none, 0, by rw [h0], by omega, by unfold maxLen; omega⟩
  · exact ⟨_, cap, rfl, hc, Nat.le_trans hc hm⟩
theorem Ls.at {A : Option Addr} {n c : Nat} (h : Ls d e W base (.slice A n c) l) {i : Nat} {x : α} (hx : l[i]? = some x) : ∃ g, A = some ⟨g, 0, none⟩ ∧ base ≤ g ∧ g < W.heap.size ∧ (∀ j u, (d.enc x)[j]? = some u → W.cell? ⟨g, i * d.sz + j, none⟩ = some u) ∧ (∀ k, W.frozen? ⟨g, k, none⟩ = false) ∧ ∃ cur, W.heap[g]? = some (.cells cur e (0, 0)) := by
  have hi : i < l.length := (List.getElem?_eq_some_iff.1 hx).1
  have hh := h
  rcases h.2 with ⟨_, h0⟩ | ⟨g, cap, cur, hv, hb, hg, _⟩
  · omega
  · injection hv with hA hn hc
    subst hA
    refine ⟨g, rfl, hb, (Array.getElem?_eq_some_iff.1 hg).1, fun j u hu => ?_, fun k => blk_frozen hg k, cur, hg⟩
    have := World.ownsRow.cells hh (g := g) rfl (i * d.sz + j) u (flat_get d l i x hx j u hu)
    rw [add_plain] at this
    exact this
theorem Ls.put {g n c : Nat} (h : Ls d e W base (.slice (some ⟨g, 0, none⟩) n c) l) {i j : Nat} {x x' : α} {u : Value} (hx : l[i]? = some x) (hj : j < d.sz) (he : d.enc x' = (d.enc x).set j u) : Ls d e (W.setCell ⟨g, i * d.sz + j, none⟩ u) base (.slice (some ⟨g, 0, none⟩) n c) (l.set i x') := by
  have hi : i < l.length := (List.getElem?_eq_some_iff.1 hx).1
  obtain ⟨h1, h2⟩ := h
  refine ⟨by rw [flat_len, List.length_set], ?_⟩
  rw [List.length_set]
  rcases h2 with ⟨h2, _⟩ | ⟨g', cap, cur, hv, hb, hg, hc, hm, hs, ht⟩
  · cases h2
  · injection hv with hA hn hcap
    injection hA with hA
    injection hA with hA
    subst hA
    refine .inr ⟨g, cap, cur.setIfInBounds (i * d.sz + j) u, by rw [hn, hcap], hb, blk_set hg _ u, hc, hm, by rw [Array.size_setIfInBounds]; exact hs, ?_⟩
    rw [flat_set d l i x x' j u hx he hj, ← ht, Array.toList_setIfInBounds, List.take_set]
theorem Ls.own (h : Ls d e W base v l) : ∀ k, v.ownBlock = some k → base ≤ k ∧ k < W.heap.size ∧ ∃ cur, W.heap[k]? = some (.cells cur e (0, 0)) := fun k hk => by
  obtain ⟨a, b⟩ := World.ownsRow.lt h k hk
  exact ⟨a, b, own_typed h k hk⟩
theorem Ls.grown {row : Option Nat} (h : Ls d e W base v l) (hg : W.grownBy W' row) (hne : v.ownBlock = none ∨ v.ownBlock ≠ row) : Ls d e W' base v l := World.ownsRow.kept h hg hne
theorem Ls.below (h : Ls d e W base v l) (hb : Below W.heap.size W W') : Ls d e W' base v l := pw_own_below h hb
theorem Ls.drew (h : Ls d e W base v l) (n : Nat) : Ls d e (W.drewN n) base v l := h
theorem Ls.lower {base' : Nat} (h : Ls d e W base v l) (hb : base' ≤ base) : Ls d e W base' v l := own_weaken h hb
theorem Ls.keep {g : Nat} {row : Option Nat} (h : Ls d e W base v l) (hk : KeepBut W W' g row) (h1 : v.ownBlock ≠ some g) (h2 : v.ownBlock = none ∨ v.ownBlock ≠ row) : Ls d e W' base v l := KeepBut.own hk h h1 h2
/-- another block is written -/
theorem Ls.far {p : Addr} (h : Ls d e W base v l) (hne : some p.block ≠ v.ownBlock) (u : Value) : Ls d e (W.setCell p u) base v l := own_setCell h hne u
/-- by types: a block of another type is not its row -/
theorem Ls.ne {g t : Nat} {cs : Array Value} (h : Ls d e W base v l) (hg : W.heap[g]? = some (.cells cs t (0, 0))) (ht : e ≠ t) : some g ≠ v.ownBlock := own_ne h hg ht
theorem Ls.neMap {b : Nat} {es : Array MapEntry} {cl : Nat} (h : Ls d e W base v l) (hg : W.heap[b]? = some (.map es cl)) : some b ≠ v.ownBlock := fun e' => by
  obtain ⟨cur, hc⟩ := (h.own b e'.symm).2.2
  rw [hg] at hc
  cases hc
end
/-! ### at the operation -/
section
variable {α : Type} {d : En α} {P : Program} {ops : Array Oper} {rest : List Oper} {o : Oper} {a : Act} {Q : Exit → Act → World → Prop} {W : World}
/-- 'append(out, x)': x lies in a fresh block. -/
theorem wpList_push (hgd : o.guard = none) (s x : Operand) (t e : TypeId) (z : Value) (bytes : Nat)
    (ho : o.op = .call { callee := .builtin .append, args := #[s, x], argTypes := #[t, t] })
    (ht : P.underlying t = some (.slice e)) (hinfo : (P.info? e).map (fun i => (i.zero, i.size, i.bytes)) = some (some z, d.sz, bytes)) (hz : z.cells.size = d.sz)
    (base : Nat) (v : Value) (l : List α) (y : α) (hs : a.eval s = v) (nb : Nat) (hx : a.eval x = .slice (some ⟨nb, 0, none⟩) 1 1) (hnb : nb = W.heap.size)
    (HO : Ls d e W base v l) (hbase : base ≤ W.heap.size) (hl : (l.length + 1) * bytes ≤ 140737488355328) (hb0 : 0 < bytes) (C : Array Value) (hC : C = (d.enc y).toArray)
    (h : ∀ v1 w1, Ls d e w1 base v1 (l ++ [y]) → W.grownBy w1 v.ownBlock → (v1.ownBlock = v.ownBlock ∨ ∃ b, v1.ownBlock = some b ∧ W.heap.size ≤ b) → wpList P ops Q rest (a.put o.dst v1) w1) :
    wpList P ops Q (o :: rest) a (W.alloc (.cells C e)) := by
  subst hC
  subst hnb
  refine print_append_cells (w0 := W) base hgd s x t e z d.sz bytes ho ht hinfo hz d.pos hb0 v l.length (l.flatMap d.enc) (d.enc y) hs hx (d.len y) (d.one y) HO (Below.refl _ _) hbase hl fun v1 w1 h1 _ h3 h4 => h v1 w1 ?_ h3 h4
  show w1.ownsRow base e d.sz v1 (l ++ [y]).length ((l ++ [y]).flatMap d.enc)
  rw [List.length_append, List.flatMap_append]
  simpa using h1
/-- 'append(out, xs...)': xs a row of its own, or a part of one. -/
theorem wpList_cat (hgd : o.guard = none) (s x : Operand) (t e : TypeId) (z : Value) (bytes : Nat)
    (ho : o.op = .call { callee := .builtin .append, args := #[s, x], argTypes := #[t, t] })
    (ht : P.underlying t = some (.slice e)) (hinfo : (P.info? e).map (fun i => (i.zero, i.size, i.bytes)) = some (some z, d.sz, bytes)) (hz : z.cells.size = d.sz)
    (base : Nat) (v : Value) (l m : List α) (hs : a.eval s = v) (ad : Addr) (c : Nat) (hx : a.eval x = .slice (some ad) m.length c) (hm : ∀ j u, (m.flatMap d.enc)[j]? = some u → W.cell? (ad.add j) = some u)
    (HO : Ls d e W base v l) (hbase : base ≤ W.heap.size) (hl : (l.length + m.length) * bytes ≤ 140737488355328) (hb0 : 0 < bytes)
    (h : ∀ v1 w1, Ls d e w1 base v1 (l ++ m) → W.grownBy w1 v.ownBlock → (v1.ownBlock = v.ownBlock ∨ ∃ b, v1.ownBlock = some b ∧ W.heap.size ≤ b) → wpList P ops Q rest (a.put o.dst v1) w1) :
    wpList P ops Q (o :: rest) a W := by
  obtain ⟨i0, hi, hzz⟩ := Option.map_eq_some_iff.1 hinfo
  simp only [Prod.mk.injEq] at hzz
  obtain ⟨hz0, hz1, hz2⟩ := hzz
  have hlen : l.length + m.length ≤ 140737488355328 := Nat.le_trans (Nat.le_mul_of_pos_right _ hb0) hl
  refine wpList_append_own_at W hgd s x t ho base e i0 z d.sz bytes ht hi hz0 hz1 hz2 hz d.pos v l.length (l.flatMap d.enc) hs HO ad m.length c (m.flatMap d.enc) hx (flat_len d m) hm (flat_one d m) (by simp only [maxLen]; omega) hl hbase fun v1 w1 h1 h2 _ h3 => h v1 w1 ?_ h2 (h3.imp id fun e' => ⟨_, e', Nat.le_refl _⟩)
  show w1.ownsRow base e d.sz v1 (l ++ m).length ((l ++ m).flatMap d.enc)
  rw [List.length_append, List.flatMap_append]
  exact h1
end
/-- 'append([]T(nil), xs...)': xs a whole row of its own. -/
theorem wpList_copy {α : Type} {d : En α} {P : Program} {ops : Array Oper} {rest : List Oper} {o : Oper} {a : Act} {Q : Exit → Act → World → Prop} {W : World} (hgd : o.guard = none) (s x : Operand) (t e : TypeId) (z : Value) (bytes : Nat)
    (ho : o.op = .call { callee := .builtin .append, args := #[s, x], argTypes := #[t, t] })
    (ht : P.underlying t = some (.slice e)) (hinfo : (P.info? e).map (fun i => (i.zero, i.size, i.bytes)) = some (some z, d.sz, bytes)) (hz : z.cells.size = d.sz)
    (base : Nat) (v : Value) (l : List α) (hs : a.eval s = .slice none 0 0) (hx : a.eval x = v) (HO : Ls d e W base v l) (hl : l.length * bytes ≤ 140737488355328) (hb0 : 0 < bytes)
    (h : ∀ v1 w1, Ls d e w1 W.heap.size v1 l → W.grownBy w1 none → (v1.ownBlock = none ∨ ∃ b, v1.ownBlock = some b ∧ W.heap.size ≤ b) → wpList P ops Q rest (a.put o.dst v1) w1) :
    wpList P ops Q (o :: rest) a W := by
  rcases HO.2 with ⟨rfl, h0⟩ | ⟨g, cap, cur, rfl, hb, hg, hc, hm, _⟩
  · obtain rfl : l = [] := List.length_eq_zero_iff.1 h0
    obtain ⟨i0, hi, hzz⟩ := Option.map_eq_some_iff.1 hinfo
    exact wpList_append_own_none hgd s x t ho W.heap.size e i0 d.sz ht hi (.slice none 0 0) 0 [] hs (World.ownsRow_nil ..) hx (h _ _ (Ls.nil d e W _) (World.grownBy.refl _ _) (.inl rfl))
  · refine wpList_cat (d := d) hgd s x t e z bytes ho ht hinfo hz W.heap.size (.slice none 0 0) [] l hs ⟨g, 0, none⟩ cap hx (fun j u hu => ?_) (Ls.nil d e W _) (Nat.le_refl _) (by simpa using hl) hb0 fun v1 w1 h1 h2 h3 => h v1 w1 h1 h2 h3
    exact World.ownsRow.cells HO (g := g) rfl j u hu
/-- a whole row's cells, for wpList_cat -/
theorem Ls.news {α : Type} {d : En α} {e : TypeId} {W : World} {base : Nat} {A : Option Addr} {n c : Nat} {l : List α} (h : Ls d e W base (.slice A n c) l) (hl : 0 < l.length) : ∃ g, A = some ⟨g, 0, none⟩ ∧ ∀ k : Nat, ∀ j u, ((l.drop k).flatMap d.enc)[j]? = some u → W.cell? ((⟨g, k * d.sz, none⟩ : Addr).add j) = some u := by
  have hh := h
  rcases h.2 with ⟨_, h0⟩ | ⟨g, cap, cur, hv, hb, hg, _⟩
  · omega
  · injection hv with hA hn hc
    subst hA
    refine ⟨g, rfl, fun k j u hu => ?_⟩
    have e1 : l.flatMap d.enc = (l.take k).flatMap d.enc ++ (l.drop k).flatMap d.enc := by rw [← List.flatMap_append, List.take_append_drop]
    by_cases hk : k ≤ l.length
    · have := World.ownsRow.cells hh (g := g) rfl (k * d.sz + j) u (by rw [e1, List.getElem?_append_right (by rw [flat_len, List.length_take, Nat.min_eq_left hk]; omega), flat_len, List.length_take, Nat.min_eq_left hk, show k * d.sz + j - k * d.sz = j by omega]; exact hu)
      rw [add_plain] at this
      unfold Addr.add
      split
      · rename_i h0
        subst h0
        simpa using this
      · exact this
    · rw [List.drop_eq_nil_of_le (by omega)] at hu
      simp at hu
theorem flat_take {α : Type} {d : En α} {l : List α} {k j : Nat} {u : Value} (hu : ((l.take k).flatMap d.enc)[j]? = some u) : (l.flatMap d.enc)[j]? = some u := by
  have e1 : l.flatMap d.enc = (l.take k).flatMap d.enc ++ (l.drop k).flatMap d.enc := by rw [← List.flatMap_append, List.take_append_drop]
  rw [e1, List.getElem?_append_left (List.getElem?_eq_some_iff.1 hu).1]
  exact hu
end Go.Proofs.Ytbfmbjkalldonaa.Lst
