/- frame at the document: what is parsed, by both; no condition but those that stand in each. -/
import Derived.Test.YtjpjlloimemcfaaBase
import Derived.Maps.AppendAt
import Derived.Laws.AppendOwn
import Derived.OwnWalk
import Derived.Laws.AppendOwnNone
import Derived.Laws.OwnMore
import Derived.Test.YtjpjlloimemcfaaFrame
import Derived.Test.YtjpjlloimemcfaaProg
import Derived.Test.YtjpjlloimemcfaaPAx12
import Derived.Deep.QuietTactic
import Derived.BigQuiet
import Derived.BigRegion
import Derived.RegionTactic
import Derived.Deep.RegionHeld3
import Derived.Deep.RegionLaw
import Derived.WalkSpells
import Derived.LoopTactic
import Derived.Deep.LoopGhost
import Derived.Shelf.Abstract
import Derived.Test.YtjpjlloimemcfaaPAx22
import Derived.Test.YtjpjlloimemcfaaPAx23
namespace Go.Proofs.Ytjpjlloimemcfaa.Lst
set_option linter.unusedVariables false
set_option linter.unusedSimpArgs false
open Go.RowKit Go.Proofs.YtjpjlloimemcfaaW.PrintWords Go.Proofs.YtjpjlloimemcfaaW.PrintLast Go.Proofs.YtjpjlloimemcfaaW.PrintMore
structure En (α : Type) where
  enc : α → List Value
  sz : Nat
  len : ∀ x, (enc x).length = sz
  one : ∀ x, ∀ u ∈ enc x, u.oneCell' = true
  pos : 0 < sz
section
variable {α : Type} (d : En α)
theorem flat_len (l : List α) : (l.flatMap d.enc).length = l.length * d.sz := by
  induction l with
  | nil => simp
  | cons x l ih => rw [List.flatMap_cons, List.length_append, ih, d.len, List.length_cons, Nat.add_mul]; omega
theorem flat_one (l : List α) : ∀ u ∈ l.flatMap d.enc, u.oneCell' = true := fun u hu => by
  obtain ⟨x, _, hx⟩ := List.mem_flatMap.1 hu
  exact d.one x u hx
theorem flat_get : ∀ (l : List α) (i : Nat) (x : α), l[i]? = some x → ∀ (j : Nat) (u : Value), (d.enc x)[j]? = some u → (l.flatMap d.enc)[i * d.sz + j]? = some u
  | [], i, x, h, _, _, _ => by simp at h
  | y :: l, 0, x, h, j, u, hj => by
    simp only [List.getElem?_cons_zero, Option.some.injEq] at h
    subst h
    have hl : j < (d.enc y).length := (List.getElem?_eq_some_iff.1 hj).1
    rw [List.flatMap_cons, Nat.zero_mul, Nat.zero_add, List.getElem?_append_left hl]
    exact hj
  | y :: l, i + 1, x, h, j, u, hj => by
    rw [List.getElem?_cons_succ] at h
    have := flat_get l i x h j u hj
    rw [List.flatMap_cons, List.getElem?_append_right (by rw [d.len, Nat.add_mul]; omega), d.len]
    rw [show (i + 1) * d.sz + j - d.sz = i * d.sz + j by rw [Nat.add_mul]; omega]
    exact this
theorem flat_set : ∀ (l : List α) (i : Nat) (x x' : α) (j : Nat) (u : Value), l[i]? = some x → d.enc x' = (d.enc x).set j u → j < d.sz → (l.set i x').flatMap d.enc = (l.flatMap d.enc).set (i * d.sz + j) u
  | [], i, x, _, _, _, h, _, _ => by simp at h
  | y :: l, 0, x, x', j, u, h, he, hj => by
    simp only [List.getElem?_cons_zero, Option.some.injEq] at h
    subst h
    rw [List.set_cons_zero, List.flatMap_cons, List.flatMap_cons, he, Nat.zero_mul, Nat.zero_add, List.set_append_left _ _ (by rw [d.len]; exact hj)]
  | y :: l, i + 1, x, x', j, u, h, he, hj => by
    rw [List.getElem?_cons_succ] at h
    rw [List.set_cons_succ, List.flatMap_cons, List.flatMap_cons, flat_set l i x x' j u h he hj, List.set_append_right _ _ (by rw [d.len, Nat.add_mul]; omega), d.len]
    rw [show (i + 1) * d.sz + j - d.sz = i * d.sz + j by rw [Nat.add_mul]; omega]
end
def Ls {α : Type} (d : En α) (e : TypeId) (W : World) (base : Nat) (v : Value) (l : List α) : Prop := W.ownsRow base e d.sz v l.length (l.flatMap d.enc)
section
variable {α : Type} {d : En α} {e : TypeId} {W W' : World} {base : Nat} {v : Value} {l : List α}
theorem Ls.nil (d : En α) (e : TypeId) (W : World) (base : Nat) : Ls d e W base (.slice none 0 0) [] := World.ownsRow_nil W base e d.sz
theorem Ls.form (h : Ls d e W base v l) : ∃ A c, v = .slice A l.length c ∧ l.length ≤ c ∧ l.length ≤ maxLen := by
  rcases h.2 with ⟨rfl, h0⟩ | ⟨g, cap, cur, rfl, _, _, hc, hm, _⟩
  · exact ⟨none, 0, by rw [h0], by omega, by unfold maxLen; omega⟩
  · exact ⟨_, cap, rfl, hc, Nat.le_trans hc hm⟩
theorem Ls.at {A : Option Addr} {n c : Nat} (h : Ls d e W base (.slice A n c) l) {i : Nat} {x : α} (hx : l[i]? = some x) : ∃ g, A = some ⟨g, 0, none⟩ ∧ base ≤ g ∧ g < W.heap.size ∧ (∀ j u, (d.enc x)[j]? = some u → W.cell? ⟨g, i * d.sz + j, none⟩ = some u) ∧ (∀ k, W.frozen? ⟨g, k, none⟩ = false) ∧ ∃ cur, W.heap[g]? = some (.cells cur e (0, 0)) := by
  have hi : i < l.length := (List.getElem?_eq_some_iff.1 hx).1
  have hh := h
  rcases h.2 with ⟨_, h0⟩ | ⟨g, cap, cur, hv, hb, hg, _⟩
  · omega
  · injection hv with hA hn hc
    subst hA
    refine ⟨g, rfl, hb, (Array.getElem?_eq_some_iff.1 hg).1, fun j u hu => ?_, fun k => blk_frozen hg k, cur, hg⟩
    have := World.ownsRow.cells hh (g := g) rfl (i * d.sz + j) u (flat_get d l i x hx j u hu)
    rw [add_plain] at this
    exact this
theorem Ls.put {g n c : Nat} (h : Ls d e W base (.slice (some ⟨g, 0, none⟩) n c) l) {i j : Nat} {x x' : α} {u : Value} (hx : l[i]? = some x) (hj : j < d.sz) (he : d.enc x' = (d.enc x).set j u) : Ls d e (W.setCell ⟨g, i * d.sz + j, none⟩ u) base (.slice (some ⟨g, 0, none⟩) n c) (l.set i x') := by
  have hi : i < l.length := (List.getElem?_eq_some_iff.1 hx).1
  obtain ⟨h1, h2⟩ := h
  refine ⟨by rw [flat_len, List.length_set], ?_⟩
  rw [List.length_set]
  rcases h2 with ⟨h2, _⟩ | ⟨g', cap, cur, hv, hb, hg, hc, hm, hs, ht⟩
  · cases h2
  · injection hv with hA hn hcap
    injection hA with hA
    injection hA with hA
    subst hA
    refine .inr ⟨g, cap, cur.setIfInBounds (i * d.sz + j) u, by rw [hn, hcap], hb, blk_set hg _ u, hc, hm, by rw [Array.size_setIfInBounds]; exact hs, ?_⟩
    rw [flat_set d l i x x' j u hx he hj, ← ht, Array.toList_setIfInBounds, List.take_set]
theorem Ls.own (h : Ls d e W base v l) : ∀ k, v.ownBlock = some k → base ≤ k ∧ k < W.heap.size ∧ ∃ cur, W.heap[k]? = some (.cells cur e (0, 0)) := fun k hk => by
  obtain ⟨a, b⟩ := World.ownsRow.lt h k hk
  exact ⟨a, b, own_typed h k hk⟩
theorem Ls.grown {row : Option Nat} (h : Ls d e W base v l) (hg : W.grownBy W' row) (hne : v.ownBlock = none ∨ v.ownBlock ≠ row) : Ls d e W' base v l := World.ownsRow.kept h hg hne
theorem Ls.below (h : Ls d e W base v l) (hb : Below W.heap.size W W') : Ls d e W' base v l := pw_own_below h hb
theorem Ls.drew (h : Ls d e W base v l) (n : Nat) : Ls d e (W.drewN n) base v l := h
theorem Ls.lower {base' : Nat} (h : Ls d e W base v l) (hb : base' ≤ base) : Ls d e W base' v l := own_weaken h hb
theorem Ls.keep {g : Nat} {row : Option Nat} (h : Ls d e W base v l) (hk : KeepBut W W' g row) (h1 : v.ownBlock ≠ some g) (h2 : v.ownBlock = none ∨ v.ownBlock ≠ row) : Ls d e W' base v l := KeepBut.own hk h h1 h2
/-- another block is written -/
theorem Ls.far {p : Addr} (h : Ls d e W base v l) (hne : some p.block ≠ v.ownBlock) (u : Value) : Ls d e (W.setCell p u) base v l := own_setCell h hne u
/-- by types: a block of another type is not its row -/
theorem Ls.ne {g t : Nat} {cs : Array Value} (h : Ls d e W base v l) (hg : W.heap[g]? = some (.cells cs t (0, 0))) (ht : e ≠ t) : some g ≠ v.ownBlock := own_ne h hg ht
theorem Ls.neMap {b : Nat} {es : Array MapEntry} {cl : Nat} (h : Ls d e W base v l) (hg : W.heap[b]? = some (.map es cl)) : some b ≠ v.ownBlock := fun e' => by
  obtain ⟨cur, hc⟩ := (h.own b e'.symm).2.2
  rw [hg] at hc
  cases hc
end
/-! ### at the operation -/
section
variable {α : Type} {d : En α} {P : Program} {ops : Array Oper} {rest : List Oper} {o : Oper} {a : Act} {Q : Exit → Act → World → Prop} {W : World}
/-- 'append(out, x)': x lies in a fresh block. -/
theorem wpList_push (hgd : o.guard = none) (s x : Operand) (t e : TypeId) (z : Value) (bytes : Nat)
    (ho : o.op = .call { callee := .builtin .append, args := #[s, x], argTypes := #[t, t] })
    (ht : P.underlying t = some (.slice e)) (hinfo : (P.info? e).map (fun i => (i.zero, i.size, i.bytes)) = some (some z, d.sz, bytes)) (hz : z.cells.size = d.sz)
    (base : Nat) (v : Value) (l : List α) (y : α) (hs : a.eval s = v) (nb : Nat) (hx : a.eval x = .slice (some ⟨nb, 0, none⟩) 1 1) (hnb : nb = W.heap.size)
    (HO : Ls d e W base v l) (hbase : base ≤ W.heap.size) (hl : (l.length + 1) * bytes ≤ 140737488355328) (hb0 : 0 < bytes) (C : Array Value) (hC : C = (d.enc y).toArray)
    (h : ∀ v1 w1, Ls d e w1 base v1 (l ++ [y]) → W.grownBy w1 v.ownBlock → (v1.ownBlock = v.ownBlock ∨ ∃ b, v1.ownBlock = some b ∧ W.heap.size ≤ b) → wpList P ops Q rest (a.put o.dst v1) w1) :
    wpList P ops Q (o :: rest) a (W.alloc (.cells C e)) := by
  subst hC
  subst hnb
  refine print_append_cells (w0 := W) base hgd s x t e z d.sz bytes ho ht hinfo hz d.pos hb0 v l.length (l.flatMap d.enc) (d.enc y) hs hx (d.len y) (d.one y) HO (Below.refl _ _) hbase hl fun v1 w1 h1 _ h3 h4 => h v1 w1 ?_ h3 h4
  show w1.ownsRow base e d.sz v1 (l ++ [y]).length ((l ++ [y]).flatMap d.enc)
  rw [List.length_append, List.flatMap_append]
  simpa using h1
/-- 'append(out, xs...)': xs a row of its own, or a part of one. -/
theorem wpList_cat (hgd : o.guard = none) (s x : Operand) (t e : TypeId) (z : Value) (bytes : Nat)
    (ho : o.op = .call { callee := .builtin .append, args := #[s, x], argTypes := #[t, t] })
    (ht : P.underlying t = some (.slice e)) (hinfo : (P.info? e).map (fun i => (i.zero, i.size, i.bytes)) = some (some z, d.sz, bytes)) (hz : z.cells.size = d.sz)
    (base : Nat) (v : Value) (l m : List α) (hs : a.eval s = v) (ad : Addr) (c : Nat) (hx : a.eval x = .slice (some ad) m.length c) (hm : ∀ j u, (m.flatMap d.enc)[j]? = some u → W.cell? (ad.add j) = some u)
    (HO : Ls d e W base v l) (hbase : base ≤ W.heap.size) (hl : (l.length + m.length) * bytes ≤ 140737488355328) (hb0 : 0 < bytes)
    (h : ∀ v1 w1, Ls d e w1 base v1 (l ++ m) → W.grownBy w1 v.ownBlock → (v1.ownBlock = v.ownBlock ∨ ∃ b, v1.ownBlock = some b ∧ W.heap.size ≤ b) → wpList P ops Q rest (a.put o.dst v1) w1) :
    wpList P ops Q (o :: rest) a W := by
  obtain ⟨i0, hi, hzz⟩ := Option.map_eq_some_iff.1 hinfo
  simp only [Prod.mk.injEq] at hzz
  obtain ⟨hz0, hz1, hz2⟩ := hzz
  have hlen : l.length + m.length ≤ 140737488355328 := Nat.le_trans (Nat.le_mul_of_pos_right _ hb0) hl
  refine wpList_append_own_at W hgd s x t ho base e i0 z d.sz bytes ht hi hz0 hz1 hz2 hz d.pos v l.length (l.flatMap d.enc) hs HO ad m.length c (m.flatMap d.enc) hx (flat_len d m) hm (flat_one d m) (by simp only [maxLen]; omega) hl hbase fun v1 w1 h1 h2 _ h3 => h v1 w1 ?_ h2 (h3.imp id fun e' => ⟨_, e', Nat.le_refl _⟩)
  show w1.ownsRow base e d.sz v1 (l ++ m).length ((l ++ m).flatMap d.enc)
  rw [List.length_append, List.flatMap_append]
  exact h1
end
/-- 'append([]T(nil), xs...)': xs a whole row of its own. -/
theorem wpList_copy {α : Type} {d : En α} {P : Program} {ops : Array Oper} {rest : List Oper} {o : Oper} {a : Act} {Q : Exit → Act → World → Prop} {W : World} (hgd : o.guard = none) (s x : Operand) (t e : TypeId) (z : Value) (bytes : Nat)
    (ho : o.op = .call { callee := .builtin .append, args := #[s, x], argTypes := #[t, t] })
    (ht : P.underlying t = some (.slice e)) (hinfo : (P.info? e).map (fun i => (i.zero, i.size, i.bytes)) = some (some z, d.sz, bytes)) (hz : z.cells.size = d.sz)
    (base : Nat) (v : Value) (l : List α) (hs : a.eval s = .slice none 0 0) (hx : a.eval x = v) (HO : Ls d e W base v l) (hl : l.length * bytes ≤ 140737488355328) (hb0 : 0 < bytes)
    (h : ∀ v1 w1, Ls d e w1 W.heap.size v1 l → W.grownBy w1 none → (v1.ownBlock = none ∨ ∃ b, v1.ownBlock = some b ∧ W.heap.size ≤ b) → wpList P ops Q rest (a.put o.dst v1) w1) :
    wpList P ops Q (o :: rest) a W := by
  rcases HO.2 with ⟨rfl, h0⟩ | ⟨g, cap, cur, rfl, hb, hg, hc, hm, _⟩
  · obtain rfl : l = [] := List.length_eq_zero_iff.1 h0
    obtain ⟨i0, hi, hzz⟩ := Option.map_eq_some_iff.1 hinfo
    exact wpList_append_own_none hgd s x t ho W.heap.size e i0 d.sz ht hi (.slice none 0 0) 0 [] hs (World.ownsRow_nil ..) hx (h _ _ (Ls.nil d e W _) (World.grownBy.refl _ _) (.inl rfl))
  · refine wpList_cat (d := d) hgd s x t e z bytes ho ht hinfo hz W.heap.size (.slice none 0 0) [] l hs ⟨g, 0, none⟩ cap hx (fun j u hu => ?_) (Ls.nil d e W _) (Nat.le_refl _) (by simpa using hl) hb0 fun v1 w1 h1 h2 h3 => h v1 w1 h1 h2 h3
    exact World.ownsRow.cells HO (g := g) rfl j u hu
/-- a whole row's cells, for wpList_cat -/
theorem Ls.news {α : Type} {d : En α} {e : TypeId} {W : World} {base : Nat} {A : Option Addr} {n c : Nat} {l : List α} (h : Ls d e W base (.slice A n c) l) (hl : 0 < l.length) : ∃ g, A = some ⟨g, 0, none⟩ ∧ ∀ k : Nat, ∀ j u, ((l.drop k).flatMap d.enc)[j]? = some u → W.cell? ((⟨g, k * d.sz, none⟩ : Addr).add j) = some u := by
  have hh := h
  rcases h.2 with ⟨_, h0⟩ | ⟨g, cap, cur, hv, hb, hg, _⟩
  · omega
  · injection hv with hA hn hc
    subst hA
    refine ⟨g, rfl, fun k j u hu => ?_⟩
    have e1 : l.flatMap d.enc = (l.take k).flatMap d.enc ++ (l.drop k).flatMap d.enc := by rw [← List.flatMap_append, List.take_append_drop]
    by_cases hk : k ≤ l.length
    · have := World.ownsRow.cells hh (g := g) rfl (k * d.sz + j) u (by rw [e1, List.getElem?_append_right (by rw [flat_len, List.length_take, Nat.min_eq_left hk]; omega), flat_len, List.length_take, Nat.min_eq_left hk, show k * d.sz + j - k * d.sz = j by omega]; exact hu)
      rw [add_plain] at this
      unfold Addr.add
      split
      · rename_i h0
        subst h0
        simpa using this
      · exact this
    · rw [List.drop_eq_nil_of_le (by omega)] at hu
      simp at hu
theorem flat_take {α : Type} {d : En α} {l : List α} {k j : Nat} {u : Value} (hu : ((l.take k).flatMap d.enc)[j]? = some u) : (l.flatMap d.enc)[j]? = some u := by
  have e1 : l.flatMap d.enc = (l.take k).flatMap d.enc ++ (l.drop k).flatMap d.enc := by rw [← List.flatMap_append, List.take_append_drop]
  rw [e1, List.getElem?_append_left (List.getElem?_eq_some_iff.1 hu).1]
  exact hu
end Go.Proofs.Ytjpjlloimemcfaa.Lst
namespace Go.Proofs.Ytjpjlloimemcfaa.Lst
set_option linter.unusedVariables false
set_option linter.unusedSimpArgs false
open Go.RowKit Go.Proofs.YtjpjlloimemcfaaW.PrintWords Go.Proofs.YtjpjlloimemcfaaW.PrintLast Go.Proofs.YtjpjlloimemcfaaW.PrintMore
section
variable {α : Type} {d : En α} {P : Program} {W : World}
theorem cat_run (t ty e : TypeId) (z : Value) (bytes : Nat) (ht : P.underlying t = some (.slice e)) (hinfo : (P.info? e).map (fun i => (i.zero, i.size, i.bytes)) = some (some z, d.sz, bytes)) (hz : z.cells.size = d.sz)
    (base : Nat) (v : Value) (l m : List α) (ad : Addr) (c : Nat) (hm : ∀ j u, (m.flatMap d.enc)[j]? = some u → W.cell? (ad.add j) = some u)
    (HO : Ls d e W base v l) (hbase : base ≤ W.heap.size) (hl : (l.length + m.length) * bytes ≤ 140737488355328) (hb0 : 0 < bytes) :
    ∃ v1 w1, (Builtin.append_ #[t, t] ty #[v, .slice (some ad) m.length c]).run P W = .ok v1 w1 ∧ Ls d e w1 base v1 (l ++ m) ∧ W.grownBy w1 v.ownBlock ∧ (v1.ownBlock = v.ownBlock ∨ v1.ownBlock = some W.heap.size) := by
  obtain ⟨i0, hi, hzz⟩ := Option.map_eq_some_iff.1 hinfo
  simp only [Prod.mk.injEq] at hzz
  obtain ⟨hz0, hz1, hz2⟩ := hzz
  have hlen : l.length + m.length ≤ 140737488355328 := Nat.le_trans (Nat.le_mul_of_pos_right _ hb0) hl
  obtain ⟨v1, w1, hr, hown, hg, _, hat⟩ := run_append_own_at (P := P) W base t ty e i0 z d.sz bytes ht hi hz0 hz1 hz2 hz d.pos v l.length (l.flatMap d.enc) HO ad m.length c (m.flatMap d.enc) (flat_len d m) hm (flat_one d m) (by simp only [maxLen]; omega) hl hbase
  refine ⟨v1, w1, hr, ?_, hg, hat⟩
  show w1.ownsRow base e d.sz v1 (l ++ m).length ((l ++ m).flatMap d.enc)
  rw [List.length_append, List.flatMap_append]
  exact hown
theorem copy_run (t ty e : TypeId) (z : Value) (bytes : Nat) (ht : P.underlying t = some (.slice e)) (hinfo : (P.info? e).map (fun i => (i.zero, i.size, i.bytes)) = some (some z, d.sz, bytes)) (hz : z.cells.size = d.sz)
    (base : Nat) (v : Value) (l : List α) (HO : Ls d e W base v l) (hl : l.length * bytes ≤ 140737488355328) (hb0 : 0 < bytes) :
    ∃ v1 w1, (Builtin.append_ #[t, t] ty #[.slice none 0 0, v]).run P W = .ok v1 w1 ∧ Ls d e w1 W.heap.size v1 l ∧ W.grownBy w1 none ∧ (v1.ownBlock = none ∨ v1.ownBlock = some W.heap.size) := by
  rcases HO.2 with ⟨rfl, h0⟩ | ⟨g, cap, cur, rfl, hb, hg, hc, hm, _⟩
  · obtain rfl : l = [] := List.length_eq_zero_iff.1 h0
    obtain ⟨i0, hi, hzz⟩ := Option.map_eq_some_iff.1 hinfo
    exact ⟨_, W, run_append_owned_none (P := P) (w := W) W.heap.size t ty e i0 d.sz ht hi (.slice none 0 0) 0 [] (World.ownsRow_nil ..), Ls.nil d e W _, World.grownBy.refl _ _, .inl rfl⟩
  · obtain ⟨v1, w1, h1, h2, h3, h4⟩ := cat_run (d := d) (P := P) (W := W) t ty e z bytes ht hinfo hz W.heap.size (.slice none 0 0) [] l ⟨g, 0, none⟩ cap (fun j u hu => World.ownsRow.cells HO (g := g) rfl j u hu) (Ls.nil d e W _) (Nat.le_refl _) (by simpa using hl) hb0
    exact ⟨v1, w1, h1, h2, h3, h4⟩
theorem push_run (t ty e : TypeId) (z : Value) (bytes : Nat) (ht : P.underlying t = some (.slice e)) (hinfo : (P.info? e).map (fun i => (i.zero, i.size, i.bytes)) = some (some z, d.sz, bytes)) (hz : z.cells.size = d.sz)
    (base : Nat) (v : Value) (l : List α) (y : α) (nb : Nat) (hnb : nb = W.heap.size) (C : Array Value) (hC : C = (d.enc y).toArray)
    (HO : Ls d e W base v l) (hbase : base ≤ W.heap.size) (hl : (l.length + 1) * bytes ≤ 140737488355328) (hb0 : 0 < bytes) :
    ∃ v1 w1, (Builtin.append_ #[t, t] ty #[v, .slice (some ⟨nb, 0, none⟩) 1 1]).run P (W.alloc (.cells C e)) = .ok v1 w1 ∧ Ls d e w1 base v1 (l ++ [y]) ∧ W.grownBy w1 v.ownBlock ∧ (v1.ownBlock = v.ownBlock ∨ ∃ b, v1.ownBlock = some b ∧ W.heap.size ≤ b) := by
  subst hnb hC
  have hb := below_alloc (Below.refl W.heap.size W) (.cells (d.enc y).toArray e)
  have hn : (W.alloc (.cells (d.enc y).toArray e)).heap[W.heap.size]? = some (.cells (d.enc y).toArray e (0, 0)) := blk_new _ _
  obtain ⟨v1, w1, h1, h2, h3, h4⟩ := cat_run (d := d) (P := P) (W := W.alloc (.cells (d.enc y).toArray e)) t ty e z bytes ht hinfo hz base v l [y] ⟨W.heap.size, 0, none⟩ 1 (fun j u hu => by
      rw [add_plain]
      rw [show ([y].flatMap d.enc) = d.enc y by simp] at hu
      refine (blk_cell hn j).trans ?_
      rw [List.getElem?_toArray]
      exact hu) (HO.below hb) (Nat.le_trans hbase hb.size) (by simpa using hl) hb0
  refine ⟨v1, w1, h1, h2, World.grownBy.trans (World.grownBy_alloc W _ _) h3, ?_⟩
  rcases h4 with h4 | h4
  · exact .inl h4
  · exact .inr ⟨_, h4, hb.size⟩
end
end Go.Proofs.Ytjpjlloimemcfaa.Lst
namespace Go.Proofs.Ytjpjlloimemcfaa.Lst
set_option linter.unusedVariables false
set_option linter.unusedSimpArgs false
open Go.RowKit Go.Proofs.YtjpjlloimemcfaaW.PrintWords Go.Proofs.YtjpjlloimemcfaaW.PrintLast Go.Proofs.YtjpjlloimemcfaaW.PrintMore
abbrev blkOf (v : Value) : Option Nat := v.ownBlock
theorem add_at (g o j : Nat) : (⟨g, o, none⟩ : Addr).add j = ⟨g, o + j, none⟩ := by
  unfold Addr.add
  split
  · rename_i h
    subst h
    rfl
  · rfl
def Ct {α : Type} (d : En α) (e : TypeId) (W : World) (b0 : Nat) (v : Value) (l : List α) : Prop := ∃ A c, v = .slice A l.length c ∧ l.length ≤ c ∧ (A = none → c = 0) ∧
  ∀ a, A = some a → ∃ g o, a = ⟨g, o, none⟩ ∧ b0 ≤ g ∧ g < W.heap.size ∧ (∃ cur, W.heap[g]? = some (.cells cur e (0, 0))) ∧ ∀ j u, (l.flatMap d.enc)[j]? = some u → W.cell? ⟨g, o + j, none⟩ = some u
section
variable {α : Type} {d : En α} {e : TypeId} {W W' : World} {b0 b1 : Nat} {v : Value} {l : List α}
theorem Ct.nil (d : En α) (e : TypeId) (W : World) (b0 : Nat) : Ct d e W b0 (.slice none 0 0) [] := ⟨none, 0, rfl, Nat.le_refl _, fun _ => rfl, fun a e' => by cases e'⟩
theorem Ct.of_ls (h : Ls d e W b0 v l) : Ct d e W b0 v l := by
  rcases h.2 with ⟨rfl, h0⟩ | ⟨g, c, cur, rfl, hb, hg, hc, hm, _⟩
  · obtain rfl : l = [] := List.length_eq_zero_iff.1 h0
    exact Ct.nil d e W b0
  · refine ⟨_, c, rfl, hc, fun e' => (by cases e'), fun a e' => ?_⟩
    cases e'
    refine ⟨g, 0, rfl, hb, (h.own g rfl).2.1, ⟨cur, hg⟩, fun j u hu => ?_⟩
    have := World.ownsRow.cells h (g := g) rfl j u hu
    rw [add_plain] at this
    simpa using this
theorem Ct.blk (h : Ct d e W b0 v l) : ∀ k, blkOf v = some k → b0 ≤ k ∧ k < W.heap.size ∧ ∃ cur, W.heap[k]? = some (.cells cur e (0, 0)) := by
  obtain ⟨A, c, rfl, _, _, h⟩ := h
  intro k hk
  cases A with
  | none => cases hk
  | some a =>
    obtain ⟨g, o, rfl, h1, h2, h3, _⟩ := h a rfl
    cases hk
    exact ⟨h1, h2, h3⟩
theorem Ct.move (h : Ct d e W b0 v l) (hs : W.heap.size ≤ W'.heap.size) (hm : ∀ k, blkOf v = some k → W'.heap[k]? = W.heap[k]?) : Ct d e W' b0 v l := by
  obtain ⟨A, c, rfl, hc, hn, h⟩ := h
  refine ⟨A, c, rfl, hc, hn, fun a e' => ?_⟩
  obtain ⟨g, o, rfl, h1, h2, ⟨cur, h3⟩, h4⟩ := h a e'
  subst e'
  have hg := hm g rfl
  refine ⟨g, o, rfl, h1, by omega, ⟨cur, hg.trans h3⟩, fun j u hu => ?_⟩
  rw [← h4 j u hu]
  simp only [World.cell?, hg]
theorem Ct.below (h : Ct d e W b0 v l) (hb : Below W.heap.size W W') : Ct d e W' b0 v l := h.move hb.size fun k hk => hb.block k (h.blk k hk).2.1
theorem Ct.drewN (h : Ct d e W b0 v l) (n : Nat) : Ct d e (W.drewN n) b0 v l := h
theorem Ct.lower (h : Ct d e W b1 v l) (hb : b0 ≤ b1) : Ct d e W b0 v l := by
  obtain ⟨A, c, rfl, hc, hn, h⟩ := h
  refine ⟨A, c, rfl, hc, hn, fun a e' => ?_⟩
  obtain ⟨g, o, rfl, h1, h2⟩ := h a e'
  exact ⟨g, o, rfl, Nat.le_trans hb h1, h2⟩
theorem Ct.form (h : Ct d e W b0 v l) : ∃ A c, v = .slice A l.length c ∧ l.length ≤ c := by
  obtain ⟨A, c, e', hc, _⟩ := h
  exact ⟨A, c, e', hc⟩
theorem Ct.at {A : Option Addr} {n c : Nat} (h : Ct d e W b0 (.slice A n c) l) {i : Nat} {x : α} (hx : l[i]? = some x) : ∃ g o, A = some ⟨g, o, none⟩ ∧ g < W.heap.size ∧ ∀ j u, (d.enc x)[j]? = some u → W.cell? ⟨g, o + i * d.sz + j, none⟩ = some u := by
  obtain ⟨A', c', e', hc, hn, h⟩ := h
  injection e' with e1 e2 e3
  subst e1 e2 e3
  have hi := (List.getElem?_eq_some_iff.1 hx).1
  cases A with
  | none => have := hn rfl; omega
  | some a =>
    obtain ⟨g, o, rfl, h1, h2, _, h4⟩ := h a rfl
    refine ⟨g, o, rfl, h2, fun j u hu => ?_⟩
    have := h4 (i * d.sz + j) u (flat_get d l i x hx j u hu)
    rw [Nat.add_assoc]; exact this
/-- its beginning -/
theorem Ct.take {A : Option Addr} {n c : Nat} (h : Ct d e W b0 (.slice A n c) l) {i : Nat} (hi : i ≤ l.length) : Ct d e W b0 (.slice A i c) (l.take i) := by
  obtain ⟨A', c', e', hc, hn, h⟩ := h
  injection e' with e1 e2 e3
  subst e1 e2 e3
  refine ⟨A, c, by rw [List.length_take_of_le hi], by rw [List.length_take_of_le hi]; omega, hn, fun a e' => ?_⟩
  obtain ⟨g, o, rfl, h1, h2, h3, h4⟩ := h a e'
  exact ⟨g, o, rfl, h1, h2, h3, fun j u hu => h4 j u (flat_take hu)⟩
/-- its end -/
theorem Ct.drop {g o n c : Nat} (h : Ct d e W b0 (.slice (some ⟨g, o, none⟩) n c) l) {i : Nat} (hi : i ≤ l.length) : Ct d e W b0 (.slice (if c = i then some ⟨g, o, none⟩ else some ⟨g, o + i * d.sz, none⟩) (l.length - i) (c - i)) (l.drop i) := by
  obtain ⟨A', c', e', hc, hn, h⟩ := h
  injection e' with e1 e2 e3
  subst e1 e2 e3
  obtain ⟨g', o', e', h1, h2, h3, h4⟩ := h _ rfl
  cases e'
  have hl : (l.drop i).length = l.length - i := List.length_drop
  have e1 : l.flatMap d.enc = (l.take i).flatMap d.enc ++ (l.drop i).flatMap d.enc := by rw [← List.flatMap_append, List.take_append_drop]
  by_cases hci : c = i
  · rw [if_pos hci]
    refine ⟨_, c - i, by rw [hl], by rw [hl]; omega, fun e' => (by cases e'), fun a e' => ?_⟩
    cases e'
    refine ⟨g, o, rfl, h1, h2, h3, fun j u hu => ?_⟩
    rw [List.drop_eq_nil_of_le (by omega)] at hu
    simp at hu
  · rw [if_neg hci]
    refine ⟨_, c - i, by rw [hl], by rw [hl]; omega, fun e' => (by cases e'), fun a e' => ?_⟩
    cases e'
    refine ⟨g, o + i * d.sz, rfl, h1, h2, h3, fun j u hu => ?_⟩
    have := h4 (i * d.sz + j) u (by rw [e1, List.getElem?_append_right (by rw [flat_len, List.length_take_of_le hi]; exact Nat.le_add_right _ _), flat_len, List.length_take_of_le hi, show i * d.sz + j - i * d.sz = j from Nat.add_sub_cancel_left _ _]; exact hu)
    rw [Nat.add_assoc]; exact this
theorem Ct.drop0 {n c : Nat} (h : Ct d e W b0 (.slice none n c) l) : l = [] ∧ n = 0 ∧ c = 0 := by
  obtain ⟨A', c', e', hc, hn, h⟩ := h
  injection e' with e1 e2 e3
  subst e1 e2 e3
  have := hn rfl
  exact ⟨List.length_eq_zero_iff.1 (by omega), by omega, this⟩
end
end Go.Proofs.Ytjpjlloimemcfaa.Lst
namespace Go.Proofs.Ytjpjlloimemcfaa.Frm
set_option linter.unusedVariables false
set_option linter.unusedSimpArgs false
open Go.RowKit Go.Proofs.Ytjpjlloimemcfaa.PA Go.Proofs.YtjpjlloimemcfaaW.PrintWords Go.Proofs.YtjpjlloimemcfaaW.PrintLast Go.Proofs.YtjpjlloimemcfaaW.PrintMore Go.Proofs.Ytjpjlloimemcfaa.Base Go.Proofs.Ytjpjlloimemcfaa.Var
theorem take_split (l : List Int) (a b : Nat) (h : a ≤ b) : l.take b = l.take a ++ (l.take b).drop a := by
  have := (List.take_append_drop a (l.take b)).symm
  rw [List.take_take, Nat.min_eq_left h] at this
  exact this
theorem again {l : List Int} (hb : Bytes l) {x : List Int} {n : Int} (h : parseV l = (x, n, 0)) : layV x = l.take n.toNat ∧ 8 ≤ n ∧ n ≤ l.length ∧ x.length ≤ 2048 ∧ Bytes x := by
  unfold parseV at h
  rcases hh : headV l with ⟨m, a, e⟩
  rw [hh] at h
  dsimp only at h
  by_cases he : e = 0
  rotate_left
  · rw [if_neg he] at h
    simp only [Prod.mk.injEq] at h
    exact absurd h.2.2 he
  subst he
  obtain ⟨g1, g2, g3, g4, g5, g6, g7⟩ := head_ok hb hh
  rw [if_pos rfl] at h
  by_cases h4 : a + m + 4 > l.length
  · rw [if_pos h4] at h
    simp at h
  rw [if_neg h4] at h
  by_cases ho : (Crc.openV (l.take (a + m + 4).toNat)).2 = 0
  rotate_left
  · rw [if_neg ho] at h
    simp only [Prod.mk.injEq] at h
    exact absurd h.2.2 ho
  rw [if_pos ho] at h
  simp only [Prod.mk.injEq, and_true] at h
  obtain ⟨hx, rfl⟩ := h
  have hlen : (l.take (a + m + 4).toNat).length = (a + m + 4).toNat := List.length_take_of_le (by omega)
  have hE : (a + m + 4).toNat - 4 = (a + m).toNat := by omega
  unfold Crc.openV at ho
  rw [if_neg (by omega), hlen, hE] at ho
  have ht : (l.take (a + m + 4).toNat).take (a + m).toNat = l.take (a + m).toNat := by rw [List.take_take, Nat.min_eq_left (by omega)]
  rw [ht] at ho
  by_cases hc : (l.take (a + m + 4).toNat).drop (a + m).toNat = Crc.b4 (Crc.sumV (l.take (a + m).toNat))
  rotate_left
  · rw [if_neg hc] at ho
    simp at ho
  have hxl : x.length = m.toNat := by rw [← hx, List.length_drop, List.length_take_of_le (by omega)]; omega
  have ha : a.toNat = 3 + (vb m.toNat).length := by omega
  have hbody : bodyV x = l.take (a + m).toNat := by
    unfold bodyV
    rw [hxl]
    have e1 := take_split l a.toNat (a + m).toNat (by omega)
    rw [e1, hx]
    congr 1
    rw [ha]
    have e2 := take_split l 3 (3 + (vb m.toNat).length) (by omega)
    rw [e2, g6, List.drop_take, show 3 + (vb m.toNat).length - 3 = (vb m.toNat).length by omega, g7]
  refine ⟨?_, by omega, by omega, by omega, ?_⟩
  · unfold layV Crc.sealV
    rw [hbody, ← hc, ← ht, List.take_append_drop]
  · rw [← hx]
    exact Bytes.drop (Bytes.take hb _) _
/-! ### all that follow one another -/
def allV (l : List Int) : Nat → Nat → List (List Int) × Nat × Int
  | 0, at_ => ([], at_, 0)
  | f + 1, at_ => if at_ < l.length then
      (if (parseV (l.drop at_)).2.2 = 0 then ((parseV (l.drop at_)).1 :: (allV l f (at_ + (parseV (l.drop at_)).2.1.toNat)).1, (allV l f (at_ + (parseV (l.drop at_)).2.1.toNat)).2)
       else ([], at_, (parseV (l.drop at_)).2.2))
    else ([], at_, 0)
theorem all_lay {l : List Int} (hb : Bytes l) : ∀ (f at_ : Nat), at_ ≤ l.length → at_ ≤ (allV l f at_).2.1 ∧ (allV l f at_).2.1 ≤ l.length ∧ ((allV l f at_).1.map layV).flatten = (l.drop at_).take ((allV l f at_).2.1 - at_) ∧ ∀ x ∈ (allV l f at_).1, x.length ≤ 2048 ∧ Bytes x
  | 0, at_, h => by
    unfold allV
    exact ⟨Nat.le_refl _, h, by simp, fun x hx => by cases hx⟩
  | f + 1, at_, h => by
    unfold allV
    by_cases h1 : at_ < l.length
    rotate_left
    · rw [if_neg h1]
      exact ⟨Nat.le_refl _, h, by simp, fun x hx => by cases hx⟩
    rw [if_pos h1]
    rcases hp : parseV (l.drop at_) with ⟨x, n, e⟩
    dsimp only
    by_cases he : e = 0
    rotate_left
    · rw [if_neg he]
      exact ⟨Nat.le_refl _, h, by simp, fun x hx => by cases hx⟩
    rw [if_pos he]
    subst he
    obtain ⟨a1, a2, a3, a4, a5⟩ := again (hb.drop at_) hp
    rw [List.length_drop] at a3
    obtain ⟨i1, i2, i3, i4⟩ := all_lay hb f (at_ + n.toNat) (by omega)
    dsimp only
    refine ⟨by omega, i2, ?_, fun y hy => ?_⟩
    · rw [List.map_cons, List.flatten_cons, i3, a1]
      have e1 := take_split (l.drop at_) n.toNat ((allV l f (at_ + n.toNat)).2.1 - at_) (by omega)
      rw [e1, List.drop_take, List.drop_drop]
      congr 2
      omega
    · rcases List.mem_cons.1 hy with rfl | hy
      · exact ⟨a4, a5⟩
      · exact i4 y hy
/-- as far as there is something -/
theorem all_more {l : List Int} (hb : Bytes l) : ∀ (f g at_ : Nat), l.length - at_ ≤ f → l.length - at_ ≤ g → at_ ≤ l.length → allV l f at_ = allV l g at_
  | 0, 0, at_, _, _, _ => rfl
  | 0, g + 1, at_, h, _, _ => by unfold allV; rw [if_neg (by omega)]
  | f + 1, 0, at_, _, h, _ => by unfold allV; rw [if_neg (by omega)]
  | f + 1, g + 1, at_, h1, h2, h3 => by
    unfold allV
    by_cases c : at_ < l.length
    rotate_left
    · rw [if_neg c, if_neg c]
    rw [if_pos c, if_pos c]
    rcases hp : parseV (l.drop at_) with ⟨x, n, e⟩
    dsimp only
    by_cases he : e = 0
    rotate_left
    · rw [if_neg he, if_neg he]
    subst he
    obtain ⟨a1, a2, a3, _⟩ := again (hb.drop at_) hp
    rw [List.length_drop] at a3
    rw [if_pos rfl, if_pos rfl, all_more hb f g (at_ + n.toNat) (by omega) (by omega) (by omega)]
end Go.Proofs.Ytjpjlloimemcfaa.Frm
namespace Go.Proofs.Ytjpjlloimemcfaa.Frm
set_option linter.unusedVariables false
set_option linter.unusedSimpArgs false
open Go.RowKit Go.Proofs.Ytjpjlloimemcfaa.PA Go.Proofs.YtjpjlloimemcfaaW.PrintWords Go.Proofs.YtjpjlloimemcfaaW.PrintLast Go.Proofs.YtjpjlloimemcfaaW.PrintMore Go.Proofs.Ytjpjlloimemcfaa.Base Go.Proofs.Ytjpjlloimemcfaa.Var Go.Proofs.Ytjpjlloimemcfaa.Lst
attribute [local go_sem] max2_int min2_int max_two min_two max_three min_three max_four min_four
def encB : En Int := ⟨fun x => [.int .u8 x], 1, fun _ => rfl, fun x u hu => by simp at hu; subst hu; rfl, by decide⟩
theorem flat_u8 (xs : List Int) : xs.flatMap encB.enc = encs (Value.int .u8) xs := by
  induction xs with
  | nil => rfl
  | cons x xs ih => rw [List.flatMap_cons, ih]; rfl
theorem ls_of {w : World} {v : Value} {base : Nat} {xs : List Int} (h : Kd.R (Kd.int .u8) 5 w base (fun _ => True) v xs) : Ls encB 5 w base v xs := by
  have := Kd.own_of_R h
  unfold Ls
  rw [flat_u8]
  exact this
structure Sl where
  A : Option Addr
  n : Nat
  c : Nat
def Sl.v (s : Sl) : Value := .slice s.A s.n s.c
def encS : En Sl := ⟨fun s => [s.v], 1, fun _ => rfl, fun s u hu => by simp at hu; subst hu; rfl, by decide⟩
theorem info22 : (Try.prog.info? 22).map (fun i => (i.zero, i.size, i.bytes)) = some (some (.slice none 0 0), 1, 24) := by kernel_rfl
/-- a row of rows of bytes -/
def LL (W : World) (b0 : Nat) (v : Value) (xss : List (List Int)) : Prop := ∃ ss : List Sl, Ls encS 22 W b0 v ss ∧ ss.length = xss.length ∧ ∀ (i : Nat) (s : Sl) (xs : List Int), ss[i]? = some s → xss[i]? = some xs → Ls encB 5 W b0 s.v xs
section
variable {W W' : World} {b0 : Nat} {v : Value} {xss : List (List Int)}
theorem LL.nil (W : World) (b0 : Nat) : LL W b0 (.slice none 0 0) [] := ⟨[], Ls.nil _ _ _ _, rfl, fun i s xs h => by simp at h⟩
theorem LL.below (h : LL W b0 v xss) (hb : Below W.heap.size W W') : LL W' b0 v xss := by
  obtain ⟨ss, h1, h2, h3⟩ := h
  exact ⟨ss, h1.below hb, h2, fun i s xs a b => (h3 i s xs a b).below hb⟩
theorem LL.far (h : LL W b0 v xss) {g t : Nat} {cs : Array Value} (hg : W.heap[g]? = some (.cells cs t (0, 0))) (h1 : 22 ≠ t) (h2 : 5 ≠ t) (j : Nat) (u : Value) : LL (W.setCell ⟨g, j, none⟩ u) b0 v xss := by
  obtain ⟨ss, a1, a2, a3⟩ := h
  exact ⟨ss, a1.far (p := ⟨g, j, none⟩) (a1.ne hg h1) u, a2, fun i s xs a b => (a3 i s xs a b).far (p := ⟨g, j, none⟩) ((a3 i s xs a b).ne hg h2) u⟩
theorem LL.form (h : LL W b0 v xss) : ∃ A c, v = .slice A xss.length c ∧ xss.length ≤ c := by
  obtain ⟨ss, h1, h2, _⟩ := h
  obtain ⟨A, c, e, hc, _⟩ := h1.form
  rw [h2] at e hc
  exact ⟨A, c, e, hc⟩
end
set_option maxHeartbeats 8000000 in
theorem next_c (k : Nat) (A0 : Option Addr) (c0 : Nat) (l : List Int) (g i : Nat) (hi : i ≤ l.length) (hl : l.length ≤ 100000) (hc0 : l.length ≤ c0) (x : List Int) (m e0 : Int) (hm : 0 ≤ m ∧ m ≤ 100000) (hf : frame_Parse.f k (l.drop i) = some (x, m, e0)) (w : World) (hb : Kd.C (Kd.int .u8) w A0 l.length l) (hg : w.heap[g]? = some (.cells #[.slice A0 l.length c0, .int .i64 (i : Int)] 52 (0, 0))) :
    Calls Try.prog 27 #[.pointer (some ⟨g, 0, none⟩)] w fun e w' => ∃ v w1, e = .returned (.tuple #[v, .int .i64 e0]) ∧ Ls encB 5 w1 w.heap.size v x ∧ Below w.heap.size w w1 ∧ w1.setCell ⟨g, 1, none⟩ (.int .i64 ((i : Int) + m)) = w' := by
  have HB := Aside0.mk hb
  have HG := Aside0.mk hg
  have hd := Kd.C_drop (k := Kd.int .u8) hb hi hc0
  obtain ⟨A1, hA1⟩ : ∃ A1 : Option Addr, (if c0 = i then A0 else A0.map (·.add (i * (Kd.int .u8).sz))) = A1 := ⟨_, rfl⟩
  rw [hA1] at hd
  have hA2 : (if c0 = i then A0 else Option.map (fun x => x.add i) A0) = A1 := by rw [← hA1, show (Kd.int .u8).sz = 1 from rfl, Nat.mul_one]
  have HD := Aside0.mk (show ∀ W, Below w.heap.size w W → Calls Try.prog 11 #[.slice A1 (l.length - i) (c0 - i)] W fun e w' => ∃ v0_ : Value, e = .returned (.tuple #[v0_, .int .i64 m, .int .i64 e0]) ∧ Kd.R (Kd.int .u8) 5 w' W.heap.size (fun _ => True) v0_ x ∧ Below W.heap.size W w' from fun W hb => by
    have q := frame_Parse.calls k A1 (c0 - i) (l.drop i) x m e0 W (Kd.C_below hd hb) (by rw [List.length_drop]; omega) hf
    rw [List.length_drop] at q
    exact q)
  have hk0 : (World.drew w).cell? ⟨g, 0, none⟩ = some (.slice A0 l.length c0) := blk_cell hg 0
  have hk1 : (World.drew w).cell? ⟨g, 1, none⟩ = some (.int .i64 (i : Int)) := blk_cell hg 1
  have e1 : wrap64 ((i : Int) + m) = (i : Int) + m := w64 (by omega) (by omega)
  have hs1 : (0 : Int) ≤ (i : Int) := by omega
  have hs2 : (i : Int) ≤ (l.length : Int) := by omega
  clear hb hg hd hA1
  go_enter Try.func27, Try.ntmps27
  go_upto_region 1 with (fail)
  refine start_ (n := 17) (S := fun w' => w'.cell? ⟨g, 0, none⟩ = some (.slice A0 l.length c0) ∧ w'.cell? ⟨g, 1, none⟩ = some (.int .i64 (i : Int))) (ds := []) #[false, false, false, false, false, false, false, false, false, false, false, false, false, false, false, false, false] (by kernel_rfl) rfl rfl ⟨hk0, hk1⟩ (fun hHeld => ?_)
  refine pure_ (i := 0) (N := some 8) (v := ?_) (a' := ?_) #[true, false, false, false, false, false, false, false, false, false, false, false, false, false, false, false, false] rfl rfl (by kernel_rfl) (fun _ _ _ h => h) (Or.inl ⟨by rfl, ?_⟩) ?_ ?_
  rotate_left
  · intro w'
    go_simp
    with_reducible rfl
  rotate_left
  · simp only [Act.put, List.setIfInBounds_toArray, List.set_cons_zero, List.set_cons_succ, i64_w, i32_w]
    rfl
  refine pure_ (i := 1) (N := some 9) (v := ?_) (a' := ?_) #[true, true, false, false, false, false, false, false, false, false, false, false, false, false, false, false, false] rfl rfl (by kernel_rfl) (fun _ _ _ h => h) (Or.inl ⟨by rfl, ?_⟩) ?_ ?_
  rotate_left
  · intro w'
    go_simp
    with_reducible rfl
  rotate_left
  · simp only [Act.put, List.setIfInBounds_toArray, List.set_cons_zero, List.set_cons_succ, i64_w, i32_w]
    rfl
  refine pure_ (i := 2) (N := some 10) (v := ?_) (a' := ?_) #[true, true, true, false, false, false, false, false, false, false, false, false, false, false, false, false, false] rfl rfl (by kernel_rfl) (fun _ _ _ h => h) (Or.inl ⟨by rfl, ?_⟩) ?_ ?_
  rotate_left
  · intro w'
    go_simp
    with_reducible rfl
  rotate_left
  · simp only [Act.put, List.setIfInBounds_toArray, List.set_cons_zero, List.set_cons_succ, i64_w, i32_w]
    rfl
  refine pure_ (i := 4) (N := some 12) (v := ?_) (a' := ?_) #[true, true, true, false, true, false, false, false, false, false, false, false, false, false, false, false, false] rfl rfl (by kernel_rfl) (fun _ _ _ h => h) (Or.inl ⟨by rfl, ?_⟩) ?_ ?_
  rotate_left
  · intro w'
    go_simp
    with_reducible rfl
  rotate_left
  · simp only [Act.put, List.setIfInBounds_toArray, List.set_cons_zero, List.set_cons_succ, i64_w, i32_w]
    rfl
  refine pure_ (i := 5) (N := some 13) (v := ?_) (a' := ?_) #[true, true, true, false, true, true, false, false, false, false, false, false, false, false, false, false, false] rfl rfl (by kernel_rfl) (fun _ _ _ h => h) (Or.inl ⟨by rfl, ?_⟩) ?_ ?_
  rotate_left
  · intro w'
    go_simp
    with_reducible rfl
  rotate_left
  · simp only [Act.put, List.setIfInBounds_toArray, List.set_cons_zero, List.set_cons_succ, i64_w, i32_w]
    rfl
  refine pure_ (i := 6) (N := some 14) (v := ?_) (a' := ?_) #[true, true, true, false, true, true, true, false, false, false, false, false, false, false, false, false, false] rfl rfl (by kernel_rfl) (fun _ _ _ h => h) (Or.inl ⟨by rfl, ?_⟩) ?_ ?_
  rotate_left
  · intro w'
    go_simp
    with_reducible rfl
  rotate_left
  · simp only [Act.put, List.setIfInBounds_toArray, List.set_cons_zero, List.set_cons_succ, i64_w, i32_w]
    rfl
  refine take_ (i := 3) (N := some 11) (v := ?_) (a' := ?_) #[true, true, true, true, true, true, true, false, false, false, false, false, false, false, false, false, false] rfl rfl (by kernel_rfl) (fun _ _ _ h => h) (Or.inl ⟨by rfl, ?_⟩) hHeld ?_ ?_
  rotate_left
  · rintro w' ⟨s0, s1⟩
    go_simp
    with_reducible rfl
  rotate_left
  · simp only [Act.put, List.setIfInBounds_toArray, List.set_cons_zero, List.set_cons_succ, i64_w, i32_w]
    rfl
  refine take_ (i := 7) (N := some 15) (v := ?_) (a' := ?_) #[true, true, true, true, true, true, true, true, false, false, false, false, false, false, false, false, false] rfl rfl (by kernel_rfl) (fun _ _ _ h => h) (Or.inl ⟨by rfl, ?_⟩) hHeld ?_ ?_
  rotate_left
  · rintro w' ⟨s0, s1⟩
    go_simp
    with_reducible rfl
  rotate_left
  · simp only [Act.put, List.setIfInBounds_toArray, List.set_cons_zero, List.set_cons_succ, i64_w, i32_w]
    rfl
  refine pure_ (i := 8) (N := some 16) (v := ?_) (a' := ?_) #[true, true, true, true, true, true, true, true, true, false, false, false, false, false, false, false, false] rfl rfl (by kernel_rfl) (fun _ _ _ h => h) (Or.inl ⟨by rfl, ?_⟩) ?_ ?_
  rotate_left
  · intro w'
    go_simp
    with_reducible rfl
  rotate_left
  · simp only [Act.put, List.setIfInBounds_toArray, List.set_cons_zero, List.set_cons_succ, i64_w, i32_w]
    rfl
  refine one_ (i := 9) (N := some 17) #[true, true, true, true, true, true, true, true, true, true, false, false, false, false, false, false, false] rfl rfl (by kernel_rfl) (by decide) (fun K hK => ?_)
  refine goes_ Try.func11 (by kernel_rfl) rfl #[.slice A1 (l.length - i) (c0 - i)] (by rfl) rfl rfl (by simp only [List.map_toArray, List.map_cons, List.map_nil]; rfl) ?_
  with_reducible refine (HD.out _ (below_drew (Below.refl _ _))).mono ?_
  rintro e w3 ⟨v0, rfl, hR, hb3⟩
  refine ⟨_, rfl, ?_⟩
  have HR := Aside0.mk hR
  have HB3 := Aside0.mk (below_step (below_drew (Below.refl w.heap.size w)) hb3)
  have k0 := pw_cell_below hb3 hk0
  have k1 := pw_cell_below hb3 hk1
  have hbl := blk_below (blk_drew HG.out) hb3
  have f1 := blk_frozen hbl 1
  clear hR hb3
  refine hK.out _ _ ⟨k0, k1⟩ (fun hHeld => ?_)
  clear hK K
  refine norm_ (a' := ?_) ?_ ?_
  rotate_left
  · show Act.put _ (some 17) _ = _
    simp only [Act.put, List.setIfInBounds_toArray, List.set_cons_zero, List.set_cons_succ, i64_w, i32_w]
    rfl
  refine pure_ (i := 10) (N := some 7) (v := ?_) (a' := ?_) #[true, true, true, true, true, true, true, true, true, true, true, false, false, false, false, false, false] rfl rfl (by kernel_rfl) (fun _ _ _ h => h) (Or.inl ⟨by rfl, ?_⟩) ?_ ?_
  rotate_left
  · intro w'
    go_simp
    with_reducible rfl
  rotate_left
  · simp only [Act.put, List.setIfInBounds_toArray, List.set_cons_zero, List.set_cons_succ, i64_w, i32_w]
    rfl
  refine pure_ (i := 11) (N := some 18) (v := ?_) (a' := ?_) #[true, true, true, true, true, true, true, true, true, true, true, true, false, false, false, false, false] rfl rfl (by kernel_rfl) (fun _ _ _ h => h) (Or.inl ⟨by rfl, ?_⟩) ?_ ?_
  rotate_left
  · intro w'
    go_simp
    with_reducible rfl
  rotate_left
  · simp only [Act.put, List.setIfInBounds_toArray, List.set_cons_zero, List.set_cons_succ, i64_w, i32_w]
    rfl
  refine pure_ (i := 12) (N := some 19) (v := ?_) (a' := ?_) #[true, true, true, true, true, true, true, true, true, true, true, true, true, false, false, false, false] rfl rfl (by kernel_rfl) (fun _ _ _ h => h) (Or.inl ⟨by rfl, ?_⟩) ?_ ?_
  rotate_left
  · intro w'
    go_simp
    with_reducible rfl
  rotate_left
  · simp only [Act.put, List.setIfInBounds_toArray, List.set_cons_zero, List.set_cons_succ, i64_w, i32_w]
    rfl
  refine pure_ (i := 13) (N := some 20) (v := ?_) (a' := ?_) #[true, true, true, true, true, true, true, true, true, true, true, true, true, true, false, false, false] rfl rfl (by kernel_rfl) (fun _ _ _ h => h) (Or.inl ⟨by rfl, ?_⟩) ?_ ?_
  rotate_left
  · intro w'
    go_simp
    with_reducible rfl
  rotate_left
  · simp only [Act.put, List.setIfInBounds_toArray, List.set_cons_zero, List.set_cons_succ, i64_w, i32_w]
    rfl
  refine pure_ (i := 14) (N := some 4) (v := ?_) (a' := ?_) #[true, true, true, true, true, true, true, true, true, true, true, true, true, true, true, false, false] rfl rfl (by kernel_rfl) (fun _ _ _ h => h) (Or.inl ⟨by rfl, ?_⟩) ?_ ?_
  rotate_left
  · intro w'
    go_simp
    with_reducible rfl
  rotate_left
  · simp only [Act.put, List.setIfInBounds_toArray, List.set_cons_zero, List.set_cons_succ, i64_w, i32_w]
    rfl
  refine pure_ (i := 15) (N := some 5) (v := ?_) (a' := ?_) #[true, true, true, true, true, true, true, true, true, true, true, true, true, true, true, true, false] rfl rfl (by kernel_rfl) (fun _ _ _ h => h) (Or.inl ⟨by rfl, ?_⟩) ?_ ?_
  rotate_left
  · intro w'
    go_simp
    with_reducible rfl
  rotate_left
  · simp only [Act.put, List.setIfInBounds_toArray, List.set_cons_zero, List.set_cons_succ, i64_w, i32_w]
    rfl
  refine pure_ (i := 16) (N := some 6) (v := ?_) (a' := ?_) #[true, true, true, true, true, true, true, true, true, true, true, true, true, true, true, true, true] rfl rfl (by kernel_rfl) (fun _ _ _ h => h) (Or.inl ⟨by rfl, ?_⟩) ?_ ?_
  rotate_left
  · intro w'
    go_simp
    with_reducible rfl
  rotate_left
  · simp only [Act.put, List.setIfInBounds_toArray, List.set_cons_zero, List.set_cons_succ, i64_w, i32_w]
    rfl
  refine done_ (by kernel_rfl) ?_
  have HBK := Aside0.mk hbl
  clear hbl
  go_wp2_with fail
  go_ret2
  exact ⟨_, w3, rfl, (ls_of HR.out).lower (Nat.le_refl _), HB3.out, rfl⟩
theorem parse_err {l : List Int} {x : List Int} {m e : Int} (h : parseV l = (x, m, e)) (he : e ≠ 0) : x = [] ∧ m = 0 := by
  unfold parseV at h
  split at h
  · split at h
    · simp only [Prod.mk.injEq] at h; exact ⟨h.1.symm, h.2.1.symm⟩
    · split at h
      · simp only [Prod.mk.injEq] at h; exact absurd h.2.2.symm he
      · simp only [Prod.mk.injEq] at h; exact ⟨h.1.symm, h.2.1.symm⟩
  · simp only [Prod.mk.injEq] at h; exact ⟨h.1.symm, h.2.1.symm⟩
theorem LL.push {W W' : World} {b0 : Nat} {v v' : Value} {xss : List (List Int)} {ss : List Sl} (h1 : Ls encS 22 W b0 v ss) (h2 : ss.length = xss.length) (h3 : ∀ (i : Nat) (s : Sl) (xs : List Int), ss[i]? = some s → xss[i]? = some xs → Ls encB 5 W b0 s.v xs) {y : Sl} {x : List Int} (hx : Ls encB 5 W b0 y.v x) (hp : Ls encS 22 W' b0 v' (ss ++ [y])) (hg : W.grownBy W' v.ownBlock) : LL W' b0 v' (xss ++ [x]) := by
  have hne : ∀ (u : Value) (xs : List Int), Ls encB 5 W b0 u xs → u.ownBlock = none ∨ u.ownBlock ≠ v.ownBlock := fun u xs h => by
    cases e : u.ownBlock with
    | none => exact .inl rfl
    | some k =>
      refine .inr fun e' => ?_
      obtain ⟨_, _, cur, hc⟩ := h.own k e
      exact h1.ne hc (by decide) e'
  refine ⟨ss ++ [y], hp, by rw [List.length_append, List.length_append, h2]; rfl, fun i s xs a b => ?_⟩
  rcases Nat.lt_or_ge i ss.length with c | c
  · rw [List.getElem?_append_left c] at a
    rw [List.getElem?_append_left (by omega)] at b
    have q := h3 i s xs a b
    exact q.grown hg (hne _ _ q)
  · rw [List.getElem?_append_right c] at a
    rw [List.getElem?_append_right (by omega), ← h2] at b
    have hi : i - ss.length = 0 := by
      have := (List.getElem?_eq_some_iff.1 a).1
      simp at this; omega
    rw [hi] at a b
    simp at a b
    subst a b
    exact hx.grown hg (hne _ _ hx)
theorem next_l (k : Nat) (A0 : Option Addr) (c0 : Nat) (l : List Int) (g i : Nat) (hi : i ≤ l.length) (hl : l.length ≤ 100000) (hc0 : l.length ≤ c0) (x : List Int) (m e0 : Int) (hm : 0 ≤ m ∧ m ≤ 100000) (hf : frame_Parse.f k (l.drop i) = some (x, m, e0)) (w0 w : World) (hb : Kd.C (Kd.int .u8) w A0 l.length l) (hg : w.heap[g]? = some (.cells #[.slice A0 l.length c0, .int .i64 (i : Int)] 52 (0, 0)))
    (vo : Value) (xs : List (List Int)) (hll : LL w w0.heap.size vo xs) (hbw : Below w0.heap.size w0 w) (hge : w0.heap.size ≤ g) :
    Calls Try.prog 27 #[.pointer (some ⟨g, 0, none⟩)] w fun e w' => ∃ A2 c2, e = .returned (.tuple #[.slice A2 x.length c2, .int .i64 e0]) ∧ Ls encB 5 w' w0.heap.size (.slice A2 x.length c2) x ∧ LL w' w0.heap.size vo xs ∧ w'.heap[g]? = some (.cells #[.slice A0 l.length c0, .int .i64 ((i : Int) + m)] 52 (0, 0)) ∧ Below w0.heap.size w0 w' := by
  refine (next_c k A0 c0 l g i hi hl hc0 x m e0 hm hf w hb hg).mono ?_
  rintro e w9 ⟨v, w8, rfl, hv, hb8, rfl⟩
  obtain ⟨A2, c2, rfl, _, _⟩ := hv.form
  have hg8 := blk_below hg hb8
  exact ⟨A2, c2, rfl, (hv.lower hbw.size).far (p := ⟨g, 1, none⟩) (hv.ne hg8 (by decide)) _, (hll.below hb8).far hg8 (by decide) (by decide) 1 _, blk_set hg8 1 _, below_set (below_step hbw hb8) hge⟩
theorem info52 : (Try.prog.info? 52).map (fun i => (i.zero, i.size, i.bytes)) = some (some (.agg #[.slice none 0 0, .int .i64 0]), 2, 32) := by kernel_rfl
set_option maxHeartbeats 16000000 in
theorem all_c (A0 : Option Addr) (c0 : Nat) (l : List Int) (hl : l.length ≤ 3000) (hbs : Bytes l) (hc0 : l.length ≤ c0) (xss : List (List Int)) (to_ : Nat) (e0 : Int) (ha : allV l l.length 0 = (xss, to_, e0)) (w : World) (hb : Kd.C (Kd.int .u8) w A0 l.length l) :
    Calls Try.prog 14 #[.slice A0 l.length c0] w fun e w' => ∃ v, e = .returned (.tuple #[v, .int .i64 (to_ : Int), .int .i64 e0]) ∧ LL w' w.heap.size v xss ∧ Below w.heap.size w w' := by
  have HB := Aside0.mk hb; have HL := Aside0.mk hl; have HBS := Aside0.mk hbs; have HC := Aside0.mk hc0; have HA := Aside0.mk ha
  obtain ⟨g, hg⟩ : ∃ g, w.heap.size = g := ⟨_, rfl⟩
  obtain ⟨w1, hw1⟩ : ∃ w1, w.alloc (.cells #[.slice A0 l.length c0, .int .i64 0] 52) = w1 := ⟨_, rfl⟩
  have b1 : Below w.heap.size w w1 := by rw [← hw1]; exact below_alloc (Below.refl _ _) _
  have HG := Aside0.mk (show w1.heap[g]? = some (.cells #[.slice A0 l.length c0, .int .i64 ((0 : Nat) : Int)] 52 (0, 0)) from by rw [← hw1, ← hg]; exact blk_new _ _)
  have HBW := Aside0.mk b1
  have HGE := Aside0.mk (show w.heap.size ≤ g by omega)
  have hu52 := Try.underlying52
  obtain ⟨i0, hi0, _, hs0, _⟩ := info_parts info52
  obtain ⟨n0, hn0⟩ : ∃ n0, l.length = n0 := ⟨_, rfl⟩
  have HN0 := Aside0.mk hn0
  clear hb hl hbs hc0 ha b1 hn0
  go_enter Try.func14, Try.ntmps14
  go_wp2_with fail
  go_loopg [5] (l.length) (fun kf vo wr => ∃ (i : Nat) (xs : List (List Int)), Aside0 (i ≤ l.length ∧ l.length - i ≤ kf) ∧ Aside0 (xs ++ (allV l kf i).1 = xss ∧ (allV l kf i).2 = (to_, e0)) ∧ Aside0 (LL wr w.heap.size vo xs) ∧ Aside0 (wr.heap[g]? = some (.cells #[.slice A0 l.length c0, .int .i64 (i : Int)] 52 (0, 0))) ∧ Aside0 (Below w.heap.size w wr) ∧ Aside0 (xs.length ≤ i))
  case atStart => exact ⟨0, [], ⟨by omega⟩, ⟨by rw [HA.out]; exact ⟨rfl, rfl⟩⟩, ⟨LL.nil _ _⟩, HG, HBW, ⟨Nat.le_refl _⟩⟩
  case round =>
    clear HG HBW
    obtain ⟨i, xs, HI, HAV, HLL, HG, HBW, HXL⟩ := hrel
    have l1 := HI.out.1
    have l0 := HL.out
    have k1 := blk_cell HG.out 1
    by_cases hlt : i < l.length
    · have d1 : decide ((i : Int) < (l.length : Int)) = true := decide_eq_true (by omega)
      have d1' : decide (i < l.length) = true := decide_eq_true hlt
      rcases hp : parseV (l.drop i) with ⟨x, m, e⟩
      obtain ⟨K, hK⟩ := parse_ev (l.drop i) (by rw [List.length_drop]; omega) (Bytes.drop HBS.out i)
      have hf := hK K (Nat.le_refl K)
      rw [hp] at hf
      obtain ⟨f, hkf⟩ : ∃ f, gk = f + 1 := ⟨gk - 1, by have := HI.out.2; omega⟩
      have hav := HAV.out
      rw [hkf] at hav
      unfold allV at hav
      rw [if_pos hlt, hp] at hav
      dsimp only at hav
      have hcb := Kd.C_below HB.out HBW.out
      by_cases he : e = 0
      · subst he
        rw [if_pos rfl] at hav
        obtain ⟨a1, a2, a3, a4, a5⟩ := again (Bytes.drop HBS.out i) hp
        rw [List.length_drop] at a3
        have HN := Aside0.mk (next_l K A0 c0 l g i l1 (by omega) HC.out x m 0 (by omega) hf w wr hcb HG.out u5 xs HLL.out HBW.out HGE.out)
        have HAV2 := Aside0.mk hav
        have HM := Aside0.mk (show 8 ≤ m ∧ m ≤ ((l.length - i : Nat) : Int) from ⟨a2, a3⟩)
        have HF := Aside0.mk hkf
        clear hp hK hf hav hcb a1 a2 a3 a4 a5 hkf
        go_upto_region 8 with (first | (go_at_call 27; (with_reducible refine HN.out.mono ?_); rintro e w9 ⟨A2, c2, rfl, hv, hll, hg9, hb9⟩; have HX9 := Aside0.mk hv; have HLL9 := Aside0.mk hll; have HG9 := Aside0.mk hg9; have HBW9 := Aside0.mk hb9; have k9 := blk_cell hg9 1; clear hv hll hg9 hb9))
        obtain ⟨ss, hs1, hs2, hs3⟩ := HLL9.out
        go_wp2_with (first | (at_builtin; refine wpList_push (d := encS) rfl _ _ 34 22 _ 24 rfl Try.underlying34 info22 rfl w.heap.size u5 ss ⟨A2, x.length, c2⟩ rfl _ rfl (by simp) hs1 HBW9.out.size (by have := HXL.out; omega) (by decide) _ rfl ?_; intro v7 w7 h1 h2 h3; have HL2 := Aside0.mk (LL.push (y := ⟨A2, x.length, c2⟩) hs1 hs2 hs3 HX9.out h1 h2); have HG2 := Aside0.mk (blk_grown HG9.out h2 (hs1.ne HG9.out (by decide))); have HBW2 := Aside0.mk (pw_below_grown HBW9.out _ HBW9.out.size h2 (fun k hk => (hs1.own k hk).1)); clear h1 h2 h3) | go_in)
        go_roundg f
        case measure => have := HF.out; omega
        case rel =>
          obtain ⟨n, hn⟩ : ∃ n : Nat, m = n := ⟨m.toNat, by have := HM.out; omega⟩
          have hm := HM.out
          subst hn
          refine ⟨i + n, xs ++ [x], ⟨by have := HI.out; have := HF.out; omega⟩, ⟨by have q := HAV2.out; rw [Int.toNat_natCast] at q; exact ⟨by rw [List.append_assoc]; exact q.1, q.2⟩⟩, HL2, ⟨by have q := HG2.out; rw [show ((i + n : Nat) : Int) = (i : Int) + (n : Int) from Int.natCast_add i n]; exact q⟩, HBW2, ⟨by rw [List.length_append, List.length_singleton]; have := HXL.out; omega⟩⟩
      · rw [if_neg he] at hav
        obtain ⟨rfl, rfl⟩ := parse_err hp he
        have HN := Aside0.mk (next_l K A0 c0 l g i l1 (by omega) HC.out [] 0 e (by omega) hf w wr hcb HG.out u5 xs HLL.out HBW.out HGE.out)
        rw [List.append_nil] at hav
        simp only [Prod.mk.injEq] at hav
        obtain ⟨rfl, rfl, rfl⟩ := hav
        have e1 : (e != 0) = true := by simpa using he
        clear hp hK hf hcb hkf he
        go_upto_region 7 with (first | (go_at_call 27; (with_reducible refine HN.out.mono ?_); rintro e w9 ⟨A2, c2, rfl, hv, hll, hg9, hb9⟩; have HX9 := Aside0.mk hv; have HLL9 := Aside0.mk hll; have HG9 := Aside0.mk hg9; have HBW9 := Aside0.mk hb9; have k9 := blk_cell hg9 1; clear hv hll hg9 hb9))
        have k7 : (World.drew w9).cell? ⟨g, 1, none⟩ = some (.int .i64 ((i : Int) + 0)) := k9
        have e2 : (i : Int) + 0 = (i : Int) := by omega
        refine start_ (n := 9) (S := fun w' => w'.cell? ⟨g, 1, none⟩ = some (.int .i64 ((i : Int) + 0))) (ds := []) #[false, false, false, false, false, false, false, false, false] (by kernel_rfl) rfl rfl (k7) (fun hHeld => ?_)
        refine pure_ (i := 0) (N := some 29) (v := ?_) (a' := ?_) #[true, false, false, false, false, false, false, false, false] rfl rfl (by kernel_rfl) (fun _ _ _ h => h) (Or.inl ⟨by rfl, ?_⟩) ?_ ?_
        rotate_left
        · intro w'
          go_simp
          with_reducible rfl
        rotate_left
        · simp only [Act.put, List.setIfInBounds_toArray, List.set_cons_zero, List.set_cons_succ, i64_w, i32_w]
          rfl
        refine pure_ (i := 1) (N := some 30) (v := ?_) (a' := ?_) #[true, true, false, false, false, false, false, false, false] rfl rfl (by kernel_rfl) (fun _ _ _ h => h) (Or.inl ⟨by rfl, ?_⟩) ?_ ?_
        rotate_left
        · intro w'
          go_simp
          with_reducible rfl
        rotate_left
        · simp only [Act.put, List.setIfInBounds_toArray, List.set_cons_zero, List.set_cons_succ, i64_w, i32_w]
          rfl
        refine pure_ (i := 2) (N := some 31) (v := ?_) (a' := ?_) #[true, true, true, false, false, false, false, false, false] rfl rfl (by kernel_rfl) (fun _ _ _ h => h) (Or.inl ⟨by rfl, ?_⟩) ?_ ?_
        rotate_left
        · intro w'
          go_simp
          with_reducible rfl
        rotate_left
        · simp only [Act.put, List.setIfInBounds_toArray, List.set_cons_zero, List.set_cons_succ, i64_w, i32_w]
          rfl
        refine pure_ (i := 3) (N := some 32) (v := ?_) (a' := ?_) #[true, true, true, true, false, false, false, false, false] rfl rfl (by kernel_rfl) (fun _ _ _ h => h) (Or.inl ⟨by rfl, ?_⟩) ?_ ?_
        rotate_left
        · intro w'
          go_simp
          with_reducible rfl
        rotate_left
        · simp only [Act.put, List.setIfInBounds_toArray, List.set_cons_zero, List.set_cons_succ, i64_w, i32_w]
          rfl
        refine pure_ (i := 5) (N := some 34) (v := ?_) (a' := ?_) #[true, true, true, true, false, true, false, false, false] rfl rfl (by kernel_rfl) (fun _ _ _ h => h) (Or.inl ⟨by rfl, ?_⟩) ?_ ?_
        rotate_left
        · intro w'
          go_simp
          with_reducible rfl
        rotate_left
        · simp only [Act.put, List.setIfInBounds_toArray, List.set_cons_zero, List.set_cons_succ, i64_w, i32_w]
          rfl
        refine pure_ (i := 6) (N := some 2) (v := ?_) (a' := ?_) #[true, true, true, true, false, true, true, false, false] rfl rfl (by kernel_rfl) (fun _ _ _ h => h) (Or.inl ⟨by rfl, ?_⟩) ?_ ?_
        rotate_left
        · intro w'
          go_simp
          with_reducible rfl
        rotate_left
        · simp only [Act.put, List.setIfInBounds_toArray, List.set_cons_zero, List.set_cons_succ, i64_w, i32_w]
          rfl
        refine take_ (i := 4) (N := some 33) (v := ?_) (a' := ?_) #[true, true, true, true, true, true, true, false, false] rfl rfl (by kernel_rfl) (fun _ _ _ h => h) (Or.inl ⟨by rfl, ?_⟩) hHeld ?_ ?_
        rotate_left
        · intro w' s0
          go_simp
          with_reducible rfl
        rotate_left
        · simp only [Act.put, List.setIfInBounds_toArray, List.set_cons_zero, List.set_cons_succ, i64_w, i32_w]
          rfl
        refine pure_ (i := 7) (N := some 3) (v := ?_) (a' := ?_) #[true, true, true, true, true, true, true, true, false] rfl rfl (by kernel_rfl) (fun _ _ _ h => h) (Or.inl ⟨by rfl, ?_⟩) ?_ ?_
        rotate_left
        · intro w'
          go_simp
          with_reducible rfl
        rotate_left
        · simp only [Act.put, List.setIfInBounds_toArray, List.set_cons_zero, List.set_cons_succ, i64_w, i32_w]
          rfl
        refine pure_ (i := 8) (N := some 4) (v := ?_) (a' := ?_) #[true, true, true, true, true, true, true, true, true] rfl rfl (by kernel_rfl) (fun _ _ _ h => h) (Or.inl ⟨by rfl, ?_⟩) ?_ ?_
        rotate_left
        · intro w'
          go_simp
          with_reducible rfl
        rotate_left
        · simp only [Act.put, List.setIfInBounds_toArray, List.set_cons_zero, List.set_cons_succ, i64_w, i32_w]
          rfl
        refine done_ (by kernel_rfl) ?_
        go_wp2_with fail
        go_ret3
        exact ⟨_, rfl, HLL9.out, below_drew HBW9.out⟩
    · have hav := HAV.out
      have : allV l gk i = ([], i, 0) := by cases gk with
        | zero => rfl
        | succ f => unfold allV; rw [if_neg hlt]
      rw [this, List.append_nil] at hav
      simp only [Prod.mk.injEq] at hav
      obtain ⟨rfl, rfl, rfl⟩ := hav
      have d1 : decide ((i : Int) < (l.length : Int)) = false := decide_eq_false (by omega)
      have d1' : decide (i < l.length) = false := decide_eq_false hlt
      clear this
      go_upto_region 9 with (fail)
      have k7 : (World.drew wr).cell? ⟨g, 1, none⟩ = some (.int .i64 (i : Int)) := k1
      refine start_ (n := 8) (S := fun w' => w'.cell? ⟨g, 1, none⟩ = some (.int .i64 (i : Int))) (ds := []) #[false, false, false, false, false, false, false, false] (by kernel_rfl) rfl rfl (k7) (fun hHeld => ?_)
      refine pure_ (i := 0) (N := some 39) (v := ?_) (a' := ?_) #[true, false, false, false, false, false, false, false] rfl rfl (by kernel_rfl) (fun _ _ _ h => h) (Or.inl ⟨by rfl, ?_⟩) ?_ ?_
      rotate_left
      · intro w'
        go_simp
        with_reducible rfl
      rotate_left
      · simp only [Act.put, List.setIfInBounds_toArray, List.set_cons_zero, List.set_cons_succ, i64_w, i32_w]
        rfl
      refine pure_ (i := 1) (N := some 40) (v := ?_) (a' := ?_) #[true, true, false, false, false, false, false, false] rfl rfl (by kernel_rfl) (fun _ _ _ h => h) (Or.inl ⟨by rfl, ?_⟩) ?_ ?_
      rotate_left
      · intro w'
        go_simp
        with_reducible rfl
      rotate_left
      · simp only [Act.put, List.setIfInBounds_toArray, List.set_cons_zero, List.set_cons_succ, i64_w, i32_w]
        rfl
      refine pure_ (i := 2) (N := some 41) (v := ?_) (a' := ?_) #[true, true, true, false, false, false, false, false] rfl rfl (by kernel_rfl) (fun _ _ _ h => h) (Or.inl ⟨by rfl, ?_⟩) ?_ ?_
      rotate_left
      · intro w'
        go_simp
        with_reducible rfl
      rotate_left
      · simp only [Act.put, List.setIfInBounds_toArray, List.set_cons_zero, List.set_cons_succ, i64_w, i32_w]
        rfl
      refine pure_ (i := 3) (N := some 42) (v := ?_) (a' := ?_) #[true, true, true, true, false, false, false, false] rfl rfl (by kernel_rfl) (fun _ _ _ h => h) (Or.inl ⟨by rfl, ?_⟩) ?_ ?_
      rotate_left
      · intro w'
        go_simp
        with_reducible rfl
      rotate_left
      · simp only [Act.put, List.setIfInBounds_toArray, List.set_cons_zero, List.set_cons_succ, i64_w, i32_w]
        rfl
      refine pure_ (i := 5) (N := some 2) (v := ?_) (a' := ?_) #[true, true, true, true, false, true, false, false] rfl rfl (by kernel_rfl) (fun _ _ _ h => h) (Or.inl ⟨by rfl, ?_⟩) ?_ ?_
      rotate_left
      · intro w'
        go_simp
        with_reducible rfl
      rotate_left
      · simp only [Act.put, List.setIfInBounds_toArray, List.set_cons_zero, List.set_cons_succ, i64_w, i32_w]
        rfl
      refine take_ (i := 4) (N := some 43) (v := ?_) (a' := ?_) #[true, true, true, true, true, true, false, false] rfl rfl (by kernel_rfl) (fun _ _ _ h => h) (Or.inl ⟨by rfl, ?_⟩) hHeld ?_ ?_
      rotate_left
      · intro w' s0
        go_simp
        with_reducible rfl
      rotate_left
      · simp only [Act.put, List.setIfInBounds_toArray, List.set_cons_zero, List.set_cons_succ, i64_w, i32_w]
        rfl
      refine pure_ (i := 6) (N := some 3) (v := ?_) (a' := ?_) #[true, true, true, true, true, true, true, false] rfl rfl (by kernel_rfl) (fun _ _ _ h => h) (Or.inl ⟨by rfl, ?_⟩) ?_ ?_
      rotate_left
      · intro w'
        go_simp
        with_reducible rfl
      rotate_left
      · simp only [Act.put, List.setIfInBounds_toArray, List.set_cons_zero, List.set_cons_succ, i64_w, i32_w]
        rfl
      refine pure_ (i := 7) (N := some 4) (v := ?_) (a' := ?_) #[true, true, true, true, true, true, true, true] rfl rfl (by kernel_rfl) (fun _ _ _ h => h) (Or.inl ⟨by rfl, ?_⟩) ?_ ?_
      rotate_left
      · intro w'
        go_simp
        with_reducible rfl
      rotate_left
      · simp only [Act.put, List.setIfInBounds_toArray, List.set_cons_zero, List.set_cons_succ, i64_w, i32_w]
        rfl
      refine done_ (by kernel_rfl) ?_
      go_wp2_with fail
      go_ret3
      exact ⟨_, rfl, HLL.out, below_drew HBW.out⟩
end Go.Proofs.Ytjpjlloimemcfaa.Frm
namespace Go.Proofs.Ytjpjlloimemcfaa.Frm
set_option linter.unusedVariables false
set_option linter.unusedSimpArgs false
open Go.RowKit Go.Proofs.Ytjpjlloimemcfaa.PA Go.Proofs.YtjpjlloimemcfaaW.PrintWords Go.Proofs.YtjpjlloimemcfaaW.PrintLast Go.Proofs.YtjpjlloimemcfaaW.PrintMore Go.Proofs.Ytjpjlloimemcfaa.Base Go.Proofs.Ytjpjlloimemcfaa.Var Go.Proofs.Ytjpjlloimemcfaa.Lst
attribute [local go_sem] max2_int min2_int max_two min_two max_three min_three max_four min_four
theorem info5 : (Try.prog.info? 5).map (fun i => (i.zero, i.size, i.bytes)) = some (some (.int .u8 0), 1, 1) := by kernel_rfl
theorem C_of_ls {W : World} {b0 : Nat} {A : Option Addr} {n c : Nat} {xs : List Int} (h : Ls encB 5 W b0 (.slice A n c) xs) : n = xs.length ∧ xs.length ≤ c ∧ Kd.C (Kd.int .u8) W A xs.length xs := by
  obtain ⟨A', c', e, hc, _⟩ := h.form
  injection e with e1 e2 e3
  subst e1 e2 e3
  unfold Ls at h
  rw [flat_u8] at h
  exact ⟨rfl, hc, Kd.C_of_reads (own_reads_of' (d := (0 : Int)) h)⟩
theorem flat_ge : ∀ xss : List (List Int), xss.length ≤ ((xss.map layV).flatten).length
  | [] => Nat.le_refl _
  | x :: xss => by
    have := flat_ge xss
    have := lay_len x
    rw [List.map_cons, List.flatten_cons, List.length_append, List.length_cons]
    omega
set_option maxHeartbeats 32000000 in
theorem again_law (A0 : Option Addr) (c0 : Nat) (l : List Int) (w : World) (hb : Kd.C (Kd.int .u8) w A0 l.length l) (hc0 : l.length ≤ c0) (hbs : Bytes l) : Calls Try.prog 5 #[.slice A0 l.length c0] w fun e w' => e = .returned (.bool true) ∧ Below w.heap.size w w' := by
  have HA := Aside0.mk (fun w => garboardlaw04_alive.calls true w alive_all)
  by_cases hlong : 3000 < l.length
  · have d0 : decide ((3000 : Int) < (l.length : Int)) = true := decide_eq_true (by omega)
    have d0' : decide (3000 < l.length) = true := decide_eq_true hlong
    clear hb hc0 hbs hlong
    go_enter Try.func5, Try.ntmps5
    go_wp2_with (first | (go_at_call 9; (with_reducible refine (HA.out _).mono ?_); rintro e w9 ⟨rfl, hb⟩; have HB := Aside0.mk hb; clear hb))
    go_ret
    exact ⟨rfl, HB.out⟩
  · have d0 : decide ((3000 : Int) < (l.length : Int)) = false := decide_eq_false (by omega)
    have d0' : decide (3000 < l.length) = false := decide_eq_false hlong
    rcases ha : allV l l.length 0 with ⟨xss, to_, e0⟩
    have hal := all_lay hbs l.length 0 (Nat.zero_le _)
    rw [ha] at hal
    dsimp only at hal
    obtain ⟨_, hto, hfl, hxs⟩ := hal
    rw [List.drop_zero, Nat.sub_zero] at hfl
    have HALLC := Aside0.mk (all_c A0 c0 l (by omega) hbs hc0 xss to_ e0 ha w hb)
    have HBC := Aside0.mk hb
    have HTO := Aside0.mk hto; have HFL := Aside0.mk hfl; have HXS := Aside0.mk hxs; have HC0 := Aside0.mk hc0
    have HL := Aside0.mk (show l.length ≤ 3000 by omega)
    have HXN := Aside0.mk (show xss.length ≤ 3000 from by have q := flat_ge xss; rw [hfl, List.length_take] at q; omega)
    clear hb hc0 hbs hlong ha hto hfl hxs
    go_enter Try.func5, Try.ntmps5
    go_wp2_with (first | (go_at_call 14; (with_reducible refine HALLC.out.mono ?_); rintro e w9 ⟨vl, rfl, hll, hb9⟩; obtain ⟨A3, c3, rfl, hc3⟩ := hll.form; have HLL := Aside0.mk hll; have HB9 := Aside0.mk hb9; clear hll hb9))
    go_loopw [23, 6] (fun vi vo wr => ∃ (i : Nat), vi = .int .i64 i ∧ Aside0 (i ≤ xss.length) ∧ Aside0 (Ls encB 5 wr w9.heap.size vo (((xss.take i).map layV).flatten)) ∧ Aside0 (Below w9.heap.size w9 wr)) (fun vi _ _ => (xss.length - intOf vi).toNat)
    case atStart => exact ⟨0, rfl, ⟨Nat.zero_le _⟩, ⟨by simpa using Ls.nil encB 5 w9 w9.heap.size⟩, ⟨Below.refl _ _⟩⟩
    case round =>
      obtain ⟨i, rfl, HI, HOUT, HBW⟩ := hrel
      have l1 := HI.out
      have l3 := HXN.out
      by_cases hlt : i < xss.length
      · obtain ⟨x, hx⟩ : ∃ x, xss[i]? = some x := ⟨_, List.getElem?_eq_getElem hlt⟩
        obtain ⟨ss, hs1, hs2, hs3⟩ := HLL.out.below HBW.out
        obtain ⟨s, hs⟩ : ∃ s, ss[i]? = some s := ⟨_, List.getElem?_eq_getElem (by omega)⟩
        have hrow := hs3 i s x hs hx
        obtain ⟨gs, hgA, _, _, hcs, _⟩ := hs1.at hs
        have ks := hcs 0 s.v rfl
        rw [show i * encS.sz + 0 = i from Nat.mul_one i] at ks
        obtain ⟨sn, hsc, hC⟩ := C_of_ls hrow
        unfold Sl.v at ks
        rw [sn] at ks
        subst hgA
        obtain ⟨hxl, hxb⟩ := HXS.out x (List.mem_of_getElem? hx)
        obtain ⟨K, hK⟩ := lay_ev x hxl
        have HLAY := Aside0.mk (frame_Lay.calls K s.A s.c x (layV x) 0 wr hC hsc (hK K (Nat.le_refl K)))
        have hsucc : ((xss.take (i + 1)).map layV).flatten = ((xss.take i).map layV).flatten ++ layV x := by
          obtain ⟨hi, e⟩ := List.getElem?_eq_some_iff.1 hx
          rw [List.take_succ_eq_append_getElem hi, e, List.map_append, List.flatten_append]
          simp
        have HSU := Aside0.mk hsucc
        have HLN := Aside0.mk (show (((xss.take i).map layV).flatten.length + (layV x).length) * 1 ≤ 140737488355328 from by
          have e1 : (xss.map layV).flatten = ((xss.take (i + 1)).map layV).flatten ++ ((xss.drop (i + 1)).map layV).flatten := by rw [← List.flatten_append, ← List.map_append, List.take_append_drop]
          have e2 := congrArg List.length e1
          rw [HFL.out, hsucc, List.length_append, List.length_append, List.length_take] at e2
          have := HL.out
          omega)
        clear hx hs1 hs2 hs3 hs hrow hcs sn hsc hC hxl hxb hK hsucc
        go_upto_region 11 with (first | (go_at_call 10; (with_reducible refine HLAY.out.mono ?_); rintro e w8 ⟨v, rfl, hR, hb8⟩; have HV := Aside0.mk (ls_of hR); have HO8 := Aside0.mk (HOUT.out.below hb8); have HBW8 := Aside0.mk (below_step HBW.out hb8); clear hR hb8))
        have hv := HV.out
        obtain ⟨gv, cv, hvv⟩ : ∃ gv cv, v = .slice (some ⟨gv, 0, none⟩) (layV x).length cv := by
          rcases hv.2 with ⟨_, h0⟩ | ⟨gv, cv, cur, e, _⟩
          · have := lay_len x; omega
          · exact ⟨gv, cv, e⟩
        subst hvv
        go_wp2_with (first | (at_builtin; refine wpList_cat (d := encB) rfl _ _ 22 5 _ 1 rfl Try.underlying22 info5 rfl w9.heap.size u6 _ (layV x) rfl ⟨gv, 0, none⟩ cv rfl (fun j u hu => World.ownsRow.cells hv (g := gv) rfl j u hu) HO8.out HBW8.out.size HLN.out (by decide) ?_; intro v7 w7 h1 h2 h3; have HO2 := Aside0.mk h1; have HBW2 := Aside0.mk (pw_below_grown HBW8.out _ HBW8.out.size h2 (fun k hk => (HO8.out.own k hk).1)); clear h1 h2 h3) | go_in)
        go_roundw
        case rel => exact ⟨i + 1, by go_num, ⟨by omega⟩, ⟨by rw [HSU.out]; exact HO2.out⟩, HBW2⟩
        case measure => simp [intOf]; omega
      · obtain rfl : i = xss.length := by omega
        have hout := HOUT.out
        rw [List.take_length, HFL.out] at hout
        have d1 : decide ((to_ : Int) ≤ (l.length : Int)) = true := decide_eq_true (by have := HTO.out; omega)
        have d2 : decide (to_ ≤ l.length) = true := decide_eq_true HTO.out
        have htc : to_ ≤ c0 := by have := HTO.out; have := HC0.out; omega
        have HBX := Aside0.mk (below_step HB9.out HBW.out)
        obtain ⟨Ao, co, ho, _, _⟩ := hout.form
        subst ho
        have hb0 := Kd.C_below HBC.out HBX.out
        have g0 : (convert 22 9 (.slice Ao (l.take to_).length co)).run Try.prog (World.drew wr) = .ok (.string (strOfNums (l.take to_))) (World.drew wr) := Kd.C_string Try.underlying22 Try.underlying5 Try.underlying9 (Kd.C_drew (C_of_ls hout).2.2)
        have g1 : (convert 22 9 (.slice A0 to_ c0)).run Try.prog (World.drew wr) = .ok (.string (strOfNums (l.take to_))) (World.drew wr) := by
          have q := Kd.C_take hb0 HTO.out
          rw [List.length_take_of_le HTO.out] at q
          exact Kd.C_string Try.underlying22 Try.underlying5 Try.underlying9 (Kd.C_drew q)
        obtain ⟨ns, hns⟩ : ∃ ns, (l.take to_).length = ns := ⟨_, rfl⟩
        rw [hns] at g0
        obtain ⟨sB, hsB⟩ : ∃ sB, strOfNums (l.take to_) = sB := ⟨_, rfl⟩
        rw [hsB] at g0 g1
        have ff : (sB.toList == sB.toList) = true := by simp
        rw [hns]
        clear hout hb0 hsB hns
        go_upto_region 13 with (fail)
        refine start_ (n := 21) (S := fun w' => (convert 22 9 (.slice Ao ns co)).run Try.prog w' = .ok (.string sB) w' ∧ (convert 22 9 (.slice A0 to_ c0)).run Try.prog w' = .ok (.string sB) w') (ds := [18]) #[false, false, false, false, false, false, false, false, false, false, false, false, false, false, false, false, false, false, false, false, false] (by kernel_rfl) rfl rfl ⟨g0, g1⟩ (fun hHeld => ?_)
        refine pure_ (i := 0) (N := some 38) (v := ?_) (a' := ?_) #[true, false, false, false, false, false, false, false, false, false, false, false, false, false, false, false, false, false, false, false, false] rfl rfl (by kernel_rfl) (fun _ _ _ h => h) (Or.inl ⟨by rfl, ?_⟩) ?_ ?_
        rotate_left
        · intro w'
          go_simp
          with_reducible rfl
        rotate_left
        · simp only [Act.put, List.setIfInBounds_toArray, List.set_cons_zero, List.set_cons_succ, i64_w, i32_w]
          rfl
        refine pure_ (i := 1) (N := some 39) (v := ?_) (a' := ?_) #[true, true, false, false, false, false, false, false, false, false, false, false, false, false, false, false, false, false, false, false, false] rfl rfl (by kernel_rfl) (fun _ _ _ h => h) (Or.inl ⟨by rfl, ?_⟩) ?_ ?_
        rotate_left
        · intro w'
          go_simp
          with_reducible rfl
        rotate_left
        · simp only [Act.put, List.setIfInBounds_toArray, List.set_cons_zero, List.set_cons_succ, i64_w, i32_w]
          rfl
        refine pure_ (i := 2) (N := some 40) (v := ?_) (a' := ?_) #[true, true, true, false, false, false, false, false, false, false, false, false, false, false, false, false, false, false, false, false, false] rfl rfl (by kernel_rfl) (fun _ _ _ h => h) (Or.inl ⟨by rfl, ?_⟩) ?_ ?_
        rotate_left
        · intro w'
          go_simp
          with_reducible rfl
        rotate_left
        · simp only [Act.put, List.setIfInBounds_toArray, List.set_cons_zero, List.set_cons_succ, i64_w, i32_w]
          rfl
        refine pure_ (i := 3) (N := some 41) (v := ?_) (a' := ?_) #[true, true, true, true, false, false, false, false, false, false, false, false, false, false, false, false, false, false, false, false, false] rfl rfl (by kernel_rfl) (fun _ _ _ h => h) (Or.inl ⟨by rfl, ?_⟩) ?_ ?_
        rotate_left
        · intro w'
          go_simp
          with_reducible rfl
        rotate_left
        · simp only [Act.put, List.setIfInBounds_toArray, List.set_cons_zero, List.set_cons_succ, i64_w, i32_w]
          rfl
        refine pure_ (i := 4) (N := some 42) (v := ?_) (a' := ?_) #[true, true, true, true, true, false, false, false, false, false, false, false, false, false, false, false, false, false, false, false, false] rfl rfl (by kernel_rfl) (fun _ _ _ h => h) (Or.inl ⟨by rfl, ?_⟩) ?_ ?_
        rotate_left
        · intro w'
          go_simp
          with_reducible rfl
        rotate_left
        · simp only [Act.put, List.setIfInBounds_toArray, List.set_cons_zero, List.set_cons_succ, i64_w, i32_w]
          rfl
        refine pure_ (i := 5) (N := some 43) (v := ?_) (a' := ?_) #[true, true, true, true, true, true, false, false, false, false, false, false, false, false, false, false, false, false, false, false, false] rfl rfl (by kernel_rfl) (fun _ _ _ h => h) (Or.inl ⟨by rfl, ?_⟩) ?_ ?_
        rotate_left
        · intro w'
          go_simp
          with_reducible rfl
        rotate_left
        · simp only [Act.put, List.setIfInBounds_toArray, List.set_cons_zero, List.set_cons_succ, i64_w, i32_w]
          rfl
        refine pure_ (i := 6) (N := some 44) (v := ?_) (a' := ?_) #[true, true, true, true, true, true, true, false, false, false, false, false, false, false, false, false, false, false, false, false, false] rfl rfl (by kernel_rfl) (fun _ _ _ h => h) (Or.inl ⟨by rfl, ?_⟩) ?_ ?_
        rotate_left
        · intro w'
          go_simp
          with_reducible rfl
        rotate_left
        · simp only [Act.put, List.setIfInBounds_toArray, List.set_cons_zero, List.set_cons_succ, i64_w, i32_w]
          rfl
        refine pure_ (i := 7) (N := some 45) (v := ?_) (a' := ?_) #[true, true, true, true, true, true, true, true, false, false, false, false, false, false, false, false, false, false, false, false, false] rfl rfl (by kernel_rfl) (fun _ _ _ h => h) (Or.inl ⟨by rfl, ?_⟩) ?_ ?_
        rotate_left
        · intro w'
          go_simp
          with_reducible rfl
        rotate_left
        · simp only [Act.put, List.setIfInBounds_toArray, List.set_cons_zero, List.set_cons_succ, i64_w, i32_w]
          rfl
        refine pure_ (i := 8) (N := some 46) (v := ?_) (a' := ?_) #[true, true, true, true, true, true, true, true, true, false, false, false, false, false, false, false, false, false, false, false, false] rfl rfl (by kernel_rfl) (fun _ _ _ h => h) (Or.inl ⟨by rfl, ?_⟩) ?_ ?_
        rotate_left
        · intro w'
          go_simp
          with_reducible rfl
        rotate_left
        · simp only [Act.put, List.setIfInBounds_toArray, List.set_cons_zero, List.set_cons_succ, i64_w, i32_w]
          rfl
        refine pure_ (i := 9) (N := some 47) (v := ?_) (a' := ?_) #[true, true, true, true, true, true, true, true, true, true, false, false, false, false, false, false, false, false, false, false, false] rfl rfl (by kernel_rfl) (fun _ _ _ h => h) (Or.inl ⟨by rfl, ?_⟩) ?_ ?_
        rotate_left
        · intro w'
          go_simp
          with_reducible rfl
        rotate_left
        · simp only [Act.put, List.setIfInBounds_toArray, List.set_cons_zero, List.set_cons_succ, i64_w, i32_w]
          rfl
        refine pure_ (i := 11) (N := some 49) (v := ?_) (a' := ?_) #[true, true, true, true, true, true, true, true, true, true, false, true, false, false, false, false, false, false, false, false, false] rfl rfl (by kernel_rfl) (fun _ _ _ h => h) (Or.inl ⟨by rfl, ?_⟩) ?_ ?_
        rotate_left
        · intro w'
          go_simp
          with_reducible rfl
        rotate_left
        · simp only [Act.put, List.setIfInBounds_toArray, List.set_cons_zero, List.set_cons_succ, i64_w, i32_w]
          rfl
        refine pure_ (i := 12) (N := some 50) (v := ?_) (a' := ?_) #[true, true, true, true, true, true, true, true, true, true, false, true, true, false, false, false, false, false, false, false, false] rfl rfl (by kernel_rfl) (fun _ _ _ h => h) (Or.inl ⟨by rfl, ?_⟩) ?_ ?_
        rotate_left
        · intro w'
          go_simp
          with_reducible rfl
        rotate_left
        · simp only [Act.put, List.setIfInBounds_toArray, List.set_cons_zero, List.set_cons_succ, i64_w, i32_w]
          rfl
        refine pure_ (i := 13) (N := some 51) (v := ?_) (a' := ?_) #[true, true, true, true, true, true, true, true, true, true, false, true, true, true, false, false, false, false, false, false, false] rfl rfl (by kernel_rfl) (fun _ _ _ h => h) (Or.inl ⟨by rfl, ?_⟩) ?_ ?_
        rotate_left
        · intro w'
          go_simp
          with_reducible rfl
        rotate_left
        · simp only [Act.put, List.setIfInBounds_toArray, List.set_cons_zero, List.set_cons_succ, i64_w, i32_w]
          rfl
        refine take_ (i := 10) (N := some 48) (v := ?_) (a' := ?_) #[true, true, true, true, true, true, true, true, true, true, true, true, true, true, false, false, false, false, false, false, false] rfl rfl (by kernel_rfl) (fun _ _ _ h => h) (Or.inl ⟨by rfl, ?_⟩) hHeld ?_ ?_
        rotate_left
        · rintro w' ⟨s0, s1⟩
          go_simp
          with_reducible rfl
        rotate_left
        · simp only [Act.put, List.setIfInBounds_toArray, List.set_cons_zero, List.set_cons_succ, i64_w, i32_w]
          rfl
        refine take_ (i := 14) (N := some 52) (v := ?_) (a' := ?_) #[true, true, true, true, true, true, true, true, true, true, true, true, true, true, true, false, false, false, false, false, false] rfl rfl (by kernel_rfl) (fun _ _ _ h => h) (Or.inl ⟨by rfl, ?_⟩) hHeld ?_ ?_
        rotate_left
        · rintro w' ⟨s0, s1⟩
          go_simp
          with_reducible rfl
        rotate_left
        · simp only [Act.put, List.setIfInBounds_toArray, List.set_cons_zero, List.set_cons_succ, i64_w, i32_w]
          rfl
        refine pure_ (i := 15) (N := some 53) (v := ?_) (a' := ?_) #[true, true, true, true, true, true, true, true, true, true, true, true, true, true, true, true, false, false, false, false, false] rfl rfl (by kernel_rfl) (fun _ _ _ h => h) (Or.inl ⟨by rfl, ?_⟩) ?_ ?_
        rotate_left
        · intro w'
          go_simp
          with_reducible rfl
        rotate_left
        · simp only [Act.put, List.setIfInBounds_toArray, List.set_cons_zero, List.set_cons_succ, i64_w, i32_w]
          rfl
        refine pure_ (i := 16) (N := some 54) (v := ?_) (a' := ?_) #[true, true, true, true, true, true, true, true, true, true, true, true, true, true, true, true, true, false, false, false, false] rfl rfl (by kernel_rfl) (fun _ _ _ h => h) (Or.inl ⟨by rfl, ?_⟩) ?_ ?_
        rotate_left
        · intro w'
          go_simp
          with_reducible rfl
        rotate_left
        · simp only [Act.put, List.setIfInBounds_toArray, List.set_cons_zero, List.set_cons_succ, i64_w, i32_w]
          rfl
        refine pure_ (i := 17) (N := some 55) (v := ?_) (a' := ?_) #[true, true, true, true, true, true, true, true, true, true, true, true, true, true, true, true, true, true, false, false, false] rfl rfl (by kernel_rfl) (fun _ _ _ h => h) (Or.inl ⟨by rfl, ?_⟩) ?_ ?_
        rotate_left
        · intro w'
          go_simp
          with_reducible rfl
        rotate_left
        · simp only [Act.put, List.setIfInBounds_toArray, List.set_cons_zero, List.set_cons_succ, i64_w, i32_w]
          rfl
        refine last_ (i := 18) (N := some 56) #[true, true, true, true, true, true, true, true, true, true, true, true, true, true, true, true, true, true, true, false, false] rfl rfl (by kernel_rfl) (by decide) (fun K hK => ?_)
        refine goes_ Try.func9 (by kernel_rfl) rfl #[] (by rfl) rfl rfl (by simp only [List.map_toArray, List.map_nil]) ?_
        with_reducible refine (HA.out (World.drew wr)).mono ?_
        rintro e w8 ⟨rfl, hb⟩
        refine ⟨_, rfl, ?_⟩
        have HZ := Aside0.mk (below_step (below_drew HBX.out) hb)
        clear hb
        refine hK.out _ _ ?_
        clear hK K
        refine norm_ (a' := ?_) ?_ ?_
        rotate_left
        · show Act.put _ (some 56) _ = _
          simp only [Act.put, List.setIfInBounds_toArray, List.set_cons_zero, List.set_cons_succ, i64_w, i32_w]
          rfl
        refine pure_ (i := 19) (N := some 57) (v := ?_) (a' := ?_) #[true, true, true, true, true, true, true, true, true, true, true, true, true, true, true, true, true, true, true, true, false] rfl rfl (by kernel_rfl) (fun _ _ _ h => h) (Or.inl ⟨by rfl, ?_⟩) ?_ ?_
        rotate_left
        · intro w'
          go_simp
          with_reducible rfl
        rotate_left
        · simp only [Act.put, List.setIfInBounds_toArray, List.set_cons_zero, List.set_cons_succ, i64_w, i32_w]
          rfl
        refine pure_ (i := 20) (N := some 2) (v := ?_) (a' := ?_) #[true, true, true, true, true, true, true, true, true, true, true, true, true, true, true, true, true, true, true, true, true] rfl rfl (by kernel_rfl) (fun _ _ _ h => h) (Or.inl ⟨by rfl, ?_⟩) ?_ ?_
        rotate_left
        · intro w'
          go_simp
          with_reducible rfl
        rotate_left
        · simp only [Act.put, List.setIfInBounds_toArray, List.set_cons_zero, List.set_cons_succ, i64_w, i32_w]
          rfl
        refine done_ (by kernel_rfl) ?_
        go_wp2_with fail
        go_ret
        exact ⟨rfl, HZ.out⟩
end Go.Proofs.Ytjpjlloimemcfaa.Frm
namespace Go.Proofs.Ytjpjlloimemcfaa.Var
set_option linter.unusedVariables false
set_option linter.unusedSimpArgs false
open Go.RowKit Go.Proofs.Ytjpjlloimemcfaa.PA Go.Proofs.YtjpjlloimemcfaaW.PrintWords Go.Proofs.YtjpjlloimemcfaaW.PrintLast Go.Proofs.YtjpjlloimemcfaaW.PrintMore Go.Proofs.Ytjpjlloimemcfaa.Base
theorem rget_loop (l : List Int) (hl : l.length ≤ 9223372036854775) (hb : Bytes l) : ∀ (t : List Int) (i : Nat) (n u : Int), l.drop i = t → i ≤ l.length → i ≤ 9 → 0 ≤ n → n < 128 ^ i → u = 128 ^ i →
    Ev (fun k => garboardref02_Get.l0 k l n u (i : Int)) (gt i n t) := by
  intro t
  induction t with
  | nil =>
    intro i n u hd hi h9 hn0 hn hu
    have := drop_end hi hd
    refine Ev.step (f := fun _ => some (0, 0, 4)) (fun k => ?_) (Ev.now _)
    rw [garboardref02_Get.l0, if_neg (by omega)]
  | cons c t ih =>
    intro i n u hd hi h9 hn0 hn hu
    obtain ⟨hr, hlt, hd'⟩ := rd_drop hd
    have hc := hb c (List.mem_of_mem_drop (by rw [hd]; exact List.mem_cons_self))
    by_cases hsA : i = 9 ∧ 1 < c
    · rw [gt, if_pos (.inl hsA)]
      obtain ⟨rfl, h1⟩ := hsA
      refine ⟨2, fun k hk => ?_⟩
      obtain ⟨k, rfl⟩ : ∃ m, k = m + 2 := ⟨k - 2, by omega⟩
      dsimp only
      rw [garboardref02_Get.l0, if_pos (by omega), if_pos (by omega), if_pos (by rfl), hr, decide_eq_true h1, garboardref02_Get.j1, if_pos rfl]
    · obtain ⟨b0, b1, b2, b3⟩ := acc_bound h9 hc.1 hc.2 hsA hn0 hn
      have hp := pow_pos i
      have e1 : wrap64 ((i : Int) + 1) = ((i + 1 : Nat) : Int) := by rw [w64 (by omega) (by omega)]; omega
      have et : Int.tmod c 128 = c % 128 := Int.tmod_eq_emod_of_nonneg hc.1
      have ex : IntKind.u64.wrap (n + IntKind.u64.wrap (u * IntKind.u64.wrap (Int.tmod c 128))) = n + c % 128 * 128 ^ i := by
        rw [et, wu64 (show 0 ≤ c % 128 by omega) (by omega), hu, Int.mul_comm, wu64 b0 b3, wu64 (by omega) b1]
      have hj : ∀ k, garboardref02_Get.l0 (k + 2) l n u (i : Int) = (if c < 128 then (if c = 0 then (if (i : Int) > 0 then some (0, 0, 3) else some (n + c % 128 * 128 ^ i, ((i + 1 : Nat) : Int), 0)) else some (n + c % 128 * 128 ^ i, ((i + 1 : Nat) : Int), 0)) else garboardref02_Get.l0 k l (n + c % 128 * 128 ^ i) (IntKind.u64.wrap (u * 128)) ((i + 1 : Nat) : Int)) := fun k => by
        have e : ∀ b : Bool, b = false → garboardref02_Get.j1 (k + 1) l n u i c b = (if c < 128 then (if c = 0 then (if (i : Int) > 0 then some (0, 0, 3) else some (n + c % 128 * 128 ^ i, ((i + 1 : Nat) : Int), 0)) else some (n + c % 128 * 128 ^ i, ((i + 1 : Nat) : Int), 0)) else garboardref02_Get.l0 k l (n + c % 128 * 128 ^ i) (IntKind.u64.wrap (u * 128)) ((i + 1 : Nat) : Int)) := fun b hb => by
          subst hb
          rw [garboardref02_Get.j1, if_neg (by decide), ex, e1]
        rw [garboardref02_Get.l0, if_pos (by omega), if_pos (by omega), hr]
        split
        · exact e _ (decide_eq_false (fun h => hsA ⟨by omega, h⟩))
        · exact e _ rfl
      by_cases hsB : 0 < i ∧ c = 0
      · rw [gt, if_pos (.inr hsB)]
        obtain ⟨h0, rfl⟩ := hsB
        refine ⟨2, fun k hk => ?_⟩
        obtain ⟨k, rfl⟩ : ∃ m, k = m + 2 := ⟨k - 2, by omega⟩
        dsimp only
        rw [hj, if_pos (by decide), if_pos rfl, if_pos (by omega)]
      · rw [gt, if_neg (fun h => h.elim hsA hsB)]
        by_cases hc1 : c < 128
        · rw [if_pos hc1]
          refine ⟨2, fun k hk => ?_⟩
          obtain ⟨k, rfl⟩ : ∃ m, k = m + 2 := ⟨k - 2, by omega⟩
          dsimp only
          rw [hj, if_pos hc1]
          split
          · rw [if_neg (by omega)]; rfl
          · rfl
        · rw [if_neg hc1]
          have h8 : i ≤ 8 := by
            rcases Nat.lt_or_ge i 9 with h | h
            · omega
            · exact absurd ⟨by omega, by omega⟩ hsA
          have hu' : IntKind.u64.wrap (u * 128) = 128 ^ (i + 1) := by
            have := pow_le9 (i := i + 1) (by omega)
            have a3 : (128 : Int) ^ (i + 1) = 128 ^ i * 128 := Int.pow_succ ..
            rw [hu, ← a3]; exact wu64 (by omega) (by omega)
          obtain ⟨K, hK⟩ := ih (i + 1) (n + c % 128 * 128 ^ i) (128 ^ (i + 1)) hd' (by omega) (by omega) (by omega) (b2 h8) rfl
          refine ⟨K + 2, fun k hk => ?_⟩
          obtain ⟨k, rfl⟩ : ∃ m, k = m + 2 := ⟨k - 2, by omega⟩
          dsimp only
          rw [hj, if_neg hc1, hu']
          exact hK k (by omega)

theorem rget_ev (l : List Int) (hl : l.length ≤ 9223372036854775) (hb : Bytes l) : Ev (fun k => garboardref02_Get.f k l) (gt 0 0 l) :=
  rget_loop l hl hb l 0 0 1 rfl (by omega) (by omega) (by omega) (by decide) rfl

end Go.Proofs.Ytjpjlloimemcfaa.Var
namespace Go.Proofs.Ytjpjlloimemcfaa.Crc
set_option linter.unusedVariables false
set_option linter.unusedSimpArgs false
open Go.RowKit Go.Proofs.Ytjpjlloimemcfaa.PA Go.Proofs.YtjpjlloimemcfaaW.PrintWords Go.Proofs.YtjpjlloimemcfaaW.PrintLast Go.Proofs.YtjpjlloimemcfaaW.PrintMore Go.Proofs.Ytjpjlloimemcfaa.Base
theorem ropen_ev (l : List Int) (hl : l.length ≤ 100000) (hb : Bytes l) : Ev (fun k => garboardref03_Open.f k l) (openV l) := by
  unfold garboardref03_Open.f openV
  rw [w64 (x := (l.length : Int) - 4) (by omega) (by omega)]
  by_cases h4 : l.length < 4
  · rw [if_pos h4]; exact ev_ifT (by omega) (Ev.now _)
  rw [if_neg h4]
  refine ev_ifF (by omega) (ev_ifT (by omega) (ev_ifT (by omega) ?_))
  rw [show ((l.length : Int) - 4).toNat = l.length - 4 from by omega]
  refine Ev.bind (rseal_ev _ (by rw [List.length_take]; omega) (hb.take _)) ?_
  by_cases h : l.drop (l.length - 4) = b4 (sumV (l.take (l.length - 4)))
  · rw [if_pos h]
    have e : sealV (l.take (l.length - 4)) = l := by unfold sealV; rw [← h, List.take_append_drop]
    refine ev_ifT (by rw [e]) (ev_ifT (by simp only [List.length_nil, List.length_take]; omega) ?_)
    rw [List.nil_append]; exact Ev.now _
  · rw [if_neg h]
    refine ev_ifF (fun c => h ?_) (Ev.now _)
    have e := str_inj (seal_bytes (hb.take _)) hb c
    have e2 := congrArg (List.drop (l.length - 4)) e
    rw [← e2]
    unfold sealV
    rw [List.drop_left' (by rw [List.length_take]; omega)]
end Go.Proofs.Ytjpjlloimemcfaa.Crc
namespace Go.Proofs.Ytjpjlloimemcfaa.Frm
set_option linter.unusedVariables false
set_option linter.unusedSimpArgs false
open Go.RowKit Go.Proofs.Ytjpjlloimemcfaa.PA Go.Proofs.YtjpjlloimemcfaaW.PrintWords Go.Proofs.YtjpjlloimemcfaaW.PrintLast Go.Proofs.YtjpjlloimemcfaaW.PrintMore Go.Proofs.Ytjpjlloimemcfaa.Base Go.Proofs.Ytjpjlloimemcfaa.Var Go.Proofs.Ytjpjlloimemcfaa.Lst
attribute [local go_sem] max2_int min2_int max_two min_two max_three min_three max_four min_four
theorem cell_of {w : World} {A : Option Addr} {l : List Int} (h : Kd.C (Kd.int .u8) w A l.length l) (h0 : 0 < l.length) : ∃ ad, A = some ad ∧ ∀ i, i < l.length → w.cell? (ad.add i) = some (.int .u8 (l.getD i 0)) := by
  have r := Kd.reads_of_C (enc := Value.int .u8) (d := (0 : Int)) (h1 := fun _ => rfl) h
  obtain ⟨ad, e, hc⟩ := r.2.2 h0
  exact ⟨ad, e, hc⟩
/-- the head fails: no call is made -/
def Post18 (w : World) (x : List Int) (m e0 : Int) (e : Ending) (w' : World) : Prop := ∃ v, e = .returned (.tuple #[v, .int .i64 m, .int .i64 e0]) ∧ Ct encB 5 w' w.heap.size v x ∧ Below w.heap.size w w'
theorem rp_nil (A0 : Option Addr) (c0 : Nat) (w : World) : Calls Try.prog 18 #[.slice A0 0 c0] w fun e w' => Post18 w [] 0 4 e w' := by
  go_enter Try.func18, Try.ntmps18
  go_wp2_with fail
  go_ret3
  exact ⟨_, rfl, Ct.nil _ _ _ _, Below.refl _ _⟩
theorem rp_no (ad : Addr) (n c0 : Nat) (a : Int) (hn : 0 < n) (ha : a ≠ 71) (w : World) (h0 : w.cell? ad = some (.int .u8 a)) : Calls Try.prog 18 #[.slice (some ad) n c0] w fun e w' => Post18 w [] 0 3 e w' := by
  have f1 : (a != 71) = true := by simpa using ha
  have d1 : decide ((0 : Int) < (n : Int)) = true := decide_eq_true (by omega)
  clear ha
  go_enter Try.func18, Try.ntmps18
  go_wp2_with fail
  go_ret3
  exact ⟨_, rfl, Ct.nil _ _ _ _, Below.refl _ _⟩
theorem rp_one (ad : Addr) (c0 : Nat) (w : World) (h0 : w.cell? ad = some (.int .u8 71)) : Calls Try.prog 18 #[.slice (some ad) 1 c0] w fun e w' => Post18 w [] 0 4 e w' := by
  go_enter Try.func18, Try.ntmps18
  go_wp2_with fail
  go_ret3
  exact ⟨_, rfl, Ct.nil _ _ _ _, Below.refl _ _⟩
theorem rp_two (ad : Addr) (n c0 : Nat) (b : Int) (hn : 1 < n) (hb : b ≠ 98) (w : World) (h0 : w.cell? ad = some (.int .u8 71)) (h1 : w.cell? ⟨ad.block, ad.off + 1, none⟩ = some (.int .u8 b)) : Calls Try.prog 18 #[.slice (some ad) n c0] w fun e w' => Post18 w [] 0 3 e w' := by
  have f1 : (b != 98) = true := by simpa using hb
  have d1 : decide ((0 : Int) < (n : Int)) = true := decide_eq_true (by omega)
  have d2 : decide ((1 : Int) < (n : Int)) = true := decide_eq_true (by omega)
  have hn0 : 0 < n := by omega
  clear hb
  go_enter Try.func18, Try.ntmps18
  go_wp2_with fail
  go_ret3
  exact ⟨_, rfl, Ct.nil _ _ _ _, Below.refl _ _⟩
theorem rp_short (ad : Addr) (c0 : Nat) (w : World) (h0 : w.cell? ad = some (.int .u8 71)) (h1 : w.cell? ⟨ad.block, ad.off + 1, none⟩ = some (.int .u8 98)) : Calls Try.prog 18 #[.slice (some ad) 2 c0] w fun e w' => Post18 w [] 0 4 e w' := by
  go_enter Try.func18, Try.ntmps18
  go_wp2_with fail
  go_ret3
  exact ⟨_, rfl, Ct.nil _ _ _ _, Below.refl _ _⟩
theorem rp_ver (ad : Addr) (n c0 : Nat) (v : Int) (hn : 2 < n) (hv : v ≠ 1) (w : World) (h0 : w.cell? ad = some (.int .u8 71)) (h1 : w.cell? ⟨ad.block, ad.off + 1, none⟩ = some (.int .u8 98)) (h2 : w.cell? ⟨ad.block, ad.off + 2, none⟩ = some (.int .u8 v)) : Calls Try.prog 18 #[.slice (some ad) n c0] w fun e w' => Post18 w [] 0 11 e w' := by
  have f1 : (v != 1) = true := by simpa using hv
  have d1 : decide ((0 : Int) < (n : Int)) = true := decide_eq_true (by omega)
  have d2 : decide ((1 : Int) < (n : Int)) = true := decide_eq_true (by omega)
  have d3 : decide ((n : Int) < 3) = false := decide_eq_false (by omega)
  have d3' : decide (n < 3) = false := decide_eq_false (by omega)
  have hn0 : 0 < n := by omega
  have hn1 : 1 < n := by omega
  clear hv
  go_enter Try.func18, Try.ntmps18
  go_wp2_with fail
  go_ret3
  exact ⟨_, rfl, Ct.nil _ _ _ _, Below.refl _ _⟩
theorem own_some {W : World} {b0 : Nat} {v : Value} {l : List Int} (h : Ls encB 5 W b0 v l) (hl : 0 < l.length) : ∃ g c, v = .slice (some ⟨g, 0, none⟩) l.length c ∧ l.length ≤ c := by
  rcases h.2 with ⟨_, h0⟩ | ⟨g, c, cur, e, _, _, hc, _⟩
  · omega
  · exact ⟨g, c, e, hc⟩
/-- what stands behind a good head's first three bytes -/
structure Hd (w : World) (ad : Addr) (l : List Int) (c0 : Nat) : Prop where
  row : Kd.C (Kd.int .u8) w (some ad) l.length l
  ge : 3 ≤ l.length
  cap : l.length ≤ c0
  le : l.length ≤ 3000
  by_ : Bytes l
  h0 : w.cell? ad = some (.int .u8 71)
  h1 : w.cell? ⟨ad.block, ad.off + 1, none⟩ = some (.int .u8 98)
  h2 : w.cell? ⟨ad.block, ad.off + 2, none⟩ = some (.int .u8 1)
set_option maxHeartbeats 8000000 in
theorem rp_get (ad : Addr) (l : List Int) (c0 : Nat) (w : World) (h : Hd w ad l c0) (m k e : Int) (hg : gt 0 0 (l.drop 3) = (m, k, e)) (he : e ≠ 0) : Calls Try.prog 18 #[.slice (some ad) l.length c0] w fun e' w' => Post18 w [] 0 e e' w' := by
  have h0 := h.h0; have h1 := h.h1; have h2 := h.h2
  have g0 := h.ge; have g1 := h.cap; have g2 := h.le
  have d1 : decide ((0 : Int) < (l.length : Int)) = true := decide_eq_true (by omega)
  have d2 : decide ((1 : Int) < (l.length : Int)) = true := decide_eq_true (by omega)
  have d3 : decide ((l.length : Int) < 3) = false := decide_eq_false (by omega)
  have d3' : decide (l.length < 3) = false := decide_eq_false (by omega)
  have hn0 : 0 < l.length := by omega
  have hn1 : 1 < l.length := by omega
  have hn2 : 2 < l.length := by omega
  obtain ⟨K, hK⟩ := rget_ev (l.drop 3) (by rw [List.length_drop]; omega) (Bytes.drop h.by_ 3)
  have hf := hK K (Nat.le_refl K)
  rw [hg] at hf
  have hd := Kd.C_drop (k := Kd.int .u8) h.row g0 g1
  have hln : (l.drop 3).length = l.length - 3 := List.length_drop
  have f1 : (e != 0) = true := by simpa using he
  clear hg hK h he
  by_cases hc3 : c0 = 3
  · rw [if_pos hc3] at hd
    have hG := garboardref02_Get.calls K (some ad) 0 (l.drop 3) m k e w hd (by omega) hf
    rw [hln, show l.length - 3 = 0 by omega] at hG
    subst hc3
    have HG := Aside0.mk hG
    clear hd hG hf
    go_enter Try.func18, Try.ntmps18
    go_wp2_with ((go_at_call 31; (with_reducible refine HG.out.mono ?_); rintro e9 w9 ⟨rfl, hdr⟩; obtain ⟨nd, rfl⟩ := hdr))
    go_ret3
    exact ⟨_, rfl, Ct.nil _ _ _ _, pw_below_drewN (Below.refl _ _) _⟩
  · rw [if_neg hc3] at hd
    have hd : Kd.C (Kd.int .u8) w (some ⟨ad.block, ad.off + 3, none⟩) (l.drop 3).length (l.drop 3) := hd
    have hG := garboardref02_Get.calls K (some ⟨ad.block, ad.off + 3, none⟩) (c0 - 3) (l.drop 3) m k e w hd (by omega) hf
    rw [hln] at hG
    have HG := Aside0.mk hG
    clear hd hG hf
    go_enter Try.func18, Try.ntmps18
    go_wp2_with ((go_at_call 31; (with_reducible refine HG.out.mono ?_); rintro e9 w9 ⟨rfl, hdr⟩; obtain ⟨nd, rfl⟩ := hdr))
    go_ret3
    exact ⟨_, rfl, Ct.nil _ _ _ _, pw_below_drewN (Below.refl _ _) _⟩
set_option maxHeartbeats 8000000 in
theorem rp_many (ad : Addr) (l : List Int) (c0 : Nat) (w : World) (h : Hd w ad l c0) (m k : Int) (hg : gt 0 0 (l.drop 3) = (m, k, 0)) (h4 : 4 ≤ l.length) (hm : 2048 < m) : Calls Try.prog 18 #[.slice (some ad) l.length c0] w fun e' w' => Post18 w [] 0 5 e' w' := by
  have h0 := h.h0; have h1 := h.h1; have h2 := h.h2
  have g0 := h.ge; have g1 := h.cap; have g2 := h.le
  have d1 : decide ((0 : Int) < (l.length : Int)) = true := decide_eq_true (by omega)
  have d2 : decide ((1 : Int) < (l.length : Int)) = true := decide_eq_true (by omega)
  have d3 : decide ((l.length : Int) < 3) = false := decide_eq_false (by omega)
  have d3' : decide (l.length < 3) = false := decide_eq_false (by omega)
  have hn0 : 0 < l.length := by omega
  have hn1 : 1 < l.length := by omega
  have hn2 : 2 < l.length := by omega
  obtain ⟨K, hK⟩ := rget_ev (l.drop 3) (by rw [List.length_drop]; omega) (Bytes.drop h.by_ 3)
  have hf := hK K (Nat.le_refl K)
  rw [hg] at hf
  have hd := Kd.C_drop (k := Kd.int .u8) h.row g0 g1
  have hln : (l.drop 3).length = l.length - 3 := List.length_drop
  have hc3 : ¬ c0 = 3 := by omega
  rw [if_neg hc3] at hd
  have hd : Kd.C (Kd.int .u8) w (some ⟨ad.block, ad.off + 3, none⟩) (l.drop 3).length (l.drop 3) := hd
  have hG := garboardref02_Get.calls K (some ⟨ad.block, ad.off + 3, none⟩) (c0 - 3) (l.drop 3) m k 0 w hd (by omega) hf
  rw [hln] at hG
  have HG := Aside0.mk hG
  have e5 : decide (2048 < m) = true := decide_eq_true hm
  clear hd hG hf hg hK h hm
  go_enter Try.func18, Try.ntmps18
  go_wp2_with ((go_at_call 31; (with_reducible refine HG.out.mono ?_); rintro e9 w9 ⟨rfl, hdr⟩; obtain ⟨nd, rfl⟩ := hdr))
  go_ret3
  exact ⟨_, rfl, Ct.nil _ _ _ _, pw_below_drewN (Below.refl _ _) _⟩
set_option maxHeartbeats 8000000 in
theorem rp_few (ad : Addr) (l : List Int) (c0 : Nat) (w : World) (h : Hd w ad l c0) (m k : Int) (hg : gt 0 0 (l.drop 3) = (m, k, 0)) (h4 : 4 ≤ l.length) (hm : 0 ≤ m ∧ m ≤ 2048) (hk : 0 ≤ k ∧ k ≤ 3000) (hs : (l.length : Int) < 3 + k + m + 4) : Calls Try.prog 18 #[.slice (some ad) l.length c0] w fun e' w' => Post18 w [] 0 4 e' w' := by
  have h0 := h.h0; have h1 := h.h1; have h2 := h.h2
  have g0 := h.ge; have g1 := h.cap; have g2 := h.le
  have d1 : decide ((0 : Int) < (l.length : Int)) = true := decide_eq_true (by omega)
  have d2 : decide ((1 : Int) < (l.length : Int)) = true := decide_eq_true (by omega)
  have d3 : decide ((l.length : Int) < 3) = false := decide_eq_false (by omega)
  have d3' : decide (l.length < 3) = false := decide_eq_false (by omega)
  have hn0 : 0 < l.length := by omega
  have hn1 : 1 < l.length := by omega
  have hn2 : 2 < l.length := by omega
  obtain ⟨K, hK⟩ := rget_ev (l.drop 3) (by rw [List.length_drop]; omega) (Bytes.drop h.by_ 3)
  have hf := hK K (Nat.le_refl K)
  rw [hg] at hf
  have hd := Kd.C_drop (k := Kd.int .u8) h.row g0 g1
  have hln : (l.drop 3).length = l.length - 3 := List.length_drop
  have hc3 : ¬ c0 = 3 := by omega
  rw [if_neg hc3] at hd
  have hd : Kd.C (Kd.int .u8) w (some ⟨ad.block, ad.off + 3, none⟩) (l.drop 3).length (l.drop 3) := hd
  have hG := garboardref02_Get.calls K (some ⟨ad.block, ad.off + 3, none⟩) (c0 - 3) (l.drop 3) m k 0 w hd (by omega) hf
  rw [hln] at hG
  have HG := Aside0.mk hG
  have e5 : decide (2048 < m) = false := decide_eq_false (by omega)
  have e6 : wrap64 m = m := w64 (by omega) (by omega)
  have e7 : wrap64 (3 + k) = 3 + k := w64 (by omega) (by omega)
  have e8 : wrap64 (3 + k + m) = 3 + k + m := w64 (by omega) (by omega)
  have e9 : wrap64 (3 + k + m + 4) = 3 + k + m + 4 := w64 (by omega) (by omega)
  have d9 : decide ((l.length : Int) < 3 + k + m + 4) = true := decide_eq_true hs
  clear hd hG hf hg hK h hm hk hs
  go_enter Try.func18, Try.ntmps18
  go_wp2_with ((go_at_call 31; (with_reducible refine HG.out.mono ?_); rintro e9 w9 ⟨rfl, hdr⟩; obtain ⟨nd, rfl⟩ := hdr))
  go_ret3
  exact ⟨_, rfl, Ct.nil _ _ _ _, pw_below_drewN (Below.refl _ _) _⟩
set_option maxHeartbeats 8000000 in
theorem rp_bad (ad : Addr) (l : List Int) (c0 : Nat) (w : World) (h : Hd w ad l c0) (m k : Int) (hg : gt 0 0 (l.drop 3) = (m, k, 0)) (h4 : 4 ≤ l.length) (hm : 0 ≤ m ∧ m ≤ 2048) (hk : 0 ≤ k ∧ k ≤ 3000) (E : Nat) (hE : 3 + k + m + 4 = (E : Int)) (hs : E ≤ l.length) (x1 : List Int) (f : Int) (ho : Crc.openV (l.take E) = (x1, f)) (hf0 : f ≠ 0) : Calls Try.prog 18 #[.slice (some ad) l.length c0] w fun e' w' => Post18 w [] 0 8 e' w' := by
  have h0 := h.h0; have h1 := h.h1; have h2 := h.h2
  have g0 := h.ge; have g1 := h.cap; have g2 := h.le
  have d1 : decide ((0 : Int) < (l.length : Int)) = true := decide_eq_true (by omega)
  have d2 : decide ((1 : Int) < (l.length : Int)) = true := decide_eq_true (by omega)
  have d3 : decide ((l.length : Int) < 3) = false := decide_eq_false (by omega)
  have d3' : decide (l.length < 3) = false := decide_eq_false (by omega)
  have hn0 : 0 < l.length := by omega
  have hn1 : 1 < l.length := by omega
  have hn2 : 2 < l.length := by omega
  obtain ⟨K, hK⟩ := rget_ev (l.drop 3) (by rw [List.length_drop]; omega) (Bytes.drop h.by_ 3)
  have hf := hK K (Nat.le_refl K)
  rw [hg] at hf
  have hd := Kd.C_drop (k := Kd.int .u8) h.row g0 g1
  have hln : (l.drop 3).length = l.length - 3 := List.length_drop
  have hc3 : ¬ c0 = 3 := by omega
  rw [if_neg hc3] at hd
  have hd : Kd.C (Kd.int .u8) w (some ⟨ad.block, ad.off + 3, none⟩) (l.drop 3).length (l.drop 3) := hd
  have hG := garboardref02_Get.calls K (some ⟨ad.block, ad.off + 3, none⟩) (c0 - 3) (l.drop 3) m k 0 w hd (by omega) hf
  rw [hln] at hG
  have HG := Aside0.mk hG
  have e5 : decide (2048 < m) = false := decide_eq_false (by omega)
  have e6 : wrap64 m = m := w64 (by omega) (by omega)
  have e7 : wrap64 (3 + k) = 3 + k := w64 (by omega) (by omega)
  have e8 : wrap64 (3 + k + m) = 3 + k + m := w64 (by omega) (by omega)
  have e9 : wrap64 (3 + k + m + 4) = (E : Int) := by rw [hE]; exact w64 (by omega) (by omega)
  have d9 : decide ((l.length : Int) < (E : Int)) = false := decide_eq_false (by omega)
  have d9' : decide (l.length < E) = false := decide_eq_false (by omega)
  have hEc : E ≤ c0 := by omega
  obtain ⟨K2, hK2⟩ := Crc.ropen_ev (l.take E) (by rw [List.length_take]; omega) (Bytes.take h.by_ E)
  have hf2 := hK2 K2 (Nat.le_refl K2)
  rw [ho] at hf2
  have htl : (l.take E).length = E := List.length_take_of_le hs
  have HO := Aside0.mk (show ∀ n, Calls Try.prog 32 #[.slice (some ad) E c0] (World.drewN w n) fun e w' => ∃ v0_ : Value, e = .returned (.tuple #[v0_, .int .i64 f]) ∧ Kd.R (Kd.int .u8) 5 w' (World.drewN w n).heap.size (fun _ => True) v0_ x1 ∧ Below (World.drewN w n).heap.size (World.drewN w n) w' from fun n => by
    have q := garboardref03_Open.calls K2 (some ad) c0 (l.take E) x1 f (World.drewN w n) (Kd.C_drewN (Kd.C_take h.row hs) n) (by omega) hf2
    rw [htl] at q
    exact q)
  have ff : (f != 0) = true := by simpa using hf0
  clear hd hG hf hg hK h hm hk hE ho hf0 hK2 hf2 htl
  go_enter Try.func18, Try.ntmps18
  go_wp2_with (first | (go_at_call 31; (with_reducible refine HG.out.mono ?_); rintro e9 w9 ⟨rfl, hdr⟩; obtain ⟨nd, rfl⟩ := hdr) | (go_at_call 32; (with_reducible refine (HO.out _).mono ?_); rintro e8 w8 ⟨v, rfl, hR, hb⟩; have HR := Aside0.mk (ls_of hR); have HZ := Aside0.mk (below_step (pw_below_drewN (Below.refl w.heap.size w) _) hb); clear hR hb))
  go_ret3
  exact ⟨_, rfl, Ct.nil _ _ _ _, HZ.out⟩
set_option maxHeartbeats 8000000 in
theorem rp_good (ad : Addr) (l : List Int) (c0 : Nat) (w : World) (h : Hd w ad l c0) (m k : Int) (hg : gt 0 0 (l.drop 3) = (m, k, 0)) (h4 : 4 ≤ l.length) (hm : 0 ≤ m ∧ m ≤ 2048) (hk : 0 ≤ k ∧ k ≤ 3000) (j E : Nat) (hj : 3 + k = (j : Int)) (hE : (j : Int) + m + 4 = (E : Int)) (hs : E ≤ l.length) (x1 : List Int) (ho : Crc.openV (l.take E) = (x1, 0)) (hx1 : x1.length + 4 = E) (hx0 : 3 ≤ j) : Calls Try.prog 18 #[.slice (some ad) l.length c0] w fun e' w' => Post18 w (x1.drop j) (E : Int) 0 e' w' := by
  have h0 := h.h0; have h1 := h.h1; have h2 := h.h2
  have g0 := h.ge; have g1 := h.cap; have g2 := h.le
  have d1 : decide ((0 : Int) < (l.length : Int)) = true := decide_eq_true (by omega)
  have d2 : decide ((1 : Int) < (l.length : Int)) = true := decide_eq_true (by omega)
  have d3 : decide ((l.length : Int) < 3) = false := decide_eq_false (by omega)
  have d3' : decide (l.length < 3) = false := decide_eq_false (by omega)
  have hn0 : 0 < l.length := by omega
  have hn1 : 1 < l.length := by omega
  have hn2 : 2 < l.length := by omega
  obtain ⟨K, hK⟩ := rget_ev (l.drop 3) (by rw [List.length_drop]; omega) (Bytes.drop h.by_ 3)
  have hf := hK K (Nat.le_refl K)
  rw [hg] at hf
  have hd := Kd.C_drop (k := Kd.int .u8) h.row g0 g1
  have hln : (l.drop 3).length = l.length - 3 := List.length_drop
  have hc3 : ¬ c0 = 3 := by omega
  rw [if_neg hc3] at hd
  have hd : Kd.C (Kd.int .u8) w (some ⟨ad.block, ad.off + 3, none⟩) (l.drop 3).length (l.drop 3) := hd
  have hG := garboardref02_Get.calls K (some ⟨ad.block, ad.off + 3, none⟩) (c0 - 3) (l.drop 3) m k 0 w hd (by omega) hf
  rw [hln] at hG
  have HG := Aside0.mk hG
  have e5 : decide (2048 < m) = false := decide_eq_false (by omega)
  have e6 : wrap64 m = m := w64 (by omega) (by omega)
  have e7 : wrap64 (3 + k) = (j : Int) := by rw [hj]; exact w64 (by omega) (by omega)
  have e8 : wrap64 ((j : Int) + m) = (j : Int) + m := w64 (by omega) (by omega)
  have e9 : wrap64 ((j : Int) + m + 4) = (E : Int) := by rw [hE]; exact w64 (by omega) (by omega)
  have d9 : decide ((l.length : Int) < (E : Int)) = false := decide_eq_false (by omega)
  have d9' : decide (l.length < E) = false := decide_eq_false (by omega)
  have hEc : E ≤ c0 := by omega
  obtain ⟨K2, hK2⟩ := Crc.ropen_ev (l.take E) (by rw [List.length_take]; omega) (Bytes.take h.by_ E)
  have hf2 := hK2 K2 (Nat.le_refl K2)
  rw [ho] at hf2
  have htl : (l.take E).length = E := List.length_take_of_le hs
  have HO := Aside0.mk (show ∀ n, Calls Try.prog 32 #[.slice (some ad) E c0] (World.drewN w n) fun e w' => ∃ v0_ : Value, e = .returned (.tuple #[v0_,   .int .i64 0]) ∧ Kd.R (Kd.int .u8) 5 w' (World.drewN w n).heap.size (fun _ => True) v0_ x1 ∧ Below (World.drewN w n).heap.size (World.drewN w n) w' from fun n => by
    have q := garboardref03_Open.calls K2 (some ad) c0 (l.take E) x1 0 (World.drewN w n) (Kd.C_drewN (Kd.C_take h.row hs) n) (by omega) hf2
    rw [htl] at q
    exact q)
  have hjl : j ≤ x1.length := by omega
  have hs1 : (0 : Int) ≤ (j : Int) := by omega
  have hs2 : (j : Int) ≤ (x1.length : Int) := by omega
  have HJ := Aside0.mk (show j ≤ x1.length ∧ 3 ≤ x1.length from by omega)
  clear hd hG hf hg hK h hm hk hE hj ho hx1 hK2 hf2 htl
  go_enter Try.func18, Try.ntmps18
  go_wp2_with (first | (go_at_call 31; (with_reducible refine HG.out.mono ?_); rintro e9 w9 ⟨rfl, hdr⟩; obtain ⟨nd, rfl⟩ := hdr) | (go_at_call 32; (with_reducible refine (HO.out _).mono ?_); rintro e8 w8 ⟨v, rfl, hR, hb⟩; have HR := Aside0.mk (ls_of hR); have HZ := Aside0.mk (below_step (pw_below_drewN (Below.refl w.heap.size w) _) hb); clear hR hb; obtain ⟨g9, c9, rfl, hc9⟩ := own_some HR.out (by have := HJ.out; omega)))
  all_goals go_ret3
  all_goals exact ⟨_, rfl, by have q := (Ct.of_ls HR.out).drop HJ.out.1; first | (rw [if_pos rfl, Nat.sub_self] at q; exact q) | (rw [if_neg (by assumption), show 0 + j * encB.sz = j by show 0 + j * 1 = j; omega] at q; exact q) | (rw [if_pos (by assumption), show c9 - j = 0 by omega] at q; exact q), HZ.out⟩
theorem hd_of {l : List Int} {A : Option Addr} {c0 : Nat} {w : World} (hb : Kd.C (Kd.int .u8) w A l.length l) (hc : l.length ≤ c0) (hl : l.length ≤ 3000) (hbs : Bytes l) {t : List Int} (e : l = 71 :: 98 :: 1 :: t) : ∃ ad, A = some ad ∧ Hd w ad l c0 := by
  obtain ⟨ad, rfl, h⟩ := cell_of hb (by rw [e]; simp)
  have n3 : 3 ≤ l.length := by rw [e]; simp
  refine ⟨ad, rfl, hb, n3, hc, hl, hbs, ?_, ?_, ?_⟩
  · have := h 0 (by omega); rw [e] at this; simpa [Addr.add] using this
  · have := h 1 (by omega); rw [e] at this; exact this
  · have := h 2 (by omega); rw [e] at this; exact this
theorem head_gb (t : List Int) : headV (71 :: 98 :: t) = endV (71 :: 98 :: t) := by rw [headV, if_pos rfl, if_pos rfl]
/-- What the document's Parse finds, seen from the good beginning on. -/
theorem parse_gb (t : List Int) (hbs : Bytes (71 :: 98 :: 1 :: t)) (l : List Int) (e' : l = 71 :: 98 :: 1 :: t) (m k e : Int) (hg : gt 0 0 (l.drop 3) = (m, k, e)) :
    (e ≠ 0 ∧ parseV l = ([], 0, e)) ∨ (e = 0 ∧ 4 ≤ l.length ∧ 0 ≤ m ∧ 0 ≤ k ∧ 3 + k ≤ l.length ∧
      ((2048 < m ∧ parseV l = ([], 0, 5)) ∨ (m ≤ 2048 ∧ (l.length : Int) < 3 + k + m + 4 ∧ parseV l = ([], 0, 4)) ∨
        ∃ j E : Nat, m ≤ 2048 ∧ 3 + k = (j : Int) ∧ 3 ≤ j ∧ (j : Int) + m + 4 = (E : Int) ∧ E ≤ l.length ∧
          ((∃ x1 f, Crc.openV (l.take E) = (x1, f) ∧ f ≠ 0 ∧ parseV l = ([], 0, 8)) ∨ ∃ x1, Crc.openV (l.take E) = (x1, 0) ∧ x1.length + 4 = E ∧ parseV l = (x1.drop j, (E : Int), 0)))) := by
  have hh : headV l = endV l := by rw [e']; exact head_gb _
  have hb3 : Bytes (l.drop 3) := Bytes.drop (by rw [e']; exact hbs) 3
  have n3 : 3 ≤ l.length := by rw [e']; simp
  have h2 : rd l 2 = 1 := by rw [e']; rfl
  have hend : endV l = if e = 0 then (if m > 2048 then (0, 0, 5) else (m, 3 + k, 0)) else (0, 0, e) := by
    unfold endV
    rw [if_neg (by omega), if_pos h2, hg]
  rw [hend] at hh
  by_cases he : e = 0
  rotate_left
  · rw [if_neg he] at hh
    exact Or.inl ⟨he, by unfold parseV; rw [hh]; dsimp only; rw [if_neg he]⟩
  subst he
  obtain ⟨g1, g2, g3, g4, g5, g6, g7⟩ := vb_gt0 hb3 hg
  rw [List.length_drop] at g7
  rw [if_pos rfl] at hh
  refine Or.inr ⟨rfl, by omega, g1, by omega, by omega, ?_⟩
  by_cases hm : m > 2048
  · rw [if_pos hm] at hh
    exact Or.inl ⟨hm, by unfold parseV; rw [hh]; rfl⟩
  rw [if_neg hm] at hh
  by_cases hs : (l.length : Int) < 3 + k + m + 4
  · exact Or.inr (Or.inl ⟨by omega, hs, by unfold parseV; rw [hh]; dsimp only; rw [if_pos rfl, if_pos hs]⟩)
  refine Or.inr (Or.inr ⟨(3 + k).toNat, (3 + k + m + 4).toNat, by omega, by omega, by omega, by omega, by omega, ?_⟩)
  generalize hE : (3 + k + m + 4).toNat = E
  have hEl : (l.take E).length = E := List.length_take_of_le (by omega)
  have hp : parseV l = if (Crc.openV (l.take E)).2 = 0 then ((l.take (3 + k + m).toNat).drop (3 + k).toNat, 3 + k + m + 4, 0) else ([], 0, (Crc.openV (l.take E)).2) := by
    unfold parseV
    rw [hh]
    dsimp only
    rw [if_pos rfl, if_neg hs, hE]
  have ho : Crc.openV (l.take E) = if (l.take E).drop (E - 4) = Crc.b4 (Crc.sumV ((l.take E).take (E - 4))) then ((l.take E).take (E - 4), 0) else ([], 8) := by
    unfold Crc.openV
    rw [hEl, if_neg (by omega)]
  by_cases hc : (l.take E).drop (E - 4) = Crc.b4 (Crc.sumV ((l.take E).take (E - 4)))
  · rw [if_pos hc] at ho
    refine Or.inr ⟨(l.take E).take (E - 4), ho, by rw [List.length_take_of_le (by omega)]; omega, ?_⟩
    rw [hp, ho, if_pos rfl, List.take_take, Nat.min_eq_left (by omega)]
    refine Prod.ext ?_ (Prod.ext (by show 3 + k + m + 4 = (E : Int); omega) rfl)
    show List.drop _ (List.take _ l) = _
    rw [show (3 + k + m).toNat = E - 4 by omega]
  · rw [if_neg hc] at ho
    exact Or.inl ⟨[], 8, ho, by decide, by rw [hp, ho]; rfl⟩
theorem rparse_c (A : Option Addr) (c0 : Nat) (l : List Int) (hl : l.length ≤ 3000) (hc : l.length ≤ c0) (hbs : Bytes l) (x : List Int) (m e : Int) (hp : parseV l = (x, m, e)) (w : World) (hb : Kd.C (Kd.int .u8) w A l.length l) : Calls Try.prog 18 #[.slice A l.length c0] w fun e' w' => Post18 w x m e e' w' := by
  match l, hl, hc, hbs, hp, hb with
  | [], _, _, _, hp, _ =>
    have q : parseV [] = ([], 0, 4) := by unfold parseV headV; rfl
    rw [q] at hp
    simp only [Prod.mk.injEq] at hp
    obtain ⟨rfl, rfl, rfl⟩ := hp
    exact rp_nil A c0 w
  | [a], hl, hc, hbs, hp, hb =>
    obtain ⟨ad, rfl, h⟩ := cell_of hb (by simp)
    have h0 : w.cell? ad = some (.int .u8 a) := by have := h 0 (by simp); simpa [Addr.add] using this
    by_cases ha : a = 71
    · subst ha
      have q : parseV [71] = ([], 0, 4) := by unfold parseV headV; rfl
      rw [q] at hp
      simp only [Prod.mk.injEq] at hp
      obtain ⟨rfl, rfl, rfl⟩ := hp
      exact rp_one ad c0 w h0
    · have hh : headV [a] = (0, 0, 3) := by rw [headV, if_neg ha]
      have q : parseV [a] = ([], 0, 3) := by unfold parseV; rw [hh]; rfl
      rw [q] at hp
      simp only [Prod.mk.injEq] at hp
      obtain ⟨rfl, rfl, rfl⟩ := hp
      exact rp_no ad 1 c0 a (by decide) ha w h0
  | a :: b :: t, hl, hc, hbs, hp, hb =>
    obtain ⟨ad, rfl, h⟩ := cell_of hb (by simp)
    have h0 : w.cell? ad = some (.int .u8 a) := by have := h 0 (by simp); simpa [Addr.add] using this
    have h1 : w.cell? ⟨ad.block, ad.off + 1, none⟩ = some (.int .u8 b) := h 1 (by simp)
    by_cases ha : a = 71
    rotate_left
    · have hh : headV (a :: b :: t) = (0, 0, 3) := by rw [headV, if_neg ha]
      have q : parseV (a :: b :: t) = ([], 0, 3) := by unfold parseV; rw [hh]; rfl
      rw [q] at hp
      simp only [Prod.mk.injEq] at hp
      obtain ⟨rfl, rfl, rfl⟩ := hp
      exact rp_no ad _ c0 a (by simp) ha w h0
    by_cases hb' : b = 98
    rotate_left
    · have hh : headV (a :: b :: t) = (0, 0, 3) := by rw [headV, if_pos ha, if_neg hb']
      have q : parseV (a :: b :: t) = ([], 0, 3) := by unfold parseV; rw [hh]; rfl
      rw [q] at hp
      simp only [Prod.mk.injEq] at hp
      obtain ⟨rfl, rfl, rfl⟩ := hp
      subst ha
      exact rp_two ad _ c0 b (by simp) hb' w h0 h1
    subst ha hb'
    match t, hl, hc, hbs, hp, hb, h, h1 with
    | [], hl, hc, hbs, hp, hb, h, h1 =>
      have q : parseV [71, 98] = ([], 0, 4) := by unfold parseV; rw [head_gb]; unfold endV; rfl
      rw [q] at hp
      simp only [Prod.mk.injEq] at hp
      obtain ⟨rfl, rfl, rfl⟩ := hp
      exact rp_short ad c0 w h0 h1
    | c :: t, hl, hc, hbs, hp, hb, h, h1 =>
      have h2 : w.cell? ⟨ad.block, ad.off + 2, none⟩ = some (.int .u8 c) := h 2 (by simp)
      by_cases hc1 : c = 1
      rotate_left
      · have q : parseV (71 :: 98 :: c :: t) = ([], 0, 11) := by
          have qe : endV (71 :: 98 :: c :: t) = (0, 0, 11) := by
            unfold endV
            rw [if_neg (by simp), if_neg (show ¬ rd (71 :: 98 :: c :: t) 2 = 1 from hc1)]
          unfold parseV; rw [head_gb, qe]; rfl
        rw [q] at hp
        simp only [Prod.mk.injEq] at hp
        obtain ⟨rfl, rfl, rfl⟩ := hp
        exact rp_ver ad _ c0 c (by simp) hc1 w h0 h1 h2
      subst hc1
      clear h0 h1 h2 h
      generalize hl' : 71 :: 98 :: 1 :: t = l at *
      have e' : l = 71 :: 98 :: 1 :: t := hl'.symm
      obtain ⟨ad', ea, HD⟩ := hd_of hb hc hl hbs e'
      cases ea
      rcases hg : gt 0 0 (l.drop 3) with ⟨m', k', e1⟩
      rcases parse_gb t (e' ▸ hbs) l e' m' k' e1 hg with ⟨he, q⟩ | ⟨rfl, n4, gm, gk, gl, ⟨hm, q⟩ | ⟨hm, hs, q⟩ | ⟨j, E, hm, hj, hj3, hE, hs, ⟨x1, f, ho, hf, q⟩ | ⟨x1, ho, hx1, q⟩⟩⟩
      · rw [q] at hp
        simp only [Prod.mk.injEq] at hp
        obtain ⟨rfl, rfl, rfl⟩ := hp
        exact rp_get ad l c0 w HD m' k' _ hg he
      · rw [q] at hp
        simp only [Prod.mk.injEq] at hp
        obtain ⟨rfl, rfl, rfl⟩ := hp
        exact rp_many ad l c0 w HD m' k' hg n4 hm
      · rw [q] at hp
        simp only [Prod.mk.injEq] at hp
        obtain ⟨rfl, rfl, rfl⟩ := hp
        exact rp_few ad l c0 w HD m' k' hg n4 ⟨gm, hm⟩ ⟨gk, by omega⟩ hs
      · rw [q] at hp
        simp only [Prod.mk.injEq] at hp
        obtain ⟨rfl, rfl, rfl⟩ := hp
        exact rp_bad ad l c0 w HD m' k' hg n4 ⟨gm, hm⟩ ⟨gk, by omega⟩ E (by omega) hs x1 f ho hf
      · rw [q] at hp
        simp only [Prod.mk.injEq] at hp
        obtain ⟨rfl, rfl, rfl⟩ := hp
        exact rp_good ad l c0 w HD m' k' hg n4 ⟨gm, hm⟩ ⟨gk, by omega⟩ j E hj hE hs x1 ho hx1 hj3
end Go.Proofs.Ytjpjlloimemcfaa.Frm
namespace Go.Proofs.Ytjpjlloimemcfaa.Frm
set_option linter.unusedVariables false
set_option linter.unusedSimpArgs false
open Go.RowKit Go.Proofs.Ytjpjlloimemcfaa.PA Go.Proofs.YtjpjlloimemcfaaW.PrintWords Go.Proofs.YtjpjlloimemcfaaW.PrintLast Go.Proofs.YtjpjlloimemcfaaW.PrintMore Go.Proofs.Ytjpjlloimemcfaa.Base Go.Proofs.Ytjpjlloimemcfaa.Var Go.Proofs.Ytjpjlloimemcfaa.Lst
attribute [local go_sem] max2_int min2_int max_two min_two max_three min_three max_four min_four
def oneV (l : List Int) : List Int × Int := if (parseV l).2.2 = 0 then (if (parseV l).2.1 < l.length then ([], 3) else ((parseV l).1, 0)) else ([], (parseV l).2.2)
theorem one_ev (l : List Int) (hl : l.length ≤ 100000) (hb : Bytes l) : Ev (fun k => frame_One.f k l) (oneV l) := by
  unfold frame_One.f oneV
  refine Ev.bind (parse_ev l hl hb) ?_
  by_cases he : (parseV l).2.2 = 0
  · refine ev_eq (ev_ifT he ?_) (if_pos he).symm
    by_cases hn : (parseV l).2.1 < l.length
    · exact ev_eq (ev_ifT hn (Ev.now _)) (if_pos hn).symm
    · exact ev_eq (ev_ifF hn (Ev.now _)) (if_neg hn).symm
  · exact ev_eq (ev_ifF he (Ev.now _)) (if_neg he).symm
def Post19 (w : World) (x : List Int) (e0 : Int) (e : Ending) (w' : World) : Prop := ∃ v, e = .returned (.tuple #[v, .int .i64 e0]) ∧ Ct encB 5 w' w.heap.size v x ∧ Below w.heap.size w w'
set_option maxHeartbeats 8000000 in
theorem rone_c (A : Option Addr) (c0 : Nat) (l : List Int) (hl : l.length ≤ 3000) (hc : l.length ≤ c0) (hbs : Bytes l) (x : List Int) (e : Int) (ho : oneV l = (x, e)) (w : World) (hb : Kd.C (Kd.int .u8) w A l.length l) : Calls Try.prog 19 #[.slice A l.length c0] w fun e' w' => Post19 w x e e' w' := by
  rcases hp : parseV l with ⟨y, m, f⟩
  have HP := Aside0.mk (rparse_c A c0 l hl hc hbs y m f hp w hb)
  unfold oneV at ho
  rw [hp] at ho
  dsimp only at ho
  by_cases he : f = 0
  · subst he
    rw [if_pos rfl] at ho
    obtain ⟨a1, a2, a3, a4, a5⟩ := again hbs hp
    by_cases hn : m < l.length
    · rw [if_pos hn] at ho
      obtain ⟨rfl, rfl⟩ := Prod.mk.inj ho
      have f1 : (m != (l.length : Int)) = true := by simp; omega
      clear hp hb hc hl hbs ho a1 a2 a3 a4 a5 hn
      go_enter Try.func19, Try.ntmps19
      go_wp2_with (first | (go_at_call 18; (with_reducible refine HP.out.mono ?_); rintro e8 w9 ⟨v, rfl, hv, hb9⟩; have HV := Aside0.mk hv; have HZ := Aside0.mk hb9; clear hv hb9))
      go_ret2
      exact ⟨_, rfl, Ct.nil _ _ _ _, HZ.out⟩
    · rw [if_neg hn] at ho
      obtain ⟨rfl, rfl⟩ := Prod.mk.inj ho
      obtain rfl : m = (l.length : Int) := by omega
      clear hp hb hc hl hbs ho a1 a2 a3 a4 a5 hn
      go_enter Try.func19, Try.ntmps19
      go_wp2_with (first | (go_at_call 18; (with_reducible refine HP.out.mono ?_); rintro e8 w9 ⟨v, rfl, hv, hb9⟩; have HV := Aside0.mk hv; have HZ := Aside0.mk hb9; clear hv hb9))
      go_ret2
      exact ⟨_, rfl, HV.out, HZ.out⟩
  · rw [if_neg he] at ho
    obtain ⟨rfl, rfl⟩ := Prod.mk.inj ho
    have f1 : (f != 0) = true := by simpa using he
    clear hp hb hc hl hbs ho he
    go_enter Try.func19, Try.ntmps19
    go_wp2_with (first | (go_at_call 18; (with_reducible refine HP.out.mono ?_); rintro e8 w9 ⟨v, rfl, hv, hb9⟩; have HV := Aside0.mk hv; have HZ := Aside0.mk hb9; clear hv hb9))
    go_ret2
    exact ⟨_, rfl, Ct.nil _ _ _ _, HZ.out⟩
/-- a row of parts of rows of bytes -/
def LC (W : World) (b0 : Nat) (v : Value) (xss : List (List Int)) : Prop := ∃ ss : List Sl, Ls encS 22 W b0 v ss ∧ ss.length = xss.length ∧ ∀ (i : Nat) (s : Sl) (xs : List Int), ss[i]? = some s → xss[i]? = some xs → Ct encB 5 W b0 s.v xs
section
variable {W W' : World} {b0 : Nat} {v v' : Value} {xss : List (List Int)}
theorem LC.nil (W : World) (b0 : Nat) : LC W b0 (.slice none 0 0) [] := ⟨[], Ls.nil _ _ _ _, rfl, fun i s xs h => by simp at h⟩
theorem LC.below (h : LC W b0 v xss) (hb : Below W.heap.size W W') : LC W' b0 v xss := by
  obtain ⟨ss, h1, h2, h3⟩ := h
  exact ⟨ss, h1.below hb, h2, fun i s xs a b => (h3 i s xs a b).below hb⟩
theorem LC.form (h : LC W b0 v xss) : ∃ A c, v = .slice A xss.length c ∧ xss.length ≤ c := by
  obtain ⟨ss, h1, h2, _⟩ := h
  obtain ⟨A, c, e, hc, _⟩ := h1.form
  rw [h2] at e hc
  exact ⟨A, c, e, hc⟩
theorem ct_grown {u : Value} {xs : List Int} {ss : List Sl} (h1 : Ls encS 22 W b0 v ss) (h : Ct encB 5 W b0 u xs) (hg : W.grownBy W' v.ownBlock) : Ct encB 5 W' b0 u xs :=
  h.move hg.size fun k hk => hg.block k (h.blk k hk).2.1 fun e' => by
    obtain ⟨_, _, cur, hc⟩ := h.blk k hk
    exact h1.ne hc (by decide) e'
theorem LC.push {ss : List Sl} (h1 : Ls encS 22 W b0 v ss) (h2 : ss.length = xss.length) (h3 : ∀ (i : Nat) (s : Sl) (xs : List Int), ss[i]? = some s → xss[i]? = some xs → Ct encB 5 W b0 s.v xs) {y : Sl} {x : List Int} (hx : Ct encB 5 W b0 y.v x) (hp : Ls encS 22 W' b0 v' (ss ++ [y])) (hg : W.grownBy W' v.ownBlock) : LC W' b0 v' (xss ++ [x]) := by
  refine ⟨ss ++ [y], hp, by rw [List.length_append, List.length_append, h2]; rfl, fun i s xs a b => ?_⟩
  rcases Nat.lt_or_ge i ss.length with c | c
  · rw [List.getElem?_append_left c] at a
    rw [List.getElem?_append_left (by omega)] at b
    exact ct_grown h1 (h3 i s xs a b) hg
  · rw [List.getElem?_append_right c] at a
    rw [List.getElem?_append_right (by omega), ← h2] at b
    have hi : i - ss.length = 0 := by
      have := (List.getElem?_eq_some_iff.1 a).1
      simp at this; omega
    rw [hi] at a b
    simp at a b
    subst a b
    exact ct_grown h1 hx hg
end
set_option maxHeartbeats 16000000 in
theorem rall_c (A0 : Option Addr) (c0 : Nat) (l : List Int) (hl : l.length ≤ 3000) (hbs : Bytes l) (hc0 : l.length ≤ c0) (xss : List (List Int)) (to_ : Nat) (e0 : Int) (ha : allV l l.length 0 = (xss, to_, e0)) (w : World) (hb : Kd.C (Kd.int .u8) w A0 l.length l) :
    Calls Try.prog 20 #[.slice A0 l.length c0] w fun e w' => ∃ v, e = .returned (.tuple #[v, .int .i64 (to_ : Int), .int .i64 e0]) ∧ LC w' w.heap.size v xss ∧ Below w.heap.size w w' := by
  have HB := Aside0.mk hb; have HL := Aside0.mk hl; have HBS := Aside0.mk hbs; have HC := Aside0.mk hc0; have HA := Aside0.mk ha
  clear hb hl hbs hc0 ha
  go_enter Try.func20, Try.ntmps20
  go_wp2_with fail
  go_loopg [5, 6] (l.length) (fun kf vo vi wr => ∃ (i : Nat) (xs : List (List Int)), vi = .int .i64 (i : Int) ∧ Aside0 (i ≤ l.length ∧ l.length - i ≤ kf) ∧ Aside0 (xs ++ (allV l kf i).1 = xss ∧ (allV l kf i).2 = (to_, e0)) ∧ Aside0 (LC wr w.heap.size vo xs) ∧ Aside0 (Below w.heap.size w wr) ∧ Aside0 (xs.length ≤ i))
  case atStart => exact ⟨0, [], rfl, ⟨by omega⟩, ⟨by rw [HA.out]; exact ⟨rfl, rfl⟩⟩, ⟨LC.nil _ _⟩, ⟨Below.refl _ _⟩, ⟨Nat.le_refl _⟩⟩
  case round =>
    obtain ⟨i, xs, rfl, HI, HAV, HLL, HBW, HXL⟩ := hrel
    have l1 := HI.out.1
    have l0 := HL.out
    by_cases hlt : i < l.length
    · have d1 : decide ((i : Int) < (l.length : Int)) = true := decide_eq_true (by omega)
      have d1' : decide (i < l.length) = true := decide_eq_true hlt
      rcases hp : parseV (l.drop i) with ⟨x, m, e⟩
      obtain ⟨f, hkf⟩ : ∃ f, gk = f + 1 := ⟨gk - 1, by have := HI.out.2; omega⟩
      have hav := HAV.out
      rw [hkf] at hav
      unfold allV at hav
      rw [if_pos hlt, hp] at hav
      dsimp only at hav
      have hcb := Kd.C_below HB.out HBW.out
      have hd := Kd.C_drop (k := Kd.int .u8) hcb l1 HC.out
      obtain ⟨A1, hA1⟩ : ∃ A1 : Option Addr, (if c0 = i then A0 else A0.map (·.add (i * (Kd.int .u8).sz))) = A1 := ⟨_, rfl⟩
      rw [hA1] at hd
      have hA2 : (if c0 = i then A0 else Option.map (fun x => x.add i) A0) = A1 := by rw [← hA1, show (Kd.int .u8).sz = 1 from rfl, Nat.mul_one]
      have hld : (l.drop i).length = l.length - i := List.length_drop
      have HP := Aside0.mk (show Calls Try.prog 18 #[.slice A1 (l.length - i) (c0 - i)] wr fun e' w' => Post18 wr x m e e' w' from by
        have q := rparse_c A1 (c0 - i) (l.drop i) (by omega) (by have := HC.out; omega) (Bytes.drop HBS.out i) x m e hp wr hd
        rw [hld] at q
        exact q)
      have hs1 : (0 : Int) ≤ (i : Int) := by omega
      have hs2 : (i : Int) ≤ (l.length : Int) := by omega
      by_cases he : e = 0
      · subst he
        rw [if_pos rfl] at hav
        obtain ⟨a1, a2, a3, a4, a5⟩ := again (Bytes.drop HBS.out i) hp
        rw [List.length_drop] at a3
        have HAV2 := Aside0.mk hav
        have HM := Aside0.mk (show 8 ≤ m ∧ m ≤ ((l.length - i : Nat) : Int) from ⟨a2, a3⟩)
        have HF := Aside0.mk hkf
        have e1 : wrap64 ((i : Int) + m) = (i : Int) + m := w64 (by omega) (by omega)
        clear hp hav hcb a1 a2 a3 a4 a5 hkf hd hld hA1
        go_upto_region 7 with (first | (go_at_call 18; (with_reducible refine HP.out.mono ?_); rintro e8 w9 ⟨v, rfl, hv, hb9⟩; obtain ⟨A2, c2, rfl, _⟩ := hv.form; have HX9 := Aside0.mk (hv.lower HBW.out.size); have HLL9 := Aside0.mk (HLL.out.below hb9); have HBW9 := Aside0.mk (below_step HBW.out hb9); clear hv hb9))
        obtain ⟨ss, hs1, hs2, hs3⟩ := HLL9.out
        go_wp2_with (first | (at_builtin; refine wpList_push (d := encS) rfl _ _ 34 22 _ 24 rfl Try.underlying34 info22 rfl w.heap.size u5 ss ⟨A2, x.length, c2⟩ rfl _ rfl (by simp) hs1 HBW9.out.size (by have := HXL.out; omega) (by decide) _ rfl ?_; intro v7 w7 h1 h2 h3; have HL2 := Aside0.mk (LC.push (y := ⟨A2, x.length, c2⟩) hs1 hs2 hs3 HX9.out h1 h2); have HBW2 := Aside0.mk (pw_below_grown HBW9.out _ HBW9.out.size h2 (fun k hk => (hs1.own k hk).1)); clear h1 h2 h3) | go_in)
        go_roundg f
        case measure => have := HF.out; omega
        case rel =>
          obtain ⟨n, hn⟩ : ∃ n : Nat, m = n := ⟨m.toNat, by have := HM.out; omega⟩
          have hm := HM.out
          subst hn
          refine ⟨i + n, xs ++ [x], by go_num, ⟨by have := HI.out; have := HF.out; omega⟩, ⟨by have q := HAV2.out; rw [Int.toNat_natCast] at q; exact ⟨by rw [List.append_assoc]; exact q.1, q.2⟩⟩, HL2, HBW2, ⟨by rw [List.length_append, List.length_singleton]; have := HXL.out; omega⟩⟩
      · rw [if_neg he] at hav
        obtain ⟨rfl, rfl⟩ := parse_err hp he
        rw [List.append_nil] at hav
        simp only [Prod.mk.injEq] at hav
        obtain ⟨rfl, rfl, rfl⟩ := hav
        have e1 : (e != 0) = true := by simpa using he
        clear hp hcb hkf he hd hld hA1
        go_wp2_with (first | (go_at_call 18; (with_reducible refine HP.out.mono ?_); rintro e8 w9 ⟨v, rfl, hv, hb9⟩; obtain ⟨A2, c2, rfl, _⟩ := hv.form; have HX9 := Aside0.mk (hv.lower HBW.out.size); have HLL9 := Aside0.mk (HLL.out.below hb9); have HBW9 := Aside0.mk (below_step HBW.out hb9); clear hv hb9))
        go_ret3
        exact ⟨_, rfl, HLL9.out, HBW9.out⟩
    · have hav := HAV.out
      have : allV l gk i = ([], i, 0) := by cases gk with
        | zero => rfl
        | succ f => unfold allV; rw [if_neg hlt]
      rw [this, List.append_nil] at hav
      simp only [Prod.mk.injEq] at hav
      obtain ⟨rfl, rfl, rfl⟩ := hav
      have d1 : decide ((i : Int) < (l.length : Int)) = false := decide_eq_false (by omega)
      have d1' : decide (i < l.length) = false := decide_eq_false hlt
      clear this
      go_wp2_with fail
      go_ret3
      exact ⟨_, rfl, HLL.out, HBW.out⟩
end Go.Proofs.Ytjpjlloimemcfaa.Frm
namespace Go.Proofs.Ytjpjlloimemcfaa.Frm
set_option linter.unusedVariables false
set_option linter.unusedSimpArgs false
open Go.RowKit Go.Proofs.Ytjpjlloimemcfaa.PA Go.Proofs.YtjpjlloimemcfaaW.PrintWords Go.Proofs.YtjpjlloimemcfaaW.PrintLast Go.Proofs.YtjpjlloimemcfaaW.PrintMore Go.Proofs.Ytjpjlloimemcfaa.Base Go.Proofs.Ytjpjlloimemcfaa.Var Go.Proofs.Ytjpjlloimemcfaa.Lst
attribute [local go_sem] max2_int min2_int max_two min_two max_three min_three max_four min_four
theorem C_of_ct {W : World} {b0 : Nat} {A : Option Addr} {n c : Nat} {xs : List Int} (h : Ct encB 5 W b0 (.slice A n c) xs) (hx : xs.length ≤ 100000) : Kd.C (Kd.int .u8) W A xs.length xs := by
  refine Kd.C_of_reads (enc := Value.int .u8) (d := (0 : Int)) (h1 := fun _ => rfl) ⟨rfl, by omega, fun h0 => ?_⟩
  obtain ⟨x, hx0⟩ : ∃ x, xs[0]? = some x := ⟨_, List.getElem?_eq_getElem h0⟩
  obtain ⟨g, o, rfl, _, _⟩ := h.at hx0
  refine ⟨_, rfl, fun j hj => ?_⟩
  obtain ⟨y, hy⟩ : ∃ y, xs[j]? = some y := ⟨_, List.getElem?_eq_getElem hj⟩
  obtain ⟨g', o', e, _, q⟩ := h.at hy
  cases e
  have q0 := q 0 _ rfl
  rw [Lst.add_at, show o + j = o + j * encB.sz + 0 from by rw [show encB.sz = 1 from rfl]; omega, q0]
  rw [List.getD_eq_getElem?_getD, hy]; rfl
theorem parse_len {l : List Int} (hb : Bytes l) {x : List Int} {m e : Int} (h : parseV l = (x, m, e)) : x.length ≤ 2048 := by
  by_cases he : e = 0
  · subst he; exact (again hb h).2.2.2.1
  · rw [(parse_err h he).1]; exact Nat.zero_le _
theorem one_len {l : List Int} (hb : Bytes l) {x : List Int} {e : Int} (h : oneV l = (x, e)) : x.length ≤ 2048 := by
  unfold oneV at h
  rcases hp : parseV l with ⟨y, m, f⟩
  rw [hp] at h
  dsimp only at h
  have := parse_len hb hp
  split at h
  · split at h <;> (obtain ⟨rfl, _⟩ := Prod.mk.inj h) <;> first | exact Nat.zero_le _ | exact this
  · obtain ⟨rfl, _⟩ := Prod.mk.inj h; exact Nat.zero_le _
set_option maxHeartbeats 32000000 in
theorem parses_law (A0 : Option Addr) (c0 : Nat) (l : List Int) (w : World) (hb : Kd.C (Kd.int .u8) w A0 l.length l) (hc0 : l.length ≤ c0) (hbs : Bytes l) : Calls Try.prog 7 #[.slice A0 l.length c0] w fun e w' => e = .returned (.bool true) ∧ Below w.heap.size w w' := by
  have HA := Aside0.mk (fun w => garboardlaw04_alive.calls true w alive_all)
  by_cases hlong : 3000 < l.length
  · have d0 : decide ((3000 : Int) < (l.length : Int)) = true := decide_eq_true (by omega)
    have d0' : decide (3000 < l.length) = true := decide_eq_true hlong
    clear hb hc0 hbs hlong
    go_enter Try.func7, Try.ntmps7
    go_wp2_with (first | (go_at_call 9; (with_reducible refine (HA.out _).mono ?_); rintro e w9 ⟨rfl, hb⟩; have HB := Aside0.mk hb; clear hb))
    go_ret
    exact ⟨rfl, HB.out⟩
  · have d0 : decide ((3000 : Int) < (l.length : Int)) = false := decide_eq_false (by omega)
    have d0' : decide (3000 < l.length) = false := decide_eq_false hlong
    rcases hp : parseV l with ⟨x, m, e1⟩
    rcases ho : oneV l with ⟨y, e2⟩
    rcases ha : allV l l.length 0 with ⟨xss, to_, e0⟩
    have hxs := (all_lay hbs l.length 0 (Nat.zero_le _)).2.2.2
    rw [ha] at hxs
    have LX := parse_len hbs hp
    have LY := one_len hbs ho
    obtain ⟨K1, hK1⟩ := parse_ev l (by omega) hbs
    have f1 := hK1 K1 (Nat.le_refl _)
    rw [hp] at f1
    obtain ⟨K2, hK2⟩ := one_ev l (by omega) hbs
    have f2 := hK2 K2 (Nat.le_refl _)
    rw [ho] at f2
    have HXS := Aside0.mk hxs; have HLX := Aside0.mk LX; have HLY := Aside0.mk LY
    have HP1 := Aside0.mk (fun W (hw : Below w.heap.size w W) => frame_Parse.calls K1 A0 c0 l x m e1 W (Kd.C_below hb hw) hc0 f1)
    have HP2 := Aside0.mk (fun W (hw : Below w.heap.size w W) => rparse_c A0 c0 l (by omega) hc0 hbs x m e1 hp W (Kd.C_below hb hw))
    have HP3 := Aside0.mk (fun W (hw : Below w.heap.size w W) => frame_One.calls K2 A0 c0 l y e2 W (Kd.C_below hb hw) hc0 f2)
    have HP4 := Aside0.mk (fun W (hw : Below w.heap.size w W) => rone_c A0 c0 l (by omega) hc0 hbs y e2 ho W (Kd.C_below hb hw))
    have HP5 := Aside0.mk (fun W (hw : Below w.heap.size w W) => all_c A0 c0 l (by omega) hbs hc0 xss to_ e0 ha W (Kd.C_below hb hw))
    have HP6 := Aside0.mk (fun W (hw : Below w.heap.size w W) => rall_c A0 c0 l (by omega) hbs hc0 xss to_ e0 ha W (Kd.C_below hb hw))
    have HXN := Aside0.mk (show xss.length ≤ 3000 from by
      have hal := all_lay hbs l.length 0 (Nat.zero_le _)
      rw [ha] at hal
      dsimp only at hal
      obtain ⟨_, hto, hfl, _⟩ := hal
      rw [List.drop_zero, Nat.sub_zero] at hfl
      have q := flat_ge xss; rw [hfl, List.length_take] at q; omega)
    clear hb hc0 hbs hlong hp ho ha hxs LX LY hK1 f1 hK2 f2
    go_enter Try.func7, Try.ntmps7
    go_upto_region 9 with (first | (go_at_call 11; (with_reducible refine (HP1.out _ (Below.refl _ _)).mono ?_); rintro e w3 ⟨v3, rfl, hR, hb⟩; obtain ⟨A3, c3, rfl, _, _⟩ := (ls_of hR).form; have X3 := Aside0.mk (ls_of hR); have B3 := Aside0.mk hb; clear hR hb) | (go_at_call 18; (with_reducible refine (HP2.out _ B3.out).mono ?_); rintro e w4 ⟨v4, rfl, hR, hb⟩; obtain ⟨A4, c4, rfl, _⟩ := hR.form; have X4 := Aside0.mk hR; have S4 := Aside0.mk hb; have B4 := Aside0.mk (below_step B3.out hb); clear hR hb) | (go_at_call 12; (with_reducible refine (HP3.out _ B4.out).mono ?_); rintro e w5 ⟨v5, rfl, hR, hb⟩; obtain ⟨A5, c5, rfl, _, _⟩ := (ls_of hR).form; have X5 := Aside0.mk (ls_of hR); have S5 := Aside0.mk hb; have B5 := Aside0.mk (below_step B4.out hb); clear hR hb) | (go_at_call 19; (with_reducible refine (HP4.out _ B5.out).mono ?_); rintro e w6 ⟨v6, rfl, hR, hb⟩; obtain ⟨A6, c6, rfl, _⟩ := hR.form; have X6 := Aside0.mk hR; have S6 := Aside0.mk hb; have B6 := Aside0.mk (below_step B5.out hb); clear hR hb) | (go_at_call 14; (with_reducible refine (HP5.out _ B6.out).mono ?_); rintro e w7 ⟨v7, rfl, hR, hb⟩; obtain ⟨A7, c7, rfl, _⟩ := hR.form; have X7 := Aside0.mk hR; have S7 := Aside0.mk hb; have B7 := Aside0.mk (below_step B6.out hb); clear hR hb) | (go_at_call 20; (with_reducible refine (HP6.out _ B7.out).mono ?_); rintro e w8 ⟨v8, rfl, hR, hb⟩; obtain ⟨A8, c8, rfl, _⟩ := hR.form; have X8 := Aside0.mk hR; have S8 := Aside0.mk hb; have B8 := Aside0.mk (below_step B7.out hb); clear hR hb))
    have T3 := ((((X3.out.below S4.out).below S5.out).below S6.out).below S7.out).below S8.out
    have T4 := (((X4.out.below S5.out).below S6.out).below S7.out).below S8.out
    have T5 := ((X5.out.below S6.out).below S7.out).below S8.out
    have T6 := (X6.out.below S7.out).below S8.out
    have T7 := X7.out.below S8.out
    have HT7 := Aside0.mk T7
    have HT8 := Aside0.mk X8.out
    have g3 : (convert 22 9 (.slice A3 x.length c3)).run Try.prog w8 = .ok (.string (strOfNums x)) w8 := Kd.C_string Try.underlying22 Try.underlying5 Try.underlying9 (C_of_ls T3).2.2
    have g4 : (convert 22 9 (.slice A4 x.length c4)).run Try.prog w8 = .ok (.string (strOfNums x)) w8 := Kd.C_string Try.underlying22 Try.underlying5 Try.underlying9 (C_of_ct T4 (by have := HLX.out; omega))
    have g5 : (convert 22 9 (.slice A5 y.length c5)).run Try.prog w8 = .ok (.string (strOfNums y)) w8 := Kd.C_string Try.underlying22 Try.underlying5 Try.underlying9 (C_of_ls T5).2.2
    have g6 : (convert 22 9 (.slice A6 y.length c6)).run Try.prog w8 = .ok (.string (strOfNums y)) w8 := Kd.C_string Try.underlying22 Try.underlying5 Try.underlying9 (C_of_ct T6 (by have := HLY.out; omega))
    obtain ⟨sx, hsx⟩ : ∃ s, strOfNums x = s := ⟨_, rfl⟩
    obtain ⟨sy, hsy⟩ : ∃ s, strOfNums y = s := ⟨_, rfl⟩
    rw [hsx] at g3 g4
    rw [hsy] at g5 g6
    clear hsx hsy T3 T4 T5 T6 T7 X3 X4 X5 X6 X7 X8
    have fx : (sx.toList != sx.toList) = false := by simp
    have fy : (sy.toList != sy.toList) = false := by simp
    go_wp2_with fail
    go_loopw [104] (fun vi wr => ∃ (i : Nat), vi = .int .i64 i ∧ Aside0 (i ≤ xss.length) ∧ Aside0 (Below w8.heap.size w8 wr)) (fun vi _ => (xss.length - intOf vi).toNat)
    case atStart => exact ⟨0, rfl, ⟨Nat.zero_le _⟩, ⟨Below.refl _ _⟩⟩
    case round =>
      obtain ⟨i, rfl, HI, HBW⟩ := hrel
      have l1 := HI.out
      have l3 := HXN.out
      by_cases hlt : i < xss.length
      · obtain ⟨z, hz⟩ : ∃ z, xss[i]? = some z := ⟨_, List.getElem?_eq_getElem hlt⟩
        obtain ⟨ss, hs1, hs2, hs3⟩ := HT7.out.below HBW.out
        obtain ⟨s, hs⟩ : ∃ s, ss[i]? = some s := ⟨_, List.getElem?_eq_getElem (by omega)⟩
        have hrow := hs3 i s z hs hz
        obtain ⟨gs, hgA, _, _, hcs, _⟩ := hs1.at hs
        have ks := hcs 0 s.v rfl
        rw [show i * encS.sz + 0 = i from Nat.mul_one i] at ks
        obtain ⟨sn, hsc, hC⟩ := C_of_ls hrow
        obtain ⟨sA, sn', sc⟩ := s
        unfold Sl.v at ks
        dsimp only at ks sn hC
        subst sn
        subst hgA
        obtain ⟨ts, ht1, ht2, ht3⟩ := HT8.out.below HBW.out
        obtain ⟨t, ht⟩ : ∃ t, ts[i]? = some t := ⟨_, List.getElem?_eq_getElem (by omega)⟩
        have trow := ht3 i t z ht hz
        obtain ⟨gt, hgB, _, _, hct, _⟩ := ht1.at ht
        have kt := hct 0 t.v rfl
        rw [show i * encS.sz + 0 = i from Nat.mul_one i] at kt
        obtain ⟨tA, tn, tc⟩ := t
        unfold Sl.v at kt trow
        dsimp only at kt trow
        obtain ⟨A', c', e', _⟩ := trow.form
        injection e' with q1 q2 q3
        subst q2
        subst hgB
        have g1 : (convert 22 9 (.slice sA z.length sc)).run Try.prog (World.drew wr) = .ok (.string (strOfNums z)) (World.drew wr) := Kd.C_string Try.underlying22 Try.underlying5 Try.underlying9 (Kd.C_drew hC)
        have g2 : (convert 22 9 (.slice tA z.length tc)).run Try.prog (World.drew wr) = .ok (.string (strOfNums z)) (World.drew wr) := Kd.C_string Try.underlying22 Try.underlying5 Try.underlying9 (Kd.C_drew (C_of_ct trow (by have := (HXS.out z (List.mem_of_getElem? hz)).1; omega)))
        obtain ⟨sz, hsz⟩ : ∃ sz, strOfNums z = sz := ⟨_, rfl⟩
        rw [hsz] at g1 g2
        have ff : (sz.toList != sz.toList) = false := by simp
        obtain ⟨nz, hnz⟩ : ∃ nz, z.length = nz := ⟨_, rfl⟩
        rw [hnz] at g1 g2 ks kt
        have ks : (World.drew wr).cell? ⟨gs, i, none⟩ = some (.slice sA nz sc) := ks
        have kt : (World.drew wr).cell? ⟨gt, i, none⟩ = some (.slice tA nz tc) := kt
        clear hsz hnz hz hs1 hs2 hs3 hs hrow hcs hC hsc ht1 ht2 ht3 ht trow hct q1 q3
        go_upto_region 14 with (fail)
        refine start_ (n := 11) (S := fun w' => w'.cell? ⟨gs, i, none⟩ = some (.slice sA nz sc) ∧ w'.cell? ⟨gt, i, none⟩ = some (.slice tA nz tc) ∧ (convert 22 9 (.slice sA nz sc)).run Try.prog w' = .ok (.string sz) w' ∧ (convert 22 9 (.slice tA nz tc)).run Try.prog w' = .ok (.string sz) w') (ds := []) #[false, false, false, false, false, false, false, false, false, false, false] (by kernel_rfl) rfl rfl ⟨ks, kt, g1, g2⟩ (fun hHeld => ?_)
        refine pure_ (i := 0) (N := some 107) (v := ?_) (a' := ?_) #[true, false, false, false, false, false, false, false, false, false, false] rfl rfl (by kernel_rfl) (fun _ _ _ h => h) (Or.inl ⟨by rfl, ?_⟩) ?_ ?_
        rotate_left
        · intro w'
          go_simp
          with_reducible rfl
        rotate_left
        · simp only [Act.put, List.setIfInBounds_toArray, List.set_cons_zero, List.set_cons_succ, i64_w, i32_w]
          rfl
        refine pure_ (i := 1) (N := some 108) (v := ?_) (a' := ?_) #[true, true, false, false, false, false, false, false, false, false, false] rfl rfl (by kernel_rfl) (fun _ _ _ h => h) (Or.inl ⟨by rfl, ?_⟩) ?_ ?_
        rotate_left
        · intro w'
          go_simp
          with_reducible rfl
        rotate_left
        · simp only [Act.put, List.setIfInBounds_toArray, List.set_cons_zero, List.set_cons_succ, i64_w, i32_w]
          rfl
        refine pure_ (i := 2) (N := some 109) (v := ?_) (a' := ?_) #[true, true, true, false, false, false, false, false, false, false, false] rfl rfl (by kernel_rfl) (fun _ _ _ h => h) (Or.inl ⟨by rfl, ?_⟩) ?_ ?_
        rotate_left
        · intro w'
          go_simp
          with_reducible rfl
        rotate_left
        · simp only [Act.put, List.setIfInBounds_toArray, List.set_cons_zero, List.set_cons_succ, i64_w, i32_w]
          rfl
        refine pure_ (i := 5) (N := some 112) (v := ?_) (a' := ?_) #[true, true, true, false, false, true, false, false, false, false, false] rfl rfl (by kernel_rfl) (fun _ _ _ h => h) (Or.inl ⟨by rfl, ?_⟩) ?_ ?_
        rotate_left
        · intro w'
          go_simp
          with_reducible rfl
        rotate_left
        · simp only [Act.put, List.setIfInBounds_toArray, List.set_cons_zero, List.set_cons_succ, i64_w, i32_w]
          rfl
        refine pure_ (i := 6) (N := some 113) (v := ?_) (a' := ?_) #[true, true, true, false, false, true, true, false, false, false, false] rfl rfl (by kernel_rfl) (fun _ _ _ h => h) (Or.inl ⟨by rfl, ?_⟩) ?_ ?_
        rotate_left
        · intro w'
          go_simp
          with_reducible rfl
        rotate_left
        · simp only [Act.put, List.setIfInBounds_toArray, List.set_cons_zero, List.set_cons_succ, i64_w, i32_w]
          rfl
        refine pure_ (i := 7) (N := some 114) (v := ?_) (a' := ?_) #[true, true, true, false, false, true, true, true, false, false, false] rfl rfl (by kernel_rfl) (fun _ _ _ h => h) (Or.inl ⟨by rfl, ?_⟩) ?_ ?_
        rotate_left
        · intro w'
          go_simp
          with_reducible rfl
        rotate_left
        · simp only [Act.put, List.setIfInBounds_toArray, List.set_cons_zero, List.set_cons_succ, i64_w, i32_w]
          rfl
        refine take_ (i := 3) (N := some 110) (v := ?_) (a' := ?_) #[true, true, true, true, false, true, true, true, false, false, false] rfl rfl (by kernel_rfl) (fun _ _ _ h => h) (Or.inl ⟨by rfl, ?_⟩) hHeld ?_ ?_
        rotate_left
        · rintro w' ⟨s0, s1, s2, s3⟩
          go_simp
          with_reducible rfl
        rotate_left
        · simp only [Act.put, List.setIfInBounds_toArray, List.set_cons_zero, List.set_cons_succ, i64_w, i32_w]
          rfl
        refine take_ (i := 4) (N := some 111) (v := ?_) (a' := ?_) #[true, true, true, true, true, true, true, true, false, false, false] rfl rfl (by kernel_rfl) (fun _ _ _ h => h) (Or.inl ⟨by rfl, ?_⟩) hHeld ?_ ?_
        rotate_left
        · rintro w' ⟨s0, s1, s2, s3⟩
          go_simp
          with_reducible rfl
        rotate_left
        · simp only [Act.put, List.setIfInBounds_toArray, List.set_cons_zero, List.set_cons_succ, i64_w, i32_w]
          rfl
        refine take_ (i := 8) (N := some 115) (v := ?_) (a' := ?_) #[true, true, true, true, true, true, true, true, true, false, false] rfl rfl (by kernel_rfl) (fun _ _ _ h => h) (Or.inl ⟨by rfl, ?_⟩) hHeld ?_ ?_
        rotate_left
        · rintro w' ⟨s0, s1, s2, s3⟩
          go_simp
          with_reducible rfl
        rotate_left
        · simp only [Act.put, List.setIfInBounds_toArray, List.set_cons_zero, List.set_cons_succ, i64_w, i32_w]
          rfl
        refine take_ (i := 9) (N := some 116) (v := ?_) (a' := ?_) #[true, true, true, true, true, true, true, true, true, true, false] rfl rfl (by kernel_rfl) (fun _ _ _ h => h) (Or.inl ⟨by rfl, ?_⟩) hHeld ?_ ?_
        rotate_left
        · rintro w' ⟨s0, s1, s2, s3⟩
          go_simp
          with_reducible rfl
        rotate_left
        · simp only [Act.put, List.setIfInBounds_toArray, List.set_cons_zero, List.set_cons_succ, i64_w, i32_w]
          rfl
        refine pure_ (i := 10) (N := some 117) (v := ?_) (a' := ?_) #[true, true, true, true, true, true, true, true, true, true, true] rfl rfl (by kernel_rfl) (fun _ _ _ h => h) (Or.inl ⟨by rfl, ?_⟩) ?_ ?_
        rotate_left
        · intro w'
          go_simp
          with_reducible rfl
        rotate_left
        · simp only [Act.put, List.setIfInBounds_toArray, List.set_cons_zero, List.set_cons_succ, i64_w, i32_w]
          rfl
        refine done_ (by kernel_rfl) ?_
        go_wp2_with fail
        go_roundw
        case rel => exact ⟨i + 1, by go_num, ⟨by omega⟩, ⟨below_drew HBW.out⟩⟩
        case measure => simp [intOf]; omega
      · obtain rfl : i = xss.length := by omega
        go_wp2_with (first | (go_at_call 9; (with_reducible refine (HA.out _).mono ?_); rintro e w9 ⟨rfl, hb⟩; have HB := Aside0.mk hb; clear hb))
        go_ret
        exact ⟨rfl, below_step (below_step B8.out HBW.out) HB.out⟩
end Go.Proofs.Ytjpjlloimemcfaa.Frm
