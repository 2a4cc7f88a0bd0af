/- Slices of the call's own as lists of records: appending, as it runs (for regions that draw); no condition but those that stand in each. -/
import Derived.Test.YtbfmbjkalldonaaLst
import Derived.Laws.OwnMore
namespace Go.Proofs.Ytbfmbjkalldonaa.Lst
set_option linter.unusedVariables false
set_option linter.unusedSimpArgs false
open Go.RowKit Go.Proofs.YtbfmbjkalldonaaW.PrintWords Go.Proofs.YtbfmbjkalldonaaW.PrintLast Go.Proofs.YtbfmbjkalldonaaW.PrintMore
section
variable {α : Type} {d : En α} {P : Program} {W : World}
theorem cat_run (t ty e : TypeId) (z : Value) (bytes : Nat) (ht : P.underlying t = some (.slice e)) (hinfo : (P.info? e).map (fun i => (i.zero, i.size, i.bytes)) = some (some z, d.sz, bytes)) (hz : z.cells.size = d.sz)
    (base : Nat) (v : Value) (l m : List α) (ad : Addr) (c : Nat) (hm : ∀ j u, (m.flatMap d.enc)[j]? = some u → W.cell? (ad.add j) = some u)
    (HO : Ls d e W base v l) (hbase : base ≤ W.heap.size) (hl : (l.length + m.length) * bytes ≤ 140737488355328) (hb0 : 0 < bytes) :
    ∃ v1 w1, (Builtin.append_ #[t, t] ty #[v, .slice (some ad) m.length c]).run P W = .ok v1 w1 ∧ Ls d e w1 base v1 (l ++ m) ∧ W.grownBy w1 v.ownBlock ∧ (v1.ownBlock = v.ownBlock ∨ v1.ownBlock = some W.heap.size) := by
  obtain ⟨i0, hi, hzz⟩ := Option.map_eq_some_iff.1 hinfo
  simp only [Prod.mk.injEq] at hzz
  obtain ⟨hz0, hz1, hz2⟩ := hzz
  have hlen : l.length + m.length ≤ 140737488355328 := Nat.le_trans (Nat.le_mul_of_pos_right _ hb0) hl
  obtain ⟨v1, w1, hr, hown, hg, _, hat⟩ := run_append_own_at (P := P) W base t ty e i0 z d.sz bytes ht hi hz0 hz1 hz2 hz d.pos v l.length (l.flatMap d.enc) HO ad m.length c (m.flatMap d.enc) (flat_len d m) hm (flat_one d m) (by simp only [maxLen]; omega) hl hbase
  refine ⟨v1, w1, hr, ?_, hg, hat⟩
  show w1.ownsRow base e d.sz v1 (l ++ m).length ((l ++ m).flatMap d.enc)
  rw [List.length_append, List.flatMap_append]
  exact hown
theorem copy_run (t ty e : TypeId) (z : Value) (bytes : Nat) (ht : P.underlying t = some (.slice e)) (hinfo : (P.info? e).map (fun i => (i.zero, i.size, i.bytes)) = some (some z, d.sz, bytes)) (hz : z.cells.size = d.sz)
    (base : Nat) (v : Value) (l : List α) (HO : Ls d e W base v l) (hl : l.length * bytes ≤ 140737488355328) (hb0 : 0 < bytes) :
    ∃ v1 w1, (Builtin.append_ #[t, t] ty #[.slice none 0 0, v]).run P W = .ok v1 w1 ∧ Ls d e w1 W.heap.size v1 l ∧ W.grownBy w1 none ∧ (v1.ownBlock = none ∨ v1.ownBlock = some W.heap.size) := by
  rcases HO.2 with ⟨rfl, h0⟩ | ⟨g, cap, cur, rfl, hb, hg, hc, hm, _⟩
  · obtain rfl : l = [] := List.length_eq_zero_iff.1 h0
    obtain ⟨i0, hi, hzz⟩ := Option.map_eq_some_iff.1 hinfo
    exact ⟨_, W, run_append_owned_none (P := P) (w := W) W.heap.size t ty e i0 d.sz ht hi (.slice none 0 0) 0 [] (World.ownsRow_nil ..), Ls.nil d e W _, World.grownBy.refl _ _, .inl rfl⟩
  · obtain ⟨v1, w1, h1, h2, h3, h4⟩ := cat_run (d := d) (P := P) (W := W) t ty e z bytes ht hinfo hz W.heap.size (.slice none 0 0) [] l ⟨g, 0, none⟩ cap (fun j u hu => World.ownsRow.cells HO (g := g) rfl j u hu) (Ls.nil d e W _) (Nat.le_refl _) (by simpa using hl) hb0
    exact ⟨v1, w1, h1, h2, h3, h4⟩
theorem push_run (t ty e : TypeId) (z : Value) (bytes : Nat) (ht : P.underlying t = some (.slice e)) (hinfo : (P.info? e).map (fun i => (i.zero, i.size, i.bytes)) = some (some z, d.sz, bytes)) (hz : z.cells.size = d.sz)
    (base : Nat) (v : Value) (l : List α) (y : α) (nb : Nat) (hnb : nb = W.heap.size) (C : Array Value) (hC : C = (d.enc y).toArray)
    (HO : Ls d e W base v l) (hbase : base ≤ W.heap.size) (hl : (l.length + 1) * bytes ≤ 140737488355328) (hb0 : 0 < bytes) :
    ∃ v1 w1, (Builtin.append_ #[t, t] ty #[v, .slice (some ⟨nb, 0, none⟩) 1 1]).run P (W.alloc (.cells C e)) = .ok v1 w1 ∧ Ls d e w1 base v1 (l ++ [y]) ∧ W.grownBy w1 v.ownBlock ∧ (v1.ownBlock = v.ownBlock ∨ ∃ b, v1.ownBlock = some b ∧ W.heap.size ≤ b) := by
  subst hnb hC
  have hb := below_alloc (Below.refl W.heap.size W) (.cells (d.enc y).toArray e)
  have hn : (W.alloc (.cells (d.enc y).toArray e)).heap[W.heap.size]? = some (.cells (d.enc y).toArray e (0, 0)) := blk_new _ _
  obtain ⟨v1, w1, h1, h2, h3, h4⟩ := cat_run (d := d) (P := P) (W := W.alloc (.cells (d.enc y).toArray e)) t ty e z bytes ht hinfo hz base v l [y] ⟨W.heap.size, 0, none⟩ 1 (fun j u hu => by
      rw [add_plain]
      rw [show ([y].flatMap d.enc) = d.enc y by simp] at hu
      refine (blk_cell hn j).trans ?_
      rw [List.getElem?_toArray]
      exact hu) (HO.below hb) (Nat.le_trans hbase hb.size) (by simpa using hl) hb0
  refine ⟨v1, w1, h1, h2, World.grownBy.trans (World.grownBy_alloc W _ _) h3, ?_⟩
  rcases h4 with h4 | h4
  · exact .inl h4
  · exact .inr ⟨_, h4, hb.size⟩
end
end Go.Proofs.Ytbfmbjkalldonaa.Lst
