/- The document's table of quotas: what lies, Later; no condition but those that stand in each. -/
import Derived.Test.YtdojihocnkakjaaQuoP
import Derived.Test.YtdojihocnkakjaaLst
namespace Go.Proofs.Ytdojihocnkakjaa.Quo
set_option linter.unusedVariables false
set_option linter.unusedSimpArgs false
open Go.RowKit Go.Proofs.Ytdojihocnkakjaa.PA Go.Proofs.YtdojihocnkakjaaW.PrintWords Go.Proofs.YtdojihocnkakjaaW.PrintLast Go.Proofs.YtdojihocnkakjaaW.PrintMore Go.Proofs.Ytdojihocnkakjaa.Tab Go.Proofs.Ytdojihocnkakjaa.SatMul Go.Proofs.Ytdojihocnkakjaa.Lst
attribute [local go_sem] max2_int min2_int max_two min_two max_three min_three max_four min_four
structure Rb where
  s : Int
  f : Int
def encB : En Rb := ⟨fun b => [.int .u64 b.s, .int .i64 b.f], 2, fun _ => rfl, fun x u hu => by simp at hu; rcases hu with rfl | rfl <;> rfl, by decide⟩
structure RS where
  room : Int
  most : Int
  rate : Int
  T : Int
  l : List Rb
def rcells (r : RS) (v : Value) : Array Value := #[.int .i64 r.room, .int .i64 r.most, .int .i64 r.rate, .int .i64 r.T, v]
def IsR (w0 W : World) (g : Nat) (v : Value) (r : RS) : Prop := W.heap[g]? = some (.cells (rcells r v) 45 (0, 0)) ∧ Ls encB 66 W w0.heap.size v r.l ∧ w0.heap.size ≤ g
section
variable {w0 W W' : World} {g : Nat} {v : Value} {r : RS}
theorem IsR.c0 (h : IsR w0 W g v r) : W.cell? ⟨g, 0, none⟩ = some (.int .i64 r.room) := blk_cell h.1 0
theorem IsR.c1 (h : IsR w0 W g v r) : W.cell? ⟨g, 1, none⟩ = some (.int .i64 r.most) := blk_cell h.1 1
theorem IsR.c2 (h : IsR w0 W g v r) : W.cell? ⟨g, 2, none⟩ = some (.int .i64 r.rate) := blk_cell h.1 2
theorem IsR.c3 (h : IsR w0 W g v r) : W.cell? ⟨g, 3, none⟩ = some (.int .i64 r.T) := blk_cell h.1 3
theorem IsR.c4 (h : IsR w0 W g v r) : W.cell? ⟨g, 4, none⟩ = some v := blk_cell h.1 4
theorem IsR.free (h : IsR w0 W g v r) (k : Nat) : W.frozen? ⟨g, k, none⟩ = false := blk_frozen h.1 k
theorem IsR.ls (h : IsR w0 W g v r) : Ls encB 66 W w0.heap.size v r.l := h.2.1
theorem IsR.ge (h : IsR w0 W g v r) : w0.heap.size ≤ g := h.2.2
theorem IsR.lt (h : IsR w0 W g v r) : g < W.heap.size := blk_lt h.1
theorem IsR.below (h : IsR w0 W g v r) (hb : Below W.heap.size W W') : IsR w0 W' g v r := ⟨blk_below h.1 hb, h.2.1.below hb, h.2.2⟩
theorem IsR.drew (h : IsR w0 W g v r) (n : Nat) : IsR w0 (W.drewN n) g v r := h
theorem IsR.ne (h : IsR w0 W g v r) : some g ≠ v.ownBlock := h.2.1.ne h.1 (by decide)
theorem IsR.tick (h : IsR w0 W g v r) (n : Int) : IsR w0 (W.setCell ⟨g, 3, none⟩ (.int .i64 n)) g v { r with T := n } :=
  ⟨blk_set h.1 3 _, h.2.1.far (p := ⟨g, 3, none⟩) h.ne _, h.2.2⟩
theorem IsR.lay {v' : Value} {l' : List Rb} (h : IsR w0 W g v r) (hl : Ls encB 66 W w0.heap.size v' l') : IsR w0 (W.setCell ⟨g, 4, none⟩ v') g v' { r with l := l' } :=
  ⟨blk_set h.1 4 _, hl.far (p := ⟨g, 4, none⟩) (hl.ne h.1 (by decide)) _, h.2.2⟩
/-- the tables keep out of each other's way -/
theorem IsT.keepR {gt b : Nat} {s : TS} (hT : IsT w0 W gt b s) (h : IsR w0 W g v r) (hk : KeepBut W W' g v.ownBlock) : IsT w0 W' gt b s :=
  hT.keep hk (blk_ne hT.1 h.1 (by decide)) (h.2.1.ne hT.1 (by decide)) (fun e => by have := hT.map.ne h.1; exact this e.symm) (by
    obtain ⟨D, ⟨es, cl, hb, _⟩, _⟩ := hT.map
    exact h.2.1.neMap hb)
theorem IsR.keepT {gt b : Nat} {s : TS} (h : IsR w0 W g v r) (hT : IsT w0 W gt b s) (hk : KeepBut W W' gt (some b)) : IsR w0 W' g v r := by
  have n1 : some b ≠ v.ownBlock := by
    obtain ⟨D, ⟨es, cl, hb, _⟩, _⟩ := hT.map
    exact h.2.1.neMap hb
  exact ⟨hk.blk h.1 (blk_ne h.1 hT.1 (by decide)) (by simpa using hT.map.ne h.1), h.2.1.keep hk (fun e => h.2.1.ne hT.1 (by decide) e.symm) (.inr fun e => n1 e.symm), h.2.2⟩
end
abbrev PostR (w0 w : World) (g : Nat) (v : Value) (r' : RS) (w' : World) : Prop := ∃ v', IsR w0 w' g v' r' ∧ Below w0.heap.size w0 w' ∧ KeepBut w w' g v.ownBlock ∧ (v'.ownBlock = v.ownBlock ∨ v'.ownBlock = none ∨ ∃ b, v'.ownBlock = some b ∧ w.heap.size ≤ b)
/-! ### Later, plain -/
def rd_ (r : RS) (now : Int) : Int := if r.T < now ∧ now ≤ 1099511627776 then now - r.T else 0
def rgrow (r : RS) (d f : Int) : Int := if 0 < r.rate ∧ r.most < d then r.most else mn (f + d * r.rate) r.most
def rkeep (r : RS) (d : Int) (l : List Rb) : List Rb := l.filterMap fun b => if rgrow r d b.f < r.most then some ⟨b.s, rgrow r d b.f⟩ else none
def rlaterV (r : RS) (now : Int) : RS := { r with T := r.T + rd_ r now, l := rkeep r (rd_ r now) r.l }
structure OkR (r : RS) : Prop where
  room1 : 1 ≤ r.room
  room2 : r.room ≤ 1024
  most1 : 1 ≤ r.most
  most2 : r.most ≤ 4294967296
  rate1 : 0 ≤ r.rate
  rate2 : r.rate ≤ 1048576
  T1 : 0 ≤ r.T
  T2 : r.T ≤ 1099511627776
  fills : ∀ b ∈ r.l, 0 ≤ b.f ∧ b.f ≤ r.most
  len : (r.l.length : Int) ≤ r.room
theorem rkeep_take {r : RS} {d : Int} {l : List Rb} {i : Nat} {b : Rb} (h : l[i]? = some b) : rkeep r d (l.take (i + 1)) = rkeep r d (l.take i) ++ (if rgrow r d b.f < r.most then [⟨b.s, rgrow r d b.f⟩] else []) := by
  obtain ⟨hi, rfl⟩ := List.getElem?_eq_some_iff.1 h
  unfold rkeep
  rw [List.take_succ_eq_append_getElem hi, List.filterMap_append]
  congr 1
  rw [List.filterMap_cons, List.filterMap_nil]
  split <;> simp_all
theorem rkeep_len (r : RS) (d : Int) (l : List Rb) : (rkeep r d l).length ≤ l.length := List.length_filterMap_le _ _
theorem zeroRb (w : World) : (zeroValue 66).run Try.prog w = .ok (.agg #[.int .u64 0, .int .i64 0]) w := by kernel_rfl
end Go.Proofs.Ytdojihocnkakjaa.Quo
