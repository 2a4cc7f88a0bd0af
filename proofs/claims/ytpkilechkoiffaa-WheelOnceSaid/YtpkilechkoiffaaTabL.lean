/- A map of whole numbers by whole numbers, as a list in no order: what lies, looking up, laying in, striking, counting; no condition but those that stand in each. -/
import Derived.Test.YtpkilechkoiffaaBase
import Derived.Test.YtpkilechkoiffaaProg
import Derived.Maps.RangeWalk
import Derived.Maps.OwnSet
import Derived.Lib.SlMapFilter
import Derived.WalkSpells
import Derived.LoopTactic
import Derived.Deep.LoopGhost
import Derived.Shelf.Abstract
import Derived.OwnWalk
import Derived.Maps.AppendAt
namespace Go.Proofs.Ytpkilechkoiffaa.TabL
set_option linter.unusedVariables false
set_option linter.unusedSimpArgs false
open Go.RowKit Go.Proofs.YtpkilechkoiffaaW.PrintWords Go.Proofs.YtpkilechkoiffaaW.PrintLast Go.Proofs.YtpkilechkoiffaaW.PrintMore
open Go.Maps (Keyed int_keyed)
structure Bk where
  key : Int
  x : Int
def rec2 (x : Int) : Value := .int .u64 x
abbrev DW := DataW Unit
def datX (x : Int) : DW := .lit (.int .u64 x)
def RB : Value → Option (DW × List MemPlace)
  | .int .u64 x => some (datX x, [])
  | _ => none
theorem RB_mk (x : Int) : RB (rec2 x) = some (datX x, []) := rfl
theorem RB_inv {v : Value} {z : DW × List MemPlace} (h : RB v = some z) : ∃ x, v = rec2 x ∧ z = (datX x, []) := by
  unfold RB at h
  split at h
  · rename_i x
    injection h with h
    exact ⟨x, rfl, h.symm⟩
  · cases h
theorem datX_inj {x x' : Int} (h : datX x = datX x') : x = x' := by
  unfold datX at h
  injection h with h
  injection h
theorem law : Keyed Try.prog 3 := int_keyed Try.underlying3
def ent (b : Bk) : Lit × DW := (.int .i64 b.key, datX b.x)
def RelD (D : DW) (l : List Bk) : Prop := ∃ es, D = .map es ∧ es.Perm (l.map ent)
def MapIs (W : World) (b : Nat) (l : List Bk) : Prop := ∃ D, W.ownsMap Try.prog 3 RB b l.length D ∧ RelD D l
theorem owns_tight {W : World} {b n : Nat} {D : DW} (h : W.ownsMap Try.prog 3 RB b n D) : W.ownsMap Try.prog 3 RB b (Maps.size D) D := by
  obtain ⟨es, clock, hb, F, hs, hD⟩ := h
  refine ⟨es, clock, hb, F, ?_, hD⟩
  rw [hD]
  simp [Maps.size, length_sorted]
theorem RelD.size {D : DW} {l : List Bk} (h : RelD D l) : Maps.size D = l.length := by
  obtain ⟨es, rfl, hp⟩ := h
  show es.length = _
  rw [hp.length_eq, List.length_map]
theorem MapIs.of {W : World} {b n : Nat} {D : DW} {l : List Bk} (h : W.ownsMap Try.prog 3 RB b n D) (r : RelD D l) : MapIs W b l := ⟨D, by rw [← r.size]; exact owns_tight h, r⟩
theorem MapIs.perm {W : World} {b : Nat} {l l' : List Bk} (h : MapIs W b l) (hp : l.Perm l') : MapIs W b l' := by
  obtain ⟨D, h, es, rfl, hq⟩ := h
  exact .of h ⟨es, rfl, hq.trans (hp.map ent)⟩
theorem MapIs.kept {W W' : World} {b : Nat} {l : List Bk} {row : Option Nat} (h : MapIs W b l) (hg : W.grownBy W' row) (hne : some b ≠ row) : MapIs W' b l := by
  obtain ⟨D, h, r⟩ := h
  exact ⟨D, h.kept hg hne, r⟩
theorem MapIs.below {W W' : World} {b : Nat} {l : List Bk} (h : MapIs W b l) (hb : Below W.heap.size W W') : MapIs W' b l := h.kept (grown_of_below hb none) (by simp)
theorem MapIs.move {W W' : World} {b : Nat} {l : List Bk} (h : MapIs W b l) (hb : W'.heap[b]? = W.heap[b]?) : MapIs W' b l := by
  obtain ⟨D, ⟨es, clock, h0, r⟩, q⟩ := h
  exact ⟨D, ⟨es, clock, hb.trans h0, r⟩, q⟩
theorem MapIs.lt {W : World} {b : Nat} {l : List Bk} (h : MapIs W b l) : b < W.heap.size := by
  obtain ⟨D, h, r⟩ := h
  exact h.lt
theorem MapIs.ne {W : World} {b g : Nat} {l : List Bk} {cs : Array Value} {t : TypeId} {m : Nat × Nat} (h : MapIs W b l) (hg : W.heap[g]? = some (.cells cs t m)) : g ≠ b := by
  rintro rfl
  obtain ⟨D, ⟨es, clock, h0, r⟩, q⟩ := h
  rw [h0] at hg
  cases hg
theorem mapIs_made (w : World) : MapIs (w.alloc (.map #[] 0)) w.heap.size [] := ⟨.map [], World.ownsMap_made w _ _ _, [], rfl, .refl _⟩
theorem MapIs.keys {W : World} {b : Nat} {l : List Bk} (h : MapIs W b l) : (l.map (·.key)).Nodup := by
  obtain ⟨D, h, es, rfl, hp⟩ := h
  obtain ⟨es', he, hap, _⟩ := h.entries law
  injection he with he
  subst he
  have h1 : ((l.map ent).map (·.1)).Nodup := by
    refine (hp.map (·.1)).nodup_iff.1 ?_
    rw [List.nodup_iff_pairwise_ne, List.pairwise_map]
    exact hap
  rw [List.map_map] at h1
  rw [List.nodup_iff_pairwise_ne, List.pairwise_map] at h1 ⊢
  refine h1.imp (fun {a c} hne e => hne ?_)
  show Lit.int .i64 a.key = Lit.int .i64 c.key
  rw [e]
/-! ### one key -/
def hasK (l : List Bk) (k : Int) : Bool := l.any (fun q => q.key == k)
def lookV (l : List Bk) (k : Int) : Int × Bool := match l.find? (fun q => q.key == k) with
  | some q => (q.x, true)
  | none => (0, false)
def putV (l : List Bk) (k x : Int) : List Bk := ⟨k, x⟩ :: l.filter (fun q => !(q.key == k))
def delV (l : List Bk) (k : Int) : List Bk := l.filter (fun q => !(q.key == k))
theorem sameK (a k : Int) : (Lit.int .i64 a).sameKey (Lit.int .i64 k) = (a == k) := by
  by_cases h : a = k <;> simp [Lit.sameKey, h]
theorem isKey (k : Int) : WideAt.IsKeyLit (Lit.int .i64 k) := by simp [WideAt.IsKeyLit]
theorem RelD.has {D : DW} {l : List Bk} (h : RelD D l) (k : Int) : Maps.has D (.int .i64 k) = hasK l k := by
  obtain ⟨es, rfl, hp⟩ := h
  show es.any (fun p => p.1.sameKey (.int .i64 k)) = _
  rw [hp.any_eq, List.any_map]
  unfold hasK
  congr 1
  funext q
  exact sameK q.key k
theorem find_some {l : List Bk} {k : Int} {q : Bk} (h : l.find? (fun q => q.key == k) = some q) : q ∈ l ∧ q.key = k := ⟨List.mem_of_find?_eq_some h, by have := List.find?_some h; simpa using this⟩
theorem look_mem {l : List Bk} {k r0 : Int} (h : lookV l k = (r0, true)) : ∃ q, q ∈ l ∧ q.key = k ∧ q.x = r0 := by
  unfold lookV at h
  split at h
  · rename_i q hf
    simp only [Prod.mk.injEq] at h
    obtain ⟨h1, h2⟩ := find_some hf
    exact ⟨q, h1, h2, h.1⟩
  · simp at h
theorem RelD.at {W : World} {b n : Nat} {D : DW} {l : List Bk} (ho : W.ownsMap Try.prog 3 RB b n D) (h : RelD D l) (k : Int) (z : DW) : D.atKey (.int .i64 k) z = match l.find? (fun q => q.key == k) with
  | some q => datX q.x
  | none => z := by
  obtain ⟨es, rfl, hp⟩ := h
  obtain ⟨es', he, hap, _⟩ := ho.entries law
  injection he with he
  subst he
  cases hf : l.find? (fun q => q.key == k) with
  | none =>
    refine Maps.atKey_of_not_has ?_ z
    rw [RelD.has ⟨es, rfl, hp⟩ k]
    unfold hasK
    rw [List.any_eq_false]
    intro q hq
    have := List.find?_eq_none.1 hf q hq
    simpa using this
  | some q =>
    obtain ⟨hm, rfl⟩ := find_some hf
    refine WideAt.atKey_mem z (isKey _) hap (hp.mem_iff.2 (List.mem_map.2 ⟨q, hm, rfl⟩))
theorem RelD.put {D : DW} {l : List Bk} (h : RelD D l) (k x : Int) : RelD (D.put (.int .i64 k) (datX x)) (putV l k x) := by
  obtain ⟨es, rfl, hp⟩ := h
  refine ⟨_, rfl, (Go.WideShapes.insert_perm _ _).trans ?_⟩
  unfold putV
  rw [List.map_cons]
  refine List.Perm.cons _ ?_
  have := hp.filter (fun p => !p.1.sameKey (.int .i64 k))
  refine this.trans ?_
  rw [List.filter_map]
  refine .of_eq (congrArg _ (List.filter_congr fun q _ => ?_))
  show (!(Lit.int .i64 q.key).sameKey (.int .i64 k)) = _
  rw [sameK]
theorem RelD.del {D : DW} {l : List Bk} (h : RelD D l) (k : Int) : RelD (D.del (.int .i64 k)) (delV l k) := by
  obtain ⟨es, rfl, hp⟩ := h
  refine ⟨_, rfl, ?_⟩
  have := hp.filter (fun p => !p.1.sameKey (.int .i64 k))
  refine this.trans ?_
  unfold delV
  rw [List.filter_map]
  refine .of_eq (congrArg _ (List.filter_congr fun q _ => ?_))
  show (!(Lit.int .i64 q.key).sameKey (.int .i64 k)) = _
  rw [sameK]
theorem zeroE (w : World) : (zeroValue 28).run Try.prog w = .ok (rec2 0) w := by kernel_rfl
theorem keyK {k : Int} (hk : -9223372036854775808 ≤ k ∧ k ≤ 9223372036854775807) : keyOf Try.prog 3 (.int .i64 k) = some (.int .i64 k) :=
  Maps.keyOf_int_mk Try.underlying3 (by simp [Lit.wf, IntKind.min, IntKind.max, IntKind.bits, IntKind.signed]; omega)
section
variable {w : World} {ops : Array Oper} {rest : List Oper} {o : Oper} {a : Act} {Q : Exit → Act → World → Prop}
/-- 'v, ok := m[k]'. -/
theorem wpList_look (hg : o.guard = none) (m x : Operand) (hop : o.op = Op.lookup 56 m x true) (b : Nat) (l : List Bk) (hM : MapIs w b l) (k : Int) (hk : -9223372036854775808 ≤ k ∧ k ≤ 9223372036854775807) (hm : a.eval m = .map (some b)) (hx : a.eval x = .int .i64 k)
    (r0 : Int) (r2 : Bool) (hr : lookV l k = (r0, r2))
    (hK : wpList Try.prog ops Q rest (a.put o.dst (.tuple #[.int .u64 r0, .bool r2])) w) : wpList Try.prog ops Q (o :: rest) a w := by
  obtain ⟨D, ho, r⟩ := hM
  refine wpList_lookup_own_ok w hg m x 56 hop 3 28 law Try.underlying56 RB (zeroE w) (datX 0) [] (RB_mk 0) b l.length D hm ho _ _ hx (keyK hk) fun v ps hv => ?_
  rw [RelD.at ho r, r.has] at *
  obtain ⟨x', rfl, hz⟩ := RB_inv hv
  have he := congrArg Prod.fst hz
  unfold lookV at hr
  cases hf : l.find? (fun q => q.key == k) with
  | none =>
    rw [hf] at he hr
    obtain rfl := datX_inj he
    simp only [Prod.mk.injEq] at hr
    obtain ⟨rfl, rfl⟩ := hr
    have : hasK l k = false := by
      unfold hasK
      rw [List.any_eq_false]
      intro q hq
      have := List.find?_eq_none.1 hf q hq
      simpa using this
    rw [this]; exact hK
  | some q =>
    rw [hf] at he hr
    obtain rfl := datX_inj he
    simp only [Prod.mk.injEq] at hr
    obtain ⟨rfl, rfl⟩ := hr
    have : hasK l k = true := by
      obtain ⟨hm, hk⟩ := find_some hf
      unfold hasK
      rw [List.any_eq_true]
      exact ⟨q, hm, by simpa using hk⟩
    rw [this]; exact hK
/-- 'm[k] = v'. -/
theorem wpList_put (hg : o.guard = none) (m x v : Operand) (hop : o.op = Op.mapUpdate 56 m x v) (b : Nat) (l : List Bk) (hM : MapIs w b l) (hl : l.length ≤ 1000000) (k r0 : Int) (hk : -9223372036854775808 ≤ k ∧ k ≤ 9223372036854775807) (hm : a.eval m = .map (some b)) (hx : a.eval x = .int .i64 k) (hv : a.eval v = .int .u64 r0)
    (hK : ∀ w', MapIs w' b (putV l k r0) → w.grownBy w' (some b) → wpList Try.prog ops Q rest (a.put o.dst undef) w') : wpList Try.prog ops Q (o :: rest) a w := by
  obtain ⟨D, ho, r⟩ := hM
  refine wpList_mapUpdate_own w hg m x v 56 hop 3 28 law Try.underlying56 RB b l.length D hm ho (by unfold maxLen; omega) _ _ _ hx hv (keyK hk) (datX r0) [] (RB_mk r0) fun w' h1 h2 => ?_
  exact hK w' (.of h1 (r.put k r0)) h2
/-- 'delete(m, k)'. -/
theorem wpList_del (hg : o.guard = none) (m x : Operand) (hop : o.op = Op.call { callee := Callee.builtin Builtin.delete, args := #[m, x], argTypes := #[56, 3] }) (b : Nat) (l : List Bk) (hM : MapIs w b l) (k : Int) (hk : -9223372036854775808 ≤ k ∧ k ≤ 9223372036854775807) (hm : a.eval m = .map (some b)) (hx : a.eval x = .int .i64 k)
    (hK : ∀ w', MapIs w' b (delV l k) → w.grownBy w' (some b) → wpList Try.prog ops Q rest (a.put o.dst (.tuple #[])) w') : wpList Try.prog ops Q (o :: rest) a w := by
  obtain ⟨D, ho, r⟩ := hM
  refine wpList_delete_own w hg m x 56 3 hop 28 law Try.underlying56 RB b l.length D hm ho _ _ hx (keyK hk) fun w' h1 h2 => ?_
  exact hK w' (.of h1 (r.del k)) h2.grown
end
theorem run_len (b : Nat) (l : List Bk) (w : World) (hM : MapIs w b l) (ty : TypeId) : (Builtin.len_ #[56] ty #[.map (some b)]).run Try.prog w = .ok (.int .i64 l.length) w := by
  obtain ⟨D, ho, r⟩ := hM
  rw [ho.len Try.underlying56 ty, r.size]
theorem run_nil (r : Option Nat) (w : World) : (binOp .neq 56 (.map r) (.map none)).run Try.prog w = .ok (.bool (!r.isNone)) w := run_neq_map_nil w _ _ _ r Try.underlying56
theorem put_run (w : World) (b : Nat) (l : List Bk) (hM : MapIs w b l) (hl : l.length ≤ 1000000) (k r0 : Int) (hk : -9223372036854775808 ≤ k ∧ k ≤ 9223372036854775807) :
    ∃ w', (Instr.mapUpdate 56 (.map (some b)) (.int .i64 k) (.int .u64 r0)).run Try.prog w = .ok () w' ∧ MapIs w' b (putV l k r0) ∧ w.grownBy w' (some b) := by
  obtain ⟨D, ho, r⟩ := hM
  obtain ⟨w', hrun, h1, h2⟩ := ho.update law Try.underlying56 (by unfold maxLen; omega) (keyK hk) (RB_mk r0)
  exact ⟨w', hrun, .of h1 (r.put k r0), h2⟩
/-- 'm[k]', as it runs. -/
theorem look1_run (w : World) (b : Nat) (l : List Bk) (hM : MapIs w b l) (k : Int) (hk : -9223372036854775808 ≤ k ∧ k ≤ 9223372036854775807) (r0 : Int) (r2 : Bool) (hr : lookV l k = (r0, r2)) :
    (Instr.lookup 56 (.map (some b)) (.int .i64 k) false).run Try.prog w = .ok (.int .u64 r0) w := by
  obtain ⟨D, ho, r⟩ := hM
  obtain ⟨v, ps, hrun, hv⟩ := ho.lookup law Try.underlying56 (zeroE w) (RB_mk 0) (keyK hk)
  rw [hrun]
  rw [RelD.at ho r] at hv
  obtain ⟨x', rfl, hz⟩ := RB_inv hv
  have he := congrArg Prod.fst hz
  unfold lookV at hr
  cases hf : l.find? (fun q => q.key == k) with
  | none =>
    rw [hf] at he hr
    obtain rfl := datX_inj he
    simp only [Prod.mk.injEq] at hr
    obtain ⟨rfl, rfl⟩ := hr
    rfl
  | some q =>
    rw [hf] at he hr
    obtain rfl := datX_inj he
    simp only [Prod.mk.injEq] at hr
    obtain ⟨rfl, rfl⟩ := hr
    rfl
end Go.Proofs.Ytpkilechkoiffaa.TabL
