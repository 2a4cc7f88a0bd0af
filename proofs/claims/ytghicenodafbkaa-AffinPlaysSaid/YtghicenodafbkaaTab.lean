/- A map of records of two whole numbers by keys of kind uint64, as a list in no order: what lies, looking up, laying in, striking, counting, and the library's DeleteFunc at it; no condition but those that stand in each. -/
import Derived.Test.YtghicenodafbkaaBase
import Derived.Test.YtghicenodafbkaaProg
import Derived.Maps.RangeWalk
import Derived.Maps.OwnSet
import Derived.Lib.SlMapFilter
import Derived.WalkSpells
import Derived.LoopTactic
import Derived.Deep.LoopGhost
import Derived.Shelf.Abstract
import Derived.OwnWalk
import Derived.Maps.AppendAt
namespace Go.Proofs.Ytghicenodafbkaa.Tab
set_option linter.unusedVariables false
set_option linter.unusedSimpArgs false
open Go.RowKit Go.Proofs.YtghicenodafbkaaW.PrintWords Go.Proofs.YtghicenodafbkaaW.PrintLast Go.Proofs.YtghicenodafbkaaW.PrintMore
open Go.Maps (Keyed int_keyed)
structure Bk where
  key : Int
  x : Int
  y : Int
def rec2 (x y : Int) : Value := .agg #[.int .u64 x, .int .i64 y]
abbrev DW := DataW Unit
def datX (x y : Int) : DW := .agg [.lit (.int .u64 x), .lit (.int .i64 y)]
def RB : Value → Option (DW × List MemPlace)
  | .agg cs => match cs.toList with
    | [.int .u64 x, .int .i64 y] => some (datX x y, [])
    | _ => none
  | _ => none
theorem RB_mk (x y : Int) : RB (rec2 x y) = some (datX x y, []) := rfl
theorem RB_inv {v : Value} {z : DW × List MemPlace} (h : RB v = some z) : ∃ x y, v = rec2 x y ∧ z = (datX x y, []) := by
  cases v <;> simp [RB] at h
  rename_i cs
  split at h
  · rename_i x y hcs
    injection h with h
    exact ⟨x, y, by rw [rec2]; congr 1; rw [← Array.toList_inj, hcs], h.symm⟩
  · cases h
theorem datX_inj {x y x' y' : Int} (h : datX x y = datX x' y') : x = x' ∧ y = y' := by
  unfold datX at h
  injection h with h
  simp at h
  exact h
theorem law : Keyed Try.prog 30 := int_keyed Try.underlying30
def ent (b : Bk) : Lit × DW := (.int .u64 b.key, datX b.x b.y)
def RelD (D : DW) (l : List Bk) : Prop := ∃ es, D = .map es ∧ es.Perm (l.map ent)
def MapIs (W : World) (b : Nat) (l : List Bk) : Prop := ∃ D, W.ownsMap Try.prog 30 RB b l.length D ∧ RelD D l
theorem owns_tight {W : World} {b n : Nat} {D : DW} (h : W.ownsMap Try.prog 30 RB b n D) : W.ownsMap Try.prog 30 RB b (Maps.size D) D := by
  obtain ⟨es, clock, hb, F, hs, hD⟩ := h
  refine ⟨es, clock, hb, F, ?_, hD⟩
  rw [hD]
  simp [Maps.size, length_sorted]
theorem RelD.size {D : DW} {l : List Bk} (h : RelD D l) : Maps.size D = l.length := by
  obtain ⟨es, rfl, hp⟩ := h
  show es.length = _
  rw [hp.length_eq, List.length_map]
theorem MapIs.of {W : World} {b n : Nat} {D : DW} {l : List Bk} (h : W.ownsMap Try.prog 30 RB b n D) (r : RelD D l) : MapIs W b l := ⟨D, by rw [← r.size]; exact owns_tight h, r⟩
theorem MapIs.perm {W : World} {b : Nat} {l l' : List Bk} (h : MapIs W b l) (hp : l.Perm l') : MapIs W b l' := by
  obtain ⟨D, h, es, rfl, hq⟩ := h
  exact .of h ⟨es, rfl, hq.trans (hp.map ent)⟩
theorem MapIs.kept {W W' : World} {b : Nat} {l : List Bk} {row : Option Nat} (h : MapIs W b l) (hg : W.grownBy W' row) (hne : some b ≠ row) : MapIs W' b l := by
  obtain ⟨D, h, r⟩ := h
  exact ⟨D, h.kept hg hne, r⟩
theorem MapIs.below {W W' : World} {b : Nat} {l : List Bk} (h : MapIs W b l) (hb : Below W.heap.size W W') : MapIs W' b l := h.kept (grown_of_below hb none) (by simp)
theorem MapIs.move {W W' : World} {b : Nat} {l : List Bk} (h : MapIs W b l) (hb : W'.heap[b]? = W.heap[b]?) : MapIs W' b l := by
  obtain ⟨D, ⟨es, clock, h0, r⟩, q⟩ := h
  exact ⟨D, ⟨es, clock, hb.trans h0, r⟩, q⟩
theorem MapIs.lt {W : World} {b : Nat} {l : List Bk} (h : MapIs W b l) : b < W.heap.size := by
  obtain ⟨D, h, r⟩ := h
  exact h.lt
theorem MapIs.ne {W : World} {b g : Nat} {l : List Bk} {cs : Array Value} {t : TypeId} {m : Nat × Nat} (h : MapIs W b l) (hg : W.heap[g]? = some (.cells cs t m)) : g ≠ b := by
  rintro rfl
  obtain ⟨D, ⟨es, clock, h0, r⟩, q⟩ := h
  rw [h0] at hg
  cases hg
theorem mapIs_made (w : World) : MapIs (w.alloc (.map #[] 0)) w.heap.size [] := ⟨.map [], World.ownsMap_made w _ _ _, [], rfl, .refl _⟩
theorem MapIs.keys {W : World} {b : Nat} {l : List Bk} (h : MapIs W b l) : (l.map (·.key)).Nodup := by
  obtain ⟨D, h, es, rfl, hp⟩ := h
  obtain ⟨es', he, hap, _⟩ := h.entries law
  injection he with he
  subst he
  have h1 : ((l.map ent).map (·.1)).Nodup := by
    refine (hp.map (·.1)).nodup_iff.1 ?_
    rw [List.nodup_iff_pairwise_ne, List.pairwise_map]
    exact hap
  rw [List.map_map] at h1
  rw [List.nodup_iff_pairwise_ne, List.pairwise_map] at h1 ⊢
  refine h1.imp (fun {a c} hne e => hne ?_)
  show Lit.int .u64 a.key = Lit.int .u64 c.key
  rw [e]
/-! ### one key -/
def hasK (l : List Bk) (k : Int) : Bool := l.any (fun q => q.key == k)
def lookV (l : List Bk) (k : Int) : Int × Int × Bool := match l.find? (fun q => q.key == k) with
  | some q => (q.x, q.y, true)
  | none => (0, 0, false)
def putV (l : List Bk) (k x y : Int) : List Bk := ⟨k, x, y⟩ :: l.filter (fun q => !(q.key == k))
def delV (l : List Bk) (k : Int) : List Bk := l.filter (fun q => !(q.key == k))
theorem sameK (a k : Int) : (Lit.int .u64 a).sameKey (Lit.int .u64 k) = (a == k) := by
  by_cases h : a = k <;> simp [Lit.sameKey, h]
theorem isKey (k : Int) : WideAt.IsKeyLit (Lit.int .u64 k) := by simp [WideAt.IsKeyLit]
theorem RelD.has {D : DW} {l : List Bk} (h : RelD D l) (k : Int) : Maps.has D (.int .u64 k) = hasK l k := by
  obtain ⟨es, rfl, hp⟩ := h
  show es.any (fun p => p.1.sameKey (.int .u64 k)) = _
  rw [hp.any_eq, List.any_map]
  unfold hasK
  congr 1
  funext q
  exact sameK q.key k
theorem find_some {l : List Bk} {k : Int} {q : Bk} (h : l.find? (fun q => q.key == k) = some q) : q ∈ l ∧ q.key = k := ⟨List.mem_of_find?_eq_some h, by have := List.find?_some h; simpa using this⟩
theorem look_mem {l : List Bk} {k r0 r1 : Int} (h : lookV l k = (r0, r1, true)) : ∃ q, q ∈ l ∧ q.key = k ∧ q.x = r0 ∧ q.y = r1 := by
  unfold lookV at h
  split at h
  · rename_i q hf
    simp only [Prod.mk.injEq] at h
    obtain ⟨h1, h2⟩ := find_some hf
    exact ⟨q, h1, h2, h.1, h.2.1⟩
  · simp at h
theorem RelD.at {W : World} {b n : Nat} {D : DW} {l : List Bk} (ho : W.ownsMap Try.prog 30 RB b n D) (h : RelD D l) (k : Int) (z : DW) : D.atKey (.int .u64 k) z = match l.find? (fun q => q.key == k) with
  | some q => datX q.x q.y
  | none => z := by
  obtain ⟨es, rfl, hp⟩ := h
  obtain ⟨es', he, hap, _⟩ := ho.entries law
  injection he with he
  subst he
  cases hf : l.find? (fun q => q.key == k) with
  | none =>
    refine Maps.atKey_of_not_has ?_ z
    rw [RelD.has ⟨es, rfl, hp⟩ k]
    unfold hasK
    rw [List.any_eq_false]
    intro q hq
    have := List.find?_eq_none.1 hf q hq
    simpa using this
  | some q =>
    obtain ⟨hm, rfl⟩ := find_some hf
    refine WideAt.atKey_mem z (isKey _) hap (hp.mem_iff.2 (List.mem_map.2 ⟨q, hm, rfl⟩))
theorem RelD.put {D : DW} {l : List Bk} (h : RelD D l) (k x y : Int) : RelD (D.put (.int .u64 k) (datX x y)) (putV l k x y) := by
  obtain ⟨es, rfl, hp⟩ := h
  refine ⟨_, rfl, (Go.WideShapes.insert_perm _ _).trans ?_⟩
  unfold putV
  rw [List.map_cons]
  refine List.Perm.cons _ ?_
  have := hp.filter (fun p => !p.1.sameKey (.int .u64 k))
  refine this.trans ?_
  rw [List.filter_map]
  refine .of_eq (congrArg _ (List.filter_congr fun q _ => ?_))
  show (!(Lit.int .u64 q.key).sameKey (.int .u64 k)) = _
  rw [sameK]
theorem RelD.del {D : DW} {l : List Bk} (h : RelD D l) (k : Int) : RelD (D.del (.int .u64 k)) (delV l k) := by
  obtain ⟨es, rfl, hp⟩ := h
  refine ⟨_, rfl, ?_⟩
  have := hp.filter (fun p => !p.1.sameKey (.int .u64 k))
  refine this.trans ?_
  unfold delV
  rw [List.filter_map]
  refine .of_eq (congrArg _ (List.filter_congr fun q _ => ?_))
  show (!(Lit.int .u64 q.key).sameKey (.int .u64 k)) = _
  rw [sameK]
def pdD (pd : Int → Int → Int → Bool) : Lit → DW → Bool
  | .int _ k, .agg [.lit (.int _ x), .lit (.int _ y)] => pd k x y
  | _, _ => false
theorem RelD.strike {D : DW} {l : List Bk} (h : RelD D l) (pd : Int → Int → Int → Bool) : RelD (Lib.deleteFuncD (pdD pd) D) (l.filter (fun q => !pd q.key q.x q.y)) := by
  obtain ⟨es, rfl, hp⟩ := h
  refine ⟨_, rfl, ?_⟩
  have := hp.filter (fun p => !pdD pd p.1 p.2)
  refine this.trans ?_
  rw [List.filter_map]
  exact .of_eq (congrArg _ (List.filter_congr fun q _ => rfl))
theorem zeroE (w : World) : (zeroValue 56).run Try.prog w = .ok (rec2 0 0) w := by kernel_rfl
theorem keyK {k : Int} (hk : 0 ≤ k ∧ k ≤ 18446744073709551615) : keyOf Try.prog 30 (.int .u64 k) = some (.int .u64 k) :=
  Maps.keyOf_int_mk Try.underlying30 (by simp [Lit.wf, IntKind.min, IntKind.max, IntKind.bits, IntKind.signed]; omega)
section
variable {w : World} {ops : Array Oper} {rest : List Oper} {o : Oper} {a : Act} {Q : Exit → Act → World → Prop}
/-- 'v, ok := m[k]'. -/
theorem wpList_look (hg : o.guard = none) (m x : Operand) (hop : o.op = Op.lookup 49 m x true) (b : Nat) (l : List Bk) (hM : MapIs w b l) (k : Int) (hk : 0 ≤ k ∧ k ≤ 18446744073709551615) (hm : a.eval m = .map (some b)) (hx : a.eval x = .int .u64 k)
    (r0 r1 : Int) (r2 : Bool) (hr : lookV l k = (r0, r1, r2))
    (hK : wpList Try.prog ops Q rest (a.put o.dst (.tuple #[.agg #[.int .u64 r0, .int .i64 r1], .bool r2])) w) : wpList Try.prog ops Q (o :: rest) a w := by
  obtain ⟨D, ho, r⟩ := hM
  refine wpList_lookup_own_ok w hg m x 49 hop 30 56 law Try.underlying49 RB (zeroE w) (datX 0 0) [] (RB_mk 0 0) b l.length D hm ho _ _ hx (keyK hk) fun v ps hv => ?_
  rw [RelD.at ho r, r.has] at *
  obtain ⟨x', y', rfl, hz⟩ := RB_inv hv
  have he := congrArg Prod.fst hz
  unfold lookV at hr
  cases hf : l.find? (fun q => q.key == k) with
  | none =>
    rw [hf] at he hr
    obtain ⟨rfl, rfl⟩ := datX_inj he
    simp only [Prod.mk.injEq] at hr
    obtain ⟨rfl, rfl, rfl⟩ := hr
    have : hasK l k = false := by
      unfold hasK
      rw [List.any_eq_false]
      intro q hq
      have := List.find?_eq_none.1 hf q hq
      simpa using this
    rw [this]; exact hK
  | some q =>
    rw [hf] at he hr
    obtain ⟨rfl, rfl⟩ := datX_inj he
    simp only [Prod.mk.injEq] at hr
    obtain ⟨rfl, rfl, rfl⟩ := hr
    have : hasK l k = true := by
      obtain ⟨hm, hk⟩ := find_some hf
      unfold hasK
      rw [List.any_eq_true]
      exact ⟨q, hm, by simpa using hk⟩
    rw [this]; exact hK
/-- 'm[k] = v'. -/
theorem wpList_put (hg : o.guard = none) (m x v : Operand) (hop : o.op = Op.mapUpdate 49 m x v) (b : Nat) (l : List Bk) (hM : MapIs w b l) (hl : l.length ≤ 1000000) (k r0 r1 : Int) (hk : 0 ≤ k ∧ k ≤ 18446744073709551615) (hm : a.eval m = .map (some b)) (hx : a.eval x = .int .u64 k) (hv : a.eval v = .agg #[.int .u64 r0, .int .i64 r1])
    (hK : ∀ w', MapIs w' b (putV l k r0 r1) → w.grownBy w' (some b) → wpList Try.prog ops Q rest (a.put o.dst undef) w') : wpList Try.prog ops Q (o :: rest) a w := by
  obtain ⟨D, ho, r⟩ := hM
  refine wpList_mapUpdate_own w hg m x v 49 hop 30 56 law Try.underlying49 RB b l.length D hm ho (by unfold maxLen; omega) _ _ _ hx hv (keyK hk) (datX r0 r1) [] (RB_mk r0 r1) fun w' h1 h2 => ?_
  exact hK w' (.of h1 (r.put k r0 r1)) h2
/-- 'delete(m, k)'. -/
theorem wpList_del (hg : o.guard = none) (m x : Operand) (hop : o.op = Op.call { callee := Callee.builtin Builtin.delete, args := #[m, x], argTypes := #[49, 30] }) (b : Nat) (l : List Bk) (hM : MapIs w b l) (k : Int) (hk : 0 ≤ k ∧ k ≤ 18446744073709551615) (hm : a.eval m = .map (some b)) (hx : a.eval x = .int .u64 k)
    (hK : ∀ w', MapIs w' b (delV l k) → w.grownBy w' (some b) → wpList Try.prog ops Q rest (a.put o.dst (.tuple #[])) w') : wpList Try.prog ops Q (o :: rest) a w := by
  obtain ⟨D, ho, r⟩ := hM
  refine wpList_delete_own w hg m x 49 30 hop 56 law Try.underlying49 RB b l.length D hm ho _ _ hx (keyK hk) fun w' h1 h2 => ?_
  exact hK w' (.of h1 (r.del k)) h2.grown
end
theorem run_len (b : Nat) (l : List Bk) (w : World) (hM : MapIs w b l) (ty : TypeId) : (Builtin.len_ #[49] ty #[.map (some b)]).run Try.prog w = .ok (.int .i64 l.length) w := by
  obtain ⟨D, ho, r⟩ := hM
  rw [ho.len Try.underlying49 ty, r.size]
theorem run_nil (r : Option Nat) (w : World) : (binOp .neq 49 (.map r) (.map none)).run Try.prog w = .ok (.bool (!r.isNone)) w := run_neq_map_nil w _ _ _ r Try.underlying49
theorem put_run (w : World) (b : Nat) (l : List Bk) (hM : MapIs w b l) (hl : l.length ≤ 1000000) (k r0 r1 : Int) (hk : 0 ≤ k ∧ k ≤ 18446744073709551615) :
    ∃ w', (Instr.mapUpdate 49 (.map (some b)) (.int .u64 k) (.agg #[.int .u64 r0, .int .i64 r1])).run Try.prog w = .ok () w' ∧ MapIs w' b (putV l k r0 r1) ∧ w.grownBy w' (some b) := by
  obtain ⟨D, ho, r⟩ := hM
  obtain ⟨w', hrun, h1, h2⟩ := ho.update law Try.underlying49 (by unfold maxLen; omega) (keyK hk) (RB_mk r0 r1)
  exact ⟨w', hrun, .of h1 (r.put k r0 r1), h2⟩
/-! ### maps.DeleteFunc -/
set_option maxHeartbeats 4000000 in
set_option maxRecDepth 100000 in
theorem delf_c (pd : Int → Int → Int → Bool) (b : Nat) (l : List Bk) (g : Nat) (cb : Array Value) (w : World) (hM : MapIs w b l) (eg : ∀ args w, (callFunc g args).run Try.prog w = .ok (.enter g args) w)
    (hdel : ∀ (W : World) (q : Bk), q ∈ l → w.grownBy W (some b) → Calls Try.prog g (#[.int .u64 q.key, .agg #[.int .u64 q.x, .int .i64 q.y]] ++ cb) W fun e w' => e = .returned (.bool (pd q.key q.x q.y)) ∧ Below W.heap.size W w') :
    Calls Try.prog 26 #[.map (some b), .func (.func g) #[] cb] w fun e w' => e = .returned (.tuple #[]) ∧ MapIs w' b (l.filter (fun q => !pd q.key q.x q.y)) ∧ w.grownBy w' (some b) := by
  obtain ⟨D, ho, r⟩ := hM
  obtain ⟨es0, rfl, hp⟩ := r
  obtain ⟨es0', he, hap, hkeys⟩ := ho.entries law
  injection he with he
  subst he
  have R := Aside0.mk (show RelD (.map es0) l from ⟨es0, rfl, hp⟩)
  have HP := Aside0.mk hp
  have HD := Aside0.mk hdel
  have hz := zeroE
  unfold rec2 at hz
  clear hdel hp
  have hue := Try.underlying56
  have huk := Try.underlying30
  go_enter Try.func26, Try.ntmps26
  go_wp2_with (first
    | (at_range; refine wpList_range_own _ rfl _ 49 rfl 30 56 law Try.underlying49 RB b l.length _ rfl ho ?_; intro w0 hrg0 hg0 hs0)
    | go_in)
  go_frame
  go_loopw [8] (fun _ wr => ∃ (left : Lit → Bool) (cnt : Nat), wr.ranges Try.prog 30 RB b w.heap.size l.length (Maps.Fk (pdD pd) es0 left) left cnt ∧ w.grownBy wr (some b))
    (fun _ wr => wr.rangeLeft b w.heap.size)
  case atStart => exact ⟨_, _, by rw [Maps.Fk_start hkeys]; exact hrg0, hg0.but _⟩
  case round =>
    obtain ⟨left, cnt, hrg, hgw⟩ := hrel
    go_wp2_with (first
      | (at_next; refine wpList_next_ranges _ rfl _ rfl 30 law RB (Value.int .u64) (fun c : Int × Int => Value.agg #[.int .u64 c.1, .int .i64 c.2]) (fun key kl h => by obtain ⟨x, rfl, _⟩ := Maps.keyOf_int_inv Try.underlying30 h; exact ⟨x, rfl⟩) (fun v y h => by obtain ⟨x, y, rfl, _⟩ := RB_inv h; exact ⟨(x, y), rfl⟩) b w.heap.size l.length _ _ _ rfl hrg ?_ ?_)
      | go_in)
    · -- nothing is left
      intro _ hl0
      go_wp2_with fail
      first | go_end0 | ((try simp only [Exit.inBlock, Exit.then]); refine bodyPost_ret (results_none rfl _ _ _) rfl ?_)
      refine ⟨rfl, .of hrg.owns ?_, hgw⟩
      rw [Maps.Fk_end hl0]
      exact R.out.strike pd
    · -- an entry has come
      intro k x0 y0 kl yd yp w1 cnt1 hkey hlx hv hat hrg1 hlt hg1 hs1 hen
      obtain ⟨k', ek, rfl, hkw⟩ := Maps.keyOf_int_inv Try.underlying30 hkey
      cases ek
      obtain ⟨x', y', ev, hyd⟩ := RB_inv hv
      obtain ⟨rfl, rfl⟩ : x0 = x' ∧ y0 = y' := by
        unfold rec2 at ev
        simp only [Value.agg.injEq, Array.mk.injEq, List.cons.injEq, Value.int.injEq, true_and, and_true] at ev
        simpa using ev
      simp only [Prod.mk.injEq] at hyd
      obtain ⟨rfl, rfl⟩ := hyd
      clear ev
      try dsimp only at hat hen
      have hmem : (⟨k, x0, y0⟩ : Bk) ∈ l := by
        have hh := Maps.has_true_of_atKey hat
        unfold Maps.Fk at hh
        rw [Maps.has_eq, List.any_eq_true] at hh
        obtain ⟨p, hp1, hp2⟩ := hh
        have hp3 := (List.mem_filter.1 hp1).1
        have e1 := WideAt.sameKey_eq hp2
        have e2 := Maps.at_cameK hap (isKey k) hlx hat p hp3 e1
        obtain ⟨q, hq, rfl⟩ := List.mem_map.1 (HP.out.mem_iff.1 hp3)
        obtain ⟨qk, qx, qy⟩ := q
        have e3 : qk = k := by simpa [ent] using e1
        obtain ⟨rfl, rfl⟩ := datX_inj e2
        subst e3
        exact hq
      have hgw1 := hgw.andThen hg1 (fun j hj => by cases hj; exact Or.inl (Nat.le_refl _))
      have hbl := hrg1.owns.lt
      have hrl := hrg1.lt
      have HPD := Aside0.mk (show pdD pd (.int .u64 k) (datX x0 y0) = pd k x0 y0 from rfl)
      have HMEM := Aside0.mk hmem
      have HGW := Aside0.mk hgw1
      have HRG := Aside0.mk hrg1
      have HAT := Aside0.mk hat
      have HKEY := Aside0.mk hkey
      clear hmem hgw1 hrg1 hat hv
      obtain ⟨pb, hpb⟩ : ∃ pb, pd k x0 y0 = pb := ⟨_, rfl⟩
      have HPB := Aside0.mk hpb
      clear hpb
      have BB : ∀ w2 : World, w1.grownBy w2 none → w.grownBy w2 (some b) := fun w2 h => HGW.out.andThen h (fun j hj => by cases hj)
      have HBB := Aside0.mk BB
      clear BB
      have HC := Aside0.mk (fun (w2 : World) (h : w1.grownBy w2 none) => by have := HD.out w2 ⟨k, x0, y0⟩ HMEM.out (HBB.out w2 h); dsimp only at this; rw [HPB.out] at this; exact this)
      have HLX := Aside0.mk hlx
      have HLT := Aside0.mk hlt
      have HW1 := Aside0.mk hs1
      clear hlx hlt hs1
      go_wp2_with fail
      (refine (HC.out _ (World.grownBy_alloc _ _ _)).mono ?_)
      rintro e w2 ⟨rfl, hb2⟩
      have hg2 : w1.grownBy w2 none := (World.grownBy_alloc w1 _ none).trans (grown_of_below hb2 none)
      have hrg2 := HRG.out.kept hg2 (by simp) (by simp)
      have HG2 := Aside0.mk hg2
      clear hg2 hb2
      cases pb
      · have HRG2 := Aside0.mk hrg2
        clear hrg2
        go_wp2_with fail
        go_roundw
        case rel => exact ⟨_, cnt1, by rw [← Maps.Fk_stays hap (isKey k) HLX.out (HPD.out.trans HPB.out) HAT.out]; exact HRG2.out, HBB.out w2 HG2.out⟩
        case measure => rw [HRG2.out.left_eq, hrg.left_eq]; exact HLT.out
      · go_wp2_with (first
          | (at_delete; refine wpList_delete_ranges _ rfl _ _ 49 30 rfl 56 law Try.underlying49 RB b w.heap.size l.length _ _ _ rfl hrg2 _ _ rfl HKEY.out ?_; intro w3 cnt3 hrg3 hle hturn; go_frame)
          | go_in)
        rw [Maps.strike_twice] at hrg3
        have HRG3 := Aside0.mk hrg3
        have HTU := Aside0.mk hturn
        have HLE := Aside0.mk hle
        clear hrg2 hrg3 hturn hle
        go_roundw
        case rel => exact ⟨_, cnt3, by rw [← Maps.Fk_struck hap (isKey k) HLX.out (HPD.out.trans HPB.out) HAT.out]; exact HRG3.out, (HBB.out w2 HG2.out).andThen HTU.out.grown (fun j hj => by cases hj; exact Or.inr rfl)⟩
        case measure => rw [HRG3.out.left_eq, hrg.left_eq]; have a := HLT.out; have b := HLE.out; omega
#print axioms delf_c
end Go.Proofs.Ytghicenodafbkaa.Tab
