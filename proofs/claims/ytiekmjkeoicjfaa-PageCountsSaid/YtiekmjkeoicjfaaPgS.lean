/- Both pools of pages agree, plain; no condition but those that stand in each. -/
import Derived.Test.YtiekmjkeoicjfaaPgD
namespace Go.Proofs.Ytiekmjkeoicjfaa.Pg
set_option linter.unusedVariables false
set_option linter.unusedSimpArgs false
open Go.RowKit Go.Proofs.YtiekmjkeoicjfaaW.PrintWords Go.Proofs.Ytiekmjkeoicjfaa.Lst Go.Proofs.Ytiekmjkeoicjfaa.Heap
theorem at_set {l : List Int} {k : Nat} (hk : k < l.length) (x : Int) (j : Nat) : at_ 0 (l.set k x) j = if j = k then x else at_ 0 l j := by
  unfold at_
  simp only [List.getD_eq_getElem?_getD, List.getElem?_set]
  by_cases h : j = k
  · subst h
    rw [if_pos rfl, if_pos hk, if_pos rfl]; rfl
  · rw [if_neg (fun e => h e.symm), if_neg h]
theorem set_bd {l : List Int} (h : ∀ x ∈ l, 0 ≤ x ∧ x ≤ 2147483647) {k : Nat} {y : Int} (hy : 0 ≤ y ∧ y ≤ 2147483647) : ∀ x ∈ l.set k y, 0 ≤ x ∧ x ≤ 2147483647 := fun x hx => by
  rcases List.mem_or_eq_of_mem_set hx with hx | rfl
  · exact h x hx
  · exact hy
theorem firstZ_some {l : List Int} : ∀ {i j : Nat}, firstZ l i = some j → i ≤ j ∧ j - i < l.length ∧ at_ 0 l (j - i) = 0 ∧ ∀ m, m < j - i → at_ 0 l m ≠ 0 := by
  induction l with
  | nil => intro i j h; simp [firstZ] at h
  | cons x l ih =>
    intro i j h
    rw [firstZ] at h
    by_cases hx : x = 0
    · rw [if_pos hx] at h
      injection h with h
      subst h
      refine ⟨Nat.le_refl _, by simp, ?_, fun m hm => by omega⟩
      rw [Nat.sub_self]; exact hx
    · rw [if_neg hx] at h
      obtain ⟨a, b, c, d⟩ := ih h
      have e : j - i = (j - (i + 1)) + 1 := by omega
      have s : ∀ m, at_ 0 (x :: l) (m + 1) = at_ 0 l m := fun m => by unfold at_; rw [List.getD_cons_succ]
      refine ⟨by omega, by rw [List.length_cons]; omega, by rw [e, s]; exact c, fun m hm => ?_⟩
      cases m with
      | zero => exact hx
      | succ m => rw [s]; exact d m (by omega)
theorem firstZ_none {l : List Int} : ∀ {i : Nat}, firstZ l i = none → ∀ m, m < l.length → at_ 0 l m ≠ 0 := by
  induction l with
  | nil => intro i h m hm; simp at hm
  | cons x l ih =>
    intro i h m hm
    rw [firstZ] at h
    by_cases hx : x = 0
    · rw [if_pos hx] at h; cases h
    · rw [if_neg hx] at h
      cases m with
      | zero => exact hx
      | succ m =>
        rw [List.length_cons] at hm
        have := ih h m (by omega)
        unfold at_ at this ⊢
        rw [List.getD_cons_succ]; exact this
theorem take_sim {p : PS} (hO : Ok p) {x e x' e' : Int} {p' : PS} {L' : List Int} (h : takeV p = ((x, e), p')) (h' : dtakeV p.held = ((x', e'), L')) : x = x' ∧ e = e' ∧ p'.held = L' ∧ Ok p' ∧ p'.held.length = p.held.length ∧
    ((e = 0 ∧ ∃ k : Nat, x = k ∧ k < p.held.length ∧ at_ 0 p.held k = 0 ∧ p'.held = p.held.set k 1) ∨ (e = 9 ∧ p' = p ∧ p.free = [])) := by
  unfold takeV at h
  unfold dtakeV at h'
  by_cases c0 : p.free = []
  · rw [if_pos c0] at h
    simp only [Prod.mk.injEq] at h
    obtain ⟨⟨rfl, rfl⟩, rfl⟩ := h
    cases hz : firstZ p.held 0 with
    | none =>
      rw [hz] at h'
      simp only [Prod.mk.injEq] at h'
      obtain ⟨⟨rfl, rfl⟩, rfl⟩ := h'
      exact ⟨rfl, rfl, rfl, hO, rfl, .inr ⟨rfl, rfl, c0⟩⟩
    | some k =>
      obtain ⟨_, a, b, _⟩ := firstZ_some hz
      rw [Nat.sub_zero] at a b
      have : (k : Int) ∈ p.free := (hO.fr _).2 ⟨by omega, by omega, b⟩
      rw [c0] at this
      cases this
  · rw [if_neg c0] at h
    simp only [Prod.mk.injEq] at h
    obtain ⟨⟨hx, rfl⟩, rfl⟩ := h
    have hl0 : 0 < p.free.length := List.length_pos_iff.2 c0
    obtain ⟨_, q1, q2, q3, q4, q5⟩ := pop_ok ltI_ord hO.hp hl0
    have hm : (popV 0 ltI p.free).1 ∈ p.free := q2.mem_iff.1 List.mem_cons_self
    rw [hx] at q2 q5 hm ⊢
    obtain ⟨a1, a2, a3⟩ := (hO.fr _).1 hm
    cases hz : firstZ p.held 0 with
    | none => exact absurd a3 (firstZ_none hz _ (by omega))
    | some k =>
      rw [hz] at h'
      simp only [Prod.mk.injEq] at h'
      obtain ⟨⟨rfl, rfl⟩, rfl⟩ := h'
      obtain ⟨_, b1, b2, b3⟩ := firstZ_some hz
      rw [Nat.sub_zero] at b1 b2 b3
      have hk : (k : Int) ∈ p.free := (hO.fr _).2 ⟨by omega, by omega, b2⟩
      have h5 := q5 _ hk
      unfold ltI at h5
      rw [decide_eq_false_iff_not] at h5
      have h6 : ¬ x.toNat < k := fun hlt => b3 _ hlt a3
      obtain rfl : x = k := by omega
      rw [Int.toNat_natCast]
      have nd : ((k : Int) :: (popV 0 ltI p.free).2).Nodup := q2.nodup_iff.2 hO.nd
      rw [List.nodup_cons] at nd
      refine ⟨rfl, rfl, rfl, ⟨by rw [List.length_set]; exact hO.h1, by rw [List.length_set]; exact hO.h2, q3, nd.2, fun y => ?_, set_bd hO.bd (by omega)⟩, by rw [List.length_set], .inl ⟨rfl, k, rfl, b1, b2, rfl⟩⟩
      show y ∈ (popV 0 ltI p.free).2 ↔ 0 ≤ y ∧ y < ((p.held.set k 1).length : Int) ∧ at_ 0 (p.held.set k 1) y.toNat = 0
      rw [List.length_set, at_set b1]
      have hy : y ∈ p.free ↔ y = k ∨ y ∈ (popV 0 ltI p.free).2 := by rw [← q2.mem_iff, List.mem_cons]
      constructor
      · intro h
        obtain ⟨c1, c2, c3⟩ := (hO.fr y).1 (hy.2 (.inr h))
        have hne : y.toNat ≠ k := fun e => nd.1 (by rw [← show y = (k : Int) by omega]; exact h)
        exact ⟨c1, c2, by rw [if_neg hne]; exact c3⟩
      · rintro ⟨c1, c2, c3⟩
        by_cases e : y.toNat = k
        · rw [if_pos e] at c3; omega
        · rw [if_neg e] at c3
          rcases hy.1 ((hO.fr y).2 ⟨c1, c2, c3⟩) with h | h
          · omega
          · exact h
theorem hold_sim {p : PS} (hO : Ok p) (n : Int) {r r' : Int} {p' : PS} {L' : List Int} (h : holdV p n = (r, p')) (h' : dholdV p.held n = (r', L')) : r = r' ∧ p'.held = L' ∧ Ok p' ∧ p'.held.length = p.held.length ∧
    ((r = 1 ∧ heldV p.held n = 0 ∧ p' = p) ∨ (r = 5 ∧ heldV p.held n = 2147483647 ∧ p' = p) ∨ (r = 0 ∧ 0 < heldV p.held n ∧ heldV p.held n < 2147483647 ∧ p'.held = p.held.set n.toNat (heldV p.held n + 1))) := by
  have bd := held_bd hO n
  unfold holdV at h
  unfold dholdV at h'
  by_cases c0 : heldV p.held n = 0
  · rw [if_pos c0] at h h'
    simp only [Prod.mk.injEq] at h h'
    obtain ⟨rfl, rfl⟩ := h
    obtain ⟨rfl, rfl⟩ := h'
    exact ⟨rfl, rfl, hO, rfl, .inl ⟨rfl, c0, rfl⟩⟩
  · rw [if_neg c0] at h h'
    by_cases c1 : heldV p.held n = 2147483647
    · rw [if_pos c1] at h
      rw [if_pos (by omega)] at h'
      simp only [Prod.mk.injEq] at h h'
      obtain ⟨rfl, rfl⟩ := h
      obtain ⟨rfl, rfl⟩ := h'
      exact ⟨rfl, rfl, hO, rfl, .inr (.inl ⟨rfl, c1, rfl⟩)⟩
    · rw [if_neg c1] at h
      rw [if_neg (by omega)] at h'
      simp only [Prod.mk.injEq] at h h'
      obtain ⟨rfl, rfl⟩ := h
      obtain ⟨rfl, rfl⟩ := h'
      obtain ⟨k, rfl, hk, hxk⟩ := held_in c0
      rw [Int.toNat_natCast]
      refine ⟨rfl, rfl, ⟨by rw [List.length_set]; exact hO.h1, by rw [List.length_set]; exact hO.h2, hO.hp, hO.nd, fun y => ?_, set_bd hO.bd (by omega)⟩, by rw [List.length_set], .inr (.inr ⟨rfl, by omega, by omega, rfl⟩)⟩
      rw [hO.fr y, List.length_set, at_set hk]
      constructor
      · rintro ⟨a, b, c⟩
        exact ⟨a, b, by rw [if_neg (fun e => c0 (by rw [hxk, ← e]; exact c))]; exact c⟩
      · rintro ⟨a, b, c⟩
        refine ⟨a, b, ?_⟩
        by_cases e : y.toNat = k
        · rw [if_pos e] at c; omega
        · rw [if_neg e] at c; exact c
theorem drop_sim {p : PS} (hO : Ok p) (n : Int) {r r' : Bool} {e e' : Int} {p' : PS} {L' : List Int} (h : dropV p n = ((r, e), p')) (h' : ddropV p.held n = ((r', e'), L')) : r = r' ∧ e = e' ∧ p'.held = L' ∧ Ok p' ∧ p'.held.length = p.held.length ∧
    ((e = 1 ∧ r = false ∧ heldV p.held n = 0 ∧ p' = p) ∨ (e = 0 ∧ 0 < heldV p.held n ∧ r = decide (heldV p.held n = 1) ∧ p'.held = p.held.set n.toNat (heldV p.held n - 1))) := by
  have bd := held_bd hO n
  unfold dropV at h
  unfold ddropV at h'
  by_cases c0 : heldV p.held n = 0
  · rw [if_pos c0] at h h'
    simp only [Prod.mk.injEq] at h h'
    obtain ⟨⟨rfl, rfl⟩, rfl⟩ := h
    obtain ⟨⟨rfl, rfl⟩, rfl⟩ := h'
    exact ⟨rfl, rfl, rfl, hO, rfl, .inl ⟨rfl, rfl, c0, rfl⟩⟩
  · rw [if_neg c0] at h h'
    simp only [Prod.mk.injEq] at h'
    obtain ⟨⟨rfl, rfl⟩, rfl⟩ := h'
    obtain ⟨k, rfl, hk, hxk⟩ := held_in c0
    rw [Int.toNat_natCast] at h ⊢
    by_cases c1 : 1 < heldV p.held k
    · rw [if_pos c1] at h
      simp only [Prod.mk.injEq] at h
      obtain ⟨⟨rfl, rfl⟩, rfl⟩ := h
      refine ⟨(decide_eq_false (by omega)).symm, rfl, rfl, ⟨by rw [List.length_set]; exact hO.h1, by rw [List.length_set]; exact hO.h2, hO.hp, hO.nd, fun y => ?_, set_bd hO.bd (by omega)⟩, by rw [List.length_set], .inr ⟨rfl, by omega, (decide_eq_false (by omega)).symm, rfl⟩⟩
      rw [hO.fr y, List.length_set, at_set hk]
      constructor
      · rintro ⟨a, b, c⟩
        exact ⟨a, b, by rw [if_neg (fun e => c0 (by rw [hxk, ← e]; exact c))]; exact c⟩
      · rintro ⟨a, b, c⟩
        refine ⟨a, b, ?_⟩
        by_cases e : y.toNat = k
        · rw [if_pos e] at c; omega
        · rw [if_neg e] at c; exact c
    · rw [if_neg c1] at h
      simp only [Prod.mk.injEq] at h
      obtain ⟨⟨rfl, rfl⟩, rfl⟩ := h
      have x1 : heldV p.held k = 1 := by omega
      obtain ⟨q1, q2, q3⟩ := push_ok ltI_ord hO.hp (k : Int)
      have hnf : (k : Int) ∉ p.free := fun hf => by
        have := ((hO.fr _).1 hf).2.2
        rw [Int.toNat_natCast, ← hxk] at this
        exact c0 this
      refine ⟨(decide_eq_true (by omega)).symm, rfl, rfl, ⟨by rw [List.length_set]; exact hO.h1, by rw [List.length_set]; exact hO.h2, q2, q1.nodup_iff.2 (List.nodup_cons.2 ⟨hnf, hO.nd⟩), fun y => ?_, set_bd hO.bd (by omega)⟩, by rw [List.length_set], .inr ⟨rfl, by omega, (decide_eq_true x1).symm, rfl⟩⟩
      show y ∈ pushV 0 ltI p.free (k : Int) ↔ _
      rw [q1.mem_iff, List.mem_cons, hO.fr y, List.length_set, at_set hk]
      constructor
      · rintro (rfl | ⟨a, b, c⟩)
        · exact ⟨by omega, by omega, by rw [if_pos (Int.toNat_natCast k)]; omega⟩
        · exact ⟨a, b, by rw [if_neg (fun e => c0 (by rw [hxk, ← e]; exact c))]; exact c⟩
      · rintro ⟨a, b, c⟩
        by_cases e : y.toNat = k
        · exact .inl (by omega)
        · rw [if_neg e] at c; exact .inr ⟨a, b, c⟩
/-- what is free and what is used are all -/
theorem count_all {p : PS} (hO : Ok p) : (p.free.length : Int) = (p.held.length : Int) - ((usedV p.held p.held.length).length : Int) := by
  have bd : ∀ k, k < p.held.length → 0 ≤ at_ 0 p.held k := fun k hk => (hO.bd _ (at_mem hk)).1
  have h1 : p.free.Perm (((List.range p.held.length).filter (fun k => decide (at_ 0 p.held k = 0))).map (fun k : Nat => (k : Int))) := by
    refine (List.perm_ext_iff_of_nodup hO.nd ?_).2 fun x => ?_
    · rw [List.nodup_iff_pairwise_ne, List.pairwise_map]
      exact ((List.nodup_iff_pairwise_ne.1 List.nodup_range).sublist List.filter_sublist).imp (fun h e => h (by omega))
    · rw [hO.fr x, List.mem_map]
      constructor
      · rintro ⟨a, b, c⟩
        exact ⟨x.toNat, List.mem_filter.2 ⟨List.mem_range.2 (by omega), decide_eq_true c⟩, by omega⟩
      · rintro ⟨k, hk, rfl⟩
        obtain ⟨a, b⟩ := List.mem_filter.1 hk
        have := List.mem_range.1 a
        exact ⟨by omega, by omega, by simpa using b⟩
  have h2 := h1.length_eq
  rw [List.length_map] at h2
  have h3 : (usedV p.held p.held.length).length = ((List.range p.held.length).filter (fun k => !decide (at_ 0 p.held k = 0))).length := by
    unfold usedV
    rw [List.length_map]
    congr 1
    refine List.filter_congr fun k hk => ?_
    have hk' := List.mem_range.1 hk
    have := bd k hk'
    by_cases c : at_ 0 p.held k = 0
    · rw [decide_eq_true c, decide_eq_false (by omega)]; rfl
    · rw [decide_eq_false c, decide_eq_true (by omega)]; rfl
  have h4 : ∀ (f : Nat → Bool) (l : List Nat), (l.filter f).length + (l.filter (fun k => !f k)).length = l.length := by
    intro f l
    induction l with
    | nil => rfl
    | cons a l ih =>
      rw [List.filter_cons, List.filter_cons, List.length_cons]
      cases f a <;> simp <;> omega
  have := h4 (fun k => decide (at_ 0 p.held k = 0)) (List.range p.held.length)
  rw [List.length_range] at this
  omega
end Go.Proofs.Ytiekmjkeoicjfaa.Pg
