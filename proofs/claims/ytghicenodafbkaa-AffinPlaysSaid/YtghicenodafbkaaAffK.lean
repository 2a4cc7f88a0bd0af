/- AffinKeeps, plain: a table of bindings beside what was bound and used; no condition but those that stand in each. -/
import Derived.Test.YtghicenodafbkaaAffF
import Derived.Test.YtghicenodafbkaaTabB
import Derived.Test.YtghicenodafbkaaTabU
namespace Go.Proofs.Ytghicenodafbkaa.Aff
set_option linter.unusedVariables false
set_option linter.unusedSimpArgs false
open Go.RowKit Go.Proofs.Ytghicenodafbkaa.PA Go.Proofs.YtghicenodafbkaaW.PrintWords Go.Proofs.YtghicenodafbkaaW.PrintLast Go.Proofs.YtghicenodafbkaaW.PrintMore Go.Proofs.Ytghicenodafbkaa.Tab
theorem find_put_tab (l : List Tab.Bk) (k x y k' : Int) : (Tab.putV l k x y).find? (fun q => q.key == k') = if k' = k then some ⟨k, x, y⟩ else l.find? (fun q => q.key == k') := by
  unfold Tab.putV
  by_cases h : k' = k
  · rw [if_pos h, List.find?_cons_of_pos (by simpa using h.symm)]
  · rw [if_neg h, List.find?_cons_of_neg (by simpa using fun e => h e.symm)]
    exact Maps.find_filter_keep (fun p hp => by
      have : p.key = k' := by simpa using hp
      rw [this]; simpa using h) l
theorem find_del_tab (l : List Tab.Bk) (k k' : Int) : (Tab.delV l k).find? (fun q => q.key == k') = if k' = k then none else l.find? (fun q => q.key == k') := by
  unfold Tab.delV
  by_cases h : k' = k
  · rw [if_pos h]
    refine List.find?_eq_none.2 fun q hq e => ?_
    have a := (List.mem_filter.1 hq).2
    have b : q.key = k' := by simpa using e
    rw [b, h] at a
    simp at a
  · rw [if_neg h]
    exact Maps.find_filter_keep (fun p hp => by
      have : p.key = k' := by simpa using hp
      rw [this]; simpa using h) l
theorem put_len_tab (l : List Tab.Bk) (k x y : Int) : (Tab.putV l k x y).length ≤ l.length + 1 := by
  unfold Tab.putV
  rw [List.length_cons]
  have := List.length_filter_le (fun q => !(q.key == k)) l
  omega
theorem put_keys_tab {l : List Tab.Bk} (h : (l.map (·.key)).Nodup) (k x y : Int) : ((Tab.putV l k x y).map (·.key)).Nodup := by
  unfold Tab.putV
  rw [List.map_cons, List.nodup_cons]
  refine ⟨fun hm => ?_, h.sublist (List.filter_sublist.map _)⟩
  obtain ⟨q, hq, e⟩ := List.mem_map.1 hm
  have := (List.mem_filter.1 hq).2
  rw [e] at this
  simp at this
theorem mem_find_tab {l : List Tab.Bk} {k : Int} : k ∈ l.map (·.key) ↔ (l.find? (fun q => q.key == k)).isSome = true := by
  rw [List.find?_isSome, List.mem_map]
  constructor
  · rintro ⟨q, hq, e⟩; exact ⟨q, hq, by simpa using e⟩
  · rintro ⟨q, hq, e⟩; exact ⟨q, hq, by simpa using e⟩
theorem find_put_tabb (l : List TabB.Bk) (k x k' : Int) : (TabB.putV l k x).find? (fun q => q.key == k') = if k' = k then some ⟨k, x⟩ else l.find? (fun q => q.key == k') := by
  unfold TabB.putV
  by_cases h : k' = k
  · rw [if_pos h, List.find?_cons_of_pos (by simpa using h.symm)]
  · rw [if_neg h, List.find?_cons_of_neg (by simpa using fun e => h e.symm)]
    exact Maps.find_filter_keep (fun p hp => by
      have : p.key = k' := by simpa using hp
      rw [this]; simpa using h) l
theorem find_del_tabb (l : List TabB.Bk) (k k' : Int) : (TabB.delV l k).find? (fun q => q.key == k') = if k' = k then none else l.find? (fun q => q.key == k') := by
  unfold TabB.delV
  by_cases h : k' = k
  · rw [if_pos h]
    refine List.find?_eq_none.2 fun q hq e => ?_
    have a := (List.mem_filter.1 hq).2
    have b : q.key = k' := by simpa using e
    rw [b, h] at a
    simp at a
  · rw [if_neg h]
    exact Maps.find_filter_keep (fun p hp => by
      have : p.key = k' := by simpa using hp
      rw [this]; simpa using h) l
theorem put_len_tabb (l : List TabB.Bk) (k x : Int) : (TabB.putV l k x).length ≤ l.length + 1 := by
  unfold TabB.putV
  rw [List.length_cons]
  have := List.length_filter_le (fun q => !(q.key == k)) l
  omega
theorem put_keys_tabb {l : List TabB.Bk} (h : (l.map (·.key)).Nodup) (k x : Int) : ((TabB.putV l k x).map (·.key)).Nodup := by
  unfold TabB.putV
  rw [List.map_cons, List.nodup_cons]
  refine ⟨fun hm => ?_, h.sublist (List.filter_sublist.map _)⟩
  obtain ⟨q, hq, e⟩ := List.mem_map.1 hm
  have := (List.mem_filter.1 hq).2
  rw [e] at this
  simp at this
theorem mem_find_tabb {l : List TabB.Bk} {k : Int} : k ∈ l.map (·.key) ↔ (l.find? (fun q => q.key == k)).isSome = true := by
  rw [List.find?_isSome, List.mem_map]
  constructor
  · rintro ⟨q, hq, e⟩; exact ⟨q, hq, by simpa using e⟩
  · rintro ⟨q, hq, e⟩; exact ⟨q, hq, by simpa using e⟩
theorem find_put_tabu (l : List TabU.Bk) (k x k' : Int) : (TabU.putV l k x).find? (fun q => q.key == k') = if k' = k then some ⟨k, x⟩ else l.find? (fun q => q.key == k') := by
  unfold TabU.putV
  by_cases h : k' = k
  · rw [if_pos h, List.find?_cons_of_pos (by simpa using h.symm)]
  · rw [if_neg h, List.find?_cons_of_neg (by simpa using fun e => h e.symm)]
    exact Maps.find_filter_keep (fun p hp => by
      have : p.key = k' := by simpa using hp
      rw [this]; simpa using h) l
theorem find_del_tabu (l : List TabU.Bk) (k k' : Int) : (TabU.delV l k).find? (fun q => q.key == k') = if k' = k then none else l.find? (fun q => q.key == k') := by
  unfold TabU.delV
  by_cases h : k' = k
  · rw [if_pos h]
    refine List.find?_eq_none.2 fun q hq e => ?_
    have a := (List.mem_filter.1 hq).2
    have b : q.key = k' := by simpa using e
    rw [b, h] at a
    simp at a
  · rw [if_neg h]
    exact Maps.find_filter_keep (fun p hp => by
      have : p.key = k' := by simpa using hp
      rw [this]; simpa using h) l
theorem put_len_tabu (l : List TabU.Bk) (k x : Int) : (TabU.putV l k x).length ≤ l.length + 1 := by
  unfold TabU.putV
  rw [List.length_cons]
  have := List.length_filter_le (fun q => !(q.key == k)) l
  omega
theorem put_keys_tabu {l : List TabU.Bk} (h : (l.map (·.key)).Nodup) (k x : Int) : ((TabU.putV l k x).map (·.key)).Nodup := by
  unfold TabU.putV
  rw [List.map_cons, List.nodup_cons]
  refine ⟨fun hm => ?_, h.sublist (List.filter_sublist.map _)⟩
  obtain ⟨q, hq, e⟩ := List.mem_map.1 hm
  have := (List.mem_filter.1 hq).2
  rw [e] at this
  simp at this
theorem mem_find_tabu {l : List TabU.Bk} {k : Int} : k ∈ l.map (·.key) ↔ (l.find? (fun q => q.key == k)).isSome = true := by
  rw [List.find?_isSome, List.mem_map]
  constructor
  · rintro ⟨q, hq, e⟩; exact ⟨q, hq, by simpa using e⟩
  · rintro ⟨q, hq, e⟩; exact ⟨q, hq, by simpa using e⟩
theorem find_filter {f : Bk → Bool} {k : Int} : ∀ (l : List Bk), (l.map (·.key)).Nodup → (l.filter f).find? (fun q => q.key == k) = (l.find? (fun q => q.key == k)).filter f
  | [], _ => rfl
  | q :: l, h => by
    rw [List.map_cons, List.nodup_cons] at h
    have ih := find_filter (f := f) (k := k) l h.2
    by_cases hk : q.key = k
    · rw [List.find?_cons_of_pos (by simpa using hk)]
      cases hf : f q
      · rw [List.filter_cons_of_neg (by simp [hf]), ih]
        have : l.find? (fun q => q.key == k) = none := List.find?_eq_none.2 fun q' hq' e => h.1 (List.mem_map.2 ⟨q', hq', by rw [hk]; simpa using e⟩)
        rw [this]
        simp [hf, Option.filter]
      · rw [List.filter_cons_of_pos hf, List.find?_cons_of_pos (by simpa using hk)]
        simp [hf, Option.filter]
    · rw [List.find?_cons_of_neg (by simpa using hk)]
      cases hf : f q
      · rw [List.filter_cons_of_neg (by simp [hf]), ih]
      · rw [List.filter_cons_of_pos hf, List.find?_cons_of_neg (by simpa using hk), ih]
theorem len_le {α : Type} [BEq α] [LawfulBEq α] : ∀ {a b : List α}, a.Nodup → (∀ x ∈ a, x ∈ b) → a.length ≤ b.length
  | [], _, _, _ => Nat.zero_le _
  | x :: a, b, h, hs => by
    rw [List.nodup_cons] at h
    have hx := hs x List.mem_cons_self
    have := len_le (a := a) (b := b.erase x) h.2 fun y hy => by
      have hy' := hs y (List.mem_cons_of_mem _ hy)
      have hne : y ≠ x := by rintro rfl; exact h.1 hy
      exact (List.mem_erase_of_ne hne).2 hy'
    rw [List.length_erase_of_mem hx] at this
    have : 0 < b.length := List.length_pos_of_mem hx
    rw [List.length_cons]
    omega
theorem later_fields (s : TS) (now : Int) : (laterV s now).room = s.room ∧ (laterV s now).keep = s.keep ∧ (laterT s now).l = s.l ∧ (laterV s now).now = (laterT s now).now := by
  unfold laterV laterT
  by_cases h : now ≤ 1099511627776
  · simp [h]
  · simp [h]
theorem tick_is {s : TS} {now : Int} (h : now ≤ 1099511627776) (h' : s.now ≤ now) : (laterT s now).now = now := by
  unfold laterT mx
  rw [if_pos h]
  dsimp only
  split <;> omega
theorem later_l (s : TS) (now : Int) : (laterV s now).l = s.l.filter (fun q => !endB (laterT s now) q) := by
  unfold laterV
  dsimp only
  rw [(later_fields s now).2.2.1]
theorem later_len (s : TS) (now : Int) : (laterV s now).l.length ≤ s.l.length := by rw [later_l]; exact List.length_filter_le _ _
theorem Ok.put {t : TS} (h : Ok t) {k x y : Int} (hx : 0 ≤ x ∧ x ≤ 18446744073709551615) (hy : 0 ≤ y ∧ y ≤ 1103806595072) (hl : hasK t.l k = false → (t.l.length : Int) < t.room) : Ok { t with l := putV t.l k x y } := by
  refine ⟨h.1, h.2, h.3, h.4, h.5, h.6, fun q hq => ?_, fun q hq => ?_, ?_, put_keys_tab h.keys _ _ _⟩
  · rcases List.mem_cons.1 hq with rfl | hq
    · exact hx
    · exact h.reps q (List.mem_filter.1 hq).1
  · rcases List.mem_cons.1 hq with rfl | hq
    · exact hy
    · exact h.ends q (List.mem_filter.1 hq).1
  · show ((putV t.l k x y).length : Int) ≤ t.room
    unfold putV
    rw [List.length_cons]
    by_cases hk : hasK t.l k = true
    · obtain ⟨q, hq, e⟩ := List.any_eq_true.1 hk
      have e' : q.key = k := by simpa using e
      have : (t.l.filter (fun q => !(q.key == k))).length < t.l.length := by
        refine List.length_filter_lt_length_iff_exists.2 ⟨q, hq, by simp [e']⟩
      have := h.len
      omega
    · have hk' : hasK t.l k = false := by simpa using hk
      have := hl hk'
      have := List.length_filter_le (fun q => !(q.key == k)) t.l
      omega
/-! ### the table beside what was bound and used -/
abbrev fnd (l : List Bk) (k : Int) : Option Bk := l.find? (fun q => q.key == k)
def bnd (lb : List TabB.Bk) (k : Int) : Int := (TabB.lookV lb k).1
def Rel (T : Int) (l : List Bk) (lb : List TabB.Bk) (lu : List TabU.Bk) : Prop := ∀ k, fnd l k = match lu.find? (fun q => q.key == k) with
  | some u => if T < u.x + 100 then some ⟨k, bnd lb k, u.x + 100⟩ else none
  | none => none
structure KI (i : Nat) (now : Int) (s : TS) (lb : List TabB.Bk) (lu : List TabU.Bk) : Prop where
  ok : Ok s
  room : s.room = 1024
  keep : s.keep = 100
  n0 : s.now ≤ now
  n1 : now ≤ i * 1000
  ls : s.l.length ≤ i
  bl : lb.length ≤ i
  ul : lu.length ≤ i
  ub : ∀ u ∈ lu, 0 ≤ u.x ∧ u.x ≤ now
  uk : (lu.map (·.key)).Nodup
  rel : Rel s.now s.l lb lu
theorem KI.start : KI 0 0 ⟨1024, 100, 0, []⟩ [] [] :=
  ⟨ok_new (by unfold MayB; omega), rfl, rfl, Int.le_refl _, by decide, Nat.le_refl _, Nat.le_refl _, Nat.le_refl _, (fun u hu => by cases hu), List.nodup_nil, fun k => rfl⟩
theorem KI.on {i : Nat} {now : Int} {s : TS} {lb : List TabB.Bk} {lu : List TabU.Bk} (h : KI i now s lb lu) {now' : Int} (h0 : now ≤ now') (h1 : now' ≤ now + 1000) : KI (i + 1) now' s lb lu ∧ s.l.length ≤ i ∧ lb.length ≤ i ∧ lu.length ≤ i :=
  ⟨⟨h.ok, h.room, h.keep, Int.le_trans h.n0 h0, by have := h.n1; omega, Nat.le_succ_of_le h.ls, Nat.le_succ_of_le h.bl, Nat.le_succ_of_le h.ul, fun u hu => by have := h.ub u hu; omega, h.uk, h.rel⟩, h.ls, h.bl, h.ul⟩
theorem KI.later {i : Nat} {now : Int} {s : TS} {lb : List TabB.Bk} {lu : List TabU.Bk} (h : KI i now s lb lu) (hi : i ≤ 151) : KI i now (laterV s now) lb lu ∧ (laterV s now).now = now ∧ (laterV s now).l.length ≤ s.l.length := by
  obtain ⟨e1, e2, e3, e4⟩ := later_fields s now
  have hT := tick_is (s := s) (now := now) (by have := h.n1; omega) h.n0
  rw [hT] at e4
  have hl := later_len s now
  refine ⟨⟨h.ok.later now, by rw [e1]; exact h.room, by rw [e2]; exact h.keep, by rw [e4]; exact Int.le_refl _, h.n1, Nat.le_trans hl h.ls, h.bl, h.ul, h.ub, h.uk, fun k => ?_⟩, e4, hl⟩
  unfold fnd
  rw [later_l, find_filter _ h.ok.keys, e4]
  have r := h.rel k
  unfold fnd at r
  rw [r]
  cases lu.find? (fun q => q.key == k) with
  | none => rfl
  | some u =>
    dsimp only
    have n0 := h.n0
    by_cases c1 : s.now < u.x + 100
    · rw [if_pos c1]
      by_cases c2 : now < u.x + 100
      · rw [if_pos c2]
        simp only [Option.filter, endB, hT]
        rw [decide_eq_false (by omega)]
        rfl
      · rw [if_neg c2]
        simp only [Option.filter, endB, hT]
        rw [decide_eq_true (by omega)]
        rfl
    · rw [if_neg c1, if_neg (by omega)]
      rfl
theorem bnd_put (lb : List TabB.Bk) (k rp k' : Int) : bnd (TabB.putV lb k rp) k' = if k' = k then rp else bnd lb k' := by
  unfold bnd TabB.lookV
  rw [find_put_tabb]
  by_cases he : k' = k
  · rw [if_pos he, if_pos he]
  · rw [if_neg he, if_neg he]
theorem look_fnd (l : List Bk) (k : Int) : lookV l k = match fnd l k with | some q => (q.x, q.y, true) | none => (0, 0, false) := rfl
theorem keeps_find {j : Nat} {now : Int} {s : TS} {lb : List TabB.Bk} {lu : List TabU.Bk} (h : KI (j + 1) now s lb lu) (hj : j ≤ 150) (l1 : s.l.length ≤ j) (l3 : lu.length ≤ j) (k : Int) : ∃ r ok s' at_ was, findV s now k = ((r, ok), s') ∧ TabU.lookV lu k = (at_, was) ∧ ok = (was && decide (now < at_ + 100)) ∧ 0 ≤ at_ ∧ at_ ≤ now ∧
    ((ok = true ∧ r = bnd lb k ∧ KI (j + 1) now s' lb (TabU.putV lu k now)) ∨ (ok = false ∧ r = 0 ∧ KI (j + 1) now s' lb (TabU.delV lu k))) := by
  obtain ⟨q, en, el⟩ := h.later (by omega)
  have hk := q.rel k
  rw [en] at hk
  have nn : 0 ≤ now := by have := q.ok.now1; omega
  unfold findV
  dsimp only
  unfold TabU.lookV
  cases hu : lu.find? (fun q => q.key == k) with
  | none =>
    rw [hu] at hk
    have e : lookV (laterV s now).l k = (0, 0, false) := by rw [look_fnd, hk]
    rw [e]
    refine ⟨0, false, _, 0, false, rfl, rfl, rfl, Int.le_refl _, nn, .inr ⟨rfl, rfl, ⟨q.ok, q.room, q.keep, q.n0, q.n1, q.ls, q.bl, ?_, ?_, ?_, ?_⟩⟩⟩
    · have := List.length_filter_le (fun q => !(q.key == k)) lu
      unfold TabU.delV; omega
    · intro u hu; exact q.ub u (List.mem_filter.1 hu).1
    · exact q.uk.sublist (List.filter_sublist.map _)
    · intro k'
      rw [find_del_tabu]
      by_cases he : k' = k
      · rw [if_pos he, he, q.rel k, hu]
      · rw [if_neg he]; exact q.rel k'
  | some u =>
    have hb := q.ub u (List.mem_of_find?_eq_some hu)
    have hkey : u.key = k := by have := List.find?_some hu; simpa using this
    dsimp only
    rw [hu] at hk
    dsimp only at hk
    by_cases c : now < u.x + 100
    · rw [if_pos c] at hk
      have e : lookV (laterV s now).l k = (bnd lb k, u.x + 100, true) := by rw [look_fnd, hk]
      rw [e]
      refine ⟨bnd lb k, true, _, u.x, true, rfl, rfl, by rw [decide_eq_true c]; rfl, hb.1, hb.2, .inl ⟨rfl, rfl, ?_⟩⟩
      have hmem : fnd (laterV s now).l k = some ⟨k, bnd lb k, u.x + 100⟩ := by rw [q.rel k, hu, en]; dsimp only; rw [if_pos c]
      have hx := q.ok.reps _ (List.mem_of_find?_eq_some hmem)
      dsimp only at hx
      refine ⟨q.ok.put hx ?_ ?_, q.room, q.keep, by show (laterV s now).now ≤ now; omega, q.n1, ?_, q.bl, ?_, ?_, put_keys_tabu q.uk _ _, ?_⟩
      · have := q.keep; have := q.n1; omega
      · intro _; have := q.room; omega
      · have := put_len_tab (laterV s now).l k (bnd lb k) ((laterV s now).now + (laterV s now).keep)
        show (putV (laterV s now).l k (bnd lb k) ((laterV s now).now + (laterV s now).keep)).length ≤ _
        omega
      · have := put_len_tabu lu k now; omega
      · intro v hv
        rcases List.mem_cons.1 hv with rfl | hv
        · exact ⟨nn, Int.le_refl _⟩
        · exact q.ub v (List.mem_filter.1 hv).1
      · intro k'
        show fnd (putV _ _ _ _) k' = _
        unfold fnd
        rw [find_put_tab, find_put_tabu, en, q.keep]
        by_cases he : k' = k
        · rw [if_pos he, if_pos he]
          show _ = if now < now + 100 then _ else _
          rw [if_pos (by omega), he]
        · rw [if_neg he, if_neg he]
          have := q.rel k'
          rw [en] at this
          exact this
    · rw [if_neg c] at hk
      have e : lookV (laterV s now).l k = (0, 0, false) := by rw [look_fnd, hk]
      rw [e]
      refine ⟨0, false, _, u.x, true, rfl, rfl, by rw [decide_eq_false c]; rfl, hb.1, hb.2, .inr ⟨rfl, rfl, ⟨q.ok, q.room, q.keep, q.n0, q.n1, q.ls, q.bl, ?_, ?_, ?_, ?_⟩⟩⟩
      · have := List.length_filter_le (fun q => !(q.key == k)) lu
        unfold TabU.delV; omega
      · intro u hu; exact q.ub u (List.mem_filter.1 hu).1
      · exact q.uk.sublist (List.filter_sublist.map _)
      · intro k'
        rw [find_del_tabu]
        by_cases he : k' = k
        · rw [if_pos he, he, q.rel k, hu, en]
          dsimp only
          rw [if_neg c]
        · rw [if_neg he]; exact q.rel k'
theorem keeps_bind {j : Nat} {now : Int} {s : TS} {lb : List TabB.Bk} {lu : List TabU.Bk} (h : KI (j + 1) now s lb lu) (hj : j ≤ 150) (l1 : s.l.length ≤ j) (l2 : lb.length ≤ j) (l3 : lu.length ≤ j) (k rp : Int) (hrp : 0 ≤ rp ∧ rp ≤ 18446744073709551615) : (hasK (laterV s now).l k = false → ((laterV s now).l.length : Int) ≠ s.room) ∧ KI (j + 1) now (bindV s now k rp) (TabB.putV lb k rp) (TabU.putV lu k now) := by
  obtain ⟨q, en, el⟩ := h.later (by omega)
  have nn : 0 ≤ now := by have := q.ok.now1; omega
  refine ⟨fun _ => by have := h.room; omega, ?_⟩
  unfold bindV
  dsimp only
  refine ⟨q.ok.put hrp ?_ ?_, q.room, q.keep, by show (laterV s now).now ≤ now; omega, q.n1, ?_, ?_, ?_, ?_, put_keys_tabu q.uk _ _, ?_⟩
  · have := q.keep; have := q.n1; omega
  · intro _; have := q.room; omega
  · have := put_len_tab (laterV s now).l k rp ((laterV s now).now + (laterV s now).keep)
    show (putV _ _ _ _).length ≤ _
    omega
  · have := put_len_tabb lb k rp; omega
  · have := put_len_tabu lu k now; omega
  · intro v hv
    rcases List.mem_cons.1 hv with rfl | hv
    · exact ⟨nn, Int.le_refl _⟩
    · exact q.ub v (List.mem_filter.1 hv).1
  · intro k'
    show fnd (putV _ _ _ _) k' = _
    unfold fnd
    rw [find_put_tab, find_put_tabu, bnd_put, en, q.keep]
    by_cases he : k' = k
    · rw [if_pos he, if_pos he, if_pos he]
      show _ = if now < now + 100 then _ else _
      rw [if_pos (by omega), he]
    · rw [if_neg he, if_neg he, if_neg he]
      have := q.rel k'
      rw [en] at this
      exact this
theorem keeps_len {i : Nat} {now : Int} {s : TS} {lb : List TabB.Bk} {lu : List TabU.Bk} (h : KI i now s lb lu) (hi : i ≤ 151) : (laterV s now).l.length ≤ lu.length := by
  obtain ⟨q, en, el⟩ := h.later hi
  have := len_le (a := (laterV s now).l.map (·.key)) (b := lu.map (·.key)) q.ok.keys (fun k hk => by
    rw [mem_find_tab] at hk
    have r := q.rel k
    unfold fnd at r
    rw [r] at hk
    rw [mem_find_tabu]
    cases hu : lu.find? (fun q => q.key == k) with
    | none => rw [hu] at hk; cases hk
    | some u => rfl)
  simpa using this
end Go.Proofs.Ytghicenodafbkaa.Aff
