/- The table and the document's table, plain: they agree; no condition but those that stand in each. -/
import Derived.Test.YtdojihocnkakjaaQuoR5
namespace Go.Proofs.Ytdojihocnkakjaa.Quo
set_option linter.unusedVariables false
set_option linter.unusedSimpArgs false
open Go.RowKit Go.Proofs.Ytdojihocnkakjaa.PA Go.Proofs.YtdojihocnkakjaaW.PrintWords Go.Proofs.YtdojihocnkakjaaW.PrintLast Go.Proofs.YtdojihocnkakjaaW.PrintMore Go.Proofs.Ytdojihocnkakjaa.Tab Go.Proofs.Ytdojihocnkakjaa.SatMul Go.Proofs.Ytdojihocnkakjaa.Lst
/-! ### the document's list -/
theorem rF_gen {k m : Int} : ∀ (l : List Rb) (i : Nat), (match rplace k l i with | some j => (l.getD (j - i) ⟨0, 0⟩).f | none => m) = match l.find? (fun b => b.s == k) with | some b => b.f | none => m
  | [], i => rfl
  | b :: l, i => by
    rw [rplace]
    by_cases hk : b.s = k
    · rw [if_pos hk, List.find?_cons_of_pos (by simpa using hk)]
      simp
    · rw [if_neg hk, List.find?_cons_of_neg (by simpa using hk), ← rF_gen l (i + 1)]
      cases h : rplace k l (i + 1) with
      | none => rfl
      | some j =>
        obtain ⟨hj, _⟩ := rplace_some h
        show ((b :: l).getD (j - i) _).f = _
        rw [show j - i = (j - (i + 1)) + 1 by omega, List.getD_cons_succ]
theorem rF_def (r : RS) (k : Int) : rF r k = match r.l.find? (fun b => b.s == k) with | some b => b.f | none => r.most := rF_gen r.l 0
theorem rplace_no {k : Int} : ∀ {l : List Rb} {i : Nat}, rplace k l i = none ↔ l.find? (fun b => b.s == k) = none
  | [], i => by simp [rplace]
  | b :: l, i => by
    rw [rplace]
    by_cases hk : b.s = k
    · rw [if_pos hk, List.find?_cons_of_pos (by simpa using hk)]; simp
    · rw [if_neg hk, List.find?_cons_of_neg (by simpa using hk)]; exact rplace_no
theorem rset_find {k k' x : Int} : ∀ {l : List Rb} {i j : Nat}, rplace k l i = some j → (l.set (j - i) ⟨k, x⟩).find? (fun b => b.s == k') = if k' = k then some ⟨k, x⟩ else l.find? (fun b => b.s == k')
  | b :: l, i, j, h => by
    rw [rplace] at h
    split at h
    · rename_i hk
      injection h with h
      subst h
      rw [Nat.sub_self, List.set_cons_zero]
      by_cases he : k' = k
      · rw [if_pos he, List.find?_cons_of_pos (by simpa using he.symm)]
      · rw [if_neg he, List.find?_cons_of_neg (by simpa using fun e => he e.symm), List.find?_cons_of_neg (by rw [hk]; simpa using fun e => he e.symm)]
    · rename_i hk
      obtain ⟨hj, _⟩ := rplace_some h
      rw [show j - i = (j - (i + 1)) + 1 by omega, List.set_cons_succ]
      by_cases hb : b.s = k'
      · rw [List.find?_cons_of_pos (by simpa using hb), List.find?_cons_of_pos (by simpa using hb), if_neg (by rw [← hb]; exact hk)]
      · rw [List.find?_cons_of_neg (by simpa using hb), List.find?_cons_of_neg (by simpa using hb)]
        exact rset_find h
theorem rset_keys {k x : Int} : ∀ {l : List Rb} {i j : Nat}, rplace k l i = some j → (l.set (j - i) ⟨k, x⟩).map (·.s) = l.map (·.s)
  | b :: l, i, j, h => by
    rw [rplace] at h
    split at h
    · rename_i hk
      injection h with h
      subst h
      rw [Nat.sub_self, List.set_cons_zero, List.map_cons, List.map_cons, hk]
    · rename_i hk
      obtain ⟨hj, _⟩ := rplace_some h
      rw [show j - i = (j - (i + 1)) + 1 by omega, List.set_cons_succ, List.map_cons, List.map_cons, rset_keys h]
theorem rgrow_is {r : RS} (h : OkR r) {d f : Int} (hd : 0 ≤ d) (hf : 0 ≤ f) : rgrow r d f = mn (f + d * r.rate) r.most := by
  unfold rgrow
  split
  · rename_i hc
    have : d * 1 ≤ d * r.rate := Int.mul_le_mul_of_nonneg_left (by omega) hd
    unfold mn
    split <;> omega
  · rfl
theorem keep_find {r : RS} {d k : Int} : ∀ (l : List Rb), (l.map (·.s)).Nodup → (rkeep r d l).find? (fun b => b.s == k) = (l.find? (fun b => b.s == k)).bind fun b => if rgrow r d b.f < r.most then some ⟨b.s, rgrow r d b.f⟩ else none
  | [], _ => rfl
  | b :: l, h => by
    rw [List.map_cons, List.nodup_cons] at h
    have ih := keep_find (r := r) (d := d) (k := k) l h.2
    have ec : rkeep r d (b :: l) = (if rgrow r d b.f < r.most then [⟨b.s, rgrow r d b.f⟩] else []) ++ rkeep r d l := by
      unfold rkeep
      rw [List.filterMap_cons]
      split <;> simp_all
    rw [ec]
    by_cases hk : b.s = k
    · rw [List.find?_cons_of_pos (by simpa using hk)]
      split
      · rename_i hg
        rw [List.cons_append, List.find?_cons_of_pos (by simpa using hk)]
        simp [hg]
      · rename_i hg
        rw [List.nil_append, ih]
        have : l.find? (fun q => q.s == k) = none := List.find?_eq_none.2 fun q' hq' e => h.1 (List.mem_map.2 ⟨q', hq', by rw [hk]; simpa using e⟩)
        rw [this]
        simp [hg]
    · rw [List.find?_cons_of_neg (by simpa using hk)]
      split
      · rw [List.cons_append, List.find?_cons_of_neg (by simpa using hk)]; exact ih
      · exact ih
theorem keep_sub {r : RS} {d : Int} : ∀ (l : List Rb), ((rkeep r d l).map (·.s)).Sublist (l.map (·.s))
  | [] => List.Sublist.slnil
  | b :: l => by
    unfold rkeep
    rw [List.filterMap_cons]
    have ih := keep_sub (r := r) (d := d) l
    unfold rkeep at ih
    split
    · exact List.Sublist.cons _ ih
    · rename_i c hc
      split at hc
      · injection hc with hc
        subst hc
        exact List.Sublist.cons_cons _ ih
      · cases hc
theorem keep_unf {r : RS} {d : Int} {l : List Rb} : ∀ b ∈ rkeep r d l, b.f < r.most := by
  intro b hb
  obtain ⟨q, _, hq⟩ := List.mem_filterMap.1 hb
  split at hq
  · injection hq with hq; subst hq; assumption
  · cases hq
theorem rF_later {r : RS} (h : OkR r) (hn : (r.l.map (·.s)).Nodup) (now k : Int) : rF (rlaterV r now) k = mn (rF r k + rd_ r now * r.rate) r.most := by
  have d0 := (rd_bd h now).1
  have hp : 0 ≤ rd_ r now * r.rate := Int.mul_nonneg d0 h.rate1
  rw [rF_def, rF_def]
  show (match (rkeep r (rd_ r now) r.l).find? _ with | some b => b.f | none => r.most) = _
  rw [keep_find r.l hn]
  cases hf : r.l.find? (fun b => b.s == k) with
  | none =>
    show r.most = mn (r.most + _) _
    unfold mn; split <;> omega
  | some b =>
    have hb := h.fills b (List.mem_of_find?_eq_some hf)
    have e := rgrow_is h d0 hb.1
    show (match (if rgrow r (rd_ r now) b.f < r.most then some (⟨b.s, rgrow r (rd_ r now) b.f⟩ : Rb) else none) with | some b => b.f | none => r.most) = mn (b.f + _) _
    rw [e]
    split
    · rename_i b' hb'
      split at hb'
      · injection hb' with hb'; subst hb'; rfl
      · cases hb'
    · rename_i hb'
      split at hb'
      · cases hb'
      · rename_i hb'
        have : mn (b.f + rd_ r now * r.rate) r.most ≤ r.most := by unfold mn; split <;> omega
        omega
/-! ### both -/
structure Sim0 (s : TS) (r : RS) : Prop where
  ok : Ok s
  okr : OkR r
  room : s.room = r.room
  most : s.most = r.most
  rate : s.rate = r.rate
  T : s.now = r.T
  nd : (r.l.map (·.s)).Nodup
  F : ∀ k, F s k = rF r k
structure Sim (s : TS) (r : RS) : Prop extends Sim0 s r where
  us : ∀ q ∈ s.l, hasV s q.x q.y < s.most
  ur : ∀ b ∈ r.l, b.f < r.most
theorem has_le (s : TS) (x y : Int) : hasV s x y ≤ s.most := by unfold hasV mn; split <;> omega
theorem later_unf (s : TS) (now : Int) : ∀ q ∈ (laterV s now).l, hasV (laterV s now) q.x q.y < (laterV s now).most := by
  intro q hq
  have hq2 := (List.mem_filter.1 hq).2
  have := has_le (laterT s now) q.x q.y
  have ne : hasV (laterT s now) q.x q.y ≠ (laterT s now).most := by
    intro e
    unfold fullB at hq2
    rw [e] at hq2
    simp at hq2
  show hasV (laterT s now) q.x q.y < (laterT s now).most
  omega
theorem Sim0.Tn {s : TS} {r : RS} (h : Sim0 s r) (now : Int) : Tn s now - s.now = rd_ r now ∧ Tn s now = r.T + rd_ r now := by
  unfold Quo.Tn laterT rd_ mx
  rw [← h.T]
  by_cases c : now ≤ 1099511627776
  · rw [if_pos c]
    dsimp only
    (repeat' split) <;> omega
  · rw [if_neg c, if_neg (by omega)]
    omega
theorem Sim0.later {s : TS} {r : RS} (h : Sim0 s r) (now : Int) : Sim (laterV s now) (rlaterV r now) := by
  obtain ⟨e1, e2, e3, e4, _⟩ := later_fields s now
  obtain ⟨t1, t2⟩ := h.Tn now
  refine ⟨⟨h.ok.later now, h.okr.later now, by rw [e1]; exact h.room, by rw [e2]; exact h.most, by rw [e3]; exact h.rate, by rw [e4, t2]; rfl, (keep_sub r.l).nodup h.nd, fun k => ?_⟩, later_unf s now, keep_unf⟩
  rw [F_later h.ok, rF_later h.okr h.nd, t1, h.F k, h.rate, h.most]
/-- a second Later at the same time, of the table alone -/
theorem Sim.again {s : TS} {r : RS} (h : Sim s r) : Sim (laterV s r.T) r := by
  obtain ⟨e1, e2, e3, e4, _⟩ := later_fields s r.T
  have t := Tn_is (s := s) h.okr.T2 (by rw [h.T]; exact Int.le_refl _)
  refine ⟨⟨h.ok.later _, h.okr, by rw [e1]; exact h.room, by rw [e2]; exact h.most, by rw [e3]; exact h.rate, by rw [e4, t], h.nd, fun k => ?_⟩, later_unf s _, h.ur⟩
  rw [F_later h.ok, t, h.T, Int.sub_self, Int.zero_mul, Int.add_zero, ← h.F k]
  have := (F_bd h.ok k).2
  unfold mn; split <;> omega
theorem len_le {α : Type} [BEq α] [LawfulBEq α] : ∀ {a b : List α}, a.Nodup → (∀ x ∈ a, x ∈ b) → a.length ≤ b.length
  | [], _, _, _ => Nat.zero_le _
  | x :: a, b, h, hs => by
    rw [List.nodup_cons] at h
    have hx := hs x List.mem_cons_self
    have := len_le (a := a) (b := b.erase x) h.2 fun y hy => by
      have hy' := hs y (List.mem_cons_of_mem _ hy)
      have hne : y ≠ x := by rintro rfl; exact h.1 hy
      exact (List.mem_erase_of_ne hne).2 hy'
    rw [List.length_erase_of_mem hx] at this
    have : 0 < b.length := List.length_pos_of_mem hx
    rw [List.length_cons]
    omega
theorem key_iff {s : TS} (us : ∀ q ∈ s.l, hasV s q.x q.y < s.most) (k : Int) : k ∈ s.l.map (·.key) ↔ F s k < s.most := by
  rw [F_def]
  cases hf : s.l.find? (fun q => q.key == k) with
  | none =>
    refine ⟨fun h => ?_, fun h => absurd h (Int.lt_irrefl _)⟩
    obtain ⟨q, hq, e⟩ := List.mem_map.1 h
    have := List.find?_eq_none.1 hf q hq
    simp [e] at this
  | some q =>
    have hq := find_some hf
    exact ⟨fun _ => us q hq.1, fun _ => List.mem_map.2 ⟨q, hq.1, by simpa using hq.2⟩⟩
theorem rkey_iff {r : RS} (ur : ∀ b ∈ r.l, b.f < r.most) (k : Int) : k ∈ r.l.map (·.s) ↔ rF r k < r.most := by
  rw [rF_def]
  cases hf : r.l.find? (fun q => q.s == k) with
  | none =>
    refine ⟨fun h => ?_, fun h => absurd h (Int.lt_irrefl _)⟩
    obtain ⟨q, hq, e⟩ := List.mem_map.1 h
    have := List.find?_eq_none.1 hf q hq
    simp [e] at this
  | some q =>
    have hq := List.mem_of_find?_eq_some hf
    have hq2 := List.find?_some hf
    exact ⟨fun _ => ur q hq, fun _ => List.mem_map.2 ⟨q, hq, by simpa using hq2⟩⟩
theorem Sim.keys {s : TS} {r : RS} (h : Sim s r) (k : Int) : k ∈ s.l.map (·.key) ↔ k ∈ r.l.map (·.s) := by
  rw [key_iff h.us, rkey_iff h.ur, h.F, h.most]
theorem Sim.len {s : TS} {r : RS} (h : Sim s r) : s.l.length = r.l.length := by
  have a := len_le h.ok.keys (fun k hk => (h.keys k).1 hk)
  have b := len_le h.nd (fun k hk => (h.keys k).2 hk)
  simp only [List.length_map] at a b
  omega
theorem hasK_key {l : List Bk} {k : Int} : hasK l k = true ↔ k ∈ l.map (·.key) := by
  unfold hasK
  rw [List.any_eq_true]
  constructor
  · rintro ⟨q, hq, e⟩; exact List.mem_map.2 ⟨q, hq, by simpa using e⟩
  · intro h
    obtain ⟨q, hq, e⟩ := List.mem_map.1 h
    exact ⟨q, hq, by simpa using e⟩
theorem rplace_key {l : List Rb} {k : Int} : rplace k l 0 = none ↔ ¬ k ∈ l.map (·.s) := by
  rw [rplace_no, List.find?_eq_none]
  constructor
  · intro h hk
    obtain ⟨q, hq, e⟩ := List.mem_map.1 hk
    have := h q hq
    simp [e] at this
  · intro h q hq e
    exact h (List.mem_map.2 ⟨q, hq, by simpa using e⟩)
theorem Sim.has {s : TS} {r : RS} (h : Sim s r) (k : Int) : hasK s.l k = false ↔ rplace k r.l 0 = none := by
  rw [rplace_key, ← h.keys, ← hasK_key]
  cases hasK s.l k <;> simp
theorem rF_set {t : RS} {k x : Int} {i : Nat} (hp : rplace k t.l 0 = some i) (k' : Int) : rF { t with l := t.l.set i ⟨k, x⟩ } k' = if k' = k then x else rF t k' := by
  rw [rF_def, rF_def]
  have := rset_find (k' := k') (x := x) hp
  rw [Nat.sub_zero] at this
  show (match (t.l.set i ⟨k, x⟩).find? (fun b => b.s == k') with | some b => b.f | none => t.most) = _
  rw [this]
  by_cases he : k' = k
  · rw [if_pos he, if_pos he]
  · rw [if_neg he, if_neg he]
theorem rF_app {t : RS} {k x : Int} (hp : rplace k t.l 0 = none) (k' : Int) : rF { t with l := t.l ++ [⟨k, x⟩] } k' = if k' = k then x else rF t k' := by
  rw [rF_def, rF_def]
  show (match (t.l ++ [(⟨k, x⟩ : Rb)]).find? (fun b => b.s == k') with | some b => b.f | none => t.most) = _
  rw [List.find?_append]
  by_cases he : k' = k
  · rw [if_pos he, he, rplace_no.1 hp]
    simp
  · rw [if_neg he]
    have : [(⟨k, x⟩ : Rb)].find? (fun b => b.s == k') = none := by simp; exact fun e => he e.symm
    rw [this, Option.or_none]
/-- a key's new fill in both -/
theorem Sim.put {s : TS} {r : RS} (h : Sim s r) {k x : Int} (hx0 : 0 ≤ x) (hx1 : x ≤ s.most) (hl : hasK s.l k = false → (s.l.length : Int) < s.room) (l' : List Rb) (hl' : (∃ i, rplace k r.l 0 = some i ∧ l' = r.l.set i ⟨k, x⟩) ∨ (rplace k r.l 0 = none ∧ l' = r.l ++ [⟨k, x⟩])) : Sim0 { s with l := putV s.l k x s.now } { r with l := l' } := by
  have ok := h.ok.put hx0 hx1 hl
  have hF : ∀ k', Quo.F { s with l := putV s.l k x s.now } k' = if k' = k then x else Quo.F s k' := by
    intro k'
    by_cases he : k' = k
    · subst he; rw [if_pos rfl]; exact F_put_same h.ok hx1
    · rw [if_neg he]; exact F_put_other he
  have hm := h.most
  rcases hl' with ⟨i, hp, rfl⟩ | ⟨hp, rfl⟩
  · refine ⟨ok, ⟨h.okr.1, h.okr.2, h.okr.3, h.okr.4, h.okr.5, h.okr.6, h.okr.7, h.okr.8, fun b hb => ?_, by show ((r.l.set i _).length : Int) ≤ r.room; rw [List.length_set]; exact h.okr.len⟩, h.room, h.most, h.rate, h.T, ?_, fun k' => by rw [hF, rF_set hp, h.F]⟩
    · rcases List.mem_or_eq_of_mem_set hb with hb | rfl
      · exact h.okr.fills b hb
      · exact ⟨hx0, by show x ≤ r.most; omega⟩
    · have := rset_keys (x := x) hp
      rw [Nat.sub_zero] at this
      show ((r.l.set i _).map _).Nodup
      rw [this]; exact h.nd
  · have nk := rplace_key.1 hp
    refine ⟨ok, ⟨h.okr.1, h.okr.2, h.okr.3, h.okr.4, h.okr.5, h.okr.6, h.okr.7, h.okr.8, fun b hb => ?_, ?_⟩, h.room, h.most, h.rate, h.T, ?_, fun k' => by rw [hF, rF_app hp, h.F]⟩
    · rcases List.mem_append.1 hb with hb | hb
      · exact h.okr.fills b hb
      · rw [List.mem_singleton.1 hb]; exact ⟨hx0, by show x ≤ r.most; omega⟩
    · have q := hl ((h.has k).2 hp)
      rw [h.len, h.room] at q
      show ((r.l ++ [_]).length : Int) ≤ r.room
      rw [List.length_append, List.length_singleton]
      omega
    · show ((r.l ++ [_]).map _).Nodup
      rw [List.map_append]
      refine List.nodup_append.2 ⟨h.nd, by simp, fun a ha b hb e => ?_⟩
      simp at hb
      rw [e, hb] at ha
      exact nk ha
theorem take_sim {s : TS} {r : RS} (h : Sim0 s r) (now k n : Int) : (takeV s now k n).1 = (rtakeV r now k n).1 ∧ Sim0 (takeV s now k n).2 (rtakeV r now k n).2 := by
  have hs := h.later now
  have hF := hs.F k
  have e1 := (later_fields s now).1
  have hb := F_bd hs.ok k
  have hl := hs.len
  unfold rtakeV
  dsimp only
  rcases take_is h.ok now k n with ⟨c, e⟩ | ⟨c, c', e⟩ | ⟨c, c', c2, c3, e⟩ | ⟨c, c', c2, e⟩
  · rw [e, if_pos c]; exact ⟨rfl, hs.toSim0⟩
  · rw [e, if_neg (by omega), if_pos (by omega)]; exact ⟨rfl, hs.toSim0⟩
  · rw [e, if_neg (by omega), if_neg (by omega), (hs.has k).1 c2]
    dsimp only
    have := hs.room
    rw [if_pos (by rw [← this, e1]; omega)]
    exact ⟨rfl, hs.toSim0⟩
  · rw [e, if_neg (by omega), if_neg (by omega)]
    have hr := hs.room
    have hln := hs.okr.len
    have room : hasK (laterV s now).l k = false → ((laterV s now).l.length : Int) < (laterV s now).room := by
      intro hk
      have : ¬ ((laterV s now).l.length : Int) = s.room := fun e => c2 ⟨hk, e⟩
      rw [e1] at hr ⊢
      omega
    have put := fun l' => hs.put (k := k) (x := F (laterV s now) k - n) (by omega) (by omega) room l'
    cases hp : rplace k (rlaterV r now).l 0 with
    | none =>
      dsimp only
      have hk := room ((hs.has k).2 hp)
      rw [if_neg (by rw [← hr]; omega)]
      exact ⟨rfl, put _ (.inr ⟨hp, by rw [hF]⟩)⟩
    | some i =>
      dsimp only
      exact ⟨rfl, put _ (.inl ⟨i, hp, by rw [hF]⟩)⟩
theorem rlater_sim {s : TS} {r : RS} (h : Sim0 s r) : Sim0 s (rlaterV r r.T) := by
  have e0 : rd_ r r.T = 0 := by unfold rd_; rw [if_neg (by omega)]
  refine ⟨h.ok, h.okr.later _, h.room, h.most, h.rate, ?_, (keep_sub r.l).nodup h.nd, fun k => ?_⟩
  · show s.now = r.T + rd_ r r.T
    rw [e0, Int.add_zero]; exact h.T
  · rw [rF_later h.okr h.nd, e0, Int.zero_mul, Int.add_zero, h.F k]
    have := (rF_bd h.okr k).2
    unfold mn; split <;> omega
theorem give_sim {s : TS} {r : RS} (h : Sim0 s r) (now k n : Int) : (giveV s now k n).1 = (rgiveV r now k n).1 ∧ Sim0 (giveV s now k n).2 (rgiveV r now k n).2 := by
  have hs := h.later now
  have hF := hs.F k
  have hb := F_bd hs.ok k
  have m2 := hs.ok.most2
  have m1 := hs.ok.most1
  have hm := hs.most
  unfold giveV rgiveV
  dsimp only
  by_cases c : n < 1
  · rw [if_pos c, if_pos c]; exact ⟨rfl, hs.toSim0⟩
  rw [if_neg c, if_neg c]
  have f2 : (fillV (laterV s now) k).2 = hasK (laterV s now).l k := fill_has _ _
  rw [f2]
  have ef : (fillV (laterV s now) k).1 = F (laterV s now) k := rfl
  rw [ef]
  unfold rputV
  cases hp : rplace k (rlaterV r now).l 0 with
  | none =>
    rw [(hs.has k).2 hp]
    exact ⟨rfl, rlater_sim hs.toSim0⟩
  | some i =>
    have hk : hasK (laterV s now).l k = true := by
      cases hh : hasK (laterV s now).l k
      · rw [(hs.has k).1 hh] at hp; cases hp
      · rfl
    rw [hk]
    dsimp only
    rw [if_pos rfl]
    have e : ((rlaterV r now).l.getD i ⟨0, 0⟩).f = F (laterV s now) k := by
      rw [hF]; unfold rF; rw [hp]
    rw [e]
    have e2 : mn (cl (F (laterV s now) k + n)) (laterV s now).most = mn (F (laterV s now) k + mn n (rlaterV r now).most) (rlaterV r now).most := by
      rw [← hm]
      unfold mn cl
      (repeat' split) <;> omega
    rw [e2]
    refine ⟨rfl, rlater_sim (hs.put ?_ ?_ (fun e => by rw [hk] at e; cases e) _ (.inl ⟨i, hp, rfl⟩))⟩
    · rw [← hm]; unfold mn; (repeat' split) <;> omega
    · rw [← hm]; unfold mn; (repeat' split) <;> omega
def rwhenV (r : RS) (now k n : Int) : Int :=
  let t := rlaterV r now
  let f := rF t k
  if n ≤ f then t.T else if n > t.most ∨ t.rate = 0 then 1099511627776 else mn (t.T + ((n - f).tdiv t.rate + if (n - f).tmod t.rate = 0 then 0 else 1)) 1099511627776
theorem when_sim {s : TS} {r : RS} (h : Sim0 s r) (now k n : Int) : whenV s now k n = rwhenV r now k n := by
  have hs := h.later now
  have hF := hs.F k
  have hb := F_bd hs.ok k
  have m2 := hs.ok.most2
  have r1 := hs.ok.rate1
  unfold whenV rwhenV
  dsimp only
  rw [show (fillV (laterV s now) k).1 = F (laterV s now) k from rfl, ← hF, ← hs.most, ← hs.rate, ← hs.T]
  obtain ⟨f, hf⟩ : ∃ f, F (laterV s now) k = f := ⟨_, rfl⟩
  obtain ⟨rate, hr⟩ : ∃ x, (laterV s now).rate = x := ⟨_, rfl⟩
  rw [hf] at hb
  rw [hr] at r1
  rw [hf, hr]
  by_cases c1 : n ≤ f
  · rw [if_pos c1, if_pos (by unfold cl; (repeat' split) <;> omega)]
  rw [if_neg c1, if_neg (by unfold cl; (repeat' split) <;> omega)]
  by_cases c2 : n > (laterV s now).most ∨ rate = 0
  · rw [if_pos c2, if_pos c2]
  rw [if_neg c2, if_neg c2]
  have ecl : cl (n - f) = n - f := by unfold cl; (repeat' split) <;> omega
  rw [ecl]
  have hr0 : 0 < rate := by omega
  have hx : 0 < n - f := by omega
  generalize n - f = x at hx
  rw [Int.tdiv_eq_ediv_of_nonneg (by omega), Int.tmod_eq_emod_of_nonneg (by omega)]
  have key : (x - 1) / rate + 1 = x / rate + if x % rate = 0 then 0 else 1 := by
    have a := Int.emod_add_mul_ediv x rate
    have b0 := Int.emod_nonneg x (show rate ≠ 0 by omega)
    have b1 := Int.emod_lt_of_pos x hr0
    split
    · rename_i h0
      have e : x - 1 = (rate - 1) + rate * (x / rate - 1) := by rw [Int.mul_sub, Int.mul_one]; omega
      rw [e, Int.add_mul_ediv_left _ _ (by omega), Int.ediv_eq_zero_of_lt (by omega) (by omega)]
      omega
    · have e : x - 1 = (x % rate - 1) + rate * (x / rate) := by omega
      rw [e, Int.add_mul_ediv_left _ _ (by omega), Int.ediv_eq_zero_of_lt (by omega) (by omega)]
      omega
  rw [Int.add_assoc, key]
end Go.Proofs.Ytdojihocnkakjaa.Quo
