/- Both tables of bindings agree: plain, and the two methods side by side; no condition but those that stand in each. -/
import Derived.Test.YtghicenodafbkaaAffR4
import Derived.Test.YtghicenodafbkaaAffK
import Derived.Test.YtghicenodafbkaaAffF
namespace Go.Proofs.Ytghicenodafbkaa.Aff
set_option linter.unusedVariables false
set_option linter.unusedSimpArgs false
open Go.RowKit Go.Proofs.Ytghicenodafbkaa.PA Go.Proofs.YtghicenodafbkaaW.PrintWords Go.Proofs.YtghicenodafbkaaW.PrintLast Go.Proofs.YtghicenodafbkaaW.PrintMore Go.Proofs.Ytghicenodafbkaa.Tab Go.Proofs.Ytghicenodafbkaa.Lst
def Alive (s : TS) : Prop := ∀ q ∈ s.l, s.now < q.y
theorem later_alive (s : TS) (now : Int) : Alive (laterV s now) := fun q hq => by
  have := (List.mem_filter.1 hq).2
  unfold endB at this
  rw [Bool.not_eq_true', decide_eq_false_iff_not] at this
  show (laterT s now).now < q.y
  omega
theorem later_again {s r : TS} {now : Int} (hn : r.now = (laterV s now).now) (ha : Alive r) : laterV r now = r := by
  have e : laterT r now = r := by
    rw [(later_fields s now).2.2.2] at hn
    unfold laterT at hn ⊢
    by_cases c : now ≤ 1099511627776
    · rw [if_pos c] at hn ⊢
      have : mx r.now now = r.now := by
        dsimp only at hn
        unfold mx at hn ⊢
        (repeat' split) <;> (try split at hn) <;> omega
      rw [this]
    · rw [if_neg c]
  unfold laterV
  rw [e]
  have : r.l.filter (fun q => !endB r q) = r.l := List.filter_eq_self.2 fun q hq => by
    have := ha q hq
    unfold endB
    rw [Bool.not_eq_true', decide_eq_false_iff_not]
    omega
  dsimp only
  rw [this]
theorem mem_one {l : List Bk} (h : (l.map (·.key)).Nodup) {a b : Bk} (ha : a ∈ l) (hb : b ∈ l) (e : a.key = b.key) : a = b := by
  induction l with
  | nil => cases ha
  | cons c l ih =>
    rw [List.map_cons, List.nodup_cons] at h
    rcases List.mem_cons.1 ha with rfl | ha' <;> rcases List.mem_cons.1 hb with rfl | hb'
    · rfl
    · exact absurd (List.mem_map.2 ⟨b, hb', e.symm⟩) h.1
    · exact absurd (List.mem_map.2 ⟨a, ha', e⟩) h.1
    · exact ih h.2 ha' hb'
theorem look_mem_ {l : List Bk} (h : (l.map (·.key)).Nodup) {b : Bk} (hb : b ∈ l) : lookV l b.key = (b.x, b.y, true) := by
  unfold lookV
  cases hf : l.find? (fun q => q.key == b.key) with
  | none =>
    have := List.find?_eq_none.1 hf b hb
    simp at this
  | some q =>
    obtain ⟨h1, h2⟩ := find_some hf
    obtain rfl := mem_one h h1 hb h2
    rfl
theorem look_none_ {l : List Bk} {k : Int} (h : ∀ b ∈ l, b.key ≠ k) : lookV l k = (0, 0, false) := by
  unfold lookV
  cases hf : l.find? (fun q => q.key == k) with
  | none => rfl
  | some q =>
    obtain ⟨h1, h2⟩ := find_some hf
    exact absurd h2 (h q h1)
theorem filter_far {l : List Bk} {k : Int} (h : ∀ b ∈ l, b.key ≠ k) : l.filter (fun q => !(q.key == k)) = l := List.filter_eq_self.2 fun q hq => by simpa using h q hq
theorem put_at {l : List Bk} (h : (l.map (·.key)).Nodup) {i : Nat} {b : Bk} (hb : l[i]? = some b) (x y : Int) : (putV l b.key x y).Perm (l.set i ⟨b.key, x, y⟩) := by
  induction l generalizing i with
  | nil => simp at hb
  | cons c l ih =>
    rw [List.map_cons, List.nodup_cons] at h
    cases i with
    | zero =>
      simp only [List.getElem?_cons_zero, Option.some.injEq] at hb
      subst hb
      have hf : ∀ b ∈ l, b.key ≠ c.key := fun b hb e => h.1 (List.mem_map.2 ⟨b, hb, e⟩)
      unfold putV
      rw [List.filter_cons, List.set_cons_zero, filter_far hf]
      simp
    | succ i =>
      rw [List.getElem?_cons_succ] at hb
      have hne : c.key ≠ b.key := fun e => h.1 (List.mem_map.2 ⟨b, List.mem_of_getElem? hb, e.symm⟩)
      have := ih h.2 hb
      unfold putV at this ⊢
      rw [List.filter_cons, if_pos (by simpa using hne), List.set_cons_succ]
      exact (List.Perm.swap _ _ _).trans (this.cons c)
theorem del_at {l : List Bk} (h : (l.map (·.key)).Nodup) {j : Nat} {q : Bk} (hq : l[j]? = some q) : delV l q.key = l.take j ++ l.drop (j + 1) := by
  induction l generalizing j with
  | nil => simp at hq
  | cons c l ih =>
    rw [List.map_cons, List.nodup_cons] at h
    cases j with
    | zero =>
      simp only [List.getElem?_cons_zero, Option.some.injEq] at hq
      subst hq
      have hf : ∀ b ∈ l, b.key ≠ c.key := fun b hb e => h.1 (List.mem_map.2 ⟨b, hb, e⟩)
      unfold delV
      rw [List.filter_cons, filter_far hf]
      simp
    | succ j =>
      rw [List.getElem?_cons_succ] at hq
      have hne : c.key ≠ q.key := fun e => h.1 (List.mem_map.2 ⟨q, List.mem_of_getElem? hq, e.symm⟩)
      have := ih h.2 hq
      unfold delV at this ⊢
      rw [List.filter_cons, if_pos (by simpa using hne), this]
      rfl
theorem put_new {l : List Bk} {k : Int} (h : ∀ b ∈ l, b.key ≠ k) (x y : Int) : (putV l k x y).Perm (l ++ [⟨k, x, y⟩]) := by
  unfold putV
  rw [filter_far h]
  exact List.perm_append_comm (l₁ := [_]) (l₂ := l)
theorem del_far {l : List Bk} {k m : Int} (h : ∀ b ∈ l, b.key ≠ k) : ∀ b ∈ delV l m, b.key ≠ k := fun b hb => h b (List.mem_filter.1 hb).1
/-! ### Find -/
theorem find_sim {r : TS} (hO : Ok r) (now k : Int) {x x' : Int} {b b' : Bool} {s1 r1 : TS} (h : findV r now k = ((x, b), s1)) (h' : rfindV r now k = ((x', b'), r1)) :
    x = x' ∧ b = b' ∧ s1.l.Perm r1.l ∧ s1 = { r1 with l := s1.l } ∧ Ok r1 ∧ Alive r1 ∧ r1.now = (laterV r now).now := by
  have o := hO.later now
  have al := later_alive r now
  obtain ⟨t, ht⟩ : ∃ t, laterV r now = t := ⟨_, rfl⟩
  unfold findV at h
  unfold rfindV at h'
  dsimp only at h h'
  rw [ht] at h h' o al ⊢
  cases hp : rplace k t.l 0 with
  | none =>
    rw [hp] at h'
    rw [look_none_ (rplace_none hp)] at h
    simp only [Bool.false_eq_true, if_false, Prod.mk.injEq] at h h'
    obtain ⟨⟨rfl, rfl⟩, rfl⟩ := h
    obtain ⟨⟨rfl, rfl⟩, rfl⟩ := h'
    exact ⟨rfl, rfl, .refl _, rfl, o, al, rfl⟩
  | some i =>
    rw [hp] at h'
    obtain ⟨_, q, hq, rfl⟩ := rplace_some hp
    rw [Nat.sub_zero] at hq
    have hm := List.mem_of_getElem? hq
    rw [look_mem_ o.keys hm] at h
    simp only [if_true, Prod.mk.injEq, List.getD_eq_getElem?_getD, hq, Option.getD_some] at h h'
    obtain ⟨⟨rfl, rfl⟩, rfl⟩ := h
    obtain ⟨⟨rfl, rfl⟩, rfl⟩ := h'
    have pp := put_at o.keys hq q.x (t.now + t.keep)
    have hh : hasK t.l q.key = true := by rw [← look_has, look_mem_ o.keys hm]
    have op := o.put (k := q.key) (o.reps q hm) (y := t.now + t.keep) (by have := o.now1; have := o.now2; have := o.keep1; have := o.keep2; omega) (fun e => by rw [hh] at e; cases e)
    refine ⟨rfl, rfl, pp, rfl, ?_, ?_, rfl⟩
    · exact ⟨op.1, op.2, op.3, op.4, op.5, op.6, fun z hz => op.reps z (pp.mem_iff.2 hz), fun z hz => op.ends z (pp.mem_iff.2 hz), by have := op.len; have e := pp.length_eq; dsimp only at this e ⊢; rw [← e]; exact this, (pp.map _).nodup_iff.1 op.keys⟩
    · intro z hz
      show t.now < z.y
      rcases List.mem_or_eq_of_mem_set hz with hz | rfl
      · exact al z hz
      · have := o.keep1; show t.now < t.now + t.keep; omega
/-! ### Bind -/
def minKey (l : List Bk) : Int := match l.map (·.key) with | [] => 0 | m :: ss => minV l m ss
theorem minKey_is {l : List Bk} (h : l ≠ []) : IsMin l (minKey l) := by
  unfold minKey
  cases l with
  | nil => exact absurd rfl h
  | cons a l => exact min_is (.refl _)
def bindR (r : TS) (now k rp : Int) : TS :=
  let t := laterV r now
  { t with l := match rplace k t.l 0 with
    | some i => t.l.set i ⟨k, rp, t.now + t.keep⟩
    | none => (if (t.l.length : Int) < t.room then t.l else delV t.l (minKey t.l)) ++ [⟨k, rp, t.now + t.keep⟩] }
theorem has_none {l : List Bk} {k : Int} (h : ∀ b ∈ l, b.key ≠ k) : hasK l k = false := by
  rw [← look_has, look_none_ h]
theorem bind_room (r : TS) (now : Int) : (laterV r now).room = r.room := (later_fields r now).1
theorem sooner_min {l : List Bk} (h : (l.map (·.key)).Nodup) {q : Bk} (hq : q ∈ l) (hs : ∀ q' ∈ l, ¬ sooner q' q) : IsMin l q.key := by
  refine ⟨⟨q, hq, rfl⟩, fun q' hq' => ?_⟩
  rw [first_neg, look_mem_ h hq, look_mem_ h hq']
  exact hs q' hq'
theorem bind_plain {r : TS} (hO : Ok r) (now k rp : Int) (hrp : 0 ≤ rp ∧ rp ≤ 18446744073709551615) : Ok (bindR r now k rp) ∧ Alive (bindR r now k rp) ∧ (bindR r now k rp).now = (laterV r now).now := by
  have o := hO.later now
  have al := later_alive r now
  unfold bindR
  dsimp only
  obtain ⟨t, ht⟩ : ∃ t, laterV r now = t := ⟨_, rfl⟩
  rw [ht] at o al ⊢
  have hy : 0 ≤ t.now + t.keep ∧ t.now + t.keep ≤ 1103806595072 := by have := o.now1; have := o.now2; have := o.keep1; have := o.keep2; omega
  have fin : ∀ (l' : List Bk) (t' : TS), Ok t' → Ok { t' with l := putV t'.l k rp (t.now + t.keep) } → t'.now = t.now → t'.room = t.room → t'.keep = t.keep → (putV t'.l k rp (t.now + t.keep)).Perm l' → (∀ q ∈ l', t.now < q.y) → Ok { t with l := l' } ∧ Alive { t with l := l' } ∧ ({ t with l := l' } : TS).now = t.now := by
    intro l' t' _ op e1 e2 e3 pp hal
    refine ⟨⟨o.1, o.2, o.3, o.4, o.5, o.6, fun z hz => op.reps z (pp.mem_iff.2 hz), fun z hz => op.ends z (pp.mem_iff.2 hz), ?_, (pp.map _).nodup_iff.1 op.keys⟩, hal, rfl⟩
    have := op.len
    have e := pp.length_eq
    dsimp only at this e ⊢
    rw [← e, ← e2]; exact this
  have hk := o.keep1
  cases hp : rplace k t.l 0 with
  | some i =>
    obtain ⟨_, q, hq, rfl⟩ := rplace_some hp
    rw [Nat.sub_zero] at hq
    have hm := List.mem_of_getElem? hq
    have hh : hasK t.l q.key = true := by rw [← look_has, look_mem_ o.keys hm]
    refine fin _ t o (o.put hrp hy (fun e => by rw [hh] at e; cases e)) rfl rfl rfl (put_at o.keys hq _ _) fun z hz => ?_
    rcases List.mem_or_eq_of_mem_set hz with hz | rfl
    · exact al z hz
    · show t.now < t.now + t.keep; omega
  | none =>
    have hn := rplace_none hp
    dsimp only
    by_cases hr : (t.l.length : Int) < t.room
    · rw [if_pos hr]
      refine fin _ t o (o.put hrp hy (fun _ => hr)) rfl rfl rfl (put_new hn _ _) fun z hz => ?_
      rcases List.mem_append.1 hz with hz | hz
      · exact al z hz
      · obtain rfl : z = _ := by simpa using hz
        show t.now < t.now + t.keep; omega
    · rw [if_neg hr]
      have hne : t.l ≠ [] := fun e => by rw [e] at hr; have := o.room1; simp at hr; omega
      obtain ⟨⟨q, hq, eq⟩, _⟩ := minKey_is hne
      have hsub : (delV t.l (minKey t.l)).Sublist t.l := List.filter_sublist
      have hlen : (delV t.l (minKey t.l)).length < t.l.length := by
        obtain ⟨j, hj, e⟩ := List.getElem_of_mem hq
        rw [← eq, del_at o.keys (List.getElem?_eq_getElem hj |>.trans (by rw [e])), List.length_append, List.length_take, List.length_drop]
        omega
      have o2 : Ok { t with l := delV t.l (minKey t.l) } := ⟨o.1, o.2, o.3, o.4, o.5, o.6, fun z hz => o.reps z (hsub.mem hz), fun z hz => o.ends z (hsub.mem hz), by have := o.len; dsimp only; omega, o.keys.sublist (hsub.map _)⟩
      refine fin _ { t with l := delV t.l (minKey t.l) } o2 (o2.put hrp hy (fun _ => by have := o.len; dsimp only; omega)) rfl rfl rfl (put_new (del_far hn) _ _) fun z hz => ?_
      rcases List.mem_append.1 hz with hz | hz
      · exact al z (hsub.mem hz)
      · obtain rfl : z = _ := by simpa using hz
        show t.now < t.now + t.keep; omega
theorem IsT.as {w0 W : World} {g b : Nat} {s r : TS} (h : IsT w0 W g b s) (hp : s.l.Perm r.l) (he : s = { r with l := s.l }) : IsT w0 W g b r := by
  have := h.perm hp
  rw [he] at this
  exact this
theorem bind_both {r : TS} (hO : Ok r) (now k rp : Int) (hk : 0 ≤ k ∧ k ≤ 18446744073709551615) (w0 : World) (g b gr : Nat) :
    (∀ w, IsT w0 w g b r → Below w0.heap.size w0 w → Calls Try.prog 9 #[.pointer (some ⟨g, 0, none⟩), .int .i64 now, .int .u64 k, .int .u64 rp] w fun e w' => e = .returned (.bool true) ∧ Post w0 w g b (bindR r now k rp) w') ∧
    (∀ v w, IsR w0 w gr v r → Below w0.heap.size w0 w → Calls Try.prog 16 #[.pointer (some ⟨gr, 0, none⟩), .int .i64 now, .int .u64 k, .int .u64 rp] w fun e w' => e = .returned (.tuple #[]) ∧ PostR w0 w gr v (bindR r now k rp) w') := by
  have o := hO.later now
  have er := bind_room r now
  unfold bindR
  dsimp only
  obtain ⟨t, ht⟩ : ∃ t, laterV r now = t := ⟨_, rfl⟩
  rw [ht] at o er ⊢
  cases hp : rplace k t.l 0 with
  | some i =>
    obtain ⟨_, q, hq, hqk⟩ := rplace_some hp
    rw [Nat.sub_zero] at hq
    have hm := List.mem_of_getElem? hq
    have hh : hasK t.l k = true := by rw [← hqk, ← look_has, look_mem_ o.keys hm]
    refine ⟨fun w hT hB => ?_, fun v w hR hB => rbind_set gr v r now k rp w0 w hR hB hO t ht i hp⟩
    refine (bind_c g b r now k rp hk w0 w hT hB hO (fun e => by rw [ht, hh] at e; cases e) _ rfl).mono ?_
    rintro e w' ⟨h1, h2, h3⟩
    refine ⟨h1, h2.as ?_ ?_, h3⟩
    · unfold bindV; dsimp only; rw [ht, ← hqk]; exact put_at o.keys hq _ _
    · unfold bindV; dsimp only; rw [ht]
  | none =>
    have hn := rplace_none hp
    have hh := has_none hn
    dsimp only
    by_cases hr : (t.l.length : Int) < t.room
    · rw [if_pos hr]
      refine ⟨fun w hT hB => ?_, fun v w hR hB => rbind_add gr v r now k rp w0 w hR hB hO t ht hp hr⟩
      refine (bind_c g b r now k rp hk w0 w hT hB hO (fun _ => by rw [ht, ← er]; omega) _ rfl).mono ?_
      rintro e w' ⟨h1, h2, h3⟩
      refine ⟨h1, h2.as ?_ ?_, h3⟩
      · unfold bindV; dsimp only; rw [ht]; exact put_new hn _ _
      · unfold bindV; dsimp only; rw [ht]
    · rw [if_neg hr]
      have hne : t.l ≠ [] := fun e => by rw [e] at hr; have := o.room1; simp at hr; omega
      have hmin := minKey_is hne
      refine ⟨fun w hT hB => ?_, fun v w hR hB => ?_⟩
      · refine (bindfull_c g b r now k rp hk w0 w hT hB hO (by rw [ht]; exact hh) (by rw [ht, ← er]; have := o.len; omega)).mono ?_
        rintro e w' ⟨h1, m, hm, h2, h3⟩
        rw [ht] at hm h2
        obtain rfl := min_same hm hmin
        exact ⟨h1, h2.as (put_new (del_far hn) _ _) rfl, h3⟩
      · refine (rbind_full gr v r now k rp w0 w hR hB hO t ht hp (by omega)).mono ?_
        rintro e w' ⟨h1, j, q, hq, hs, h2⟩
        have hm := min_same (sooner_min o.keys (List.mem_of_getElem? hq) hs) hmin
        rw [← del_at o.keys hq, hm] at h2
        exact ⟨h1, h2⟩
/-! ### Forget -/
theorem forget_sim {r : TS} (hO : Ok r) (now rp : Int) {n n' : Int} {s1 r1 : TS} (h : forgetV r now rp = (n, s1)) (h' : rforgetV r now rp = (n', r1)) : n = n' ∧ s1 = r1 ∧ Ok r1 ∧ Alive r1 ∧ r1.now = (laterV r now).now := by
  have o := hO.later now
  have al := later_alive r now
  unfold forgetV at h
  unfold rforgetV at h'
  dsimp only at h h'
  obtain ⟨t, ht⟩ : ∃ t, laterV r now = t := ⟨_, rfl⟩
  rw [ht] at h h' o al ⊢
  simp only [Prod.mk.injEq] at h h'
  obtain ⟨rfl, rfl⟩ := h
  obtain ⟨rfl, rfl⟩ := h'
  refine ⟨rfl, rfl, ⟨o.1, o.2, o.3, o.4, o.5, o.6, fun z hz => o.reps z (List.mem_filter.1 hz).1, fun z hz => o.ends z (List.mem_filter.1 hz).1, ?_, o.keys.sublist (List.filter_sublist.map _)⟩, fun z hz => al z (List.mem_filter.1 hz).1, rfl⟩
  have := o.len
  have e := List.length_filter_le (fun q : Bk => !(q.x == rp)) t.l
  dsimp only
  omega
end Go.Proofs.Ytghicenodafbkaa.Aff
