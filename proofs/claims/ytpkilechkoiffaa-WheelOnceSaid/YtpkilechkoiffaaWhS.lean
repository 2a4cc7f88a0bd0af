/- The wheel and the document's list of timers: plain facts; no program, no world; no condition but those that stand in each. -/
import Derived.Test.YtpkilechkoiffaaWhW
namespace Go.Proofs.Ytpkilechkoiffaa.Wh
set_option linter.unusedVariables false
set_option linter.unusedSimpArgs false
open Go.RowKit Go.Proofs.Ytpkilechkoiffaa.Heap Go.Proofs.Ytpkilechkoiffaa.TabL
def bk (t : Tm) : Bk := ⟨t.n, t.lab⟩
structure Sim (s : WS) (L : List Tm) : Prop where
  srt : L.Pairwise (fun a b => ltT a b = true)
  liv : s.live.Perm (L.map bk)
  sub : ∀ t ∈ L, t ∈ s.heap
  uni : ∀ t ∈ s.heap, ∀ u ∈ L, t.n = u.n → t = u
  hp : Hp zT ltT s.heap s.heap.length
  bd : ∀ t ∈ s.heap, 1 ≤ t.n ∧ t.n ≤ s.last
  tk : 0 ≤ s.now ∧ s.now ≤ 1099511627776
  ls : 0 ≤ s.last
theorem look_has (l : List Bk) (k : Int) : (lookV l k).2 = hasK l k := by
  unfold lookV hasK
  cases h : l.find? (fun q => q.key == k) with
  | none =>
    rw [List.find?_eq_none] at h
    symm
    rw [List.any_eq_false]
    exact h
  | some q =>
    symm
    rw [List.any_eq_true]
    exact ⟨q, List.mem_of_find?_eq_some h, by simpa using List.find?_some h⟩
def hasT (L : List Tm) (n : Int) : Bool := L.any (fun t => t.n == n)
theorem hasT_iff {L : List Tm} {n : Int} : hasT L n = true ↔ ∃ t ∈ L, t.n = n := by
  unfold hasT
  rw [List.any_eq_true]
  exact ⟨fun ⟨t, h, e⟩ => ⟨t, h, by simpa using e⟩, fun ⟨t, h, e⟩ => ⟨t, h, by simpa using e⟩⟩
variable {s : WS} {L : List Tm}
theorem Sim.has (h : Sim s L) (n : Int) : (lookV s.live n).2 = hasT L n := by
  rw [look_has]
  unfold hasK hasT
  rw [h.liv.any_eq, List.any_map]
  rfl
theorem Sim.len (h : Sim s L) : s.live.length = L.length := by rw [h.liv.length_eq, List.length_map]
theorem lt_irr (t : Tm) : ltT t t = false := by rw [ltT_not]; exact .inr ⟨rfl, Int.le_refl _⟩
theorem Sim.nd (h : Sim s L) : L.Nodup := by
  rw [List.nodup_iff_pairwise_ne]
  exact h.srt.imp fun {a b} hab e => by subst e; rw [lt_irr] at hab; cases hab
theorem len_le {α : Type} [DecidableEq α] : ∀ {a b : List α}, a.Nodup → (∀ x ∈ a, x ∈ b) → a.length ≤ b.length
  | [], _, _, _ => Nat.zero_le _
  | x :: a, b, h, hs => by
    rw [List.nodup_cons] at h
    have hx := hs x List.mem_cons_self
    have := len_le (a := a) (b := b.erase x) h.2 fun y hy => by
      have hy' := hs y (List.mem_cons_of_mem _ hy)
      have hne : y ≠ x := by rintro rfl; exact h.1 hy
      exact (List.mem_erase_of_ne hne).2 hy'
    rw [List.length_erase_of_mem hx] at this
    have : 0 < b.length := List.length_pos_of_mem hx
    rw [List.length_cons]
    omega
open Classical in
theorem Sim.llen (h : Sim s L) : L.length ≤ s.heap.length := len_le h.nd h.sub
theorem Sim.top (h : Sim s L) (hl : 0 < s.heap.length) (hv : hasT L (at_ zT s.heap 0).n = true) : ∃ L', L = at_ zT s.heap 0 :: L' := by
  obtain ⟨u, hu, e⟩ := hasT_iff.1 hv
  have hm : at_ zT s.heap 0 ∈ s.heap := at_mem hl
  have e := h.uni _ hm u hu e.symm
  rw [← e] at hu
  cases hL : L with
  | nil => rw [hL] at hu; cases hu
  | cons a L' =>
    refine ⟨L', ?_⟩
    have ha := h.sub a (by rw [hL]; exact List.mem_cons_self)
    have hr : ltT a (at_ zT s.heap 0) = false := by
      obtain ⟨k, hk, rfl⟩ := List.mem_iff_getElem.1 ha
      have := root_least ltT_ord h.hp k hk
      rw [at_of zT (List.getElem?_eq_getElem hk)] at this
      exact this
    have hs := h.srt
    rw [hL] at hs hu
    rcases List.mem_cons.1 hu with hu | hu
    · rw [hu]
    · have := (List.pairwise_cons.1 hs).1 _ hu
      rw [hr] at this; cases this
theorem Sim.none (h : Sim s L) (hl : s.heap.length = 0) : L = [] := by
  cases hL : L with
  | nil => rfl
  | cons a L' =>
    have := h.sub a (by rw [hL]; exact List.mem_cons_self)
    rw [List.length_eq_zero_iff.1 hl] at this; cases this
theorem Sim.pop (h : Sim s L) (hl : 0 < s.heap.length) (hv : hasT L (at_ zT s.heap 0).n = false) {x : Tm} {l' : List Tm} (hx : popV zT ltT s.heap = (x, l')) : Sim { s with heap := l' } L ∧ l'.length + 1 = s.heap.length := by
  obtain ⟨_, q1, q2, q3, q4, _⟩ := pop_ok ltT_ord h.hp hl
  rw [hx] at q1 q2 q3 q4
  dsimp only at q1 q2 q3 q4
  refine ⟨⟨h.srt, h.liv, fun t ht => ?_, fun t ht u hu e => h.uni t (q2.mem_iff.1 (List.mem_cons_of_mem _ ht)) u hu e, q3, fun t ht => h.bd t (q2.mem_iff.1 (List.mem_cons_of_mem _ ht)), h.tk, h.ls⟩, by omega⟩
  have := q2.mem_iff.2 (h.sub t ht)
  rcases List.mem_cons.1 this with rfl | this
  · exfalso
    have : hasT L t.n = true := hasT_iff.2 ⟨t, ht, rfl⟩
    rw [q1, hv] at this; cases this
  · exact this
theorem filter_map_key (L : List Tm) (n : Int) : (L.map bk).filter (fun q => !(q.key == n)) = (L.filter (fun t => !(t.n == n))).map bk := by
  rw [List.filter_map]; rfl
theorem Sim.stop (h : Sim s L) (n : Int) : Sim { s with live := delV s.live n } (L.filter (fun t => !(t.n == n))) := by
  refine ⟨h.srt.filter _, ?_, fun t ht => h.sub t (List.mem_filter.1 ht).1, fun t ht u hu e => h.uni t ht u (List.mem_filter.1 hu).1 e, h.hp, h.bd, h.tk, h.ls⟩
  show (delV s.live n).Perm _
  rw [← filter_map_key]
  exact h.liv.filter _
theorem Sim.stopAll (h : Sim s L) (lab : Int) : Sim { s with live := s.live.filter (fun q => !(q.x == lab)) } (L.filter (fun t => !(t.lab == lab))) := by
  refine ⟨h.srt.filter _, ?_, fun t ht => h.sub t (List.mem_filter.1 ht).1, fun t ht u hu e => h.uni t ht u (List.mem_filter.1 hu).1 e, h.hp, h.bd, h.tk, h.ls⟩
  show (s.live.filter _).Perm _
  have : (L.filter (fun t => !(t.lab == lab))).map bk = (L.map bk).filter (fun q => !(q.x == lab)) := by rw [List.filter_map]; rfl
  rw [this]
  exact h.liv.filter _
theorem Sim.stop_head {t : Tm} (h : Sim s (t :: L)) : Sim { s with live := delV s.live t.n } L := by
  have q := h.stop t.n
  have e : (t :: L).filter (fun u => !(u.n == t.n)) = L := by
    rw [List.filter_cons, if_neg (by simp)]
    rw [List.filter_eq_self]
    intro u hu
    have : u.n ≠ t.n := fun e => by
      have e' := h.uni u (h.sub u (List.mem_cons_of_mem _ hu)) t List.mem_cons_self e
      subst e'
      exact (List.nodup_cons.1 h.nd).1 hu
    simpa using this
  rw [e] at q
  exact q
theorem Sim.tick (h : Sim s L) {n : Int} (h0 : 0 ≤ n) (h1 : n ≤ 1099511627776) : Sim { s with now := n } L := ⟨h.srt, h.liv, h.sub, h.uni, h.hp, h.bd, ⟨h0, h1⟩, h.ls⟩
theorem Sim.later (h : Sim s L) (now : Int) : Sim (laterV s now) L := by
  unfold laterV
  have := h.tk
  by_cases c : now ≤ 1099511627776
  · rw [if_pos c]
    exact h.tick (by split <;> omega) (by split <;> omega)
  · rw [if_neg c]; exact h
def befV (L : List Tm) (a : Int) : List Tm := L.takeWhile (fun t => decide (t.att ≤ a))
def aftV (L : List Tm) (a : Int) : List Tm := L.dropWhile (fun t => decide (t.att ≤ a))
def insV (L : List Tm) (x : Tm) : List Tm := befV L x.att ++ x :: aftV L x.att
theorem bef_aft (L : List Tm) (a : Int) : befV L a ++ aftV L a = L := List.takeWhile_append_dropWhile
theorem bef_le {L : List Tm} {a : Int} {t : Tm} (h : t ∈ befV L a) : t.att ≤ a := by
  have := List.all_takeWhile (p := fun t : Tm => decide (t.att ≤ a)) (l := L)
  rw [List.all_eq_true] at this
  exact of_decide_eq_true (this t h)
theorem aft_gt (h : Sim s L) {a : Int} {t : Tm} (ht : t ∈ aftV L a) : a < t.att := by
  have hs : (aftV L a).Pairwise (fun a b => ltT a b = true) := h.srt.sublist (List.dropWhile_sublist _)
  cases hc : aftV L a with
  | nil => rw [hc] at ht; cases ht
  | cons u l =>
    have hu : ¬ u.att ≤ a := by
      have := List.head?_dropWhile_not (fun t : Tm => decide (t.att ≤ a)) L
      unfold aftV at hc
      rw [hc] at this
      simpa using this
    rw [hc] at hs ht
    rcases List.mem_cons.1 ht with rfl | ht
    · omega
    · have := (List.pairwise_cons.1 hs).1 t ht
      rw [ltT_iff] at this
      omega
theorem ins_perm (L : List Tm) (x : Tm) : (insV L x).Perm (x :: L) := by
  unfold insV
  have := List.perm_middle (a := x) (l₁ := befV L x.att) (l₂ := aftV L x.att)
  rw [bef_aft] at this
  exact this
theorem ins_len (L : List Tm) (x : Tm) : (insV L x).length = L.length + 1 := by rw [(ins_perm L x).length_eq]; rfl
theorem Sim.set (h : Sim s L) (kind lab a : Int) : Sim ⟨pushV zT ltT s.heap ⟨s.last + 1, kind, lab, a⟩, putV s.live (s.last + 1) lab, s.last + 1, s.now⟩ (insV L ⟨s.last + 1, kind, lab, a⟩) := by
  obtain ⟨p1, p2, _⟩ := push_ok ltT_ord h.hp (⟨s.last + 1, kind, lab, a⟩ : Tm)
  have hls := h.ls
  generalize hx : (⟨s.last + 1, kind, lab, a⟩ : Tm) = x at p1 p2 ⊢
  have xn : x.n = s.last + 1 := by rw [← hx]
  have xl : x.lab = lab := by rw [← hx]
  have ht_ : ∀ t ∈ pushV zT ltT s.heap x, t = x ∨ t ∈ s.heap := fun t ht => List.mem_cons.1 (p1.mem_iff.1 ht)
  have hL_ : ∀ t ∈ insV L x, t = x ∨ t ∈ L := fun t ht => List.mem_cons.1 ((ins_perm L x).mem_iff.1 ht)
  refine ⟨?_, ?_, fun t ht => ?_, fun t ht u hu e => ?_, p2, fun t ht => ?_, h.tk, by show 0 ≤ s.last + 1; omega⟩
  · unfold insV
    rw [List.pairwise_append, List.pairwise_cons]
    refine ⟨h.srt.sublist (List.takeWhile_sublist _), ⟨fun u hu => ?_, h.srt.sublist (List.dropWhile_sublist _)⟩, fun t ht u hu => ?_⟩
    · have := aft_gt h hu
      rw [ltT_iff]; exact .inl this
    · rcases List.mem_cons.1 hu with rfl | hu
      · have a1 := bef_le ht
        have a2 := h.bd t (h.sub t ((List.takeWhile_sublist _).subset ht))
        rw [ltT_iff]
        omega
      · have a1 := bef_le ht
        have a2 := aft_gt h hu
        rw [ltT_iff]; omega
  · show (putV s.live (s.last + 1) lab).Perm _
    unfold putV
    have e : s.live.filter (fun q => !(q.key == s.last + 1)) = s.live := by
      rw [List.filter_eq_self]
      intro q hq
      obtain ⟨t, ht, rfl⟩ := List.mem_map.1 (h.liv.mem_iff.1 hq)
      have := h.bd t (h.sub t ht)
      show (!(t.n == s.last + 1)) = true
      simp; omega
    rw [e]
    have e2 : bk x = ⟨s.last + 1, lab⟩ := by unfold bk; rw [xn, xl]
    refine List.Perm.trans ?_ ((ins_perm L x).map bk).symm
    rw [List.map_cons, e2]
    exact h.liv.cons _
  · rcases hL_ t ht with rfl | ht
    · exact p1.mem_iff.2 List.mem_cons_self
    · exact p1.mem_iff.2 (List.mem_cons_of_mem _ (h.sub t ht))
  · rcases ht_ t ht with ht1 | ht1 <;> rcases hL_ u hu with hu1 | hu1
    · rw [ht1, hu1]
    · have := h.bd u (h.sub u hu1); rw [ht1, xn] at e; omega
    · have := h.bd t ht1; rw [hu1, xn] at e; omega
    · exact h.uni t ht1 u hu1 e
  · show 1 ≤ t.n ∧ t.n ≤ s.last + 1
    rcases ht_ t ht with rfl | ht
    · omega
    · have := h.bd t ht; omega
/-- what is due goes ahead -/
theorem bef_cons {t : Tm} {L : List Tm} {a : Int} (h : t.att ≤ a) : befV (t :: L) a = t :: befV L a ∧ aftV (t :: L) a = aftV L a := by
  unfold befV aftV
  rw [List.takeWhile_cons, List.dropWhile_cons, if_pos (decide_eq_true h), if_pos (decide_eq_true h)]
  exact ⟨rfl, rfl⟩
theorem bef_stop {t : Tm} {L : List Tm} {a : Int} (h : ¬ t.att ≤ a) : befV (t :: L) a = [] ∧ aftV (t :: L) a = t :: L := by
  unfold befV aftV
  rw [List.takeWhile_cons, List.dropWhile_cons, if_neg (by simpa using h), if_neg (by simpa using h)]
  exact ⟨rfl, rfl⟩
theorem bef_nil (a : Int) : befV [] a = [] ∧ aftV [] a = [] := ⟨rfl, rfl⟩
end Go.Proofs.Ytpkilechkoiffaa.Wh
