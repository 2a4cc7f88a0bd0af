/- The pool of pages: what lies, its methods; no condition but those that stand in each. -/
import Derived.Test.YtiekmjkeoicjfaaPgF
namespace Go.Proofs.Ytiekmjkeoicjfaa.Pg
set_option linter.unusedVariables false
set_option linter.unusedSimpArgs false
open Go.RowKit Go.Proofs.YtiekmjkeoicjfaaW.PrintWords Go.Proofs.YtiekmjkeoicjfaaW.PrintLast Go.Proofs.YtiekmjkeoicjfaaW.PrintMore Go.Proofs.Ytiekmjkeoicjfaa.Lst Go.Proofs.Ytiekmjkeoicjfaa.Heap
attribute [local go_sem] max2_int min2_int max_two min_two max_three min_three max_four min_four
structure PS where
  held : List Int
  free : List Int
def IsP (w0 W : World) (g : Nat) (vh v : Value) (p : PS) : Prop := IsF w0 W g vh v p.free ∧ Ls encI 3 W w0.heap.size vh p.held ∧ (∀ k, vh.ownBlock = some k → v.ownBlock ≠ some k) ∧ w0.heap.size ≤ g
def FoP (g : Nat) (vh v : Value) (i : Nat) : Prop := i = g ∨ vh.ownBlock = some i ∨ v.ownBlock = some i
def PostP (w0 w : World) (g : Nat) (vh v : Value) (p' : PS) (w' : World) : Prop := ∃ v', IsP w0 w' g vh v' p' ∧ Below w0.heap.size w0 w' ∧ Kept w w' (FoP g vh v) ∧ (v'.ownBlock = v.ownBlock ∨ ∃ b, v'.ownBlock = some b ∧ w.heap.size ≤ b)
section
variable {w0 w W W' : World} {g : Nat} {vh v : Value} {p : PS}
theorem IsP.f (h : IsP w0 W g vh v p) : IsF w0 W g vh v p.free := h.1
theorem IsP.c0 (h : IsP w0 W g vh v p) : W.cell? ⟨g, 0, none⟩ = some vh := blk_cell h.1.1 0
theorem IsP.c1 (h : IsP w0 W g vh v p) : W.cell? ⟨g, 1, none⟩ = some v := blk_cell h.1.1 1
theorem IsP.hl (h : IsP w0 W g vh v p) : Ls encI 3 W w0.heap.size vh p.held := h.2.1
theorem IsP.fl (h : IsP w0 W g vh v p) : Ls encI 3 W w0.heap.size v p.free := h.1.2
theorem IsP.ge (h : IsP w0 W g vh v p) : w0.heap.size ≤ g := h.2.2.2
theorem IsP.lt (h : IsP w0 W g vh v p) : g < W.heap.size := h.1.lt
theorem IsP.below (h : IsP w0 W g vh v p) (hb : Below W.heap.size W W') : IsP w0 W' g vh v p := ⟨h.1.below hb, h.2.1.below hb, h.2.2⟩
theorem IsP.drew (h : IsP w0 W g vh v p) (n : Nat) : IsP w0 (W.drewN n) g vh v p := h
theorem ls_kept {S : Nat → Prop} {l : List Int} {u : Value} {b0 : Nat} (h : Ls encI 3 W b0 u l) (hk : Kept W W' S) (hn : ∀ k, u.ownBlock = some k → ¬ S k) : Ls encI 3 W' b0 u l := own_move h (fun k hk' => hk.2 k (h.own k hk').2.1 (hn k hk'))
theorem IsP.kept {S : Nat → Prop} (h : IsP w0 W g vh v p) (hk : Kept W W' S) (hn : ∀ k, FoP g vh v k → ¬ S k) : IsP w0 W' g vh v p :=
  ⟨⟨(hk.2 g h.lt (hn g (.inl rfl))).trans h.1.1, ls_kept h.fl hk fun k e => hn k (.inr (.inr e))⟩, ls_kept h.hl hk fun k e => hn k (.inr (.inl e)), h.2.2⟩
/-- behind a call that turns the heap of free pages alone -/
theorem IsP.heap {l' : List Int} (h : IsP w0 w g vh v p) (hp : PostF w0 w g vh v l' W) : PostP w0 w g vh v { p with free := l' } W := by
  obtain ⟨v', h1, h2, h3, h4⟩ := hp
  refine ⟨v', ⟨h1, ls_kept h.hl h3 fun k e hk => ?_, fun k e => ?_, h.ge⟩, h2, h3.mono fun k hk => ?_, h4⟩
  · rcases hk with rfl | hk
    · exact h.hl.ne h.1.1 (by decide) e.symm
    · exact h.2.2.1 k e hk
  · rcases h4 with h4 | ⟨b, h4, hb⟩
    · rw [h4]; exact h.2.2.1 k e
    · rw [h4]
      intro e'
      cases e'
      exact absurd (h.hl.own k e).2.1 (Nat.not_lt.2 hb)
  · rcases hk with rfl | hk
    · exact .inl rfl
    · exact .inr (.inr hk)
theorem PostP.refl (h : IsP w0 w g vh v p) (hB : Below w0.heap.size w0 w) : PostP w0 w g vh v p w := ⟨v, h, hB, Kept.refl _ _, .inl rfl⟩
/-- a page's number is laid -/
theorem PostP.put {p' : PS} (h : PostP w0 w g vh v p' W) {gh n c : Nat} (hv : vh = .slice (some ⟨gh, 0, none⟩) n c) {k : Nat} (hk : k < p'.held.length) (x : Int) : PostP w0 w g vh v { p' with held := p'.held.set k x } (W.setCell ⟨gh, k, none⟩ (.int .i64 x)) := by
  subst hv
  obtain ⟨v', h1, h2, h3, h4⟩ := h
  have hb := h1.hl.own gh rfl
  have hne : g ≠ gh := by
    have := h1.hl.ne h1.1.1 (by decide)
    intro e; subst e; exact this rfl
  exact ⟨v', ⟨⟨blk_far h1.1.1 (p := ⟨gh, k, none⟩) hne _, h1.fl.far (p := ⟨gh, k, none⟩) (fun e => h1.2.2.1 gh rfl e.symm) _⟩, ls_put h1.hl hk x, h1.2.2⟩, below_set h2 hb.1, h3.setCell (p := ⟨gh, k, none⟩) (.inl (.inr (.inl rfl))) _, h4⟩
end
theorem PostP.trans {w0 w w1 w2 : World} {g : Nat} {vh v v1 : Value} {p2 : PS} (hk : Kept w w1 (FoP g vh v)) (ho : v1.ownBlock = v.ownBlock ∨ ∃ b, v1.ownBlock = some b ∧ w.heap.size ≤ b) (h : PostP w0 w1 g vh v1 p2 w2) : PostP w0 w g vh v p2 w2 := by
  obtain ⟨v2, h1, h2, h3, h4⟩ := h
  refine ⟨v2, h1, h2, hk.then_ h3 fun k hk' => ?_, ?_⟩
  · rcases hk' with rfl | e | e
    · exact .inl (.inl rfl)
    · exact .inl (.inr (.inl e))
    · rcases ho with ho | ⟨b, ho, hb⟩
      · exact .inl (.inr (.inr (ho ▸ e)))
      · rw [ho] at e; cases e; exact .inr hb
  · rcases h4 with h4 | ⟨b, h4, hb'⟩
    · rw [h4]; exact ho
    · exact .inr ⟨b, h4, Nat.le_trans hk.1 hb'⟩
structure Ok (p : PS) : Prop where
  h1 : 1 ≤ p.held.length
  h2 : p.held.length ≤ 256
  hp : Hp 0 ltI p.free p.free.length
  nd : p.free.Nodup
  fr : ∀ x, x ∈ p.free ↔ 0 ≤ x ∧ x < p.held.length ∧ at_ 0 p.held x.toNat = 0
  bd : ∀ x ∈ p.held, 0 ≤ x ∧ x ≤ 2147483647
theorem len_le {α : Type} [BEq α] [LawfulBEq α] : ∀ {a b : List α}, a.Nodup → (∀ x ∈ a, x ∈ b) → a.length ≤ b.length
  | [], _, _, _ => Nat.zero_le _
  | x :: a, b, h, hs => by
    rw [List.nodup_cons] at h
    have hx := hs x List.mem_cons_self
    have := len_le (a := a) (b := b.erase x) h.2 fun y hy => by
      have hy' := hs y (List.mem_cons_of_mem _ hy)
      have hne : y ≠ x := by rintro rfl; exact h.1 hy
      exact (List.mem_erase_of_ne hne).2 hy'
    rw [List.length_erase_of_mem hx] at this
    have : 0 < b.length := List.length_pos_of_mem hx
    rw [List.length_cons]
    omega
theorem Ok.flen {p : PS} (h : Ok p) : p.free.length ≤ 256 := by
  have : p.free.length ≤ ((List.range p.held.length).map (fun k : Nat => (k : Int))).length := by
    refine len_le h.nd fun x hx => ?_
    obtain ⟨a, b, _⟩ := (h.fr x).1 hx
    exact List.mem_map.2 ⟨x.toNat, List.mem_range.2 (by omega), by omega⟩
  rw [List.length_map, List.length_range] at this
  have := h.h2
  omega
def heldV (l : List Int) (n : Int) : Int := if 0 ≤ n ∧ n < l.length then at_ 0 l n.toNat else 0
theorem ok_c (w0 : World) (g : Nat) (vh v : Value) (p : PS) (h1 : 1 ≤ p.held.length) (w : World) (h : IsP w0 w g vh v p) : Calls Try.prog 22 #[.pointer (some ⟨g, 0, none⟩)] w fun e w' => e = .returned (.bool true) ∧ w = w' := by
  have hc := h.c0
  obtain ⟨A, c, rfl, _, _⟩ := h.hl.form
  have d1 : decide ((0 : Int) < (p.held.length : Int)) = true := decide_eq_true (by omega)
  have d2 : decide (0 < p.held.length) = true := decide_eq_true (by omega)
  clear h
  go_enter Try.func22, Try.ntmps22
  go_wp2_with fail
  go_ret
  exact ⟨rfl, rfl⟩
theorem held_c (w0 : World) (g : Nat) (vh v : Value) (p : PS) (n r : Int) (hr : heldV p.held n = r) (w : World) (h : IsP w0 w g vh v p) : Calls Try.prog 16 #[.pointer (some ⟨g, 0, none⟩), .int .i64 n] w fun e w' => e = .returned (.int .i64 r) ∧ w = w' := by
  have hc := h.c0
  obtain ⟨A, c, rfl, _, _⟩ := h.hl.form
  unfold heldV at hr
  by_cases h0 : n < 0
  · rw [if_neg (by omega)] at hr
    subst hr
    clear h
    go_enter Try.func16, Try.ntmps16
    go_wp2_with fail
    go_ret
    exact ⟨rfl, rfl⟩
  · obtain ⟨k, rfl⟩ : ∃ k : Nat, n = k := ⟨n.toNat, by omega⟩
    by_cases h1 : k < p.held.length
    · rw [if_pos (by omega), Int.toNat_natCast] at hr
      obtain ⟨gb, rfl, _, _, hk, _⟩ := ls_at h.hl (at_get 0 h1)
      rw [hr] at hk
      have d1 : decide ((k : Int) < 0) = false := decide_eq_false (by omega)
      have d2 : decide ((p.held.length : Int) ≤ (k : Int)) = false := decide_eq_false (by omega)
      clear h hr h0
      go_enter Try.func16, Try.ntmps16
      go_wp2_with fail
      go_ret
      exact ⟨rfl, rfl⟩
    · rw [if_neg (by omega)] at hr
      subst hr
      have d1 : decide ((k : Int) < 0) = false := decide_eq_false (by omega)
      have d2 : decide ((p.held.length : Int) ≤ (k : Int)) = true := decide_eq_true (by omega)
      clear h h0
      go_enter Try.func16, Try.ntmps16
      go_wp2_with fail
      go_ret
      exact ⟨rfl, rfl⟩
theorem free_c (w0 : World) (g : Nat) (vh v : Value) (p : PS) (h1 : 1 ≤ p.held.length) (n : Nat) (hn : p.free.length = n) (w : World) (h : IsP w0 w g vh v p) : Calls Try.prog 21 #[.pointer (some ⟨g, 0, none⟩)] w fun e w' => e = .returned (.int .i64 (n : Int)) ∧ w = w' := by
  have hc := h.c1
  have H1 := Aside0.mk h1
  have HP := Aside0.mk h
  obtain ⟨A, c, rfl, _, _⟩ := h.fl.form
  rw [hn] at hc
  rw [hn] at HP
  clear h hn h1
  go_enter Try.func21, Try.ntmps21
  go_wp2_with (first | (go_at_call 22; (with_reducible refine (ok_c w0 g vh _ p H1.out _ HP.out).mono ?_); rintro e w9 ⟨rfl, rfl⟩))
  go_ret
  exact ⟨rfl, rfl⟩
/-! ### Hold, Drop, Take, Used -/
def holdV (p : PS) (n : Int) : Int × PS := if heldV p.held n = 0 then (1, p) else if heldV p.held n = 2147483647 then (5, p) else (0, { p with held := p.held.set n.toNat (heldV p.held n + 1) })
def dropV (p : PS) (n : Int) : (Bool × Int) × PS := if heldV p.held n = 0 then ((false, 1), p) else
  if 1 < heldV p.held n then ((false, 0), { p with held := p.held.set n.toNat (heldV p.held n - 1) }) else ((true, 0), ⟨p.held.set n.toNat (heldV p.held n - 1), pushV 0 ltI p.free n⟩)
def takeV (p : PS) : (Int × Int) × PS := if p.free = [] then ((0, 9), p) else (((popV 0 ltI p.free).1, 0), ⟨p.held.set (popV 0 ltI p.free).1.toNat 1, (popV 0 ltI p.free).2⟩)
theorem held_in {l : List Int} {n : Int} (h : heldV l n ≠ 0) : ∃ k : Nat, n = k ∧ k < l.length ∧ heldV l n = at_ 0 l k := by
  unfold heldV at h ⊢
  by_cases c : 0 ≤ n ∧ n < l.length
  · rw [if_pos c]
    exact ⟨n.toNat, by omega, by omega, rfl⟩
  · rw [if_neg c] at h; exact absurd rfl h
theorem held_bd {p : PS} (h : Ok p) (n : Int) : 0 ≤ heldV p.held n ∧ heldV p.held n ≤ 2147483647 := by
  unfold heldV
  by_cases c : 0 ≤ n ∧ n < p.held.length
  · rw [if_pos c]
    exact h.bd _ (at_mem (by omega))
  · rw [if_neg c]; decide
set_option maxHeartbeats 8000000 in
theorem hold_c (w0 : World) (g : Nat) (vh v : Value) (p : PS) (hO : Ok p) (n : Int) (r : Int) (p' : PS) (hr : holdV p n = (r, p')) (w : World) (h : IsP w0 w g vh v p) (hB : Below w0.heap.size w0 w) : Calls Try.prog 10 #[.pointer (some ⟨g, 0, none⟩), .int .i64 n] w fun e w' => e = .returned (.int .i64 r) ∧ PostP w0 w g vh v p' w' := by
  have H1 := Aside0.mk hO.h1
  have HP := Aside0.mk h
  have HPP := Aside0.mk (PostP.refl h hB)
  obtain ⟨x, hx⟩ : ∃ x, heldV p.held n = x := ⟨_, rfl⟩
  have HH := Aside0.mk hx
  have bd := held_bd hO n
  unfold holdV at hr
  rw [hx] at hr bd
  by_cases c0 : x = 0
  · rw [if_pos c0] at hr
    subst c0
    simp only [Prod.mk.injEq] at hr
    obtain ⟨rfl, rfl⟩ := hr
    clear h hO hx hB
    go_enter Try.func10, Try.ntmps10
    go_wp2_with (first | (go_at_call 22; (with_reducible refine (ok_c w0 g _ v p H1.out _ HP.out).mono ?_); rintro e w9 ⟨rfl, rfl⟩) | (go_at_call 16; (with_reducible refine (held_c w0 g _ v p _ 0 HH.out _ HP.out).mono ?_); rintro e w9 ⟨rfl, rfl⟩))
    go_ret
    exact ⟨rfl, HPP.out⟩
  · rw [if_neg c0] at hr
    obtain ⟨k, rfl, hk, hxk⟩ := held_in (by rw [hx]; exact c0)
    rw [hx] at hxk
    have hc := h.c0
    obtain ⟨A, c, rfl, _, _⟩ := h.hl.form
    obtain ⟨gb, rfl, _, _, kc, kf⟩ := ls_at h.hl (at_get 0 hk)
    rw [← hxk] at kc
    have kf := kf k
    have e0 : (x == 0) = false := by simpa using c0
    by_cases c1 : x = 2147483647
    · rw [if_pos c1] at hr
      subst c1
      simp only [Prod.mk.injEq] at hr
      obtain ⟨rfl, rfl⟩ := hr
      clear h hO hx hB
      go_enter Try.func10, Try.ntmps10
      go_wp2_with (first | (go_at_call 22; (with_reducible refine (ok_c w0 g _ v p H1.out _ HP.out).mono ?_); rintro e w9 ⟨rfl, rfl⟩) | (go_at_call 16; (with_reducible refine (held_c w0 g _ v p _ _ HH.out _ HP.out).mono ?_); rintro e w9 ⟨rfl, rfl⟩))
      go_ret
      exact ⟨rfl, HPP.out⟩
    · rw [if_neg c1] at hr
      simp only [Prod.mk.injEq] at hr
      obtain ⟨rfl, rfl⟩ := hr
      have e1 : (x == 2147483647) = false := by simpa using c1
      have e2 : wrap64 (x + 1) = x + 1 := Base.w64 (by omega) (by omega)
      have HK := Aside0.mk hk
      clear h hO hx hB c0 c1 hxk
      go_enter Try.func10, Try.ntmps10
      go_wp2_with (first | (go_at_call 22; (with_reducible refine (ok_c w0 g _ v p H1.out _ HP.out).mono ?_); rintro e w9 ⟨rfl, rfl⟩) | (go_at_call 16; (with_reducible refine (held_c w0 g _ v p _ _ HH.out _ HP.out).mono ?_); rintro e w9 ⟨rfl, rfl⟩))
      go_ret
      exact ⟨rfl, by rw [Int.toNat_natCast]; exact HPP.out.put rfl HK.out (x + 1)⟩
set_option maxHeartbeats 8000000 in
theorem drop_c (w0 : World) (g : Nat) (vh v : Value) (p : PS) (hO : Ok p) (n : Int) (r : Bool) (e0_ : Int) (p' : PS) (hr : dropV p n = ((r, e0_), p')) (w : World) (h : IsP w0 w g vh v p) (hB : Below w0.heap.size w0 w) : Calls Try.prog 12 #[.pointer (some ⟨g, 0, none⟩), .int .i64 n] w fun e w' => e = .returned (.tuple #[.bool r, .int .i64 e0_]) ∧ PostP w0 w g vh v p' w' := by
  have H1 := Aside0.mk hO.h1
  have HP := Aside0.mk h
  have HPP := Aside0.mk (PostP.refl h hB)
  obtain ⟨x, hx⟩ : ∃ x, heldV p.held n = x := ⟨_, rfl⟩
  have HH := Aside0.mk hx
  have bd := held_bd hO n
  have fl := hO.flen
  unfold dropV at hr
  rw [hx] at hr bd
  by_cases c0 : x = 0
  · rw [if_pos c0] at hr
    subst c0
    simp only [Prod.mk.injEq] at hr
    obtain ⟨⟨rfl, rfl⟩, rfl⟩ := hr
    clear h hO hx hB
    go_enter Try.func12, Try.ntmps12
    go_wp2_with (first | (go_at_call 22; (with_reducible refine (ok_c w0 g _ v p H1.out _ HP.out).mono ?_); rintro e w9 ⟨rfl, rfl⟩) | (go_at_call 16; (with_reducible refine (held_c w0 g _ v p _ 0 HH.out _ HP.out).mono ?_); rintro e w9 ⟨rfl, rfl⟩))
    go_ret2
    exact ⟨rfl, HPP.out⟩
  · rw [if_neg c0] at hr
    obtain ⟨k, rfl, hk, hxk⟩ := held_in (by rw [hx]; exact c0)
    rw [hx] at hxk
    have hc := h.c0
    obtain ⟨A, c, rfl, _, _⟩ := h.hl.form
    obtain ⟨gb, rfl, hgb, _, kc, kf⟩ := ls_at h.hl (at_get 0 hk)
    rw [← hxk] at kc
    have kf := kf k
    have e0 : (x == 0) = false := by simpa using c0
    have e2 : wrap64 (x - 1) = x - 1 := Base.w64 (by omega) (by omega)
    have HK := Aside0.mk hk
    have hP1 := HPP.out.put rfl hk (x - 1)
    have HQ1 := Aside0.mk hP1
    obtain ⟨v1, i1, b1, k1, o1⟩ := hP1
    have hl1 := i1.hl
    have hc1 := i1.c0
    obtain ⟨_, ee, _, _, kc1, _⟩ := ls_at hl1 (i := k) (x := x - 1) (by rw [List.getElem?_set_self hk])
    cases ee
    have I1 := Aside0.mk i1; have B1 := Aside0.mk b1; have K1 := Aside0.mk k1; have O1 := Aside0.mk o1
    rw [Int.toNat_natCast] at hr
    by_cases c1 : 1 < x
    · rw [if_pos c1] at hr
      simp only [Prod.mk.injEq] at hr
      obtain ⟨⟨rfl, rfl⟩, rfl⟩ := hr
      have e1 : decide (0 < x - 1) = true := decide_eq_true (by omega)
      have e3 : decide (1 < x) = true := decide_eq_true (by omega)
      clear h hO hx hB c0 c1 hxk i1 b1 k1 o1 hl1
      go_enter Try.func12, Try.ntmps12
      go_wp2_with (first | (go_at_call 22; (with_reducible refine (ok_c w0 g _ v p H1.out _ HP.out).mono ?_); rintro e w9 ⟨rfl, rfl⟩) | (go_at_call 16; (with_reducible refine (held_c w0 g _ v p _ _ HH.out _ HP.out).mono ?_); rintro e w9 ⟨rfl, rfl⟩))
      go_ret2
      exact ⟨rfl, HQ1.out⟩
    · rw [if_neg c1] at hr
      simp only [Prod.mk.injEq] at hr
      obtain ⟨⟨rfl, rfl⟩, rfl⟩ := hr
      have e1 : decide (0 < x - 1) = false := decide_eq_false (by omega)
      have e3 : decide (1 < x) = false := decide_eq_false (by omega)
      obtain ⟨l', hl'⟩ : ∃ l', pushV 0 ltI p.free (k : Int) = l' := ⟨_, rfl⟩
      have HL' := Aside0.mk hl'
      have HFL := Aside0.mk fl
      rw [hl']
      clear h hO hx hB c0 c1 hxk i1 b1 k1 o1 hl1 hl' fl
      go_enter Try.func12, Try.ntmps12
      go_wp2_with (first | (go_at_call 22; (with_reducible refine (ok_c w0 g _ v p H1.out _ HP.out).mono ?_); rintro e w9 ⟨rfl, rfl⟩) | (go_at_call 16; (with_reducible refine (held_c w0 g _ v p _ _ HH.out _ HP.out).mono ?_); rintro e w9 ⟨rfl, rfl⟩) | (go_at_call 23; (with_reducible refine (heappush_c w0 g _ v1 p.free (k : Int) (by have := HFL.out; omega) l' HL'.out _ I1.out.f B1.out I1.out.ge).mono ?_); rintro e w9 ⟨rfl, hp⟩; have HP9 := Aside0.mk (I1.out.heap hp); clear hp))
      go_ret2
      exact ⟨rfl, PostP.trans K1.out O1.out HP9.out⟩
set_option maxHeartbeats 8000000 in
theorem take_c (w0 : World) (g : Nat) (vh v : Value) (p : PS) (hO : Ok p) (x e0_ : Int) (p' : PS) (hr : takeV p = ((x, e0_), p')) (w : World) (h : IsP w0 w g vh v p) (hB : Below w0.heap.size w0 w) : Calls Try.prog 14 #[.pointer (some ⟨g, 0, none⟩)] w fun e w' => e = .returned (.tuple #[.int .i64 x, .int .i64 e0_]) ∧ PostP w0 w g vh v p' w' := by
  have H1 := Aside0.mk hO.h1
  have HP := Aside0.mk h
  have HPP := Aside0.mk (PostP.refl h hB)
  have fl := hO.flen
  unfold takeV at hr
  have hc := h.c1
  obtain ⟨Af, cf, hvf, _, _⟩ := h.fl.form
  rw [hvf] at hc
  by_cases c0 : p.free = []
  · rw [if_pos c0] at hr
    simp only [Prod.mk.injEq] at hr
    obtain ⟨⟨rfl, rfl⟩, rfl⟩ := hr
    rw [c0] at hc
    have hc' : w.cell? ⟨g, 1, none⟩ = some (.slice Af 0 cf) := hc
    clear h hO hB hc hvf
    go_enter Try.func14, Try.ntmps14
    go_wp2_with (first | (go_at_call 22; (with_reducible refine (ok_c w0 g _ _ p H1.out _ HP.out).mono ?_); rintro e w9 ⟨rfl, rfl⟩))
    go_ret2
    exact ⟨rfl, HPP.out⟩
  · rw [if_neg c0] at hr
    simp only [Prod.mk.injEq] at hr
    obtain ⟨⟨hx, rfl⟩, rfl⟩ := hr
    have hl0 : 0 < p.free.length := List.length_pos_iff.2 c0
    obtain ⟨_, q1, q2, _, _, _⟩ := pop_ok ltI_ord hO.hp hl0
    have hm : (popV 0 ltI p.free).1 ∈ p.free := q2.mem_iff.1 List.mem_cons_self
    obtain ⟨a1, a2, a3⟩ := (hO.fr _).1 hm
    obtain ⟨k, hk⟩ : ∃ k : Nat, (popV 0 ltI p.free).1 = k := ⟨(popV 0 ltI p.free).1.toNat, by omega⟩
    obtain ⟨l', hl'⟩ : ∃ l', (popV 0 ltI p.free).2 = l' := ⟨_, rfl⟩
    have HV := Aside0.mk (show popV 0 ltI p.free = ((k : Int), l') by rw [← hk, ← hl'])
    rw [hk] at hx a2
    subst hx
    rw [hk, hl', Int.toNat_natCast]
    have hkl : k < p.held.length := by omega
    have e1 : ((p.free.length : Int) == 0) = false := by simp; omega
    have HFL := Aside0.mk (And.intro fl hl0)
    have HK := Aside0.mk hkl
    have HB := Aside0.mk hB
    have hta := ta_run
    have hc0 := h.c0
    obtain ⟨A, c, rfl, _, _⟩ := h.hl.form
    obtain ⟨gb, rfl, hgb, _, kc, kf⟩ := ls_at h.hl (at_get 0 hkl)
    clear h hO hB hvf fl q1 q2 hm a1 a2 a3 hk hl' c0 kc kf
    go_enter Try.func14, Try.ntmps14
    go_wp2_with (first | (go_at_call 22; (with_reducible refine (ok_c w0 g _ _ p H1.out _ HP.out).mono ?_); rintro e w9 ⟨rfl, rfl⟩) | (go_at_call 24; (with_reducible refine (heappop_c w0 g _ v p.free (by have := HFL.out.1; omega) HFL.out.2 (k : Int) l' HV.out _ HP.out.f HB.out HP.out.ge).mono ?_); rintro e w9 ⟨rfl, hp⟩; have HP9 := Aside0.mk (HP.out.heap hp); clear hp; obtain ⟨v1, i1, b1, k1, o1⟩ := HP9.out; have c0_ := i1.c0; obtain ⟨_, ee, _, _, kc, kf⟩ := ls_at i1.hl (at_get 0 HK.out); cases ee; have kf := kf k; clear i1 b1 k1 o1))
    go_ret2
    exact ⟨rfl, HP9.out.put rfl HK.out 1⟩
def usedV (l : List Int) (n : Nat) : List Int := ((List.range n).filter (fun k => decide (0 < at_ 0 l k))).map (fun k : Nat => (k : Int))
theorem used_succ (l : List Int) (n : Nat) : usedV l (n + 1) = usedV l n ++ (if 0 < at_ 0 l n then [(n : Int)] else []) := by
  unfold usedV
  rw [List.range_succ, List.filter_append, List.map_append]
  congr 1
  rw [List.filter_cons, List.filter_nil]
  by_cases h : 0 < at_ 0 l n
  · rw [if_pos h, if_pos (decide_eq_true h)]; rfl
  · rw [if_neg h, if_neg (by simpa using h)]; rfl
theorem used_len (l : List Int) (n : Nat) : (usedV l n).length ≤ n := by
  unfold usedV
  rw [List.length_map]
  have := List.length_filter_le (fun k => decide (0 < at_ 0 l k)) (List.range n)
  rw [List.length_range] at this
  exact this
set_option maxHeartbeats 8000000 in
theorem used_c (w0 : World) (g : Nat) (vh v : Value) (p : PS) (h1 : 1 ≤ p.held.length) (h2 : p.held.length ≤ 256) (w : World) (h : IsP w0 w g vh v p) : Calls Try.prog 19 #[.pointer (some ⟨g, 0, none⟩)] w fun e w' => ∃ u, e = .returned u ∧ Ls encI 3 w' w.heap.size u (usedV p.held p.held.length) ∧ Below w.heap.size w w' := by
  have H1 := Aside0.mk h1
  have H2 := Aside0.mk h2
  have HP := Aside0.mk h
  have hc := h.c0
  obtain ⟨A, c, rfl, _, _⟩ := h.hl.form
  have HHL := Aside0.mk h.hl
  clear h h1 h2
  go_enter Try.func19, Try.ntmps19
  go_wp2_with (first | (go_at_call 22; (with_reducible refine (ok_c w0 g _ v p H1.out _ HP.out).mono ?_); rintro e w9 ⟨rfl, rfl⟩))
  go_loopw [3, 14] (fun vo vi wr => ∃ (i : Nat), vi = .int .i64 i ∧ Aside0 (i ≤ p.held.length) ∧ Aside0 (Ls encI 3 wr w.heap.size vo (usedV p.held i)) ∧ Aside0 (Below w.heap.size w wr)) (fun _ vi _ => (p.held.length - intOf vi).toNat)
  case atStart => exact ⟨0, rfl, ⟨Nat.zero_le _⟩, ⟨Ls.nil _ _ _ _⟩, ⟨Below.refl _ _⟩⟩
  case round =>
    obtain ⟨i, rfl, HI, HLS, HBW⟩ := hrel
    obtain ⟨A2, c2, rfl, _, _⟩ := HLS.out.form
    have l1 := HI.out
    have l0 := H2.out
    by_cases hlt : i < p.held.length
    · obtain ⟨gb, rfl, _, _, kc, _⟩ := ls_at (HHL.out.below HBW.out) (at_get 0 hlt)
      obtain ⟨x, hx⟩ : ∃ x, at_ 0 p.held i = x := ⟨_, rfl⟩
      rw [hx] at kc
      have HS := Aside0.mk (used_succ p.held i)
      rw [hx] at HS
      have HLB := Aside0.mk (show (usedV p.held i).length ≤ 256 by have := used_len p.held i; omega)
      clear hx
      by_cases hk : 0 < x
      · have d1 : decide (0 < x) = true := decide_eq_true hk
        rw [if_pos hk] at HS
        clear hk
        go_wp2_with (first | (at_builtin; refine wpList_push rfl _ _ 27 3 _ 8 rfl Try.underlying27 info3 rfl w.heap.size _ _ (i : Int) rfl _ rfl (by simp) HLS.out HBW.out.size (by have := HLB.out; omega) (by decide) _ rfl ?_; intro v1 w1 h1 h2 h3; have HP1 := Aside0.mk h1; have HP2 := Aside0.mk h2; clear h1 h2 h3) | go_in)
        go_roundw
        case rel => exact ⟨i + 1, by go_num, ⟨by omega⟩, ⟨by rw [HS.out]; exact HP1.out⟩, ⟨pw_below_grown HBW.out _ HBW.out.size HP2.out (fun k hk => (HLS.out.own k hk).1)⟩⟩
        case measure => simp [intOf]; omega
      · have d1 : decide (0 < x) = false := decide_eq_false hk
        rw [if_neg hk, List.append_nil] at HS
        clear hk
        go_wp2_with fail
        go_roundw
        case rel => exact ⟨i + 1, by go_num, ⟨by omega⟩, ⟨by rw [HS.out]; exact HLS.out⟩, ⟨HBW.out⟩⟩
        case measure => simp [intOf]; omega
    · obtain rfl : i = p.held.length := by omega
      go_wp2_with fail
      go_ret
      exact ⟨_, rfl, HLS.out, HBW.out⟩
/-! ### New -/
theorem made_eq (n : Nat) : (madeCells (Value.int .i64 0).cells (n * 1)).toList = (List.replicate n (0 : Int)).flatMap encI.enc := by
  apply List.ext_getElem?
  intro k
  have e : (List.replicate n (0 : Int)).flatMap encI.enc = List.replicate n (.int .i64 0) := by
    induction n with
    | zero => rfl
    | succ n ih => rw [List.replicate_succ, List.flatMap_cons, ih]; rfl
  rw [e]
  unfold madeCells
  rw [Array.getElem?_toList, Array.getElem?_map, Nat.mul_one]
  by_cases h : k < n
  · rw [List.getElem?_replicate, if_pos h, Array.getElem?_range, if_pos h]
    show some ((#[Value.int .i64 0] : Array Value)[k % 1]!) = _
    rw [Nat.mod_one]
    rfl
  · rw [List.getElem?_replicate, if_neg h, Array.getElem?_range, if_neg h]
    rfl
def asc (n : Nat) : List Int := (List.range n).map (fun k : Nat => (k : Int))
theorem asc_succ (n : Nat) : asc (n + 1) = asc n ++ [(n : Int)] := by unfold asc; rw [List.range_succ, List.map_append]; rfl
theorem asc_len (n : Nat) : (asc n).length = n := by unfold asc; rw [List.length_map, List.length_range]
theorem asc_at {n k : Nat} (h : k < n) : at_ 0 (asc n) k = (k : Int) := by
  refine at_of 0 ?_
  unfold asc
  rw [List.getElem?_map, List.getElem?_range h]; rfl
def newV (n : Nat) : PS := ⟨List.replicate n 0, asc n⟩
theorem at_rep {n k : Nat} (h : k < n) : at_ 0 (List.replicate n (0 : Int)) k = 0 := at_of 0 (by rw [List.getElem?_replicate, if_pos h])
theorem new_ok {n : Nat} (h1 : 1 ≤ n) (h2 : n ≤ 256) : Ok (newV n) := by
  have lr : (newV n).held.length = n := List.length_replicate
  refine ⟨by rw [lr]; exact h1, by rw [lr]; exact h2, ?_, ?_, fun x => ?_, fun x hx => ?_⟩
  · show Hp 0 ltI (asc n) (asc n).length
    rw [asc_len]
    intro k h0 hk
    rw [asc_at hk, asc_at (by omega)]
    unfold ltI
    exact decide_eq_false (by omega)
  · show (asc n).Nodup
    unfold asc
    rw [List.nodup_iff_pairwise_ne, List.pairwise_map]
    exact (List.nodup_iff_pairwise_ne.1 List.nodup_range).imp (fun h e => h (by omega))
  · show x ∈ asc n ↔ _
    rw [lr]
    unfold asc
    rw [List.mem_map]
    constructor
    · rintro ⟨k, hk, rfl⟩
      have := List.mem_range.1 hk
      exact ⟨by omega, by omega, at_rep (by omega)⟩
    · rintro ⟨a, b, _⟩
      exact ⟨x.toNat, List.mem_range.2 (by omega), by omega⟩
  · obtain rfl := List.eq_of_mem_replicate hx
    decide
set_option maxHeartbeats 8000000 in
theorem new_c (n : Int) (m : Nat) (hn : n = m) (h1 : 1 ≤ m) (h2 : m ≤ 256) (w : World) : Calls Try.prog 6 #[.int .i64 n] w fun e w' => ∃ g vh v, e = .returned (.tuple #[.pointer (some ⟨g, 0, none⟩), .int .i64 0]) ∧ IsP w w' g vh v (newV m) ∧ Below w.heap.size w w' := by
  subst hn
  have d1 : decide ((m : Int) < 1) = false := decide_eq_false (by omega)
  have d2 : decide (256 < (m : Int)) = false := decide_eq_false (by omega)
  obtain ⟨i0, hi0, hz0, hs0, hb0⟩ := info_parts info3
  have HB := Aside0.mk (Below.refl w.heap.size w)
  go_enter Try.func6, Try.ntmps6
  go_upto_region 4 with (first | (at_make; refine wpList_make_full _ rfl _ _ 27 rfl w.heap.size 3 i0 (.int .i64 0) 1 Try.underlying27 hi0 hz0 hs0 .i64 .i64 _ _ m rfl rfl rfl rfl (by rw [hb0]; omega) (by unfold maxLen; omega) (Nat.le_refl _) ?_; intro w1 h1 h2; have H1 := Aside0.mk h1; have H2 := Aside0.mk h2; clear h1 h2) | go_in)
  have hls := (show Ls encI 3 w1 w.heap.size (.slice (some ⟨w.heap.size, 0, none⟩) m m) (List.replicate m 0) from by
    have q := H1.out
    rw [made_eq] at q
    unfold Ls
    rw [List.length_replicate]
    exact q)
  obtain ⟨wz, hwz⟩ : ∃ wz, w1.alloc (.cells #[.slice (some ⟨w.heap.size, 0, none⟩) m m, .slice none 0 0] 53 (0, 0)) = wz := ⟨_, rfl⟩
  have bel := below_alloc (Below.refl w1.heap.size w1) (.cells #[.slice (some ⟨w.heap.size, 0, none⟩) m m, .slice none 0 0] 53 (0, 0))
  have HB1 := Aside0.mk (show Below w.heap.size w wz from by rw [← hwz]; exact below_step (pw_below_grown HB.out none HB.out.size H2.out (fun k hk => by cases hk)) bel)
  have HI := Aside0.mk (show IsP w wz w1.heap.size (.slice (some ⟨w.heap.size, 0, none⟩) m m) (.slice none 0 0) ⟨List.replicate m 0, asc 0⟩ from by
    rw [← hwz]
    exact ⟨⟨blk_new _ _, Ls.nil _ _ _ _⟩, hls.below bel, fun k _ e => (by cases e), H2.out.size⟩)
  rw [hwz]
  clear hls hwz bel HB
  generalize w1.heap.size = g at HI ⊢
  generalize Value.slice (some ⟨w.heap.size, 0, none⟩) m m = vh at HI ⊢
  generalize Value.slice none 0 0 = v0 at HI
  go_wp2_with fail
  go_loopw [17] (fun vi wr => ∃ (i : Nat) (v : Value), vi = .int .i64 i ∧ Aside0 (i ≤ m) ∧ Aside0 (IsP w wr g vh v ⟨List.replicate m 0, asc i⟩) ∧ Aside0 (Below w.heap.size w wr)) (fun vi _ => (m - intOf vi).toNat)
  case atStart => exact ⟨0, v0, rfl, ⟨Nat.zero_le _⟩, HI, HB1⟩
  case round =>
    obtain ⟨i, v, rfl, HL, HP, HBW⟩ := hrel
    have l1 := HL.out
    by_cases hlt : i < m
    · have hc := HP.out.c1
      obtain ⟨A, c, rfl, _, _⟩ := HP.out.fl.form
      have HLS := Aside0.mk HP.out.fl
      have HLB := Aside0.mk (show (asc i).length ≤ 256 by rw [asc_len]; omega)
      dsimp only at hc HLS
      go_wp2_with (first | (at_builtin; refine wpList_push rfl _ _ 51 3 _ 8 rfl Try.underlying51 info3 rfl w.heap.size (.slice A (asc i).length c) (asc i) (i : Int) rfl _ rfl rfl HLS.out HBW.out.size (by have := HLB.out; omega) (by decide) _ rfl ?_; intro v1 w1 h1 h2 h3; have K1 := Aside0.mk h1; have K2 := Aside0.mk h2; have K3 := Aside0.mk h3; clear h1 h2 h3; obtain ⟨A1, c1, rfl, _, _⟩ := K1.out.form; have c1_ := (HP.out.f.grown_ K2.out).c1; have f1_ := (HP.out.f.grown_ K2.out).free 1) | go_in)
      go_roundw
      case rel =>
        have b := (HP.out.f.grown_ K2.out).blk
        have q := K1.out
        rw [List.length_append, List.length_singleton] at q
        have k3 := K3.out
        have hne : ∀ k, vh.ownBlock = some k → some k ≠ (Value.slice A (asc i).length c).ownBlock := fun k e e' => HP.out.2.2.1 k e e'.symm
        refine ⟨i + 1, _, by go_num, ⟨by omega⟩, ⟨⟨⟨blk_set b 1 _, ?_⟩, (HP.out.hl.grown K2.out ?_).far (p := ⟨g, 1, none⟩) ?_ _, ?_, HP.out.ge⟩⟩, ⟨below_set (pw_below_grown HBW.out _ HBW.out.size K2.out (fun k hk => (HLS.out.own k hk).1)) HP.out.ge⟩⟩
        · show Ls encI 3 _ _ _ (asc (i + 1))
          rw [asc_succ]
          exact q.far (p := ⟨g, 1, none⟩) (q.ne b (by decide)) _
        · cases hv : vh.ownBlock with
          | none => exact .inl rfl
          | some k => exact .inr (hne k hv)
        · exact HP.out.hl.ne HP.out.1.1 (by decide)
        · intro k e
          rcases k3 with k3 | ⟨b', k3, hb'⟩
          · rw [List.length_append, List.length_singleton] at k3
            rw [k3]; exact HP.out.2.2.1 k e
          · rw [List.length_append, List.length_singleton] at k3
            rw [k3]
            intro e'
            cases e'
            exact absurd (HP.out.hl.own k e).2.1 (Nat.not_lt.2 hb')
      case measure => simp [intOf]; omega
    · obtain rfl : i = m := by omega
      go_wp2_with fail
      go_ret2
      exact ⟨g, vh, v, rfl, HP.out, HBW.out⟩
theorem new_no (n : Int) (h : ¬ (1 ≤ n ∧ n ≤ 256)) (w : World) : Calls Try.prog 6 #[.int .i64 n] w fun e w' => e = .returned (.tuple #[.pointer none, .int .i64 1]) ∧ w = w' := by
  have c : n < 1 ∨ (1 ≤ n ∧ 256 < n) := by omega
  clear h
  rcases c with c | ⟨c, c'⟩
  · have d1 : decide (n < 1) = true := decide_eq_true c
    clear c
    go_enter Try.func6, Try.ntmps6
    go_wp2_with fail
    go_ret2
    exact ⟨rfl, rfl⟩
  · have d1 : decide (n < 1) = false := decide_eq_false (by omega)
    have d2 : decide (256 < n) = true := decide_eq_true c'
    clear c c'
    go_enter Try.func6, Try.ntmps6
    go_wp2_with fail
    go_ret2
    exact ⟨rfl, rfl⟩
end Go.Proofs.Ytiekmjkeoicjfaa.Pg
