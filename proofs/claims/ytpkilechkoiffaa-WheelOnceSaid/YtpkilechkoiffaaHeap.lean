/- A heap as a list: sifting up and down, plain: what lies stays, and the order holds; no condition but that the order is one. -/
import Derived.Test.YtpkilechkoiffaaBase
namespace Go.Proofs.Ytpkilechkoiffaa.Heap
set_option linter.unusedVariables false
set_option linter.unusedSimpArgs false
variable {α : Type} (z : α)
/-- the element at a place -/
def at_ (l : List α) (k : Nat) : α := l.getD k z
def sw (l : List α) (i j : Nat) : List α := (l.set i (at_ z l j)).set j (at_ z l i)
theorem at_get {l : List α} {k : Nat} (h : k < l.length) : l[k]? = some (at_ z l k) := by
  unfold at_
  rw [List.getD_eq_getElem?_getD, List.getElem?_eq_getElem h]; rfl
theorem at_of {l : List α} {k : Nat} {x : α} (h : l[k]? = some x) : at_ z l k = x := by
  unfold at_
  rw [List.getD_eq_getElem?_getD, h]; rfl
theorem sw_len (l : List α) (i j : Nat) : (sw z l i j).length = l.length := by unfold sw; rw [List.length_set, List.length_set]
theorem at_sw {l : List α} {i j : Nat} (hi : i < l.length) (hj : j < l.length) (k : Nat) : at_ z (sw z l i j) k = if k = j then at_ z l i else if k = i then at_ z l j else at_ z l k := by
  unfold sw at_
  simp only [List.getD_eq_getElem?_getD, List.getElem?_set, List.length_set]
  by_cases h1 : k = j
  · subst h1
    rw [if_pos rfl, if_pos hj, if_pos rfl]; rfl
  · rw [if_neg (fun e => h1 e.symm), if_neg h1]
    by_cases h2 : k = i
    · subst h2
      rw [if_pos rfl, if_pos hi, if_pos rfl]; rfl
    · rw [if_neg (fun e => h2 e.symm), if_neg h2]
theorem sw_perm {l : List α} {i j : Nat} (hi : i < l.length) (hj : j < l.length) : (sw z l i j).Perm l := by
  have := List.set_set_perm (as := l) hi hj
  unfold sw at_
  rw [List.getD_eq_getElem?_getD, List.getD_eq_getElem?_getD, List.getElem?_eq_getElem hi, List.getElem?_eq_getElem hj]
  exact this
variable (lt : α → α → Bool)
/-- sifting down -/
def downV (n : Nat) : Nat → List α → Nat → List α
  | 0, l, _ => l
  | f + 1, l, i =>
    if 2 * i + 1 < n then
      let j := if 2 * i + 2 < n ∧ lt (at_ z l (2 * i + 2)) (at_ z l (2 * i + 1)) = true then 2 * i + 2 else 2 * i + 1
      if lt (at_ z l j) (at_ z l i) = true then downV n f (sw z l i j) j else l
    else l
/-- sifting up -/
def upV : Nat → List α → Nat → List α
  | 0, l, _ => l
  | f + 1, l, j =>
    if j = 0 then l else
    if lt (at_ z l j) (at_ z l ((j - 1) / 2)) = true then upV f (sw z l ((j - 1) / 2) j) ((j - 1) / 2) else l
structure Ord (lt : α → α → Bool) : Prop where
  asym : ∀ a b, lt a b = true → lt b a = false
  trans : ∀ a b c, lt a b = false → lt b c = false → lt a c = false
def Hp (l : List α) (n : Nat) : Prop := ∀ k, 0 < k → k < n → lt (at_ z l k) (at_ z l ((k - 1) / 2)) = false
/-- but for the children of i, which are not ahead of i's parent -/
def HpD (l : List α) (n i : Nat) : Prop := (∀ k, 0 < k → k < n → (k - 1) / 2 ≠ i → lt (at_ z l k) (at_ z l ((k - 1) / 2)) = false) ∧ (0 < i → ∀ k, 0 < k → k < n → (k - 1) / 2 = i → lt (at_ z l k) (at_ z l ((i - 1) / 2)) = false)
/-- but for j, whose children are not ahead of j's parent -/
def HpU (l : List α) (n j : Nat) : Prop := (∀ k, 0 < k → k < n → k ≠ j → lt (at_ z l k) (at_ z l ((k - 1) / 2)) = false) ∧ (0 < j → ∀ k, 0 < k → k < n → (k - 1) / 2 = j → lt (at_ z l k) (at_ z l ((j - 1) / 2)) = false)
variable {z lt}
theorem irr (O : Ord lt) (a : α) : lt a a = false := by
  cases h : lt a a with
  | false => rfl
  | true => have := O.asym a a h; rw [h] at this; cases this
theorem down_len {n : Nat} : ∀ (f : Nat) (l : List α) (i : Nat), (downV z lt n f l i).length = l.length := by
  intro f
  induction f with
  | zero => intro l i; rfl
  | succ f ih =>
    intro l i
    unfold downV
    dsimp only
    (repeat' split) <;> first | rfl | (rw [ih, sw_len])
theorem down_ok (O : Ord lt) {n : Nat} : ∀ (f : Nat) (l : List α) (i : Nat), n ≤ l.length → i < l.length → n ≤ i + f → HpD z lt l n i →
    Hp z lt (downV z lt n f l i) n ∧ (downV z lt n f l i).Perm l ∧ (downV z lt n f l i).length = l.length ∧ ∀ k, n ≤ k → k ≠ i → at_ z (downV z lt n f l i) k = at_ z l k := by
  intro f
  induction f with
  | zero =>
    intro l i hn hi hf h
    refine ⟨fun k h0 hk => h.1 k h0 hk (by omega), .refl _, rfl, fun k _ _ => rfl⟩
  | succ f ih =>
    intro l i hn hi hf h
    unfold downV
    by_cases h1 : 2 * i + 1 < n
    · rw [if_pos h1]
      dsimp only
      obtain ⟨j, hj⟩ : ∃ j, (if 2 * i + 2 < n ∧ lt (at_ z l (2 * i + 2)) (at_ z l (2 * i + 1)) = true then 2 * i + 2 else 2 * i + 1) = j := ⟨_, rfl⟩
      rw [hj]
      have hjc : (j = 2 * i + 1 ∨ j = 2 * i + 2) ∧ j < n ∧ (∀ k, 0 < k → k < n → (k - 1) / 2 = i → lt (at_ z l k) (at_ z l j) = false) := by
        have two : ∀ k, 0 < k → (k - 1) / 2 = i → k = 2 * i + 1 ∨ k = 2 * i + 2 := fun k h0 h => by omega
        by_cases c : 2 * i + 2 < n ∧ lt (at_ z l (2 * i + 2)) (at_ z l (2 * i + 1)) = true
        · rw [if_pos c] at hj
          subst hj
          refine ⟨.inr rfl, c.1, fun k h0 hk hp => ?_⟩
          rcases two k h0 hp with rfl | rfl
          · exact O.asym _ _ c.2
          · exact irr O _
        · rw [if_neg c] at hj
          subst hj
          refine ⟨.inl rfl, h1, fun k h0 hk hp => ?_⟩
          rcases two k h0 hp with rfl | rfl
          · exact irr O _
          · cases e : lt (at_ z l (2 * i + 2)) (at_ z l (2 * i + 1)) with
            | false => rfl
            | true => exact absurd ⟨hk, e⟩ c
      obtain ⟨j1, j2, j3⟩ := hjc
      have hpj : (j - 1) / 2 = i := by omega
      by_cases c : lt (at_ z l j) (at_ z l i) = true
      · rw [if_pos c]
        have hjl : j < l.length := by omega
        have hs := at_sw z hi hjl
        have hd : HpD z lt (sw z l i j) n j := by
          constructor
          · intro k h0 hk hp
            rw [hs, hs]
            by_cases e1 : k = j
            · subst e1
              rw [if_pos rfl, hpj, if_neg (by omega), if_pos rfl]
              exact O.asym _ _ c
            · rw [if_neg e1]
              by_cases e2 : k = i
              · subst e2
                rw [if_pos rfl, if_neg (by omega), if_neg (by omega)]
                exact h.2 h0 j (by omega) j2 hpj
              · rw [if_neg e2, if_neg (by omega)]
                by_cases e3 : (k - 1) / 2 = i
                · rw [e3, if_pos rfl]
                  exact j3 k h0 hk e3
                · rw [if_neg e3]
                  exact h.1 k h0 hk e3
          · intro _ k h0 hk hp
            rw [hs, hs, hpj, if_neg (by omega), if_neg (by omega), if_neg (by omega), if_pos rfl]
            have := h.1 k h0 hk (by omega)
            rw [hp] at this
            exact this
        obtain ⟨a, b, d, e⟩ := ih (sw z l i j) j (by rw [sw_len]; exact hn) (by rw [sw_len]; exact hjl) (by omega) hd
        refine ⟨a, b.trans (sw_perm z hi hjl), by rw [d, sw_len], fun k hk hki => ?_⟩
        rw [e k hk (by omega), hs, if_neg (by omega), if_neg hki]
      · rw [if_neg c]
        have c' : lt (at_ z l j) (at_ z l i) = false := by simpa using c
        refine ⟨fun k h0 hk => ?_, .refl _, rfl, fun k _ _ => rfl⟩
        by_cases e : (k - 1) / 2 = i
        · rw [e]
          exact O.trans _ _ _ (j3 k h0 hk e) c'
        · exact h.1 k h0 hk e
    · rw [if_neg h1]
      refine ⟨fun k h0 hk => h.1 k h0 hk (by omega), .refl _, rfl, fun k _ _ => rfl⟩
theorem up_ok (O : Ord lt) {n : Nat} : ∀ (f : Nat) (l : List α) (j : Nat), n ≤ l.length → j < n → j ≤ f → HpU z lt l n j →
    Hp z lt (upV z lt f l j) n ∧ (upV z lt f l j).Perm l ∧ (upV z lt f l j).length = l.length := by
  intro f
  induction f with
  | zero =>
    intro l j hn hj hf h
    refine ⟨fun k h0 hk => h.1 k h0 hk (by omega), .refl _, rfl⟩
  | succ f ih =>
    intro l j hn hj hf h
    unfold upV
    by_cases h1 : j = 0
    · rw [if_pos h1]
      exact ⟨fun k h0 hk => h.1 k h0 hk (by omega), .refl _, rfl⟩
    · rw [if_neg h1]
      obtain ⟨i, hi⟩ : ∃ i, (j - 1) / 2 = i := ⟨_, rfl⟩
      rw [hi]
      by_cases c : lt (at_ z l j) (at_ z l i) = true
      · rw [if_pos c]
        have hil : i < l.length := by omega
        have hjl : j < l.length := by omega
        have hs := at_sw z hil hjl
        have hij : i ≠ j := by omega
        have hu : HpU z lt (sw z l i j) n i := by
          constructor
          · intro k h0 hk hki
            rw [hs, hs]
            by_cases e1 : k = j
            · subst e1
              rw [if_pos rfl, hi, if_neg hij, if_pos rfl]
              exact O.asym _ _ c
            · rw [if_neg e1, if_neg hki]
              by_cases e2 : (k - 1) / 2 = j
              · rw [e2, if_pos rfl]
                have := h.2 (by omega) k h0 hk e2
                rw [hi] at this
                exact this
              · rw [if_neg e2]
                by_cases e3 : (k - 1) / 2 = i
                · rw [e3, if_pos rfl]
                  have a := h.1 k h0 hk e1
                  rw [e3] at a
                  exact O.trans _ _ _ a (O.asym _ _ c)
                · rw [if_neg e3]
                  exact h.1 k h0 hk e1
          · intro h0i k h0 hk hp
            rw [hs, hs, if_neg (show (i - 1) / 2 ≠ j by omega), if_neg (show (i - 1) / 2 ≠ i by omega)]
            have hpi := h.1 i h0i (by omega) hij
            by_cases e1 : k = j
            · subst e1
              rw [if_pos rfl]
              exact hpi
            · rw [if_neg e1, if_neg (by omega)]
              have a := h.1 k h0 hk e1
              rw [hp] at a
              exact O.trans _ _ _ a hpi
        obtain ⟨a, b, d⟩ := ih (sw z l i j) i (by rw [sw_len]; exact hn) (by omega) (by omega) hu
        exact ⟨a, b.trans (sw_perm z hil hjl), by rw [d, sw_len]⟩
      · rw [if_neg c]
        have c' : lt (at_ z l j) (at_ z l i) = false := by simpa using c
        refine ⟨fun k h0 hk => ?_, .refl _, rfl⟩
        by_cases e : k = j
        · subst e; rw [hi]; exact c'
        · exact h.1 k h0 hk e
/-- the first is the least -/
theorem root_least (O : Ord lt) {l : List α} {n : Nat} (h : Hp z lt l n) : ∀ k, k < n → lt (at_ z l k) (at_ z l 0) = false := by
  intro k
  induction k using Nat.strongRecOn with
  | _ k ih =>
    intro hk
    by_cases h0 : k = 0
    · subst h0; exact irr O _
    · exact O.trans _ _ _ (h k (by omega) hk) (ih ((k - 1) / 2) (by omega) (by omega))
/-! ### Pop, Push -/
variable (z lt)
def popL (l : List α) : List α := downV z lt (l.length - 1) (l.length - 1) (sw z l 0 (l.length - 1)) 0
def popV (l : List α) : α × List α := (at_ z (popL z lt l) (l.length - 1), (popL z lt l).take (l.length - 1))
def pushV (l : List α) (x : α) : List α := upV z lt l.length (l ++ [x]) l.length
variable {z lt}
theorem at_mem {l : List α} {k : Nat} (h : k < l.length) : at_ z l k ∈ l := List.mem_of_getElem? (at_get z h)
theorem at_take {l : List α} {n k : Nat} (h : k < n) : at_ z (l.take n) k = at_ z l k := by
  unfold at_
  rw [List.getD_eq_getElem?_getD, List.getD_eq_getElem?_getD, List.getElem?_take_of_lt h]
theorem pop_ok (O : Ord lt) {l : List α} (h : Hp z lt l l.length) (hl : 0 < l.length) : (popL z lt l).length = l.length ∧ (popV z lt l).1 = at_ z l 0 ∧ ((popV z lt l).1 :: (popV z lt l).2).Perm l ∧ Hp z lt (popV z lt l).2 (popV z lt l).2.length ∧ (popV z lt l).2.length = l.length - 1 ∧ ∀ x ∈ l, lt x (popV z lt l).1 = false := by
  obtain ⟨n, hn⟩ : ∃ n, l.length = n + 1 := ⟨l.length - 1, by omega⟩
  have e0 : l.length - 1 = n := by omega
  have hs := at_sw z (l := l) (i := 0) (j := n) (by omega) (by omega)
  have hd : HpD z lt (sw z l 0 n) n 0 := by
    refine ⟨fun k h0 hk hp => ?_, fun h0 => absurd h0 (Nat.lt_irrefl _)⟩
    rw [hs, hs, if_neg (by omega), if_neg (by omega), if_neg (by omega), if_neg hp]
    exact h k h0 (by omega)
  obtain ⟨a, b, c, d⟩ := down_ok O n (sw z l 0 n) 0 (by rw [sw_len]; omega) (by rw [sw_len]; omega) (by omega) hd
  have hp : popL z lt l = downV z lt n n (sw z l 0 n) 0 := by unfold popL; rw [e0]
  have hlen : (popL z lt l).length = l.length := by rw [hp, c, sw_len]
  have e1 : (popV z lt l).1 = at_ z l 0 := by
    unfold popV
    dsimp only
    rw [e0, hp]
    by_cases c0 : n = 0
    · subst c0
      unfold downV
      rw [hs, if_pos rfl]
    · rw [d n (Nat.le_refl _) c0, hs, if_pos rfl]
  have e2 : (popV z lt l).2 = (popL z lt l).take n := by unfold popV; dsimp only; rw [e0]
  have pm : (popL z lt l).Perm l := by rw [hp]; exact b.trans (sw_perm z (by omega) (by omega))
  have l2 : ((popL z lt l).take n).length = n := by rw [List.length_take, hlen]; omega
  refine ⟨hlen, e1, ?_, ?_, by rw [e2, l2, e0], ?_⟩
  · have hq : popL z lt l = (popL z lt l).take n ++ [at_ z (popL z lt l) n] := by
      have hlt : n < (popL z lt l).length := by omega
      have g := at_get z hlt
      obtain ⟨_, g⟩ := List.getElem?_eq_some_iff.1 g
      have t := List.take_succ_eq_append_getElem hlt
      rw [g] at t
      rw [← t, List.take_of_length_le (by omega)]
    have e3 : (popV z lt l).1 = at_ z (popL z lt l) n := by unfold popV; dsimp only; rw [e0]
    rw [e2, e3]
    refine List.Perm.trans ?_ pm
    have p2 : (at_ z (popL z lt l) n :: (popL z lt l).take n).Perm ((popL z lt l).take n ++ [at_ z (popL z lt l) n]) := List.perm_append_comm (l₁ := [_])
    rw [← hq] at p2
    exact p2
  · rw [e2, l2]
    intro k h0 hk
    rw [at_take hk, at_take (by omega), hp]
    exact a k h0 hk
  · intro x hx
    obtain ⟨k, hk, rfl⟩ := List.getElem_of_mem hx
    have := root_least O h k hk
    rw [at_of z (List.getElem?_eq_getElem hk)] at this
    rw [e1]; exact this
theorem push_ok (O : Ord lt) {l : List α} (h : Hp z lt l l.length) (x : α) : (pushV z lt l x).Perm (x :: l) ∧ Hp z lt (pushV z lt l x) (pushV z lt l x).length ∧ (pushV z lt l x).length = l.length + 1 := by
  have la : (l ++ [x]).length = l.length + 1 := by simp
  have at_app : ∀ k, k < l.length → at_ z (l ++ [x]) k = at_ z l k := fun k hk => by
    unfold at_
    rw [List.getD_eq_getElem?_getD, List.getD_eq_getElem?_getD, List.getElem?_append_left hk]
  have hu : HpU z lt (l ++ [x]) (l.length + 1) l.length := by
    constructor
    · intro k h0 hk hne
      rw [at_app k (by omega), at_app _ (by omega)]
      exact h k h0 (by omega)
    · intro h0 k h1 hk hp
      omega
  obtain ⟨a, b, c⟩ := up_ok O l.length (l ++ [x]) l.length (by omega) (by omega) (Nat.le_refl _) hu
  refine ⟨b.trans List.perm_append_comm, ?_, by unfold pushV; rw [c, la]⟩
  show Hp z lt (upV z lt l.length (l ++ [x]) l.length) (upV z lt l.length (l ++ [x]) l.length).length
  rw [c, la]
  exact a
end Go.Proofs.Ytpkilechkoiffaa.Heap
