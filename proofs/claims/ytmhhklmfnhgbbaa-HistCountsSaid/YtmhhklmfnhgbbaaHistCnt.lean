/- What is added in any order is the same, merging is adding; pure; no condition but those that stand in each. -/
import Derived.Test.YtmhhklmfnhgbbaaHistMore
namespace Go.Proofs.Ytmhhklmfnhgbbaa.Hst
set_option linter.unusedVariables false
set_option linter.unusedSimpArgs false
open Go.RowKit Go.Proofs.Ytmhhklmfnhgbbaa.PA Go.Proofs.YtmhhklmfnhgbbaaW.PrintWords Go.Proofs.YtmhhklmfnhgbbaaW.PrintLast Go.Proofs.YtmhhklmfnhgbbaaW.PrintMore
def cn (i : Nat) : List Int → Int
  | [] => 0
  | n :: l => (if (boxV n).toNat = i then 1 else 0) + cn i l
theorem cn_bd (i : Nat) : ∀ l : List Int, 0 ≤ cn i l ∧ cn i l ≤ l.length
  | [] => by simp [cn]
  | n :: l => by
    have := cn_bd i l
    rw [cn, List.length_cons]
    split <;> omega
theorem cn_append (i : Nat) : ∀ a b : List Int, cn i (a ++ b) = cn i a + cn i b
  | [], b => by simp [cn]
  | n :: a, b => by rw [List.cons_append, cn, cn, cn_append i a b]; omega
theorem cn_reverse (i : Nat) : ∀ a : List Int, cn i a.reverse = cn i a
  | [] => rfl
  | n :: a => by rw [List.reverse_cons, cn_append, cn_reverse i a, cn, cn, cn]; omega
/-- What a box holds behind some numbers, where no box is full. -/
theorem fold_get : ∀ (l : List Int) (p : List Int × Int) (i : Nat), p.1.length = 305 → i < 305 → (∀ x ∈ l, x ≤ 9223372036854775807) → Cnt p.1 → (∀ j, p.1.getD j 0 + l.length < 4294967295) → (l.foldl addS p).1.getD i 0 = p.1.getD i 0 + cn i l
  | [], p, i, _, _, _, _, _ => by simp [cn]
  | n :: l, p, i, hl, hi, hw, hc, hb => by
    have bn := boxV_bd (hw n List.mem_cons_self)
    have e : addS p n = (p.1.set (boxV n).toNat (p.1.getD (boxV n).toNat 0 + 1), p.2 + 1) := by
      unfold addS
      have := hb (boxV n).toNat
      rw [List.length_cons] at this
      rw [if_pos (by omega)]
    have g : ∀ j, (addS p n).1.getD j 0 = p.1.getD j 0 + (if (boxV n).toNat = j ∧ j < 305 then 1 else 0) := by
      intro j
      rw [e]
      show (p.1.set _ _).getD j 0 = _
      rw [List.getD_eq_getElem?_getD]
      by_cases h : (boxV n).toNat = j
      · subst h
        rw [List.getElem?_set_self (by omega), if_pos ⟨rfl, by omega⟩]; rfl
      · rw [List.getElem?_set_ne h, ← List.getD_eq_getElem?_getD, if_neg (fun z => h z.1)]; omega
    rw [List.foldl_cons, fold_get l (addS p n) i (by rw [e]; show (p.1.set _ _).length = 305; rw [List.length_set]; exact hl) hi (fun x hx => hw x (List.mem_cons_of_mem _ hx)) (addS_cnt hc n) (fun j => ?_), g i, cn]
    · by_cases h : (boxV n).toNat = i
      · rw [if_pos ⟨h, hi⟩, if_pos h]; omega
      · rw [if_neg (fun z => h z.1), if_neg h]; omega
    · rw [g j]
      have := hb j
      rw [List.length_cons] at this
      split <;> omega
theorem add_get {xs l : List Int} {m : Nat} (hl : xs.length = 305) (hc : Cnt xs) (hb : ∀ j, xs.getD j 0 ≤ m) (hm : m ≤ 100000) (hn : l.length ≤ 100000) (hw : ∀ x ∈ l, x ≤ 9223372036854775807) {i : Nat} (hi : i < 305) : (addV xs l).1.getD i 0 = xs.getD i 0 + cn i l :=
  fold_get l (xs, 0) i hl hi hw hc (fun j => by have := hb j; show xs.getD j 0 + l.length < _; omega)
theorem zs_len : zs.length = 305 := List.length_replicate
theorem zs_get0 (i : Nat) : zs.getD i 0 = 0 := by
  rw [List.getD_eq_getElem?_getD]
  cases e : zs[i]? with
  | none => rfl
  | some v => exact List.eq_of_mem_replicate (List.mem_of_getElem? e)
theorem add0 {l : List Int} (hn : l.length ≤ 100000) (hw : ∀ x ∈ l, x ≤ 9223372036854775807) {i : Nat} (hi : i < 305) : (addV zs l).1.getD i 0 = cn i l := by
  rw [add_get (m := 0) zs_len cnt_zs (fun j => by rw [zs_get0]; omega) (by omega) hn hw hi, zs_get0]; omega
theorem out0 {xs : List Int} (hl : xs.length = 305) {j : Nat} (hj : ¬ j < 305) : xs.getD j 0 = 0 := by
  rw [List.getD_eq_getElem?_getD, List.getElem?_eq_none (by omega)]; rfl
/-- The three are one. -/
theorem three_one {a b : List Int} (ha : a.length ≤ 500) (hb : b.length ≤ 500) (wa : ∀ x ∈ a, x ≤ 9223372036854775807) (wb : ∀ x ∈ b, x ≤ 9223372036854775807) {i : Nat} (hi : i < 305) :
    (addV (addV zs a).1 b).1.getD i 0 = (mg (addV zs a).1 (addV zs b).1 305).getD i 0 ∧ (addV (addV zs a).1 b).1.getD i 0 = (addV (addV zs b.reverse).1 a.reverse).1.getD i 0 := by
  obtain ⟨a1, _, _, a4⟩ := addV_inv zs cnt_zs a
  obtain ⟨b1, _, _, b4⟩ := addV_inv zs cnt_zs b.reverse
  obtain ⟨c1, _, _, c4⟩ := addV_inv zs cnt_zs b
  rw [zs_len] at a4 b4 c4
  have wr : ∀ (l : List Int), (∀ x ∈ l, x ≤ 9223372036854775807) → ∀ x ∈ l.reverse, x ≤ 9223372036854775807 := fun l h x hx => h x (List.mem_reverse.mp hx)
  have ma : ∀ j, (addV zs a).1.getD j 0 ≤ (500 : Nat) := fun j => by
    by_cases hj : j < 305
    · rw [add0 (by omega) wa hj]; have := cn_bd j a; omega
    · rw [out0 a4 hj]; omega
  have mb : ∀ j, (addV zs b.reverse).1.getD j 0 ≤ (500 : Nat) := fun j => by
    by_cases hj : j < 305
    · rw [add0 (by rw [List.length_reverse]; omega) (wr b wb) hj, cn_reverse]; have := cn_bd j b; omega
    · rw [out0 b4 hj]; omega
  have e1 := add_get (l := b) a4 a1 ma (by omega) (by omega) wb hi
  have e2 := add_get (l := a.reverse) b4 b1 mb (by omega) (by rw [List.length_reverse]; omega) (wr a wa) hi
  have e3 := add0 (l := a) (by omega) wa hi
  have e4 := add0 (l := b.reverse) (by rw [List.length_reverse]; omega) (wr b wb) hi
  have e5 := add0 (l := b) (by omega) wb hi
  have e6 := mg_done (addV zs a).1 (addV zs b).1 305 i hi (by omega)
  rw [cn_reverse] at e2 e4
  have ba := cn_bd i a
  have bb := cn_bd i b
  refine ⟨?_, by omega⟩
  rw [e6, e1, e3, e5]
  unfold mv mn
  split <;> omega
end Go.Proofs.Ytmhhklmfnhgbbaa.Hst
