/- What is parsed is laid as the same bytes: plain; no condition but that bytes are bytes. -/
import Derived.Test.YtjpjlloimemcfaaFrame
namespace Go.Proofs.Ytjpjlloimemcfaa.Frm
set_option linter.unusedVariables false
set_option linter.unusedSimpArgs false
open Go.RowKit Go.Proofs.Ytjpjlloimemcfaa.PA Go.Proofs.YtjpjlloimemcfaaW.PrintWords Go.Proofs.YtjpjlloimemcfaaW.PrintLast Go.Proofs.YtjpjlloimemcfaaW.PrintMore Go.Proofs.Ytjpjlloimemcfaa.Base Go.Proofs.Ytjpjlloimemcfaa.Var
theorem take_split (l : List Int) (a b : Nat) (h : a ≤ b) : l.take b = l.take a ++ (l.take b).drop a := by
  have := (List.take_append_drop a (l.take b)).symm
  rw [List.take_take, Nat.min_eq_left h] at this
  exact this
theorem again {l : List Int} (hb : Bytes l) {x : List Int} {n : Int} (h : parseV l = (x, n, 0)) : layV x = l.take n.toNat ∧ 8 ≤ n ∧ n ≤ l.length ∧ x.length ≤ 2048 ∧ Bytes x := by
  unfold parseV at h
  rcases hh : headV l with ⟨m, a, e⟩
  rw [hh] at h
  dsimp only at h
  by_cases he : e = 0
  rotate_left
  · rw [if_neg he] at h
    simp only [Prod.mk.injEq] at h
    exact absurd h.2.2 he
  subst he
  obtain ⟨g1, g2, g3, g4, g5, g6, g7⟩ := head_ok hb hh
  rw [if_pos rfl] at h
  by_cases h4 : a + m + 4 > l.length
  · rw [if_pos h4] at h
    simp at h
  rw [if_neg h4] at h
  by_cases ho : (Crc.openV (l.take (a + m + 4).toNat)).2 = 0
  rotate_left
  · rw [if_neg ho] at h
    simp only [Prod.mk.injEq] at h
    exact absurd h.2.2 ho
  rw [if_pos ho] at h
  simp only [Prod.mk.injEq, and_true] at h
  obtain ⟨hx, rfl⟩ := h
  have hlen : (l.take (a + m + 4).toNat).length = (a + m + 4).toNat := List.length_take_of_le (by omega)
  have hE : (a + m + 4).toNat - 4 = (a + m).toNat := by omega
  unfold Crc.openV at ho
  rw [if_neg (by omega), hlen, hE] at ho
  have ht : (l.take (a + m + 4).toNat).take (a + m).toNat = l.take (a + m).toNat := by rw [List.take_take, Nat.min_eq_left (by omega)]
  rw [ht] at ho
  by_cases hc : (l.take (a + m + 4).toNat).drop (a + m).toNat = Crc.b4 (Crc.sumV (l.take (a + m).toNat))
  rotate_left
  · rw [if_neg hc] at ho
    simp at ho
  have hxl : x.length = m.toNat := by rw [← hx, List.length_drop, List.length_take_of_le (by omega)]; omega
  have ha : a.toNat = 3 + (vb m.toNat).length := by omega
  have hbody : bodyV x = l.take (a + m).toNat := by
    unfold bodyV
    rw [hxl]
    have e1 := take_split l a.toNat (a + m).toNat (by omega)
    rw [e1, hx]
    congr 1
    rw [ha]
    have e2 := take_split l 3 (3 + (vb m.toNat).length) (by omega)
    rw [e2, g6, List.drop_take, show 3 + (vb m.toNat).length - 3 = (vb m.toNat).length by omega, g7]
  refine ⟨?_, by omega, by omega, by omega, ?_⟩
  · unfold layV Crc.sealV
    rw [hbody, ← hc, ← ht, List.take_append_drop]
  · rw [← hx]
    exact Bytes.drop (Bytes.take hb _) _
/-! ### all that follow one another -/
def allV (l : List Int) : Nat → Nat → List (List Int) × Nat × Int
  | 0, at_ => ([], at_, 0)
  | f + 1, at_ => if at_ < l.length then
      (if (parseV (l.drop at_)).2.2 = 0 then ((parseV (l.drop at_)).1 :: (allV l f (at_ + (parseV (l.drop at_)).2.1.toNat)).1, (allV l f (at_ + (parseV (l.drop at_)).2.1.toNat)).2)
       else ([], at_, (parseV (l.drop at_)).2.2))
    else ([], at_, 0)
theorem all_lay {l : List Int} (hb : Bytes l) : ∀ (f at_ : Nat), at_ ≤ l.length → at_ ≤ (allV l f at_).2.1 ∧ (allV l f at_).2.1 ≤ l.length ∧ ((allV l f at_).1.map layV).flatten = (l.drop at_).take ((allV l f at_).2.1 - at_) ∧ ∀ x ∈ (allV l f at_).1, x.length ≤ 2048 ∧ Bytes x
  | 0, at_, h => by
    unfold allV
    exact ⟨Nat.le_refl _, h, by simp, fun x hx => by cases hx⟩
  | f + 1, at_, h => by
    unfold allV
    by_cases h1 : at_ < l.length
    rotate_left
    · rw [if_neg h1]
      exact ⟨Nat.le_refl _, h, by simp, fun x hx => by cases hx⟩
    rw [if_pos h1]
    rcases hp : parseV (l.drop at_) with ⟨x, n, e⟩
    dsimp only
    by_cases he : e = 0
    rotate_left
    · rw [if_neg he]
      exact ⟨Nat.le_refl _, h, by simp, fun x hx => by cases hx⟩
    rw [if_pos he]
    subst he
    obtain ⟨a1, a2, a3, a4, a5⟩ := again (hb.drop at_) hp
    rw [List.length_drop] at a3
    obtain ⟨i1, i2, i3, i4⟩ := all_lay hb f (at_ + n.toNat) (by omega)
    dsimp only
    refine ⟨by omega, i2, ?_, fun y hy => ?_⟩
    · rw [List.map_cons, List.flatten_cons, i3, a1]
      have e1 := take_split (l.drop at_) n.toNat ((allV l f (at_ + n.toNat)).2.1 - at_) (by omega)
      rw [e1, List.drop_take, List.drop_drop]
      congr 2
      omega
    · rcases List.mem_cons.1 hy with rfl | hy
      · exact ⟨a4, a5⟩
      · exact i4 y hy
/-- as far as there is something -/
theorem all_more {l : List Int} (hb : Bytes l) : ∀ (f g at_ : Nat), l.length - at_ ≤ f → l.length - at_ ≤ g → at_ ≤ l.length → allV l f at_ = allV l g at_
  | 0, 0, at_, _, _, _ => rfl
  | 0, g + 1, at_, h, _, _ => by unfold allV; rw [if_neg (by omega)]
  | f + 1, 0, at_, _, h, _ => by unfold allV; rw [if_neg (by omega)]
  | f + 1, g + 1, at_, h1, h2, h3 => by
    unfold allV
    by_cases c : at_ < l.length
    rotate_left
    · rw [if_neg c, if_neg c]
    rw [if_pos c, if_pos c]
    rcases hp : parseV (l.drop at_) with ⟨x, n, e⟩
    dsimp only
    by_cases he : e = 0
    rotate_left
    · rw [if_neg he, if_neg he]
    subst he
    obtain ⟨a1, a2, a3, _⟩ := again (hb.drop at_) hp
    rw [List.length_drop] at a3
    rw [if_pos rfl, if_pos rfl, all_more hb f g (at_ + n.toNat) (by omega) (by omega) (by omega)]
end Go.Proofs.Ytjpjlloimemcfaa.Frm
