/- Messages, plain: how a load's numbers are read, what is read; no program in sight but for the numbers' own functions. -/
import Derived.Test.YtbfmbjkalldonaaVarGet
namespace Go.Proofs.Ytbfmbjkalldonaa.Msg
set_option linter.unusedVariables false
set_option linter.unusedSimpArgs false
open Go.RowKit Go.Proofs.Ytbfmbjkalldonaa.PA Go.Proofs.YtbfmbjkalldonaaW.PrintWords Go.Proofs.YtbfmbjkalldonaaW.PrintLast Go.Proofs.YtbfmbjkalldonaaW.PrintMore Go.Proofs.Ytbfmbjkalldonaa.Base Go.Proofs.Ytbfmbjkalldonaa.Var
abbrev top : Int := 18446744073709551615
structure Ms where
  k : Int
  s : Int
  se : Int
  a : Int
  i : Int
  n : Int
  c : Int
  why : Int
  seed : Int
  P : List Int
  most : Int
  L : List Int
def Ms.nil : Ms := ⟨0, 0, 0, 0, 0, 0, 0, 0, 0, [], 0, []⟩
def Ms.of (k : Int) : Ms := { Ms.nil with k := k }
/-- the next number, at most so great -/
def numV (b : List Int) (e most : Int) : Int × List Int × Int :=
  if e = 0 then (if (gt 0 0 b).2.2 = 0 then (if (gt 0 0 b).1 > most then (0, b, 1) else ((gt 0 0 b).1, b.drop (gt 0 0 b).2.1.toNat, 0)) else (0, b, (gt 0 0 b).2.2)) else (0, b, e)
def numsV : Nat → List Int → Int → List Int × List Int × Int
  | 0, b, e => ([], b, e)
  | q + 1, b, e => if e = 0 then ((numV b e 63).1 :: (numsV q (numV b e 63).2.1 (numV b e 63).2.2).1, (numsV q (numV b e 63).2.1 (numV b e 63).2.2).2) else ([], b, e)
def listV (b : List Int) (e : Int) : List Int × List Int × Int := numsV (numV b e 256).1.toNat (numV b e 256).2.1 (numV b e 256).2.2
def setV (m : Ms) (c x : Int) : Ms :=
  if c = 115 then { m with s := x } else if c = 101 then { m with se := x } else if c = 97 then { m with a := x } else if c = 105 then { m with i := x } else if c = 110 then { m with n := x } else { m with c := x }
def fieldV (m : Ms) (b : List Int) (e c : Int) : Ms × List Int × Int :=
  if c = 119 then ({ m with why := (numV b e 255).1 }, (numV b e 255).2)
  else if c = 106 then
    ({ m with seed := (numV b e top).1, most := (numV (numV b e top).2.1 (numV b e top).2.2 256).1, P := (listV (numV (numV b e top).2.1 (numV b e top).2.2 256).2.1 (numV (numV b e top).2.1 (numV b e top).2.2 256).2.2).1 },
      (listV (numV (numV b e top).2.1 (numV b e top).2.2 256).2.1 (numV (numV b e top).2.1 (numV b e top).2.2 256).2.2).2)
  else if c = 108 then ({ m with L := (listV b e).1 }, (listV b e).2)
  else (setV m c (numV b e top).1, (numV b e top).2)
def foldV : List Int → Ms → List Int → Int → Ms × List Int × Int
  | [], m, b, e => (m, b, e)
  | c :: cs, m, b, e => foldV cs (fieldV m b e c).1 (fieldV m b e c).2.1 (fieldV m b e c).2.2
/-- which fields of a kind count -/
def lettersV (k : Int) : List Int :=
  if k = 1 then [115, 101, 106] else if k = 2 then [115, 110] else if k = 3 then [115] else if k = 4 then [115, 110, 108] else if k = 5 then [115, 110, 119] else if k = 6 then [97, 105, 110, 106]
  else if k = 7 then [97, 105] else if k = 8 then [97, 105, 110, 108] else if k = 9 then [97, 105, 110, 119] else if k = 10 then [110] else if k = 11 then [110, 105, 99] else if k = 12 then [105] else []
def readV (l : List Int) : Ms × Int :=
  if (numV l 0 top).2.2 = 0 then
    (if (numV l 0 top).1 < 1 ∨ (numV l 0 top).1 > 12 then (Ms.nil, 11)
     else if (foldV (lettersV (numV l 0 top).1) (Ms.of (numV l 0 top).1) (numV l 0 top).2.1 0).2.2 = 0 then
       (if (foldV (lettersV (numV l 0 top).1) (Ms.of (numV l 0 top).1) (numV l 0 top).2.1 0).2.1 = [] then ((foldV (lettersV (numV l 0 top).1) (Ms.of (numV l 0 top).1) (numV l 0 top).2.1 0).1, 0) else (Ms.nil, 3))
     else (Ms.nil, (foldV (lettersV (numV l 0 top).1) (Ms.of (numV l 0 top).1) (numV l 0 top).2.1 0).2.2))
  else (Ms.nil, (numV l 0 top).2.2)
/-! ### bounds -/
theorem gt_bd {l : List Int} (hb : Bytes l) {n k e : Int} (h : gt 0 0 l = (n, k, e)) (he : e = 0) : 0 ≤ n ∧ n ≤ top ∧ 1 ≤ k ∧ k ≤ l.length := by
  subst he
  obtain ⟨g1, g2, g3, g4, g5, g6, g7⟩ := vb_gt0 hb h
  exact ⟨g1, by unfold top; omega, g6, g7⟩
theorem num_bd {b : List Int} (hb : Bytes b) (e most : Int) (hm : 0 ≤ most) : 0 ≤ (numV b e most).1 ∧ (numV b e most).1 ≤ most ∧ Bytes (numV b e most).2.1 ∧ (numV b e most).2.1.length ≤ b.length := by
  unfold numV
  rcases hg : gt 0 0 b with ⟨n, k, e1⟩
  dsimp only
  by_cases h0 : e = 0
  · rw [if_pos h0]
    by_cases h1 : e1 = 0
    · rw [if_pos h1]
      obtain ⟨g1, g2, g3, g4⟩ := gt_bd hb hg h1
      by_cases h2 : n > most
      · rw [if_pos h2]; exact ⟨Int.le_refl _, hm, hb, Nat.le_refl _⟩
      · rw [if_neg h2]; exact ⟨g1, by omega, Bytes.drop hb _, by rw [List.length_drop]; omega⟩
    · rw [if_neg h1]; exact ⟨Int.le_refl _, hm, hb, Nat.le_refl _⟩
  · rw [if_neg h0]; exact ⟨Int.le_refl _, hm, hb, Nat.le_refl _⟩
theorem nums_bd : ∀ (q : Nat) {b : List Int} (hb : Bytes b) (e : Int), (∀ x ∈ (numsV q b e).1, 0 ≤ x ∧ x ≤ 63) ∧ (numsV q b e).1.length ≤ q ∧ Bytes (numsV q b e).2.1 ∧ (numsV q b e).2.1.length ≤ b.length
  | 0, b, hb, e => ⟨fun x hx => (by simp [numsV] at hx), Nat.le_refl _, hb, Nat.le_refl _⟩
  | q + 1, b, hb, e => by
    unfold numsV
    by_cases h0 : e = 0
    · rw [if_pos h0]
      obtain ⟨n1, n2, n3, n4⟩ := num_bd hb e 63 (by decide)
      obtain ⟨i1, i2, i3, i4⟩ := nums_bd q n3 (numV b e 63).2.2
      refine ⟨fun x hx => ?_, ?_, i3, Nat.le_trans i4 n4⟩
      · rcases List.mem_cons.1 hx with rfl | hx
        · exact ⟨n1, n2⟩
        · exact i1 x hx
      · show (_ :: _).length ≤ _
        rw [List.length_cons]; omega
    · rw [if_neg h0]
      exact ⟨fun x hx => (by simp at hx), Nat.zero_le _, hb, Nat.le_refl _⟩
theorem list_bd {b : List Int} (hb : Bytes b) (e : Int) : (∀ x ∈ (listV b e).1, 0 ≤ x ∧ x ≤ 63) ∧ (listV b e).1.length ≤ 256 ∧ Bytes (listV b e).2.1 ∧ (listV b e).2.1.length ≤ b.length := by
  unfold listV
  obtain ⟨n1, n2, n3, n4⟩ := num_bd hb e 256 (by decide)
  obtain ⟨i1, i2, i3, i4⟩ := nums_bd (numV b e 256).1.toNat n3 (numV b e 256).2.2
  exact ⟨i1, by omega, i3, Nat.le_trans i4 n4⟩
/-- what is read holds numbers that a message may hold -/
structure Ms.In (m : Ms) : Prop where
  s : 0 ≤ m.s ∧ m.s ≤ top
  se : 0 ≤ m.se ∧ m.se ≤ top
  a : 0 ≤ m.a ∧ m.a ≤ top
  i : 0 ≤ m.i ∧ m.i ≤ top
  n : 0 ≤ m.n ∧ m.n ≤ top
  c : 0 ≤ m.c ∧ m.c ≤ top
  why : 0 ≤ m.why ∧ m.why ≤ 255
  seed : 0 ≤ m.seed ∧ m.seed ≤ top
  P : (∀ x ∈ m.P, 0 ≤ x ∧ x ≤ 63) ∧ m.P.length ≤ 256
  most : 0 ≤ m.most ∧ m.most ≤ 256
  L : (∀ x ∈ m.L, 0 ≤ x ∧ x ≤ 63) ∧ m.L.length ≤ 256
theorem In_of (k : Int) : (Ms.of k).In := by
  constructor <;> simp [Ms.of, Ms.nil, top]
theorem set_in {m : Ms} (h : m.In) (c : Int) {x : Int} (hx : 0 ≤ x ∧ x ≤ top) : (setV m c x).In := by
  obtain ⟨h1, h2, h3, h4, h5, h6, h7, h8, h9, h10, h11⟩ := h
  unfold setV
  split
  · exact ⟨hx, h2, h3, h4, h5, h6, h7, h8, h9, h10, h11⟩
  split
  · exact ⟨h1, hx, h3, h4, h5, h6, h7, h8, h9, h10, h11⟩
  split
  · exact ⟨h1, h2, hx, h4, h5, h6, h7, h8, h9, h10, h11⟩
  split
  · exact ⟨h1, h2, h3, hx, h5, h6, h7, h8, h9, h10, h11⟩
  split
  · exact ⟨h1, h2, h3, h4, hx, h6, h7, h8, h9, h10, h11⟩
  · exact ⟨h1, h2, h3, h4, h5, hx, h7, h8, h9, h10, h11⟩
theorem set_k (m : Ms) (c x : Int) : (setV m c x).k = m.k := by unfold setV; repeat' (first | rfl | split)
theorem field_k (m : Ms) (b : List Int) (e c : Int) : (fieldV m b e c).1.k = m.k := by
  unfold fieldV
  split
  · rfl
  split
  · rfl
  split
  · rfl
  · exact set_k _ _ _
theorem field_bd {m : Ms} (h : m.In) {b : List Int} (hb : Bytes b) (e c : Int) : (fieldV m b e c).1.In ∧ Bytes (fieldV m b e c).2.1 ∧ (fieldV m b e c).2.1.length ≤ b.length := by
  have ht : (0 : Int) ≤ top := by unfold top; decide
  unfold fieldV
  split
  · obtain ⟨n1, n2, n3, n4⟩ := num_bd hb e 255 (by decide)
    obtain ⟨h1, h2, h3, h4, h5, h6, h7, h8, h9, h10, h11⟩ := h
    exact ⟨⟨h1, h2, h3, h4, h5, h6, ⟨n1, n2⟩, h8, h9, h10, h11⟩, n3, n4⟩
  split
  · obtain ⟨n1, n2, n3, n4⟩ := num_bd hb e top ht
    obtain ⟨p1, p2, p3, p4⟩ := num_bd n3 (numV b e top).2.2 256 (by decide)
    obtain ⟨q1, q2, q3, q4⟩ := list_bd p3 (numV (numV b e top).2.1 (numV b e top).2.2 256).2.2
    obtain ⟨h1, h2, h3, h4, h5, h6, h7, h8, h9, h10, h11⟩ := h
    exact ⟨⟨h1, h2, h3, h4, h5, h6, h7, ⟨n1, n2⟩, ⟨q1, q2⟩, ⟨p1, p2⟩, h11⟩, q3, Nat.le_trans q4 (Nat.le_trans p4 n4)⟩
  split
  · obtain ⟨q1, q2, q3, q4⟩ := list_bd hb e
    obtain ⟨h1, h2, h3, h4, h5, h6, h7, h8, h9, h10, h11⟩ := h
    exact ⟨⟨h1, h2, h3, h4, h5, h6, h7, h8, h9, h10, ⟨q1, q2⟩⟩, q3, q4⟩
  · obtain ⟨n1, n2, n3, n4⟩ := num_bd hb e top ht
    exact ⟨set_in h c ⟨n1, n2⟩, n3, n4⟩
theorem fold_bd : ∀ (cs : List Int) {m : Ms} (h : m.In) {b : List Int} (hb : Bytes b) (e : Int), (foldV cs m b e).1.In ∧ Bytes (foldV cs m b e).2.1 ∧ (foldV cs m b e).2.1.length ≤ b.length ∧ (foldV cs m b e).1.k = m.k
  | [], m, h, b, hb, e => ⟨h, hb, Nat.le_refl _, rfl⟩
  | c :: cs, m, h, b, hb, e => by
    obtain ⟨f1, f2, f3⟩ := field_bd h hb e c
    obtain ⟨i1, i2, i3, i4⟩ := fold_bd cs f1 f2 (fieldV m b e c).2.2
    exact ⟨i1, i2, Nat.le_trans i3 f3, i4.trans (field_k m b e c)⟩
theorem fold_app : ∀ (cs ds : List Int) (m : Ms) (b : List Int) (e : Int), foldV (cs ++ ds) m b e = foldV ds (foldV cs m b e).1 (foldV cs m b e).2.1 (foldV cs m b e).2.2
  | [], ds, m, b, e => rfl
  | c :: cs, ds, m, b, e => fold_app cs ds _ _ _
end Go.Proofs.Ytbfmbjkalldonaa.Msg
