/- What is read is laid as the same, and what is laid is read: plain; no condition but that bytes are bytes. -/
import Derived.Test.YtbfmbjkalldonaaMsLv
namespace Go.Proofs.Ytbfmbjkalldonaa.Msg
set_option linter.unusedVariables false
set_option linter.unusedSimpArgs false
open Go.RowKit Go.Proofs.Ytbfmbjkalldonaa.PA Go.Proofs.YtbfmbjkalldonaaW.PrintWords Go.Proofs.YtbfmbjkalldonaaW.PrintLast Go.Proofs.YtbfmbjkalldonaaW.PrintMore Go.Proofs.Ytbfmbjkalldonaa.Base Go.Proofs.Ytbfmbjkalldonaa.Var Go.Proofs.Ytbfmbjkalldonaa.Lst
/-! ### read, then laid -/
theorem num_read {b : List Int} (hb : Bytes b) {e most x : Int} {b' : List Int} (h : numV b e most = (x, b', 0)) : e = 0 ∧ b = vb x.toNat ++ b' := by
  unfold numV at h
  by_cases h0 : e = 0
  · rw [if_pos h0] at h
    refine ⟨h0, ?_⟩
    rcases hg : gt 0 0 b with ⟨n, k, e1⟩
    rw [hg] at h
    dsimp only at h
    by_cases h1 : e1 = 0
    · rw [if_pos h1] at h
      subst h1
      obtain ⟨g1, g2, g3, g4, g5, g6, g7⟩ := vb_gt0 hb hg
      split at h
      · simp only [Prod.mk.injEq] at h
        exact absurd h.2.2 (by decide)
      · simp only [Prod.mk.injEq, and_true] at h
        obtain ⟨rfl, rfl⟩ := h
        rw [g3, Int.toNat_natCast]
        conv => lhs; rw [← List.take_append_drop (vb n.toNat).length b]
        rw [g5]
    · rw [if_neg h1] at h
      simp only [Prod.mk.injEq] at h
      exact absurd h.2.2 h1
  · rw [if_neg h0] at h
    simp only [Prod.mk.injEq] at h
    exact absurd h.2.2 h0
theorem nums_read : ∀ (q : Nat) {b : List Int} (hb : Bytes b) {e : Int} {xs b' : List Int}, numsV q b e = (xs, b', 0) → e = 0 ∧ xs.length = q ∧ b = flat xs ++ b'
  | 0, b, hb, e, xs, b', h => by
    simp only [numsV, Prod.mk.injEq] at h
    obtain ⟨rfl, rfl, rfl⟩ := h
    exact ⟨rfl, rfl, rfl⟩
  | q + 1, b, hb, e, xs, b', h => by
    unfold numsV at h
    by_cases h0 : e = 0
    · rw [if_pos h0] at h
      rcases hn : numV b e 63 with ⟨x, b1, e1⟩
      rw [hn] at h
      dsimp only at h
      rcases hq : numsV q b1 e1 with ⟨ys, b2, e2⟩
      rw [hq] at h
      simp only [Prod.mk.injEq] at h
      obtain ⟨rfl, rfl, rfl⟩ := h
      have hb1 : Bytes b1 := by have := (num_bd hb e 63 (by decide)).2.2.1; rw [hn] at this; exact this
      obtain ⟨rfl, i2, i3⟩ := nums_read q hb1 hq
      obtain ⟨_, j2⟩ := num_read hb hn
      refine ⟨h0, by rw [List.length_cons, i2], ?_⟩
      rw [j2, i3, flat_cons, List.append_assoc]
    · rw [if_neg h0] at h
      simp only [Prod.mk.injEq] at h
      exact absurd h.2.2 h0
theorem list_read {b : List Int} (hb : Bytes b) {e : Int} {xs b' : List Int} (h : listV b e = (xs, b', 0)) : e = 0 ∧ b = flat ((xs.length : Int) :: xs) ++ b' := by
  unfold listV at h
  rcases hn : numV b e 256 with ⟨x, b1, e1⟩
  have hbd := num_bd hb e 256 (by decide)
  rw [hn] at h hbd
  dsimp only at h hbd
  obtain ⟨rfl, i2, i3⟩ := nums_read x.toNat hbd.2.2.1 h
  obtain ⟨h0, j2⟩ := num_read hb hn
  refine ⟨h0, ?_⟩
  rw [j2, i3, flat_cons, List.append_assoc, i2, Int.toNat_natCast]
def othersV (m m' : Ms) (c : Int) : Prop := ∀ d, isL d → d ≠ c → wordsV m' d = wordsV m d ∧ bareV m' d = bareV m d
theorem set_others (m : Ms) (c x : Int) (hc : c = 115 ∨ c = 101 ∨ c = 97 ∨ c = 105 ∨ c = 110 ∨ c = 99) : othersV m (setV m c x) c ∧ wordsV (setV m c x) c = [x] := by
  constructor
  · intro d hd hne
    rcases hc with rfl | rfl | rfl | rfl | rfl | rfl <;> rcases hd with rfl | rfl | rfl | rfl | rfl | rfl | rfl | rfl | rfl <;> first | exact absurd rfl hne | exact ⟨rfl, rfl⟩
  · rcases hc with rfl | rfl | rfl | rfl | rfl | rfl <;> rfl
theorem flat_one' (x : Int) : flat [x] = vb x.toNat := by simp [flat]
theorem field_read {m : Ms} {b : List Int} (hb : Bytes b) {e c : Int} (hc : isL c) {m' : Ms} {b' : List Int} (h : fieldV m b e c = (m', b', 0)) : e = 0 ∧ b = flat (wordsV m' c) ++ b' ∧ othersV m m' c := by
  have six : ∀ c : Int, c = 115 ∨ c = 101 ∨ c = 97 ∨ c = 105 ∨ c = 110 ∨ c = 99 → fieldV m b e c = (m', b', 0) → e = 0 ∧ b = flat (wordsV m' c) ++ b' ∧ othersV m m' c := by
    intro c hc h
    unfold fieldV at h
    rw [if_neg (by omega), if_neg (by omega), if_neg (by omega)] at h
    rcases hn : numV b e top with ⟨x, b1, e1⟩
    rw [hn] at h
    simp only [Prod.mk.injEq] at h
    obtain ⟨rfl, rfl, rfl⟩ := h
    obtain ⟨h0, j⟩ := num_read hb hn
    obtain ⟨o1, o2⟩ := set_others m c x hc
    exact ⟨h0, by rw [o2, flat_one']; exact j, o1⟩
  rcases hc with rfl | rfl | rfl | rfl | rfl | rfl | rfl | rfl | rfl
  · exact six _ (by decide) h
  · exact six _ (by decide) h
  · exact six _ (by decide) h
  · exact six _ (by decide) h
  · exact six _ (by decide) h
  · exact six _ (by decide) h
  · unfold fieldV at h
    rw [if_pos rfl] at h
    rcases hn : numV b e 255 with ⟨x, b1, e1⟩
    rw [hn] at h
    simp only [Prod.mk.injEq] at h
    obtain ⟨rfl, rfl, rfl⟩ := h
    obtain ⟨h0, j⟩ := num_read hb hn
    refine ⟨h0, by rw [show wordsV { m with why := x } 119 = [x] from rfl, flat_one']; exact j, fun d hd hne => ?_⟩
    rcases hd with rfl | rfl | rfl | rfl | rfl | rfl | rfl | rfl | rfl <;> first | exact absurd rfl hne | exact ⟨rfl, rfl⟩
  · unfold fieldV at h
    rw [if_neg (by decide), if_pos rfl] at h
    rcases hn : numV b e top with ⟨x1, b1, e1⟩
    rcases hn2 : numV b1 e1 256 with ⟨x2, b2, e2⟩
    rcases hn3 : listV b2 e2 with ⟨xs, b3, e3⟩
    rw [hn] at h
    dsimp only at h
    rw [hn2] at h
    dsimp only at h
    rw [hn3] at h
    simp only [Prod.mk.injEq] at h
    obtain ⟨rfl, rfl, rfl⟩ := h
    have hb1 : Bytes b1 := by have := (num_bd hb e top (by decide)).2.2.1; rw [hn] at this; exact this
    have hb2 : Bytes b2 := by have := (num_bd hb1 e1 256 (by decide)).2.2.1; rw [hn2] at this; exact this
    obtain ⟨rfl, j3⟩ := list_read hb2 hn3
    obtain ⟨rfl, j2⟩ := num_read hb1 hn2
    obtain ⟨h0, j1⟩ := num_read hb hn
    refine ⟨h0, ?_, fun d hd hne => ?_⟩
    · rw [show wordsV { m with seed := x1, most := x2, P := xs } 106 = x1 :: x2 :: (xs.length : Int) :: xs from rfl, j1, j2, j3]
      rw [flat_cons x1, flat_cons x2]
      simp only [List.append_assoc]
    · rcases hd with rfl | rfl | rfl | rfl | rfl | rfl | rfl | rfl | rfl <;> first | exact absurd rfl hne | exact ⟨rfl, rfl⟩
  · unfold fieldV at h
    rw [if_neg (by decide), if_neg (by decide), if_pos rfl] at h
    rcases hn : listV b e with ⟨xs, b1, e1⟩
    rw [hn] at h
    simp only [Prod.mk.injEq] at h
    obtain ⟨rfl, rfl, rfl⟩ := h
    obtain ⟨h0, j⟩ := list_read hb hn
    refine ⟨h0, by rw [show wordsV { m with L := xs } 108 = (xs.length : Int) :: xs from rfl]; exact j, fun d hd hne => ?_⟩
    rcases hd with rfl | rfl | rfl | rfl | rfl | rfl | rfl | rfl | rfl <;> first | exact absurd rfl hne | exact ⟨rfl, rfl⟩
theorem fold_read : ∀ (cs : List Int) (hcs : ∀ c ∈ cs, isL c) (hnd : cs.Nodup) {m : Ms} (hm : m.In) {b : List Int} (hb : Bytes b) {e : Int} {m' : Ms} {b' : List Int}, foldV cs m b e = (m', b', 0) → e = 0 ∧ b = flat (cs.flatMap (wordsV m')) ++ b' ∧ ∀ d, isL d → d ∉ cs → wordsV m' d = wordsV m d ∧ bareV m' d = bareV m d
  | [], hcs, hnd, m, hm, b, hb, e, m', b', h => by
    simp only [foldV, Prod.mk.injEq] at h
    obtain ⟨rfl, rfl, rfl⟩ := h
    exact ⟨rfl, rfl, fun d _ _ => ⟨rfl, rfl⟩⟩
  | c :: cs, hcs, hnd, m, hm, b, hb, e, m', b', h => by
    unfold foldV at h
    rcases hf : fieldV m b e c with ⟨m1, b1, e1⟩
    have hbd := field_bd hm hb e c
    rw [hf] at h hbd
    dsimp only at h hbd
    obtain ⟨hnc, hnd'⟩ := List.nodup_cons.1 hnd
    obtain ⟨rfl, i2, i3⟩ := fold_read cs (fun d hd => hcs d (List.mem_cons_of_mem _ hd)) hnd' hbd.1 hbd.2.1 h
    have hc := hcs c List.mem_cons_self
    obtain ⟨h0, j2, j3⟩ := field_read hb hc hf
    refine ⟨h0, ?_, fun d hd hn => ?_⟩
    · rw [List.flatMap_cons, flat_app, (i3 c hc hnc).1, List.append_assoc, ← i2]; exact j2
    · have h1 : d ≠ c := fun e' => hn (by rw [e']; exact List.mem_cons_self)
      have h2 : d ∉ cs := fun h' => hn (List.mem_cons_of_mem _ h')
      exact ⟨(i3 d hd h2).1.trans (j3 d hd h1).1, (i3 d hd h2).2.trans (j3 d hd h1).2⟩
theorem letters_nodup (k : Int) : (lettersV k).Nodup := by
  unfold lettersV
  repeat' split
  all_goals decide
theorem tok_to {l : List Int} (h1 : l.length ≤ 256) (h2 : ∀ x ∈ l, 0 ≤ x ∧ x ≤ 63) : tokV l = true := by
  unfold tokV
  rw [Bool.and_eq_true]
  refine ⟨decide_eq_true h1, ?_⟩
  rw [Bool.not_eq_true', List.any_eq_false]
  intro x hx
  have := h2 x hx
  unfold badV
  rw [Bool.or_eq_true]
  rintro (h | h)
  · have := of_decide_eq_true h; omega
  · have := of_decide_eq_true h; omega
theorem read_in {l : List Int} (hb : Bytes l) {m : Ms} {e : Int} (h : readV l = (m, e)) : m.In ∧ (e ≠ 0 → m = Ms.nil) := by
  have hn : Ms.nil.In := In_of 0
  unfold readV at h
  rcases hx : numV l 0 top with ⟨x, b1, e1⟩
  have hbd := num_bd hb 0 top (by decide)
  rw [hx] at h hbd
  dsimp only at h hbd
  split at h
  · split at h
    · obtain ⟨rfl, rfl⟩ := Prod.mk.inj h; exact ⟨hn, fun _ => rfl⟩
    · split at h
      · split at h
        · obtain ⟨rfl, rfl⟩ := Prod.mk.inj h
          exact ⟨(fold_bd (lettersV x) (In_of x) hbd.2.2.1 0).1, fun h => absurd rfl h⟩
        · obtain ⟨rfl, rfl⟩ := Prod.mk.inj h; exact ⟨hn, fun _ => rfl⟩
      · obtain ⟨rfl, rfl⟩ := Prod.mk.inj h; exact ⟨hn, fun _ => rfl⟩
  · obtain ⟨rfl, rfl⟩ := Prod.mk.inj h; exact ⟨hn, fun _ => rfl⟩
theorem again_plain {l : List Int} (hb : Bytes l) {m : Ms} (h : readV l = (m, 0)) : mayV m = true ∧ loadV m = l := by
  have hin := (read_in hb h).1
  unfold readV at h
  rcases hx : numV l 0 top with ⟨x, b1, e1⟩
  have hbd := num_bd hb 0 top (by decide)
  rw [hx] at h hbd
  dsimp only at h hbd
  by_cases h1 : e1 = 0
  rotate_left
  · rw [if_neg h1] at h
    simp only [Prod.mk.injEq] at h
    exact absurd h.2 h1
  subst h1
  rw [if_pos rfl] at h
  by_cases h2 : x < 1 ∨ x > 12
  · rw [if_pos h2] at h
    simp only [Prod.mk.injEq] at h
    exact absurd h.2 (by decide)
  rw [if_neg h2] at h
  rcases hf : foldV (lettersV x) (Ms.of x) b1 0 with ⟨m1, b2, e2⟩
  have hfb := fold_bd (lettersV x) (In_of x) hbd.2.2.1 0
  rw [hf] at h hfb
  dsimp only at h hfb
  by_cases h3 : e2 = 0
  rotate_left
  · rw [if_neg h3] at h
    simp only [Prod.mk.injEq] at h
    exact absurd h.2 h3
  subst h3
  rw [if_pos rfl] at h
  by_cases h4 : b2 = []
  rotate_left
  · rw [if_neg h4] at h
    simp only [Prod.mk.injEq] at h
    exact absurd h.2 (by decide)
  subst h4
  rw [if_pos rfl] at h
  simp only [Prod.mk.injEq, and_true] at h
  subst h
  have hk : m1.k = x := hfb.2.2.2
  obtain ⟨_, j2⟩ := num_read hb hx
  obtain ⟨_, i2, i3⟩ := fold_read (lettersV x) (letters_isL x) (letters_nodup x) (In_of x) hbd.2.2.1 hf
  constructor
  · unfold mayV
    have e1 : (lettersV m1.k).isEmpty = false := by
      rw [hk]
      have hx12 : x = 1 ∨ x = 2 ∨ x = 3 ∨ x = 4 ∨ x = 5 ∨ x = 6 ∨ x = 7 ∨ x = 8 ∨ x = 9 ∨ x = 10 ∨ x = 11 ∨ x = 12 := by omega
      rcases hx12 with rfl | rfl | rfl | rfl | rfl | rfl | rfl | rfl | rfl | rfl | rfl | rfl <;> rfl
    have e7 : lackV m1 = true := by
      unfold lackV
      rw [List.all_eq_true]
      intro c hc
      rw [hk, Bool.or_eq_true]
      by_cases hcm : c ∈ lettersV x
      · exact .inl (List.contains_iff_mem.2 hcm)
      · right
        rw [(i3 c (nine_isL c hc) hcm).2]
        have : ∀ c ∈ ([115, 101, 97, 105, 110, 99, 119, 106, 108] : List Int), bareV (Ms.of x) c = true := by
          intro c hc
          simp only [List.mem_cons, List.not_mem_nil, or_false] at hc
          rcases hc with rfl | rfl | rfl | rfl | rfl | rfl | rfl | rfl | rfl <;> rfl
        exact this c hc
    rw [e1, decide_eq_false (by have := hin.why; omega), decide_eq_false (by have := hin.why; omega), decide_eq_false (by have := hin.most; omega), decide_eq_false (by have := hin.most; omega), tok_to hin.P.2 hin.P.1, tok_to hin.L.2 hin.L.1, e7]
    rfl
  · unfold loadV
    rw [hk, flat_cons, j2, i2, List.append_nil]
end Go.Proofs.Ytbfmbjkalldonaa.Msg
