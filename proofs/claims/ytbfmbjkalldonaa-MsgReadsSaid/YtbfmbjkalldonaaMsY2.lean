/- MsY2: joined texts of msg at its document, for MsgReads; no condition but those that stand in each. -/
import Derived.Test.YtbfmbjkalldonaaMsY1
import Derived.Test.YtbfmbjkalldonaaProg
import Derived.Test.YtbfmbjkalldonaaPAx1
import Derived.Deep.QuietTactic
import Derived.BigQuiet
import Derived.BigRegion
import Derived.RegionTactic
import Derived.Deep.RegionHeld3
import Derived.Deep.RegionLaw
import Derived.WalkSpells
import Derived.LoopTactic
import Derived.Deep.LoopGhost
import Derived.Shelf.Abstract
import Derived.OwnWalk
import Derived.Test.YtbfmbjkalldonaaPAx23
import Derived.Test.YtbfmbjkalldonaaPAx33
import Derived.Test.YtbfmbjkalldonaaBase
import Derived.Test.YtbfmbjkalldonaaPAx27
import Derived.Test.YtbfmbjkalldonaaPAx28
import Derived.Test.YtbfmbjkalldonaaPAx36
import Derived.Lib.Bytes
import Derived.Test.YtbfmbjkalldonaaPAy0
import Derived.Test.YtbfmbjkalldonaaPAx30
namespace Go.Proofs.Ytbfmbjkalldonaa.Msg
set_option linter.unusedVariables false
set_option linter.unusedSimpArgs false
open Go.RowKit Go.Proofs.Ytbfmbjkalldonaa.PA Go.Proofs.YtbfmbjkalldonaaW.PrintWords Go.Proofs.YtbfmbjkalldonaaW.PrintLast Go.Proofs.YtbfmbjkalldonaaW.PrintMore Go.Proofs.Ytbfmbjkalldonaa.Base Go.Proofs.Ytbfmbjkalldonaa.Var Go.Proofs.Ytbfmbjkalldonaa.Lst
/-! ### read, then laid -/
theorem num_read {b : List Int} (hb : Bytes b) {e most x : Int} {b' : List Int} (h : numV b e most = (x, b', 0)) : e = 0 ∧ b = vb x.toNat ++ b' := by
  unfold numV at h
  by_cases h0 : e = 0
  · rw [if_pos h0] at h
    refine ⟨h0, ?_⟩
    rcases hg : gt 0 0 b with ⟨n, k, e1⟩
    rw [hg] at h
    dsimp only at h
    by_cases h1 : e1 = 0
    · rw [if_pos h1] at h
      subst h1
      obtain ⟨g1, g2, g3, g4, g5, g6, g7⟩ := vb_gt0 hb hg
      split at h
      · simp only [Prod.mk.injEq] at h
        exact absurd h.2.2 (by decide)
      · simp only [Prod.mk.injEq, and_true] at h
        obtain ⟨rfl, rfl⟩ := h
        rw [g3, Int.toNat_natCast]
        conv => lhs; rw [← List.take_append_drop (vb n.toNat).length b]
        rw [g5]
    · rw [if_neg h1] at h
      simp only [Prod.mk.injEq] at h
      exact absurd h.2.2 h1
  · rw [if_neg h0] at h
    simp only [Prod.mk.injEq] at h
    exact absurd h.2.2 h0
theorem nums_read : ∀ (q : Nat) {b : List Int} (hb : Bytes b) {e : Int} {xs b' : List Int}, numsV q b e = (xs, b', 0) → e = 0 ∧ xs.length = q ∧ b = flat xs ++ b'
  | 0, b, hb, e, xs, b', h => by
    simp only [numsV, Prod.mk.injEq] at h
    obtain ⟨rfl, rfl, rfl⟩ := h
    exact ⟨rfl, rfl, rfl⟩
  | q + 1, b, hb, e, xs, b', h => by
    unfold numsV at h
    by_cases h0 : e = 0
    · rw [if_pos h0] at h
      rcases hn : numV b e 63 with ⟨x, b1, e1⟩
      rw [hn] at h
      dsimp only at h
      rcases hq : numsV q b1 e1 with ⟨ys, b2, e2⟩
      rw [hq] at h
      simp only [Prod.mk.injEq] at h
      obtain ⟨rfl, rfl, rfl⟩ := h
      have hb1 : Bytes b1 := by have := (num_bd hb e 63 (by decide)).2.2.1; rw [hn] at this; exact this
      obtain ⟨rfl, i2, i3⟩ := nums_read q hb1 hq
      obtain ⟨_, j2⟩ := num_read hb hn
      refine ⟨h0, by rw [List.length_cons, i2], ?_⟩
      rw [j2, i3, flat_cons, List.append_assoc]
    · rw [if_neg h0] at h
      simp only [Prod.mk.injEq] at h
      exact absurd h.2.2 h0
theorem list_read {b : List Int} (hb : Bytes b) {e : Int} {xs b' : List Int} (h : listV b e = (xs, b', 0)) : e = 0 ∧ b = flat ((xs.length : Int) :: xs) ++ b' := by
  unfold listV at h
  rcases hn : numV b e 256 with ⟨x, b1, e1⟩
  have hbd := num_bd hb e 256 (by decide)
  rw [hn] at h hbd
  dsimp only at h hbd
  obtain ⟨rfl, i2, i3⟩ := nums_read x.toNat hbd.2.2.1 h
  obtain ⟨h0, j2⟩ := num_read hb hn
  refine ⟨h0, ?_⟩
  rw [j2, i3, flat_cons, List.append_assoc, i2, Int.toNat_natCast]
def othersV (m m' : Ms) (c : Int) : Prop := ∀ d, isL d → d ≠ c → wordsV m' d = wordsV m d ∧ bareV m' d = bareV m d
theorem set_others (m : Ms) (c x : Int) (hc : c = 115 ∨ c = 101 ∨ c = 97 ∨ c = 105 ∨ c = 110 ∨ c = 99) : othersV m (setV m c x) c ∧ wordsV (setV m c x) c = [x] := by
  constructor
  · intro d hd hne
    rcases hc with rfl | rfl | rfl | rfl | rfl | rfl <;> rcases hd with rfl | rfl | rfl | rfl | rfl | rfl | rfl | rfl | rfl <;> first | exact absurd rfl hne | exact ⟨rfl, rfl⟩
  · rcases hc with rfl | rfl | rfl | rfl | rfl | rfl <;> rfl
theorem flat_one' (x : Int) : flat [x] = vb x.toNat := by simp [flat]
theorem field_read {m : Ms} {b : List Int} (hb : Bytes b) {e c : Int} (hc : isL c) {m' : Ms} {b' : List Int} (h : fieldV m b e c = (m', b', 0)) : e = 0 ∧ b = flat (wordsV m' c) ++ b' ∧ othersV m m' c := by
  have six : ∀ c : Int, c = 115 ∨ c = 101 ∨ c = 97 ∨ c = 105 ∨ c = 110 ∨ c = 99 → fieldV m b e c = (m', b', 0) → e = 0 ∧ b = flat (wordsV m' c) ++ b' ∧ othersV m m' c := by
    intro c hc h
    unfold fieldV at h
    rw [if_neg (by omega), if_neg (by omega), if_neg (by omega)] at h
    rcases hn : numV b e top with ⟨x, b1, e1⟩
    rw [hn] at h
    simp only [Prod.mk.injEq] at h
    obtain ⟨rfl, rfl, rfl⟩ := h
    obtain ⟨h0, j⟩ := num_read hb hn
    obtain ⟨o1, o2⟩ := set_others m c x hc
    exact ⟨h0, by rw [o2, flat_one']; exact j, o1⟩
  rcases hc with rfl | rfl | rfl | rfl | rfl | rfl | rfl | rfl | rfl
  · exact six _ (by decide) h
  · exact six _ (by decide) h
  · exact six _ (by decide) h
  · exact six _ (by decide) h
  · exact six _ (by decide) h
  · exact six _ (by decide) h
  · unfold fieldV at h
    rw [if_pos rfl] at h
    rcases hn : numV b e 255 with ⟨x, b1, e1⟩
    rw [hn] at h
    simp only [Prod.mk.injEq] at h
    obtain ⟨rfl, rfl, rfl⟩ := h
    obtain ⟨h0, j⟩ := num_read hb hn
    refine ⟨h0, by rw [show wordsV { m with why := x } 119 = [x] from rfl, flat_one']; exact j, fun d hd hne => ?_⟩
    rcases hd with rfl | rfl | rfl | rfl | rfl | rfl | rfl | rfl | rfl <;> first | exact absurd rfl hne | exact ⟨rfl, rfl⟩
  · unfold fieldV at h
    rw [if_neg (by decide), if_pos rfl] at h
    rcases hn : numV b e top with ⟨x1, b1, e1⟩
    rcases hn2 : numV b1 e1 256 with ⟨x2, b2, e2⟩
    rcases hn3 : listV b2 e2 with ⟨xs, b3, e3⟩
    rw [hn] at h
    dsimp only at h
    rw [hn2] at h
    dsimp only at h
    rw [hn3] at h
    simp only [Prod.mk.injEq] at h
    obtain ⟨rfl, rfl, rfl⟩ := h
    have hb1 : Bytes b1 := by have := (num_bd hb e top (by decide)).2.2.1; rw [hn] at this; exact this
    have hb2 : Bytes b2 := by have := (num_bd hb1 e1 256 (by decide)).2.2.1; rw [hn2] at this; exact this
    obtain ⟨rfl, j3⟩ := list_read hb2 hn3
    obtain ⟨rfl, j2⟩ := num_read hb1 hn2
    obtain ⟨h0, j1⟩ := num_read hb hn
    refine ⟨h0, ?_, fun d hd hne => ?_⟩
    · rw [show wordsV { m with seed := x1, most := x2, P := xs } 106 = x1 :: x2 :: (xs.length : Int) :: xs from rfl, j1, j2, j3]
      rw [flat_cons x1, flat_cons x2]
      simp only [List.append_assoc]
    · rcases hd with rfl | rfl | rfl | rfl | rfl | rfl | rfl | rfl | rfl <;> first | exact absurd rfl hne | exact ⟨rfl, rfl⟩
  · unfold fieldV at h
    rw [if_neg (by decide), if_neg (by decide), if_pos rfl] at h
    rcases hn : listV b e with ⟨xs, b1, e1⟩
    rw [hn] at h
    simp only [Prod.mk.injEq] at h
    obtain ⟨rfl, rfl, rfl⟩ := h
    obtain ⟨h0, j⟩ := list_read hb hn
    refine ⟨h0, by rw [show wordsV { m with L := xs } 108 = (xs.length : Int) :: xs from rfl]; exact j, fun d hd hne => ?_⟩
    rcases hd with rfl | rfl | rfl | rfl | rfl | rfl | rfl | rfl | rfl <;> first | exact absurd rfl hne | exact ⟨rfl, rfl⟩
theorem fold_read : ∀ (cs : List Int) (hcs : ∀ c ∈ cs, isL c) (hnd : cs.Nodup) {m : Ms} (hm : m.In) {b : List Int} (hb : Bytes b) {e : Int} {m' : Ms} {b' : List Int}, foldV cs m b e = (m', b', 0) → e = 0 ∧ b = flat (cs.flatMap (wordsV m')) ++ b' ∧ ∀ d, isL d → d ∉ cs → wordsV m' d = wordsV m d ∧ bareV m' d = bareV m d
  | [], hcs, hnd, m, hm, b, hb, e, m', b', h => by
    simp only [foldV, Prod.mk.injEq] at h
    obtain ⟨rfl, rfl, rfl⟩ := h
    exact ⟨rfl, rfl, fun d _ _ => ⟨rfl, rfl⟩⟩
  | c :: cs, hcs, hnd, m, hm, b, hb, e, m', b', h => by
    unfold foldV at h
    rcases hf : fieldV m b e c with ⟨m1, b1, e1⟩
    have hbd := field_bd hm hb e c
    rw [hf] at h hbd
    dsimp only at h hbd
    obtain ⟨hnc, hnd'⟩ := List.nodup_cons.1 hnd
    obtain ⟨rfl, i2, i3⟩ := fold_read cs (fun d hd => hcs d (List.mem_cons_of_mem _ hd)) hnd' hbd.1 hbd.2.1 h
    have hc := hcs c List.mem_cons_self
    obtain ⟨h0, j2, j3⟩ := field_read hb hc hf
    refine ⟨h0, ?_, fun d hd hn => ?_⟩
    · rw [List.flatMap_cons, flat_app, (i3 c hc hnc).1, List.append_assoc, ← i2]; exact j2
    · have h1 : d ≠ c := fun e' => hn (by rw [e']; exact List.mem_cons_self)
      have h2 : d ∉ cs := fun h' => hn (List.mem_cons_of_mem _ h')
      exact ⟨(i3 d hd h2).1.trans (j3 d hd h1).1, (i3 d hd h2).2.trans (j3 d hd h1).2⟩
theorem letters_nodup (k : Int) : (lettersV k).Nodup := by
  unfold lettersV
  repeat' split
  all_goals decide
theorem tok_to {l : List Int} (h1 : l.length ≤ 256) (h2 : ∀ x ∈ l, 0 ≤ x ∧ x ≤ 63) : tokV l = true := by
  unfold tokV
  rw [Bool.and_eq_true]
  refine ⟨decide_eq_true h1, ?_⟩
  rw [Bool.not_eq_true', List.any_eq_false]
  intro x hx
  have := h2 x hx
  unfold badV
  rw [Bool.or_eq_true]
  rintro (h | h)
  · have := of_decide_eq_true h; omega
  · have := of_decide_eq_true h; omega
theorem read_in {l : List Int} (hb : Bytes l) {m : Ms} {e : Int} (h : readV l = (m, e)) : m.In ∧ (e ≠ 0 → m = Ms.nil) := by
  have hn : Ms.nil.In := In_of 0
  unfold readV at h
  rcases hx : numV l 0 top with ⟨x, b1, e1⟩
  have hbd := num_bd hb 0 top (by decide)
  rw [hx] at h hbd
  dsimp only at h hbd
  split at h
  · split at h
    · obtain ⟨rfl, rfl⟩ := Prod.mk.inj h; exact ⟨hn, fun _ => rfl⟩
    · split at h
      · split at h
        · obtain ⟨rfl, rfl⟩ := Prod.mk.inj h
          exact ⟨(fold_bd (lettersV x) (In_of x) hbd.2.2.1 0).1, fun h => absurd rfl h⟩
        · obtain ⟨rfl, rfl⟩ := Prod.mk.inj h; exact ⟨hn, fun _ => rfl⟩
      · obtain ⟨rfl, rfl⟩ := Prod.mk.inj h; exact ⟨hn, fun _ => rfl⟩
  · obtain ⟨rfl, rfl⟩ := Prod.mk.inj h; exact ⟨hn, fun _ => rfl⟩
theorem again_plain {l : List Int} (hb : Bytes l) {m : Ms} (h : readV l = (m, 0)) : mayV m = true ∧ loadV m = l := by
  have hin := (read_in hb h).1
  unfold readV at h
  rcases hx : numV l 0 top with ⟨x, b1, e1⟩
  have hbd := num_bd hb 0 top (by decide)
  rw [hx] at h hbd
  dsimp only at h hbd
  by_cases h1 : e1 = 0
  rotate_left
  · rw [if_neg h1] at h
    simp only [Prod.mk.injEq] at h
    exact absurd h.2 h1
  subst h1
  rw [if_pos rfl] at h
  by_cases h2 : x < 1 ∨ x > 12
  · rw [if_pos h2] at h
    simp only [Prod.mk.injEq] at h
    exact absurd h.2 (by decide)
  rw [if_neg h2] at h
  rcases hf : foldV (lettersV x) (Ms.of x) b1 0 with ⟨m1, b2, e2⟩
  have hfb := fold_bd (lettersV x) (In_of x) hbd.2.2.1 0
  rw [hf] at h hfb
  dsimp only at h hfb
  by_cases h3 : e2 = 0
  rotate_left
  · rw [if_neg h3] at h
    simp only [Prod.mk.injEq] at h
    exact absurd h.2 h3
  subst h3
  rw [if_pos rfl] at h
  by_cases h4 : b2 = []
  rotate_left
  · rw [if_neg h4] at h
    simp only [Prod.mk.injEq] at h
    exact absurd h.2 (by decide)
  subst h4
  rw [if_pos rfl] at h
  simp only [Prod.mk.injEq, and_true] at h
  subst h
  have hk : m1.k = x := hfb.2.2.2
  obtain ⟨_, j2⟩ := num_read hb hx
  obtain ⟨_, i2, i3⟩ := fold_read (lettersV x) (letters_isL x) (letters_nodup x) (In_of x) hbd.2.2.1 hf
  constructor
  · unfold mayV
    have e1 : (lettersV m1.k).isEmpty = false := by
      rw [hk]
      have hx12 : x = 1 ∨ x = 2 ∨ x = 3 ∨ x = 4 ∨ x = 5 ∨ x = 6 ∨ x = 7 ∨ x = 8 ∨ x = 9 ∨ x = 10 ∨ x = 11 ∨ x = 12 := by omega
      rcases hx12 with rfl | rfl | rfl | rfl | rfl | rfl | rfl | rfl | rfl | rfl | rfl | rfl <;> rfl
    have e7 : lackV m1 = true := by
      unfold lackV
      rw [List.all_eq_true]
      intro c hc
      rw [hk, Bool.or_eq_true]
      by_cases hcm : c ∈ lettersV x
      · exact .inl (List.contains_iff_mem.2 hcm)
      · right
        rw [(i3 c (nine_isL c hc) hcm).2]
        have : ∀ c ∈ ([115, 101, 97, 105, 110, 99, 119, 106, 108] : List Int), bareV (Ms.of x) c = true := by
          intro c hc
          simp only [List.mem_cons, List.not_mem_nil, or_false] at hc
          rcases hc with rfl | rfl | rfl | rfl | rfl | rfl | rfl | rfl | rfl <;> rfl
        exact this c hc
    rw [e1, decide_eq_false (by have := hin.why; omega), decide_eq_false (by have := hin.why; omega), decide_eq_false (by have := hin.most; omega), decide_eq_false (by have := hin.most; omega), tok_to hin.P.2 hin.P.1, tok_to hin.L.2 hin.L.1, e7]
    rfl
  · unfold loadV
    rw [hk, flat_cons, j2, i2, List.append_nil]
end Go.Proofs.Ytbfmbjkalldonaa.Msg
namespace Go.Proofs.Ytbfmbjkalldonaa.Msg
set_option linter.unusedVariables false
set_option linter.unusedSimpArgs false
open Go.RowKit Go.Proofs.Ytbfmbjkalldonaa.PA Go.Proofs.YtbfmbjkalldonaaW.PrintWords Go.Proofs.YtbfmbjkalldonaaW.PrintLast Go.Proofs.YtbfmbjkalldonaaW.PrintMore Go.Proofs.Ytbfmbjkalldonaa.Base Go.Proofs.Ytbfmbjkalldonaa.Var Go.Proofs.Ytbfmbjkalldonaa.Lst
attribute [local go_sem] max2_int min2_int max_two min_two max_three min_three max_four min_four
def am : Ms := { Ms.nil with k := 3, s := 5 }
theorem am_u : am.U := by constructor <;> simp [am, Ms.nil, top]
theorem am_load : loadR am = ([3, 5], 0) := by
  have e1 : mayV am = true := by kernel_rfl
  have e2 : loadV am = [3, 5] := by
    unfold loadV
    rw [show (am.k :: (lettersV am.k).flatMap (wordsV am)) = [3, 5] from by kernel_rfl, flat_cons, flat_cons]
    rw [show (3 : Int).toNat = 3 from rfl, show (5 : Int).toNat = 5 from rfl, vb_small (by decide), vb_small (by decide)]; rfl
  unfold loadR
  rw [if_pos e1, e2]
theorem am_read : readV [3, 5] = (am, 0) := by kernel_rfl
set_option maxHeartbeats 16000000 in
set_option maxRecDepth 100000 in
theorem alive_c (w : World) : Calls Try.prog 8 #[] w fun e w' => e = .returned (.bool true) ∧ Below w.heap.size w w' := by
  have hu := Try.underlying29
  have HLD := Aside0.mk (show Calls Try.prog 11 #[.agg #[.int .i64 3, .int .u64 5, .int .u64 0, .int .u64 0, .int .u64 0, .int .u64 0, .int .u64 0, .int .i64 0, .int .u64 0, .slice none 0 0, .int .i64 0, .slice none 0 0]] w fun er w' => ∃ v, er = .returned (.tuple #[v, .int .i64 0]) ∧ Ls encB 5 w' w.heap.size v [3, 5] ∧ Below w.heap.size w w' from by
    have q := load_c w am am_u none none 0 0 (Nat.zero_le _) (Nat.zero_le _) (Nat.le_refl _) (Nat.le_refl _) (Kd.C_of_reads (enc := Value.int .i64) (d := (0 : Int)) (h1 := fun _ => rfl) ⟨rfl, Nat.zero_le _, fun h => absurd h (by decide)⟩) (Kd.C_of_reads (enc := Value.int .i64) (d := (0 : Int)) (h1 := fun _ => rfl) ⟨rfl, Nat.zero_le _, fun h => absurd h (by decide)⟩)
    rw [am_load] at q
    exact q)
  go_enter Try.func8, Try.ntmps8
  go_upto_region 3 with (first | (go_at_call 11; (with_reducible refine HLD.out.mono ?_); rintro er w4 ⟨v, rfl, hl, hb⟩; obtain ⟨A4, c4, rfl, _, _⟩ := hl.form; have HL4 := Aside0.mk hl; have HB4 := Aside0.mk hb; have HRD := Aside0.mk (show Calls Try.prog 9 #[.slice A4 2 c4] w4 (PostR w4 am 0) from read_c A4 c4 [3, 5] (by decide) (fun x hx => by simp at hx; omega) (C_of_ls hl).2.1 am 0 am_read w4 (C_of_ls hl).2.2); clear hl hb) | (go_at_call 9; (with_reducible refine HRD.out.mono ?_); rintro er w5 ⟨vP, vL, rfl, hP, hL, hb⟩; obtain ⟨AP, cP, rfl, _, _⟩ := hP.form; obtain ⟨AL, cL, rfl, _, _⟩ := hL.form; have HP5 := Aside0.mk hP; have HL5 := Aside0.mk hL; have HB5 := Aside0.mk hb; clear hP hL hb) | ((with_reducible refine gate_dst (N := 3) rfl ?_); refine box_event ?hg (N := 3) ?hd (cs := #[.int .i64 0, .int .u64 0, .int .u64 0, .int .u64 0, .int .u64 0, .int .u64 0, .int .u64 0, .int .i64 0, .int .u64 0, .slice none 0 0, .int .i64 0, .slice none 0 0]) (t := 29) ?hr ?_; (case hd => rfl); (case hg => rfl); (case hr => first | (go_simp; done) | (go_simp; rfl)); intro gm hgn w6 hbox hb; have HGgm := Aside0.mk hbox; have HBgm := Aside0.mk hb; have HNgm := Aside0.mk hgn; have u0 : w6.cell? ⟨gm, 0, none⟩ = some (.int .i64 0) := blk_cell hbox 0; have uf0 : w6.frozen? ⟨gm, 0, none⟩ = false := blk_frozen hbox 0; have u1 : w6.cell? ⟨gm, 1, none⟩ = some (.int .u64 0) := blk_cell hbox 1; have uf1 : w6.frozen? ⟨gm, 1, none⟩ = false := blk_frozen hbox 1; have u2 : w6.cell? ⟨gm, 2, none⟩ = some (.int .u64 0) := blk_cell hbox 2; have uf2 : w6.frozen? ⟨gm, 2, none⟩ = false := blk_frozen hbox 2; have u3 : w6.cell? ⟨gm, 3, none⟩ = some (.int .u64 0) := blk_cell hbox 3; have uf3 : w6.frozen? ⟨gm, 3, none⟩ = false := blk_frozen hbox 3; have u4 : w6.cell? ⟨gm, 4, none⟩ = some (.int .u64 0) := blk_cell hbox 4; have uf4 : w6.frozen? ⟨gm, 4, none⟩ = false := blk_frozen hbox 4; have u5 : w6.cell? ⟨gm, 5, none⟩ = some (.int .u64 0) := blk_cell hbox 5; have uf5 : w6.frozen? ⟨gm, 5, none⟩ = false := blk_frozen hbox 5; have u6 : w6.cell? ⟨gm, 6, none⟩ = some (.int .u64 0) := blk_cell hbox 6; have uf6 : w6.frozen? ⟨gm, 6, none⟩ = false := blk_frozen hbox 6; have u7 : w6.cell? ⟨gm, 7, none⟩ = some (.int .i64 0) := blk_cell hbox 7; have uf7 : w6.frozen? ⟨gm, 7, none⟩ = false := blk_frozen hbox 7; have u8 : w6.cell? ⟨gm, 8, none⟩ = some (.int .u64 0) := blk_cell hbox 8; have uf8 : w6.frozen? ⟨gm, 8, none⟩ = false := blk_frozen hbox 8; have u9 : w6.cell? ⟨gm, 9, none⟩ = some (.slice none 0 0) := blk_cell hbox 9; have uf9 : w6.frozen? ⟨gm, 9, none⟩ = false := blk_frozen hbox 9; have u10 : w6.cell? ⟨gm, 10, none⟩ = some (.int .i64 0) := blk_cell hbox 10; have uf10 : w6.frozen? ⟨gm, 10, none⟩ = false := blk_frozen hbox 10; have u11 : w6.cell? ⟨gm, 11, none⟩ = some (.slice none 0 0) := blk_cell hbox 11; have uf11 : w6.frozen? ⟨gm, 11, none⟩ = false := blk_frozen hbox 11; clear hbox hb hgn))
  obtain ⟨w9, hw9⟩ : ∃ w9, st12 w6 gm (.int .i64 am.k) (.int .u64 am.s) (.int .u64 am.se) (.int .u64 am.a) (.int .u64 am.i) (.int .u64 am.n) (.int .u64 am.c) (.int .i64 am.why) (.int .u64 am.seed) (.slice AP am.P.length cP) (.int .i64 am.most) (.slice AL am.L.length cL) = w9 := ⟨_, rfl⟩
  have hgm : w9.heap[gm]? = some (.cells #[.int .i64 am.k, .int .u64 am.s, .int .u64 am.se, .int .u64 am.a, .int .u64 am.i, .int .u64 am.n, .int .u64 am.c, .int .i64 am.why, .int .u64 am.seed, .slice AP am.P.length cP, .int .i64 am.most, .slice AL am.L.length cL] 29 (0, 0)) := by rw [← hw9]; exact st12_blk HGgm.out _ _ _ _ _ _ _ _ _ _ _ _
  have hb6 : Below w4.heap.size w4 w6 := below_step HB5.out HBgm.out
  have hb9 : Below w4.heap.size w4 w9 := by rw [← hw9]; exact st12_bel hb6 (by rw [HNgm.out]; exact HB5.out.size) _ _ _ _ _ _ _ _ _ _ _ _
  have hP6 := HP5.out.below HBgm.out
  have hL6 := HL5.out.below HBgm.out
  have hP9 : Ls encI 3 w9 w4.heap.size (.slice AP am.P.length cP) am.P := by rw [← hw9]; exact lsK1 hP6 (st12_kept w6 gm _ _ _ _ _ _ _ _ _ _ _ _) HGgm.out (by decide)
  have hL9 : Ls encI 3 w9 w4.heap.size (.slice AL am.L.length cL) am.L := by rw [← hw9]; exact lsK1 hL6 (st12_kept w6 gm _ _ _ _ _ _ _ _ _ _ _ _) HGgm.out (by decide)
  have g0 : (convert 22 9 (.slice A4 2 c4)).run Try.prog w9 = .ok (.string ⟨#[3, 5]⟩) w9 := by
    have hl9 : Ls encB 5 w9 w.heap.size (.slice A4 2 c4) [3, 5] := by
      have q := (HL4.out.below HB5.out).below HBgm.out
      rw [← hw9]
      exact lsK q (st12_kept w6 gm _ _ _ _ _ _ _ _ _ _ _ _) fun k hk e' => (q.ne HGgm.out (by decide)) (by rw [← e']; exact hk.symm)
    have q := Kd.C_string (c := c4) Try.underlying22 Try.underlying5 Try.underlying9 (C_of_ls hl9).2.2
    rw [show strOfNums [3, 5] = (⟨#[3, 5]⟩ : ByteArray) from by kernel_rfl] at q
    exact q
  have y0 : w9.cell? ⟨gm, 0, none⟩ = some (.int .i64 3) := blk_cell hgm 0
  have y1 : w9.cell? ⟨gm, 1, none⟩ = some (.int .u64 5) := blk_cell hgm 1
  have HZ := Aside0.mk (below_step HB4.out hb9)
  unfold st12 at hw9
  have hw9 : _ = w9 := hw9
  rw [hw9]
  clear hw9 hgm hb6 hb9 hP6 hL6 hP9 hL9 u0 uf0 u1 uf1 u2 uf2 u3 uf3 u4 uf4 u5 uf5 u6 uf6 u7 uf7 u8 uf8 u9 uf9 u10 uf10 u11 uf11
  go_wp2_with fail
  go_ret
  exact ⟨rfl, HZ.out⟩
end Go.Proofs.Ytbfmbjkalldonaa.Msg
namespace Go.Proofs.Ytbfmbjkalldonaa.Msg
set_option linter.unusedVariables false
set_option linter.unusedSimpArgs false
open Go.RowKit Go.Proofs.Ytbfmbjkalldonaa.PA Go.Proofs.YtbfmbjkalldonaaW.PrintWords Go.Proofs.YtbfmbjkalldonaaW.PrintLast Go.Proofs.YtbfmbjkalldonaaW.PrintMore Go.Proofs.Ytbfmbjkalldonaa.Base Go.Proofs.Ytbfmbjkalldonaa.Var Go.Proofs.Ytbfmbjkalldonaa.Lst
attribute [local go_sem] max2_int min2_int max_two min_two max_three min_three max_four min_four
set_option maxHeartbeats 8000000 in
set_option maxRecDepth 100000 in
theorem ours_c (w : World) (m : Ms) (A B : Option Addr) (c d : Nat) : Calls Try.prog 23 #[.agg #[.int .i64 m.k, .int .u64 m.s, .int .u64 m.se, .int .u64 m.a, .int .u64 m.i, .int .u64 m.n, .int .u64 m.c, .int .i64 m.why, .int .u64 m.seed, .slice A m.P.length c, .int .i64 m.most, .slice B m.L.length d]] w fun er w' => er = .returned (.agg #[.int .i64 m.k, .int .u64 m.s, .int .u64 m.se, .int .u64 m.a, .int .u64 m.i, .int .u64 m.n, .int .u64 m.c, .int .i64 m.why, .int .u64 m.seed, .slice A m.P.length c, .int .i64 m.most, .slice B m.L.length d]) ∧ Below w.heap.size w w' := by
  have hu29 := Try.underlying29
  have hu38 := Try.underlying38
  have hu27 := Try.underlying27
  go_enter Try.func23, Try.ntmps23
  go_wp2_with (first | ((with_reducible refine gate_dst (N := 1) rfl ?_); refine box_event ?hg (N := 1) ?hd (cs := #[.int .i64 m.k, .int .u64 m.s, .int .u64 m.se, .int .u64 m.a, .int .u64 m.i, .int .u64 m.n, .int .u64 m.c, .int .i64 m.why, .int .u64 m.seed, .slice A m.P.length c, .int .i64 m.most, .slice B m.L.length d]) (t := 29) ?hr ?_; (case hd => rfl); (case hg => rfl); (case hr => first | (go_simp; done) | (go_simp; rfl)); intro g hgn w5 hbox hb; have HGg := Aside0.mk hbox; have HBg := Aside0.mk hb; have u0 : w5.cell? ⟨g, 0, none⟩ = some (.int .i64 m.k) := blk_cell hbox 0; have uf0 : w5.frozen? ⟨g, 0, none⟩ = false := blk_frozen hbox 0; have u1 : w5.cell? ⟨g, 1, none⟩ = some (.int .u64 m.s) := blk_cell hbox 1; have uf1 : w5.frozen? ⟨g, 1, none⟩ = false := blk_frozen hbox 1; have u2 : w5.cell? ⟨g, 2, none⟩ = some (.int .u64 m.se) := blk_cell hbox 2; have uf2 : w5.frozen? ⟨g, 2, none⟩ = false := blk_frozen hbox 2; have u3 : w5.cell? ⟨g, 3, none⟩ = some (.int .u64 m.a) := blk_cell hbox 3; have uf3 : w5.frozen? ⟨g, 3, none⟩ = false := blk_frozen hbox 3; have u4 : w5.cell? ⟨g, 4, none⟩ = some (.int .u64 m.i) := blk_cell hbox 4; have uf4 : w5.frozen? ⟨g, 4, none⟩ = false := blk_frozen hbox 4; have u5 : w5.cell? ⟨g, 5, none⟩ = some (.int .u64 m.n) := blk_cell hbox 5; have uf5 : w5.frozen? ⟨g, 5, none⟩ = false := blk_frozen hbox 5; have u6 : w5.cell? ⟨g, 6, none⟩ = some (.int .u64 m.c) := blk_cell hbox 6; have uf6 : w5.frozen? ⟨g, 6, none⟩ = false := blk_frozen hbox 6; have u7 : w5.cell? ⟨g, 7, none⟩ = some (.int .i64 m.why) := blk_cell hbox 7; have uf7 : w5.frozen? ⟨g, 7, none⟩ = false := blk_frozen hbox 7; have u8 : w5.cell? ⟨g, 8, none⟩ = some (.int .u64 m.seed) := blk_cell hbox 8; have uf8 : w5.frozen? ⟨g, 8, none⟩ = false := blk_frozen hbox 8; have u9 : w5.cell? ⟨g, 9, none⟩ = some (.slice A m.P.length c) := blk_cell hbox 9; have uf9 : w5.frozen? ⟨g, 9, none⟩ = false := blk_frozen hbox 9; have u10 : w5.cell? ⟨g, 10, none⟩ = some (.int .i64 m.most) := blk_cell hbox 10; have uf10 : w5.frozen? ⟨g, 10, none⟩ = false := blk_frozen hbox 10; have u11 : w5.cell? ⟨g, 11, none⟩ = some (.slice B m.L.length d) := blk_cell hbox 11; have uf11 : w5.frozen? ⟨g, 11, none⟩ = false := blk_frozen hbox 11; clear hbox hb hgn) | ((with_reducible refine gate_dst (N := 2) rfl ?_); refine box_event ?hg (N := 2) ?hd (cs := #[.int .i64 0, .int .u64 0, .int .u64 0, .int .u64 0, .int .u64 0, .int .u64 0, .int .u64 0, .int .i64 0, .int .u64 0, .slice none 0 0, .int .i64 0, .slice none 0 0]) (t := 38) ?hr ?_; (case hd => rfl); (case hg => rfl); (case hr => first | (go_simp; done) | (go_simp; rfl)); intro h hgn w6 hbox hb; have HGh := Aside0.mk hbox; have HBh := Aside0.mk hb; have y0 : w6.cell? ⟨h, 0, none⟩ = some (.int .i64 0) := blk_cell hbox 0; have yf0 : w6.frozen? ⟨h, 0, none⟩ = false := blk_frozen hbox 0; have y1 : w6.cell? ⟨h, 1, none⟩ = some (.int .u64 0) := blk_cell hbox 1; have yf1 : w6.frozen? ⟨h, 1, none⟩ = false := blk_frozen hbox 1; have y2 : w6.cell? ⟨h, 2, none⟩ = some (.int .u64 0) := blk_cell hbox 2; have yf2 : w6.frozen? ⟨h, 2, none⟩ = false := blk_frozen hbox 2; have y3 : w6.cell? ⟨h, 3, none⟩ = some (.int .u64 0) := blk_cell hbox 3; have yf3 : w6.frozen? ⟨h, 3, none⟩ = false := blk_frozen hbox 3; have y4 : w6.cell? ⟨h, 4, none⟩ = some (.int .u64 0) := blk_cell hbox 4; have yf4 : w6.frozen? ⟨h, 4, none⟩ = false := blk_frozen hbox 4; have y5 : w6.cell? ⟨h, 5, none⟩ = some (.int .u64 0) := blk_cell hbox 5; have yf5 : w6.frozen? ⟨h, 5, none⟩ = false := blk_frozen hbox 5; have y6 : w6.cell? ⟨h, 6, none⟩ = some (.int .u64 0) := blk_cell hbox 6; have yf6 : w6.frozen? ⟨h, 6, none⟩ = false := blk_frozen hbox 6; have y7 : w6.cell? ⟨h, 7, none⟩ = some (.int .i64 0) := blk_cell hbox 7; have yf7 : w6.frozen? ⟨h, 7, none⟩ = false := blk_frozen hbox 7; have y8 : w6.cell? ⟨h, 8, none⟩ = some (.int .u64 0) := blk_cell hbox 8; have yf8 : w6.frozen? ⟨h, 8, none⟩ = false := blk_frozen hbox 8; have y9 : w6.cell? ⟨h, 9, none⟩ = some (.slice none 0 0) := blk_cell hbox 9; have yf9 : w6.frozen? ⟨h, 9, none⟩ = false := blk_frozen hbox 9; have y10 : w6.cell? ⟨h, 10, none⟩ = some (.int .i64 0) := blk_cell hbox 10; have yf10 : w6.frozen? ⟨h, 10, none⟩ = false := blk_frozen hbox 10; have y11 : w6.cell? ⟨h, 11, none⟩ = some (.slice none 0 0) := blk_cell hbox 11; have yf11 : w6.frozen? ⟨h, 11, none⟩ = false := blk_frozen hbox 11; have HNH := Aside0.mk hgn; have hk9 := blk_below HGg.out hb; have k0 : w6.cell? ⟨g, 0, none⟩ = some (.int .i64 m.k) := blk_cell hk9 0; have k1 : w6.cell? ⟨g, 1, none⟩ = some (.int .u64 m.s) := blk_cell hk9 1; have k2 : w6.cell? ⟨g, 2, none⟩ = some (.int .u64 m.se) := blk_cell hk9 2; have k3 : w6.cell? ⟨g, 3, none⟩ = some (.int .u64 m.a) := blk_cell hk9 3; have k4 : w6.cell? ⟨g, 4, none⟩ = some (.int .u64 m.i) := blk_cell hk9 4; have k5 : w6.cell? ⟨g, 5, none⟩ = some (.int .u64 m.n) := blk_cell hk9 5; have k6 : w6.cell? ⟨g, 6, none⟩ = some (.int .u64 m.c) := blk_cell hk9 6; have k7 : w6.cell? ⟨g, 7, none⟩ = some (.int .i64 m.why) := blk_cell hk9 7; have k8 : w6.cell? ⟨g, 8, none⟩ = some (.int .u64 m.seed) := blk_cell hk9 8; have k9 : w6.cell? ⟨g, 9, none⟩ = some (.slice A m.P.length c) := blk_cell hk9 9; have k10 : w6.cell? ⟨g, 10, none⟩ = some (.int .i64 m.most) := blk_cell hk9 10; have k11 : w6.cell? ⟨g, 11, none⟩ = some (.slice B m.L.length d) := blk_cell hk9 11; clear hbox hb hgn hk9))
  (try simp only [Exit.inBlock, Exit.then])
  refine bodyPost_ret (results_cell_row rfl _ _ h 38 #[.int .i64 m.k, .int .u64 m.s, .int .u64 m.se, .int .u64 m.a, .int .u64 m.i, .int .u64 m.n, .int .u64 m.c, .int .i64 m.why, .int .u64 m.seed, .slice A m.P.length c, .int .i64 m.most, .slice B m.L.length d] (0, 0) _ rfl (st12_blk HGh.out _ _ _ _ _ _ _ _ _ _ _ _) Try.underlying38 rfl (by kernel_rfl)) rfl ?_
  exact ⟨rfl, st12_bel (below_step HBg.out HBh.out) (by have := HNH.out; have := HBg.out.size; omega) _ _ _ _ _ _ _ _ _ _ _ _⟩
end Go.Proofs.Ytbfmbjkalldonaa.Msg
namespace Go.Proofs.Ytbfmbjkalldonaa.Crc
set_option linter.unusedVariables false
set_option linter.unusedSimpArgs false
open Go.RowKit Go.Proofs.Ytbfmbjkalldonaa.PA Go.Proofs.YtbfmbjkalldonaaW.PrintWords Go.Proofs.YtbfmbjkalldonaaW.PrintLast Go.Proofs.YtbfmbjkalldonaaW.PrintMore Go.Proofs.Ytbfmbjkalldonaa.Base

def sumV (l : List Int) : Int := crcAdd 0 l
def b4 (n : Int) : List Int := [n % 256, (n / 256) % 256, (n / 65536) % 256, (n / 16777216) % 256]
def sealV (l : List Int) : List Int := l ++ b4 (sumV l)
def openV (l : List Int) : List Int × Int :=
  if l.length < 4 then ([], 4) else if l.drop (l.length - 4) = b4 (sumV (l.take (l.length - 4))) then (l.take (l.length - 4), 0) else ([], 8)
theorem xor_bd (a b : Int) : 0 ≤ bits .xor .u32 a b ∧ bits .xor .u32 a b < 4294967296 := by
  have h : bits .xor .u32 a b = IntKind.u32.wrap ((BitVec.ofInt 32 a ^^^ BitVec.ofInt 32 b).toNat : Int) := rfl
  rw [h, IntKind.wrap_u32]; omega
theorem sumV_bd (l : List Int) : 0 ≤ sumV l ∧ sumV l < 4294967296 := xor_bd _ _
theorem b4_len (n : Int) : (b4 n).length = 4 := rfl
theorem seal_len (l : List Int) : (sealV l).length = l.length + 4 := by simp [sealV, b4_len]

theorem rdL_drop {xs : List (List Int)} {i : Nat} {c : List Int} {t : List (List Int)} (h : xs.drop i = c :: t) : rd_L4 xs (i : Int) = c ∧ i < xs.length ∧ xs.drop (i + 1) = t := by
  have hl : i < xs.length := by
    rcases Nat.lt_or_ge i xs.length with h' | h'
    · exact h'
    · rw [List.drop_eq_nil_of_le h'] at h; cases h
  have hd := List.drop_eq_getElem_cons hl
  rw [h] at hd
  injection hd with h1 h2
  refine ⟨?_, hl, h2.symm⟩
  show xs.getD ((i : Int)).toNat [] = c
  rw [Int.toNat_natCast, List.getD_eq_getElem?_getD, List.getElem?_eq_getElem hl, h1]; rfl
theorem sumL_ev (ps : List (List Int)) (hl : ps.length ≤ 1000000) : ∀ (t : List (List Int)) (i : Nat) (s : Int), i ≤ ps.length → ps.drop i = t → Ev (fun k => crc_Sum.l0 k ps (ps.length : Int) (i : Int) s) (t.foldl crcAdd s)
  | [], i, s, hi, h => by
    have he : i = ps.length := by
      have := congrArg List.length h
      rw [List.length_drop] at this
      simp at this; omega
    refine Ev.step (f := fun _ => some s) (fun q => ?_) (Ev.now _)
    rw [crc_Sum.l0, if_neg (by omega)]; rfl
  | c :: t, i, s, hi, h => by
    obtain ⟨h1, h2, h3⟩ := rdL_drop h
    refine Ev.step (f := fun q => crc_Sum.l0 q ps (ps.length : Int) ((i + 1 : Nat) : Int) (crcAdd s c)) (fun q => ?_) (sumL_ev ps hl t (i + 1) (crcAdd s c) (by omega) h3)
    rw [crc_Sum.l0, if_pos (by omega), if_pos (by omega), if_pos (by omega), h1, w64 (by omega) (by omega)]
    rfl
theorem sum_ev (ps : List (List Int)) (hl : ps.length ≤ 1000000) : Ev (fun k => crc_Sum.f k ps) (ps.foldl crcAdd 0) :=
  Ev.congr (g := fun k => crc_Sum.f k ps) (f := fun k => crc_Sum.l0 k ps (ps.length : Int) ((0 : Nat) : Int) 0) (fun k => rfl) (sumL_ev ps hl ps 0 0 (Nat.zero_le _) rfl)
theorem sum1_ev (l : List Int) : Ev (fun k => crc_Sum.f k [l]) (sumV l) := sum_ev [l] (by simp)
def dig (n : Int) (i : Nat) : Int := (n / 2 ^ (8 * i)) % 256
theorem openStep (x0 : List Int) (x4 n : Int) (y : List Int) (hy : y.length = 4) (i : Nat) (hi : i < 4) (q : Nat) :
    crc_Open.l0 (q + 1) x0 x4 n y 4 (i : Int) = if dig n i = y.getD i 0 then crc_Open.l0 q x0 x4 n y 4 ((i + 1 : Nat) : Int) else some ([], 8) := by
  have e : (shr .u32 n (wrap64 (8 * (i : Int)))) % 256 = dig n i := by
    rw [w64 (by omega) (by omega)]
    unfold shr dig
    rw [show min (8 * (i : Int)).toNat IntKind.u32.bits = 8 * i from by
      have : IntKind.u32.bits = 32 := rfl
      omega]
  rw [crc_Open.l0, if_pos (by omega), if_pos (by omega), if_pos (by omega), if_pos (by rw [w64 (by omega) (by omega)]; omega), e, w64 (x := (i : Int) + 1) (by omega) (by omega)]
  rfl
theorem openEnd (x0 : List Int) (x4 n : Int) (y : List Int) (h0 : 0 ≤ x4) (h1 : x4 ≤ (x0.length : Int)) (hl : x0.length ≤ 100000) (q : Nat) :
    crc_Open.l0 (q + 1) x0 x4 n y 4 4 = some (x0.take x4.toNat, 0) := by
  rw [crc_Open.l0, if_neg (by omega), if_pos h0, if_pos h1, bytes_Clone.f, if_pos (by rw [List.length_take]; omega)]
  rfl
theorem list4 {y : List Int} (hy : y.length = 4) (n : Int) : y = b4 n ↔ dig n 0 = y.getD 0 0 ∧ dig n 1 = y.getD 1 0 ∧ dig n 2 = y.getD 2 0 ∧ dig n 3 = y.getD 3 0 := by
  obtain ⟨a, y, rfl⟩ := List.exists_cons_of_length_eq_add_one hy
  obtain ⟨b, y, rfl⟩ := List.exists_cons_of_length_eq_add_one (show y.length = 2 + 1 by simpa using hy)
  obtain ⟨c, y, rfl⟩ := List.exists_cons_of_length_eq_add_one (show y.length = 1 + 1 by simpa using hy)
  obtain ⟨d, y, rfl⟩ := List.exists_cons_of_length_eq_add_one (show y.length = 0 + 1 by simpa using hy)
  have : y = [] := List.length_eq_zero_iff.mp (by simpa using hy)
  subst this
  have d0 : dig n 0 = n % 256 := by simp [dig]
  have d1 : dig n 1 = n / 256 % 256 := rfl
  have d2 : dig n 2 = n / 65536 % 256 := rfl
  have d3 : dig n 3 = n / 16777216 % 256 := rfl
  rw [d0, d1, d2, d3]
  simp only [b4, List.cons.injEq, and_true, List.getD_cons_zero, List.getD_cons_succ]
  constructor
  · rintro ⟨rfl, rfl, rfl, rfl⟩; exact ⟨rfl, rfl, rfl, rfl⟩
  · rintro ⟨h0, h1, h2, h3⟩; exact ⟨h0.symm, h1.symm, h2.symm, h3.symm⟩
theorem openL_ev (x0 : List Int) (x4 n : Int) (y : List Int) (hy : y.length = 4) (h0 : 0 ≤ x4) (h1 : x4 ≤ (x0.length : Int)) (hl : x0.length ≤ 100000) :
    Ev (fun k => crc_Open.l0 k x0 x4 n y 4 0) (if y = b4 n then (x0.take x4.toNat, 0) else ([], 8)) := by
  have hs := openStep x0 x4 n y hy
  by_cases e0 : dig n 0 = y.getD 0 0
  rotate_left
  · rw [if_neg (fun h => e0 ((list4 hy n).mp h).1)]
    exact Ev.step (f := fun _ => some ([], 8)) (fun q => (hs 0 (by decide) q).trans (if_neg e0)) (Ev.now _)
  refine Ev.step (fun q => (hs 0 (by decide) q).trans (if_pos e0)) ?_
  by_cases e1 : dig n 1 = y.getD 1 0
  rotate_left
  · rw [if_neg (fun h => e1 ((list4 hy n).mp h).2.1)]
    exact Ev.step (f := fun _ => some ([], 8)) (fun q => (hs 1 (by decide) q).trans (if_neg e1)) (Ev.now _)
  refine Ev.step (fun q => (hs 1 (by decide) q).trans (if_pos e1)) ?_
  by_cases e2 : dig n 2 = y.getD 2 0
  rotate_left
  · rw [if_neg (fun h => e2 ((list4 hy n).mp h).2.2.1)]
    exact Ev.step (f := fun _ => some ([], 8)) (fun q => (hs 2 (by decide) q).trans (if_neg e2)) (Ev.now _)
  refine Ev.step (fun q => (hs 2 (by decide) q).trans (if_pos e2)) ?_
  by_cases e3 : dig n 3 = y.getD 3 0
  rotate_left
  · rw [if_neg (fun h => e3 ((list4 hy n).mp h).2.2.2)]
    exact Ev.step (f := fun _ => some ([], 8)) (fun q => (hs 3 (by decide) q).trans (if_neg e3)) (Ev.now _)
  refine Ev.step (fun q => (hs 3 (by decide) q).trans (if_pos e3)) ?_
  rw [if_pos ((list4 hy n).mpr ⟨e0, e1, e2, e3⟩)]
  exact Ev.step (f := fun _ => some (x0.take x4.toNat, 0)) (fun q => openEnd x0 x4 n y h0 h1 hl q) (Ev.now _)
theorem open_ev (l : List Int) (hl : l.length ≤ 100000) : Ev (fun k => crc_Open.f k l) (openV l) := by
  unfold crc_Open.f openV
  rw [w64 (x := (l.length : Int) - 4) (by omega) (by omega)]
  by_cases h4 : l.length < 4
  · rw [if_pos h4]; exact ev_ifT (by omega) (Ev.now _)
  rw [if_neg h4]
  refine ev_ifF (by omega) (ev_ifT (by omega) (ev_ifT (by omega) ?_))
  rw [show ((l.length : Int) - 4).toNat = l.length - 4 from by omega]
  refine Ev.bind (sum1_ev _) ?_
  have hy : (l.drop (l.length - 4)).length = 4 := by rw [List.length_drop]; omega
  have := openL_ev l ((l.length : Int) - 4) (sumV (l.take (l.length - 4))) (l.drop (l.length - 4)) hy (by omega) (by omega) hl
  rw [show ((l.length : Int) - 4).toNat = l.length - 4 from by omega] at this
  refine Ev.congr (fun k => ?_) this
  show crc_Open.l0 k l _ _ _ (((l.drop (l.length - 4)).length : Nat) : Int) 0 = _
  rw [hy]; rfl
theorem open_seal (l : List Int) : openV (sealV l) = (l, 0) := by
  have h1 : (sealV l).length - 4 = l.length := by rw [seal_len]; omega
  have h2 : (sealV l).take l.length = l := List.take_left' rfl
  have h3 : (sealV l).drop l.length = b4 (sumV l) := List.drop_left' rfl
  unfold openV
  rw [if_neg (by rw [seal_len]; omega), h1, h2, h3, if_pos rfl]
end Go.Proofs.Ytbfmbjkalldonaa.Crc
namespace Go.Proofs.Ytbfmbjkalldonaa.Crc
set_option linter.unusedVariables false
set_option linter.unusedSimpArgs false
open Go.RowKit Go.Proofs.Ytbfmbjkalldonaa.PA Go.Proofs.YtbfmbjkalldonaaW.PrintWords Go.Proofs.YtbfmbjkalldonaaW.PrintLast Go.Proofs.YtbfmbjkalldonaaW.PrintMore Go.Proofs.Ytbfmbjkalldonaa.Base

abbrev B32 := BitVec 32
def I (a : B32) : Int := (a.toNat : Int)
theorem I_bd (a : B32) : 0 ≤ I a ∧ I a < 4294967296 := by
  have := a.isLt
  unfold I; omega
theorem ofI (a : B32) : BitVec.ofInt 32 (I a) = a := by
  apply BitVec.eq_of_toNat_eq
  have := a.isLt
  rw [BitVec.toNat_ofInt]
  unfold I; omega
theorem I_of {n : Int} (h0 : 0 ≤ n) (h1 : n < 4294967296) : ∃ a : B32, n = I a := by
  refine ⟨BitVec.ofNat 32 n.toNat, ?_⟩
  unfold I
  rw [BitVec.toNat_ofNat]; omega
theorem wrapI (a : B32) : IntKind.u32.wrap (a.toNat : Int) = I a := by
  have := a.isLt
  rw [IntKind.wrap_u32]; unfold I; omega
theorem xorI (a b : B32) : bits .xor .u32 (I a) (I b) = I (a ^^^ b) := by
  have h : bits .xor .u32 (I a) (I b) = IntKind.u32.wrap ((BitVec.ofInt 32 (I a) ^^^ BitVec.ofInt 32 (I b)).toNat : Int) := rfl
  rw [h, ofI, ofI, wrapI]
theorem andI (a b : B32) : bits .and .u32 (I a) (I b) = I (a &&& b) := by
  have h : bits .and .u32 (I a) (I b) = IntKind.u32.wrap ((BitVec.ofInt 32 (I a) &&& BitVec.ofInt 32 (I b)).toNat : Int) := rfl
  rw [h, ofI, ofI, wrapI]
theorem shrI (a : B32) (j : Nat) : I a / 2 ^ j = I (a >>> j) := by
  unfold I
  rw [BitVec.toNat_ushiftRight, Nat.shiftRight_eq_div_pow]
  simp
theorem I_inj {a b : B32} (h : I a = I b) : a = b := by
  apply BitVec.eq_of_toNat_eq
  unfold I at h; omega

/-! ### single steps -/
def P : B32 := 0xEDB88320#32
def T (a : B32) : B32 := (a >>> 1) ^^^ (if a.getLsbD 0 then P else 0#32)
def B (a b : B32) : B32 := (a >>> 1) ^^^ (if (a ^^^ b).getLsbD 0 then P else 0#32)
theorem sel_xor (x y : Bool) : (if (x ^^ y) = true then P else 0#32) = (if x = true then P else 0#32) ^^^ (if y = true then P else 0#32) := by
  cases x <;> cases y <;> decide
theorem T_xor (a b : B32) : T (a ^^^ b) = T a ^^^ T b := by
  unfold T
  rw [BitVec.ushiftRight_xor_distrib, BitVec.getLsbD_xor, sel_xor]
  ac_rfl
theorem B_xor (a c b : B32) : B (a ^^^ c) b = T a ^^^ B c b := by
  unfold T B
  rw [BitVec.xor_assoc a c b, BitVec.ushiftRight_xor_distrib, BitVec.getLsbD_xor (x := a), sel_xor]
  ac_rfl
def T4 (a : B32) : B32 := T (T (T (T a)))
theorem T4_xor (a b : B32) : T4 (a ^^^ b) = T4 a ^^^ T4 b := by unfold T4; rw [T_xor, T_xor, T_xor, T_xor]
def tabB (i : B32) : B32 := BitVec.ofInt 32 (rd nibs (I i))
def nibB (a : B32) : B32 := (a >>> 4) ^^^ tabB (a &&& 15#32)
theorem split4 (x : B32) : x = ((x >>> 4) <<< 4) ^^^ (x &&& 15#32) := by
  have d : ∀ i < 32, (15#32).getLsbD i = decide (i < 4) := by decide
  apply BitVec.eq_of_getLsbD_eq
  intro i hi
  rw [BitVec.getLsbD_xor, BitVec.getLsbD_shiftLeft, BitVec.getLsbD_and, d i hi]
  by_cases h : i < 4
  · simp [h]
  · have : 4 + (i - 4) = i := by omega
    simp [h, hi, BitVec.getLsbD_ushiftRight, this]
theorem T_even {y : B32} (h : y.getLsbD 0 = false) : T y = y >>> 1 := by unfold T; rw [h]; simp
theorem hi4 (x : B32) : T4 ((x >>> 4) <<< 4) = x >>> 4 := by
  have b : ∀ i < 4, ((x >>> 4) <<< 4).getLsbD i = false := fun i hi => by rw [BitVec.getLsbD_shiftLeft]; simp [hi]
  have e1 : T ((x >>> 4) <<< 4) = ((x >>> 4) <<< 4) >>> 1 := T_even (b 0 (by decide))
  have e2 : T (((x >>> 4) <<< 4) >>> 1) = (((x >>> 4) <<< 4) >>> 1) >>> 1 := T_even (by rw [BitVec.getLsbD_ushiftRight]; exact b _ (by decide))
  have e3 : T ((((x >>> 4) <<< 4) >>> 1) >>> 1) = ((((x >>> 4) <<< 4) >>> 1) >>> 1) >>> 1 := T_even (by rw [BitVec.getLsbD_ushiftRight, BitVec.getLsbD_ushiftRight]; exact b _ (by decide))
  have e4 : T (((((x >>> 4) <<< 4) >>> 1) >>> 1) >>> 1) = (((((x >>> 4) <<< 4) >>> 1) >>> 1) >>> 1) >>> 1 := T_even (by rw [BitVec.getLsbD_ushiftRight, BitVec.getLsbD_ushiftRight, BitVec.getLsbD_ushiftRight]; exact b _ (by decide))
  unfold T4
  rw [e1, e2, e3, e4]
  apply BitVec.eq_of_getLsbD_eq
  intro i hi
  simp only [BitVec.getLsbD_ushiftRight, BitVec.getLsbD_shiftLeft]
  by_cases h : 4 + i < 32
  · have h' : 1 + (1 + (1 + (1 + i))) < 32 := by omega
    have h2 : ¬ (1 + (1 + (1 + (1 + i))) < 4) := by omega
    have h3 : 4 + (1 + (1 + (1 + (1 + i))) - 4) = 4 + i := by omega
    simp [h', h2, h3]
  · have h' : ¬ (1 + (1 + (1 + (1 + i))) < 32) := by omega
    simp only [h', decide_false, Bool.false_and]
    exact (BitVec.getLsbD_of_ge x _ (by omega)).symm
theorem lo16 : ∀ m : Fin 16, T4 (BitVec.ofNat 32 m.val) = tabB (BitVec.ofNat 32 m.val) := by decide +kernel
theorem nib_T4 (x : B32) : nibB x = T4 x := by
  have hlt : (x &&& 15#32).toNat < 16 := by
    rw [BitVec.toNat_and]
    exact Nat.lt_of_le_of_lt Nat.and_le_right (by decide)
  have hlo : BitVec.ofNat 32 (x &&& 15#32).toNat = x &&& 15#32 := by simp
  have h := lo16 ⟨(x &&& 15#32).toNat, hlt⟩
  simp only [hlo] at h
  conv => rhs; rw [split4 x, T4_xor, hi4, h]
  rfl
theorem nibI (a : B32) : nib (I a) = I (nibB a) := by
  unfold nib nibB
  have e : (15 : Int) = I 15#32 := rfl
  have e16 : I a / (16 : Int) = I (a >>> 4) := shrI a 4
  rw [e16, e, andI]
  have hlt : (a &&& 15#32).toNat < 16 := by
    rw [BitVec.toNat_and]
    exact Nat.lt_of_le_of_lt Nat.and_le_right (by decide)
  have ht : rd nibs (I (a &&& 15#32)) = I (tabB (a &&& 15#32)) := by
    have : ∀ m : Fin 16, rd nibs (m.val : Int) = I (BitVec.ofInt 32 (rd nibs (m.val : Int))) := by decide +kernel
    exact this ⟨_, hlt⟩
  rw [ht, xorI]
/-! ### a byte -/
def T8 (a : B32) : B32 := T4 (T4 a)
theorem T8_xor (a b : B32) : T8 (a ^^^ b) = T8 a ^^^ T8 b := by unfold T8; rw [T4_xor, T4_xor]
def B8 (a c : B32) : B32 := B (B (B (B (B (B (B (B a (c >>> 0)) (c >>> 1)) (c >>> 2)) (c >>> 3)) (c >>> 4)) (c >>> 5)) (c >>> 6)) (c >>> 7)
theorem B8_lin (a c : B32) : B8 a c = T8 a ^^^ B8 0#32 c := by
  unfold B8
  conv => lhs; rw [show a = a ^^^ 0#32 by simp]
  rw [B_xor, B_xor, B_xor, B_xor, B_xor, B_xor, B_xor, B_xor]
  rfl
theorem byte256 : ∀ m : Fin 256, B8 0#32 (BitVec.ofNat 32 m.val) = T8 (BitVec.ofNat 32 m.val) := by decide +kernel
theorem byte_step (a : B32) (m : Nat) (hm : m < 256) : B8 a (BitVec.ofNat 32 m) = T8 (a ^^^ BitVec.ofNat 32 m) := by
  rw [B8_lin, byte256 ⟨m, hm⟩, T8_xor]
theorem crcStepI (a : B32) (m : Nat) (hm : m < 256) : crcStep (I a) (m : Int) = I (T8 (a ^^^ BitVec.ofNat 32 m)) := by
  have hc : ((m : Int)) % 4294967296 = I (BitVec.ofNat 32 m) := by
    unfold I; rw [BitVec.toNat_ofNat]; omega
  unfold crcStep
  rw [hc, xorI, nibI, nibI, nib_T4, nib_T4]
  rfl
def refStep (n c j : Int) : Int := if bits .and .u32 (bits .xor .u32 n ((shr .u8 c j) % 4294967296)) 1 = 1 then bits .xor .u32 (n / 2) 3988292384 else n / 2
theorem lsb_and (x : B32) : (bits .and .u32 (I x) 1 = 1) ↔ x.getLsbD 0 = true := by
  rw [show (1 : Int) = I 1#32 from rfl, andI]
  constructor
  · intro h
    have := I_inj h
    have h2 := congrArg (fun z : B32 => z.getLsbD 0) this
    simpa using h2
  · intro h
    refine congrArg I ?_
    apply BitVec.eq_of_getLsbD_eq
    intro i hi
    rw [BitVec.getLsbD_and]
    rcases Nat.eq_zero_or_pos i with h0 | h0
    · subst h0; simpa using h
    · have d : ∀ i < 32, 0 < i → (1#32).getLsbD i = false := by decide
      rw [d i hi h0, Bool.and_false]
theorem refStepI (a : B32) (m j : Nat) (hm : m < 256) (hj : j < 8) : refStep (I a) (m : Int) (j : Int) = I (B a (BitVec.ofNat 32 m >>> j)) := by
  have hs : (shr .u8 (m : Int) (j : Int)) % 4294967296 = I (BitVec.ofNat 32 m >>> j) := by
    unfold shr
    rw [show min (j : Int).toNat IntKind.u8.bits = j from by
      have : IntKind.u8.bits = 8 := rfl
      omega, ← shrI]
    have hc : I (BitVec.ofNat 32 m) = (m : Int) := by unfold I; rw [BitVec.toNat_ofNat]; omega
    rw [hc]
    have h1 : (0 : Int) ≤ (m : Int) / 2 ^ j := Int.ediv_nonneg (by omega) (Int.le_of_lt (Int.pow_pos (by decide)))
    have h2 : (m : Int) / 2 ^ j ≤ m := Int.ediv_le_self _ (by omega)
    exact Int.emod_eq_of_lt h1 (by omega)
  unfold refStep B
  have e2 : I a / (2 : Int) = I (a >>> 1) := shrI a 1
  rw [hs, xorI, e2, show (3988292384 : Int) = I P from rfl, xorI]
  by_cases h : (a ^^^ BitVec.ofNat 32 m >>> j).getLsbD 0 = true
  · rw [if_pos ((lsb_and _).mpr h), if_pos h]
  · rw [if_neg (fun c => h ((lsb_and _).mp c)), if_neg h]; simp
end Go.Proofs.Ytbfmbjkalldonaa.Crc
namespace Go.Proofs.Ytbfmbjkalldonaa.Crc
set_option linter.unusedVariables false
set_option linter.unusedSimpArgs false
open Go.RowKit Go.Proofs.Ytbfmbjkalldonaa.PA Go.Proofs.YtbfmbjkalldonaaW.PrintWords Go.Proofs.YtbfmbjkalldonaaW.PrintLast Go.Proofs.YtbfmbjkalldonaaW.PrintMore Go.Proofs.Ytbfmbjkalldonaa.Base

def Bytes (l : List Int) : Prop := ∀ x ∈ l, 0 ≤ x ∧ x ≤ 255
theorem bytes_of_wf {l : List Int} (h : ∀ x ∈ l, (Lit.int .u8 x).wf = true) : Bytes l := fun x hx => wf_u8 (h x hx)
theorem Bytes.take {l : List Int} (h : Bytes l) (n : Nat) : Bytes (l.take n) := fun x hx => h x (List.mem_of_mem_take hx)
theorem Bytes.drop {l : List Int} (h : Bytes l) (n : Nat) : Bytes (l.drop n) := fun x hx => h x (List.mem_of_mem_drop hx)
theorem Bytes.append {a b : List Int} (ha : Bytes a) (hb : Bytes b) : Bytes (a ++ b) := fun x hx => (List.mem_append.mp hx).elim (ha x) (hb x)
theorem b4_bytes (n : Int) : Bytes (b4 n) := by
  intro x hx
  simp only [b4, List.mem_cons, List.not_mem_nil, or_false] at hx
  rcases hx with rfl | rfl | rfl | rfl <;> omega
theorem seal_bytes {l : List Int} (h : Bytes l) : Bytes (sealV l) := h.append (b4_bytes _)
def stepB (a : B32) (c : Int) : B32 := T8 (a ^^^ BitVec.ofNat 32 c.toNat)
def reg (l : List Int) (a : B32) : B32 := l.foldl stepB a
def ones : B32 := 0xFFFFFFFF#32
theorem fold_reg : ∀ (l : List Int) (a : B32), Bytes l → l.foldl crcStep (I a) = I (reg l a)
  | [], a, h => rfl
  | c :: t, a, h => by
    have hc := h c (by simp)
    have e : crcStep (I a) c = I (stepB a c) := by
      have := crcStepI a c.toNat (by omega)
      rw [show ((c.toNat : Nat) : Int) = c by omega] at this
      exact this
    rw [List.foldl_cons, e, fold_reg t _ (fun x hx => h x (by simp [hx]))]
    rfl
theorem add_reg (l : List Int) (h : Bytes l) (a : B32) : crcAdd (I a) l = I (ones ^^^ reg l (ones ^^^ a)) := by
  unfold crcAdd
  rw [show IntKind.u32.max = I ones from rfl, xorI, fold_reg l _ h, xorI]
theorem sum_reg (l : List Int) (h : Bytes l) : sumV l = I (ones ^^^ reg l ones) := by
  have := add_reg l h 0#32
  rw [BitVec.xor_zero] at this
  exact this

theorem l1_step (x0 : List Int) (n i j : Int) (hi : 0 ≤ i) (hl : i < (x0.length : Int)) (hj : 0 ≤ j) (hj8 : j < 8) (q : Nat) :
    garboardref03_Sum.l1 (q + 1) x0 n i j = garboardref03_Sum.l1 q x0 (refStep n (rd x0 i) j) i (j + 1) := by
  rw [garboardref03_Sum.l1, if_pos hj8, if_pos hi, if_pos hl, if_pos hj, w64 (x := j + 1) (by omega) (by omega)]
  unfold refStep
  split <;> rfl
theorem l1_byte {x0 : List Int} {a : B32} {i c : Int} {r : Int} (hi : 0 ≤ i) (hl : i < (x0.length : Int)) (hc : rd x0 i = c) (h0 : 0 ≤ c) (h1 : c ≤ 255)
    (h : Ev (fun k => garboardref03_Sum.l0 k x0 (I (stepB a c)) (wrap64 (i + 1))) r) : Ev (fun k => garboardref03_Sum.l1 k x0 (I a) i 0) r := by
  obtain ⟨m, rfl⟩ := Int.eq_ofNat_of_zero_le h0
  have hm : m < 256 := by omega
  have st : ∀ (a : B32) (j : Nat) (q : Nat), j < 8 → garboardref03_Sum.l1 (q + 1) x0 (I a) i (j : Int) = garboardref03_Sum.l1 q x0 (I (B a (BitVec.ofNat 32 m >>> j))) i ((j + 1 : Nat) : Int) := fun a j q hj => by
    rw [l1_step x0 (I a) i j hi hl (by omega) (by omega) q, hc, refStepI a m j hm hj]
    rfl
  refine Ev.step (fun q => st a 0 q (by decide)) (Ev.step (fun q => st _ 1 q (by decide)) (Ev.step (fun q => st _ 2 q (by decide)) (Ev.step (fun q => st _ 3 q (by decide)) (Ev.step (fun q => st _ 4 q (by decide)) (Ev.step (fun q => st _ 5 q (by decide)) (Ev.step (fun q => st _ 6 q (by decide)) (Ev.step (fun q => st _ 7 q (by decide)) ?_)))))))
  have e : B8 a (BitVec.ofNat 32 m) = stepB a (m : Int) := by
    rw [byte_step a m hm]; rfl
  refine Ev.step (f := fun k => garboardref03_Sum.l0 k x0 (I (B8 a (BitVec.ofNat 32 m))) (wrap64 (i + 1))) (fun q => ?_) (e ▸ h)
  rw [garboardref03_Sum.l1, if_neg (by decide)]
  rfl
theorem rsum_loop (x0 : List Int) (hl : x0.length ≤ 9223372036854775) (hb : Bytes x0) : ∀ (t : List Int) (i : Nat) (a : B32), i ≤ x0.length → x0.drop i = t → Ev (fun k => garboardref03_Sum.l0 k x0 (I a) (i : Int)) (I (reg t a ^^^ ones))
  | [], i, a, hi, h => by
    have he := drop_end hi h
    refine Ev.step (f := fun _ => some (I (a ^^^ ones))) (fun q => ?_) (Ev.now _)
    rw [garboardref03_Sum.l0, if_neg (by omega), show (4294967295 : Int) = I ones from rfl, xorI]
  | c :: t, i, a, hi, h => by
    obtain ⟨h1, h2, h3⟩ := rd_drop h
    have hc := hb c (List.mem_of_mem_drop (by rw [h]; simp))
    refine Ev.step (f := fun k => garboardref03_Sum.l1 k x0 (I a) (i : Int) 0) (fun q => by rw [garboardref03_Sum.l0, if_pos (by omega)]) ?_
    refine l1_byte (by omega) (by omega) h1 hc.1 hc.2 ?_
    rw [w64 (by omega) (by omega)]
    exact rsum_loop x0 hl hb t (i + 1) (stepB a c) (by omega) h3
theorem rsum_ev (l : List Int) (hl : l.length ≤ 9223372036854775) (hb : Bytes l) : Ev (fun k => garboardref03_Sum.f k l) (sumV l) := by
  have := rsum_loop l hl hb l 0 ones (Nat.zero_le _) rfl
  rw [sum_reg l hb, BitVec.xor_comm]
  exact this
theorem rseal_ev (l : List Int) (hl : l.length ≤ 100000) (hb : Bytes l) : Ev (fun k => garboardref03_Seal.f k l) (sealV l) := by
  unfold garboardref03_Seal.f
  refine Ev.bind (rsum_ev l (by omega) hb) ?_
  refine Ev.congr (f := fun _ => some (sealV l)) (fun k => ?_) (Ev.now _)
  rw [if_pos (by simp only [List.length_nil]; omega), Option.bind_some, Option.bind_some, if_pos (by simp only [List.length_cons, List.length_nil, List.nil_append]; omega)]
  rfl
theorem str_inj : ∀ {a b : List Int}, Bytes a → Bytes b → (strOfNums a).toList = (strOfNums b).toList → a = b := by
  have key : ∀ (a b : List Int), Bytes a → Bytes b → (a.map fun n => UInt8.ofNat n.toNat) = (b.map fun n => UInt8.ofNat n.toNat) → a = b := by
    intro a
    induction a with
    | nil => intro b _ _ h; cases b with | nil => rfl | cons y b => simp at h
    | cons x a ih =>
      intro b ha hb h
      cases b with
      | nil => simp at h
      | cons y b =>
        simp only [List.map_cons, List.cons.injEq] at h
        have hx := ha x (by simp)
        have hy := hb y (by simp)
        have e := congrArg UInt8.toNat h.1
        simp only [UInt8.toNat_ofNat'] at e
        rw [ih b (fun z hz => ha z (by simp [hz])) (fun z hz => hb z (by simp [hz])) h.2, show x = y by omega]
  intro a b ha hb h
  refine key a b ha hb ?_
  rw [Lib.strOfNums_toList, Lib.strOfNums_toList] at h
  exact h
theorem ropen_ev (l : List Int) (hl : l.length ≤ 100000) (hb : Bytes l) : Ev (fun k => garboardref03_Open.f k l) (openV l) := by
  unfold garboardref03_Open.f openV
  rw [w64 (x := (l.length : Int) - 4) (by omega) (by omega)]
  by_cases h4 : l.length < 4
  · rw [if_pos h4]; exact ev_ifT (by omega) (Ev.now _)
  rw [if_neg h4]
  refine ev_ifF (by omega) (ev_ifT (by omega) (ev_ifT (by omega) ?_))
  rw [show ((l.length : Int) - 4).toNat = l.length - 4 from by omega]
  refine Ev.bind (rseal_ev _ (by rw [List.length_take]; omega) (hb.take _)) ?_
  by_cases h : l.drop (l.length - 4) = b4 (sumV (l.take (l.length - 4)))
  · rw [if_pos h]
    have e : sealV (l.take (l.length - 4)) = l := by unfold sealV; rw [← h, List.take_append_drop]
    refine ev_ifT (by rw [e]) (ev_ifT (by simp only [List.length_nil, List.length_take]; omega) ?_)
    rw [List.nil_append]; exact Ev.now _
  · rw [if_neg h]
    refine ev_ifF (fun c => h ?_) (Ev.now _)
    have e := str_inj (seal_bytes (hb.take _)) hb c
    have e2 := congrArg (List.drop (l.length - 4)) e
    rw [← e2]
    unfold sealV
    rw [List.drop_left' (by rw [List.length_take]; omega)]
end Go.Proofs.Ytbfmbjkalldonaa.Crc
namespace Go.Proofs.Ytbfmbjkalldonaa.Frm
set_option linter.unusedVariables false
set_option linter.unusedSimpArgs false
open Go.RowKit Go.Proofs.Ytbfmbjkalldonaa.PA Go.Proofs.YtbfmbjkalldonaaW.PrintWords Go.Proofs.YtbfmbjkalldonaaW.PrintLast Go.Proofs.YtbfmbjkalldonaaW.PrintMore Go.Proofs.Ytbfmbjkalldonaa.Base Go.Proofs.Ytbfmbjkalldonaa.Var

theorem Bytes.append {a b : List Int} (ha : Bytes a) (hb : Bytes b) : Bytes (a ++ b) := fun x hx => (List.mem_append.mp hx).elim (ha x) (hb x)
theorem Bytes.take {l : List Int} (h : Bytes l) (n : Nat) : Bytes (l.take n) := fun x hx => h x (List.mem_of_mem_take hx)
theorem mark_all : frame_mark.f = some [71, 98] := rfl

/-! ### what is laid -/
def bodyV (l : List Int) : List Int := [71, 98, 1] ++ vb l.length ++ l
def layV (l : List Int) : List Int := Crc.sealV (bodyV l)
theorem wfLen {l : List Int} (h : l.length ≤ 1000000) : (Lit.int .u64 (l.length : Int)).wf = true := by
  simp [Lit.wf, IntKind.min, IntKind.max, IntKind.bits, IntKind.signed]; omega
theorem vb2 {n : Nat} (h : n ≤ 2048) : (vb n).length ≤ 2 := vb_len 1 n (by
  have e : 128 ^ (1 + 1) = 16384 := by decide
  omega)
theorem body_len (l : List Int) : (bodyV l).length = 3 + (vb l.length).length + l.length := by simp [bodyV]; omega
theorem lay_len (l : List Int) : (layV l).length = 7 + (vb l.length).length + l.length := by unfold layV; rw [Crc.seal_len, body_len]; omega
theorem body_bytes {l : List Int} (h : Bytes l) : Bytes (bodyV l) := by
  refine Bytes.append (Bytes.append ?_ (vb_bytes _)) h
  intro x hx
  simp only [List.mem_cons, List.not_mem_nil, or_false] at hx; omega
theorem lay_bytes {l : List Int} (h : Bytes l) : Bytes (layV l) := Crc.seal_bytes (body_bytes h)
/-! ### the head -/
def endV (l : List Int) : Int × Int × Int :=
  if l.length ≤ 2 then (0, 0, 4) else if rd l 2 = 1 then
    (if (gt 0 0 (l.drop 3)).2.2 = 0 then (if (gt 0 0 (l.drop 3)).1 > 2048 then (0, 0, 5) else ((gt 0 0 (l.drop 3)).1, 3 + (gt 0 0 (l.drop 3)).2.1, 0)) else (0, 0, (gt 0 0 (l.drop 3)).2.2))
  else (0, 0, 11)
def headV : List Int → Int × Int × Int
  | [] => (0, 0, 4)
  | [a] => if a = 71 then (0, 0, 4) else (0, 0, 3)
  | a :: b :: t => if a = 71 then (if b = 98 then endV (a :: b :: t) else (0, 0, 3)) else (0, 0, 3)
theorem head_end (l : List Int) (hl : l.length ≤ 100000) (hb : Bytes l) (x19 : List Int) (x20 x21 : Int) (h : ¬ x21 < x20) : Ev (fun k => frame_head.l0 k l [71, 98] x19 x20 x21) (endV l) := by
  have e2 : ((([71, 98] : List Int).length : Nat) : Int) = 2 := rfl
  have e3 : wrap64 ((2 : Int) + 1) = 3 := w64 (by decide) (by decide)
  unfold endV
  by_cases h2 : l.length ≤ 2
  · rw [if_pos h2]
    exact Ev.step (f := fun _ => some (0, 0, 4)) (fun q => by rw [frame_head.l0, if_neg h, e2, if_pos (by omega)]) (Ev.now _)
  rw [if_neg h2]
  by_cases h3 : rd l 2 = 1
  · rw [if_pos h3]
    refine Ev.step (f := fun k => (varint_Get.f k (l.drop 3)).bind fun bt161 => if bt161.2.2 = 0 then (if bt161.1 > 2048 then some (0, 0, 5) else some (wrap64 bt161.1, wrap64 (3 + bt161.2.1), 0)) else some (0, 0, bt161.2.2)) (fun q => ?_) ?_
    · rw [frame_head.l0, if_neg h, e2, if_neg (by omega), if_pos (by omega), if_pos (by omega), if_pos h3, e3, if_pos (by omega), if_pos (by omega)]
      rfl
    · refine Ev.bind (get_ev (l.drop 3) (by rw [List.length_drop]; omega) (hb.drop 3)) ?_
      rcases hg : gt 0 0 (l.drop 3) with ⟨n, k, e⟩
      dsimp only
      by_cases he : e = 0
      · subst he
        obtain ⟨g1, g2, g3, g4, g5, g6, g7⟩ := vb_gt0 (hb.drop 3) hg
        rw [List.length_drop] at g7
        refine ev_eq (r := if n > 2048 then (0, 0, 5) else (n, 3 + k, 0)) (ev_ifT rfl ?_) (if_pos rfl).symm
        by_cases h5 : n > 2048
        · exact ev_eq (ev_ifT h5 (Ev.now _)) (if_pos h5).symm
        · refine ev_eq (ev_ifF h5 (ev_some (r := (n, 3 + k, 0)) ?_)) (if_neg h5).symm
          rw [w64 (x := n) (by omega) (by omega), w64 (by omega) (by omega)]
      · exact ev_eq (ev_ifF he (Ev.now _)) (if_neg he).symm
  · rw [if_neg h3]
    exact Ev.step (f := fun _ => some (0, 0, 11)) (fun q => by rw [frame_head.l0, if_neg h, e2, if_neg (by omega), if_pos (by omega), if_pos (by omega), if_neg h3]) (Ev.now _)
theorem head_ev (l : List Int) (hl : l.length ≤ 100000) (hb : Bytes l) : Ev (fun k => frame_head.f k l) (headV l) := by
  unfold frame_head.f
  rw [mark_all]
  simp only [Option.bind_some]
  match l, hl, hb with
  | [], hl, hb =>
    refine ev_ifT (by decide) (ev_ifT (by decide) ?_)
    exact head_end [] hl hb _ _ _ (by decide)
  | [a], hl, hb =>
    have em : mn (([a] : List Int).length : Int) (([71, 98] : List Int).length : Int) = 1 := rfl
    rw [em]
    refine ev_ifT (by decide) (ev_ifT (by simp) ?_)
    show Ev (fun k => frame_head.l0 k [a] [71, 98] [a] 1 0) (headV [a])
    by_cases h : a = 71
    · subst h
      refine Ev.step (f := fun k => frame_head.l0 k [71] [71, 98] [71] 1 1) (fun q => ?_) (head_end [71] hl hb _ _ _ (by decide))
      rw [frame_head.l0, if_pos (by decide), if_pos (by decide), if_pos (by decide), if_pos (by decide), if_pos (by decide), w64 (by decide) (by decide)]; rfl
    · refine Ev.step (f := fun k => some (0, 0, 3)) (fun q => ?_) (ev_some (by rw [headV, if_neg h]))
      rw [frame_head.l0, if_pos (by decide), if_pos (by decide), if_pos (by simp), if_pos (by decide), if_neg (by exact h)]
  | a :: b :: t, hl, hb =>
    have em : mn ((a :: b :: t).length : Int) (([71, 98] : List Int).length : Int) = 2 := by
      unfold mn; simp only [List.length_cons, List.length_nil]; split <;> omega
    rw [em]
    refine ev_ifT (by decide) (ev_ifT (by simp only [List.length_cons]; omega) ?_)
    show Ev (fun k => frame_head.l0 k (a :: b :: t) [71, 98] [a, b] 2 0) (headV (a :: b :: t))
    by_cases h : a = 71
    · subst h
      refine Ev.step (f := fun k => frame_head.l0 k (71 :: b :: t) [71, 98] [71, b] 2 1) (fun q => ?_) ?_
      · rw [frame_head.l0, if_pos (by decide), if_pos (by decide), if_pos (by simp), if_pos (by decide), if_pos (by rfl), w64 (by decide) (by decide)]; rfl
      by_cases h1 : b = 98
      · subst h1
        refine Ev.step (f := fun k => frame_head.l0 k (71 :: 98 :: t) [71, 98] [71, 98] 2 2) (fun q => ?_) (head_end _ hl hb _ _ _ (by decide))
        rw [frame_head.l0, if_pos (by decide), if_pos (by decide), if_pos (by simp), if_pos (by decide), if_pos (by rfl), w64 (by decide) (by decide)]; rfl
      · refine Ev.step (f := fun k => some (0, 0, 3)) (fun q => ?_) (ev_some (by rw [headV, if_pos rfl, if_neg h1]))
        rw [frame_head.l0, if_pos (by decide), if_pos (by decide), if_pos (by simp), if_pos (by decide), if_neg (by exact h1)]
    · refine Ev.step (f := fun k => some (0, 0, 3)) (fun q => ?_) (ev_some (by rw [headV, if_neg h]))
      rw [frame_head.l0, if_pos (by decide), if_pos (by decide), if_pos (by simp), if_pos (by decide), if_neg (by exact h)]
/-- What a good head tells. -/
theorem head_ok {l : List Int} (hb : Bytes l) {n at_ : Int} (h : headV l = (n, at_, 0)) : 0 ≤ n ∧ n ≤ 2048 ∧ 4 ≤ at_ ∧ at_ ≤ l.length ∧ at_ = 3 + (vb n.toNat).length ∧ l.take 3 = [71, 98, 1] ∧ (l.drop 3).take (vb n.toNat).length = vb n.toNat := by
  match l, hb, h with
  | [], _, h => simp [headV] at h
  | [a], _, h => rw [headV] at h; split at h <;> simp at h
  | a :: b :: t, hb, h =>
    rw [headV] at h
    by_cases ha : a = 71
    rotate_left
    · rw [if_neg ha] at h; simp at h
    by_cases hb' : b = 98
    rotate_left
    · rw [if_pos ha, if_neg hb'] at h; simp at h
    subst ha hb'
    rw [if_pos rfl, if_pos rfl] at h
    unfold endV at h
    by_cases h2 : (71 :: 98 :: t).length ≤ 2
    · rw [if_pos h2] at h; simp at h
    rw [if_neg h2] at h
    by_cases h3 : rd (71 :: 98 :: t) 2 = 1
    rotate_left
    · rw [if_neg h3] at h; simp at h
    rw [if_pos h3] at h
    obtain ⟨c, t, rfl⟩ : ∃ c t', t = c :: t' := by
      cases t with
      | nil => simp at h2
      | cons c t => exact ⟨c, t, rfl⟩
    have hc : c = 1 := h3
    subst hc
    rcases hg : gt 0 0 (List.drop 3 (71 :: 98 :: 1 :: t)) with ⟨m, k, e⟩
    rw [hg] at h
    dsimp only at h
    by_cases he : e = 0
    rotate_left
    · rw [if_neg he] at h; simp only [Prod.mk.injEq] at h; exact absurd h.2.2 he
    subst he
    rw [if_pos rfl] at h
    obtain ⟨g1, g2, g3, g4, g5, g6, g7⟩ := vb_gt0 (hb.drop 3) hg
    rw [List.length_drop] at g7
    split at h
    · simp at h
    · simp only [Prod.mk.injEq, and_true] at h
      obtain ⟨rfl, rfl⟩ := h
      exact ⟨by omega, by omega, by omega, by omega, by omega, rfl, g5⟩

/-! ### what is parsed -/
def parseV (l : List Int) : List Int × Int × Int :=
  if (headV l).2.2 = 0 then
    (if (headV l).2.1 + (headV l).1 + 4 > l.length then ([], 0, 4)
     else if (Crc.openV (l.take ((headV l).2.1 + (headV l).1 + 4).toNat)).2 = 0 then ((l.take ((headV l).2.1 + (headV l).1).toNat).drop (headV l).2.1.toNat, (headV l).2.1 + (headV l).1 + 4, 0)
     else ([], 0, (Crc.openV (l.take ((headV l).2.1 + (headV l).1 + 4).toNat)).2))
  else ([], 0, (headV l).2.2)
theorem parse_ev (l : List Int) (hl : l.length ≤ 100000) (hb : Bytes l) : Ev (fun k => frame_Parse.f k l) (parseV l) := by
  unfold frame_Parse.f parseV
  refine Ev.bind (head_ev l hl hb) ?_
  rcases hh : headV l with ⟨n, at_, e⟩
  dsimp only
  by_cases he : e = 0
  rotate_left
  · rw [if_neg he]; exact ev_ifF he (Ev.now _)
  subst he
  obtain ⟨g1, g2, g3, g4, g5, g6, g7⟩ := head_ok hb hh
  rw [if_pos rfl]
  have w1 : wrap64 (at_ + n) = at_ + n := w64 (by omega) (by omega)
  have w2 : wrap64 (at_ + n + 4) = at_ + n + 4 := w64 (by omega) (by omega)
  rw [w1, w2]
  refine ev_ifT rfl ?_
  by_cases h4 : at_ + n + 4 > l.length
  · rw [if_pos h4]; exact ev_ifT h4 (Ev.now _)
  rw [if_neg h4]
  refine ev_ifF h4 (ev_ifT (by omega) (ev_ifT (by omega) ?_))
  refine Ev.bind (Crc.open_ev _ (by rw [List.length_take]; omega)) ?_
  by_cases ho : (Crc.openV (l.take (at_ + n + 4).toNat)).2 = 0
  · refine ev_eq (ev_ifT (r := ((l.take (at_ + n).toNat).drop at_.toNat, at_ + n + 4, 0)) ho ?_) (if_pos ho).symm
    refine (ev_ifT (by omega) (ev_ifT (by omega) (ev_ifT (by omega) ?_)))
    refine Ev.congr (f := fun _ => some ((l.take (at_ + n).toNat).drop at_.toNat, at_ + n + 4, 0)) (fun k => ?_) (Ev.now _)
    rw [bytes_Clone.f, if_pos (by rw [List.length_drop, List.length_take]; omega)]; rfl
  · exact ev_eq (ev_ifF ho (Ev.now _)) (if_neg ho).symm
/-- A head that begins as what is laid does. -/
theorem head_of {l t : List Int} (hl : l.length ≤ 2048) : headV ([71, 98, 1] ++ vb l.length ++ t) = ((l.length : Int), 3 + ((vb l.length).length : Int), 0) := by
  have hd : List.drop 3 (71 :: 98 :: 1 :: (vb l.length ++ t)) = vb l.length ++ t := rfl
  show headV (71 :: 98 :: 1 :: (vb l.length ++ t)) = _
  rw [headV, if_pos rfl, if_pos rfl]
  unfold endV
  rw [if_neg (by simp only [List.length_cons]; omega), if_pos (show rd (71 :: 98 :: 1 :: (vb l.length ++ t)) 2 = 1 from rfl), hd, gt_vb0 t l.length (by omega)]
  dsimp only
  rw [if_pos rfl, if_neg (by omega)]
theorem lay_split (l t : List Int) : layV l ++ t = [71, 98, 1] ++ vb l.length ++ (l ++ (Crc.b4 (Crc.sumV (bodyV l)) ++ t)) := by
  simp [layV, Crc.sealV, bodyV]
theorem parse_lay (l t : List Int) (hl : l.length ≤ 2048) : parseV (layV l ++ t) = (l, ((layV l).length : Int), 0) := by
  have hlen := lay_len l
  have hh : headV (layV l ++ t) = ((l.length : Int), 3 + ((vb l.length).length : Int), 0) := by rw [lay_split]; exact head_of hl
  unfold parseV
  rw [hh]
  dsimp only
  have e1 : (3 + ((vb l.length).length : Int) + (l.length : Int) + 4).toNat = (layV l).length := by omega
  have e2 : (layV l ++ t).take (layV l).length = layV l := List.take_left' rfl
  rw [if_pos rfl, if_neg (by rw [List.length_append]; omega), e1, e2]
  have ho : Crc.openV (layV l) = (bodyV l, 0) := Crc.open_seal _
  rw [ho, if_pos rfl]
  refine Prod.ext ?_ (Prod.ext ?_ rfl)
  · show List.drop (3 + ((vb l.length).length : Int)).toNat (List.take (3 + ((vb l.length).length : Int) + (l.length : Int)).toNat (layV l ++ t)) = l
    have e3 : (3 + ((vb l.length).length : Int) + (l.length : Int)).toNat = (bodyV l).length := by rw [body_len]; omega
    have e4 : (3 + ((vb l.length).length : Int)).toNat = ([71, 98, 1] ++ vb l.length).length := by simp only [List.length_append, List.length_cons, List.length_nil]; omega
    have e5 : layV l ++ t = bodyV l ++ (Crc.b4 (Crc.sumV (bodyV l)) ++ t) := by simp [layV, Crc.sealV]
    rw [e3, e4, e5, List.take_left' rfl]
    exact List.drop_left' rfl
  · show 3 + ((vb l.length).length : Int) + (l.length : Int) + 4 = ((layV l).length : Int)
    omega
theorem one_lay (l : List Int) (hl : l.length ≤ 2048) (hb : Bytes l) : Ev (fun k => frame_One.f k (layV l)) (l, 0) := by
  have hlen := lay_len l
  have hv := vb2 hl
  have hp := parse_ev (layV l) (by omega) (lay_bytes hb)
  have e := parse_lay l [] hl
  rw [List.append_nil] at e
  rw [e] at hp
  unfold frame_One.f
  refine Ev.bind hp ?_
  dsimp only
  exact ev_ifT rfl (ev_ifF (by omega) (Ev.now _))

end Go.Proofs.Ytbfmbjkalldonaa.Frm
namespace Go.Proofs.Ytbfmbjkalldonaa.Msg
set_option linter.unusedVariables false
set_option linter.unusedSimpArgs false
open Go.RowKit Go.Proofs.Ytbfmbjkalldonaa.PA Go.Proofs.YtbfmbjkalldonaaW.PrintWords Go.Proofs.YtbfmbjkalldonaaW.PrintLast Go.Proofs.YtbfmbjkalldonaaW.PrintMore Go.Proofs.Ytbfmbjkalldonaa.Base Go.Proofs.Ytbfmbjkalldonaa.Var Go.Proofs.Ytbfmbjkalldonaa.Lst
attribute [local go_sem] max2_int min2_int max_two min_two max_three min_three max_four min_four
/-! ### how long a load is -/
def parseR (x : List Int) (e : Int) : Ms × Int := if e = 0 then readV x else (Ms.nil, e)
set_option maxHeartbeats 16000000 in
set_option maxRecDepth 100000 in
theorem parse_c (A0 : Option Addr) (c0 : Nat) (l : List Int) (hc0 : l.length ≤ c0) (K : Nat) (x : List Int) (e : Int) (hf : frame_One.f K l = some (x, e)) (hx : x.length ≤ 100000) (hbx : Bytes x) (m : Ms) (e1 : Int) (hr : parseR x e = (m, e1)) (w : World) (hb : Kd.C (Kd.int .u8) w A0 l.length l) :
    Calls Try.prog 21 #[.slice A0 l.length c0] w (PostR w m e1) := by
  have hu := Try.underlying29
  have HONE := Aside0.mk (fun W (hw : Below w.heap.size w W) => frame_One.calls K A0 c0 l x e W (Kd.C_below hb hw) hc0 hf)
  have HLX := Aside0.mk hx; have HBX := Aside0.mk hbx
  unfold parseR at hr
  by_cases he : e = 0
  · subst he
    rw [if_pos rfl] at hr
    have HRV := Aside0.mk hr
    clear hb hc0 hf hx hbx hr
    go_enter Try.func21, Try.ntmps21
    go_wp2_with (first | ((with_reducible refine gate_dst (N := 2) rfl ?_); refine box_event ?hg (N := 2) ?hd (cs := #[.int .i64 0, .int .u64 0, .int .u64 0, .int .u64 0, .int .u64 0, .int .u64 0, .int .u64 0, .int .i64 0, .int .u64 0, .slice none 0 0, .int .i64 0, .slice none 0 0]) (t := 29) ?hr ?_; (case hd => rfl); (case hg => rfl); (case hr => first | (go_simp; done) | (go_simp; rfl)); intro rc hrc w5 hbox hb; have HRC := Aside0.mk hbox; have HB5 := Aside0.mk hb; have HNC := Aside0.mk hrc; clear hbox hb hrc) | (go_at_call 44; (with_reducible refine (HONE.out _ HB5.out).mono ?_); rintro er w6 ⟨v, rfl, hR, hb⟩; obtain ⟨A6, c6, rfl, _, _⟩ := (ls_of hR).form; have HX6 := Aside0.mk (ls_of hR); have HB6 := Aside0.mk (below_step HB5.out hb); have hrc6 := blk_below HRC.out hb; have HRC6 := Aside0.mk hrc6; have y0 : w6.cell? ⟨rc, 0, none⟩ = some (.int .i64 0) := blk_cell hrc6 0; have yf0 : w6.frozen? ⟨rc, 0, none⟩ = false := blk_frozen hrc6 0; have y1 : w6.cell? ⟨rc, 1, none⟩ = some (.int .u64 0) := blk_cell hrc6 1; have yf1 : w6.frozen? ⟨rc, 1, none⟩ = false := blk_frozen hrc6 1; have y2 : w6.cell? ⟨rc, 2, none⟩ = some (.int .u64 0) := blk_cell hrc6 2; have yf2 : w6.frozen? ⟨rc, 2, none⟩ = false := blk_frozen hrc6 2; have y3 : w6.cell? ⟨rc, 3, none⟩ = some (.int .u64 0) := blk_cell hrc6 3; have yf3 : w6.frozen? ⟨rc, 3, none⟩ = false := blk_frozen hrc6 3; have y4 : w6.cell? ⟨rc, 4, none⟩ = some (.int .u64 0) := blk_cell hrc6 4; have yf4 : w6.frozen? ⟨rc, 4, none⟩ = false := blk_frozen hrc6 4; have y5 : w6.cell? ⟨rc, 5, none⟩ = some (.int .u64 0) := blk_cell hrc6 5; have yf5 : w6.frozen? ⟨rc, 5, none⟩ = false := blk_frozen hrc6 5; have y6 : w6.cell? ⟨rc, 6, none⟩ = some (.int .u64 0) := blk_cell hrc6 6; have yf6 : w6.frozen? ⟨rc, 6, none⟩ = false := blk_frozen hrc6 6; have y7 : w6.cell? ⟨rc, 7, none⟩ = some (.int .i64 0) := blk_cell hrc6 7; have yf7 : w6.frozen? ⟨rc, 7, none⟩ = false := blk_frozen hrc6 7; have y8 : w6.cell? ⟨rc, 8, none⟩ = some (.int .u64 0) := blk_cell hrc6 8; have yf8 : w6.frozen? ⟨rc, 8, none⟩ = false := blk_frozen hrc6 8; have y9 : w6.cell? ⟨rc, 9, none⟩ = some (.slice none 0 0) := blk_cell hrc6 9; have yf9 : w6.frozen? ⟨rc, 9, none⟩ = false := blk_frozen hrc6 9; have y10 : w6.cell? ⟨rc, 10, none⟩ = some (.int .i64 0) := blk_cell hrc6 10; have yf10 : w6.frozen? ⟨rc, 10, none⟩ = false := blk_frozen hrc6 10; have y11 : w6.cell? ⟨rc, 11, none⟩ = some (.slice none 0 0) := blk_cell hrc6 11; have yf11 : w6.frozen? ⟨rc, 11, none⟩ = false := blk_frozen hrc6 11; clear hR hb hrc6) | (go_at_call 9; (with_reducible refine (read_c A6 c6 x HLX.out HBX.out (C_of_ls HX6.out).2.1 m e1 HRV.out w6 (C_of_ls HX6.out).2.2).mono ?_); rintro er w7 ⟨vP, vL, rfl, hP, hL, hb⟩; obtain ⟨AP, cP, rfl, _, _⟩ := hP.form; obtain ⟨AL, cL, rfl, _, _⟩ := hL.form; have HP7 := Aside0.mk hP; have HL7 := Aside0.mk hL; have HB7 := Aside0.mk (below_step HB6.out hb); have hrc7 := blk_below HRC6.out hb; have HRC7 := Aside0.mk hrc7; have z0 : w7.cell? ⟨rc, 0, none⟩ = some (.int .i64 0) := blk_cell hrc7 0; have zf0 : w7.frozen? ⟨rc, 0, none⟩ = false := blk_frozen hrc7 0; have z1 : w7.cell? ⟨rc, 1, none⟩ = some (.int .u64 0) := blk_cell hrc7 1; have zf1 : w7.frozen? ⟨rc, 1, none⟩ = false := blk_frozen hrc7 1; have z2 : w7.cell? ⟨rc, 2, none⟩ = some (.int .u64 0) := blk_cell hrc7 2; have zf2 : w7.frozen? ⟨rc, 2, none⟩ = false := blk_frozen hrc7 2; have z3 : w7.cell? ⟨rc, 3, none⟩ = some (.int .u64 0) := blk_cell hrc7 3; have zf3 : w7.frozen? ⟨rc, 3, none⟩ = false := blk_frozen hrc7 3; have z4 : w7.cell? ⟨rc, 4, none⟩ = some (.int .u64 0) := blk_cell hrc7 4; have zf4 : w7.frozen? ⟨rc, 4, none⟩ = false := blk_frozen hrc7 4; have z5 : w7.cell? ⟨rc, 5, none⟩ = some (.int .u64 0) := blk_cell hrc7 5; have zf5 : w7.frozen? ⟨rc, 5, none⟩ = false := blk_frozen hrc7 5; have z6 : w7.cell? ⟨rc, 6, none⟩ = some (.int .u64 0) := blk_cell hrc7 6; have zf6 : w7.frozen? ⟨rc, 6, none⟩ = false := blk_frozen hrc7 6; have z7 : w7.cell? ⟨rc, 7, none⟩ = some (.int .i64 0) := blk_cell hrc7 7; have zf7 : w7.frozen? ⟨rc, 7, none⟩ = false := blk_frozen hrc7 7; have z8 : w7.cell? ⟨rc, 8, none⟩ = some (.int .u64 0) := blk_cell hrc7 8; have zf8 : w7.frozen? ⟨rc, 8, none⟩ = false := blk_frozen hrc7 8; have z9 : w7.cell? ⟨rc, 9, none⟩ = some (.slice none 0 0) := blk_cell hrc7 9; have zf9 : w7.frozen? ⟨rc, 9, none⟩ = false := blk_frozen hrc7 9; have z10 : w7.cell? ⟨rc, 10, none⟩ = some (.int .i64 0) := blk_cell hrc7 10; have zf10 : w7.frozen? ⟨rc, 10, none⟩ = false := blk_frozen hrc7 10; have z11 : w7.cell? ⟨rc, 11, none⟩ = some (.slice none 0 0) := blk_cell hrc7 11; have zf11 : w7.frozen? ⟨rc, 11, none⟩ = false := blk_frozen hrc7 11; clear hP hL hb hrc7))
    (try simp only [Exit.inBlock, Exit.then])
    refine bodyPost_ret (results_ct rfl _ _ rc 29 #[.int .i64 m.k, .int .u64 m.s, .int .u64 m.se, .int .u64 m.a, .int .u64 m.i, .int .u64 m.n, .int .u64 m.c, .int .i64 m.why, .int .u64 m.seed, .slice AP m.P.length cP, .int .i64 m.most, .slice AL m.L.length cL] (0, 0) _ rfl (st12_blk HRC7.out _ _ _ _ _ _ _ _ _ _ _ _) Try.underlying29 (by rfl) (by kernel_rfl)) rfl ?_
    exact ⟨_, _, rfl, lsK1 (HP7.out.lower HB6.out.size) (st12_kept _ _ _ _ _ _ _ _ _ _ _ _ _ _) HRC7.out (by decide), lsK1 (HL7.out.lower HB6.out.size) (st12_kept _ _ _ _ _ _ _ _ _ _ _ _ _ _) HRC7.out (by decide), st12_bel HB7.out (Nat.le_of_eq HNC.out.symm) _ _ _ _ _ _ _ _ _ _ _ _⟩
  · rw [if_neg he] at hr
    obtain ⟨rfl, rfl⟩ := Prod.mk.inj hr
    have q1 : (e != 0) = true := by simpa using he
    clear hb hc0 hf hx hbx hr he
    go_enter Try.func21, Try.ntmps21
    go_wp2_with (first | ((with_reducible refine gate_dst (N := 2) rfl ?_); refine box_event ?hg (N := 2) ?hd (cs := #[.int .i64 0, .int .u64 0, .int .u64 0, .int .u64 0, .int .u64 0, .int .u64 0, .int .u64 0, .int .i64 0, .int .u64 0, .slice none 0 0, .int .i64 0, .slice none 0 0]) (t := 29) ?hr ?_; (case hd => rfl); (case hg => rfl); (case hr => first | (go_simp; done) | (go_simp; rfl)); intro rc hrc w5 hbox hb; have HRC := Aside0.mk hbox; have HB5 := Aside0.mk hb; have HNC := Aside0.mk hrc; clear hbox hb hrc) | (go_at_call 44; (with_reducible refine (HONE.out _ HB5.out).mono ?_); rintro er w6 ⟨v, rfl, hR, hb⟩; obtain ⟨A6, c6, rfl, _, _⟩ := (ls_of hR).form; have HX6 := Aside0.mk (ls_of hR); have HB6 := Aside0.mk (below_step HB5.out hb); have hrc6 := blk_below HRC.out hb; have HRC6 := Aside0.mk hrc6; have y0 : w6.cell? ⟨rc, 0, none⟩ = some (.int .i64 0) := blk_cell hrc6 0; have yf0 : w6.frozen? ⟨rc, 0, none⟩ = false := blk_frozen hrc6 0; have y1 : w6.cell? ⟨rc, 1, none⟩ = some (.int .u64 0) := blk_cell hrc6 1; have yf1 : w6.frozen? ⟨rc, 1, none⟩ = false := blk_frozen hrc6 1; have y2 : w6.cell? ⟨rc, 2, none⟩ = some (.int .u64 0) := blk_cell hrc6 2; have yf2 : w6.frozen? ⟨rc, 2, none⟩ = false := blk_frozen hrc6 2; have y3 : w6.cell? ⟨rc, 3, none⟩ = some (.int .u64 0) := blk_cell hrc6 3; have yf3 : w6.frozen? ⟨rc, 3, none⟩ = false := blk_frozen hrc6 3; have y4 : w6.cell? ⟨rc, 4, none⟩ = some (.int .u64 0) := blk_cell hrc6 4; have yf4 : w6.frozen? ⟨rc, 4, none⟩ = false := blk_frozen hrc6 4; have y5 : w6.cell? ⟨rc, 5, none⟩ = some (.int .u64 0) := blk_cell hrc6 5; have yf5 : w6.frozen? ⟨rc, 5, none⟩ = false := blk_frozen hrc6 5; have y6 : w6.cell? ⟨rc, 6, none⟩ = some (.int .u64 0) := blk_cell hrc6 6; have yf6 : w6.frozen? ⟨rc, 6, none⟩ = false := blk_frozen hrc6 6; have y7 : w6.cell? ⟨rc, 7, none⟩ = some (.int .i64 0) := blk_cell hrc6 7; have yf7 : w6.frozen? ⟨rc, 7, none⟩ = false := blk_frozen hrc6 7; have y8 : w6.cell? ⟨rc, 8, none⟩ = some (.int .u64 0) := blk_cell hrc6 8; have yf8 : w6.frozen? ⟨rc, 8, none⟩ = false := blk_frozen hrc6 8; have y9 : w6.cell? ⟨rc, 9, none⟩ = some (.slice none 0 0) := blk_cell hrc6 9; have yf9 : w6.frozen? ⟨rc, 9, none⟩ = false := blk_frozen hrc6 9; have y10 : w6.cell? ⟨rc, 10, none⟩ = some (.int .i64 0) := blk_cell hrc6 10; have yf10 : w6.frozen? ⟨rc, 10, none⟩ = false := blk_frozen hrc6 10; have y11 : w6.cell? ⟨rc, 11, none⟩ = some (.slice none 0 0) := blk_cell hrc6 11; have yf11 : w6.frozen? ⟨rc, 11, none⟩ = false := blk_frozen hrc6 11; clear hR hb hrc6))
    (try simp only [Exit.inBlock, Exit.then])
    refine bodyPost_ret (results_ct rfl _ _ rc 29 #[.int .i64 0, .int .u64 0, .int .u64 0, .int .u64 0, .int .u64 0, .int .u64 0, .int .u64 0, .int .i64 0, .int .u64 0, .slice none 0 0, .int .i64 0, .slice none 0 0] (0, 0) _ rfl (st12_blk HRC6.out (.int .i64 0) (.int .u64 0) (.int .u64 0) (.int .u64 0) (.int .u64 0) (.int .u64 0) (.int .u64 0) (.int .i64 0) (.int .u64 0) (.slice none 0 0) (.int .i64 0) (.slice none 0 0)) Try.underlying29 (by rfl) (by kernel_rfl)) rfl ?_
    exact ⟨_, _, rfl, Ls.nil _ _ _ _, Ls.nil _ _ _ _, st12_bel HB6.out (Nat.le_of_eq HNC.out.symm) (.int .i64 0) (.int .u64 0) (.int .u64 0) (.int .u64 0) (.int .u64 0) (.int .u64 0) (.int .u64 0) (.int .i64 0) (.int .u64 0) (.slice none 0 0) (.int .i64 0) (.slice none 0 0)⟩
end Go.Proofs.Ytbfmbjkalldonaa.Msg
namespace Go.Proofs.Ytbfmbjkalldonaa.Lst
set_option linter.unusedVariables false
set_option linter.unusedSimpArgs false
open Go.RowKit Go.Proofs.YtbfmbjkalldonaaW.PrintWords Go.Proofs.YtbfmbjkalldonaaW.PrintLast Go.Proofs.YtbfmbjkalldonaaW.PrintMore
abbrev blkOf (v : Value) : Option Nat := v.ownBlock
theorem add_at (g o j : Nat) : (⟨g, o, none⟩ : Addr).add j = ⟨g, o + j, none⟩ := by
  unfold Addr.add
  split
  · rename_i h
    subst h
    rfl
  · rfl
def Ct {α : Type} (d : En α) (e : TypeId) (W : World) (b0 : Nat) (v : Value) (l : List α) : Prop := ∃ A c, v = .slice A l.length c ∧ l.length ≤ c ∧ (A = none → c = 0) ∧
  ∀ a, A = some a → ∃ g o, a = ⟨g, o, none⟩ ∧ b0 ≤ g ∧ g < W.heap.size ∧ (∃ cur, W.heap[g]? = some (.cells cur e (0, 0))) ∧ ∀ j u, (l.flatMap d.enc)[j]? = some u → W.cell? ⟨g, o + j, none⟩ = some u
section
variable {α : Type} {d : En α} {e : TypeId} {W W' : World} {b0 b1 : Nat} {v : Value} {l : List α}
theorem Ct.nil (d : En α) (e : TypeId) (W : World) (b0 : Nat) : Ct d e W b0 (.slice none 0 0) [] := ⟨none, 0, rfl, Nat.le_refl _, fun _ => rfl, fun a e' => by cases e'⟩
theorem Ct.of_ls (h : Ls d e W b0 v l) : Ct d e W b0 v l := by
  rcases h.2 with ⟨rfl, h0⟩ | ⟨g, c, cur, rfl, hb, hg, hc, hm, _⟩
  · obtain rfl : l = [] := List.length_eq_zero_iff.1 h0
    exact Ct.nil d e W b0
  · refine ⟨_, c, rfl, hc, fun e' => (by cases e'), fun a e' => ?_⟩
    cases e'
    refine ⟨g, 0, rfl, hb, (h.own g rfl).2.1, ⟨cur, hg⟩, fun j u hu => ?_⟩
    have := World.ownsRow.cells h (g := g) rfl j u hu
    rw [add_plain] at this
    simpa using this
theorem Ct.blk (h : Ct d e W b0 v l) : ∀ k, blkOf v = some k → b0 ≤ k ∧ k < W.heap.size ∧ ∃ cur, W.heap[k]? = some (.cells cur e (0, 0)) := by
  obtain ⟨A, c, rfl, _, _, h⟩ := h
  intro k hk
  cases A with
  | none => cases hk
  | some a =>
    obtain ⟨g, o, rfl, h1, h2, h3, _⟩ := h a rfl
    cases hk
    exact ⟨h1, h2, h3⟩
theorem Ct.move (h : Ct d e W b0 v l) (hs : W.heap.size ≤ W'.heap.size) (hm : ∀ k, blkOf v = some k → W'.heap[k]? = W.heap[k]?) : Ct d e W' b0 v l := by
  obtain ⟨A, c, rfl, hc, hn, h⟩ := h
  refine ⟨A, c, rfl, hc, hn, fun a e' => ?_⟩
  obtain ⟨g, o, rfl, h1, h2, ⟨cur, h3⟩, h4⟩ := h a e'
  subst e'
  have hg := hm g rfl
  refine ⟨g, o, rfl, h1, by omega, ⟨cur, hg.trans h3⟩, fun j u hu => ?_⟩
  rw [← h4 j u hu]
  simp only [World.cell?, hg]
theorem Ct.below (h : Ct d e W b0 v l) (hb : Below W.heap.size W W') : Ct d e W' b0 v l := h.move hb.size fun k hk => hb.block k (h.blk k hk).2.1
theorem Ct.drewN (h : Ct d e W b0 v l) (n : Nat) : Ct d e (W.drewN n) b0 v l := h
theorem Ct.lower (h : Ct d e W b1 v l) (hb : b0 ≤ b1) : Ct d e W b0 v l := by
  obtain ⟨A, c, rfl, hc, hn, h⟩ := h
  refine ⟨A, c, rfl, hc, hn, fun a e' => ?_⟩
  obtain ⟨g, o, rfl, h1, h2⟩ := h a e'
  exact ⟨g, o, rfl, Nat.le_trans hb h1, h2⟩
theorem Ct.form (h : Ct d e W b0 v l) : ∃ A c, v = .slice A l.length c ∧ l.length ≤ c := by
  obtain ⟨A, c, e', hc, _⟩ := h
  exact ⟨A, c, e', hc⟩
theorem Ct.at {A : Option Addr} {n c : Nat} (h : Ct d e W b0 (.slice A n c) l) {i : Nat} {x : α} (hx : l[i]? = some x) : ∃ g o, A = some ⟨g, o, none⟩ ∧ g < W.heap.size ∧ ∀ j u, (d.enc x)[j]? = some u → W.cell? ⟨g, o + i * d.sz + j, none⟩ = some u := by
  obtain ⟨A', c', e', hc, hn, h⟩ := h
  injection e' with e1 e2 e3
  subst e1 e2 e3
  have hi := (List.getElem?_eq_some_iff.1 hx).1
  cases A with
  | none => have := hn rfl; omega
  | some a =>
    obtain ⟨g, o, rfl, h1, h2, _, h4⟩ := h a rfl
    refine ⟨g, o, rfl, h2, fun j u hu => ?_⟩
    have := h4 (i * d.sz + j) u (flat_get d l i x hx j u hu)
    rw [Nat.add_assoc]; exact this
/-- its beginning -/
theorem Ct.take {A : Option Addr} {n c : Nat} (h : Ct d e W b0 (.slice A n c) l) {i : Nat} (hi : i ≤ l.length) : Ct d e W b0 (.slice A i c) (l.take i) := by
  obtain ⟨A', c', e', hc, hn, h⟩ := h
  injection e' with e1 e2 e3
  subst e1 e2 e3
  refine ⟨A, c, by rw [List.length_take_of_le hi], by rw [List.length_take_of_le hi]; omega, hn, fun a e' => ?_⟩
  obtain ⟨g, o, rfl, h1, h2, h3, h4⟩ := h a e'
  exact ⟨g, o, rfl, h1, h2, h3, fun j u hu => h4 j u (flat_take hu)⟩
/-- its end -/
theorem Ct.drop {g o n c : Nat} (h : Ct d e W b0 (.slice (some ⟨g, o, none⟩) n c) l) {i : Nat} (hi : i ≤ l.length) : Ct d e W b0 (.slice (if c = i then some ⟨g, o, none⟩ else some ⟨g, o + i * d.sz, none⟩) (l.length - i) (c - i)) (l.drop i) := by
  obtain ⟨A', c', e', hc, hn, h⟩ := h
  injection e' with e1 e2 e3
  subst e1 e2 e3
  obtain ⟨g', o', e', h1, h2, h3, h4⟩ := h _ rfl
  cases e'
  have hl : (l.drop i).length = l.length - i := List.length_drop
  have e1 : l.flatMap d.enc = (l.take i).flatMap d.enc ++ (l.drop i).flatMap d.enc := by rw [← List.flatMap_append, List.take_append_drop]
  by_cases hci : c = i
  · rw [if_pos hci]
    refine ⟨_, c - i, by rw [hl], by rw [hl]; omega, fun e' => (by cases e'), fun a e' => ?_⟩
    cases e'
    refine ⟨g, o, rfl, h1, h2, h3, fun j u hu => ?_⟩
    rw [List.drop_eq_nil_of_le (by omega)] at hu
    simp at hu
  · rw [if_neg hci]
    refine ⟨_, c - i, by rw [hl], by rw [hl]; omega, fun e' => (by cases e'), fun a e' => ?_⟩
    cases e'
    refine ⟨g, o + i * d.sz, rfl, h1, h2, h3, fun j u hu => ?_⟩
    have := h4 (i * d.sz + j) u (by rw [e1, List.getElem?_append_right (by rw [flat_len, List.length_take_of_le hi]; exact Nat.le_add_right _ _), flat_len, List.length_take_of_le hi, show i * d.sz + j - i * d.sz = j from Nat.add_sub_cancel_left _ _]; exact hu)
    rw [Nat.add_assoc]; exact this
theorem Ct.drop0 {n c : Nat} (h : Ct d e W b0 (.slice none n c) l) : l = [] ∧ n = 0 ∧ c = 0 := by
  obtain ⟨A', c', e', hc, hn, h⟩ := h
  injection e' with e1 e2 e3
  subst e1 e2 e3
  have := hn rfl
  exact ⟨List.length_eq_zero_iff.1 (by omega), by omega, this⟩
end
end Go.Proofs.Ytbfmbjkalldonaa.Lst
namespace Go.Proofs.Ytbfmbjkalldonaa.Frm
set_option linter.unusedVariables false
set_option linter.unusedSimpArgs false
open Go.RowKit Go.Proofs.Ytbfmbjkalldonaa.PA Go.Proofs.YtbfmbjkalldonaaW.PrintWords Go.Proofs.YtbfmbjkalldonaaW.PrintLast Go.Proofs.YtbfmbjkalldonaaW.PrintMore Go.Proofs.Ytbfmbjkalldonaa.Base Go.Proofs.Ytbfmbjkalldonaa.Var Go.Proofs.Ytbfmbjkalldonaa.Lst
open Go.Proofs.Ytbfmbjkalldonaa.Msg (encB ls_of C_of_ls flat_u8)
attribute [local go_sem] max2_int min2_int max_two min_two max_three min_three max_four min_four
theorem take_split (l : List Int) (a b : Nat) (h : a ≤ b) : l.take b = l.take a ++ (l.take b).drop a := by
  have := (List.take_append_drop a (l.take b)).symm
  rw [List.take_take, Nat.min_eq_left h] at this
  exact this
theorem again {l : List Int} (hb : Bytes l) {x : List Int} {n : Int} (h : parseV l = (x, n, 0)) : layV x = l.take n.toNat ∧ 8 ≤ n ∧ n ≤ l.length ∧ x.length ≤ 2048 ∧ Bytes x := by
  unfold parseV at h
  rcases hh : headV l with ⟨m, a, e⟩
  rw [hh] at h
  dsimp only at h
  by_cases he : e = 0
  rotate_left
  · rw [if_neg he] at h
    simp only [Prod.mk.injEq] at h
    exact absurd h.2.2 he
  subst he
  obtain ⟨g1, g2, g3, g4, g5, g6, g7⟩ := head_ok hb hh
  rw [if_pos rfl] at h
  by_cases h4 : a + m + 4 > l.length
  · rw [if_pos h4] at h
    simp at h
  rw [if_neg h4] at h
  by_cases ho : (Crc.openV (l.take (a + m + 4).toNat)).2 = 0
  rotate_left
  · rw [if_neg ho] at h
    simp only [Prod.mk.injEq] at h
    exact absurd h.2.2 ho
  rw [if_pos ho] at h
  simp only [Prod.mk.injEq, and_true] at h
  obtain ⟨hx, rfl⟩ := h
  have hlen : (l.take (a + m + 4).toNat).length = (a + m + 4).toNat := List.length_take_of_le (by omega)
  have hE : (a + m + 4).toNat - 4 = (a + m).toNat := by omega
  unfold Crc.openV at ho
  rw [if_neg (by omega), hlen, hE] at ho
  have ht : (l.take (a + m + 4).toNat).take (a + m).toNat = l.take (a + m).toNat := by rw [List.take_take, Nat.min_eq_left (by omega)]
  rw [ht] at ho
  by_cases hc : (l.take (a + m + 4).toNat).drop (a + m).toNat = Crc.b4 (Crc.sumV (l.take (a + m).toNat))
  rotate_left
  · rw [if_neg hc] at ho
    simp at ho
  have hxl : x.length = m.toNat := by rw [← hx, List.length_drop, List.length_take_of_le (by omega)]; omega
  have ha : a.toNat = 3 + (vb m.toNat).length := by omega
  have hbody : bodyV x = l.take (a + m).toNat := by
    unfold bodyV
    rw [hxl]
    have e1 := take_split l a.toNat (a + m).toNat (by omega)
    rw [e1, hx]
    congr 1
    rw [ha]
    have e2 := take_split l 3 (3 + (vb m.toNat).length) (by omega)
    rw [e2, g6, List.drop_take, show 3 + (vb m.toNat).length - 3 = (vb m.toNat).length by omega, g7]
  refine ⟨?_, by omega, by omega, by omega, ?_⟩
  · unfold layV Crc.sealV
    rw [hbody, ← hc, ← ht, List.take_append_drop]
  · rw [← hx]
    exact Bytes.drop (Bytes.take hb _) _
theorem parse_err {l : List Int} {x : List Int} {m e : Int} (h : parseV l = (x, m, e)) (he : e ≠ 0) : x = [] ∧ m = 0 := by
  unfold parseV at h
  split at h
  · split at h
    · simp only [Prod.mk.injEq] at h; exact ⟨h.1.symm, h.2.1.symm⟩
    · split at h
      · simp only [Prod.mk.injEq] at h; exact absurd h.2.2.symm he
      · simp only [Prod.mk.injEq] at h; exact ⟨h.1.symm, h.2.1.symm⟩
  · simp only [Prod.mk.injEq] at h; exact ⟨h.1.symm, h.2.1.symm⟩
theorem cell_of {w : World} {A : Option Addr} {l : List Int} (h : Kd.C (Kd.int .u8) w A l.length l) (h0 : 0 < l.length) : ∃ ad, A = some ad ∧ ∀ i, i < l.length → w.cell? (ad.add i) = some (.int .u8 (l.getD i 0)) := by
  have r := Kd.reads_of_C (enc := Value.int .u8) (d := (0 : Int)) (h1 := fun _ => rfl) h
  obtain ⟨ad, e, hc⟩ := r.2.2 h0
  exact ⟨ad, e, hc⟩
/-- the head fails: no call is made -/
def Post18 (w : World) (x : List Int) (m e0 : Int) (e : Ending) (w' : World) : Prop := ∃ v, e = .returned (.tuple #[v, .int .i64 m, .int .i64 e0]) ∧ Ct encB 5 w' w.heap.size v x ∧ Below w.heap.size w w'
theorem rp_nil (A0 : Option Addr) (c0 : Nat) (w : World) : Calls Try.prog 61 #[.slice A0 0 c0] w fun e w' => Post18 w [] 0 4 e w' := by
  go_enter Try.func61, Try.ntmps61
  go_wp2_with fail
  go_ret3
  exact ⟨_, rfl, Ct.nil _ _ _ _, Below.refl _ _⟩
theorem rp_no (ad : Addr) (n c0 : Nat) (a : Int) (hn : 0 < n) (ha : a ≠ 71) (w : World) (h0 : w.cell? ad = some (.int .u8 a)) : Calls Try.prog 61 #[.slice (some ad) n c0] w fun e w' => Post18 w [] 0 3 e w' := by
  have f1 : (a != 71) = true := by simpa using ha
  have d1 : decide ((0 : Int) < (n : Int)) = true := decide_eq_true (by omega)
  clear ha
  go_enter Try.func61, Try.ntmps61
  go_wp2_with fail
  go_ret3
  exact ⟨_, rfl, Ct.nil _ _ _ _, Below.refl _ _⟩
theorem rp_one (ad : Addr) (c0 : Nat) (w : World) (h0 : w.cell? ad = some (.int .u8 71)) : Calls Try.prog 61 #[.slice (some ad) 1 c0] w fun e w' => Post18 w [] 0 4 e w' := by
  go_enter Try.func61, Try.ntmps61
  go_wp2_with fail
  go_ret3
  exact ⟨_, rfl, Ct.nil _ _ _ _, Below.refl _ _⟩
theorem rp_two (ad : Addr) (n c0 : Nat) (b : Int) (hn : 1 < n) (hb : b ≠ 98) (w : World) (h0 : w.cell? ad = some (.int .u8 71)) (h1 : w.cell? ⟨ad.block, ad.off + 1, none⟩ = some (.int .u8 b)) : Calls Try.prog 61 #[.slice (some ad) n c0] w fun e w' => Post18 w [] 0 3 e w' := by
  have f1 : (b != 98) = true := by simpa using hb
  have d1 : decide ((0 : Int) < (n : Int)) = true := decide_eq_true (by omega)
  have d2 : decide ((1 : Int) < (n : Int)) = true := decide_eq_true (by omega)
  have hn0 : 0 < n := by omega
  clear hb
  go_enter Try.func61, Try.ntmps61
  go_wp2_with fail
  go_ret3
  exact ⟨_, rfl, Ct.nil _ _ _ _, Below.refl _ _⟩
theorem rp_short (ad : Addr) (c0 : Nat) (w : World) (h0 : w.cell? ad = some (.int .u8 71)) (h1 : w.cell? ⟨ad.block, ad.off + 1, none⟩ = some (.int .u8 98)) : Calls Try.prog 61 #[.slice (some ad) 2 c0] w fun e w' => Post18 w [] 0 4 e w' := by
  go_enter Try.func61, Try.ntmps61
  go_wp2_with fail
  go_ret3
  exact ⟨_, rfl, Ct.nil _ _ _ _, Below.refl _ _⟩
theorem rp_ver (ad : Addr) (n c0 : Nat) (v : Int) (hn : 2 < n) (hv : v ≠ 1) (w : World) (h0 : w.cell? ad = some (.int .u8 71)) (h1 : w.cell? ⟨ad.block, ad.off + 1, none⟩ = some (.int .u8 98)) (h2 : w.cell? ⟨ad.block, ad.off + 2, none⟩ = some (.int .u8 v)) : Calls Try.prog 61 #[.slice (some ad) n c0] w fun e w' => Post18 w [] 0 11 e w' := by
  have f1 : (v != 1) = true := by simpa using hv
  have d1 : decide ((0 : Int) < (n : Int)) = true := decide_eq_true (by omega)
  have d2 : decide ((1 : Int) < (n : Int)) = true := decide_eq_true (by omega)
  have d3 : decide ((n : Int) < 3) = false := decide_eq_false (by omega)
  have d3' : decide (n < 3) = false := decide_eq_false (by omega)
  have hn0 : 0 < n := by omega
  have hn1 : 1 < n := by omega
  clear hv
  go_enter Try.func61, Try.ntmps61
  go_wp2_with fail
  go_ret3
  exact ⟨_, rfl, Ct.nil _ _ _ _, Below.refl _ _⟩
theorem own_some {W : World} {b0 : Nat} {v : Value} {l : List Int} (h : Ls encB 5 W b0 v l) (hl : 0 < l.length) : ∃ g c, v = .slice (some ⟨g, 0, none⟩) l.length c ∧ l.length ≤ c := by
  rcases h.2 with ⟨_, h0⟩ | ⟨g, c, cur, e, _, _, hc, _⟩
  · omega
  · exact ⟨g, c, e, hc⟩
/-- what stands behind a good head's first three bytes -/
structure Hd (w : World) (ad : Addr) (l : List Int) (c0 : Nat) : Prop where
  row : Kd.C (Kd.int .u8) w (some ad) l.length l
  ge : 3 ≤ l.length
  cap : l.length ≤ c0
  le : l.length ≤ 3000
  by_ : Bytes l
  h0 : w.cell? ad = some (.int .u8 71)
  h1 : w.cell? ⟨ad.block, ad.off + 1, none⟩ = some (.int .u8 98)
  h2 : w.cell? ⟨ad.block, ad.off + 2, none⟩ = some (.int .u8 1)
set_option maxHeartbeats 8000000 in
theorem rp_get (ad : Addr) (l : List Int) (c0 : Nat) (w : World) (h : Hd w ad l c0) (m k e : Int) (hg : gt 0 0 (l.drop 3) = (m, k, e)) (he : e ≠ 0) : Calls Try.prog 61 #[.slice (some ad) l.length c0] w fun e' w' => Post18 w [] 0 e e' w' := by
  have h0 := h.h0; have h1 := h.h1; have h2 := h.h2
  have g0 := h.ge; have g1 := h.cap; have g2 := h.le
  have d1 : decide ((0 : Int) < (l.length : Int)) = true := decide_eq_true (by omega)
  have d2 : decide ((1 : Int) < (l.length : Int)) = true := decide_eq_true (by omega)
  have d3 : decide ((l.length : Int) < 3) = false := decide_eq_false (by omega)
  have d3' : decide (l.length < 3) = false := decide_eq_false (by omega)
  have hn0 : 0 < l.length := by omega
  have hn1 : 1 < l.length := by omega
  have hn2 : 2 < l.length := by omega
  obtain ⟨K, hK⟩ := rget_ev (l.drop 3) (by rw [List.length_drop]; omega) (Bytes.drop h.by_ 3)
  have hf := hK K (Nat.le_refl K)
  rw [hg] at hf
  have hd := Kd.C_drop (k := Kd.int .u8) h.row g0 g1
  have hln : (l.drop 3).length = l.length - 3 := List.length_drop
  have f1 : (e != 0) = true := by simpa using he
  clear hg hK h he
  by_cases hc3 : c0 = 3
  · rw [if_pos hc3] at hd
    have hG := garboardref02_Get.calls K (some ad) 0 (l.drop 3) m k e w hd (by omega) hf
    rw [hln, show l.length - 3 = 0 by omega] at hG
    subst hc3
    have HG := Aside0.mk hG
    clear hd hG hf
    go_enter Try.func61, Try.ntmps61
    go_wp2_with ((go_at_call 58; (with_reducible refine HG.out.mono ?_); rintro e9 w9 ⟨rfl, hdr⟩; obtain ⟨nd, rfl⟩ := hdr))
    go_ret3
    exact ⟨_, rfl, Ct.nil _ _ _ _, pw_below_drewN (Below.refl _ _) _⟩
  · rw [if_neg hc3] at hd
    have hd : Kd.C (Kd.int .u8) w (some ⟨ad.block, ad.off + 3, none⟩) (l.drop 3).length (l.drop 3) := hd
    have hG := garboardref02_Get.calls K (some ⟨ad.block, ad.off + 3, none⟩) (c0 - 3) (l.drop 3) m k e w hd (by omega) hf
    rw [hln] at hG
    have HG := Aside0.mk hG
    clear hd hG hf
    go_enter Try.func61, Try.ntmps61
    go_wp2_with ((go_at_call 58; (with_reducible refine HG.out.mono ?_); rintro e9 w9 ⟨rfl, hdr⟩; obtain ⟨nd, rfl⟩ := hdr))
    go_ret3
    exact ⟨_, rfl, Ct.nil _ _ _ _, pw_below_drewN (Below.refl _ _) _⟩
set_option maxHeartbeats 8000000 in
theorem rp_many (ad : Addr) (l : List Int) (c0 : Nat) (w : World) (h : Hd w ad l c0) (m k : Int) (hg : gt 0 0 (l.drop 3) = (m, k, 0)) (h4 : 4 ≤ l.length) (hm : 2048 < m) : Calls Try.prog 61 #[.slice (some ad) l.length c0] w fun e' w' => Post18 w [] 0 5 e' w' := by
  have h0 := h.h0; have h1 := h.h1; have h2 := h.h2
  have g0 := h.ge; have g1 := h.cap; have g2 := h.le
  have d1 : decide ((0 : Int) < (l.length : Int)) = true := decide_eq_true (by omega)
  have d2 : decide ((1 : Int) < (l.length : Int)) = true := decide_eq_true (by omega)
  have d3 : decide ((l.length : Int) < 3) = false := decide_eq_false (by omega)
  have d3' : decide (l.length < 3) = false := decide_eq_false (by omega)
  have hn0 : 0 < l.length := by omega
  have hn1 : 1 < l.length := by omega
  have hn2 : 2 < l.length := by omega
  obtain ⟨K, hK⟩ := rget_ev (l.drop 3) (by rw [List.length_drop]; omega) (Bytes.drop h.by_ 3)
  have hf := hK K (Nat.le_refl K)
  rw [hg] at hf
  have hd := Kd.C_drop (k := Kd.int .u8) h.row g0 g1
  have hln : (l.drop 3).length = l.length - 3 := List.length_drop
  have hc3 : ¬ c0 = 3 := by omega
  rw [if_neg hc3] at hd
  have hd : Kd.C (Kd.int .u8) w (some ⟨ad.block, ad.off + 3, none⟩) (l.drop 3).length (l.drop 3) := hd
  have hG := garboardref02_Get.calls K (some ⟨ad.block, ad.off + 3, none⟩) (c0 - 3) (l.drop 3) m k 0 w hd (by omega) hf
  rw [hln] at hG
  have HG := Aside0.mk hG
  have e5 : decide (2048 < m) = true := decide_eq_true hm
  clear hd hG hf hg hK h hm
  go_enter Try.func61, Try.ntmps61
  go_wp2_with ((go_at_call 58; (with_reducible refine HG.out.mono ?_); rintro e9 w9 ⟨rfl, hdr⟩; obtain ⟨nd, rfl⟩ := hdr))
  go_ret3
  exact ⟨_, rfl, Ct.nil _ _ _ _, pw_below_drewN (Below.refl _ _) _⟩
set_option maxHeartbeats 8000000 in
theorem rp_few (ad : Addr) (l : List Int) (c0 : Nat) (w : World) (h : Hd w ad l c0) (m k : Int) (hg : gt 0 0 (l.drop 3) = (m, k, 0)) (h4 : 4 ≤ l.length) (hm : 0 ≤ m ∧ m ≤ 2048) (hk : 0 ≤ k ∧ k ≤ 3000) (hs : (l.length : Int) < 3 + k + m + 4) : Calls Try.prog 61 #[.slice (some ad) l.length c0] w fun e' w' => Post18 w [] 0 4 e' w' := by
  have h0 := h.h0; have h1 := h.h1; have h2 := h.h2
  have g0 := h.ge; have g1 := h.cap; have g2 := h.le
  have d1 : decide ((0 : Int) < (l.length : Int)) = true := decide_eq_true (by omega)
  have d2 : decide ((1 : Int) < (l.length : Int)) = true := decide_eq_true (by omega)
  have d3 : decide ((l.length : Int) < 3) = false := decide_eq_false (by omega)
  have d3' : decide (l.length < 3) = false := decide_eq_false (by omega)
  have hn0 : 0 < l.length := by omega
  have hn1 : 1 < l.length := by omega
  have hn2 : 2 < l.length := by omega
  obtain ⟨K, hK⟩ := rget_ev (l.drop 3) (by rw [List.length_drop]; omega) (Bytes.drop h.by_ 3)
  have hf := hK K (Nat.le_refl K)
  rw [hg] at hf
  have hd := Kd.C_drop (k := Kd.int .u8) h.row g0 g1
  have hln : (l.drop 3).length = l.length - 3 := List.length_drop
  have hc3 : ¬ c0 = 3 := by omega
  rw [if_neg hc3] at hd
  have hd : Kd.C (Kd.int .u8) w (some ⟨ad.block, ad.off + 3, none⟩) (l.drop 3).length (l.drop 3) := hd
  have hG := garboardref02_Get.calls K (some ⟨ad.block, ad.off + 3, none⟩) (c0 - 3) (l.drop 3) m k 0 w hd (by omega) hf
  rw [hln] at hG
  have HG := Aside0.mk hG
  have e5 : decide (2048 < m) = false := decide_eq_false (by omega)
  have e6 : wrap64 m = m := w64 (by omega) (by omega)
  have e7 : wrap64 (3 + k) = 3 + k := w64 (by omega) (by omega)
  have e8 : wrap64 (3 + k + m) = 3 + k + m := w64 (by omega) (by omega)
  have e9 : wrap64 (3 + k + m + 4) = 3 + k + m + 4 := w64 (by omega) (by omega)
  have d9 : decide ((l.length : Int) < 3 + k + m + 4) = true := decide_eq_true hs
  clear hd hG hf hg hK h hm hk hs
  go_enter Try.func61, Try.ntmps61
  go_wp2_with ((go_at_call 58; (with_reducible refine HG.out.mono ?_); rintro e9 w9 ⟨rfl, hdr⟩; obtain ⟨nd, rfl⟩ := hdr))
  go_ret3
  exact ⟨_, rfl, Ct.nil _ _ _ _, pw_below_drewN (Below.refl _ _) _⟩
set_option maxHeartbeats 8000000 in
theorem rp_bad (ad : Addr) (l : List Int) (c0 : Nat) (w : World) (h : Hd w ad l c0) (m k : Int) (hg : gt 0 0 (l.drop 3) = (m, k, 0)) (h4 : 4 ≤ l.length) (hm : 0 ≤ m ∧ m ≤ 2048) (hk : 0 ≤ k ∧ k ≤ 3000) (E : Nat) (hE : 3 + k + m + 4 = (E : Int)) (hs : E ≤ l.length) (x1 : List Int) (f : Int) (ho : Crc.openV (l.take E) = (x1, f)) (hf0 : f ≠ 0) : Calls Try.prog 61 #[.slice (some ad) l.length c0] w fun e' w' => Post18 w [] 0 8 e' w' := by
  have h0 := h.h0; have h1 := h.h1; have h2 := h.h2
  have g0 := h.ge; have g1 := h.cap; have g2 := h.le
  have d1 : decide ((0 : Int) < (l.length : Int)) = true := decide_eq_true (by omega)
  have d2 : decide ((1 : Int) < (l.length : Int)) = true := decide_eq_true (by omega)
  have d3 : decide ((l.length : Int) < 3) = false := decide_eq_false (by omega)
  have d3' : decide (l.length < 3) = false := decide_eq_false (by omega)
  have hn0 : 0 < l.length := by omega
  have hn1 : 1 < l.length := by omega
  have hn2 : 2 < l.length := by omega
  obtain ⟨K, hK⟩ := rget_ev (l.drop 3) (by rw [List.length_drop]; omega) (Bytes.drop h.by_ 3)
  have hf := hK K (Nat.le_refl K)
  rw [hg] at hf
  have hd := Kd.C_drop (k := Kd.int .u8) h.row g0 g1
  have hln : (l.drop 3).length = l.length - 3 := List.length_drop
  have hc3 : ¬ c0 = 3 := by omega
  rw [if_neg hc3] at hd
  have hd : Kd.C (Kd.int .u8) w (some ⟨ad.block, ad.off + 3, none⟩) (l.drop 3).length (l.drop 3) := hd
  have hG := garboardref02_Get.calls K (some ⟨ad.block, ad.off + 3, none⟩) (c0 - 3) (l.drop 3) m k 0 w hd (by omega) hf
  rw [hln] at hG
  have HG := Aside0.mk hG
  have e5 : decide (2048 < m) = false := decide_eq_false (by omega)
  have e6 : wrap64 m = m := w64 (by omega) (by omega)
  have e7 : wrap64 (3 + k) = 3 + k := w64 (by omega) (by omega)
  have e8 : wrap64 (3 + k + m) = 3 + k + m := w64 (by omega) (by omega)
  have e9 : wrap64 (3 + k + m + 4) = (E : Int) := by rw [hE]; exact w64 (by omega) (by omega)
  have d9 : decide ((l.length : Int) < (E : Int)) = false := decide_eq_false (by omega)
  have d9' : decide (l.length < E) = false := decide_eq_false (by omega)
  have hEc : E ≤ c0 := by omega
  obtain ⟨K2, hK2⟩ := Crc.ropen_ev (l.take E) (by rw [List.length_take]; omega) (Bytes.take h.by_ E)
  have hf2 := hK2 K2 (Nat.le_refl K2)
  rw [ho] at hf2
  have htl : (l.take E).length = E := List.length_take_of_le hs
  have HO := Aside0.mk (show ∀ n, Calls Try.prog 67 #[.slice (some ad) E c0] (World.drewN w n) fun e w' => ∃ v0_ : Value, e = .returned (.tuple #[v0_, .int .i64 f]) ∧ Kd.R (Kd.int .u8) 5 w' (World.drewN w n).heap.size (fun _ => True) v0_ x1 ∧ Below (World.drewN w n).heap.size (World.drewN w n) w' from fun n => by
    have q := garboardref03_Open.calls K2 (some ad) c0 (l.take E) x1 f (World.drewN w n) (Kd.C_drewN (Kd.C_take h.row hs) n) (by omega) hf2
    rw [htl] at q
    exact q)
  have ff : (f != 0) = true := by simpa using hf0
  clear hd hG hf hg hK h hm hk hE ho hf0 hK2 hf2 htl
  go_enter Try.func61, Try.ntmps61
  go_wp2_with (first | (go_at_call 58; (with_reducible refine HG.out.mono ?_); rintro e9 w9 ⟨rfl, hdr⟩; obtain ⟨nd, rfl⟩ := hdr) | (go_at_call 67; (with_reducible refine (HO.out _).mono ?_); rintro e8 w8 ⟨v, rfl, hR, hb⟩; have HR := Aside0.mk (ls_of hR); have HZ := Aside0.mk (below_step (pw_below_drewN (Below.refl w.heap.size w) _) hb); clear hR hb))
  go_ret3
  exact ⟨_, rfl, Ct.nil _ _ _ _, HZ.out⟩
set_option maxHeartbeats 8000000 in
theorem rp_good (ad : Addr) (l : List Int) (c0 : Nat) (w : World) (h : Hd w ad l c0) (m k : Int) (hg : gt 0 0 (l.drop 3) = (m, k, 0)) (h4 : 4 ≤ l.length) (hm : 0 ≤ m ∧ m ≤ 2048) (hk : 0 ≤ k ∧ k ≤ 3000) (j E : Nat) (hj : 3 + k = (j : Int)) (hE : (j : Int) + m + 4 = (E : Int)) (hs : E ≤ l.length) (x1 : List Int) (ho : Crc.openV (l.take E) = (x1, 0)) (hx1 : x1.length + 4 = E) (hx0 : 3 ≤ j) : Calls Try.prog 61 #[.slice (some ad) l.length c0] w fun e' w' => Post18 w (x1.drop j) (E : Int) 0 e' w' := by
  have h0 := h.h0; have h1 := h.h1; have h2 := h.h2
  have g0 := h.ge; have g1 := h.cap; have g2 := h.le
  have d1 : decide ((0 : Int) < (l.length : Int)) = true := decide_eq_true (by omega)
  have d2 : decide ((1 : Int) < (l.length : Int)) = true := decide_eq_true (by omega)
  have d3 : decide ((l.length : Int) < 3) = false := decide_eq_false (by omega)
  have d3' : decide (l.length < 3) = false := decide_eq_false (by omega)
  have hn0 : 0 < l.length := by omega
  have hn1 : 1 < l.length := by omega
  have hn2 : 2 < l.length := by omega
  obtain ⟨K, hK⟩ := rget_ev (l.drop 3) (by rw [List.length_drop]; omega) (Bytes.drop h.by_ 3)
  have hf := hK K (Nat.le_refl K)
  rw [hg] at hf
  have hd := Kd.C_drop (k := Kd.int .u8) h.row g0 g1
  have hln : (l.drop 3).length = l.length - 3 := List.length_drop
  have hc3 : ¬ c0 = 3 := by omega
  rw [if_neg hc3] at hd
  have hd : Kd.C (Kd.int .u8) w (some ⟨ad.block, ad.off + 3, none⟩) (l.drop 3).length (l.drop 3) := hd
  have hG := garboardref02_Get.calls K (some ⟨ad.block, ad.off + 3, none⟩) (c0 - 3) (l.drop 3) m k 0 w hd (by omega) hf
  rw [hln] at hG
  have HG := Aside0.mk hG
  have e5 : decide (2048 < m) = false := decide_eq_false (by omega)
  have e6 : wrap64 m = m := w64 (by omega) (by omega)
  have e7 : wrap64 (3 + k) = (j : Int) := by rw [hj]; exact w64 (by omega) (by omega)
  have e8 : wrap64 ((j : Int) + m) = (j : Int) + m := w64 (by omega) (by omega)
  have e9 : wrap64 ((j : Int) + m + 4) = (E : Int) := by rw [hE]; exact w64 (by omega) (by omega)
  have d9 : decide ((l.length : Int) < (E : Int)) = false := decide_eq_false (by omega)
  have d9' : decide (l.length < E) = false := decide_eq_false (by omega)
  have hEc : E ≤ c0 := by omega
  obtain ⟨K2, hK2⟩ := Crc.ropen_ev (l.take E) (by rw [List.length_take]; omega) (Bytes.take h.by_ E)
  have hf2 := hK2 K2 (Nat.le_refl K2)
  rw [ho] at hf2
  have htl : (l.take E).length = E := List.length_take_of_le hs
  have HO := Aside0.mk (show ∀ n, Calls Try.prog 67 #[.slice (some ad) E c0] (World.drewN w n) fun e w' => ∃ v0_ : Value, e = .returned (.tuple #[v0_,   .int .i64 0]) ∧ Kd.R (Kd.int .u8) 5 w' (World.drewN w n).heap.size (fun _ => True) v0_ x1 ∧ Below (World.drewN w n).heap.size (World.drewN w n) w' from fun n => by
    have q := garboardref03_Open.calls K2 (some ad) c0 (l.take E) x1 0 (World.drewN w n) (Kd.C_drewN (Kd.C_take h.row hs) n) (by omega) hf2
    rw [htl] at q
    exact q)
  have hjl : j ≤ x1.length := by omega
  have hs1 : (0 : Int) ≤ (j : Int) := by omega
  have hs2 : (j : Int) ≤ (x1.length : Int) := by omega
  have HJ := Aside0.mk (show j ≤ x1.length ∧ 3 ≤ x1.length from by omega)
  clear hd hG hf hg hK h hm hk hE hj ho hx1 hK2 hf2 htl
  go_enter Try.func61, Try.ntmps61
  go_wp2_with (first | (go_at_call 58; (with_reducible refine HG.out.mono ?_); rintro e9 w9 ⟨rfl, hdr⟩; obtain ⟨nd, rfl⟩ := hdr) | (go_at_call 67; (with_reducible refine (HO.out _).mono ?_); rintro e8 w8 ⟨v, rfl, hR, hb⟩; have HR := Aside0.mk (ls_of hR); have HZ := Aside0.mk (below_step (pw_below_drewN (Below.refl w.heap.size w) _) hb); clear hR hb; obtain ⟨g9, c9, rfl, hc9⟩ := own_some HR.out (by have := HJ.out; omega)))
  all_goals go_ret3
  all_goals exact ⟨_, rfl, by have q := (Ct.of_ls HR.out).drop HJ.out.1; first | (rw [if_pos rfl, Nat.sub_self] at q; exact q) | (rw [if_neg (by assumption), show 0 + j * encB.sz = j by show 0 + j * 1 = j; omega] at q; exact q) | (rw [if_pos (by assumption), show c9 - j = 0 by omega] at q; exact q), HZ.out⟩
theorem hd_of {l : List Int} {A : Option Addr} {c0 : Nat} {w : World} (hb : Kd.C (Kd.int .u8) w A l.length l) (hc : l.length ≤ c0) (hl : l.length ≤ 3000) (hbs : Bytes l) {t : List Int} (e : l = 71 :: 98 :: 1 :: t) : ∃ ad, A = some ad ∧ Hd w ad l c0 := by
  obtain ⟨ad, rfl, h⟩ := cell_of hb (by rw [e]; simp)
  have n3 : 3 ≤ l.length := by rw [e]; simp
  refine ⟨ad, rfl, hb, n3, hc, hl, hbs, ?_, ?_, ?_⟩
  · have := h 0 (by omega); rw [e] at this; simpa [Addr.add] using this
  · have := h 1 (by omega); rw [e] at this; exact this
  · have := h 2 (by omega); rw [e] at this; exact this
theorem head_gb (t : List Int) : headV (71 :: 98 :: t) = endV (71 :: 98 :: t) := by rw [headV, if_pos rfl, if_pos rfl]
/-- What the document's Parse finds, seen from the good beginning on. -/
theorem parse_gb (t : List Int) (hbs : Bytes (71 :: 98 :: 1 :: t)) (l : List Int) (e' : l = 71 :: 98 :: 1 :: t) (m k e : Int) (hg : gt 0 0 (l.drop 3) = (m, k, e)) :
    (e ≠ 0 ∧ parseV l = ([], 0, e)) ∨ (e = 0 ∧ 4 ≤ l.length ∧ 0 ≤ m ∧ 0 ≤ k ∧ 3 + k ≤ l.length ∧
      ((2048 < m ∧ parseV l = ([], 0, 5)) ∨ (m ≤ 2048 ∧ (l.length : Int) < 3 + k + m + 4 ∧ parseV l = ([], 0, 4)) ∨
        ∃ j E : Nat, m ≤ 2048 ∧ 3 + k = (j : Int) ∧ 3 ≤ j ∧ (j : Int) + m + 4 = (E : Int) ∧ E ≤ l.length ∧
          ((∃ x1 f, Crc.openV (l.take E) = (x1, f) ∧ f ≠ 0 ∧ parseV l = ([], 0, 8)) ∨ ∃ x1, Crc.openV (l.take E) = (x1, 0) ∧ x1.length + 4 = E ∧ parseV l = (x1.drop j, (E : Int), 0)))) := by
  have hh : headV l = endV l := by rw [e']; exact head_gb _
  have hb3 : Bytes (l.drop 3) := Bytes.drop (by rw [e']; exact hbs) 3
  have n3 : 3 ≤ l.length := by rw [e']; simp
  have h2 : rd l 2 = 1 := by rw [e']; rfl
  have hend : endV l = if e = 0 then (if m > 2048 then (0, 0, 5) else (m, 3 + k, 0)) else (0, 0, e) := by
    unfold endV
    rw [if_neg (by omega), if_pos h2, hg]
  rw [hend] at hh
  by_cases he : e = 0
  rotate_left
  · rw [if_neg he] at hh
    exact Or.inl ⟨he, by unfold parseV; rw [hh]; dsimp only; rw [if_neg he]⟩
  subst he
  obtain ⟨g1, g2, g3, g4, g5, g6, g7⟩ := vb_gt0 hb3 hg
  rw [List.length_drop] at g7
  rw [if_pos rfl] at hh
  refine Or.inr ⟨rfl, by omega, g1, by omega, by omega, ?_⟩
  by_cases hm : m > 2048
  · rw [if_pos hm] at hh
    exact Or.inl ⟨hm, by unfold parseV; rw [hh]; rfl⟩
  rw [if_neg hm] at hh
  by_cases hs : (l.length : Int) < 3 + k + m + 4
  · exact Or.inr (Or.inl ⟨by omega, hs, by unfold parseV; rw [hh]; dsimp only; rw [if_pos rfl, if_pos hs]⟩)
  refine Or.inr (Or.inr ⟨(3 + k).toNat, (3 + k + m + 4).toNat, by omega, by omega, by omega, by omega, by omega, ?_⟩)
  generalize hE : (3 + k + m + 4).toNat = E
  have hEl : (l.take E).length = E := List.length_take_of_le (by omega)
  have hp : parseV l = if (Crc.openV (l.take E)).2 = 0 then ((l.take (3 + k + m).toNat).drop (3 + k).toNat, 3 + k + m + 4, 0) else ([], 0, (Crc.openV (l.take E)).2) := by
    unfold parseV
    rw [hh]
    dsimp only
    rw [if_pos rfl, if_neg hs, hE]
  have ho : Crc.openV (l.take E) = if (l.take E).drop (E - 4) = Crc.b4 (Crc.sumV ((l.take E).take (E - 4))) then ((l.take E).take (E - 4), 0) else ([], 8) := by
    unfold Crc.openV
    rw [hEl, if_neg (by omega)]
  by_cases hc : (l.take E).drop (E - 4) = Crc.b4 (Crc.sumV ((l.take E).take (E - 4)))
  · rw [if_pos hc] at ho
    refine Or.inr ⟨(l.take E).take (E - 4), ho, by rw [List.length_take_of_le (by omega)]; omega, ?_⟩
    rw [hp, ho, if_pos rfl, List.take_take, Nat.min_eq_left (by omega)]
    refine Prod.ext ?_ (Prod.ext (by show 3 + k + m + 4 = (E : Int); omega) rfl)
    show List.drop _ (List.take _ l) = _
    rw [show (3 + k + m).toNat = E - 4 by omega]
  · rw [if_neg hc] at ho
    exact Or.inl ⟨[], 8, ho, by decide, by rw [hp, ho]; rfl⟩
theorem rparse_c (A : Option Addr) (c0 : Nat) (l : List Int) (hl : l.length ≤ 3000) (hc : l.length ≤ c0) (hbs : Bytes l) (x : List Int) (m e : Int) (hp : parseV l = (x, m, e)) (w : World) (hb : Kd.C (Kd.int .u8) w A l.length l) : Calls Try.prog 61 #[.slice A l.length c0] w fun e' w' => Post18 w x m e e' w' := by
  match l, hl, hc, hbs, hp, hb with
  | [], _, _, _, hp, _ =>
    have q : parseV [] = ([], 0, 4) := by unfold parseV headV; rfl
    rw [q] at hp
    simp only [Prod.mk.injEq] at hp
    obtain ⟨rfl, rfl, rfl⟩ := hp
    exact rp_nil A c0 w
  | [a], hl, hc, hbs, hp, hb =>
    obtain ⟨ad, rfl, h⟩ := cell_of hb (by simp)
    have h0 : w.cell? ad = some (.int .u8 a) := by have := h 0 (by simp); simpa [Addr.add] using this
    by_cases ha : a = 71
    · subst ha
      have q : parseV [71] = ([], 0, 4) := by unfold parseV headV; rfl
      rw [q] at hp
      simp only [Prod.mk.injEq] at hp
      obtain ⟨rfl, rfl, rfl⟩ := hp
      exact rp_one ad c0 w h0
    · have hh : headV [a] = (0, 0, 3) := by rw [headV, if_neg ha]
      have q : parseV [a] = ([], 0, 3) := by unfold parseV; rw [hh]; rfl
      rw [q] at hp
      simp only [Prod.mk.injEq] at hp
      obtain ⟨rfl, rfl, rfl⟩ := hp
      exact rp_no ad 1 c0 a (by decide) ha w h0
  | a :: b :: t, hl, hc, hbs, hp, hb =>
    obtain ⟨ad, rfl, h⟩ := cell_of hb (by simp)
    have h0 : w.cell? ad = some (.int .u8 a) := by have := h 0 (by simp); simpa [Addr.add] using this
    have h1 : w.cell? ⟨ad.block, ad.off + 1, none⟩ = some (.int .u8 b) := h 1 (by simp)
    by_cases ha : a = 71
    rotate_left
    · have hh : headV (a :: b :: t) = (0, 0, 3) := by rw [headV, if_neg ha]
      have q : parseV (a :: b :: t) = ([], 0, 3) := by unfold parseV; rw [hh]; rfl
      rw [q] at hp
      simp only [Prod.mk.injEq] at hp
      obtain ⟨rfl, rfl, rfl⟩ := hp
      exact rp_no ad _ c0 a (by simp) ha w h0
    by_cases hb' : b = 98
    rotate_left
    · have hh : headV (a :: b :: t) = (0, 0, 3) := by rw [headV, if_pos ha, if_neg hb']
      have q : parseV (a :: b :: t) = ([], 0, 3) := by unfold parseV; rw [hh]; rfl
      rw [q] at hp
      simp only [Prod.mk.injEq] at hp
      obtain ⟨rfl, rfl, rfl⟩ := hp
      subst ha
      exact rp_two ad _ c0 b (by simp) hb' w h0 h1
    subst ha hb'
    match t, hl, hc, hbs, hp, hb, h, h1 with
    | [], hl, hc, hbs, hp, hb, h, h1 =>
      have q : parseV [71, 98] = ([], 0, 4) := by unfold parseV; rw [head_gb]; unfold endV; rfl
      rw [q] at hp
      simp only [Prod.mk.injEq] at hp
      obtain ⟨rfl, rfl, rfl⟩ := hp
      exact rp_short ad c0 w h0 h1
    | c :: t, hl, hc, hbs, hp, hb, h, h1 =>
      have h2 : w.cell? ⟨ad.block, ad.off + 2, none⟩ = some (.int .u8 c) := h 2 (by simp)
      by_cases hc1 : c = 1
      rotate_left
      · have q : parseV (71 :: 98 :: c :: t) = ([], 0, 11) := by
          have qe : endV (71 :: 98 :: c :: t) = (0, 0, 11) := by
            unfold endV
            rw [if_neg (by simp), if_neg (show ¬ rd (71 :: 98 :: c :: t) 2 = 1 from hc1)]
          unfold parseV; rw [head_gb, qe]; rfl
        rw [q] at hp
        simp only [Prod.mk.injEq] at hp
        obtain ⟨rfl, rfl, rfl⟩ := hp
        exact rp_ver ad _ c0 c (by simp) hc1 w h0 h1 h2
      subst hc1
      clear h0 h1 h2 h
      generalize hl' : 71 :: 98 :: 1 :: t = l at *
      have e' : l = 71 :: 98 :: 1 :: t := hl'.symm
      obtain ⟨ad', ea, HD⟩ := hd_of hb hc hl hbs e'
      cases ea
      rcases hg : gt 0 0 (l.drop 3) with ⟨m', k', e1⟩
      rcases parse_gb t (e' ▸ hbs) l e' m' k' e1 hg with ⟨he, q⟩ | ⟨rfl, n4, gm, gk, gl, ⟨hm, q⟩ | ⟨hm, hs, q⟩ | ⟨j, E, hm, hj, hj3, hE, hs, ⟨x1, f, ho, hf, q⟩ | ⟨x1, ho, hx1, q⟩⟩⟩
      · rw [q] at hp
        simp only [Prod.mk.injEq] at hp
        obtain ⟨rfl, rfl, rfl⟩ := hp
        exact rp_get ad l c0 w HD m' k' _ hg he
      · rw [q] at hp
        simp only [Prod.mk.injEq] at hp
        obtain ⟨rfl, rfl, rfl⟩ := hp
        exact rp_many ad l c0 w HD m' k' hg n4 hm
      · rw [q] at hp
        simp only [Prod.mk.injEq] at hp
        obtain ⟨rfl, rfl, rfl⟩ := hp
        exact rp_few ad l c0 w HD m' k' hg n4 ⟨gm, hm⟩ ⟨gk, by omega⟩ hs
      · rw [q] at hp
        simp only [Prod.mk.injEq] at hp
        obtain ⟨rfl, rfl, rfl⟩ := hp
        exact rp_bad ad l c0 w HD m' k' hg n4 ⟨gm, hm⟩ ⟨gk, by omega⟩ E (by omega) hs x1 f ho hf
      · rw [q] at hp
        simp only [Prod.mk.injEq] at hp
        obtain ⟨rfl, rfl, rfl⟩ := hp
        exact rp_good ad l c0 w HD m' k' hg n4 ⟨gm, hm⟩ ⟨gk, by omega⟩ j E hj hE hs x1 ho hx1 hj3
def oneV (l : List Int) : List Int × Int := if (parseV l).2.2 = 0 then (if (parseV l).2.1 < l.length then ([], 3) else ((parseV l).1, 0)) else ([], (parseV l).2.2)
theorem one_ev (l : List Int) (hl : l.length ≤ 100000) (hb : Bytes l) : Ev (fun k => frame_One.f k l) (oneV l) := by
  unfold frame_One.f oneV
  refine Ev.bind (parse_ev l hl hb) ?_
  by_cases he : (parseV l).2.2 = 0
  · refine ev_eq (ev_ifT he ?_) (if_pos he).symm
    by_cases hn : (parseV l).2.1 < l.length
    · exact ev_eq (ev_ifT hn (Ev.now _)) (if_pos hn).symm
    · exact ev_eq (ev_ifF hn (Ev.now _)) (if_neg hn).symm
  · exact ev_eq (ev_ifF he (Ev.now _)) (if_neg he).symm
def Post19 (w : World) (x : List Int) (e0 : Int) (e : Ending) (w' : World) : Prop := ∃ v, e = .returned (.tuple #[v, .int .i64 e0]) ∧ Ct encB 5 w' w.heap.size v x ∧ Below w.heap.size w w'
set_option maxHeartbeats 8000000 in
theorem rone_c (A : Option Addr) (c0 : Nat) (l : List Int) (hl : l.length ≤ 3000) (hc : l.length ≤ c0) (hbs : Bytes l) (x : List Int) (e : Int) (ho : oneV l = (x, e)) (w : World) (hb : Kd.C (Kd.int .u8) w A l.length l) : Calls Try.prog 45 #[.slice A l.length c0] w fun e' w' => Post19 w x e e' w' := by
  rcases hp : parseV l with ⟨y, m, f⟩
  have HP := Aside0.mk (rparse_c A c0 l hl hc hbs y m f hp w hb)
  unfold oneV at ho
  rw [hp] at ho
  dsimp only at ho
  by_cases he : f = 0
  · subst he
    rw [if_pos rfl] at ho
    obtain ⟨a1, a2, a3, a4, a5⟩ := again hbs hp
    by_cases hn : m < l.length
    · rw [if_pos hn] at ho
      obtain ⟨rfl, rfl⟩ := Prod.mk.inj ho
      have f1 : (m != (l.length : Int)) = true := by simp; omega
      clear hp hb hc hl hbs ho a1 a2 a3 a4 a5 hn
      go_enter Try.func45, Try.ntmps45
      go_wp2_with (first | (go_at_call 61; (with_reducible refine HP.out.mono ?_); rintro e8 w9 ⟨v, rfl, hv, hb9⟩; have HV := Aside0.mk hv; have HZ := Aside0.mk hb9; clear hv hb9))
      go_ret2
      exact ⟨_, rfl, Ct.nil _ _ _ _, HZ.out⟩
    · rw [if_neg hn] at ho
      obtain ⟨rfl, rfl⟩ := Prod.mk.inj ho
      obtain rfl : m = (l.length : Int) := by omega
      clear hp hb hc hl hbs ho a1 a2 a3 a4 a5 hn
      go_enter Try.func45, Try.ntmps45
      go_wp2_with (first | (go_at_call 61; (with_reducible refine HP.out.mono ?_); rintro e8 w9 ⟨v, rfl, hv, hb9⟩; have HV := Aside0.mk hv; have HZ := Aside0.mk hb9; clear hv hb9))
      go_ret2
      exact ⟨_, rfl, HV.out, HZ.out⟩
  · rw [if_neg he] at ho
    obtain ⟨rfl, rfl⟩ := Prod.mk.inj ho
    have f1 : (f != 0) = true := by simpa using he
    clear hp hb hc hl hbs ho he
    go_enter Try.func45, Try.ntmps45
    go_wp2_with (first | (go_at_call 61; (with_reducible refine HP.out.mono ?_); rintro e8 w9 ⟨v, rfl, hv, hb9⟩; have HV := Aside0.mk hv; have HZ := Aside0.mk hb9; clear hv hb9))
    go_ret2
    exact ⟨_, rfl, Ct.nil _ _ _ _, HZ.out⟩
theorem C_of_ct {W : World} {b0 : Nat} {A : Option Addr} {n c : Nat} {xs : List Int} (h : Ct encB 5 W b0 (.slice A n c) xs) (hx : xs.length ≤ 100000) : Kd.C (Kd.int .u8) W A xs.length xs := by
  refine Kd.C_of_reads (enc := Value.int .u8) (d := (0 : Int)) (h1 := fun _ => rfl) ⟨rfl, by omega, fun h0 => ?_⟩
  obtain ⟨x, hx0⟩ : ∃ x, xs[0]? = some x := ⟨_, List.getElem?_eq_getElem h0⟩
  obtain ⟨g, o, rfl, _, _⟩ := h.at hx0
  refine ⟨_, rfl, fun j hj => ?_⟩
  obtain ⟨y, hy⟩ : ∃ y, xs[j]? = some y := ⟨_, List.getElem?_eq_getElem hj⟩
  obtain ⟨g', o', e, _, q⟩ := h.at hy
  cases e
  have q0 := q 0 _ rfl
  rw [Lst.add_at, show o + j = o + j * encB.sz + 0 from by rw [show encB.sz = 1 from rfl]; omega, q0]
  rw [List.getD_eq_getElem?_getD, hy]; rfl
theorem parse_len {l : List Int} (hb : Bytes l) {x : List Int} {m e : Int} (h : parseV l = (x, m, e)) : x.length ≤ 2048 := by
  by_cases he : e = 0
  · subst he; exact (again hb h).2.2.2.1
  · rw [(parse_err h he).1]; exact Nat.zero_le _
theorem one_len {l : List Int} (hb : Bytes l) {x : List Int} {e : Int} (h : oneV l = (x, e)) : x.length ≤ 2048 := by
  unfold oneV at h
  rcases hp : parseV l with ⟨y, m, f⟩
  rw [hp] at h
  dsimp only at h
  have := parse_len hb hp
  split at h
  · split at h <;> (obtain ⟨rfl, _⟩ := Prod.mk.inj h) <;> first | exact Nat.zero_le _ | exact this
  · obtain ⟨rfl, _⟩ := Prod.mk.inj h; exact Nat.zero_le _
end Go.Proofs.Ytbfmbjkalldonaa.Frm
