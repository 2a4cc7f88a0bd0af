/- msg: MsgApart's walk, and what it leans on; no condition but those that stand in each. -/
import Derived.Test.YtbfmbjkalldonaaMsZ1
import Derived.Test.YtbfmbjkalldonaaProg
import Derived.Test.YtbfmbjkalldonaaPAx1
import Derived.Deep.QuietTactic
import Derived.BigQuiet
import Derived.BigRegion
import Derived.RegionTactic
import Derived.Deep.RegionHeld3
import Derived.Deep.RegionLaw
import Derived.WalkSpells
import Derived.LoopTactic
import Derived.Deep.LoopGhost
import Derived.Shelf.Abstract
import Derived.OwnWalk
import Derived.ProofKit
import Derived.OpenShut
import Derived.ChangeSlices
import Derived.ChangeArms
import Derived.ChangeSame
import Derived.Deep.Strs
import Derived.Lib.SmallJoins
import Derived.Lib.Bytes
import Derived.Test.YtbfmbjkalldonaaPAx9
namespace Go.Proofs.Ytbfmbjkalldonaa.Msg
set_option linter.unusedVariables false
set_option linter.unusedSimpArgs false
open Go.RowKit Go.Proofs.Ytbfmbjkalldonaa.PA Go.Proofs.YtbfmbjkalldonaaW.PrintWords Go.Proofs.YtbfmbjkalldonaaW.PrintLast Go.Proofs.YtbfmbjkalldonaaW.PrintMore Go.Proofs.Ytbfmbjkalldonaa.Base Go.Proofs.Ytbfmbjkalldonaa.Var Go.Proofs.Ytbfmbjkalldonaa.Lst
/-! ### read, then laid -/
theorem num_read {b : List Int} (hb : Bytes b) {e most x : Int} {b' : List Int} (h : numV b e most = (x, b', 0)) : e = 0 ∧ b = vb x.toNat ++ b' := by
  unfold numV at h
  by_cases h0 : e = 0
  · rw [if_pos h0] at h
    refine ⟨h0, ?_⟩
    rcases hg : gt 0 0 b with ⟨n, k, e1⟩
    rw [hg] at h
    dsimp only at h
    by_cases h1 : e1 = 0
    · rw [if_pos h1] at h
      subst h1
      obtain ⟨g1, g2, g3, g4, g5, g6, g7⟩ := vb_gt0 hb hg
      split at h
      · simp only [Prod.mk.injEq] at h
        exact absurd h.2.2 (by decide)
      · simp only [Prod.mk.injEq, and_true] at h
        obtain ⟨rfl, rfl⟩ := h
        rw [g3, Int.toNat_natCast]
        conv => lhs; rw [← List.take_append_drop (vb n.toNat).length b]
        rw [g5]
    · rw [if_neg h1] at h
      simp only [Prod.mk.injEq] at h
      exact absurd h.2.2 h1
  · rw [if_neg h0] at h
    simp only [Prod.mk.injEq] at h
    exact absurd h.2.2 h0
theorem nums_read : ∀ (q : Nat) {b : List Int} (hb : Bytes b) {e : Int} {xs b' : List Int}, numsV q b e = (xs, b', 0) → e = 0 ∧ xs.length = q ∧ b = flat xs ++ b'
  | 0, b, hb, e, xs, b', h => by
    simp only [numsV, Prod.mk.injEq] at h
    obtain ⟨rfl, rfl, rfl⟩ := h
    exact ⟨rfl, rfl, rfl⟩
  | q + 1, b, hb, e, xs, b', h => by
    unfold numsV at h
    by_cases h0 : e = 0
    · rw [if_pos h0] at h
      rcases hn : numV b e 63 with ⟨x, b1, e1⟩
      rw [hn] at h
      dsimp only at h
      rcases hq : numsV q b1 e1 with ⟨ys, b2, e2⟩
      rw [hq] at h
      simp only [Prod.mk.injEq] at h
      obtain ⟨rfl, rfl, rfl⟩ := h
      have hb1 : Bytes b1 := by have := (num_bd hb e 63 (by decide)).2.2.1; rw [hn] at this; exact this
      obtain ⟨rfl, i2, i3⟩ := nums_read q hb1 hq
      obtain ⟨_, j2⟩ := num_read hb hn
      refine ⟨h0, by rw [List.length_cons, i2], ?_⟩
      rw [j2, i3, flat_cons, List.append_assoc]
    · rw [if_neg h0] at h
      simp only [Prod.mk.injEq] at h
      exact absurd h.2.2 h0
theorem list_read {b : List Int} (hb : Bytes b) {e : Int} {xs b' : List Int} (h : listV b e = (xs, b', 0)) : e = 0 ∧ b = flat ((xs.length : Int) :: xs) ++ b' := by
  unfold listV at h
  rcases hn : numV b e 256 with ⟨x, b1, e1⟩
  have hbd := num_bd hb e 256 (by decide)
  rw [hn] at h hbd
  dsimp only at h hbd
  obtain ⟨rfl, i2, i3⟩ := nums_read x.toNat hbd.2.2.1 h
  obtain ⟨h0, j2⟩ := num_read hb hn
  refine ⟨h0, ?_⟩
  rw [j2, i3, flat_cons, List.append_assoc, i2, Int.toNat_natCast]
def othersV (m m' : Ms) (c : Int) : Prop := ∀ d, isL d → d ≠ c → wordsV m' d = wordsV m d ∧ bareV m' d = bareV m d
theorem set_others (m : Ms) (c x : Int) (hc : c = 115 ∨ c = 101 ∨ c = 97 ∨ c = 105 ∨ c = 110 ∨ c = 99) : othersV m (setV m c x) c ∧ wordsV (setV m c x) c = [x] := by
  constructor
  · intro d hd hne
    rcases hc with rfl | rfl | rfl | rfl | rfl | rfl <;> rcases hd with rfl | rfl | rfl | rfl | rfl | rfl | rfl | rfl | rfl <;> first | exact absurd rfl hne | exact ⟨rfl, rfl⟩
  · rcases hc with rfl | rfl | rfl | rfl | rfl | rfl <;> rfl
theorem flat_one' (x : Int) : flat [x] = vb x.toNat := by simp [flat]
theorem field_read {m : Ms} {b : List Int} (hb : Bytes b) {e c : Int} (hc : isL c) {m' : Ms} {b' : List Int} (h : fieldV m b e c = (m', b', 0)) : e = 0 ∧ b = flat (wordsV m' c) ++ b' ∧ othersV m m' c := by
  have six : ∀ c : Int, c = 115 ∨ c = 101 ∨ c = 97 ∨ c = 105 ∨ c = 110 ∨ c = 99 → fieldV m b e c = (m', b', 0) → e = 0 ∧ b = flat (wordsV m' c) ++ b' ∧ othersV m m' c := by
    intro c hc h
    unfold fieldV at h
    rw [if_neg (by omega), if_neg (by omega), if_neg (by omega)] at h
    rcases hn : numV b e top with ⟨x, b1, e1⟩
    rw [hn] at h
    simp only [Prod.mk.injEq] at h
    obtain ⟨rfl, rfl, rfl⟩ := h
    obtain ⟨h0, j⟩ := num_read hb hn
    obtain ⟨o1, o2⟩ := set_others m c x hc
    exact ⟨h0, by rw [o2, flat_one']; exact j, o1⟩
  rcases hc with rfl | rfl | rfl | rfl | rfl | rfl | rfl | rfl | rfl
  · exact six _ (by decide) h
  · exact six _ (by decide) h
  · exact six _ (by decide) h
  · exact six _ (by decide) h
  · exact six _ (by decide) h
  · exact six _ (by decide) h
  · unfold fieldV at h
    rw [if_pos rfl] at h
    rcases hn : numV b e 255 with ⟨x, b1, e1⟩
    rw [hn] at h
    simp only [Prod.mk.injEq] at h
    obtain ⟨rfl, rfl, rfl⟩ := h
    obtain ⟨h0, j⟩ := num_read hb hn
    refine ⟨h0, by rw [show wordsV { m with why := x } 119 = [x] from rfl, flat_one']; exact j, fun d hd hne => ?_⟩
    rcases hd with rfl | rfl | rfl | rfl | rfl | rfl | rfl | rfl | rfl <;> first | exact absurd rfl hne | exact ⟨rfl, rfl⟩
  · unfold fieldV at h
    rw [if_neg (by decide), if_pos rfl] at h
    rcases hn : numV b e top with ⟨x1, b1, e1⟩
    rcases hn2 : numV b1 e1 256 with ⟨x2, b2, e2⟩
    rcases hn3 : listV b2 e2 with ⟨xs, b3, e3⟩
    rw [hn] at h
    dsimp only at h
    rw [hn2] at h
    dsimp only at h
    rw [hn3] at h
    simp only [Prod.mk.injEq] at h
    obtain ⟨rfl, rfl, rfl⟩ := h
    have hb1 : Bytes b1 := by have := (num_bd hb e top (by decide)).2.2.1; rw [hn] at this; exact this
    have hb2 : Bytes b2 := by have := (num_bd hb1 e1 256 (by decide)).2.2.1; rw [hn2] at this; exact this
    obtain ⟨rfl, j3⟩ := list_read hb2 hn3
    obtain ⟨rfl, j2⟩ := num_read hb1 hn2
    obtain ⟨h0, j1⟩ := num_read hb hn
    refine ⟨h0, ?_, fun d hd hne => ?_⟩
    · rw [show wordsV { m with seed := x1, most := x2, P := xs } 106 = x1 :: x2 :: (xs.length : Int) :: xs from rfl, j1, j2, j3]
      rw [flat_cons x1, flat_cons x2]
      simp only [List.append_assoc]
    · rcases hd with rfl | rfl | rfl | rfl | rfl | rfl | rfl | rfl | rfl <;> first | exact absurd rfl hne | exact ⟨rfl, rfl⟩
  · unfold fieldV at h
    rw [if_neg (by decide), if_neg (by decide), if_pos rfl] at h
    rcases hn : listV b e with ⟨xs, b1, e1⟩
    rw [hn] at h
    simp only [Prod.mk.injEq] at h
    obtain ⟨rfl, rfl, rfl⟩ := h
    obtain ⟨h0, j⟩ := list_read hb hn
    refine ⟨h0, by rw [show wordsV { m with L := xs } 108 = (xs.length : Int) :: xs from rfl]; exact j, fun d hd hne => ?_⟩
    rcases hd with rfl | rfl | rfl | rfl | rfl | rfl | rfl | rfl | rfl <;> first | exact absurd rfl hne | exact ⟨rfl, rfl⟩
theorem fold_read : ∀ (cs : List Int) (hcs : ∀ c ∈ cs, isL c) (hnd : cs.Nodup) {m : Ms} (hm : m.In) {b : List Int} (hb : Bytes b) {e : Int} {m' : Ms} {b' : List Int}, foldV cs m b e = (m', b', 0) → e = 0 ∧ b = flat (cs.flatMap (wordsV m')) ++ b' ∧ ∀ d, isL d → d ∉ cs → wordsV m' d = wordsV m d ∧ bareV m' d = bareV m d
  | [], hcs, hnd, m, hm, b, hb, e, m', b', h => by
    simp only [foldV, Prod.mk.injEq] at h
    obtain ⟨rfl, rfl, rfl⟩ := h
    exact ⟨rfl, rfl, fun d _ _ => ⟨rfl, rfl⟩⟩
  | c :: cs, hcs, hnd, m, hm, b, hb, e, m', b', h => by
    unfold foldV at h
    rcases hf : fieldV m b e c with ⟨m1, b1, e1⟩
    have hbd := field_bd hm hb e c
    rw [hf] at h hbd
    dsimp only at h hbd
    obtain ⟨hnc, hnd'⟩ := List.nodup_cons.1 hnd
    obtain ⟨rfl, i2, i3⟩ := fold_read cs (fun d hd => hcs d (List.mem_cons_of_mem _ hd)) hnd' hbd.1 hbd.2.1 h
    have hc := hcs c List.mem_cons_self
    obtain ⟨h0, j2, j3⟩ := field_read hb hc hf
    refine ⟨h0, ?_, fun d hd hn => ?_⟩
    · rw [List.flatMap_cons, flat_app, (i3 c hc hnc).1, List.append_assoc, ← i2]; exact j2
    · have h1 : d ≠ c := fun e' => hn (by rw [e']; exact List.mem_cons_self)
      have h2 : d ∉ cs := fun h' => hn (List.mem_cons_of_mem _ h')
      exact ⟨(i3 d hd h2).1.trans (j3 d hd h1).1, (i3 d hd h2).2.trans (j3 d hd h1).2⟩
theorem letters_nodup (k : Int) : (lettersV k).Nodup := by
  unfold lettersV
  repeat' split
  all_goals decide
theorem tok_to {l : List Int} (h1 : l.length ≤ 256) (h2 : ∀ x ∈ l, 0 ≤ x ∧ x ≤ 63) : tokV l = true := by
  unfold tokV
  rw [Bool.and_eq_true]
  refine ⟨decide_eq_true h1, ?_⟩
  rw [Bool.not_eq_true', List.any_eq_false]
  intro x hx
  have := h2 x hx
  unfold badV
  rw [Bool.or_eq_true]
  rintro (h | h)
  · have := of_decide_eq_true h; omega
  · have := of_decide_eq_true h; omega
theorem read_in {l : List Int} (hb : Bytes l) {m : Ms} {e : Int} (h : readV l = (m, e)) : m.In ∧ (e ≠ 0 → m = Ms.nil) := by
  have hn : Ms.nil.In := In_of 0
  unfold readV at h
  rcases hx : numV l 0 top with ⟨x, b1, e1⟩
  have hbd := num_bd hb 0 top (by decide)
  rw [hx] at h hbd
  dsimp only at h hbd
  split at h
  · split at h
    · obtain ⟨rfl, rfl⟩ := Prod.mk.inj h; exact ⟨hn, fun _ => rfl⟩
    · split at h
      · split at h
        · obtain ⟨rfl, rfl⟩ := Prod.mk.inj h
          exact ⟨(fold_bd (lettersV x) (In_of x) hbd.2.2.1 0).1, fun h => absurd rfl h⟩
        · obtain ⟨rfl, rfl⟩ := Prod.mk.inj h; exact ⟨hn, fun _ => rfl⟩
      · obtain ⟨rfl, rfl⟩ := Prod.mk.inj h; exact ⟨hn, fun _ => rfl⟩
  · obtain ⟨rfl, rfl⟩ := Prod.mk.inj h; exact ⟨hn, fun _ => rfl⟩
theorem again_plain {l : List Int} (hb : Bytes l) {m : Ms} (h : readV l = (m, 0)) : mayV m = true ∧ loadV m = l := by
  have hin := (read_in hb h).1
  unfold readV at h
  rcases hx : numV l 0 top with ⟨x, b1, e1⟩
  have hbd := num_bd hb 0 top (by decide)
  rw [hx] at h hbd
  dsimp only at h hbd
  by_cases h1 : e1 = 0
  rotate_left
  · rw [if_neg h1] at h
    simp only [Prod.mk.injEq] at h
    exact absurd h.2 h1
  subst h1
  rw [if_pos rfl] at h
  by_cases h2 : x < 1 ∨ x > 12
  · rw [if_pos h2] at h
    simp only [Prod.mk.injEq] at h
    exact absurd h.2 (by decide)
  rw [if_neg h2] at h
  rcases hf : foldV (lettersV x) (Ms.of x) b1 0 with ⟨m1, b2, e2⟩
  have hfb := fold_bd (lettersV x) (In_of x) hbd.2.2.1 0
  rw [hf] at h hfb
  dsimp only at h hfb
  by_cases h3 : e2 = 0
  rotate_left
  · rw [if_neg h3] at h
    simp only [Prod.mk.injEq] at h
    exact absurd h.2 h3
  subst h3
  rw [if_pos rfl] at h
  by_cases h4 : b2 = []
  rotate_left
  · rw [if_neg h4] at h
    simp only [Prod.mk.injEq] at h
    exact absurd h.2 (by decide)
  subst h4
  rw [if_pos rfl] at h
  simp only [Prod.mk.injEq, and_true] at h
  subst h
  have hk : m1.k = x := hfb.2.2.2
  obtain ⟨_, j2⟩ := num_read hb hx
  obtain ⟨_, i2, i3⟩ := fold_read (lettersV x) (letters_isL x) (letters_nodup x) (In_of x) hbd.2.2.1 hf
  constructor
  · unfold mayV
    have e1 : (lettersV m1.k).isEmpty = false := by
      rw [hk]
      have hx12 : x = 1 ∨ x = 2 ∨ x = 3 ∨ x = 4 ∨ x = 5 ∨ x = 6 ∨ x = 7 ∨ x = 8 ∨ x = 9 ∨ x = 10 ∨ x = 11 ∨ x = 12 := by omega
      rcases hx12 with rfl | rfl | rfl | rfl | rfl | rfl | rfl | rfl | rfl | rfl | rfl | rfl <;> rfl
    have e7 : lackV m1 = true := by
      unfold lackV
      rw [List.all_eq_true]
      intro c hc
      rw [hk, Bool.or_eq_true]
      by_cases hcm : c ∈ lettersV x
      · exact .inl (List.contains_iff_mem.2 hcm)
      · right
        rw [(i3 c (nine_isL c hc) hcm).2]
        have : ∀ c ∈ ([115, 101, 97, 105, 110, 99, 119, 106, 108] : List Int), bareV (Ms.of x) c = true := by
          intro c hc
          simp only [List.mem_cons, List.not_mem_nil, or_false] at hc
          rcases hc with rfl | rfl | rfl | rfl | rfl | rfl | rfl | rfl | rfl <;> rfl
        exact this c hc
    rw [e1, decide_eq_false (by have := hin.why; omega), decide_eq_false (by have := hin.why; omega), decide_eq_false (by have := hin.most; omega), decide_eq_false (by have := hin.most; omega), tok_to hin.P.2 hin.P.1, tok_to hin.L.2 hin.L.1, e7]
    rfl
  · unfold loadV
    rw [hk, flat_cons, j2, i2, List.append_nil]
end Go.Proofs.Ytbfmbjkalldonaa.Msg
namespace Go.Proofs.Ytbfmbjkalldonaa.Msg
set_option linter.unusedVariables false
set_option linter.unusedSimpArgs false
open Go.RowKit Go.Proofs.Ytbfmbjkalldonaa.PA Go.Proofs.YtbfmbjkalldonaaW.PrintWords Go.Proofs.YtbfmbjkalldonaaW.PrintLast Go.Proofs.YtbfmbjkalldonaaW.PrintMore Go.Proofs.Ytbfmbjkalldonaa.Base Go.Proofs.Ytbfmbjkalldonaa.Var Go.Proofs.Ytbfmbjkalldonaa.Lst
attribute [local go_sem] max2_int min2_int max_two min_two max_three min_three max_four min_four
def am : Ms := { Ms.nil with k := 3, s := 5 }
theorem am_u : am.U := by constructor <;> simp [am, Ms.nil, top]
theorem am_load : loadR am = ([3, 5], 0) := by
  have e1 : mayV am = true := by kernel_rfl
  have e2 : loadV am = [3, 5] := by
    unfold loadV
    rw [show (am.k :: (lettersV am.k).flatMap (wordsV am)) = [3, 5] from by kernel_rfl, flat_cons, flat_cons]
    rw [show (3 : Int).toNat = 3 from rfl, show (5 : Int).toNat = 5 from rfl, vb_small (by decide), vb_small (by decide)]; rfl
  unfold loadR
  rw [if_pos e1, e2]
theorem am_read : readV [3, 5] = (am, 0) := by kernel_rfl
set_option maxHeartbeats 16000000 in
set_option maxRecDepth 100000 in
theorem alive_c (w : World) : Calls Try.prog 8 #[] w fun e w' => e = .returned (.bool true) ∧ Below w.heap.size w w' := by
  have hu := Try.underlying29
  have HLD := Aside0.mk (show Calls Try.prog 11 #[.agg #[.int .i64 3, .int .u64 5, .int .u64 0, .int .u64 0, .int .u64 0, .int .u64 0, .int .u64 0, .int .i64 0, .int .u64 0, .slice none 0 0, .int .i64 0, .slice none 0 0]] w fun er w' => ∃ v, er = .returned (.tuple #[v, .int .i64 0]) ∧ Ls encB 5 w' w.heap.size v [3, 5] ∧ Below w.heap.size w w' from by
    have q := load_c w am am_u none none 0 0 (Nat.zero_le _) (Nat.zero_le _) (Nat.le_refl _) (Nat.le_refl _) (Kd.C_of_reads (enc := Value.int .i64) (d := (0 : Int)) (h1 := fun _ => rfl) ⟨rfl, Nat.zero_le _, fun h => absurd h (by decide)⟩) (Kd.C_of_reads (enc := Value.int .i64) (d := (0 : Int)) (h1 := fun _ => rfl) ⟨rfl, Nat.zero_le _, fun h => absurd h (by decide)⟩)
    rw [am_load] at q
    exact q)
  go_enter Try.func8, Try.ntmps8
  go_upto_region 3 with (first | (go_at_call 11; (with_reducible refine HLD.out.mono ?_); rintro er w4 ⟨v, rfl, hl, hb⟩; obtain ⟨A4, c4, rfl, _, _⟩ := hl.form; have HL4 := Aside0.mk hl; have HB4 := Aside0.mk hb; have HRD := Aside0.mk (show Calls Try.prog 9 #[.slice A4 2 c4] w4 (PostR w4 am 0) from read_c A4 c4 [3, 5] (by decide) (fun x hx => by simp at hx; omega) (C_of_ls hl).2.1 am 0 am_read w4 (C_of_ls hl).2.2); clear hl hb) | (go_at_call 9; (with_reducible refine HRD.out.mono ?_); rintro er w5 ⟨vP, vL, rfl, hP, hL, hb⟩; obtain ⟨AP, cP, rfl, _, _⟩ := hP.form; obtain ⟨AL, cL, rfl, _, _⟩ := hL.form; have HP5 := Aside0.mk hP; have HL5 := Aside0.mk hL; have HB5 := Aside0.mk hb; clear hP hL hb) | ((with_reducible refine gate_dst (N := 3) rfl ?_); refine box_event ?hg (N := 3) ?hd (cs := #[.int .i64 0, .int .u64 0, .int .u64 0, .int .u64 0, .int .u64 0, .int .u64 0, .int .u64 0, .int .i64 0, .int .u64 0, .slice none 0 0, .int .i64 0, .slice none 0 0]) (t := 29) ?hr ?_; (case hd => rfl); (case hg => rfl); (case hr => first | (go_simp; done) | (go_simp; rfl)); intro gm hgn w6 hbox hb; have HGgm := Aside0.mk hbox; have HBgm := Aside0.mk hb; have HNgm := Aside0.mk hgn; have u0 : w6.cell? ⟨gm, 0, none⟩ = some (.int .i64 0) := blk_cell hbox 0; have uf0 : w6.frozen? ⟨gm, 0, none⟩ = false := blk_frozen hbox 0; have u1 : w6.cell? ⟨gm, 1, none⟩ = some (.int .u64 0) := blk_cell hbox 1; have uf1 : w6.frozen? ⟨gm, 1, none⟩ = false := blk_frozen hbox 1; have u2 : w6.cell? ⟨gm, 2, none⟩ = some (.int .u64 0) := blk_cell hbox 2; have uf2 : w6.frozen? ⟨gm, 2, none⟩ = false := blk_frozen hbox 2; have u3 : w6.cell? ⟨gm, 3, none⟩ = some (.int .u64 0) := blk_cell hbox 3; have uf3 : w6.frozen? ⟨gm, 3, none⟩ = false := blk_frozen hbox 3; have u4 : w6.cell? ⟨gm, 4, none⟩ = some (.int .u64 0) := blk_cell hbox 4; have uf4 : w6.frozen? ⟨gm, 4, none⟩ = false := blk_frozen hbox 4; have u5 : w6.cell? ⟨gm, 5, none⟩ = some (.int .u64 0) := blk_cell hbox 5; have uf5 : w6.frozen? ⟨gm, 5, none⟩ = false := blk_frozen hbox 5; have u6 : w6.cell? ⟨gm, 6, none⟩ = some (.int .u64 0) := blk_cell hbox 6; have uf6 : w6.frozen? ⟨gm, 6, none⟩ = false := blk_frozen hbox 6; have u7 : w6.cell? ⟨gm, 7, none⟩ = some (.int .i64 0) := blk_cell hbox 7; have uf7 : w6.frozen? ⟨gm, 7, none⟩ = false := blk_frozen hbox 7; have u8 : w6.cell? ⟨gm, 8, none⟩ = some (.int .u64 0) := blk_cell hbox 8; have uf8 : w6.frozen? ⟨gm, 8, none⟩ = false := blk_frozen hbox 8; have u9 : w6.cell? ⟨gm, 9, none⟩ = some (.slice none 0 0) := blk_cell hbox 9; have uf9 : w6.frozen? ⟨gm, 9, none⟩ = false := blk_frozen hbox 9; have u10 : w6.cell? ⟨gm, 10, none⟩ = some (.int .i64 0) := blk_cell hbox 10; have uf10 : w6.frozen? ⟨gm, 10, none⟩ = false := blk_frozen hbox 10; have u11 : w6.cell? ⟨gm, 11, none⟩ = some (.slice none 0 0) := blk_cell hbox 11; have uf11 : w6.frozen? ⟨gm, 11, none⟩ = false := blk_frozen hbox 11; clear hbox hb hgn))
  obtain ⟨w9, hw9⟩ : ∃ w9, st12 w6 gm (.int .i64 am.k) (.int .u64 am.s) (.int .u64 am.se) (.int .u64 am.a) (.int .u64 am.i) (.int .u64 am.n) (.int .u64 am.c) (.int .i64 am.why) (.int .u64 am.seed) (.slice AP am.P.length cP) (.int .i64 am.most) (.slice AL am.L.length cL) = w9 := ⟨_, rfl⟩
  have hgm : w9.heap[gm]? = some (.cells #[.int .i64 am.k, .int .u64 am.s, .int .u64 am.se, .int .u64 am.a, .int .u64 am.i, .int .u64 am.n, .int .u64 am.c, .int .i64 am.why, .int .u64 am.seed, .slice AP am.P.length cP, .int .i64 am.most, .slice AL am.L.length cL] 29 (0, 0)) := by rw [← hw9]; exact st12_blk HGgm.out _ _ _ _ _ _ _ _ _ _ _ _
  have hb6 : Below w4.heap.size w4 w6 := below_step HB5.out HBgm.out
  have hb9 : Below w4.heap.size w4 w9 := by rw [← hw9]; exact st12_bel hb6 (by rw [HNgm.out]; exact HB5.out.size) _ _ _ _ _ _ _ _ _ _ _ _
  have hP6 := HP5.out.below HBgm.out
  have hL6 := HL5.out.below HBgm.out
  have hP9 : Ls encI 3 w9 w4.heap.size (.slice AP am.P.length cP) am.P := by rw [← hw9]; exact lsK1 hP6 (st12_kept w6 gm _ _ _ _ _ _ _ _ _ _ _ _) HGgm.out (by decide)
  have hL9 : Ls encI 3 w9 w4.heap.size (.slice AL am.L.length cL) am.L := by rw [← hw9]; exact lsK1 hL6 (st12_kept w6 gm _ _ _ _ _ _ _ _ _ _ _ _) HGgm.out (by decide)
  have g0 : (convert 22 9 (.slice A4 2 c4)).run Try.prog w9 = .ok (.string ⟨#[3, 5]⟩) w9 := by
    have hl9 : Ls encB 5 w9 w.heap.size (.slice A4 2 c4) [3, 5] := by
      have q := (HL4.out.below HB5.out).below HBgm.out
      rw [← hw9]
      exact lsK q (st12_kept w6 gm _ _ _ _ _ _ _ _ _ _ _ _) fun k hk e' => (q.ne HGgm.out (by decide)) (by rw [← e']; exact hk.symm)
    have q := Kd.C_string (c := c4) Try.underlying22 Try.underlying5 Try.underlying9 (C_of_ls hl9).2.2
    rw [show strOfNums [3, 5] = (⟨#[3, 5]⟩ : ByteArray) from by kernel_rfl] at q
    exact q
  have y0 : w9.cell? ⟨gm, 0, none⟩ = some (.int .i64 3) := blk_cell hgm 0
  have y1 : w9.cell? ⟨gm, 1, none⟩ = some (.int .u64 5) := blk_cell hgm 1
  have HZ := Aside0.mk (below_step HB4.out hb9)
  unfold st12 at hw9
  have hw9 : _ = w9 := hw9
  rw [hw9]
  clear hw9 hgm hb6 hb9 hP6 hL6 hP9 hL9 u0 uf0 u1 uf1 u2 uf2 u3 uf3 u4 uf4 u5 uf5 u6 uf6 u7 uf7 u8 uf8 u9 uf9 u10 uf10 u11 uf11
  go_wp2_with fail
  go_ret
  exact ⟨rfl, HZ.out⟩
theorem same_self (m : Ms) : sameV m m = true := by
  unfold sameV
  simp
set_option maxHeartbeats 16000000 in
set_option maxRecDepth 100000 in
theorem again_law (A0 : Option Addr) (c0 : Nat) (l : List Int) (w : World) (hb : Kd.C (Kd.int .u8) w A0 l.length l) (hc0 : l.length ≤ c0) (hbs : Bytes l) : Calls Try.prog 3 #[.slice A0 l.length c0] w fun e w' => e = .returned (.bool true) ∧ Below w.heap.size w w' := by
  have hu := Try.underlying29
  have HALIVE := Aside0.mk alive_c
  by_cases hlong : 2000 < l.length
  · have d0 : decide ((2000 : Int) < (l.length : Int)) = true := decide_eq_true (by omega)
    have d0' : decide (2000 < l.length) = true := decide_eq_true hlong
    clear hb hc0 hbs hlong
    go_enter Try.func3, Try.ntmps3
    go_wp2_with (first | (go_at_call 8; (with_reducible refine (HALIVE.out _).mono ?_); rintro er w19 ⟨rfl, hb⟩; have HBA := Aside0.mk hb; clear hb))
    go_ret
    exact ⟨rfl, HBA.out⟩
  have d0 : decide ((2000 : Int) < (l.length : Int)) = false := decide_eq_false (by omega)
  have d0' : decide (2000 < l.length) = false := decide_eq_false hlong
  rcases hr : readV l with ⟨m, e⟩
  have hin := read_in hbs hr
  have HRD := Aside0.mk (read_c A0 c0 l (by omega) hbs hc0 m e hr w hb)
  have HBC := Aside0.mk hb; have HBS := Aside0.mk hbs; have HIN := Aside0.mk hin; have HR := Aside0.mk hr
  clear hb hc0 hbs hlong hin hr
  by_cases he : e = 0
  · subst he
    go_enter Try.func3, Try.ntmps3
    go_upto_region 6 with (first | (go_at_call 9; (with_reducible refine HRD.out.mono ?_); rintro er w5 ⟨vP, vL, rfl, hP, hL, hb⟩; obtain ⟨AP, cP, rfl, _, _⟩ := hP.form; obtain ⟨AL, cL, rfl, _, _⟩ := hL.form; have HP5 := Aside0.mk hP; have HL5 := Aside0.mk hL; have HB5 := Aside0.mk hb; clear hP hL hb) | ((with_reducible refine gate_dst (N := 3) rfl ?_); refine box_event ?hg (N := 3) ?hd (cs := #[.int .i64 0, .int .u64 0, .int .u64 0, .int .u64 0, .int .u64 0, .int .u64 0, .int .u64 0, .int .i64 0, .int .u64 0, .slice none 0 0, .int .i64 0, .slice none 0 0]) (t := 29) ?hr ?_; (case hd => rfl); (case hg => rfl); (case hr => first | (go_simp; done) | (go_simp; rfl)); intro gm hgn w6 hbox hb; have HGgm := Aside0.mk hbox; have HBgm := Aside0.mk hb; have HNgm := Aside0.mk hgn; have u0 : w6.cell? ⟨gm, 0, none⟩ = some (.int .i64 0) := blk_cell hbox 0; have uf0 : w6.frozen? ⟨gm, 0, none⟩ = false := blk_frozen hbox 0; have u1 : w6.cell? ⟨gm, 1, none⟩ = some (.int .u64 0) := blk_cell hbox 1; have uf1 : w6.frozen? ⟨gm, 1, none⟩ = false := blk_frozen hbox 1; have u2 : w6.cell? ⟨gm, 2, none⟩ = some (.int .u64 0) := blk_cell hbox 2; have uf2 : w6.frozen? ⟨gm, 2, none⟩ = false := blk_frozen hbox 2; have u3 : w6.cell? ⟨gm, 3, none⟩ = some (.int .u64 0) := blk_cell hbox 3; have uf3 : w6.frozen? ⟨gm, 3, none⟩ = false := blk_frozen hbox 3; have u4 : w6.cell? ⟨gm, 4, none⟩ = some (.int .u64 0) := blk_cell hbox 4; have uf4 : w6.frozen? ⟨gm, 4, none⟩ = false := blk_frozen hbox 4; have u5 : w6.cell? ⟨gm, 5, none⟩ = some (.int .u64 0) := blk_cell hbox 5; have uf5 : w6.frozen? ⟨gm, 5, none⟩ = false := blk_frozen hbox 5; have u6 : w6.cell? ⟨gm, 6, none⟩ = some (.int .u64 0) := blk_cell hbox 6; have uf6 : w6.frozen? ⟨gm, 6, none⟩ = false := blk_frozen hbox 6; have u7 : w6.cell? ⟨gm, 7, none⟩ = some (.int .i64 0) := blk_cell hbox 7; have uf7 : w6.frozen? ⟨gm, 7, none⟩ = false := blk_frozen hbox 7; have u8 : w6.cell? ⟨gm, 8, none⟩ = some (.int .u64 0) := blk_cell hbox 8; have uf8 : w6.frozen? ⟨gm, 8, none⟩ = false := blk_frozen hbox 8; have u9 : w6.cell? ⟨gm, 9, none⟩ = some (.slice none 0 0) := blk_cell hbox 9; have uf9 : w6.frozen? ⟨gm, 9, none⟩ = false := blk_frozen hbox 9; have u10 : w6.cell? ⟨gm, 10, none⟩ = some (.int .i64 0) := blk_cell hbox 10; have uf10 : w6.frozen? ⟨gm, 10, none⟩ = false := blk_frozen hbox 10; have u11 : w6.cell? ⟨gm, 11, none⟩ = some (.slice none 0 0) := blk_cell hbox 11; have uf11 : w6.frozen? ⟨gm, 11, none⟩ = false := blk_frozen hbox 11; clear hbox hb hgn))
    obtain ⟨w9, hw9⟩ : ∃ w9, st12 w6 gm (.int .i64 m.k) (.int .u64 m.s) (.int .u64 m.se) (.int .u64 m.a) (.int .u64 m.i) (.int .u64 m.n) (.int .u64 m.c) (.int .i64 m.why) (.int .u64 m.seed) (.slice AP m.P.length cP) (.int .i64 m.most) (.slice AL m.L.length cL) = w9 := ⟨_, rfl⟩
    have hgm : w9.heap[gm]? = some (.cells #[.int .i64 m.k, .int .u64 m.s, .int .u64 m.se, .int .u64 m.a, .int .u64 m.i, .int .u64 m.n, .int .u64 m.c, .int .i64 m.why, .int .u64 m.seed, .slice AP m.P.length cP, .int .i64 m.most, .slice AL m.L.length cL] 29 (0, 0)) := by rw [← hw9]; exact st12_blk HGgm.out _ _ _ _ _ _ _ _ _ _ _ _
    have hb6 : Below w.heap.size w w6 := below_step HB5.out HBgm.out
    have hb9 : Below w.heap.size w w9 := by rw [← hw9]; exact st12_bel hb6 (by rw [HNgm.out]; exact HB5.out.size) _ _ _ _ _ _ _ _ _ _ _ _
    have hP6 := HP5.out.below HBgm.out
    have hL6 := HL5.out.below HBgm.out
    have hP9 : Ls encI 3 w9 w.heap.size (.slice AP m.P.length cP) m.P := by rw [← hw9]; exact lsK1 hP6 (st12_kept w6 gm _ _ _ _ _ _ _ _ _ _ _ _) HGgm.out (by decide)
    have hL9 : Ls encI 3 w9 w.heap.size (.slice AL m.L.length cL) m.L := by rw [← hw9]; exact lsK1 hL6 (st12_kept w6 gm _ _ _ _ _ _ _ _ _ _ _ _) HGgm.out (by decide)
    have z0 : w9.cell? ⟨gm, 0, none⟩ = some (.int .i64 m.k) := blk_cell hgm 0
    have zf0 : w9.frozen? ⟨gm, 0, none⟩ = false := blk_frozen hgm 0
    have z1 : w9.cell? ⟨gm, 1, none⟩ = some (.int .u64 m.s) := blk_cell hgm 1
    have zf1 : w9.frozen? ⟨gm, 1, none⟩ = false := blk_frozen hgm 1
    have z2 : w9.cell? ⟨gm, 2, none⟩ = some (.int .u64 m.se) := blk_cell hgm 2
    have zf2 : w9.frozen? ⟨gm, 2, none⟩ = false := blk_frozen hgm 2
    have z3 : w9.cell? ⟨gm, 3, none⟩ = some (.int .u64 m.a) := blk_cell hgm 3
    have zf3 : w9.frozen? ⟨gm, 3, none⟩ = false := blk_frozen hgm 3
    have z4 : w9.cell? ⟨gm, 4, none⟩ = some (.int .u64 m.i) := blk_cell hgm 4
    have zf4 : w9.frozen? ⟨gm, 4, none⟩ = false := blk_frozen hgm 4
    have z5 : w9.cell? ⟨gm, 5, none⟩ = some (.int .u64 m.n) := blk_cell hgm 5
    have zf5 : w9.frozen? ⟨gm, 5, none⟩ = false := blk_frozen hgm 5
    have z6 : w9.cell? ⟨gm, 6, none⟩ = some (.int .u64 m.c) := blk_cell hgm 6
    have zf6 : w9.frozen? ⟨gm, 6, none⟩ = false := blk_frozen hgm 6
    have z7 : w9.cell? ⟨gm, 7, none⟩ = some (.int .i64 m.why) := blk_cell hgm 7
    have zf7 : w9.frozen? ⟨gm, 7, none⟩ = false := blk_frozen hgm 7
    have z8 : w9.cell? ⟨gm, 8, none⟩ = some (.int .u64 m.seed) := blk_cell hgm 8
    have zf8 : w9.frozen? ⟨gm, 8, none⟩ = false := blk_frozen hgm 8
    have z9 : w9.cell? ⟨gm, 9, none⟩ = some (.slice AP m.P.length cP) := blk_cell hgm 9
    have zf9 : w9.frozen? ⟨gm, 9, none⟩ = false := blk_frozen hgm 9
    have z10 : w9.cell? ⟨gm, 10, none⟩ = some (.int .i64 m.most) := blk_cell hgm 10
    have zf10 : w9.frozen? ⟨gm, 10, none⟩ = false := blk_frozen hgm 10
    have z11 : w9.cell? ⟨gm, 11, none⟩ = some (.slice AL m.L.length cL) := blk_cell hgm 11
    have zf11 : w9.frozen? ⟨gm, 11, none⟩ = false := blk_frozen hgm 11
    have HSR := Aside0.mk (show ∀ W, Below w9.heap.size w9 W → (Kd.C (Kd.int .i64) W AP m.P.length m.P ∧ m.P.length ≤ cP) ∧ Kd.C (Kd.int .i64) W AL m.L.length m.L ∧ m.L.length ≤ cL from fun W hw => ⟨⟨Kd.C_below (C_of_li hP9).2.2 hw, (C_of_li hP9).2.1⟩, Kd.C_below (C_of_li hL9).2.2 hw, (C_of_li hL9).2.1⟩)
    have HZ := Aside0.mk hb9
    have HGM := Aside0.mk hgm
    have hag := again_plain HBS.out HR.out
    have hlr : loadR m = (l, 0) := by unfold loadR; rw [if_pos hag.1, hag.2]
    have HLD := Aside0.mk (show Calls Try.prog 11 #[.agg #[.int .i64 m.k, .int .u64 m.s, .int .u64 m.se, .int .u64 m.a, .int .u64 m.i, .int .u64 m.n, .int .u64 m.c, .int .i64 m.why, .int .u64 m.seed, .slice AP m.P.length cP, .int .i64 m.most, .slice AL m.L.length cL]] w9 fun er w' => ∃ v, er = .returned (.tuple #[v, .int .i64 0]) ∧ Ls encB 5 w' w9.heap.size v l ∧ Below w9.heap.size w9 w' from by
      have h1 := HSR.out w9 (Below.refl _ _)
      have q := load_c w9 m HIN.out.1.u AP AL cP cL (by have := HIN.out.1.P.2; omega) (by have := HIN.out.1.L.2; omega) h1.1.2 h1.2.2 h1.1.1 h1.2.1
      rw [hlr] at q
      exact q)
    have HMAY := Aside0.mk (show ∀ W, Below w9.heap.size w9 W → Calls Try.prog 12 #[.agg #[.int .i64 m.k, .int .u64 m.s, .int .u64 m.se, .int .u64 m.a, .int .u64 m.i, .int .u64 m.n, .int .u64 m.c, .int .i64 m.why, .int .u64 m.seed, .slice AP m.P.length cP, .int .i64 m.most, .slice AL m.L.length cL]] W fun er w' => er = .returned (.bool true) ∧ Below W.heap.size W w' from fun W hw => by
      have h1 := HSR.out W hw
      have q := may_c W m AP AL cP cL (by have := HIN.out.1.P.2; omega) (by have := HIN.out.1.L.2; omega) h1.1.2 h1.2.2 h1.1.1 h1.2.1
      rw [hag.1] at q
      exact q)
    unfold st12 at hw9
    rw [hw9]
    clear hw9 hgm hb6 hb9 hP6 hL6 hP9 hL9 hag hlr u0 uf0 u1 uf1 u2 uf2 u3 uf3 u4 uf4 u5 uf5 u6 uf6 u7 uf7 u8 uf8 u9 uf9 u10 uf10 u11 uf11
    go_wp2_with (first | (go_at_call 11; (with_reducible refine HLD.out.mono ?_); rintro er w4 ⟨v, rfl, hl, hb⟩; obtain ⟨A4, c4, rfl, _, _⟩ := hl.form; have HL4 := Aside0.mk hl; have HB4 := Aside0.mk hb; have hg4 := blk_below HGM.out hb; have y0 : w4.cell? ⟨gm, 0, none⟩ = some (.int .i64 m.k) := blk_cell hg4 0; have y1 : w4.cell? ⟨gm, 1, none⟩ = some (.int .u64 m.s) := blk_cell hg4 1; have y2 : w4.cell? ⟨gm, 2, none⟩ = some (.int .u64 m.se) := blk_cell hg4 2; have y3 : w4.cell? ⟨gm, 3, none⟩ = some (.int .u64 m.a) := blk_cell hg4 3; have y4 : w4.cell? ⟨gm, 4, none⟩ = some (.int .u64 m.i) := blk_cell hg4 4; have y5 : w4.cell? ⟨gm, 5, none⟩ = some (.int .u64 m.n) := blk_cell hg4 5; have y6 : w4.cell? ⟨gm, 6, none⟩ = some (.int .u64 m.c) := blk_cell hg4 6; have y7 : w4.cell? ⟨gm, 7, none⟩ = some (.int .i64 m.why) := blk_cell hg4 7; have y8 : w4.cell? ⟨gm, 8, none⟩ = some (.int .u64 m.seed) := blk_cell hg4 8; have y9 : w4.cell? ⟨gm, 9, none⟩ = some (.slice AP m.P.length cP) := blk_cell hg4 9; have y10 : w4.cell? ⟨gm, 10, none⟩ = some (.int .i64 m.most) := blk_cell hg4 10; have y11 : w4.cell? ⟨gm, 11, none⟩ = some (.slice AL m.L.length cL) := blk_cell hg4 11; clear hl hb hg4) | (go_at_call 12; (with_reducible refine (HMAY.out _ HB4.out).mono ?_); rintro er w7 ⟨rfl, hb⟩; have HB7 := Aside0.mk hb; have hl7 := HL4.out.below hb; have g0 : (convert 22 9 (.slice A4 l.length c4)).run Try.prog w7 = .ok (.string (strOfNums l)) w7 := Kd.C_string Try.underlying22 Try.underlying5 Try.underlying9 (C_of_ls hl7).2.2; have g1 : (convert 22 9 (.slice A0 l.length c0)).run Try.prog w7 = .ok (.string (strOfNums l)) w7 := Kd.C_string Try.underlying22 Try.underlying5 Try.underlying9 (Kd.C_below HBC.out (below_step (below_step HZ.out HB4.out) hb)); have ff : ((strOfNums l).toList == (strOfNums l).toList) = true := (by simp); clear hb hl7) | (go_at_call 8; (with_reducible refine (HALIVE.out _).mono ?_); rintro er w19 ⟨rfl, hb⟩; have HBA := Aside0.mk hb; clear hb))
    go_ret
    exact ⟨rfl, below_step (below_step (below_step HZ.out HB4.out) HB7.out) HBA.out⟩
  · have q1 : (e != 0) = true := by simpa using he
    obtain rfl := HIN.out.2 he
    clear he
    go_enter Try.func3, Try.ntmps3
    go_upto_region 5 with (first | (go_at_call 9; (with_reducible refine HRD.out.mono ?_); rintro er w5 ⟨vP, vL, rfl, hP, hL, hb⟩; obtain ⟨AP, cP, rfl, _, _⟩ := hP.form; obtain ⟨AL, cL, rfl, _, _⟩ := hL.form; have HP5 := Aside0.mk hP; have HL5 := Aside0.mk hL; have HB5 := Aside0.mk hb; clear hP hL hb) | ((with_reducible refine gate_dst (N := 3) rfl ?_); refine box_event ?hg (N := 3) ?hd (cs := #[.int .i64 0, .int .u64 0, .int .u64 0, .int .u64 0, .int .u64 0, .int .u64 0, .int .u64 0, .int .i64 0, .int .u64 0, .slice none 0 0, .int .i64 0, .slice none 0 0]) (t := 29) ?hr ?_; (case hd => rfl); (case hg => rfl); (case hr => first | (go_simp; done) | (go_simp; rfl)); intro gm hgn w6 hbox hb; have HGgm := Aside0.mk hbox; have HBgm := Aside0.mk hb; have HNgm := Aside0.mk hgn; have u0 : w6.cell? ⟨gm, 0, none⟩ = some (.int .i64 0) := blk_cell hbox 0; have uf0 : w6.frozen? ⟨gm, 0, none⟩ = false := blk_frozen hbox 0; have u1 : w6.cell? ⟨gm, 1, none⟩ = some (.int .u64 0) := blk_cell hbox 1; have uf1 : w6.frozen? ⟨gm, 1, none⟩ = false := blk_frozen hbox 1; have u2 : w6.cell? ⟨gm, 2, none⟩ = some (.int .u64 0) := blk_cell hbox 2; have uf2 : w6.frozen? ⟨gm, 2, none⟩ = false := blk_frozen hbox 2; have u3 : w6.cell? ⟨gm, 3, none⟩ = some (.int .u64 0) := blk_cell hbox 3; have uf3 : w6.frozen? ⟨gm, 3, none⟩ = false := blk_frozen hbox 3; have u4 : w6.cell? ⟨gm, 4, none⟩ = some (.int .u64 0) := blk_cell hbox 4; have uf4 : w6.frozen? ⟨gm, 4, none⟩ = false := blk_frozen hbox 4; have u5 : w6.cell? ⟨gm, 5, none⟩ = some (.int .u64 0) := blk_cell hbox 5; have uf5 : w6.frozen? ⟨gm, 5, none⟩ = false := blk_frozen hbox 5; have u6 : w6.cell? ⟨gm, 6, none⟩ = some (.int .u64 0) := blk_cell hbox 6; have uf6 : w6.frozen? ⟨gm, 6, none⟩ = false := blk_frozen hbox 6; have u7 : w6.cell? ⟨gm, 7, none⟩ = some (.int .i64 0) := blk_cell hbox 7; have uf7 : w6.frozen? ⟨gm, 7, none⟩ = false := blk_frozen hbox 7; have u8 : w6.cell? ⟨gm, 8, none⟩ = some (.int .u64 0) := blk_cell hbox 8; have uf8 : w6.frozen? ⟨gm, 8, none⟩ = false := blk_frozen hbox 8; have u9 : w6.cell? ⟨gm, 9, none⟩ = some (.slice none 0 0) := blk_cell hbox 9; have uf9 : w6.frozen? ⟨gm, 9, none⟩ = false := blk_frozen hbox 9; have u10 : w6.cell? ⟨gm, 10, none⟩ = some (.int .i64 0) := blk_cell hbox 10; have uf10 : w6.frozen? ⟨gm, 10, none⟩ = false := blk_frozen hbox 10; have u11 : w6.cell? ⟨gm, 11, none⟩ = some (.slice none 0 0) := blk_cell hbox 11; have uf11 : w6.frozen? ⟨gm, 11, none⟩ = false := blk_frozen hbox 11; clear hbox hb hgn))
    obtain ⟨w9, hw9⟩ : ∃ w9, st12 w6 gm (.int .i64 Ms.nil.k) (.int .u64 Ms.nil.s) (.int .u64 Ms.nil.se) (.int .u64 Ms.nil.a) (.int .u64 Ms.nil.i) (.int .u64 Ms.nil.n) (.int .u64 Ms.nil.c) (.int .i64 Ms.nil.why) (.int .u64 Ms.nil.seed) (.slice AP Ms.nil.P.length cP) (.int .i64 Ms.nil.most) (.slice AL Ms.nil.L.length cL) = w9 := ⟨_, rfl⟩
    have hgm : w9.heap[gm]? = some (.cells #[.int .i64 Ms.nil.k, .int .u64 Ms.nil.s, .int .u64 Ms.nil.se, .int .u64 Ms.nil.a, .int .u64 Ms.nil.i, .int .u64 Ms.nil.n, .int .u64 Ms.nil.c, .int .i64 Ms.nil.why, .int .u64 Ms.nil.seed, .slice AP Ms.nil.P.length cP, .int .i64 Ms.nil.most, .slice AL Ms.nil.L.length cL] 29 (0, 0)) := by rw [← hw9]; exact st12_blk HGgm.out _ _ _ _ _ _ _ _ _ _ _ _
    have hb6 : Below w.heap.size w w6 := below_step HB5.out HBgm.out
    have hb9 : Below w.heap.size w w9 := by rw [← hw9]; exact st12_bel hb6 (by rw [HNgm.out]; exact HB5.out.size) _ _ _ _ _ _ _ _ _ _ _ _
    have hP6 := HP5.out.below HBgm.out
    have hL6 := HL5.out.below HBgm.out
    have hP9 : Ls encI 3 w9 w.heap.size (.slice AP Ms.nil.P.length cP) Ms.nil.P := by rw [← hw9]; exact lsK1 hP6 (st12_kept w6 gm _ _ _ _ _ _ _ _ _ _ _ _) HGgm.out (by decide)
    have hL9 : Ls encI 3 w9 w.heap.size (.slice AL Ms.nil.L.length cL) Ms.nil.L := by rw [← hw9]; exact lsK1 hL6 (st12_kept w6 gm _ _ _ _ _ _ _ _ _ _ _ _) HGgm.out (by decide)
    have z0 : w9.cell? ⟨gm, 0, none⟩ = some (.int .i64 0) := blk_cell hgm 0
    have zf0 : w9.frozen? ⟨gm, 0, none⟩ = false := blk_frozen hgm 0
    have z1 : w9.cell? ⟨gm, 1, none⟩ = some (.int .u64 0) := blk_cell hgm 1
    have zf1 : w9.frozen? ⟨gm, 1, none⟩ = false := blk_frozen hgm 1
    have z2 : w9.cell? ⟨gm, 2, none⟩ = some (.int .u64 0) := blk_cell hgm 2
    have zf2 : w9.frozen? ⟨gm, 2, none⟩ = false := blk_frozen hgm 2
    have z3 : w9.cell? ⟨gm, 3, none⟩ = some (.int .u64 0) := blk_cell hgm 3
    have zf3 : w9.frozen? ⟨gm, 3, none⟩ = false := blk_frozen hgm 3
    have z4 : w9.cell? ⟨gm, 4, none⟩ = some (.int .u64 0) := blk_cell hgm 4
    have zf4 : w9.frozen? ⟨gm, 4, none⟩ = false := blk_frozen hgm 4
    have z5 : w9.cell? ⟨gm, 5, none⟩ = some (.int .u64 0) := blk_cell hgm 5
    have zf5 : w9.frozen? ⟨gm, 5, none⟩ = false := blk_frozen hgm 5
    have z6 : w9.cell? ⟨gm, 6, none⟩ = some (.int .u64 0) := blk_cell hgm 6
    have zf6 : w9.frozen? ⟨gm, 6, none⟩ = false := blk_frozen hgm 6
    have z7 : w9.cell? ⟨gm, 7, none⟩ = some (.int .i64 0) := blk_cell hgm 7
    have zf7 : w9.frozen? ⟨gm, 7, none⟩ = false := blk_frozen hgm 7
    have z8 : w9.cell? ⟨gm, 8, none⟩ = some (.int .u64 0) := blk_cell hgm 8
    have zf8 : w9.frozen? ⟨gm, 8, none⟩ = false := blk_frozen hgm 8
    have z9 : w9.cell? ⟨gm, 9, none⟩ = some (.slice AP 0 cP) := blk_cell hgm 9
    have zf9 : w9.frozen? ⟨gm, 9, none⟩ = false := blk_frozen hgm 9
    have z10 : w9.cell? ⟨gm, 10, none⟩ = some (.int .i64 0) := blk_cell hgm 10
    have zf10 : w9.frozen? ⟨gm, 10, none⟩ = false := blk_frozen hgm 10
    have z11 : w9.cell? ⟨gm, 11, none⟩ = some (.slice AL 0 cL) := blk_cell hgm 11
    have zf11 : w9.frozen? ⟨gm, 11, none⟩ = false := blk_frozen hgm 11
    have HZ := Aside0.mk hb9
    have HSAME := Aside0.mk (show Calls Try.prog 10 #[.agg #[.int .i64 0, .int .u64 0, .int .u64 0, .int .u64 0, .int .u64 0, .int .u64 0, .int .u64 0, .int .i64 0, .int .u64 0, .slice AP 0 cP, .int .i64 0, .slice AL 0 cL], .agg #[.int .i64 0, .int .u64 0, .int .u64 0, .int .u64 0, .int .u64 0, .int .u64 0, .int .u64 0, .int .i64 0, .int .u64 0, .slice none 0 0, .int .i64 0, .slice none 0 0]] w9 fun er w' => er = .returned (.bool true) ∧ Below w9.heap.size w9 w' from by
      have q := same_c w9 Ms.nil Ms.nil AP AL none none cP cL 0 0 (Nat.zero_le _) (Nat.zero_le _) (C_of_li hP9).2.1 (C_of_li hL9).2.1 (C_of_li hP9).2.2 (C_of_li hL9).2.2 (Nat.le_refl _) (Nat.le_refl _) (Kd.C_of_reads (enc := Value.int .i64) (d := (0 : Int)) (h1 := fun _ => rfl) ⟨rfl, Nat.zero_le _, fun h => absurd h (by decide)⟩) (Kd.C_of_reads (enc := Value.int .i64) (d := (0 : Int)) (h1 := fun _ => rfl) ⟨rfl, Nat.zero_le _, fun h => absurd h (by decide)⟩)
      rw [same_self] at q
      exact q)
    unfold st12 at hw9
    have hw9 : _ = w9 := hw9
    rw [hw9]
    clear hw9 hgm hb6 hb9 hP6 hL6 hP9 hL9 u0 uf0 u1 uf1 u2 uf2 u3 uf3 u4 uf4 u5 uf5 u6 uf6 u7 uf7 u8 uf8 u9 uf9 u10 uf10 u11 uf11
    go_wp2_with (first | (go_at_call 10; (with_reducible refine HSAME.out.mono ?_); rintro er w7 ⟨rfl, hb⟩; have HB7 := Aside0.mk hb; clear hb) | (go_at_call 8; (with_reducible refine (HALIVE.out _).mono ?_); rintro er w19 ⟨rfl, hb⟩; have HBA := Aside0.mk hb; clear hb))
    go_ret
    exact ⟨rfl, below_step (below_step HZ.out HB7.out) HBA.out⟩
end Go.Proofs.Ytbfmbjkalldonaa.Msg
namespace Go.Proofs.Ytbfmbjkalldonaa.Msg
set_option linter.unusedVariables false
set_option linter.unusedSimpArgs false
open Go.RowKit Go.Proofs.Ytbfmbjkalldonaa.PA Go.Proofs.YtbfmbjkalldonaaW.PrintWords Go.Proofs.YtbfmbjkalldonaaW.PrintLast Go.Proofs.YtbfmbjkalldonaaW.PrintMore Go.Proofs.Ytbfmbjkalldonaa.Base Go.Proofs.Ytbfmbjkalldonaa.Var Go.Proofs.Ytbfmbjkalldonaa.Lst
attribute [local go_sem] max2_int min2_int max_two min_two max_three min_three max_four min_four
set_option maxHeartbeats 8000000 in
set_option maxRecDepth 100000 in
theorem theirs_c (w : World) (m : Ms) (A B : Option Addr) (c d : Nat) : Calls Try.prog 14 #[.agg #[.int .i64 m.k, .int .u64 m.s, .int .u64 m.se, .int .u64 m.a, .int .u64 m.i, .int .u64 m.n, .int .u64 m.c, .int .i64 m.why, .int .u64 m.seed, .slice A m.P.length c, .int .i64 m.most, .slice B m.L.length d]] w fun er w' => er = .returned (.agg #[.int .i64 m.k, .int .u64 m.s, .int .u64 m.se, .int .u64 m.a, .int .u64 m.i, .int .u64 m.n, .int .u64 m.c, .int .i64 m.why, .int .u64 m.seed, .slice A m.P.length c, .int .i64 m.most, .slice B m.L.length d]) ∧ Below w.heap.size w w' := by
  have hu29 := Try.underlying29
  have hu38 := Try.underlying38
  have hu27 := Try.underlying27
  go_enter Try.func14, Try.ntmps14
  go_wp2_with (first | ((with_reducible refine gate_dst (N := 1) rfl ?_); refine box_event ?hg (N := 1) ?hd (cs := #[.int .i64 m.k, .int .u64 m.s, .int .u64 m.se, .int .u64 m.a, .int .u64 m.i, .int .u64 m.n, .int .u64 m.c, .int .i64 m.why, .int .u64 m.seed, .slice A m.P.length c, .int .i64 m.most, .slice B m.L.length d]) (t := 38) ?hr ?_; (case hd => rfl); (case hg => rfl); (case hr => first | (go_simp; done) | (go_simp; rfl)); intro g hgn w5 hbox hb; have HGg := Aside0.mk hbox; have HBg := Aside0.mk hb; have u0 : w5.cell? ⟨g, 0, none⟩ = some (.int .i64 m.k) := blk_cell hbox 0; have uf0 : w5.frozen? ⟨g, 0, none⟩ = false := blk_frozen hbox 0; have u1 : w5.cell? ⟨g, 1, none⟩ = some (.int .u64 m.s) := blk_cell hbox 1; have uf1 : w5.frozen? ⟨g, 1, none⟩ = false := blk_frozen hbox 1; have u2 : w5.cell? ⟨g, 2, none⟩ = some (.int .u64 m.se) := blk_cell hbox 2; have uf2 : w5.frozen? ⟨g, 2, none⟩ = false := blk_frozen hbox 2; have u3 : w5.cell? ⟨g, 3, none⟩ = some (.int .u64 m.a) := blk_cell hbox 3; have uf3 : w5.frozen? ⟨g, 3, none⟩ = false := blk_frozen hbox 3; have u4 : w5.cell? ⟨g, 4, none⟩ = some (.int .u64 m.i) := blk_cell hbox 4; have uf4 : w5.frozen? ⟨g, 4, none⟩ = false := blk_frozen hbox 4; have u5 : w5.cell? ⟨g, 5, none⟩ = some (.int .u64 m.n) := blk_cell hbox 5; have uf5 : w5.frozen? ⟨g, 5, none⟩ = false := blk_frozen hbox 5; have u6 : w5.cell? ⟨g, 6, none⟩ = some (.int .u64 m.c) := blk_cell hbox 6; have uf6 : w5.frozen? ⟨g, 6, none⟩ = false := blk_frozen hbox 6; have u7 : w5.cell? ⟨g, 7, none⟩ = some (.int .i64 m.why) := blk_cell hbox 7; have uf7 : w5.frozen? ⟨g, 7, none⟩ = false := blk_frozen hbox 7; have u8 : w5.cell? ⟨g, 8, none⟩ = some (.int .u64 m.seed) := blk_cell hbox 8; have uf8 : w5.frozen? ⟨g, 8, none⟩ = false := blk_frozen hbox 8; have u9 : w5.cell? ⟨g, 9, none⟩ = some (.slice A m.P.length c) := blk_cell hbox 9; have uf9 : w5.frozen? ⟨g, 9, none⟩ = false := blk_frozen hbox 9; have u10 : w5.cell? ⟨g, 10, none⟩ = some (.int .i64 m.most) := blk_cell hbox 10; have uf10 : w5.frozen? ⟨g, 10, none⟩ = false := blk_frozen hbox 10; have u11 : w5.cell? ⟨g, 11, none⟩ = some (.slice B m.L.length d) := blk_cell hbox 11; have uf11 : w5.frozen? ⟨g, 11, none⟩ = false := blk_frozen hbox 11; clear hbox hb hgn) | ((with_reducible refine gate_dst (N := 2) rfl ?_); refine box_event ?hg (N := 2) ?hd (cs := #[.int .i64 0, .int .u64 0, .int .u64 0, .int .u64 0, .int .u64 0, .int .u64 0, .int .u64 0, .int .i64 0, .int .u64 0, .slice none 0 0, .int .i64 0, .slice none 0 0]) (t := 29) ?hr ?_; (case hd => rfl); (case hg => rfl); (case hr => first | (go_simp; done) | (go_simp; rfl)); intro h hgn w6 hbox hb; have HGh := Aside0.mk hbox; have HBh := Aside0.mk hb; have y0 : w6.cell? ⟨h, 0, none⟩ = some (.int .i64 0) := blk_cell hbox 0; have yf0 : w6.frozen? ⟨h, 0, none⟩ = false := blk_frozen hbox 0; have y1 : w6.cell? ⟨h, 1, none⟩ = some (.int .u64 0) := blk_cell hbox 1; have yf1 : w6.frozen? ⟨h, 1, none⟩ = false := blk_frozen hbox 1; have y2 : w6.cell? ⟨h, 2, none⟩ = some (.int .u64 0) := blk_cell hbox 2; have yf2 : w6.frozen? ⟨h, 2, none⟩ = false := blk_frozen hbox 2; have y3 : w6.cell? ⟨h, 3, none⟩ = some (.int .u64 0) := blk_cell hbox 3; have yf3 : w6.frozen? ⟨h, 3, none⟩ = false := blk_frozen hbox 3; have y4 : w6.cell? ⟨h, 4, none⟩ = some (.int .u64 0) := blk_cell hbox 4; have yf4 : w6.frozen? ⟨h, 4, none⟩ = false := blk_frozen hbox 4; have y5 : w6.cell? ⟨h, 5, none⟩ = some (.int .u64 0) := blk_cell hbox 5; have yf5 : w6.frozen? ⟨h, 5, none⟩ = false := blk_frozen hbox 5; have y6 : w6.cell? ⟨h, 6, none⟩ = some (.int .u64 0) := blk_cell hbox 6; have yf6 : w6.frozen? ⟨h, 6, none⟩ = false := blk_frozen hbox 6; have y7 : w6.cell? ⟨h, 7, none⟩ = some (.int .i64 0) := blk_cell hbox 7; have yf7 : w6.frozen? ⟨h, 7, none⟩ = false := blk_frozen hbox 7; have y8 : w6.cell? ⟨h, 8, none⟩ = some (.int .u64 0) := blk_cell hbox 8; have yf8 : w6.frozen? ⟨h, 8, none⟩ = false := blk_frozen hbox 8; have y9 : w6.cell? ⟨h, 9, none⟩ = some (.slice none 0 0) := blk_cell hbox 9; have yf9 : w6.frozen? ⟨h, 9, none⟩ = false := blk_frozen hbox 9; have y10 : w6.cell? ⟨h, 10, none⟩ = some (.int .i64 0) := blk_cell hbox 10; have yf10 : w6.frozen? ⟨h, 10, none⟩ = false := blk_frozen hbox 10; have y11 : w6.cell? ⟨h, 11, none⟩ = some (.slice none 0 0) := blk_cell hbox 11; have yf11 : w6.frozen? ⟨h, 11, none⟩ = false := blk_frozen hbox 11; have HNH := Aside0.mk hgn; have hk9 := blk_below HGg.out hb; have k0 : w6.cell? ⟨g, 0, none⟩ = some (.int .i64 m.k) := blk_cell hk9 0; have k1 : w6.cell? ⟨g, 1, none⟩ = some (.int .u64 m.s) := blk_cell hk9 1; have k2 : w6.cell? ⟨g, 2, none⟩ = some (.int .u64 m.se) := blk_cell hk9 2; have k3 : w6.cell? ⟨g, 3, none⟩ = some (.int .u64 m.a) := blk_cell hk9 3; have k4 : w6.cell? ⟨g, 4, none⟩ = some (.int .u64 m.i) := blk_cell hk9 4; have k5 : w6.cell? ⟨g, 5, none⟩ = some (.int .u64 m.n) := blk_cell hk9 5; have k6 : w6.cell? ⟨g, 6, none⟩ = some (.int .u64 m.c) := blk_cell hk9 6; have k7 : w6.cell? ⟨g, 7, none⟩ = some (.int .i64 m.why) := blk_cell hk9 7; have k8 : w6.cell? ⟨g, 8, none⟩ = some (.int .u64 m.seed) := blk_cell hk9 8; have k9 : w6.cell? ⟨g, 9, none⟩ = some (.slice A m.P.length c) := blk_cell hk9 9; have k10 : w6.cell? ⟨g, 10, none⟩ = some (.int .i64 m.most) := blk_cell hk9 10; have k11 : w6.cell? ⟨g, 11, none⟩ = some (.slice B m.L.length d) := blk_cell hk9 11; clear hbox hb hgn hk9))
  (try simp only [Exit.inBlock, Exit.then])
  refine bodyPost_ret (results_cell_row rfl _ _ h 29 #[.int .i64 m.k, .int .u64 m.s, .int .u64 m.se, .int .u64 m.a, .int .u64 m.i, .int .u64 m.n, .int .u64 m.c, .int .i64 m.why, .int .u64 m.seed, .slice A m.P.length c, .int .i64 m.most, .slice B m.L.length d] (0, 0) _ rfl (st12_blk HGh.out _ _ _ _ _ _ _ _ _ _ _ _) Try.underlying29 rfl (by kernel_rfl)) rfl ?_
  exact ⟨rfl, st12_bel (below_step HBg.out HBh.out) (by have := HNH.out; have := HBg.out.size; omega) _ _ _ _ _ _ _ _ _ _ _ _⟩
set_option maxHeartbeats 8000000 in
set_option maxRecDepth 100000 in
theorem ours_c (w : World) (m : Ms) (A B : Option Addr) (c d : Nat) : Calls Try.prog 23 #[.agg #[.int .i64 m.k, .int .u64 m.s, .int .u64 m.se, .int .u64 m.a, .int .u64 m.i, .int .u64 m.n, .int .u64 m.c, .int .i64 m.why, .int .u64 m.seed, .slice A m.P.length c, .int .i64 m.most, .slice B m.L.length d]] w fun er w' => er = .returned (.agg #[.int .i64 m.k, .int .u64 m.s, .int .u64 m.se, .int .u64 m.a, .int .u64 m.i, .int .u64 m.n, .int .u64 m.c, .int .i64 m.why, .int .u64 m.seed, .slice A m.P.length c, .int .i64 m.most, .slice B m.L.length d]) ∧ Below w.heap.size w w' := by
  have hu29 := Try.underlying29
  have hu38 := Try.underlying38
  have hu27 := Try.underlying27
  go_enter Try.func23, Try.ntmps23
  go_wp2_with (first | ((with_reducible refine gate_dst (N := 1) rfl ?_); refine box_event ?hg (N := 1) ?hd (cs := #[.int .i64 m.k, .int .u64 m.s, .int .u64 m.se, .int .u64 m.a, .int .u64 m.i, .int .u64 m.n, .int .u64 m.c, .int .i64 m.why, .int .u64 m.seed, .slice A m.P.length c, .int .i64 m.most, .slice B m.L.length d]) (t := 29) ?hr ?_; (case hd => rfl); (case hg => rfl); (case hr => first | (go_simp; done) | (go_simp; rfl)); intro g hgn w5 hbox hb; have HGg := Aside0.mk hbox; have HBg := Aside0.mk hb; have u0 : w5.cell? ⟨g, 0, none⟩ = some (.int .i64 m.k) := blk_cell hbox 0; have uf0 : w5.frozen? ⟨g, 0, none⟩ = false := blk_frozen hbox 0; have u1 : w5.cell? ⟨g, 1, none⟩ = some (.int .u64 m.s) := blk_cell hbox 1; have uf1 : w5.frozen? ⟨g, 1, none⟩ = false := blk_frozen hbox 1; have u2 : w5.cell? ⟨g, 2, none⟩ = some (.int .u64 m.se) := blk_cell hbox 2; have uf2 : w5.frozen? ⟨g, 2, none⟩ = false := blk_frozen hbox 2; have u3 : w5.cell? ⟨g, 3, none⟩ = some (.int .u64 m.a) := blk_cell hbox 3; have uf3 : w5.frozen? ⟨g, 3, none⟩ = false := blk_frozen hbox 3; have u4 : w5.cell? ⟨g, 4, none⟩ = some (.int .u64 m.i) := blk_cell hbox 4; have uf4 : w5.frozen? ⟨g, 4, none⟩ = false := blk_frozen hbox 4; have u5 : w5.cell? ⟨g, 5, none⟩ = some (.int .u64 m.n) := blk_cell hbox 5; have uf5 : w5.frozen? ⟨g, 5, none⟩ = false := blk_frozen hbox 5; have u6 : w5.cell? ⟨g, 6, none⟩ = some (.int .u64 m.c) := blk_cell hbox 6; have uf6 : w5.frozen? ⟨g, 6, none⟩ = false := blk_frozen hbox 6; have u7 : w5.cell? ⟨g, 7, none⟩ = some (.int .i64 m.why) := blk_cell hbox 7; have uf7 : w5.frozen? ⟨g, 7, none⟩ = false := blk_frozen hbox 7; have u8 : w5.cell? ⟨g, 8, none⟩ = some (.int .u64 m.seed) := blk_cell hbox 8; have uf8 : w5.frozen? ⟨g, 8, none⟩ = false := blk_frozen hbox 8; have u9 : w5.cell? ⟨g, 9, none⟩ = some (.slice A m.P.length c) := blk_cell hbox 9; have uf9 : w5.frozen? ⟨g, 9, none⟩ = false := blk_frozen hbox 9; have u10 : w5.cell? ⟨g, 10, none⟩ = some (.int .i64 m.most) := blk_cell hbox 10; have uf10 : w5.frozen? ⟨g, 10, none⟩ = false := blk_frozen hbox 10; have u11 : w5.cell? ⟨g, 11, none⟩ = some (.slice B m.L.length d) := blk_cell hbox 11; have uf11 : w5.frozen? ⟨g, 11, none⟩ = false := blk_frozen hbox 11; clear hbox hb hgn) | ((with_reducible refine gate_dst (N := 2) rfl ?_); refine box_event ?hg (N := 2) ?hd (cs := #[.int .i64 0, .int .u64 0, .int .u64 0, .int .u64 0, .int .u64 0, .int .u64 0, .int .u64 0, .int .i64 0, .int .u64 0, .slice none 0 0, .int .i64 0, .slice none 0 0]) (t := 38) ?hr ?_; (case hd => rfl); (case hg => rfl); (case hr => first | (go_simp; done) | (go_simp; rfl)); intro h hgn w6 hbox hb; have HGh := Aside0.mk hbox; have HBh := Aside0.mk hb; have y0 : w6.cell? ⟨h, 0, none⟩ = some (.int .i64 0) := blk_cell hbox 0; have yf0 : w6.frozen? ⟨h, 0, none⟩ = false := blk_frozen hbox 0; have y1 : w6.cell? ⟨h, 1, none⟩ = some (.int .u64 0) := blk_cell hbox 1; have yf1 : w6.frozen? ⟨h, 1, none⟩ = false := blk_frozen hbox 1; have y2 : w6.cell? ⟨h, 2, none⟩ = some (.int .u64 0) := blk_cell hbox 2; have yf2 : w6.frozen? ⟨h, 2, none⟩ = false := blk_frozen hbox 2; have y3 : w6.cell? ⟨h, 3, none⟩ = some (.int .u64 0) := blk_cell hbox 3; have yf3 : w6.frozen? ⟨h, 3, none⟩ = false := blk_frozen hbox 3; have y4 : w6.cell? ⟨h, 4, none⟩ = some (.int .u64 0) := blk_cell hbox 4; have yf4 : w6.frozen? ⟨h, 4, none⟩ = false := blk_frozen hbox 4; have y5 : w6.cell? ⟨h, 5, none⟩ = some (.int .u64 0) := blk_cell hbox 5; have yf5 : w6.frozen? ⟨h, 5, none⟩ = false := blk_frozen hbox 5; have y6 : w6.cell? ⟨h, 6, none⟩ = some (.int .u64 0) := blk_cell hbox 6; have yf6 : w6.frozen? ⟨h, 6, none⟩ = false := blk_frozen hbox 6; have y7 : w6.cell? ⟨h, 7, none⟩ = some (.int .i64 0) := blk_cell hbox 7; have yf7 : w6.frozen? ⟨h, 7, none⟩ = false := blk_frozen hbox 7; have y8 : w6.cell? ⟨h, 8, none⟩ = some (.int .u64 0) := blk_cell hbox 8; have yf8 : w6.frozen? ⟨h, 8, none⟩ = false := blk_frozen hbox 8; have y9 : w6.cell? ⟨h, 9, none⟩ = some (.slice none 0 0) := blk_cell hbox 9; have yf9 : w6.frozen? ⟨h, 9, none⟩ = false := blk_frozen hbox 9; have y10 : w6.cell? ⟨h, 10, none⟩ = some (.int .i64 0) := blk_cell hbox 10; have yf10 : w6.frozen? ⟨h, 10, none⟩ = false := blk_frozen hbox 10; have y11 : w6.cell? ⟨h, 11, none⟩ = some (.slice none 0 0) := blk_cell hbox 11; have yf11 : w6.frozen? ⟨h, 11, none⟩ = false := blk_frozen hbox 11; have HNH := Aside0.mk hgn; have hk9 := blk_below HGg.out hb; have k0 : w6.cell? ⟨g, 0, none⟩ = some (.int .i64 m.k) := blk_cell hk9 0; have k1 : w6.cell? ⟨g, 1, none⟩ = some (.int .u64 m.s) := blk_cell hk9 1; have k2 : w6.cell? ⟨g, 2, none⟩ = some (.int .u64 m.se) := blk_cell hk9 2; have k3 : w6.cell? ⟨g, 3, none⟩ = some (.int .u64 m.a) := blk_cell hk9 3; have k4 : w6.cell? ⟨g, 4, none⟩ = some (.int .u64 m.i) := blk_cell hk9 4; have k5 : w6.cell? ⟨g, 5, none⟩ = some (.int .u64 m.n) := blk_cell hk9 5; have k6 : w6.cell? ⟨g, 6, none⟩ = some (.int .u64 m.c) := blk_cell hk9 6; have k7 : w6.cell? ⟨g, 7, none⟩ = some (.int .i64 m.why) := blk_cell hk9 7; have k8 : w6.cell? ⟨g, 8, none⟩ = some (.int .u64 m.seed) := blk_cell hk9 8; have k9 : w6.cell? ⟨g, 9, none⟩ = some (.slice A m.P.length c) := blk_cell hk9 9; have k10 : w6.cell? ⟨g, 10, none⟩ = some (.int .i64 m.most) := blk_cell hk9 10; have k11 : w6.cell? ⟨g, 11, none⟩ = some (.slice B m.L.length d) := blk_cell hk9 11; clear hbox hb hgn hk9))
  (try simp only [Exit.inBlock, Exit.then])
  refine bodyPost_ret (results_cell_row rfl _ _ h 38 #[.int .i64 m.k, .int .u64 m.s, .int .u64 m.se, .int .u64 m.a, .int .u64 m.i, .int .u64 m.n, .int .u64 m.c, .int .i64 m.why, .int .u64 m.seed, .slice A m.P.length c, .int .i64 m.most, .slice B m.L.length d] (0, 0) _ rfl (st12_blk HGh.out _ _ _ _ _ _ _ _ _ _ _ _) Try.underlying38 rfl (by kernel_rfl)) rfl ?_
  exact ⟨rfl, st12_bel (below_step HBg.out HBh.out) (by have := HNH.out; have := HBg.out.size; omega) _ _ _ _ _ _ _ _ _ _ _ _⟩
end Go.Proofs.Ytbfmbjkalldonaa.Msg
namespace Go.Proofs.Ytbfmbjkalldonaa.Msg
set_option linter.unusedVariables false
set_option linter.unusedSimpArgs false
open Go.RowKit Go.Proofs.Ytbfmbjkalldonaa.PA Go.Proofs.YtbfmbjkalldonaaW.PrintWords Go.Proofs.YtbfmbjkalldonaaW.PrintLast Go.Proofs.YtbfmbjkalldonaaW.PrintMore Go.Proofs.Ytbfmbjkalldonaa.Base Go.Proofs.Ytbfmbjkalldonaa.Var Go.Proofs.Ytbfmbjkalldonaa.Lst
theorem num_back (x most : Int) (rest : List Int) (h0 : 0 ≤ x) (h1 : x ≤ most) (h2 : most ≤ top) : numV (vb x.toNat ++ rest) 0 most = (x, rest, 0) := by
  unfold top at h2
  unfold numV
  rw [if_pos rfl, gt_vb0 rest x.toNat (by omega)]
  dsimp only
  rw [if_pos rfl, if_neg (by omega), Int.toNat_natCast, List.drop_left' rfl, Int.toNat_of_nonneg h0]
theorem nums_back : ∀ (xs : List Int) (rest : List Int), (∀ x ∈ xs, 0 ≤ x ∧ x < 64) → numsV xs.length (flat xs ++ rest) 0 = (xs, rest, 0)
  | [], rest, h => rfl
  | x :: xs, rest, h => by
    have hx := h x List.mem_cons_self
    rw [List.length_cons]
    unfold numsV
    rw [if_pos rfl, flat_cons, List.append_assoc, num_back x 63 _ hx.1 (by omega) (by decide)]
    dsimp only
    rw [nums_back xs rest (fun y hy => h y (List.mem_cons_of_mem _ hy))]
theorem list_back (xs rest : List Int) (hl : xs.length ≤ 256) (h : ∀ x ∈ xs, 0 ≤ x ∧ x < 64) : listV (flat ((xs.length : Int) :: xs) ++ rest) 0 = (xs, rest, 0) := by
  unfold listV
  rw [flat_cons, List.append_assoc, num_back (xs.length : Int) 256 _ (by omega) (by omega) (by decide)]
  dsimp only
  rw [Int.toNat_natCast, nums_back xs rest h]
def copyV (m0 m : Ms) (c : Int) : Ms := if c = 119 then { m0 with why := m.why } else if c = 106 then { m0 with seed := m.seed, most := m.most, P := m.P } else if c = 108 then { m0 with L := m.L } else setV m0 c (getV m c)
theorem get_u {m : Ms} (hu : m.U) (c : Int) : 0 ≤ getV m c ∧ getV m c ≤ top := by
  unfold getV
  split; · exact hu.s
  split; · exact hu.se
  split; · exact hu.a
  split; · exact hu.i
  split; · exact hu.n
  exact hu.c
theorem field_back (m0 : Ms) {m : Ms} (hu : m.U) (hm : May m) (c : Int) (rest : List Int) : fieldV m0 (flat (wordsV m c) ++ rest) 0 c = (copyV m0 m c, rest, 0) := by
  have h1 := hm.why; have h2 := hm.most
  unfold fieldV wordsV copyV
  by_cases c1 : c = 119
  · rw [if_pos c1, if_pos c1, if_pos c1, flat_one', num_back m.why 255 rest h1.1 h1.2 (by decide)]
  rw [if_neg c1, if_neg c1, if_neg c1]
  by_cases c2 : c = 106
  · rw [if_pos c2, if_pos c2, if_pos c2]
    rw [flat_cons m.seed, flat_cons m.most]
    simp only [List.append_assoc]
    rw [num_back m.seed top _ hu.seed.1 hu.seed.2 (Int.le_refl _)]
    dsimp only
    rw [num_back m.most 256 _ h2.1 h2.2 (by decide)]
    dsimp only
    rw [list_back m.P rest hm.P.1 hm.P.2]
  rw [if_neg c2, if_neg c2, if_neg c2]
  by_cases c3 : c = 108
  · rw [if_pos c3, if_pos c3, if_pos c3, list_back m.L rest hm.L.1 hm.L.2]
  rw [if_neg c3, if_neg c3, if_neg c3, flat_one']
  have hg := get_u hu c
  rw [num_back (getV m c) top rest hg.1 hg.2 (Int.le_refl _)]
theorem fold_back {m : Ms} (hu : m.U) (hm : May m) : ∀ (cs : List Int) (m0 : Ms) (rest : List Int), foldV cs m0 (flat (cs.flatMap (wordsV m)) ++ rest) 0 = (cs.foldl (fun a c => copyV a m c) m0, rest, 0)
  | [], m0, rest => rfl
  | c :: cs, m0, rest => by
    unfold foldV
    rw [List.flatMap_cons, flat_app, List.append_assoc, field_back m0 hu hm c]
    dsimp only
    rw [fold_back hu hm cs (copyV m0 m c) rest]
    rfl
theorem lack_at {m : Ms} (h : lackV m = true) {c : Int} (hc : c ∈ ([115, 101, 97, 105, 110, 99, 119, 106, 108] : List Int)) : c ∈ lettersV m.k ∨ bareV m c = true := by
  unfold lackV at h
  rw [List.all_eq_true] at h
  have := h c hc
  rw [Bool.or_eq_true] at this
  exact this.imp (fun e => List.contains_iff_mem.1 e) id
theorem copy_all {m : Ms} (hm : May m) : (lettersV m.k).foldl (fun a c => copyV a m c) (Ms.of m.k) = m := by
  have hk := hm.k
  have h115 : 115 ∈ lettersV m.k ∨ m.s = 0 := (lack_at hm.lack (by decide)).imp id fun e => by simpa [bareV, getV] using e
  have h101 : 101 ∈ lettersV m.k ∨ m.se = 0 := (lack_at hm.lack (by decide)).imp id fun e => by simpa [bareV, getV] using e
  have h97 : 97 ∈ lettersV m.k ∨ m.a = 0 := (lack_at hm.lack (by decide)).imp id fun e => by simpa [bareV, getV] using e
  have h105 : 105 ∈ lettersV m.k ∨ m.i = 0 := (lack_at hm.lack (by decide)).imp id fun e => by simpa [bareV, getV] using e
  have h110 : 110 ∈ lettersV m.k ∨ m.n = 0 := (lack_at hm.lack (by decide)).imp id fun e => by simpa [bareV, getV] using e
  have h99 : 99 ∈ lettersV m.k ∨ m.c = 0 := (lack_at hm.lack (by decide)).imp id fun e => by simpa [bareV, getV] using e
  have h119 : 119 ∈ lettersV m.k ∨ m.why = 0 := (lack_at hm.lack (by decide)).imp id fun e => by simpa [bareV] using e
  have h106 : 106 ∈ lettersV m.k ∨ (m.seed = 0 ∧ m.most = 0) ∧ m.P = [] := (lack_at hm.lack (by decide)).imp id fun e => by simpa [bareV] using e
  have h108 : 108 ∈ lettersV m.k ∨ m.L = [] := (lack_at hm.lack (by decide)).imp id fun e => by simpa [bareV] using e
  clear hm
  obtain ⟨k, s, se, a, i, n, c, why, seed, P, most, L⟩ := m
  dsimp only at *
  have hk12 : k = 1 ∨ k = 2 ∨ k = 3 ∨ k = 4 ∨ k = 5 ∨ k = 6 ∨ k = 7 ∨ k = 8 ∨ k = 9 ∨ k = 10 ∨ k = 11 ∨ k = 12 := by omega
  rcases hk12 with rfl | rfl | rfl | rfl | rfl | rfl | rfl | rfl | rfl | rfl | rfl | rfl
  · obtain rfl := h97.resolve_left (by decide)
    obtain rfl := h105.resolve_left (by decide)
    obtain rfl := h110.resolve_left (by decide)
    obtain rfl := h99.resolve_left (by decide)
    obtain rfl := h119.resolve_left (by decide)
    obtain rfl := h108.resolve_left (by decide)
    rfl
  · obtain rfl := h101.resolve_left (by decide)
    obtain rfl := h97.resolve_left (by decide)
    obtain rfl := h105.resolve_left (by decide)
    obtain rfl := h99.resolve_left (by decide)
    obtain rfl := h119.resolve_left (by decide)
    obtain ⟨⟨rfl, rfl⟩, rfl⟩ := h106.resolve_left (by decide)
    obtain rfl := h108.resolve_left (by decide)
    rfl
  · obtain rfl := h101.resolve_left (by decide)
    obtain rfl := h97.resolve_left (by decide)
    obtain rfl := h105.resolve_left (by decide)
    obtain rfl := h110.resolve_left (by decide)
    obtain rfl := h99.resolve_left (by decide)
    obtain rfl := h119.resolve_left (by decide)
    obtain ⟨⟨rfl, rfl⟩, rfl⟩ := h106.resolve_left (by decide)
    obtain rfl := h108.resolve_left (by decide)
    rfl
  · obtain rfl := h101.resolve_left (by decide)
    obtain rfl := h97.resolve_left (by decide)
    obtain rfl := h105.resolve_left (by decide)
    obtain rfl := h99.resolve_left (by decide)
    obtain rfl := h119.resolve_left (by decide)
    obtain ⟨⟨rfl, rfl⟩, rfl⟩ := h106.resolve_left (by decide)
    rfl
  · obtain rfl := h101.resolve_left (by decide)
    obtain rfl := h97.resolve_left (by decide)
    obtain rfl := h105.resolve_left (by decide)
    obtain rfl := h99.resolve_left (by decide)
    obtain ⟨⟨rfl, rfl⟩, rfl⟩ := h106.resolve_left (by decide)
    obtain rfl := h108.resolve_left (by decide)
    rfl
  · obtain rfl := h115.resolve_left (by decide)
    obtain rfl := h101.resolve_left (by decide)
    obtain rfl := h99.resolve_left (by decide)
    obtain rfl := h119.resolve_left (by decide)
    obtain rfl := h108.resolve_left (by decide)
    rfl
  · obtain rfl := h115.resolve_left (by decide)
    obtain rfl := h101.resolve_left (by decide)
    obtain rfl := h110.resolve_left (by decide)
    obtain rfl := h99.resolve_left (by decide)
    obtain rfl := h119.resolve_left (by decide)
    obtain ⟨⟨rfl, rfl⟩, rfl⟩ := h106.resolve_left (by decide)
    obtain rfl := h108.resolve_left (by decide)
    rfl
  · obtain rfl := h115.resolve_left (by decide)
    obtain rfl := h101.resolve_left (by decide)
    obtain rfl := h99.resolve_left (by decide)
    obtain rfl := h119.resolve_left (by decide)
    obtain ⟨⟨rfl, rfl⟩, rfl⟩ := h106.resolve_left (by decide)
    rfl
  · obtain rfl := h115.resolve_left (by decide)
    obtain rfl := h101.resolve_left (by decide)
    obtain rfl := h99.resolve_left (by decide)
    obtain ⟨⟨rfl, rfl⟩, rfl⟩ := h106.resolve_left (by decide)
    obtain rfl := h108.resolve_left (by decide)
    rfl
  · obtain rfl := h115.resolve_left (by decide)
    obtain rfl := h101.resolve_left (by decide)
    obtain rfl := h97.resolve_left (by decide)
    obtain rfl := h105.resolve_left (by decide)
    obtain rfl := h99.resolve_left (by decide)
    obtain rfl := h119.resolve_left (by decide)
    obtain ⟨⟨rfl, rfl⟩, rfl⟩ := h106.resolve_left (by decide)
    obtain rfl := h108.resolve_left (by decide)
    rfl
  · obtain rfl := h115.resolve_left (by decide)
    obtain rfl := h101.resolve_left (by decide)
    obtain rfl := h97.resolve_left (by decide)
    obtain rfl := h119.resolve_left (by decide)
    obtain ⟨⟨rfl, rfl⟩, rfl⟩ := h106.resolve_left (by decide)
    obtain rfl := h108.resolve_left (by decide)
    rfl
  · obtain rfl := h115.resolve_left (by decide)
    obtain rfl := h101.resolve_left (by decide)
    obtain rfl := h97.resolve_left (by decide)
    obtain rfl := h110.resolve_left (by decide)
    obtain rfl := h99.resolve_left (by decide)
    obtain rfl := h119.resolve_left (by decide)
    obtain ⟨⟨rfl, rfl⟩, rfl⟩ := h106.resolve_left (by decide)
    obtain rfl := h108.resolve_left (by decide)
    rfl
theorem read_back {m : Ms} (hu : m.U) (h : mayV m = true) : readV (loadV m) = (m, 0) := by
  have hm := may_of h
  have hk := hm.k
  unfold readV loadV
  rw [flat_cons, num_back m.k top _ (by omega) (by unfold top; omega) (Int.le_refl _)]
  dsimp only
  have e := fold_back hu hm (lettersV m.k) (Ms.of m.k) []
  rw [List.append_nil] at e
  rw [if_pos rfl, if_neg (by omega), e]
  dsimp only
  rw [if_pos rfl, if_pos rfl, copy_all hm]
theorem same_iff (m n : Ms) : sameV m n = true ↔ m = n := by
  constructor
  · intro h
    unfold sameV at h
    simp only [Bool.and_eq_true, List.all_cons, List.all_nil, Bool.and_true, beq_iff_eq, decide_eq_true_eq] at h
    obtain ⟨⟨⟨⟨⟨⟨⟨h1, h2, h3, h4, h5, h6⟩, hk⟩, hw⟩, hs⟩, hmo⟩, hP⟩, hL⟩ := h
    obtain ⟨k, s, se, a, i, nn, c, why, seed, P, most, L⟩ := m
    obtain ⟨k', s', se', a', i', nn', c', why', seed', P', most', L'⟩ := n
    have e1 : s = s' := h1
    have e2 : se = se' := h2
    have e3 : a = a' := h3
    have e4 : i = i' := h4
    have e5 : nn = nn' := h5
    have e6 : c = c' := h6
    dsimp only at hk hw hs hmo hP hL
    subst e1 e2 e3 e4 e5 e6 hk hw hs hmo hP hL
    rfl
  · rintro rfl
    unfold sameV
    simp
theorem apart_plain {m n : Ms} (hu : m.U) (hv : n.U) (hm : mayV m = true) (hn : mayV n = true) : decide (loadV m = loadV n) = sameV m n := by
  by_cases h : loadV m = loadV n
  · rw [decide_eq_true h]
    have e1 := read_back hu hm
    rw [h, read_back hv hn] at e1
    have e : n = m := (Prod.mk.inj e1).1
    exact ((same_iff m n).2 e.symm).symm
  · rw [decide_eq_false h]
    cases hs : sameV m n with
    | false => rfl
    | true => exact absurd (by rw [(same_iff m n).1 hs]) h
end Go.Proofs.Ytbfmbjkalldonaa.Msg
namespace Go.Proofs.Ytbfmbjkalldonaa.Msg
set_option linter.unusedVariables false
set_option linter.unusedSimpArgs false
open Go.RowKit Go.ChangeShapes Go.WideShapes Go.Joins Go.Proofs.Ytbfmbjkalldonaa.PA Go.Proofs.YtbfmbjkalldonaaW.PrintWords Go.Proofs.YtbfmbjkalldonaaW.PrintLast Go.Proofs.YtbfmbjkalldonaaW.PrintMore Go.Proofs.Ytbfmbjkalldonaa.Base Go.Proofs.Ytbfmbjkalldonaa.Var Go.Proofs.Ytbfmbjkalldonaa.Lst
structure MsgIn (W : World) (m : Ms) (A : Option Addr) (c : Nat) (B : Option Addr) (d : Nat) : Prop where
  P : Kd.C (Kd.int .i64) W A m.P.length m.P
  cP : m.P.length ≤ c
  L : Kd.C (Kd.int .i64) W B m.L.length m.L
  cL : m.L.length ≤ d
  u : m.U
  k : (Lit.int .i64 m.k).wf = true
  why : (Lit.int .i64 m.why).wf = true
  most : (Lit.int .i64 m.most).wf = true
  eP : ∀ x ∈ m.P, (Lit.int .i64 x).wf = true
  eL : ∀ x ∈ m.L, (Lit.int .i64 x).wf = true
theorem u64_of {x : Int} (h : (Lit.int .u64 x).wf = true) : 0 ≤ x ∧ x ≤ top := by
  unfold top
  simp [Lit.wf, IntKind.min, IntKind.max, IntKind.bits, IntKind.signed] at h
  omega
theorem array12 {α : Type} {cs : Array α} (h : cs.size = 12) : ∃ c0 c1 c2 c3 c4 c5 c6 c7 c8 c9 c10 c11, cs = #[c0, c1, c2, c3, c4, c5, c6, c7, c8, c9, c10, c11] := by
  obtain ⟨l⟩ := cs
  match l, h with
  | [c0, c1, c2, c3, c4, c5, c6, c7, c8, c9, c10, c11], _ => exact ⟨c0, c1, c2, c3, c4, c5, c6, c7, c8, c9, c10, c11, rfl⟩
section
variable {H : Type} {enc : TypeId × Value → H} {W : World} {base : Nat} {held : Bool}
theorem int_at {n : Nat} {T : TypeId} {k : IntKind} {x : Value} {y : Option (DataW H × List MemPlace)} (ht : Try.prog.underlying T = some (.int k)) (h : DataW.trod enc Try.prog W base (fun _ => true) held n T [x] = y) (hy : y.isSome = true) : ∃ a, x = .int k a ∧ (Lit.int k a).wf = true := by
  obtain ⟨y, rfl⟩ := Option.isSome_iff_exists.1 hy
  obtain ⟨a, e, _, hw⟩ := DataW.trod_int ht h
  exact ⟨a, by simpa using e, hw⟩
set_option maxRecDepth 100000 in
theorem row_at {n : Nat} {x : Value} {y : Option (DataW H × List MemPlace)} (h : DataW.trod enc Try.prog W base (fun _ => true) held n 25 [x] = y) (hy : y.isSome = true) : ∃ (A : Option Addr) (c : Nat) (l : List Int), x = .slice A l.length c ∧ Kd.C (Kd.int .i64) W A l.length l ∧ l.length ≤ c ∧ ∀ z ∈ l, (Lit.int .i64 z).wf = true := by
  obtain ⟨y, rfl⟩ := Option.isSome_iff_exists.1 hy
  rcases open_ints Try.underlying25 Try.underlying3 (by kernel_rfl) h with ⟨hcs, _⟩ | ⟨a, l, c, zs, hcs, _, hl, hm, hz, _, hcell, hwz⟩
  · obtain rfl : x = .slice none 0 0 := by simpa using hcs
    exact ⟨none, 0, [], rfl, Kd.C_of_reads (enc := Value.int .i64) (d := (0 : Int)) (h1 := fun _ => rfl) ⟨rfl, Nat.zero_le _, fun h => absurd h (by decide)⟩, Nat.le_refl _, fun z hz => by cases hz⟩
  · obtain rfl : x = .slice (some a) l c := by simpa using hcs
    have hz : zs.length = c := by simpa using hz
    obtain ⟨l', rfl, hr, _, hw, hc⟩ := ReadsInt.ofRowC (k := .i64) (w := W) (a := some a) (len := l) (cap := c) (zs := zs) (.inr ⟨a, rfl, hl, hm, hz, hcell, hwz⟩)
    exact ⟨some a, c, l', rfl, Kd.C_of_reads (d := (0 : Int)) (h1 := fun _ => rfl) hr, hc, hw⟩
theorem c3 : Try.prog.cellsOf 3 = 1 := by kernel_rfl
theorem c24 : Try.prog.cellsOf 24 = 1 := by kernel_rfl
theorem c25 : Try.prog.cellsOf 25 = 1 := by kernel_rfl
theorem c27 : Try.prog.cellsOf 27 = 3 := by kernel_rfl
theorem c38 : Try.prog.cellsOf 38 = 12 := by kernel_rfl
set_option maxRecDepth 100000 in
theorem msgOf {r : Reach} {b0 : Nat} {v : Value} {dt : DataW H} {p : List MemPlace} (hv : Value.okWide Try.prog W r b0 38 v) (h : DataW.Trod enc Try.prog W base (fun _ => true) held 38 v dt p) :
    ∃ (m : Ms) (A : Option Addr) (c : Nat) (B : Option Addr) (d : Nat), v = .agg (mcells m (.slice A m.P.length c) (.slice B m.L.length d)) ∧ MsgIn W m A c B d := by
  obtain ⟨cs, rfl, hsz⟩ := okWide_struct Try.underlying38 hv
  obtain ⟨x0, x1, x2, x3, x4, x5, x6, x7, x8, x9, x10, x11, rfl⟩ := array12 (hsz.trans c38)
  obtain ⟨fuel, hf⟩ := h
  obtain ⟨xs, n, _, _, _, hl, hfs⟩ := DataW.trod_struct Try.underlying38 hf
  have hl : xs.length = 10 := hl
  have hs : ∀ i, i < 10 → (xs[i]?).isSome = true := fun i hi => by rw [List.getElem?_eq_getElem (by omega)]; rfl
  have e0 : DataW.trod enc Try.prog W base (fun _ => true) held n 3 (List.take (Try.prog.cellsOf 3) (List.drop 0 [x0, x1, x2, x3, x4, x5, x6, x7, x8, x9, x10, x11])) = xs[0]? := hfs 0 _ rfl
  have e1 : DataW.trod enc Try.prog W base (fun _ => true) held n 24 (List.take (Try.prog.cellsOf 24) (List.drop 1 [x0, x1, x2, x3, x4, x5, x6, x7, x8, x9, x10, x11])) = xs[1]? := hfs 1 _ rfl
  have e2 : DataW.trod enc Try.prog W base (fun _ => true) held n 24 (List.take (Try.prog.cellsOf 24) (List.drop 2 [x0, x1, x2, x3, x4, x5, x6, x7, x8, x9, x10, x11])) = xs[2]? := hfs 2 _ rfl
  have e3 : DataW.trod enc Try.prog W base (fun _ => true) held n 24 (List.take (Try.prog.cellsOf 24) (List.drop 3 [x0, x1, x2, x3, x4, x5, x6, x7, x8, x9, x10, x11])) = xs[3]? := hfs 3 _ rfl
  have e4 : DataW.trod enc Try.prog W base (fun _ => true) held n 24 (List.take (Try.prog.cellsOf 24) (List.drop 4 [x0, x1, x2, x3, x4, x5, x6, x7, x8, x9, x10, x11])) = xs[4]? := hfs 4 _ rfl
  have e5 : DataW.trod enc Try.prog W base (fun _ => true) held n 24 (List.take (Try.prog.cellsOf 24) (List.drop 5 [x0, x1, x2, x3, x4, x5, x6, x7, x8, x9, x10, x11])) = xs[5]? := hfs 5 _ rfl
  have e6 : DataW.trod enc Try.prog W base (fun _ => true) held n 24 (List.take (Try.prog.cellsOf 24) (List.drop 6 [x0, x1, x2, x3, x4, x5, x6, x7, x8, x9, x10, x11])) = xs[6]? := hfs 6 _ rfl
  have e7 : DataW.trod enc Try.prog W base (fun _ => true) held n 3 (List.take (Try.prog.cellsOf 3) (List.drop 7 [x0, x1, x2, x3, x4, x5, x6, x7, x8, x9, x10, x11])) = xs[7]? := hfs 7 _ rfl
  have e8 : DataW.trod enc Try.prog W base (fun _ => true) held n 27 (List.take (Try.prog.cellsOf 27) (List.drop 8 [x0, x1, x2, x3, x4, x5, x6, x7, x8, x9, x10, x11])) = xs[8]? := hfs 8 _ rfl
  have e9 : DataW.trod enc Try.prog W base (fun _ => true) held n 25 (List.take (Try.prog.cellsOf 25) (List.drop 11 [x0, x1, x2, x3, x4, x5, x6, x7, x8, x9, x10, x11])) = xs[9]? := hfs 9 _ rfl
  rw [c3] at e0 e7
  rw [c24] at e1 e2 e3 e4 e5 e6
  rw [c27] at e8
  rw [c25] at e9
  obtain ⟨a0, rfl, w0⟩ := int_at Try.underlying3 e0 (hs 0 (by decide))
  obtain ⟨a1, rfl, w1⟩ := int_at Try.underlying24 e1 (hs 1 (by decide))
  obtain ⟨a2, rfl, w2⟩ := int_at Try.underlying24 e2 (hs 2 (by decide))
  obtain ⟨a3, rfl, w3⟩ := int_at Try.underlying24 e3 (hs 3 (by decide))
  obtain ⟨a4, rfl, w4⟩ := int_at Try.underlying24 e4 (hs 4 (by decide))
  obtain ⟨a5, rfl, w5⟩ := int_at Try.underlying24 e5 (hs 5 (by decide))
  obtain ⟨a6, rfl, w6⟩ := int_at Try.underlying24 e6 (hs 6 (by decide))
  obtain ⟨a7, rfl, w7⟩ := int_at Try.underlying3 e7 (hs 7 (by decide))
  obtain ⟨y8, hy8⟩ := Option.isSome_iff_exists.1 (hs 8 (by decide))
  rw [hy8] at e8
  obtain ⟨ys, n2, _, _, _, hl2, hfs2⟩ := DataW.trod_struct Try.underlying27 e8
  have hl2 : ys.length = 3 := hl2
  have hs2 : ∀ i, i < 3 → (ys[i]?).isSome = true := fun i hi => by rw [List.getElem?_eq_getElem (by omega)]; rfl
  have f0 : DataW.trod enc Try.prog W base (fun _ => true) held n2 24 (List.take (Try.prog.cellsOf 24) (List.drop 0 [x8, x9, x10])) = ys[0]? := hfs2 0 _ rfl
  have f1 : DataW.trod enc Try.prog W base (fun _ => true) held n2 25 (List.take (Try.prog.cellsOf 25) (List.drop 1 [x8, x9, x10])) = ys[1]? := hfs2 1 _ rfl
  have f2 : DataW.trod enc Try.prog W base (fun _ => true) held n2 3 (List.take (Try.prog.cellsOf 3) (List.drop 2 [x8, x9, x10])) = ys[2]? := hfs2 2 _ rfl
  rw [c24] at f0
  rw [c25] at f1
  rw [c3] at f2
  obtain ⟨a8, rfl, w8⟩ := int_at Try.underlying24 f0 (hs2 0 (by decide))
  obtain ⟨AP, cP, lP, rfl, hP, hcP, hwP⟩ := row_at f1 (hs2 1 (by decide))
  obtain ⟨a10, rfl, w10⟩ := int_at Try.underlying3 f2 (hs2 2 (by decide))
  obtain ⟨AL, cL, lL, rfl, hL, hcL, hwL⟩ := row_at e9 (hs 9 (by decide))
  exact ⟨⟨a0, a1, a2, a3, a4, a5, a6, a7, a8, lP, a10, lL⟩, AP, cP, AL, cL, rfl, hP, hcP, hL, hcL, ⟨u64_of w1, u64_of w2, u64_of w3, u64_of w4, u64_of w5, u64_of w6, u64_of w8⟩, w0, w7, w10, hwP, hwL⟩
end
end Go.Proofs.Ytbfmbjkalldonaa.Msg
namespace Go.Proofs.Ytbfmbjkalldonaa.Msg
set_option linter.unusedVariables false
set_option linter.unusedSimpArgs false
open Go.RowKit Go.Proofs.Ytbfmbjkalldonaa.PA Go.Proofs.YtbfmbjkalldonaaW.PrintWords Go.Proofs.YtbfmbjkalldonaaW.PrintLast Go.Proofs.YtbfmbjkalldonaaW.PrintMore Go.Proofs.Ytbfmbjkalldonaa.Base Go.Proofs.Ytbfmbjkalldonaa.Var Go.Proofs.Ytbfmbjkalldonaa.Lst
theorem byte_inj {x y : Int} (hx : 0 ≤ x ∧ x ≤ 255) (hy : 0 ≤ y ∧ y ≤ 255) (h : UInt8.ofNat x.toNat = UInt8.ofNat y.toNat) : x = y := by
  have := congrArg UInt8.toNat h
  simp at this
  omega
theorem map_inj : ∀ (xs ys : List Int), Bytes xs → Bytes ys → xs.map (fun x => UInt8.ofNat x.toNat) = ys.map (fun x => UInt8.ofNat x.toNat) → xs = ys
  | [], [], _, _, _ => rfl
  | [], y :: ys, _, _, h => by simp at h
  | x :: xs, [], _, _, h => by simp at h
  | x :: xs, y :: ys, hx, hy, h => by
    simp only [List.map_cons, List.cons.injEq] at h
    rw [byte_inj (hx x List.mem_cons_self) (hy y List.mem_cons_self) h.1, map_inj xs ys (fun z hz => hx z (List.mem_cons_of_mem _ hz)) (fun z hz => hy z (List.mem_cons_of_mem _ hz)) h.2]
theorem str_eq {xs ys : List Int} (hx : Bytes xs) (hy : Bytes ys) : ((strOfNums xs).toList == (strOfNums ys).toList) = decide (xs = ys) := by
  by_cases h : xs = ys
  · subst h; simp
  · rw [decide_eq_false h]
    rw [beq_eq_false_iff_ne]
    intro e
    rw [Lib.strOfNums_toList, Lib.strOfNums_toList] at e
    exact h (map_inj xs ys hx hy e)
end Go.Proofs.Ytbfmbjkalldonaa.Msg
namespace Go.Proofs.Ytbfmbjkalldonaa.Msg
set_option linter.unusedVariables false
set_option linter.unusedSimpArgs false
open Go.RowKit Go.Proofs.Ytbfmbjkalldonaa.PA Go.Proofs.YtbfmbjkalldonaaW.PrintWords Go.Proofs.YtbfmbjkalldonaaW.PrintLast Go.Proofs.YtbfmbjkalldonaaW.PrintMore Go.Proofs.Ytbfmbjkalldonaa.Base Go.Proofs.Ytbfmbjkalldonaa.Var Go.Proofs.Ytbfmbjkalldonaa.Lst
attribute [local go_sem] max2_int min2_int max_two min_two max_three min_three max_four min_four
def farV (m : Ms) : Bool := decide (1000 < m.L.length) || decide (1000 < m.P.length)
theorem far_c (w : World) (m : Ms) (A B : Option Addr) (c d : Nat) (IM : MsgIn w m A c B d) : ∀ W, Below w.heap.size w W → Calls Try.prog 13 #[.agg #[.int .i64 m.k, .int .u64 m.s, .int .u64 m.se, .int .u64 m.a, .int .u64 m.i, .int .u64 m.n, .int .u64 m.c, .int .i64 m.why, .int .u64 m.seed, .slice A m.P.length c, .int .i64 m.most, .slice B m.L.length d]] W fun er w' => er = .returned (.bool (farV m)) ∧ Below W.heap.size W w' := fun W hw => by
  refine garboardlaw05_far.calls m.k m.s m.se m.a m.i m.n m.c m.why m.seed A c m.P m.most B d m.L (farV m) W (Kd.C_below IM.P hw) IM.cP (Kd.C_below IM.L hw) IM.cL ?_
  unfold garboardlaw05_far.f farV
  by_cases h : 1000 < m.L.length
  · rw [if_pos (by omega), decide_eq_true h]; rfl
  · rw [if_neg (by omega), decide_eq_false h, Bool.false_or]
    congr 1
    exact decide_eq_decide.2 ⟨fun h => by omega, fun h => by omega⟩
theorem not_far {m : Ms} (h : farV m = false) : m.L.length ≤ 1000 ∧ m.P.length ≤ 1000 := by
  unfold farV at h
  rw [Bool.or_eq_false_iff] at h
  exact ⟨by have := of_decide_eq_false h.1; omega, by have := of_decide_eq_false h.2; omega⟩
theorem load_w {w : World} {m : Ms} {A B : Option Addr} {c d : Nat} (IM : MsgIn w m A c B d) (h : farV m = false) : ∀ W, Below w.heap.size w W → Calls Try.prog 11 #[.agg #[.int .i64 m.k, .int .u64 m.s, .int .u64 m.se, .int .u64 m.a, .int .u64 m.i, .int .u64 m.n, .int .u64 m.c, .int .i64 m.why, .int .u64 m.seed, .slice A m.P.length c, .int .i64 m.most, .slice B m.L.length d]] W fun er w' => ∃ v, er = .returned (.tuple #[v, .int .i64 (loadR m).2]) ∧ Ls encB 5 w' W.heap.size v (loadR m).1 ∧ Below W.heap.size W w' := fun W hw => by
  have h1 := not_far h
  exact load_c W m IM.u A B c d (by omega) (by omega) IM.cP IM.cL (Kd.C_below IM.P hw) (Kd.C_below IM.L hw)
theorem vb_bytes' (n : Nat) : Bytes (vb n) := vb_bytes n
theorem flat_bytes : ∀ l : List Int, Bytes (flat l)
  | [] => fun x hx => by cases hx
  | a :: l => by
    rw [flat_cons]
    intro x hx
    rcases List.mem_append.1 hx with h | h
    · exact vb_bytes _ x h
    · exact flat_bytes l x h
set_option maxHeartbeats 32000000 in
set_option maxRecDepth 100000 in
theorem apart_law (A B A' B' : Option Addr) (c d c' d' : Nat) (m n : Ms) (w : World) (IM : MsgIn w m A c B d) (IN : MsgIn w n A' c' B' d') : Calls Try.prog 4 #[.agg #[.int .i64 m.k, .int .u64 m.s, .int .u64 m.se, .int .u64 m.a, .int .u64 m.i, .int .u64 m.n, .int .u64 m.c, .int .i64 m.why, .int .u64 m.seed, .slice A m.P.length c, .int .i64 m.most, .slice B m.L.length d], .agg #[.int .i64 n.k, .int .u64 n.s, .int .u64 n.se, .int .u64 n.a, .int .u64 n.i, .int .u64 n.n, .int .u64 n.c, .int .i64 n.why, .int .u64 n.seed, .slice A' n.P.length c', .int .i64 n.most, .slice B' n.L.length d']] w fun e w' => e = .returned (.bool true) ∧ Below w.heap.size w w' := by
  have hu38 := Try.underlying38
  have hu27 := Try.underlying27
  have HALIVE := Aside0.mk alive_c
  have HF1 := Aside0.mk (far_c w m A B c d IM)
  have HF2 := Aside0.mk (far_c w n A' B' c' d' IN)
  have HIM := Aside0.mk IM; have HIN := Aside0.mk IN
  obtain ⟨fm, hfm⟩ : ∃ b, farV m = b := ⟨_, rfl⟩
  obtain ⟨fn, hfn⟩ : ∃ b, farV n = b := ⟨_, rfl⟩
  rw [hfm] at HF1
  rw [hfn] at HF2
  cases fm with
  | true =>
    clear hfm hfn IM IN
    go_enter Try.func4, Try.ntmps4
    go_wp2_with (first | ((with_reducible refine gate_dst (N := 2) rfl ?_); refine box_event ?hg (N := 2) ?hd (cs := #[.int .i64 m.k, .int .u64 m.s, .int .u64 m.se, .int .u64 m.a, .int .u64 m.i, .int .u64 m.n, .int .u64 m.c, .int .i64 m.why, .int .u64 m.seed, .slice A m.P.length c, .int .i64 m.most, .slice B m.L.length d]) (t := 38) ?hr ?_; (case hd => rfl); (case hg => rfl); (case hr => first | (go_simp; done) | (go_simp; rfl)); intro g hgn w5 hbox hb; have Bw5 := Aside0.mk hb; have Gw5 := Aside0.mk hbox;  clear hbox hb hgn) | ((with_reducible refine gate_dst (N := 3) rfl ?_); refine box_event ?hg (N := 3) ?hd (cs := #[.int .i64 n.k, .int .u64 n.s, .int .u64 n.se, .int .u64 n.a, .int .u64 n.i, .int .u64 n.n, .int .u64 n.c, .int .i64 n.why, .int .u64 n.seed, .slice A' n.P.length c', .int .i64 n.most, .slice B' n.L.length d']) (t := 38) ?hr ?_; (case hd => rfl); (case hg => rfl); (case hr => first | (go_simp; done) | (go_simp; rfl)); intro h hgn w6 hbox hb; have Bw6 := Aside0.mk (below_step Bw5.out hb); have Gw6 := Aside0.mk (blk_below Gw5.out hb); have Hw6 := Aside0.mk hbox; have u0 : w6.cell? ⟨g, 0, none⟩ = some (.int .i64 m.k) := blk_cell Gw6.out 0; have u1 : w6.cell? ⟨g, 1, none⟩ = some (.int .u64 m.s) := blk_cell Gw6.out 1; have u2 : w6.cell? ⟨g, 2, none⟩ = some (.int .u64 m.se) := blk_cell Gw6.out 2; have u3 : w6.cell? ⟨g, 3, none⟩ = some (.int .u64 m.a) := blk_cell Gw6.out 3; have u4 : w6.cell? ⟨g, 4, none⟩ = some (.int .u64 m.i) := blk_cell Gw6.out 4; have u5 : w6.cell? ⟨g, 5, none⟩ = some (.int .u64 m.n) := blk_cell Gw6.out 5; have u6 : w6.cell? ⟨g, 6, none⟩ = some (.int .u64 m.c) := blk_cell Gw6.out 6; have u7 : w6.cell? ⟨g, 7, none⟩ = some (.int .i64 m.why) := blk_cell Gw6.out 7; have u8 : w6.cell? ⟨g, 8, none⟩ = some (.int .u64 m.seed) := blk_cell Gw6.out 8; have u9 : w6.cell? ⟨g, 9, none⟩ = some (.slice A m.P.length c) := blk_cell Gw6.out 9; have u10 : w6.cell? ⟨g, 10, none⟩ = some (.int .i64 m.most) := blk_cell Gw6.out 10; have u11 : w6.cell? ⟨g, 11, none⟩ = some (.slice B m.L.length d) := blk_cell Gw6.out 11; clear hbox hb hgn) | (go_at_call 13; (with_reducible refine (HF1.out _ Bw6.out).mono ?_); rintro er w7 ⟨rfl, hb⟩;  have Bw7 := Aside0.mk (below_step Bw6.out hb); have Gw7 := Aside0.mk (blk_below Gw6.out hb); have Hw7 := Aside0.mk (blk_below Hw6.out hb); have v0 : w7.cell? ⟨h, 0, none⟩ = some (.int .i64 n.k) := blk_cell Hw7.out 0; have v1 : w7.cell? ⟨h, 1, none⟩ = some (.int .u64 n.s) := blk_cell Hw7.out 1; have v2 : w7.cell? ⟨h, 2, none⟩ = some (.int .u64 n.se) := blk_cell Hw7.out 2; have v3 : w7.cell? ⟨h, 3, none⟩ = some (.int .u64 n.a) := blk_cell Hw7.out 3; have v4 : w7.cell? ⟨h, 4, none⟩ = some (.int .u64 n.i) := blk_cell Hw7.out 4; have v5 : w7.cell? ⟨h, 5, none⟩ = some (.int .u64 n.n) := blk_cell Hw7.out 5; have v6 : w7.cell? ⟨h, 6, none⟩ = some (.int .u64 n.c) := blk_cell Hw7.out 6; have v7 : w7.cell? ⟨h, 7, none⟩ = some (.int .i64 n.why) := blk_cell Hw7.out 7; have v8 : w7.cell? ⟨h, 8, none⟩ = some (.int .u64 n.seed) := blk_cell Hw7.out 8; have v9 : w7.cell? ⟨h, 9, none⟩ = some (.slice A' n.P.length c') := blk_cell Hw7.out 9; have v10 : w7.cell? ⟨h, 10, none⟩ = some (.int .i64 n.most) := blk_cell Hw7.out 10; have v11 : w7.cell? ⟨h, 11, none⟩ = some (.slice B' n.L.length d') := blk_cell Hw7.out 11;  clear hb) | (go_at_call 8; (with_reducible refine (HALIVE.out _).mono ?_); rintro er w19 ⟨rfl, hb⟩; have BA := Aside0.mk hb; clear hb))
    go_ret
    exact ⟨rfl, below_step Bw7.out BA.out⟩
  | false =>
  cases fn with
  | true =>
    clear hfm hfn IM IN
    go_enter Try.func4, Try.ntmps4
    go_wp2_with (first | ((with_reducible refine gate_dst (N := 2) rfl ?_); refine box_event ?hg (N := 2) ?hd (cs := #[.int .i64 m.k, .int .u64 m.s, .int .u64 m.se, .int .u64 m.a, .int .u64 m.i, .int .u64 m.n, .int .u64 m.c, .int .i64 m.why, .int .u64 m.seed, .slice A m.P.length c, .int .i64 m.most, .slice B m.L.length d]) (t := 38) ?hr ?_; (case hd => rfl); (case hg => rfl); (case hr => first | (go_simp; done) | (go_simp; rfl)); intro g hgn w5 hbox hb; have Bw5 := Aside0.mk hb; have Gw5 := Aside0.mk hbox;  clear hbox hb hgn) | ((with_reducible refine gate_dst (N := 3) rfl ?_); refine box_event ?hg (N := 3) ?hd (cs := #[.int .i64 n.k, .int .u64 n.s, .int .u64 n.se, .int .u64 n.a, .int .u64 n.i, .int .u64 n.n, .int .u64 n.c, .int .i64 n.why, .int .u64 n.seed, .slice A' n.P.length c', .int .i64 n.most, .slice B' n.L.length d']) (t := 38) ?hr ?_; (case hd => rfl); (case hg => rfl); (case hr => first | (go_simp; done) | (go_simp; rfl)); intro h hgn w6 hbox hb; have Bw6 := Aside0.mk (below_step Bw5.out hb); have Gw6 := Aside0.mk (blk_below Gw5.out hb); have Hw6 := Aside0.mk hbox; have u0 : w6.cell? ⟨g, 0, none⟩ = some (.int .i64 m.k) := blk_cell Gw6.out 0; have u1 : w6.cell? ⟨g, 1, none⟩ = some (.int .u64 m.s) := blk_cell Gw6.out 1; have u2 : w6.cell? ⟨g, 2, none⟩ = some (.int .u64 m.se) := blk_cell Gw6.out 2; have u3 : w6.cell? ⟨g, 3, none⟩ = some (.int .u64 m.a) := blk_cell Gw6.out 3; have u4 : w6.cell? ⟨g, 4, none⟩ = some (.int .u64 m.i) := blk_cell Gw6.out 4; have u5 : w6.cell? ⟨g, 5, none⟩ = some (.int .u64 m.n) := blk_cell Gw6.out 5; have u6 : w6.cell? ⟨g, 6, none⟩ = some (.int .u64 m.c) := blk_cell Gw6.out 6; have u7 : w6.cell? ⟨g, 7, none⟩ = some (.int .i64 m.why) := blk_cell Gw6.out 7; have u8 : w6.cell? ⟨g, 8, none⟩ = some (.int .u64 m.seed) := blk_cell Gw6.out 8; have u9 : w6.cell? ⟨g, 9, none⟩ = some (.slice A m.P.length c) := blk_cell Gw6.out 9; have u10 : w6.cell? ⟨g, 10, none⟩ = some (.int .i64 m.most) := blk_cell Gw6.out 10; have u11 : w6.cell? ⟨g, 11, none⟩ = some (.slice B m.L.length d) := blk_cell Gw6.out 11; clear hbox hb hgn) | (go_at_call 13; (with_reducible refine (HF1.out _ Bw6.out).mono ?_); rintro er w7 ⟨rfl, hb⟩;  have Bw7 := Aside0.mk (below_step Bw6.out hb); have Gw7 := Aside0.mk (blk_below Gw6.out hb); have Hw7 := Aside0.mk (blk_below Hw6.out hb); have v0 : w7.cell? ⟨h, 0, none⟩ = some (.int .i64 n.k) := blk_cell Hw7.out 0; have v1 : w7.cell? ⟨h, 1, none⟩ = some (.int .u64 n.s) := blk_cell Hw7.out 1; have v2 : w7.cell? ⟨h, 2, none⟩ = some (.int .u64 n.se) := blk_cell Hw7.out 2; have v3 : w7.cell? ⟨h, 3, none⟩ = some (.int .u64 n.a) := blk_cell Hw7.out 3; have v4 : w7.cell? ⟨h, 4, none⟩ = some (.int .u64 n.i) := blk_cell Hw7.out 4; have v5 : w7.cell? ⟨h, 5, none⟩ = some (.int .u64 n.n) := blk_cell Hw7.out 5; have v6 : w7.cell? ⟨h, 6, none⟩ = some (.int .u64 n.c) := blk_cell Hw7.out 6; have v7 : w7.cell? ⟨h, 7, none⟩ = some (.int .i64 n.why) := blk_cell Hw7.out 7; have v8 : w7.cell? ⟨h, 8, none⟩ = some (.int .u64 n.seed) := blk_cell Hw7.out 8; have v9 : w7.cell? ⟨h, 9, none⟩ = some (.slice A' n.P.length c') := blk_cell Hw7.out 9; have v10 : w7.cell? ⟨h, 10, none⟩ = some (.int .i64 n.most) := blk_cell Hw7.out 10; have v11 : w7.cell? ⟨h, 11, none⟩ = some (.slice B' n.L.length d') := blk_cell Hw7.out 11;  clear hb) | (go_at_call 13; (with_reducible refine (HF2.out _ Bw7.out).mono ?_); rintro er w8 ⟨rfl, hb⟩;  have Bw8 := Aside0.mk (below_step Bw7.out hb); have Gw8 := Aside0.mk (blk_below Gw7.out hb); have Hw8 := Aside0.mk (blk_below Hw7.out hb); have p0 : w8.cell? ⟨g, 0, none⟩ = some (.int .i64 m.k) := blk_cell Gw8.out 0; have p1 : w8.cell? ⟨g, 1, none⟩ = some (.int .u64 m.s) := blk_cell Gw8.out 1; have p2 : w8.cell? ⟨g, 2, none⟩ = some (.int .u64 m.se) := blk_cell Gw8.out 2; have p3 : w8.cell? ⟨g, 3, none⟩ = some (.int .u64 m.a) := blk_cell Gw8.out 3; have p4 : w8.cell? ⟨g, 4, none⟩ = some (.int .u64 m.i) := blk_cell Gw8.out 4; have p5 : w8.cell? ⟨g, 5, none⟩ = some (.int .u64 m.n) := blk_cell Gw8.out 5; have p6 : w8.cell? ⟨g, 6, none⟩ = some (.int .u64 m.c) := blk_cell Gw8.out 6; have p7 : w8.cell? ⟨g, 7, none⟩ = some (.int .i64 m.why) := blk_cell Gw8.out 7; have p8 : w8.cell? ⟨g, 8, none⟩ = some (.int .u64 m.seed) := blk_cell Gw8.out 8; have p9 : w8.cell? ⟨g, 9, none⟩ = some (.slice A m.P.length c) := blk_cell Gw8.out 9; have p10 : w8.cell? ⟨g, 10, none⟩ = some (.int .i64 m.most) := blk_cell Gw8.out 10; have p11 : w8.cell? ⟨g, 11, none⟩ = some (.slice B m.L.length d) := blk_cell Gw8.out 11;  clear hb) | (go_at_call 8; (with_reducible refine (HALIVE.out _).mono ?_); rintro er w19 ⟨rfl, hb⟩; have BA := Aside0.mk hb; clear hb))
    go_ret
    exact ⟨rfl, below_step Bw8.out BA.out⟩
  | false =>
  have HL1 := Aside0.mk (load_w IM hfm)
  have HL2 := Aside0.mk (load_w IN hfn)
  have hfa := not_far hfm
  have hfb := not_far hfn
  obtain ⟨bm, hbm⟩ : ∃ b, mayV m = b := ⟨_, rfl⟩
  obtain ⟨bn, hbn⟩ : ∃ b, mayV n = b := ⟨_, rfl⟩
  cases bm with
  | false =>
    have e1 : loadR m = ([], 1) := by unfold loadR; rw [hbm]; rfl
    rw [e1] at HL1
    clear hfm hfn IM IN hbm hbn e1 hfa hfb
    go_enter Try.func4, Try.ntmps4
    go_wp2_with (first | ((with_reducible refine gate_dst (N := 2) rfl ?_); refine box_event ?hg (N := 2) ?hd (cs := #[.int .i64 m.k, .int .u64 m.s, .int .u64 m.se, .int .u64 m.a, .int .u64 m.i, .int .u64 m.n, .int .u64 m.c, .int .i64 m.why, .int .u64 m.seed, .slice A m.P.length c, .int .i64 m.most, .slice B m.L.length d]) (t := 38) ?hr ?_; (case hd => rfl); (case hg => rfl); (case hr => first | (go_simp; done) | (go_simp; rfl)); intro g hgn w5 hbox hb; have Bw5 := Aside0.mk hb; have Gw5 := Aside0.mk hbox;  clear hbox hb hgn) | ((with_reducible refine gate_dst (N := 3) rfl ?_); refine box_event ?hg (N := 3) ?hd (cs := #[.int .i64 n.k, .int .u64 n.s, .int .u64 n.se, .int .u64 n.a, .int .u64 n.i, .int .u64 n.n, .int .u64 n.c, .int .i64 n.why, .int .u64 n.seed, .slice A' n.P.length c', .int .i64 n.most, .slice B' n.L.length d']) (t := 38) ?hr ?_; (case hd => rfl); (case hg => rfl); (case hr => first | (go_simp; done) | (go_simp; rfl)); intro h hgn w6 hbox hb; have Bw6 := Aside0.mk (below_step Bw5.out hb); have Gw6 := Aside0.mk (blk_below Gw5.out hb); have Hw6 := Aside0.mk hbox; have u0 : w6.cell? ⟨g, 0, none⟩ = some (.int .i64 m.k) := blk_cell Gw6.out 0; have u1 : w6.cell? ⟨g, 1, none⟩ = some (.int .u64 m.s) := blk_cell Gw6.out 1; have u2 : w6.cell? ⟨g, 2, none⟩ = some (.int .u64 m.se) := blk_cell Gw6.out 2; have u3 : w6.cell? ⟨g, 3, none⟩ = some (.int .u64 m.a) := blk_cell Gw6.out 3; have u4 : w6.cell? ⟨g, 4, none⟩ = some (.int .u64 m.i) := blk_cell Gw6.out 4; have u5 : w6.cell? ⟨g, 5, none⟩ = some (.int .u64 m.n) := blk_cell Gw6.out 5; have u6 : w6.cell? ⟨g, 6, none⟩ = some (.int .u64 m.c) := blk_cell Gw6.out 6; have u7 : w6.cell? ⟨g, 7, none⟩ = some (.int .i64 m.why) := blk_cell Gw6.out 7; have u8 : w6.cell? ⟨g, 8, none⟩ = some (.int .u64 m.seed) := blk_cell Gw6.out 8; have u9 : w6.cell? ⟨g, 9, none⟩ = some (.slice A m.P.length c) := blk_cell Gw6.out 9; have u10 : w6.cell? ⟨g, 10, none⟩ = some (.int .i64 m.most) := blk_cell Gw6.out 10; have u11 : w6.cell? ⟨g, 11, none⟩ = some (.slice B m.L.length d) := blk_cell Gw6.out 11; clear hbox hb hgn) | (go_at_call 13; (with_reducible refine (HF1.out _ Bw6.out).mono ?_); rintro er w7 ⟨rfl, hb⟩;  have Bw7 := Aside0.mk (below_step Bw6.out hb); have Gw7 := Aside0.mk (blk_below Gw6.out hb); have Hw7 := Aside0.mk (blk_below Hw6.out hb); have v0 : w7.cell? ⟨h, 0, none⟩ = some (.int .i64 n.k) := blk_cell Hw7.out 0; have v1 : w7.cell? ⟨h, 1, none⟩ = some (.int .u64 n.s) := blk_cell Hw7.out 1; have v2 : w7.cell? ⟨h, 2, none⟩ = some (.int .u64 n.se) := blk_cell Hw7.out 2; have v3 : w7.cell? ⟨h, 3, none⟩ = some (.int .u64 n.a) := blk_cell Hw7.out 3; have v4 : w7.cell? ⟨h, 4, none⟩ = some (.int .u64 n.i) := blk_cell Hw7.out 4; have v5 : w7.cell? ⟨h, 5, none⟩ = some (.int .u64 n.n) := blk_cell Hw7.out 5; have v6 : w7.cell? ⟨h, 6, none⟩ = some (.int .u64 n.c) := blk_cell Hw7.out 6; have v7 : w7.cell? ⟨h, 7, none⟩ = some (.int .i64 n.why) := blk_cell Hw7.out 7; have v8 : w7.cell? ⟨h, 8, none⟩ = some (.int .u64 n.seed) := blk_cell Hw7.out 8; have v9 : w7.cell? ⟨h, 9, none⟩ = some (.slice A' n.P.length c') := blk_cell Hw7.out 9; have v10 : w7.cell? ⟨h, 10, none⟩ = some (.int .i64 n.most) := blk_cell Hw7.out 10; have v11 : w7.cell? ⟨h, 11, none⟩ = some (.slice B' n.L.length d') := blk_cell Hw7.out 11;  clear hb) | (go_at_call 13; (with_reducible refine (HF2.out _ Bw7.out).mono ?_); rintro er w8 ⟨rfl, hb⟩;  have Bw8 := Aside0.mk (below_step Bw7.out hb); have Gw8 := Aside0.mk (blk_below Gw7.out hb); have Hw8 := Aside0.mk (blk_below Hw7.out hb); have p0 : w8.cell? ⟨g, 0, none⟩ = some (.int .i64 m.k) := blk_cell Gw8.out 0; have p1 : w8.cell? ⟨g, 1, none⟩ = some (.int .u64 m.s) := blk_cell Gw8.out 1; have p2 : w8.cell? ⟨g, 2, none⟩ = some (.int .u64 m.se) := blk_cell Gw8.out 2; have p3 : w8.cell? ⟨g, 3, none⟩ = some (.int .u64 m.a) := blk_cell Gw8.out 3; have p4 : w8.cell? ⟨g, 4, none⟩ = some (.int .u64 m.i) := blk_cell Gw8.out 4; have p5 : w8.cell? ⟨g, 5, none⟩ = some (.int .u64 m.n) := blk_cell Gw8.out 5; have p6 : w8.cell? ⟨g, 6, none⟩ = some (.int .u64 m.c) := blk_cell Gw8.out 6; have p7 : w8.cell? ⟨g, 7, none⟩ = some (.int .i64 m.why) := blk_cell Gw8.out 7; have p8 : w8.cell? ⟨g, 8, none⟩ = some (.int .u64 m.seed) := blk_cell Gw8.out 8; have p9 : w8.cell? ⟨g, 9, none⟩ = some (.slice A m.P.length c) := blk_cell Gw8.out 9; have p10 : w8.cell? ⟨g, 10, none⟩ = some (.int .i64 m.most) := blk_cell Gw8.out 10; have p11 : w8.cell? ⟨g, 11, none⟩ = some (.slice B m.L.length d) := blk_cell Gw8.out 11;  clear hb) | (go_at_call 14; (with_reducible refine (theirs_c _ m A B c d).mono ?_); rintro er w9 ⟨rfl, hb⟩;  have Bw9 := Aside0.mk (below_step Bw8.out hb); have Gw9 := Aside0.mk (blk_below Gw8.out hb); have Hw9 := Aside0.mk (blk_below Hw8.out hb);  clear hb) | (go_at_call 11; (with_reducible refine (HL1.out _ Bw9.out).mono ?_); rintro er w10 ⟨v, rfl, hl, hb⟩; obtain ⟨A4, c4, rfl, _, _⟩ := hl.form; have X4 := Aside0.mk hl; have Bw10 := Aside0.mk (below_step Bw9.out hb); have Gw10 := Aside0.mk (blk_below Gw9.out hb); have Hw10 := Aside0.mk (blk_below Hw9.out hb); have q0 : w10.cell? ⟨h, 0, none⟩ = some (.int .i64 n.k) := blk_cell Hw10.out 0; have q1 : w10.cell? ⟨h, 1, none⟩ = some (.int .u64 n.s) := blk_cell Hw10.out 1; have q2 : w10.cell? ⟨h, 2, none⟩ = some (.int .u64 n.se) := blk_cell Hw10.out 2; have q3 : w10.cell? ⟨h, 3, none⟩ = some (.int .u64 n.a) := blk_cell Hw10.out 3; have q4 : w10.cell? ⟨h, 4, none⟩ = some (.int .u64 n.i) := blk_cell Hw10.out 4; have q5 : w10.cell? ⟨h, 5, none⟩ = some (.int .u64 n.n) := blk_cell Hw10.out 5; have q6 : w10.cell? ⟨h, 6, none⟩ = some (.int .u64 n.c) := blk_cell Hw10.out 6; have q7 : w10.cell? ⟨h, 7, none⟩ = some (.int .i64 n.why) := blk_cell Hw10.out 7; have q8 : w10.cell? ⟨h, 8, none⟩ = some (.int .u64 n.seed) := blk_cell Hw10.out 8; have q9 : w10.cell? ⟨h, 9, none⟩ = some (.slice A' n.P.length c') := blk_cell Hw10.out 9; have q10 : w10.cell? ⟨h, 10, none⟩ = some (.int .i64 n.most) := blk_cell Hw10.out 10; have q11 : w10.cell? ⟨h, 11, none⟩ = some (.slice B' n.L.length d') := blk_cell Hw10.out 11; clear hl; clear hb) | (go_at_call 14; (with_reducible refine (theirs_c _ n A' B' c' d').mono ?_); rintro er w11 ⟨rfl, hb⟩;  have Bw11 := Aside0.mk (below_step Bw10.out hb); have Gw11 := Aside0.mk (blk_below Gw10.out hb); have Hw11 := Aside0.mk (blk_below Hw10.out hb); have X4b := Aside0.mk (X4.out.below hb); clear hb) | (go_at_call 11; (with_reducible refine (HL2.out _ Bw11.out).mono ?_); rintro er w12 ⟨v, rfl, hl, hb⟩; obtain ⟨A5, c5, rfl, _, _⟩ := hl.form; have X5 := Aside0.mk hl; have X4c := Aside0.mk (X4b.out.below hb); have Bw12 := Aside0.mk (below_step Bw11.out hb); have Gw12 := Aside0.mk (blk_below Gw11.out hb); have Hw12 := Aside0.mk (blk_below Hw11.out hb); clear hl; clear hb) | (go_at_call 8; (with_reducible refine (HALIVE.out _).mono ?_); rintro er w19 ⟨rfl, hb⟩; have BA := Aside0.mk hb; clear hb))
    go_ret
    exact ⟨rfl, below_step Bw12.out BA.out⟩
  | true =>
  have e1 : loadR m = (loadV m, 0) := by unfold loadR; rw [hbm]; rfl
  rw [e1] at HL1
  cases bn with
  | false =>
    have e2 : loadR n = ([], 1) := by unfold loadR; rw [hbn]; rfl
    rw [e2] at HL2
    clear hfm hfn IM IN hbm hbn e1 e2 hfa hfb
    go_enter Try.func4, Try.ntmps4
    go_wp2_with (first | ((with_reducible refine gate_dst (N := 2) rfl ?_); refine box_event ?hg (N := 2) ?hd (cs := #[.int .i64 m.k, .int .u64 m.s, .int .u64 m.se, .int .u64 m.a, .int .u64 m.i, .int .u64 m.n, .int .u64 m.c, .int .i64 m.why, .int .u64 m.seed, .slice A m.P.length c, .int .i64 m.most, .slice B m.L.length d]) (t := 38) ?hr ?_; (case hd => rfl); (case hg => rfl); (case hr => first | (go_simp; done) | (go_simp; rfl)); intro g hgn w5 hbox hb; have Bw5 := Aside0.mk hb; have Gw5 := Aside0.mk hbox;  clear hbox hb hgn) | ((with_reducible refine gate_dst (N := 3) rfl ?_); refine box_event ?hg (N := 3) ?hd (cs := #[.int .i64 n.k, .int .u64 n.s, .int .u64 n.se, .int .u64 n.a, .int .u64 n.i, .int .u64 n.n, .int .u64 n.c, .int .i64 n.why, .int .u64 n.seed, .slice A' n.P.length c', .int .i64 n.most, .slice B' n.L.length d']) (t := 38) ?hr ?_; (case hd => rfl); (case hg => rfl); (case hr => first | (go_simp; done) | (go_simp; rfl)); intro h hgn w6 hbox hb; have Bw6 := Aside0.mk (below_step Bw5.out hb); have Gw6 := Aside0.mk (blk_below Gw5.out hb); have Hw6 := Aside0.mk hbox; have u0 : w6.cell? ⟨g, 0, none⟩ = some (.int .i64 m.k) := blk_cell Gw6.out 0; have u1 : w6.cell? ⟨g, 1, none⟩ = some (.int .u64 m.s) := blk_cell Gw6.out 1; have u2 : w6.cell? ⟨g, 2, none⟩ = some (.int .u64 m.se) := blk_cell Gw6.out 2; have u3 : w6.cell? ⟨g, 3, none⟩ = some (.int .u64 m.a) := blk_cell Gw6.out 3; have u4 : w6.cell? ⟨g, 4, none⟩ = some (.int .u64 m.i) := blk_cell Gw6.out 4; have u5 : w6.cell? ⟨g, 5, none⟩ = some (.int .u64 m.n) := blk_cell Gw6.out 5; have u6 : w6.cell? ⟨g, 6, none⟩ = some (.int .u64 m.c) := blk_cell Gw6.out 6; have u7 : w6.cell? ⟨g, 7, none⟩ = some (.int .i64 m.why) := blk_cell Gw6.out 7; have u8 : w6.cell? ⟨g, 8, none⟩ = some (.int .u64 m.seed) := blk_cell Gw6.out 8; have u9 : w6.cell? ⟨g, 9, none⟩ = some (.slice A m.P.length c) := blk_cell Gw6.out 9; have u10 : w6.cell? ⟨g, 10, none⟩ = some (.int .i64 m.most) := blk_cell Gw6.out 10; have u11 : w6.cell? ⟨g, 11, none⟩ = some (.slice B m.L.length d) := blk_cell Gw6.out 11; clear hbox hb hgn) | (go_at_call 13; (with_reducible refine (HF1.out _ Bw6.out).mono ?_); rintro er w7 ⟨rfl, hb⟩;  have Bw7 := Aside0.mk (below_step Bw6.out hb); have Gw7 := Aside0.mk (blk_below Gw6.out hb); have Hw7 := Aside0.mk (blk_below Hw6.out hb); have v0 : w7.cell? ⟨h, 0, none⟩ = some (.int .i64 n.k) := blk_cell Hw7.out 0; have v1 : w7.cell? ⟨h, 1, none⟩ = some (.int .u64 n.s) := blk_cell Hw7.out 1; have v2 : w7.cell? ⟨h, 2, none⟩ = some (.int .u64 n.se) := blk_cell Hw7.out 2; have v3 : w7.cell? ⟨h, 3, none⟩ = some (.int .u64 n.a) := blk_cell Hw7.out 3; have v4 : w7.cell? ⟨h, 4, none⟩ = some (.int .u64 n.i) := blk_cell Hw7.out 4; have v5 : w7.cell? ⟨h, 5, none⟩ = some (.int .u64 n.n) := blk_cell Hw7.out 5; have v6 : w7.cell? ⟨h, 6, none⟩ = some (.int .u64 n.c) := blk_cell Hw7.out 6; have v7 : w7.cell? ⟨h, 7, none⟩ = some (.int .i64 n.why) := blk_cell Hw7.out 7; have v8 : w7.cell? ⟨h, 8, none⟩ = some (.int .u64 n.seed) := blk_cell Hw7.out 8; have v9 : w7.cell? ⟨h, 9, none⟩ = some (.slice A' n.P.length c') := blk_cell Hw7.out 9; have v10 : w7.cell? ⟨h, 10, none⟩ = some (.int .i64 n.most) := blk_cell Hw7.out 10; have v11 : w7.cell? ⟨h, 11, none⟩ = some (.slice B' n.L.length d') := blk_cell Hw7.out 11;  clear hb) | (go_at_call 13; (with_reducible refine (HF2.out _ Bw7.out).mono ?_); rintro er w8 ⟨rfl, hb⟩;  have Bw8 := Aside0.mk (below_step Bw7.out hb); have Gw8 := Aside0.mk (blk_below Gw7.out hb); have Hw8 := Aside0.mk (blk_below Hw7.out hb); have p0 : w8.cell? ⟨g, 0, none⟩ = some (.int .i64 m.k) := blk_cell Gw8.out 0; have p1 : w8.cell? ⟨g, 1, none⟩ = some (.int .u64 m.s) := blk_cell Gw8.out 1; have p2 : w8.cell? ⟨g, 2, none⟩ = some (.int .u64 m.se) := blk_cell Gw8.out 2; have p3 : w8.cell? ⟨g, 3, none⟩ = some (.int .u64 m.a) := blk_cell Gw8.out 3; have p4 : w8.cell? ⟨g, 4, none⟩ = some (.int .u64 m.i) := blk_cell Gw8.out 4; have p5 : w8.cell? ⟨g, 5, none⟩ = some (.int .u64 m.n) := blk_cell Gw8.out 5; have p6 : w8.cell? ⟨g, 6, none⟩ = some (.int .u64 m.c) := blk_cell Gw8.out 6; have p7 : w8.cell? ⟨g, 7, none⟩ = some (.int .i64 m.why) := blk_cell Gw8.out 7; have p8 : w8.cell? ⟨g, 8, none⟩ = some (.int .u64 m.seed) := blk_cell Gw8.out 8; have p9 : w8.cell? ⟨g, 9, none⟩ = some (.slice A m.P.length c) := blk_cell Gw8.out 9; have p10 : w8.cell? ⟨g, 10, none⟩ = some (.int .i64 m.most) := blk_cell Gw8.out 10; have p11 : w8.cell? ⟨g, 11, none⟩ = some (.slice B m.L.length d) := blk_cell Gw8.out 11;  clear hb) | (go_at_call 14; (with_reducible refine (theirs_c _ m A B c d).mono ?_); rintro er w9 ⟨rfl, hb⟩;  have Bw9 := Aside0.mk (below_step Bw8.out hb); have Gw9 := Aside0.mk (blk_below Gw8.out hb); have Hw9 := Aside0.mk (blk_below Hw8.out hb);  clear hb) | (go_at_call 11; (with_reducible refine (HL1.out _ Bw9.out).mono ?_); rintro er w10 ⟨v, rfl, hl, hb⟩; obtain ⟨A4, c4, rfl, _, _⟩ := hl.form; have X4 := Aside0.mk hl; have Bw10 := Aside0.mk (below_step Bw9.out hb); have Gw10 := Aside0.mk (blk_below Gw9.out hb); have Hw10 := Aside0.mk (blk_below Hw9.out hb); have q0 : w10.cell? ⟨h, 0, none⟩ = some (.int .i64 n.k) := blk_cell Hw10.out 0; have q1 : w10.cell? ⟨h, 1, none⟩ = some (.int .u64 n.s) := blk_cell Hw10.out 1; have q2 : w10.cell? ⟨h, 2, none⟩ = some (.int .u64 n.se) := blk_cell Hw10.out 2; have q3 : w10.cell? ⟨h, 3, none⟩ = some (.int .u64 n.a) := blk_cell Hw10.out 3; have q4 : w10.cell? ⟨h, 4, none⟩ = some (.int .u64 n.i) := blk_cell Hw10.out 4; have q5 : w10.cell? ⟨h, 5, none⟩ = some (.int .u64 n.n) := blk_cell Hw10.out 5; have q6 : w10.cell? ⟨h, 6, none⟩ = some (.int .u64 n.c) := blk_cell Hw10.out 6; have q7 : w10.cell? ⟨h, 7, none⟩ = some (.int .i64 n.why) := blk_cell Hw10.out 7; have q8 : w10.cell? ⟨h, 8, none⟩ = some (.int .u64 n.seed) := blk_cell Hw10.out 8; have q9 : w10.cell? ⟨h, 9, none⟩ = some (.slice A' n.P.length c') := blk_cell Hw10.out 9; have q10 : w10.cell? ⟨h, 10, none⟩ = some (.int .i64 n.most) := blk_cell Hw10.out 10; have q11 : w10.cell? ⟨h, 11, none⟩ = some (.slice B' n.L.length d') := blk_cell Hw10.out 11; clear hl; clear hb) | (go_at_call 14; (with_reducible refine (theirs_c _ n A' B' c' d').mono ?_); rintro er w11 ⟨rfl, hb⟩;  have Bw11 := Aside0.mk (below_step Bw10.out hb); have Gw11 := Aside0.mk (blk_below Gw10.out hb); have Hw11 := Aside0.mk (blk_below Hw10.out hb); have X4b := Aside0.mk (X4.out.below hb); clear hb) | (go_at_call 11; (with_reducible refine (HL2.out _ Bw11.out).mono ?_); rintro er w12 ⟨v, rfl, hl, hb⟩; obtain ⟨A5, c5, rfl, _, _⟩ := hl.form; have X5 := Aside0.mk hl; have X4c := Aside0.mk (X4b.out.below hb); have Bw12 := Aside0.mk (below_step Bw11.out hb); have Gw12 := Aside0.mk (blk_below Gw11.out hb); have Hw12 := Aside0.mk (blk_below Hw11.out hb); clear hl; clear hb) | (go_at_call 8; (with_reducible refine (HALIVE.out _).mono ?_); rintro er w19 ⟨rfl, hb⟩; have BA := Aside0.mk hb; clear hb))
    go_ret
    exact ⟨rfl, below_step Bw12.out BA.out⟩
  | true =>
  have e2 : loadR n = (loadV n, 0) := by unfold loadR; rw [hbn]; rfl
  rw [e2] at HL2
  have hap := apart_plain IM.u IN.u hbm hbn
  rw [← str_eq (xs := loadV m) (ys := loadV n) (flat_bytes _) (flat_bytes _)] at hap
  obtain ⟨sb, hsb⟩ : ∃ b, sameV m n = b := ⟨_, rfl⟩
  rw [hsb] at hap
  have HAP := Aside0.mk hap
  have HSAME := Aside0.mk (show ∀ W, Below w.heap.size w W → Calls Try.prog 10 #[.agg #[.int .i64 m.k, .int .u64 m.s, .int .u64 m.se, .int .u64 m.a, .int .u64 m.i, .int .u64 m.n, .int .u64 m.c, .int .i64 m.why, .int .u64 m.seed, .slice A m.P.length c, .int .i64 m.most, .slice B m.L.length d], .agg #[.int .i64 n.k, .int .u64 n.s, .int .u64 n.se, .int .u64 n.a, .int .u64 n.i, .int .u64 n.n, .int .u64 n.c, .int .i64 n.why, .int .u64 n.seed, .slice A' n.P.length c', .int .i64 n.most, .slice B' n.L.length d']] W fun er w' => er = .returned (.bool sb) ∧ Below W.heap.size W w' from fun W hw => by
    have q := same_c W m n A B A' B' c d c' d' (by omega) (by omega) IM.cP IM.cL (Kd.C_below IM.P hw) (Kd.C_below IM.L hw) IN.cP IN.cL (Kd.C_below IN.P hw) (Kd.C_below IN.L hw)
    rw [hsb] at q
    exact q)
  clear hfm hfn IM IN hbm hbn e1 e2 hap hsb hfa hfb
  go_enter Try.func4, Try.ntmps4
  go_upto_region 7 with (first | ((with_reducible refine gate_dst (N := 2) rfl ?_); refine box_event ?hg (N := 2) ?hd (cs := #[.int .i64 m.k, .int .u64 m.s, .int .u64 m.se, .int .u64 m.a, .int .u64 m.i, .int .u64 m.n, .int .u64 m.c, .int .i64 m.why, .int .u64 m.seed, .slice A m.P.length c, .int .i64 m.most, .slice B m.L.length d]) (t := 38) ?hr ?_; (case hd => rfl); (case hg => rfl); (case hr => first | (go_simp; done) | (go_simp; rfl)); intro g hgn w5 hbox hb; have Bw5 := Aside0.mk hb; have Gw5 := Aside0.mk hbox;  clear hbox hb hgn) | ((with_reducible refine gate_dst (N := 3) rfl ?_); refine box_event ?hg (N := 3) ?hd (cs := #[.int .i64 n.k, .int .u64 n.s, .int .u64 n.se, .int .u64 n.a, .int .u64 n.i, .int .u64 n.n, .int .u64 n.c, .int .i64 n.why, .int .u64 n.seed, .slice A' n.P.length c', .int .i64 n.most, .slice B' n.L.length d']) (t := 38) ?hr ?_; (case hd => rfl); (case hg => rfl); (case hr => first | (go_simp; done) | (go_simp; rfl)); intro h hgn w6 hbox hb; have Bw6 := Aside0.mk (below_step Bw5.out hb); have Gw6 := Aside0.mk (blk_below Gw5.out hb); have Hw6 := Aside0.mk hbox; have u0 : w6.cell? ⟨g, 0, none⟩ = some (.int .i64 m.k) := blk_cell Gw6.out 0; have u1 : w6.cell? ⟨g, 1, none⟩ = some (.int .u64 m.s) := blk_cell Gw6.out 1; have u2 : w6.cell? ⟨g, 2, none⟩ = some (.int .u64 m.se) := blk_cell Gw6.out 2; have u3 : w6.cell? ⟨g, 3, none⟩ = some (.int .u64 m.a) := blk_cell Gw6.out 3; have u4 : w6.cell? ⟨g, 4, none⟩ = some (.int .u64 m.i) := blk_cell Gw6.out 4; have u5 : w6.cell? ⟨g, 5, none⟩ = some (.int .u64 m.n) := blk_cell Gw6.out 5; have u6 : w6.cell? ⟨g, 6, none⟩ = some (.int .u64 m.c) := blk_cell Gw6.out 6; have u7 : w6.cell? ⟨g, 7, none⟩ = some (.int .i64 m.why) := blk_cell Gw6.out 7; have u8 : w6.cell? ⟨g, 8, none⟩ = some (.int .u64 m.seed) := blk_cell Gw6.out 8; have u9 : w6.cell? ⟨g, 9, none⟩ = some (.slice A m.P.length c) := blk_cell Gw6.out 9; have u10 : w6.cell? ⟨g, 10, none⟩ = some (.int .i64 m.most) := blk_cell Gw6.out 10; have u11 : w6.cell? ⟨g, 11, none⟩ = some (.slice B m.L.length d) := blk_cell Gw6.out 11; clear hbox hb hgn) | (go_at_call 13; (with_reducible refine (HF1.out _ Bw6.out).mono ?_); rintro er w7 ⟨rfl, hb⟩;  have Bw7 := Aside0.mk (below_step Bw6.out hb); have Gw7 := Aside0.mk (blk_below Gw6.out hb); have Hw7 := Aside0.mk (blk_below Hw6.out hb); have v0 : w7.cell? ⟨h, 0, none⟩ = some (.int .i64 n.k) := blk_cell Hw7.out 0; have v1 : w7.cell? ⟨h, 1, none⟩ = some (.int .u64 n.s) := blk_cell Hw7.out 1; have v2 : w7.cell? ⟨h, 2, none⟩ = some (.int .u64 n.se) := blk_cell Hw7.out 2; have v3 : w7.cell? ⟨h, 3, none⟩ = some (.int .u64 n.a) := blk_cell Hw7.out 3; have v4 : w7.cell? ⟨h, 4, none⟩ = some (.int .u64 n.i) := blk_cell Hw7.out 4; have v5 : w7.cell? ⟨h, 5, none⟩ = some (.int .u64 n.n) := blk_cell Hw7.out 5; have v6 : w7.cell? ⟨h, 6, none⟩ = some (.int .u64 n.c) := blk_cell Hw7.out 6; have v7 : w7.cell? ⟨h, 7, none⟩ = some (.int .i64 n.why) := blk_cell Hw7.out 7; have v8 : w7.cell? ⟨h, 8, none⟩ = some (.int .u64 n.seed) := blk_cell Hw7.out 8; have v9 : w7.cell? ⟨h, 9, none⟩ = some (.slice A' n.P.length c') := blk_cell Hw7.out 9; have v10 : w7.cell? ⟨h, 10, none⟩ = some (.int .i64 n.most) := blk_cell Hw7.out 10; have v11 : w7.cell? ⟨h, 11, none⟩ = some (.slice B' n.L.length d') := blk_cell Hw7.out 11;  clear hb) | (go_at_call 13; (with_reducible refine (HF2.out _ Bw7.out).mono ?_); rintro er w8 ⟨rfl, hb⟩;  have Bw8 := Aside0.mk (below_step Bw7.out hb); have Gw8 := Aside0.mk (blk_below Gw7.out hb); have Hw8 := Aside0.mk (blk_below Hw7.out hb); have p0 : w8.cell? ⟨g, 0, none⟩ = some (.int .i64 m.k) := blk_cell Gw8.out 0; have p1 : w8.cell? ⟨g, 1, none⟩ = some (.int .u64 m.s) := blk_cell Gw8.out 1; have p2 : w8.cell? ⟨g, 2, none⟩ = some (.int .u64 m.se) := blk_cell Gw8.out 2; have p3 : w8.cell? ⟨g, 3, none⟩ = some (.int .u64 m.a) := blk_cell Gw8.out 3; have p4 : w8.cell? ⟨g, 4, none⟩ = some (.int .u64 m.i) := blk_cell Gw8.out 4; have p5 : w8.cell? ⟨g, 5, none⟩ = some (.int .u64 m.n) := blk_cell Gw8.out 5; have p6 : w8.cell? ⟨g, 6, none⟩ = some (.int .u64 m.c) := blk_cell Gw8.out 6; have p7 : w8.cell? ⟨g, 7, none⟩ = some (.int .i64 m.why) := blk_cell Gw8.out 7; have p8 : w8.cell? ⟨g, 8, none⟩ = some (.int .u64 m.seed) := blk_cell Gw8.out 8; have p9 : w8.cell? ⟨g, 9, none⟩ = some (.slice A m.P.length c) := blk_cell Gw8.out 9; have p10 : w8.cell? ⟨g, 10, none⟩ = some (.int .i64 m.most) := blk_cell Gw8.out 10; have p11 : w8.cell? ⟨g, 11, none⟩ = some (.slice B m.L.length d) := blk_cell Gw8.out 11;  clear hb) | (go_at_call 14; (with_reducible refine (theirs_c _ m A B c d).mono ?_); rintro er w9 ⟨rfl, hb⟩;  have Bw9 := Aside0.mk (below_step Bw8.out hb); have Gw9 := Aside0.mk (blk_below Gw8.out hb); have Hw9 := Aside0.mk (blk_below Hw8.out hb);  clear hb) | (go_at_call 11; (with_reducible refine (HL1.out _ Bw9.out).mono ?_); rintro er w10 ⟨v, rfl, hl, hb⟩; obtain ⟨A4, c4, rfl, _, _⟩ := hl.form; have X4 := Aside0.mk hl; have Bw10 := Aside0.mk (below_step Bw9.out hb); have Gw10 := Aside0.mk (blk_below Gw9.out hb); have Hw10 := Aside0.mk (blk_below Hw9.out hb); have q0 : w10.cell? ⟨h, 0, none⟩ = some (.int .i64 n.k) := blk_cell Hw10.out 0; have q1 : w10.cell? ⟨h, 1, none⟩ = some (.int .u64 n.s) := blk_cell Hw10.out 1; have q2 : w10.cell? ⟨h, 2, none⟩ = some (.int .u64 n.se) := blk_cell Hw10.out 2; have q3 : w10.cell? ⟨h, 3, none⟩ = some (.int .u64 n.a) := blk_cell Hw10.out 3; have q4 : w10.cell? ⟨h, 4, none⟩ = some (.int .u64 n.i) := blk_cell Hw10.out 4; have q5 : w10.cell? ⟨h, 5, none⟩ = some (.int .u64 n.n) := blk_cell Hw10.out 5; have q6 : w10.cell? ⟨h, 6, none⟩ = some (.int .u64 n.c) := blk_cell Hw10.out 6; have q7 : w10.cell? ⟨h, 7, none⟩ = some (.int .i64 n.why) := blk_cell Hw10.out 7; have q8 : w10.cell? ⟨h, 8, none⟩ = some (.int .u64 n.seed) := blk_cell Hw10.out 8; have q9 : w10.cell? ⟨h, 9, none⟩ = some (.slice A' n.P.length c') := blk_cell Hw10.out 9; have q10 : w10.cell? ⟨h, 10, none⟩ = some (.int .i64 n.most) := blk_cell Hw10.out 10; have q11 : w10.cell? ⟨h, 11, none⟩ = some (.slice B' n.L.length d') := blk_cell Hw10.out 11; clear hl; clear hb) | (go_at_call 14; (with_reducible refine (theirs_c _ n A' B' c' d').mono ?_); rintro er w11 ⟨rfl, hb⟩;  have Bw11 := Aside0.mk (below_step Bw10.out hb); have Gw11 := Aside0.mk (blk_below Gw10.out hb); have Hw11 := Aside0.mk (blk_below Hw10.out hb); have X4b := Aside0.mk (X4.out.below hb); clear hb) | (go_at_call 11; (with_reducible refine (HL2.out _ Bw11.out).mono ?_); rintro er w12 ⟨v, rfl, hl, hb⟩; obtain ⟨A5, c5, rfl, _, _⟩ := hl.form; have X5 := Aside0.mk hl; have X4c := Aside0.mk (X4b.out.below hb); have Bw12 := Aside0.mk (below_step Bw11.out hb); have Gw12 := Aside0.mk (blk_below Gw11.out hb); have Hw12 := Aside0.mk (blk_below Hw11.out hb); clear hl; clear hb) | (go_at_call 8; (with_reducible refine (HALIVE.out _).mono ?_); rintro er w19 ⟨rfl, hb⟩; have BA := Aside0.mk hb; clear hb))
  clear u0 v0 p0 q0 u1 v1 p1 q1 u2 v2 p2 q2 u3 v3 p3 q3 u4 v4 p4 q4 u5 v5 p5 q5 u6 v6 p6 q6 u7 v7 p7 q7 u8 v8 p8 q8 u9 v9 p9 q9 u10 v10 p10 q10 u11 v11 p11 q11
  have u0 : w12.cell? ⟨g, 0, none⟩ = some (.int .i64 m.k) := blk_cell Gw12.out 0
  have u1 : w12.cell? ⟨g, 1, none⟩ = some (.int .u64 m.s) := blk_cell Gw12.out 1
  have u2 : w12.cell? ⟨g, 2, none⟩ = some (.int .u64 m.se) := blk_cell Gw12.out 2
  have u3 : w12.cell? ⟨g, 3, none⟩ = some (.int .u64 m.a) := blk_cell Gw12.out 3
  have u4 : w12.cell? ⟨g, 4, none⟩ = some (.int .u64 m.i) := blk_cell Gw12.out 4
  have u5 : w12.cell? ⟨g, 5, none⟩ = some (.int .u64 m.n) := blk_cell Gw12.out 5
  have u6 : w12.cell? ⟨g, 6, none⟩ = some (.int .u64 m.c) := blk_cell Gw12.out 6
  have u7 : w12.cell? ⟨g, 7, none⟩ = some (.int .i64 m.why) := blk_cell Gw12.out 7
  have u8 : w12.cell? ⟨g, 8, none⟩ = some (.int .u64 m.seed) := blk_cell Gw12.out 8
  have u9 : w12.cell? ⟨g, 9, none⟩ = some (.slice A m.P.length c) := blk_cell Gw12.out 9
  have u10 : w12.cell? ⟨g, 10, none⟩ = some (.int .i64 m.most) := blk_cell Gw12.out 10
  have u11 : w12.cell? ⟨g, 11, none⟩ = some (.slice B m.L.length d) := blk_cell Gw12.out 11
  have y0 : w12.cell? ⟨h, 0, none⟩ = some (.int .i64 n.k) := blk_cell Hw12.out 0
  have y1 : w12.cell? ⟨h, 1, none⟩ = some (.int .u64 n.s) := blk_cell Hw12.out 1
  have y2 : w12.cell? ⟨h, 2, none⟩ = some (.int .u64 n.se) := blk_cell Hw12.out 2
  have y3 : w12.cell? ⟨h, 3, none⟩ = some (.int .u64 n.a) := blk_cell Hw12.out 3
  have y4 : w12.cell? ⟨h, 4, none⟩ = some (.int .u64 n.i) := blk_cell Hw12.out 4
  have y5 : w12.cell? ⟨h, 5, none⟩ = some (.int .u64 n.n) := blk_cell Hw12.out 5
  have y6 : w12.cell? ⟨h, 6, none⟩ = some (.int .u64 n.c) := blk_cell Hw12.out 6
  have y7 : w12.cell? ⟨h, 7, none⟩ = some (.int .i64 n.why) := blk_cell Hw12.out 7
  have y8 : w12.cell? ⟨h, 8, none⟩ = some (.int .u64 n.seed) := blk_cell Hw12.out 8
  have y9 : w12.cell? ⟨h, 9, none⟩ = some (.slice A' n.P.length c') := blk_cell Hw12.out 9
  have y10 : w12.cell? ⟨h, 10, none⟩ = some (.int .i64 n.most) := blk_cell Hw12.out 10
  have y11 : w12.cell? ⟨h, 11, none⟩ = some (.slice B' n.L.length d') := blk_cell Hw12.out 11
  have hg4 : ∀ W, Below w12.heap.size w12 W → (convert 22 9 (.slice A4 (loadV m).length c4)).run Try.prog W = .ok (.string (strOfNums (loadV m))) W := fun W hw => Kd.C_string Try.underlying22 Try.underlying5 Try.underlying9 (Kd.C_below (C_of_ls X4c.out).2.2 hw)
  have hg5 : ∀ W, Below w12.heap.size w12 W → (convert 22 9 (.slice A5 (loadV n).length c5)).run Try.prog W = .ok (.string (strOfNums (loadV n))) W := fun W hw => Kd.C_string Try.underlying22 Try.underlying5 Try.underlying9 (Kd.C_below (C_of_ls X5.out).2.2 hw)
  have ff := HAP.out
  obtain ⟨sm, hsm⟩ : ∃ s, strOfNums (loadV m) = s := ⟨_, rfl⟩
  obtain ⟨sn, hsn⟩ : ∃ s, strOfNums (loadV n) = s := ⟨_, rfl⟩
  rw [hsm] at ff hg4
  rw [hsn] at ff hg5
  obtain ⟨lm, hlm⟩ : ∃ k, (loadV m).length = k := ⟨_, rfl⟩
  obtain ⟨ln, hln⟩ : ∃ k, (loadV n).length = k := ⟨_, rfl⟩
  rw [hlm] at hg4
  rw [hln] at hg5
  rw [hlm, hln]
  have tt : (sb == sb) = true := by simp
  have HG4 := Aside0.mk hg4; have HG5 := Aside0.mk hg5
  have g4 := hg4 (World.drew w12) (below_drew (Below.refl _ _))
  have g5 := hg5 (World.drew w12) (below_drew (Below.refl _ _))
  clear hg4 hg5
  clear hsm hsn hlm hln
  refine start_ (n := 15) (S := fun w' => w'.cell? ⟨g, 0, none⟩ = some (.int .i64 m.k) ∧ w'.cell? ⟨g, 1, none⟩ = some (.int .u64 m.s) ∧ w'.cell? ⟨g, 2, none⟩ = some (.int .u64 m.se) ∧ w'.cell? ⟨g, 3, none⟩ = some (.int .u64 m.a) ∧ w'.cell? ⟨g, 4, none⟩ = some (.int .u64 m.i) ∧ w'.cell? ⟨g, 5, none⟩ = some (.int .u64 m.n) ∧ w'.cell? ⟨g, 6, none⟩ = some (.int .u64 m.c) ∧ w'.cell? ⟨g, 7, none⟩ = some (.int .i64 m.why) ∧ w'.cell? ⟨g, 8, none⟩ = some (.int .u64 m.seed) ∧ w'.cell? ⟨g, 9, none⟩ = some (.slice A m.P.length c) ∧ w'.cell? ⟨g, 10, none⟩ = some (.int .i64 m.most) ∧ w'.cell? ⟨g, 11, none⟩ = some (.slice B m.L.length d) ∧ w'.cell? ⟨h, 0, none⟩ = some (.int .i64 n.k) ∧ w'.cell? ⟨h, 1, none⟩ = some (.int .u64 n.s) ∧ w'.cell? ⟨h, 2, none⟩ = some (.int .u64 n.se) ∧ w'.cell? ⟨h, 3, none⟩ = some (.int .u64 n.a) ∧ w'.cell? ⟨h, 4, none⟩ = some (.int .u64 n.i) ∧ w'.cell? ⟨h, 5, none⟩ = some (.int .u64 n.n) ∧ w'.cell? ⟨h, 6, none⟩ = some (.int .u64 n.c) ∧ w'.cell? ⟨h, 7, none⟩ = some (.int .i64 n.why) ∧ w'.cell? ⟨h, 8, none⟩ = some (.int .u64 n.seed) ∧ w'.cell? ⟨h, 9, none⟩ = some (.slice A' n.P.length c') ∧ w'.cell? ⟨h, 10, none⟩ = some (.int .i64 n.most) ∧ w'.cell? ⟨h, 11, none⟩ = some (.slice B' n.L.length d') ∧ (convert 22 9 (.slice A4 lm c4)).run Try.prog w' = .ok (.string sm) w' ∧ (convert 22 9 (.slice A5 ln c5)).run Try.prog w' = .ok (.string sn) w') (ds := [12]) #[false, false, false, false, false, false, false, false, false, false, false, false, false, false, false] (by kernel_rfl) rfl rfl ⟨u0, u1, u2, u3, u4, u5, u6, u7, u8, u9, u10, u11, y0, y1, y2, y3, y4, y5, y6, y7, y8, y9, y10, y11, g4, g5⟩ (fun hHeld => ?_)
  refine pure_ (i := 0) (N := some 35) (v := ?_) (a' := ?_) #[true, false, false, false, false, false, false, false, false, false, false, false, false, false, false] rfl rfl (by kernel_rfl) (fun _ _ _ h => h) (Or.inl ⟨by rfl, ?_⟩) ?_ ?_
  rotate_left
  · intro w'
    go_simp
    with_reducible rfl
  rotate_left
  · simp only [Act.put, List.setIfInBounds_toArray, List.set_cons_zero, List.set_cons_succ, i64_w, i32_w]
    rfl
  refine pure_ (i := 2) (N := some 37) (v := ?_) (a' := ?_) #[true, false, true, false, false, false, false, false, false, false, false, false, false, false, false] rfl rfl (by kernel_rfl) (fun _ _ _ h => h) (Or.inl ⟨by rfl, ?_⟩) ?_ ?_
  rotate_left
  · intro w'
    go_simp
    with_reducible rfl
  rotate_left
  · simp only [Act.put, List.setIfInBounds_toArray, List.set_cons_zero, List.set_cons_succ, i64_w, i32_w]
    rfl
  refine take_ (i := 1) (N := some 36) (v := ?_) (a' := ?_) #[true, true, true, false, false, false, false, false, false, false, false, false, false, false, false] rfl rfl (by kernel_rfl) (fun _ _ _ h => h) (Or.inl ⟨by rfl, ?_⟩) hHeld ?_ ?_
  rotate_left
  · rintro w' ⟨s0, s1, s2, s3, s4, s5, s6, s7, s8, s9, s10, s11, s12, s13, s14, s15, s16, s17, s18, s19, s20, s21, s22, s23, s24, s25⟩
    go_simp
    with_reducible rfl
  rotate_left
  · simp only [Act.put, List.setIfInBounds_toArray, List.set_cons_zero, List.set_cons_succ, i64_w, i32_w]
    rfl
  refine take_ (i := 3) (N := some 38) (v := ?_) (a' := ?_) #[true, true, true, true, false, false, false, false, false, false, false, false, false, false, false] rfl rfl (by kernel_rfl) (fun _ _ _ h => h) (Or.inl ⟨by rfl, ?_⟩) hHeld ?_ ?_
  rotate_left
  · rintro w' ⟨s0, s1, s2, s3, s4, s5, s6, s7, s8, s9, s10, s11, s12, s13, s14, s15, s16, s17, s18, s19, s20, s21, s22, s23, s24, s25⟩
    go_simp
    with_reducible rfl
  rotate_left
  · simp only [Act.put, List.setIfInBounds_toArray, List.set_cons_zero, List.set_cons_succ, i64_w, i32_w]
    rfl
  refine pure_ (i := 4) (N := some 39) (v := ?_) (a' := ?_) #[true, true, true, true, true, false, false, false, false, false, false, false, false, false, false] rfl rfl (by kernel_rfl) (fun _ _ _ h => h) (Or.inl ⟨by rfl, ?_⟩) ?_ ?_
  rotate_left
  · intro w'
    go_simp
    with_reducible rfl
  rotate_left
  · simp only [Act.put, List.setIfInBounds_toArray, List.set_cons_zero, List.set_cons_succ, i64_w, i32_w]
    rfl
  refine take_ (i := 5) (N := some 40) (v := ?_) (a' := ?_) #[true, true, true, true, true, true, false, false, false, false, false, false, false, false, false] rfl rfl (by kernel_rfl) (fun _ _ _ h => h) (Or.inl ⟨by rfl, ?_⟩) hHeld ?_ ?_
  rotate_left
  · rintro w' ⟨s0, s1, s2, s3, s4, s5, s6, s7, s8, s9, s10, s11, s12, s13, s14, s15, s16, s17, s18, s19, s20, s21, s22, s23, s24, s25⟩
    go_simp
    with_reducible rfl
  rotate_left
  · simp only [Act.put, List.setIfInBounds_toArray, List.set_cons_zero, List.set_cons_succ, i64_w, i32_w]
    rfl
  refine take_ (i := 7) (N := some 42) (v := ?_) (a' := ?_) #[true, true, true, true, true, true, false, true, false, false, false, false, false, false, false] rfl rfl (by kernel_rfl) (fun _ _ _ h => h) (Or.inl ⟨by rfl, ?_⟩) hHeld ?_ ?_
  rotate_left
  · rintro w' ⟨s0, s1, s2, s3, s4, s5, s6, s7, s8, s9, s10, s11, s12, s13, s14, s15, s16, s17, s18, s19, s20, s21, s22, s23, s24, s25⟩
    go_simp
    with_reducible rfl
  rotate_left
  · simp only [Act.put, List.setIfInBounds_toArray, List.set_cons_zero, List.set_cons_succ, i64_w, i32_w]
    rfl
  refine one_ (i := 6) (N := some 41) #[true, true, true, true, true, true, true, true, false, false, false, false, false, false, false] rfl rfl (by kernel_rfl) (by decide) (fun K hK => ?_)
  refine goes_ Try.func14 (by kernel_rfl) rfl #[.agg #[.int .i64 m.k, .int .u64 m.s, .int .u64 m.se, .int .u64 m.a, .int .u64 m.i, .int .u64 m.n, .int .u64 m.c, .int .i64 m.why, .int .u64 m.seed, .slice A m.P.length c, .int .i64 m.most, .slice B m.L.length d]] (by rfl) rfl rfl (by first | (simp only [List.map_toArray, List.map_cons, List.map_nil]; rfl) | simp only [List.map_toArray, List.map_nil]) ?_
  with_reducible refine (theirs_c _ m A B c d).mono ?_
  rintro e w1 ⟨rfl, b1⟩
  refine ⟨_, rfl, ?_⟩
  refine hK.out _ _ ⟨pw_cell_below b1 u0, pw_cell_below b1 u1, pw_cell_below b1 u2, pw_cell_below b1 u3, pw_cell_below b1 u4, pw_cell_below b1 u5, pw_cell_below b1 u6, pw_cell_below b1 u7, pw_cell_below b1 u8, pw_cell_below b1 u9, pw_cell_below b1 u10, pw_cell_below b1 u11, pw_cell_below b1 y0, pw_cell_below b1 y1, pw_cell_below b1 y2, pw_cell_below b1 y3, pw_cell_below b1 y4, pw_cell_below b1 y5, pw_cell_below b1 y6, pw_cell_below b1 y7, pw_cell_below b1 y8, pw_cell_below b1 y9, pw_cell_below b1 y10, pw_cell_below b1 y11, HG4.out _ (below_step (below_drew (Below.refl w12.heap.size w12)) b1), HG5.out _ (below_step (below_drew (Below.refl w12.heap.size w12)) b1)⟩ (fun hHeld => ?_)
  clear hK K
  refine norm_ (a' := ?_) ?_ ?_
  rotate_left
  · show Act.put _ (some 41) _ = _
    simp only [Act.put, List.setIfInBounds_toArray, List.set_cons_zero, List.set_cons_succ, i64_w, i32_w]
    rfl
  refine one_ (i := 8) (N := some 43) #[true, true, true, true, true, true, true, true, true, false, false, false, false, false, false] rfl rfl (by kernel_rfl) (by decide) (fun K hK => ?_)
  refine goes_ Try.func14 (by kernel_rfl) rfl #[.agg #[.int .i64 n.k, .int .u64 n.s, .int .u64 n.se, .int .u64 n.a, .int .u64 n.i, .int .u64 n.n, .int .u64 n.c, .int .i64 n.why, .int .u64 n.seed, .slice A' n.P.length c', .int .i64 n.most, .slice B' n.L.length d']] (by rfl) rfl rfl (by first | (simp only [List.map_toArray, List.map_cons, List.map_nil]; rfl) | simp only [List.map_toArray, List.map_nil]) ?_
  with_reducible refine (theirs_c _ n A' B' c' d').mono ?_
  rintro e w2 ⟨rfl, b2_⟩
  refine ⟨_, rfl, ?_⟩
  have b2 := below_step b1 b2_
  refine hK.out _ _ ⟨pw_cell_below b2 u0, pw_cell_below b2 u1, pw_cell_below b2 u2, pw_cell_below b2 u3, pw_cell_below b2 u4, pw_cell_below b2 u5, pw_cell_below b2 u6, pw_cell_below b2 u7, pw_cell_below b2 u8, pw_cell_below b2 u9, pw_cell_below b2 u10, pw_cell_below b2 u11, pw_cell_below b2 y0, pw_cell_below b2 y1, pw_cell_below b2 y2, pw_cell_below b2 y3, pw_cell_below b2 y4, pw_cell_below b2 y5, pw_cell_below b2 y6, pw_cell_below b2 y7, pw_cell_below b2 y8, pw_cell_below b2 y9, pw_cell_below b2 y10, pw_cell_below b2 y11, HG4.out _ (below_step (below_drew (Below.refl w12.heap.size w12)) b2), HG5.out _ (below_step (below_drew (Below.refl w12.heap.size w12)) b2)⟩ (fun hHeld => ?_)
  clear hK K
  refine norm_ (a' := ?_) ?_ ?_
  rotate_left
  · show Act.put _ (some 43) _ = _
    simp only [Act.put, List.setIfInBounds_toArray, List.set_cons_zero, List.set_cons_succ, i64_w, i32_w]
    rfl
  refine one_ (i := 9) (N := some 44) #[true, true, true, true, true, true, true, true, true, true, false, false, false, false, false] rfl rfl (by kernel_rfl) (by decide) (fun K hK => ?_)
  refine goes_ Try.func10 (by kernel_rfl) rfl #[.agg #[.int .i64 m.k, .int .u64 m.s, .int .u64 m.se, .int .u64 m.a, .int .u64 m.i, .int .u64 m.n, .int .u64 m.c, .int .i64 m.why, .int .u64 m.seed, .slice A m.P.length c, .int .i64 m.most, .slice B m.L.length d], .agg #[.int .i64 n.k, .int .u64 n.s, .int .u64 n.se, .int .u64 n.a, .int .u64 n.i, .int .u64 n.n, .int .u64 n.c, .int .i64 n.why, .int .u64 n.seed, .slice A' n.P.length c', .int .i64 n.most, .slice B' n.L.length d']] (by rfl) rfl rfl (by first | (simp only [List.map_toArray, List.map_cons, List.map_nil]; rfl) | simp only [List.map_toArray, List.map_nil]) ?_
  with_reducible refine (HSAME.out _ (below_step Bw12.out (below_step (below_drew (Below.refl w12.heap.size w12)) b2))).mono ?_
  rintro e w3 ⟨rfl, b3_⟩
  refine ⟨_, rfl, ?_⟩
  have b3 := below_step b2 b3_
  refine hK.out _ _ ⟨pw_cell_below b3 u0, pw_cell_below b3 u1, pw_cell_below b3 u2, pw_cell_below b3 u3, pw_cell_below b3 u4, pw_cell_below b3 u5, pw_cell_below b3 u6, pw_cell_below b3 u7, pw_cell_below b3 u8, pw_cell_below b3 u9, pw_cell_below b3 u10, pw_cell_below b3 u11, pw_cell_below b3 y0, pw_cell_below b3 y1, pw_cell_below b3 y2, pw_cell_below b3 y3, pw_cell_below b3 y4, pw_cell_below b3 y5, pw_cell_below b3 y6, pw_cell_below b3 y7, pw_cell_below b3 y8, pw_cell_below b3 y9, pw_cell_below b3 y10, pw_cell_below b3 y11, HG4.out _ (below_step (below_drew (Below.refl w12.heap.size w12)) b3), HG5.out _ (below_step (below_drew (Below.refl w12.heap.size w12)) b3)⟩ (fun hHeld => ?_)
  clear hK K
  refine norm_ (a' := ?_) ?_ ?_
  rotate_left
  · show Act.put _ (some 44) _ = _
    simp only [Act.put, List.setIfInBounds_toArray, List.set_cons_zero, List.set_cons_succ, i64_w, i32_w]
    rfl
  refine pure_ (i := 10) (N := some 45) (v := ?_) (a' := ?_) #[true, true, true, true, true, true, true, true, true, true, true, false, false, false, false] rfl rfl (by kernel_rfl) (fun _ _ _ h => h) (Or.inl ⟨by rfl, ?_⟩) ?_ ?_
  rotate_left
  · intro w'
    go_simp
    with_reducible rfl
  rotate_left
  · simp only [Act.put, List.setIfInBounds_toArray, List.set_cons_zero, List.set_cons_succ, i64_w, i32_w]
    rfl
  refine pure_ (i := 11) (N := some 46) (v := ?_) (a' := ?_) #[true, true, true, true, true, true, true, true, true, true, true, true, false, false, false] rfl rfl (by kernel_rfl) (fun _ _ _ h => h) (Or.inl ⟨by rfl, ?_⟩) ?_ ?_
  rotate_left
  · intro w'
    go_simp
    with_reducible rfl
  rotate_left
  · simp only [Act.put, List.setIfInBounds_toArray, List.set_cons_zero, List.set_cons_succ, i64_w, i32_w]
    rfl
  refine last_ (i := 12) (N := some 47) #[true, true, true, true, true, true, true, true, true, true, true, true, true, false, false] rfl rfl (by kernel_rfl) (by decide) (fun K hK => ?_)
  refine goes_ Try.func8 (by kernel_rfl) rfl #[] (by rfl) rfl rfl (by first | (simp only [List.map_toArray, List.map_cons, List.map_nil]; rfl) | simp only [List.map_toArray, List.map_nil]) ?_
  with_reducible refine (HALIVE.out _).mono ?_
  rintro e w4 ⟨rfl, b4_⟩
  refine ⟨_, rfl, ?_⟩
  have HZ := Aside0.mk (below_step Bw12.out (below_step (below_drew (Below.refl w12.heap.size w12)) (below_step b3 b4_)))
  clear b4_
  refine hK.out _ _ ?_
  clear hK K
  refine norm_ (a' := ?_) ?_ ?_
  rotate_left
  · show Act.put _ (some 47) _ = _
    simp only [Act.put, List.setIfInBounds_toArray, List.set_cons_zero, List.set_cons_succ, i64_w, i32_w]
    rfl
  refine pure_ (i := 13) (N := some 48) (v := ?_) (a' := ?_) #[true, true, true, true, true, true, true, true, true, true, true, true, true, true, false] rfl rfl (by kernel_rfl) (fun _ _ _ h => h) (Or.inl ⟨by rfl, ?_⟩) ?_ ?_
  rotate_left
  · intro w'
    go_simp
    with_reducible rfl
  rotate_left
  · simp only [Act.put, List.setIfInBounds_toArray, List.set_cons_zero, List.set_cons_succ, i64_w, i32_w]
    rfl
  refine pure_ (i := 14) (N := some 4) (v := ?_) (a' := ?_) #[true, true, true, true, true, true, true, true, true, true, true, true, true, true, true] rfl rfl (by kernel_rfl) (fun _ _ _ h => h) (Or.inl ⟨by rfl, ?_⟩) ?_ ?_
  rotate_left
  · intro w'
    go_simp
    with_reducible rfl
  rotate_left
  · simp only [Act.put, List.setIfInBounds_toArray, List.set_cons_zero, List.set_cons_succ, i64_w, i32_w]
    rfl
  refine done_ (by kernel_rfl) ?_
  go_wp2_with fail
  go_ret
  exact ⟨rfl, HZ.out⟩
end Go.Proofs.Ytbfmbjkalldonaa.Msg
