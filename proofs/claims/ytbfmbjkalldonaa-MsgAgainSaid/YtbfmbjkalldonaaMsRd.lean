/- msg.Read; no condition but that bytes are bytes. -/
import Derived.Test.YtbfmbjkalldonaaMs
import Derived.Test.YtbfmbjkalldonaaPAx3
import Derived.Test.YtbfmbjkalldonaaProg
import Derived.Test.YtbfmbjkalldonaaLst2
import Derived.Test.YtbfmbjkalldonaaMsV
import Derived.Test.YtbfmbjkalldonaaPAx1
import Derived.Deep.QuietTactic
import Derived.BigQuiet
import Derived.BigRegion
import Derived.RegionTactic
import Derived.Deep.RegionHeld3
import Derived.Deep.RegionLaw
import Derived.WalkSpells
import Derived.LoopTactic
import Derived.Deep.LoopGhost
import Derived.Shelf.Abstract
import Derived.OwnWalk
namespace Go.Proofs.Ytbfmbjkalldonaa.Msg
set_option linter.unusedVariables false
set_option linter.unusedSimpArgs false
open Go.RowKit Go.Proofs.Ytbfmbjkalldonaa.PA Go.Proofs.YtbfmbjkalldonaaW.PrintWords Go.Proofs.YtbfmbjkalldonaaW.PrintLast Go.Proofs.YtbfmbjkalldonaaW.PrintMore Go.Proofs.Ytbfmbjkalldonaa.Base Go.Proofs.Ytbfmbjkalldonaa.Var Go.Proofs.Ytbfmbjkalldonaa.Lst
attribute [local go_sem] max2_int min2_int max_two min_two max_three min_three max_four min_four
abbrev st12 (w : World) (g : Nat) (v0 v1 v2 v3 v4 v5 v6 v7 v8 v9 v10 v11 : Value) : World := ((((((((((((w.setCell ⟨g, 0, none⟩ v0).setCell ⟨g, 1, none⟩ v1).setCell ⟨g, 2, none⟩ v2).setCell ⟨g, 3, none⟩ v3).setCell ⟨g, 4, none⟩ v4).setCell ⟨g, 5, none⟩ v5).setCell ⟨g, 6, none⟩ v6).setCell ⟨g, 7, none⟩ v7).setCell ⟨g, 8, none⟩ v8).setCell ⟨g, 9, none⟩ v9).setCell ⟨g, 10, none⟩ v10).setCell ⟨g, 11, none⟩ v11)
theorem st12_blk {w : World} {g T : Nat} {c0 c1 c2 c3 c4 c5 c6 c7 c8 c9 c10 c11 : Value} (h : w.heap[g]? = some (.cells #[c0, c1, c2, c3, c4, c5, c6, c7, c8, c9, c10, c11] T (0, 0))) (v0 v1 v2 v3 v4 v5 v6 v7 v8 v9 v10 v11 : Value) : (st12 w g v0 v1 v2 v3 v4 v5 v6 v7 v8 v9 v10 v11).heap[g]? = some (.cells #[v0, v1, v2, v3, v4, v5, v6, v7, v8, v9, v10, v11] T (0, 0)) := (blk_put (cs' := #[v0, v1, v2, v3, v4, v5, v6, v7, v8, v9, v10, v11]) (blk_put (cs' := #[v0, v1, v2, v3, v4, v5, v6, v7, v8, v9, v10, c11]) (blk_put (cs' := #[v0, v1, v2, v3, v4, v5, v6, v7, v8, v9, c10, c11]) (blk_put (cs' := #[v0, v1, v2, v3, v4, v5, v6, v7, v8, c9, c10, c11]) (blk_put (cs' := #[v0, v1, v2, v3, v4, v5, v6, v7, c8, c9, c10, c11]) (blk_put (cs' := #[v0, v1, v2, v3, v4, v5, v6, c7, c8, c9, c10, c11]) (blk_put (cs' := #[v0, v1, v2, v3, v4, v5, c6, c7, c8, c9, c10, c11]) (blk_put (cs' := #[v0, v1, v2, v3, v4, c5, c6, c7, c8, c9, c10, c11]) (blk_put (cs' := #[v0, v1, v2, v3, c4, c5, c6, c7, c8, c9, c10, c11]) (blk_put (cs' := #[v0, v1, v2, c3, c4, c5, c6, c7, c8, c9, c10, c11]) (blk_put (cs' := #[v0, v1, c2, c3, c4, c5, c6, c7, c8, c9, c10, c11]) (blk_put (cs' := #[v0, c1, c2, c3, c4, c5, c6, c7, c8, c9, c10, c11]) h 0 v0 rfl) 1 v1 rfl) 2 v2 rfl) 3 v3 rfl) 4 v4 rfl) 5 v5 rfl) 6 v6 rfl) 7 v7 rfl) 8 v8 rfl) 9 v9 rfl) 10 v10 rfl) 11 v11 rfl)
theorem st12_kept (w : World) (g : Nat) (v0 v1 v2 v3 v4 v5 v6 v7 v8 v9 v10 v11 : Value) : Kept w (st12 w g v0 v1 v2 v3 v4 v5 v6 v7 v8 v9 v10 v11) (fun i => i = g) := (kept_set (kept_set (kept_set (kept_set (kept_set (kept_set (kept_set (kept_set (kept_set (kept_set (kept_set (kept_set (Kept.refl w (fun i => i = g)) rfl 0 v0) rfl 1 v1) rfl 2 v2) rfl 3 v3) rfl 4 v4) rfl 5 v5) rfl 6 v6) rfl 7 v7) rfl 8 v8) rfl 9 v9) rfl 10 v10) rfl 11 v11)
theorem st12_bel {w0 w : World} {g : Nat} (hb : Below w0.heap.size w0 w) (hg : w0.heap.size ≤ g) (v0 v1 v2 v3 v4 v5 v6 v7 v8 v9 v10 v11 : Value) : Below w0.heap.size w0 (st12 w g v0 v1 v2 v3 v4 v5 v6 v7 v8 v9 v10 v11) := (below_set (v := v11) (j := 11) (below_set (v := v10) (j := 10) (below_set (v := v9) (j := 9) (below_set (v := v8) (j := 8) (below_set (v := v7) (j := 7) (below_set (v := v6) (j := 6) (below_set (v := v5) (j := 5) (below_set (v := v4) (j := 4) (below_set (v := v3) (j := 3) (below_set (v := v2) (j := 2) (below_set (v := v1) (j := 1) (below_set (v := v0) (j := 0) hb hg) hg) hg) hg) hg) hg) hg) hg) hg) hg) hg) hg)
/-- the nine letters -/
abbrev isL (c : Int) : Prop := c = 115 ∨ c = 101 ∨ c = 97 ∨ c = 105 ∨ c = 110 ∨ c = 99 ∨ c = 119 ∨ c = 106 ∨ c = 108
theorem field_c (w0 w : World) (gr gm : Nat) (b : List Int) (hbs : Bytes b) (hl : b.length ≤ 100000) (e : Int) (m : Ms) (vP vL : Value) (h : Rd w0 w 50 gr b e) (hm : MI w0 w 29 gm m vP vL) (c : Int) (hc : isL c) (m' : Ms) (b' : List Int) (e' : Int) (hv : fieldV m b e c = (m', b', e')) :
    Calls Try.prog 26 #[.pointer (some ⟨gr, 0, none⟩), .pointer (some ⟨gm, 0, none⟩), .int .u8 c] w fun er w' => ∃ vP' vL', er = .returned (.tuple #[]) ∧ Rd w0 w' 50 gr b' e' ∧ MI w0 w' 29 gm m' vP' vL' ∧ Kept w w' (fun i => i = gr ∨ i = gm) := by
  unfold fieldV at hv
  rcases hc with rfl | rfl | rfl | rfl | rfl | rfl | rfl | rfl | rfl
  · rw [if_neg (by decide), if_neg (by decide), if_neg (by decide)] at hv
    rcases hn : numV b e top with ⟨x, b1, e1⟩
    rw [hn] at hv
    obtain ⟨hm', hv⟩ := Prod.mk.inj hv
    obtain ⟨rfl, rfl⟩ := Prod.mk.inj hv
    subst hm'
    exact (field_115 w0 w gr gm b hbs hl e m vP vL h hm x _ _ hn).mono fun er w' hq => ⟨vP, vL, hq⟩
  · rw [if_neg (by decide), if_neg (by decide), if_neg (by decide)] at hv
    rcases hn : numV b e top with ⟨x, b1, e1⟩
    rw [hn] at hv
    obtain ⟨hm', hv⟩ := Prod.mk.inj hv
    obtain ⟨rfl, rfl⟩ := Prod.mk.inj hv
    subst hm'
    exact (field_101 w0 w gr gm b hbs hl e m vP vL h hm x _ _ hn).mono fun er w' hq => ⟨vP, vL, hq⟩
  · rw [if_neg (by decide), if_neg (by decide), if_neg (by decide)] at hv
    rcases hn : numV b e top with ⟨x, b1, e1⟩
    rw [hn] at hv
    obtain ⟨hm', hv⟩ := Prod.mk.inj hv
    obtain ⟨rfl, rfl⟩ := Prod.mk.inj hv
    subst hm'
    exact (field_97 w0 w gr gm b hbs hl e m vP vL h hm x _ _ hn).mono fun er w' hq => ⟨vP, vL, hq⟩
  · rw [if_neg (by decide), if_neg (by decide), if_neg (by decide)] at hv
    rcases hn : numV b e top with ⟨x, b1, e1⟩
    rw [hn] at hv
    obtain ⟨hm', hv⟩ := Prod.mk.inj hv
    obtain ⟨rfl, rfl⟩ := Prod.mk.inj hv
    subst hm'
    exact (field_105 w0 w gr gm b hbs hl e m vP vL h hm x _ _ hn).mono fun er w' hq => ⟨vP, vL, hq⟩
  · rw [if_neg (by decide), if_neg (by decide), if_neg (by decide)] at hv
    rcases hn : numV b e top with ⟨x, b1, e1⟩
    rw [hn] at hv
    obtain ⟨hm', hv⟩ := Prod.mk.inj hv
    obtain ⟨rfl, rfl⟩ := Prod.mk.inj hv
    subst hm'
    exact (field_110 w0 w gr gm b hbs hl e m vP vL h hm x _ _ hn).mono fun er w' hq => ⟨vP, vL, hq⟩
  · rw [if_neg (by decide), if_neg (by decide), if_neg (by decide)] at hv
    rcases hn : numV b e top with ⟨x, b1, e1⟩
    rw [hn] at hv
    obtain ⟨hm', hv⟩ := Prod.mk.inj hv
    obtain ⟨rfl, rfl⟩ := Prod.mk.inj hv
    subst hm'
    exact (field_99 w0 w gr gm b hbs hl e m vP vL h hm x _ _ hn).mono fun er w' hq => ⟨vP, vL, hq⟩
  · rw [if_pos rfl] at hv
    rcases hn : numV b e 255 with ⟨x, b1, e1⟩
    rw [hn] at hv
    obtain ⟨hm', hv⟩ := Prod.mk.inj hv
    obtain ⟨rfl, rfl⟩ := Prod.mk.inj hv
    subst hm'
    exact (field_119 w0 w gr gm b hbs hl e m vP vL h hm x _ _ hn).mono fun er w' hq => ⟨vP, vL, hq⟩
  · rw [if_neg (by decide), if_pos rfl] at hv
    rcases hn : numV b e top with ⟨x1, b1, e1⟩
    rcases hn2 : numV b1 e1 256 with ⟨x2, b2, e2⟩
    rcases hn3 : listV b2 e2 with ⟨xs, b3, e3⟩
    rw [hn] at hv
    dsimp only at hv
    rw [hn2] at hv
    dsimp only at hv
    rw [hn3] at hv
    obtain ⟨hm', hv⟩ := Prod.mk.inj hv
    obtain ⟨rfl, rfl⟩ := Prod.mk.inj hv
    subst hm'
    exact (field_106 w0 w gr gm b hbs hl e m vP vL h hm x1 x2 xs b1 b2 _ e1 e2 _ hn hn2 hn3).mono fun er w' ⟨v, hq⟩ => ⟨v, vL, hq⟩
  · rw [if_neg (by decide), if_neg (by decide), if_pos rfl] at hv
    rcases hn : listV b e with ⟨xs, b1, e1⟩
    rw [hn] at hv
    obtain ⟨hm', hv⟩ := Prod.mk.inj hv
    obtain ⟨rfl, rfl⟩ := Prod.mk.inj hv
    subst hm'
    exact (field_108 w0 w gr gm b hbs hl e m vP vL h hm xs _ _ hn).mono fun er w' ⟨v, hq⟩ => ⟨vP, v, hq⟩
theorem letters_of (k : Int) (h1 : 1 ≤ k) (h2 : k ≤ 12) : ∃ S : ByteArray, msg_letters.f k = some S ∧ bytesOf S = lettersV k ∧ S.size = (lettersV k).length := by
  have hk : k = 1 ∨ k = 2 ∨ k = 3 ∨ k = 4 ∨ k = 5 ∨ k = 6 ∨ k = 7 ∨ k = 8 ∨ k = 9 ∨ k = 10 ∨ k = 11 ∨ k = 12 := by omega
  rcases hk with rfl | rfl | rfl | rfl | rfl | rfl | rfl | rfl | rfl | rfl | rfl | rfl
  · exact ⟨⟨#[115, 101, 106]⟩, by kernel_rfl, by kernel_rfl, by kernel_rfl⟩
  · exact ⟨⟨#[115, 110]⟩, by kernel_rfl, by kernel_rfl, by kernel_rfl⟩
  · exact ⟨⟨#[115]⟩, by kernel_rfl, by kernel_rfl, by kernel_rfl⟩
  · exact ⟨⟨#[115, 110, 108]⟩, by kernel_rfl, by kernel_rfl, by kernel_rfl⟩
  · exact ⟨⟨#[115, 110, 119]⟩, by kernel_rfl, by kernel_rfl, by kernel_rfl⟩
  · exact ⟨⟨#[97, 105, 110, 106]⟩, by kernel_rfl, by kernel_rfl, by kernel_rfl⟩
  · exact ⟨⟨#[97, 105]⟩, by kernel_rfl, by kernel_rfl, by kernel_rfl⟩
  · exact ⟨⟨#[97, 105, 110, 108]⟩, by kernel_rfl, by kernel_rfl, by kernel_rfl⟩
  · exact ⟨⟨#[97, 105, 110, 119]⟩, by kernel_rfl, by kernel_rfl, by kernel_rfl⟩
  · exact ⟨⟨#[110]⟩, by kernel_rfl, by kernel_rfl, by kernel_rfl⟩
  · exact ⟨⟨#[110, 105, 99]⟩, by kernel_rfl, by kernel_rfl, by kernel_rfl⟩
  · exact ⟨⟨#[105]⟩, by kernel_rfl, by kernel_rfl, by kernel_rfl⟩
set_option maxHeartbeats 1000000 in
theorem letters_isL (k : Int) : ∀ c ∈ lettersV k, isL c := by
  have this : ∀ (q : List Int), (∀ d ∈ q, isL d) → ∀ c ∈ q, isL c := fun q h => h
  intro c hc
  unfold lettersV at hc
  repeat' split at hc
  all_goals exact this _ (by decide) c hc
theorem letters_len (k : Int) : (lettersV k).length ≤ 4 := by
  unfold lettersV
  repeat' split
  all_goals decide
theorem MI.below {w0 w w' : World} {T gm : Nat} {m : Ms} {vP vL : Value} (h : MI w0 w T gm m vP vL) (hb : Below w.heap.size w w') : MI w0 w' T gm m vP vL := ⟨blk_below h.blk hb, h.ge, h.P.below hb, h.L.below hb⟩
def PostR (w : World) (m : Ms) (e0 : Int) (e : Ending) (w' : World) : Prop := ∃ vP vL, e = .returned (.tuple #[.agg (mcells m vP vL), .int .i64 e0]) ∧ Ls encI 3 w' w.heap.size vP m.P ∧ Ls encI 3 w' w.heap.size vL m.L ∧ Below w.heap.size w w'
set_option maxHeartbeats 16000000 in
set_option maxRecDepth 100000 in
theorem read_c (A0 : Option Addr) (c0 : Nat) (l : List Int) (hl : l.length ≤ 100000) (hbs : Bytes l) (hc0 : l.length ≤ c0) (m : Ms) (e0 : Int) (hv : readV l = (m, e0)) (w : World) (hb : Kd.C (Kd.int .u8) w A0 l.length l) :
    Calls Try.prog 9 #[.slice A0 l.length c0] w (PostR w m e0) := by
  have hu := Try.underlying29
  have hu50 := Try.underlying50
  have HBC := Aside0.mk hb; have HL := Aside0.mk hl; have HBS := Aside0.mk hbs; have HC := Aside0.mk hc0
  rcases hn : numV l 0 top with ⟨x, b1, e1⟩
  have hbd := num_bd hbs 0 top (by decide)
  unfold readV at hv
  rw [hn] at hv hbd
  dsimp only at hv hbd
  have HN := Aside0.mk hn
  clear hn hb hl hbs hc0
  by_cases h1 : e1 = 0
  rotate_left
  · rw [if_neg h1] at hv
    obtain ⟨rfl, rfl⟩ := Prod.mk.inj hv
    have q1 : (e1 != 0) = true := by simpa using h1
    clear h1 hbd
    go_enter Try.func9, Try.ntmps9
    go_upto_region 4 with (first | ((with_reducible refine gate_dst (N := 2) rfl ?_); refine box_event ?hg (N := 2) ?hd (cs := #[.int .i64 0, .int .u64 0, .int .u64 0, .int .u64 0, .int .u64 0, .int .u64 0, .int .u64 0, .int .i64 0, .int .u64 0, .slice none 0 0, .int .i64 0, .slice none 0 0]) (t := 29) ?hr ?_; (case hd => rfl); (case hg => rfl); (case hr => first | (go_simp; done) | (go_simp; rfl)); intro rc hrc w5 hbox hb; have HRC := Aside0.mk hbox; have HB5 := Aside0.mk hb; have HNC := Aside0.mk hrc; clear hbox hb hrc) | ((with_reducible refine gate_dst (N := 11) rfl ?_); refine box_event ?hg (N := 11) ?hd (cs := #[.slice A0 l.length c0, .int .i64 0]) (t := 50) ?hr ?_; (case hd => rfl); (case hg => rfl); (case hr => first | (go_simp; done) | (go_simp; rfl)); intro gr hgr w6 hbox hb; have hRD := (Rd.mk ⟨A0, c0, hbox, HBC.out, HC.out⟩ (by rw [hgr]; exact HB5.out.size) (below_step HB5.out hb) : Rd w w6 50 gr l 0); have HRD := Aside0.mk hRD; have HRC6 := Aside0.mk (blk_below HRC.out hb); have HLT := Aside0.mk (show rc < gr from by rw [hgr]; exact blk_lt HRC.out); clear hbox hb hgr hRD HRC) | (go_at_call 24; (with_reducible refine (num_c w _ gr l HBS.out (by have := HL.out; omega) 0 top x b1 e1 HN.out HRD.out).mono ?_); rintro er w8 ⟨rfl, hr, hk⟩; have HR8 := Aside0.mk hr; have hrc8 := blk_kept HRC6.out hk (Nat.ne_of_lt HLT.out); have HRC8 := Aside0.mk hrc8; obtain ⟨A, c, hg8⟩ := hr.row; have k1 : w8.cell? ⟨gr, 1, none⟩ = some (.int .i64 e1) := blk_cell hg8 1; have ne1 : gr ≠ rc := Nat.ne_of_gt HLT.out; have ne2 : rc ≠ gr := Nat.ne_of_lt HLT.out; have y0 : w8.cell? ⟨rc, 0, none⟩ = some (.int .i64 0) := blk_cell hrc8 0; have yf0 : w8.frozen? ⟨rc, 0, none⟩ = false := blk_frozen hrc8 0; have y1 : w8.cell? ⟨rc, 1, none⟩ = some (.int .u64 0) := blk_cell hrc8 1; have yf1 : w8.frozen? ⟨rc, 1, none⟩ = false := blk_frozen hrc8 1; have y2 : w8.cell? ⟨rc, 2, none⟩ = some (.int .u64 0) := blk_cell hrc8 2; have yf2 : w8.frozen? ⟨rc, 2, none⟩ = false := blk_frozen hrc8 2; have y3 : w8.cell? ⟨rc, 3, none⟩ = some (.int .u64 0) := blk_cell hrc8 3; have yf3 : w8.frozen? ⟨rc, 3, none⟩ = false := blk_frozen hrc8 3; have y4 : w8.cell? ⟨rc, 4, none⟩ = some (.int .u64 0) := blk_cell hrc8 4; have yf4 : w8.frozen? ⟨rc, 4, none⟩ = false := blk_frozen hrc8 4; have y5 : w8.cell? ⟨rc, 5, none⟩ = some (.int .u64 0) := blk_cell hrc8 5; have yf5 : w8.frozen? ⟨rc, 5, none⟩ = false := blk_frozen hrc8 5; have y6 : w8.cell? ⟨rc, 6, none⟩ = some (.int .u64 0) := blk_cell hrc8 6; have yf6 : w8.frozen? ⟨rc, 6, none⟩ = false := blk_frozen hrc8 6; have y7 : w8.cell? ⟨rc, 7, none⟩ = some (.int .i64 0) := blk_cell hrc8 7; have yf7 : w8.frozen? ⟨rc, 7, none⟩ = false := blk_frozen hrc8 7; have y8 : w8.cell? ⟨rc, 8, none⟩ = some (.int .u64 0) := blk_cell hrc8 8; have yf8 : w8.frozen? ⟨rc, 8, none⟩ = false := blk_frozen hrc8 8; have y9 : w8.cell? ⟨rc, 9, none⟩ = some (.slice none 0 0) := blk_cell hrc8 9; have yf9 : w8.frozen? ⟨rc, 9, none⟩ = false := blk_frozen hrc8 9; have y10 : w8.cell? ⟨rc, 10, none⟩ = some (.int .i64 0) := blk_cell hrc8 10; have yf10 : w8.frozen? ⟨rc, 10, none⟩ = false := blk_frozen hrc8 10; have y11 : w8.cell? ⟨rc, 11, none⟩ = some (.slice none 0 0) := blk_cell hrc8 11; have yf11 : w8.frozen? ⟨rc, 11, none⟩ = false := blk_frozen hrc8 11; clear hr hk hrc8 hg8))
    go_region
    go_wp2_with fail
    (try simp only [Exit.inBlock, Exit.then])
    refine bodyPost_ret (results_ct rfl _ _ rc 29 #[.int .i64 0, .int .u64 0, .int .u64 0, .int .u64 0, .int .u64 0, .int .u64 0, .int .u64 0, .int .i64 0, .int .u64 0, .slice none 0 0, .int .i64 0, .slice none 0 0] (0, 0) _ rfl (blk_drew (st12_blk HRC8.out (.int .i64 0) (.int .u64 0) (.int .u64 0) (.int .u64 0) (.int .u64 0) (.int .u64 0) (.int .u64 0) (.int .i64 0) (.int .u64 0) (.slice none 0 0) (.int .i64 0) (.slice none 0 0))) Try.underlying29 (by rfl) (by kernel_rfl)) rfl ?_
    exact ⟨_, _, rfl, Ls.nil _ _ _ _, Ls.nil _ _ _ _, below_drew (st12_bel HR8.out.bel (Nat.le_of_eq HNC.out.symm) (.int .i64 0) (.int .u64 0) (.int .u64 0) (.int .u64 0) (.int .u64 0) (.int .u64 0) (.int .u64 0) (.int .i64 0) (.int .u64 0) (.slice none 0 0) (.int .i64 0) (.slice none 0 0))⟩
  subst h1
  rw [if_pos rfl] at hv
  by_cases hk : x < 1 ∨ x > 12
  · rw [if_pos hk] at hv
    obtain ⟨rfl, rfl⟩ := Prod.mk.inj hv
    by_cases hx : x < 1
    · have d1 : decide (x < 1) = true := decide_eq_true hx
      clear hk hx hbd
      go_enter Try.func9, Try.ntmps9
      go_wp2_with (first | ((with_reducible refine gate_dst (N := 2) rfl ?_); refine box_event ?hg (N := 2) ?hd (cs := #[.int .i64 0, .int .u64 0, .int .u64 0, .int .u64 0, .int .u64 0, .int .u64 0, .int .u64 0, .int .i64 0, .int .u64 0, .slice none 0 0, .int .i64 0, .slice none 0 0]) (t := 29) ?hr ?_; (case hd => rfl); (case hg => rfl); (case hr => first | (go_simp; done) | (go_simp; rfl)); intro rc hrc w5 hbox hb; have HRC := Aside0.mk hbox; have HB5 := Aside0.mk hb; have HNC := Aside0.mk hrc; clear hbox hb hrc) | ((with_reducible refine gate_dst (N := 11) rfl ?_); refine box_event ?hg (N := 11) ?hd (cs := #[.slice A0 l.length c0, .int .i64 0]) (t := 50) ?hr ?_; (case hd => rfl); (case hg => rfl); (case hr => first | (go_simp; done) | (go_simp; rfl)); intro gr hgr w6 hbox hb; have hRD := (Rd.mk ⟨A0, c0, hbox, HBC.out, HC.out⟩ (by rw [hgr]; exact HB5.out.size) (below_step HB5.out hb) : Rd w w6 50 gr l 0); have HRD := Aside0.mk hRD; have HRC6 := Aside0.mk (blk_below HRC.out hb); have HLT := Aside0.mk (show rc < gr from by rw [hgr]; exact blk_lt HRC.out); clear hbox hb hgr hRD HRC) | (go_at_call 24; (with_reducible refine (num_c w _ gr l HBS.out (by have := HL.out; omega) 0 top x b1 0 HN.out HRD.out).mono ?_); rintro er w8 ⟨rfl, hr, hk⟩; have HR8 := Aside0.mk hr; have hrc8 := blk_kept HRC6.out hk (Nat.ne_of_lt HLT.out); have HRC8 := Aside0.mk hrc8; obtain ⟨A, c, hg8⟩ := hr.row; have k1 : w8.cell? ⟨gr, 1, none⟩ = some (.int .i64 0) := blk_cell hg8 1; have n0 : gr ≠ rc := Nat.ne_of_gt HLT.out; have ne2 : rc ≠ gr := Nat.ne_of_lt HLT.out; have y0 : w8.cell? ⟨rc, 0, none⟩ = some (.int .i64 0) := blk_cell hrc8 0; have yf0 : w8.frozen? ⟨rc, 0, none⟩ = false := blk_frozen hrc8 0; have y1 : w8.cell? ⟨rc, 1, none⟩ = some (.int .u64 0) := blk_cell hrc8 1; have yf1 : w8.frozen? ⟨rc, 1, none⟩ = false := blk_frozen hrc8 1; have y2 : w8.cell? ⟨rc, 2, none⟩ = some (.int .u64 0) := blk_cell hrc8 2; have yf2 : w8.frozen? ⟨rc, 2, none⟩ = false := blk_frozen hrc8 2; have y3 : w8.cell? ⟨rc, 3, none⟩ = some (.int .u64 0) := blk_cell hrc8 3; have yf3 : w8.frozen? ⟨rc, 3, none⟩ = false := blk_frozen hrc8 3; have y4 : w8.cell? ⟨rc, 4, none⟩ = some (.int .u64 0) := blk_cell hrc8 4; have yf4 : w8.frozen? ⟨rc, 4, none⟩ = false := blk_frozen hrc8 4; have y5 : w8.cell? ⟨rc, 5, none⟩ = some (.int .u64 0) := blk_cell hrc8 5; have yf5 : w8.frozen? ⟨rc, 5, none⟩ = false := blk_frozen hrc8 5; have y6 : w8.cell? ⟨rc, 6, none⟩ = some (.int .u64 0) := blk_cell hrc8 6; have yf6 : w8.frozen? ⟨rc, 6, none⟩ = false := blk_frozen hrc8 6; have y7 : w8.cell? ⟨rc, 7, none⟩ = some (.int .i64 0) := blk_cell hrc8 7; have yf7 : w8.frozen? ⟨rc, 7, none⟩ = false := blk_frozen hrc8 7; have y8 : w8.cell? ⟨rc, 8, none⟩ = some (.int .u64 0) := blk_cell hrc8 8; have yf8 : w8.frozen? ⟨rc, 8, none⟩ = false := blk_frozen hrc8 8; have y9 : w8.cell? ⟨rc, 9, none⟩ = some (.slice none 0 0) := blk_cell hrc8 9; have yf9 : w8.frozen? ⟨rc, 9, none⟩ = false := blk_frozen hrc8 9; have y10 : w8.cell? ⟨rc, 10, none⟩ = some (.int .i64 0) := blk_cell hrc8 10; have yf10 : w8.frozen? ⟨rc, 10, none⟩ = false := blk_frozen hrc8 10; have y11 : w8.cell? ⟨rc, 11, none⟩ = some (.slice none 0 0) := blk_cell hrc8 11; have yf11 : w8.frozen? ⟨rc, 11, none⟩ = false := blk_frozen hrc8 11; clear hr hk hrc8 hg8))
      (try simp only [Exit.inBlock, Exit.then])
      refine bodyPost_ret (results_ct rfl _ _ rc 29 #[.int .i64 0, .int .u64 0, .int .u64 0, .int .u64 0, .int .u64 0, .int .u64 0, .int .u64 0, .int .i64 0, .int .u64 0, .slice none 0 0, .int .i64 0, .slice none 0 0] (0, 0) _ rfl (st12_blk HRC8.out (.int .i64 0) (.int .u64 0) (.int .u64 0) (.int .u64 0) (.int .u64 0) (.int .u64 0) (.int .u64 0) (.int .i64 0) (.int .u64 0) (.slice none 0 0) (.int .i64 0) (.slice none 0 0)) Try.underlying29 (by rfl) (by kernel_rfl)) rfl ?_
      exact ⟨_, _, rfl, Ls.nil _ _ _ _, Ls.nil _ _ _ _, st12_bel HR8.out.bel (Nat.le_of_eq HNC.out.symm) (.int .i64 0) (.int .u64 0) (.int .u64 0) (.int .u64 0) (.int .u64 0) (.int .u64 0) (.int .u64 0) (.int .i64 0) (.int .u64 0) (.slice none 0 0) (.int .i64 0) (.slice none 0 0)⟩
    · have d1 : decide (x < 1) = false := decide_eq_false hx
      have d2 : decide (12 < x) = true := decide_eq_true (by omega)
      clear hk hx hbd
      go_enter Try.func9, Try.ntmps9
      go_wp2_with (first | ((with_reducible refine gate_dst (N := 2) rfl ?_); refine box_event ?hg (N := 2) ?hd (cs := #[.int .i64 0, .int .u64 0, .int .u64 0, .int .u64 0, .int .u64 0, .int .u64 0, .int .u64 0, .int .i64 0, .int .u64 0, .slice none 0 0, .int .i64 0, .slice none 0 0]) (t := 29) ?hr ?_; (case hd => rfl); (case hg => rfl); (case hr => first | (go_simp; done) | (go_simp; rfl)); intro rc hrc w5 hbox hb; have HRC := Aside0.mk hbox; have HB5 := Aside0.mk hb; have HNC := Aside0.mk hrc; clear hbox hb hrc) | ((with_reducible refine gate_dst (N := 11) rfl ?_); refine box_event ?hg (N := 11) ?hd (cs := #[.slice A0 l.length c0, .int .i64 0]) (t := 50) ?hr ?_; (case hd => rfl); (case hg => rfl); (case hr => first | (go_simp; done) | (go_simp; rfl)); intro gr hgr w6 hbox hb; have hRD := (Rd.mk ⟨A0, c0, hbox, HBC.out, HC.out⟩ (by rw [hgr]; exact HB5.out.size) (below_step HB5.out hb) : Rd w w6 50 gr l 0); have HRD := Aside0.mk hRD; have HRC6 := Aside0.mk (blk_below HRC.out hb); have HLT := Aside0.mk (show rc < gr from by rw [hgr]; exact blk_lt HRC.out); clear hbox hb hgr hRD HRC) | (go_at_call 24; (with_reducible refine (num_c w _ gr l HBS.out (by have := HL.out; omega) 0 top x b1 0 HN.out HRD.out).mono ?_); rintro er w8 ⟨rfl, hr, hk⟩; have HR8 := Aside0.mk hr; have hrc8 := blk_kept HRC6.out hk (Nat.ne_of_lt HLT.out); have HRC8 := Aside0.mk hrc8; obtain ⟨A, c, hg8⟩ := hr.row; have k1 : w8.cell? ⟨gr, 1, none⟩ = some (.int .i64 0) := blk_cell hg8 1; have n0 : gr ≠ rc := Nat.ne_of_gt HLT.out; have ne2 : rc ≠ gr := Nat.ne_of_lt HLT.out; have y0 : w8.cell? ⟨rc, 0, none⟩ = some (.int .i64 0) := blk_cell hrc8 0; have yf0 : w8.frozen? ⟨rc, 0, none⟩ = false := blk_frozen hrc8 0; have y1 : w8.cell? ⟨rc, 1, none⟩ = some (.int .u64 0) := blk_cell hrc8 1; have yf1 : w8.frozen? ⟨rc, 1, none⟩ = false := blk_frozen hrc8 1; have y2 : w8.cell? ⟨rc, 2, none⟩ = some (.int .u64 0) := blk_cell hrc8 2; have yf2 : w8.frozen? ⟨rc, 2, none⟩ = false := blk_frozen hrc8 2; have y3 : w8.cell? ⟨rc, 3, none⟩ = some (.int .u64 0) := blk_cell hrc8 3; have yf3 : w8.frozen? ⟨rc, 3, none⟩ = false := blk_frozen hrc8 3; have y4 : w8.cell? ⟨rc, 4, none⟩ = some (.int .u64 0) := blk_cell hrc8 4; have yf4 : w8.frozen? ⟨rc, 4, none⟩ = false := blk_frozen hrc8 4; have y5 : w8.cell? ⟨rc, 5, none⟩ = some (.int .u64 0) := blk_cell hrc8 5; have yf5 : w8.frozen? ⟨rc, 5, none⟩ = false := blk_frozen hrc8 5; have y6 : w8.cell? ⟨rc, 6, none⟩ = some (.int .u64 0) := blk_cell hrc8 6; have yf6 : w8.frozen? ⟨rc, 6, none⟩ = false := blk_frozen hrc8 6; have y7 : w8.cell? ⟨rc, 7, none⟩ = some (.int .i64 0) := blk_cell hrc8 7; have yf7 : w8.frozen? ⟨rc, 7, none⟩ = false := blk_frozen hrc8 7; have y8 : w8.cell? ⟨rc, 8, none⟩ = some (.int .u64 0) := blk_cell hrc8 8; have yf8 : w8.frozen? ⟨rc, 8, none⟩ = false := blk_frozen hrc8 8; have y9 : w8.cell? ⟨rc, 9, none⟩ = some (.slice none 0 0) := blk_cell hrc8 9; have yf9 : w8.frozen? ⟨rc, 9, none⟩ = false := blk_frozen hrc8 9; have y10 : w8.cell? ⟨rc, 10, none⟩ = some (.int .i64 0) := blk_cell hrc8 10; have yf10 : w8.frozen? ⟨rc, 10, none⟩ = false := blk_frozen hrc8 10; have y11 : w8.cell? ⟨rc, 11, none⟩ = some (.slice none 0 0) := blk_cell hrc8 11; have yf11 : w8.frozen? ⟨rc, 11, none⟩ = false := blk_frozen hrc8 11; clear hr hk hrc8 hg8))
      (try simp only [Exit.inBlock, Exit.then])
      refine bodyPost_ret (results_ct rfl _ _ rc 29 #[.int .i64 0, .int .u64 0, .int .u64 0, .int .u64 0, .int .u64 0, .int .u64 0, .int .u64 0, .int .i64 0, .int .u64 0, .slice none 0 0, .int .i64 0, .slice none 0 0] (0, 0) _ rfl (st12_blk HRC8.out (.int .i64 0) (.int .u64 0) (.int .u64 0) (.int .u64 0) (.int .u64 0) (.int .u64 0) (.int .u64 0) (.int .i64 0) (.int .u64 0) (.slice none 0 0) (.int .i64 0) (.slice none 0 0)) Try.underlying29 (by rfl) (by kernel_rfl)) rfl ?_
      exact ⟨_, _, rfl, Ls.nil _ _ _ _, Ls.nil _ _ _ _, st12_bel HR8.out.bel (Nat.le_of_eq HNC.out.symm) (.int .i64 0) (.int .u64 0) (.int .u64 0) (.int .u64 0) (.int .u64 0) (.int .u64 0) (.int .u64 0) (.int .i64 0) (.int .u64 0) (.slice none 0 0) (.int .i64 0) (.slice none 0 0)⟩
  rw [if_neg hk] at hv
  have d1 : decide (x < 1) = false := decide_eq_false (by omega)
  have d2 : decide (12 < x) = false := decide_eq_false (by omega)
  have ex : wrap64 x = x := w64 (by omega) (by omega)
  obtain ⟨S, hS, hSb, hSn⟩ := letters_of x (by omega) (by omega)
  rcases hf : foldV (lettersV x) (Ms.of x) b1 0 with ⟨mf, bf, ef⟩
  rw [hf] at hv
  dsimp only at hv
  have HF := Aside0.mk hf; have HV := Aside0.mk hv; have HS := Aside0.mk hS; have HSB := Aside0.mk hSb; have HSN := Aside0.mk hSn
  have HB1 := Aside0.mk (show Bytes b1 ∧ b1.length ≤ 100000 from ⟨hbd.2.2.1, Nat.le_trans hbd.2.2.2 HL.out⟩)
  have kb := fun W => print_bytes (P := Try.prog) 9 22 5 Try.underlying9 Try.underlying22 Try.underlying5 S W
  clear hf hv hS hSb hSn hbd hk
  go_enter Try.func9, Try.ntmps9
  go_upto_region 8 with (first | ((with_reducible refine gate_dst (N := 2) rfl ?_); refine box_event ?hg (N := 2) ?hd (cs := #[.int .i64 0, .int .u64 0, .int .u64 0, .int .u64 0, .int .u64 0, .int .u64 0, .int .u64 0, .int .i64 0, .int .u64 0, .slice none 0 0, .int .i64 0, .slice none 0 0]) (t := 29) ?hr ?_; (case hd => rfl); (case hg => rfl); (case hr => first | (go_simp; done) | (go_simp; rfl)); intro rc hrc w5 hbox hb; have HRC := Aside0.mk hbox; have HB5 := Aside0.mk hb; have HNC := Aside0.mk hrc; clear hbox hb hrc) | ((with_reducible refine gate_dst (N := 11) rfl ?_); refine box_event ?hg (N := 11) ?hd (cs := #[.slice A0 l.length c0, .int .i64 0]) (t := 50) ?hr ?_; (case hd => rfl); (case hg => rfl); (case hr => first | (go_simp; done) | (go_simp; rfl)); intro gr hgr w6 hbox hb; have hRD := (Rd.mk ⟨A0, c0, hbox, HBC.out, HC.out⟩ (by rw [hgr]; exact HB5.out.size) (below_step HB5.out hb) : Rd w w6 50 gr l 0); have HRD := Aside0.mk hRD; have HRC6 := Aside0.mk (blk_below HRC.out hb); have HLT := Aside0.mk (show rc < gr from by rw [hgr]; exact blk_lt HRC.out); clear hbox hb hgr hRD HRC) | (go_at_call 24; (with_reducible refine (num_c w _ gr l HBS.out (by have := HL.out; omega) 0 top x b1 0 HN.out HRD.out).mono ?_); rintro er w8 ⟨rfl, hr, hk⟩; have HR8 := Aside0.mk hr; have hrc8 := blk_kept HRC6.out hk (Nat.ne_of_lt HLT.out); have HRC8 := Aside0.mk hrc8; obtain ⟨A, c, hg8⟩ := hr.row; have k1 : w8.cell? ⟨gr, 1, none⟩ = some (.int .i64 0) := blk_cell hg8 1; have n0 : gr ≠ rc := Nat.ne_of_gt HLT.out; have ne2 : rc ≠ gr := Nat.ne_of_lt HLT.out; have y0 : w8.cell? ⟨rc, 0, none⟩ = some (.int .i64 0) := blk_cell hrc8 0; have yf0 : w8.frozen? ⟨rc, 0, none⟩ = false := blk_frozen hrc8 0; have y1 : w8.cell? ⟨rc, 1, none⟩ = some (.int .u64 0) := blk_cell hrc8 1; have yf1 : w8.frozen? ⟨rc, 1, none⟩ = false := blk_frozen hrc8 1; have y2 : w8.cell? ⟨rc, 2, none⟩ = some (.int .u64 0) := blk_cell hrc8 2; have yf2 : w8.frozen? ⟨rc, 2, none⟩ = false := blk_frozen hrc8 2; have y3 : w8.cell? ⟨rc, 3, none⟩ = some (.int .u64 0) := blk_cell hrc8 3; have yf3 : w8.frozen? ⟨rc, 3, none⟩ = false := blk_frozen hrc8 3; have y4 : w8.cell? ⟨rc, 4, none⟩ = some (.int .u64 0) := blk_cell hrc8 4; have yf4 : w8.frozen? ⟨rc, 4, none⟩ = false := blk_frozen hrc8 4; have y5 : w8.cell? ⟨rc, 5, none⟩ = some (.int .u64 0) := blk_cell hrc8 5; have yf5 : w8.frozen? ⟨rc, 5, none⟩ = false := blk_frozen hrc8 5; have y6 : w8.cell? ⟨rc, 6, none⟩ = some (.int .u64 0) := blk_cell hrc8 6; have yf6 : w8.frozen? ⟨rc, 6, none⟩ = false := blk_frozen hrc8 6; have y7 : w8.cell? ⟨rc, 7, none⟩ = some (.int .i64 0) := blk_cell hrc8 7; have yf7 : w8.frozen? ⟨rc, 7, none⟩ = false := blk_frozen hrc8 7; have y8 : w8.cell? ⟨rc, 8, none⟩ = some (.int .u64 0) := blk_cell hrc8 8; have yf8 : w8.frozen? ⟨rc, 8, none⟩ = false := blk_frozen hrc8 8; have y9 : w8.cell? ⟨rc, 9, none⟩ = some (.slice none 0 0) := blk_cell hrc8 9; have yf9 : w8.frozen? ⟨rc, 9, none⟩ = false := blk_frozen hrc8 9; have y10 : w8.cell? ⟨rc, 10, none⟩ = some (.int .i64 0) := blk_cell hrc8 10; have yf10 : w8.frozen? ⟨rc, 10, none⟩ = false := blk_frozen hrc8 10; have y11 : w8.cell? ⟨rc, 11, none⟩ = some (.slice none 0 0) := blk_cell hrc8 11; have yf11 : w8.frozen? ⟨rc, 11, none⟩ = false := blk_frozen hrc8 11; clear hr hk hrc8 hg8) | ((with_reducible refine gate_dst (N := 6) rfl ?_); refine box_event ?hg (N := 6) ?hd (cs := #[.int .i64 0, .int .u64 0, .int .u64 0, .int .u64 0, .int .u64 0, .int .u64 0, .int .u64 0, .int .i64 0, .int .u64 0, .slice none 0 0, .int .i64 0, .slice none 0 0]) (t := 29) ?hr ?_; (case hd => rfl); (case hg => rfl); (case hr => first | (go_simp; done) | (go_simp; rfl)); intro gm hgm w10 hbox hb; have HGM := Aside0.mk hbox; have HB10 := Aside0.mk hb; have HGN := Aside0.mk hgm; have u0 : w10.cell? ⟨gm, 0, none⟩ = some (.int .i64 0) := blk_cell hbox 0; have uf0 : w10.frozen? ⟨gm, 0, none⟩ = false := blk_frozen hbox 0; have u1 : w10.cell? ⟨gm, 1, none⟩ = some (.int .u64 0) := blk_cell hbox 1; have uf1 : w10.frozen? ⟨gm, 1, none⟩ = false := blk_frozen hbox 1; have u2 : w10.cell? ⟨gm, 2, none⟩ = some (.int .u64 0) := blk_cell hbox 2; have uf2 : w10.frozen? ⟨gm, 2, none⟩ = false := blk_frozen hbox 2; have u3 : w10.cell? ⟨gm, 3, none⟩ = some (.int .u64 0) := blk_cell hbox 3; have uf3 : w10.frozen? ⟨gm, 3, none⟩ = false := blk_frozen hbox 3; have u4 : w10.cell? ⟨gm, 4, none⟩ = some (.int .u64 0) := blk_cell hbox 4; have uf4 : w10.frozen? ⟨gm, 4, none⟩ = false := blk_frozen hbox 4; have u5 : w10.cell? ⟨gm, 5, none⟩ = some (.int .u64 0) := blk_cell hbox 5; have uf5 : w10.frozen? ⟨gm, 5, none⟩ = false := blk_frozen hbox 5; have u6 : w10.cell? ⟨gm, 6, none⟩ = some (.int .u64 0) := blk_cell hbox 6; have uf6 : w10.frozen? ⟨gm, 6, none⟩ = false := blk_frozen hbox 6; have u7 : w10.cell? ⟨gm, 7, none⟩ = some (.int .i64 0) := blk_cell hbox 7; have uf7 : w10.frozen? ⟨gm, 7, none⟩ = false := blk_frozen hbox 7; have u8 : w10.cell? ⟨gm, 8, none⟩ = some (.int .u64 0) := blk_cell hbox 8; have uf8 : w10.frozen? ⟨gm, 8, none⟩ = false := blk_frozen hbox 8; have u9 : w10.cell? ⟨gm, 9, none⟩ = some (.slice none 0 0) := blk_cell hbox 9; have uf9 : w10.frozen? ⟨gm, 9, none⟩ = false := blk_frozen hbox 9; have u10 : w10.cell? ⟨gm, 10, none⟩ = some (.int .i64 0) := blk_cell hbox 10; have uf10 : w10.frozen? ⟨gm, 10, none⟩ = false := blk_frozen hbox 10; have u11 : w10.cell? ⟨gm, 11, none⟩ = some (.slice none 0 0) := blk_cell hbox 11; have uf11 : w10.frozen? ⟨gm, 11, none⟩ = false := blk_frozen hbox 11; clear hbox hb hgm))
  obtain ⟨w11, hw11⟩ : ∃ w11, st12 w10 gm (.int .i64 x) (.int .u64 0) (.int .u64 0) (.int .u64 0) (.int .u64 0) (.int .u64 0) (.int .u64 0) (.int .i64 0) (.int .u64 0) (.slice none 0 0) (.int .i64 0) (.slice none 0 0) = w11 := ⟨_, rfl⟩
  have hgm : w11.heap[gm]? = some (.cells (mcells (Ms.of x) (.slice none 0 0) (.slice none 0 0)) 29 (0, 0)) := by rw [← hw11]; exact st12_blk HGM.out _ _ _ _ _ _ _ _ _ _ _ _
  have hkk : Kept w8 w11 (fun i => i = gm) := by rw [← hw11]; exact (Kept.of_below HB10.out _).then_ (st12_kept w10 gm _ _ _ _ _ _ _ _ _ _ _ _) (fun i hi => .inl hi)
  have hbl : Below w.heap.size w w11 := by rw [← hw11]; exact st12_bel (below_step HR8.out.bel HB10.out) (by have := HGN.out; have := HR8.out.bel.size; omega) _ _ _ _ _ _ _ _ _ _ _ _
  have HRC11 := Aside0.mk (blk_kept HRC8.out hkk (by have := blk_lt HRC8.out; have := HGN.out; omega))
  have HR11 := Aside0.mk (HR8.out.keep hbl hkk (by obtain ⟨A9, c9, hg9⟩ := HR8.out.row; have := blk_lt hg9; have := HGN.out; omega))
  have HM11 := Aside0.mk (show MI w w11 29 gm (Ms.of x) (.slice none 0 0) (.slice none 0 0) from ⟨hgm, by have := HGN.out; have := HR8.out.bel.size; omega, Ls.nil _ _ _ _, Ls.nil _ _ _ _⟩)
  have HGL := Aside0.mk (show rc < gm ∧ gr < gm from ⟨by have := blk_lt HRC8.out; have := HGN.out; omega, by obtain ⟨A9, c9, hg9⟩ := HR8.out.row; have := blk_lt hg9; have := HGN.out; omega⟩)
  have kg0 : w11.cell? ⟨gm, 0, none⟩ = some (.int .i64 x) := blk_cell hgm 0
  unfold st12 at hw11
  rw [hw11]
  clear hw11 hgm hkk hbl y0 yf0 u0 uf0 y1 yf1 u1 uf1 y2 yf2 u2 uf2 y3 yf3 u3 uf3 y4 yf4 u4 uf4 y5 yf5 u5 uf5 y6 yf6 u6 uf6 y7 yf7 u7 uf7 y8 yf8 u8 uf8 y9 yf9 u9 uf9 y10 yf10 u10 uf10 y11 yf11 u11 uf11
  go_wp2_with (first | (go_at_call 25; (with_reducible refine (msg_letters.calls x S _ HS.out).mono ?_); rintro er w12 ⟨rfl, hdr⟩; obtain ⟨nd, rfl⟩ := hdr))
  clear kg0
  obtain ⟨cb, hcb⟩ : ∃ cb, grownCap (World.drewN w11 nd) S.size 0 5 = cb := ⟨_, rfl⟩
  rw [hcb]
  have hbb : Below w11.heap.size w11 (Lib.bytesWorld (World.drewN w11 nd) 5 S) := bytes_below (pw_below_drewN (Below.refl _ _) nd) (Nat.le_refl _) 5 S
  have hby := bytes_reads (World.drewN w11 nd) 5 S (by rw [HSN.out]; have : (lettersV x).length ≤ 4 := letters_len x; omega)
  obtain ⟨gb, hgb⟩ : ∃ gb, w11.heap.size = gb := ⟨_, rfl⟩
  have hby2 : ∀ (i : Nat) (c : Int), (lettersV x)[i]? = some c → (Lib.bytesWorld (World.drewN w11 nd) 5 S).cell? ⟨gb, i, none⟩ = some (.int .u8 c) := fun i c hc => by
    have hi := (List.getElem?_eq_some_iff.1 hc).1
    obtain ⟨ad, ea, hq⟩ := hby.2.2 (by rw [HSN.out]; omega)
    have q := hq i (by rw [HSN.out]; omega)
    rw [HSB.out, List.getD_eq_getElem?_getD, hc] at q
    cases ea
    rw [add_plain, show (World.drewN w11 nd).heap.size = gb from hgb] at q
    simpa using q
  obtain ⟨wb, hwb⟩ : ∃ wb, Lib.bytesWorld (World.drewN w11 nd) 5 S = wb := ⟨_, rfl⟩
  rw [hwb] at hbb hby2
  obtain ⟨n, hn⟩ : ∃ n, S.size = n := ⟨_, rfl⟩
  rw [hwb, hgb, hn]
  have HNL := Aside0.mk (show n = (lettersV x).length from hn ▸ HSN.out)
  have HNB := Aside0.mk (show n ≤ 4 by rw [HNL.out]; exact letters_len x)
  have HLB := Aside0.mk hby2
  have HRCB := Aside0.mk (blk_below HRC11.out hbb)
  have HGB := Aside0.mk (show rc < gm ∧ gr < gm ∧ gm < gb from ⟨HGL.out.1, HGL.out.2, by rw [← hgb]; exact blk_lt HM11.out.blk⟩)
  have HRB := Aside0.mk (HR11.out.keep (below_step HR11.out.bel hbb) (Kept.of_below hbb (fun _ => False)) (fun h => h))
  have HMB := Aside0.mk (HM11.out.below hbb)
  clear hbb hby hby2 hwb hgb hcb hn
  go_loopw [41] (fun vi wr => ∃ (i : Nat) (m1 : Ms) (vP vL : Value) (b2 : List Int) (e2 : Int), vi = .int .i64 i ∧ Aside0 (i ≤ n) ∧ Aside0 (foldV ((lettersV x).drop i) m1 b2 e2 = (mf, bf, ef)) ∧ Aside0 (Bytes b2 ∧ b2.length ≤ 100000) ∧ Aside0 (Rd w wr 50 gr b2 e2) ∧ Aside0 (MI w wr 29 gm m1 vP vL) ∧ Aside0 (Kept wb wr (fun i => i = gr ∨ i = gm)) ∧ Aside0 (m1.In)) (fun vi _ => (n - intOf vi).toNat)
  case atStart => exact ⟨0, Ms.of x, _, _, b1, 0, rfl, ⟨Nat.zero_le _⟩, HF, HB1, HRB, HMB, ⟨Kept.refl _ _⟩, ⟨In_of x⟩⟩
  case round =>
    obtain ⟨i, m1, vP, vL, b2, e2, rfl, HI, HFO, HB2, HR2, HM2, HK2, HIN⟩ := hrel
    have l1 := HI.out
    have l3 := HNB.out
    by_cases hlt : i < n
    · have d3 : decide ((i : Int) < (n : Int)) = true := decide_eq_true (by omega)
      have d3' : decide (i < n) = true := decide_eq_true hlt
      have hil : i < (lettersV x).length := by have := HNL.out; omega
      obtain ⟨c, hc⟩ : ∃ c, (lettersV x)[i]? = some c := ⟨_, List.getElem?_eq_getElem hil⟩
      have hdr : (lettersV x).drop i = c :: (lettersV x).drop (i + 1) := by
        rw [List.drop_eq_getElem_cons hil]
        rw [List.getElem?_eq_getElem hil] at hc
        rw [Option.some.inj hc]
      rcases hfd : fieldV m1 b2 e2 c with ⟨m3, b3, e3⟩
      have hfo := HFO.out
      rw [hdr] at hfo
      unfold foldV at hfo
      rw [hfd] at hfo
      have hbd := field_bd HIN.out HB2.out.1 e2 c
      rw [hfd] at hbd
      have HFO3 := Aside0.mk hfo
      have HB3 := Aside0.mk (show Bytes b3 ∧ b3.length ≤ 100000 from ⟨hbd.2.1, Nat.le_trans hbd.2.2 HB2.out.2⟩)
      have HIN3 := Aside0.mk hbd.1
      have HFD := Aside0.mk (field_c w wr gr gm b2 HB2.out.1 HB2.out.2 e2 m1 vP vL HR2.out HM2.out c (letters_isL x c (List.mem_of_getElem? hc)) m3 b3 e3 hfd)
      have kc : wr.cell? ⟨gb, i, none⟩ = some (.int .u8 c) := by
        have q := HLB.out i c hc
        have hlt2 : gb < wb.heap.size := World.block_lt_of_cell? wb _ q
        have q2 := HK2.out.2 gb hlt2 (fun h => by have := HGB.out; omega)
        rw [← q]
        simp only [World.cell?, q2]
      clear hfo hfd hbd hdr hc hil HFO HB2 HIN HR2 HM2
      go_wp2_with (first | (go_at_call 26; (with_reducible refine HFD.out.mono ?_); rintro er w13 ⟨vP3, vL3, rfl, hr, hm, hk⟩; have HR3 := Aside0.mk hr; have HM3 := Aside0.mk hm; have HK3 := Aside0.mk hk; clear hr hm hk) | go_in)
      go_roundw
      case rel => exact ⟨i + 1, m3, vP3, vL3, b3, e3, by go_num, ⟨by have := HI.out; omega⟩, HFO3, HB3, HR3, HM3, ⟨kept_then HK2.out HK3.out (fun i hi => hi)⟩, HIN3⟩
      case measure => simp [intOf]; omega
    · obtain rfl : i = n := by omega
      have hfo := HFO.out
      rw [List.drop_eq_nil_of_le (by have := HNL.out; omega)] at hfo
      unfold foldV at hfo
      simp only [Prod.mk.injEq] at hfo
      obtain ⟨rfl, rfl, rfl⟩ := hfo
      have hv := HV.out
      have hrc := blk_kept HRCB.out HK2.out (fun h => by have := HGB.out; have := HLT.out; omega)
      have HRCR := Aside0.mk hrc
      obtain ⟨A9, c9, hg9⟩ := HR2.out.row
      have z0 : wr.cell? ⟨gr, 0, none⟩ = some (.slice A9 b2.length c9) := blk_cell hg9 0
      have z1 : wr.cell? ⟨gr, 1, none⟩ = some (.int .i64 e2) := blk_cell hg9 1
      have n1 : gr ≠ rc := Nat.ne_of_gt HLT.out
      have n2 : rc ≠ gr := Nat.ne_of_lt HLT.out
      have y0 : wr.cell? ⟨rc, 0, none⟩ = some (.int .i64 0) := blk_cell hrc 0
      have yf0 : wr.frozen? ⟨rc, 0, none⟩ = false := blk_frozen hrc 0
      have y1 : wr.cell? ⟨rc, 1, none⟩ = some (.int .u64 0) := blk_cell hrc 1
      have yf1 : wr.frozen? ⟨rc, 1, none⟩ = false := blk_frozen hrc 1
      have y2 : wr.cell? ⟨rc, 2, none⟩ = some (.int .u64 0) := blk_cell hrc 2
      have yf2 : wr.frozen? ⟨rc, 2, none⟩ = false := blk_frozen hrc 2
      have y3 : wr.cell? ⟨rc, 3, none⟩ = some (.int .u64 0) := blk_cell hrc 3
      have yf3 : wr.frozen? ⟨rc, 3, none⟩ = false := blk_frozen hrc 3
      have y4 : wr.cell? ⟨rc, 4, none⟩ = some (.int .u64 0) := blk_cell hrc 4
      have yf4 : wr.frozen? ⟨rc, 4, none⟩ = false := blk_frozen hrc 4
      have y5 : wr.cell? ⟨rc, 5, none⟩ = some (.int .u64 0) := blk_cell hrc 5
      have yf5 : wr.frozen? ⟨rc, 5, none⟩ = false := blk_frozen hrc 5
      have y6 : wr.cell? ⟨rc, 6, none⟩ = some (.int .u64 0) := blk_cell hrc 6
      have yf6 : wr.frozen? ⟨rc, 6, none⟩ = false := blk_frozen hrc 6
      have y7 : wr.cell? ⟨rc, 7, none⟩ = some (.int .i64 0) := blk_cell hrc 7
      have yf7 : wr.frozen? ⟨rc, 7, none⟩ = false := blk_frozen hrc 7
      have y8 : wr.cell? ⟨rc, 8, none⟩ = some (.int .u64 0) := blk_cell hrc 8
      have yf8 : wr.frozen? ⟨rc, 8, none⟩ = false := blk_frozen hrc 8
      have y9 : wr.cell? ⟨rc, 9, none⟩ = some (.slice none 0 0) := blk_cell hrc 9
      have yf9 : wr.frozen? ⟨rc, 9, none⟩ = false := blk_frozen hrc 9
      have y10 : wr.cell? ⟨rc, 10, none⟩ = some (.int .i64 0) := blk_cell hrc 10
      have yf10 : wr.frozen? ⟨rc, 10, none⟩ = false := blk_frozen hrc 10
      have y11 : wr.cell? ⟨rc, 11, none⟩ = some (.slice none 0 0) := blk_cell hrc 11
      have yf11 : wr.frozen? ⟨rc, 11, none⟩ = false := blk_frozen hrc 11
      clear hrc hg9
      by_cases he : e2 = 0
      rotate_left
      · rw [if_neg he] at hv
        obtain ⟨rfl, rfl⟩ := Prod.mk.inj hv
        have q1 : (e2 != 0) = true := by simpa using he
        clear he hv
        go_upto_region 14 with (fail)
        go_region
        go_wp2_with fail
        (try simp only [Exit.inBlock, Exit.then])
        refine bodyPost_ret (results_ct rfl _ _ rc 29 #[.int .i64 0, .int .u64 0, .int .u64 0, .int .u64 0, .int .u64 0, .int .u64 0, .int .u64 0, .int .i64 0, .int .u64 0, .slice none 0 0, .int .i64 0, .slice none 0 0] (0, 0) _ rfl (blk_drew (st12_blk HRCR.out (.int .i64 0) (.int .u64 0) (.int .u64 0) (.int .u64 0) (.int .u64 0) (.int .u64 0) (.int .u64 0) (.int .i64 0) (.int .u64 0) (.slice none 0 0) (.int .i64 0) (.slice none 0 0))) Try.underlying29 (by rfl) (by kernel_rfl)) rfl ?_
        exact ⟨_, _, rfl, Ls.nil _ _ _ _, Ls.nil _ _ _ _, below_drew (st12_bel HR2.out.bel (Nat.le_of_eq HNC.out.symm) (.int .i64 0) (.int .u64 0) (.int .u64 0) (.int .u64 0) (.int .u64 0) (.int .u64 0) (.int .u64 0) (.int .i64 0) (.int .u64 0) (.slice none 0 0) (.int .i64 0) (.slice none 0 0))⟩
      subst he
      rw [if_pos rfl] at hv
      by_cases hb2 : b2 = []
      rotate_left
      · rw [if_neg hb2] at hv
        obtain ⟨rfl, rfl⟩ := Prod.mk.inj hv
        have hpos : 0 < b2.length := List.length_pos_iff.2 hb2
        have q1 : decide ((0 : Int) < (b2.length : Int)) = true := decide_eq_true (by omega)
        have q2 : decide (0 < b2.length) = true := decide_eq_true hpos
        clear hb2 hv
        go_wp2_with fail
        (try simp only [Exit.inBlock, Exit.then])
        refine bodyPost_ret (results_ct rfl _ _ rc 29 #[.int .i64 0, .int .u64 0, .int .u64 0, .int .u64 0, .int .u64 0, .int .u64 0, .int .u64 0, .int .i64 0, .int .u64 0, .slice none 0 0, .int .i64 0, .slice none 0 0] (0, 0) _ rfl (st12_blk HRCR.out (.int .i64 0) (.int .u64 0) (.int .u64 0) (.int .u64 0) (.int .u64 0) (.int .u64 0) (.int .u64 0) (.int .i64 0) (.int .u64 0) (.slice none 0 0) (.int .i64 0) (.slice none 0 0)) Try.underlying29 (by rfl) (by kernel_rfl)) rfl ?_
        exact ⟨_, _, rfl, Ls.nil _ _ _ _, Ls.nil _ _ _ _, st12_bel HR2.out.bel (Nat.le_of_eq HNC.out.symm) (.int .i64 0) (.int .u64 0) (.int .u64 0) (.int .u64 0) (.int .u64 0) (.int .u64 0) (.int .u64 0) (.int .i64 0) (.int .u64 0) (.slice none 0 0) (.int .i64 0) (.slice none 0 0)⟩
      subst hb2
      rw [if_pos rfl] at hv
      obtain ⟨rfl, rfl⟩ := Prod.mk.inj hv
      obtain ⟨AP, cP, rfl, _, _⟩ := HM2.out.P.form
      obtain ⟨AL, cL, rfl, _, _⟩ := HM2.out.L.form
      have z0 : wr.cell? ⟨gr, 0, none⟩ = some (.slice A9 0 c9) := z0
      have hgm := HM2.out.blk
      have u0 : wr.cell? ⟨gm, 0, none⟩ = some (.int .i64 m1.k) := blk_cell hgm 0
      have uf0 : wr.frozen? ⟨gm, 0, none⟩ = false := blk_frozen hgm 0
      have u1 : wr.cell? ⟨gm, 1, none⟩ = some (.int .u64 m1.s) := blk_cell hgm 1
      have uf1 : wr.frozen? ⟨gm, 1, none⟩ = false := blk_frozen hgm 1
      have u2 : wr.cell? ⟨gm, 2, none⟩ = some (.int .u64 m1.se) := blk_cell hgm 2
      have uf2 : wr.frozen? ⟨gm, 2, none⟩ = false := blk_frozen hgm 2
      have u3 : wr.cell? ⟨gm, 3, none⟩ = some (.int .u64 m1.a) := blk_cell hgm 3
      have uf3 : wr.frozen? ⟨gm, 3, none⟩ = false := blk_frozen hgm 3
      have u4 : wr.cell? ⟨gm, 4, none⟩ = some (.int .u64 m1.i) := blk_cell hgm 4
      have uf4 : wr.frozen? ⟨gm, 4, none⟩ = false := blk_frozen hgm 4
      have u5 : wr.cell? ⟨gm, 5, none⟩ = some (.int .u64 m1.n) := blk_cell hgm 5
      have uf5 : wr.frozen? ⟨gm, 5, none⟩ = false := blk_frozen hgm 5
      have u6 : wr.cell? ⟨gm, 6, none⟩ = some (.int .u64 m1.c) := blk_cell hgm 6
      have uf6 : wr.frozen? ⟨gm, 6, none⟩ = false := blk_frozen hgm 6
      have u7 : wr.cell? ⟨gm, 7, none⟩ = some (.int .i64 m1.why) := blk_cell hgm 7
      have uf7 : wr.frozen? ⟨gm, 7, none⟩ = false := blk_frozen hgm 7
      have u8 : wr.cell? ⟨gm, 8, none⟩ = some (.int .u64 m1.seed) := blk_cell hgm 8
      have uf8 : wr.frozen? ⟨gm, 8, none⟩ = false := blk_frozen hgm 8
      have u9 : wr.cell? ⟨gm, 9, none⟩ = some (.slice AP m1.P.length cP) := blk_cell hgm 9
      have uf9 : wr.frozen? ⟨gm, 9, none⟩ = false := blk_frozen hgm 9
      have u10 : wr.cell? ⟨gm, 10, none⟩ = some (.int .i64 m1.most) := blk_cell hgm 10
      have uf10 : wr.frozen? ⟨gm, 10, none⟩ = false := blk_frozen hgm 10
      have u11 : wr.cell? ⟨gm, 11, none⟩ = some (.slice AL m1.L.length cL) := blk_cell hgm 11
      have uf11 : wr.frozen? ⟨gm, 11, none⟩ = false := blk_frozen hgm 11
      have n3 : gm ≠ rc := Nat.ne_of_gt HGB.out.1
      have n4 : rc ≠ gm := Nat.ne_of_lt HGB.out.1
      clear hv hgm
      go_wp2_with fail
      (try simp only [Exit.inBlock, Exit.then])
      refine bodyPost_ret (results_ct rfl _ _ rc 29 #[.int .i64 m1.k, .int .u64 m1.s, .int .u64 m1.se, .int .u64 m1.a, .int .u64 m1.i, .int .u64 m1.n, .int .u64 m1.c, .int .i64 m1.why, .int .u64 m1.seed, .slice AP m1.P.length cP, .int .i64 m1.most, .slice AL m1.L.length cL] (0, 0) _ rfl (st12_blk HRCR.out _ _ _ _ _ _ _ _ _ _ _ _) Try.underlying29 (by rfl) (by kernel_rfl)) rfl ?_
      exact ⟨_, _, rfl, lsK1 HM2.out.P (st12_kept _ _ _ _ _ _ _ _ _ _ _ _ _ _) HRCR.out (by decide), lsK1 HM2.out.L (st12_kept _ _ _ _ _ _ _ _ _ _ _ _ _ _) HRCR.out (by decide), st12_bel HR2.out.bel (Nat.le_of_eq HNC.out.symm) _ _ _ _ _ _ _ _ _ _ _ _⟩
end Go.Proofs.Ytbfmbjkalldonaa.Msg
