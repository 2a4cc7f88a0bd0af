/- MsgAgain: what is read may be, and its load is the same; the walk; no condition but that bytes are bytes. -/
import Derived.Test.YtbfmbjkalldonaaMsLd
import Derived.Test.YtbfmbjkalldonaaMsPl
import Derived.Test.YtbfmbjkalldonaaProg
import Derived.Test.YtbfmbjkalldonaaLst2
import Derived.Test.YtbfmbjkalldonaaMsV
import Derived.Test.YtbfmbjkalldonaaPAx1
import Derived.Deep.QuietTactic
import Derived.BigQuiet
import Derived.BigRegion
import Derived.RegionTactic
import Derived.Deep.RegionHeld3
import Derived.Deep.RegionLaw
import Derived.WalkSpells
import Derived.LoopTactic
import Derived.Deep.LoopGhost
import Derived.Shelf.Abstract
import Derived.OwnWalk
namespace Go.Proofs.Ytbfmbjkalldonaa.Msg
set_option linter.unusedVariables false
set_option linter.unusedSimpArgs false
open Go.RowKit Go.Proofs.Ytbfmbjkalldonaa.PA Go.Proofs.YtbfmbjkalldonaaW.PrintWords Go.Proofs.YtbfmbjkalldonaaW.PrintLast Go.Proofs.YtbfmbjkalldonaaW.PrintMore Go.Proofs.Ytbfmbjkalldonaa.Base Go.Proofs.Ytbfmbjkalldonaa.Var Go.Proofs.Ytbfmbjkalldonaa.Lst
attribute [local go_sem] max2_int min2_int max_two min_two max_three min_three max_four min_four
def am : Ms := { Ms.nil with k := 3, s := 5 }
theorem am_u : am.U := by constructor <;> simp [am, Ms.nil, top]
theorem am_load : loadR am = ([3, 5], 0) := by
  have e1 : mayV am = true := by kernel_rfl
  have e2 : loadV am = [3, 5] := by
    unfold loadV
    rw [show (am.k :: (lettersV am.k).flatMap (wordsV am)) = [3, 5] from by kernel_rfl, flat_cons, flat_cons]
    rw [show (3 : Int).toNat = 3 from rfl, show (5 : Int).toNat = 5 from rfl, vb_small (by decide), vb_small (by decide)]; rfl
  unfold loadR
  rw [if_pos e1, e2]
theorem am_read : readV [3, 5] = (am, 0) := by kernel_rfl
set_option maxHeartbeats 16000000 in
set_option maxRecDepth 100000 in
theorem alive_c (w : World) : Calls Try.prog 8 #[] w fun e w' => e = .returned (.bool true) ∧ Below w.heap.size w w' := by
  have hu := Try.underlying29
  have HLD := Aside0.mk (show Calls Try.prog 11 #[.agg #[.int .i64 3, .int .u64 5, .int .u64 0, .int .u64 0, .int .u64 0, .int .u64 0, .int .u64 0, .int .i64 0, .int .u64 0, .slice none 0 0, .int .i64 0, .slice none 0 0]] w fun er w' => ∃ v, er = .returned (.tuple #[v, .int .i64 0]) ∧ Ls encB 5 w' w.heap.size v [3, 5] ∧ Below w.heap.size w w' from by
    have q := load_c w am am_u none none 0 0 (Nat.zero_le _) (Nat.zero_le _) (Nat.le_refl _) (Nat.le_refl _) (Kd.C_of_reads (enc := Value.int .i64) (d := (0 : Int)) (h1 := fun _ => rfl) ⟨rfl, Nat.zero_le _, fun h => absurd h (by decide)⟩) (Kd.C_of_reads (enc := Value.int .i64) (d := (0 : Int)) (h1 := fun _ => rfl) ⟨rfl, Nat.zero_le _, fun h => absurd h (by decide)⟩)
    rw [am_load] at q
    exact q)
  go_enter Try.func8, Try.ntmps8
  go_upto_region 3 with (first | (go_at_call 11; (with_reducible refine HLD.out.mono ?_); rintro er w4 ⟨v, rfl, hl, hb⟩; obtain ⟨A4, c4, rfl, _, _⟩ := hl.form; have HL4 := Aside0.mk hl; have HB4 := Aside0.mk hb; have HRD := Aside0.mk (show Calls Try.prog 9 #[.slice A4 2 c4] w4 (PostR w4 am 0) from read_c A4 c4 [3, 5] (by decide) (fun x hx => by simp at hx; omega) (C_of_ls hl).2.1 am 0 am_read w4 (C_of_ls hl).2.2); clear hl hb) | (go_at_call 9; (with_reducible refine HRD.out.mono ?_); rintro er w5 ⟨vP, vL, rfl, hP, hL, hb⟩; obtain ⟨AP, cP, rfl, _, _⟩ := hP.form; obtain ⟨AL, cL, rfl, _, _⟩ := hL.form; have HP5 := Aside0.mk hP; have HL5 := Aside0.mk hL; have HB5 := Aside0.mk hb; clear hP hL hb) | ((with_reducible refine gate_dst (N := 3) rfl ?_); refine box_event ?hg (N := 3) ?hd (cs := #[.int .i64 0, .int .u64 0, .int .u64 0, .int .u64 0, .int .u64 0, .int .u64 0, .int .u64 0, .int .i64 0, .int .u64 0, .slice none 0 0, .int .i64 0, .slice none 0 0]) (t := 29) ?hr ?_; (case hd => rfl); (case hg => rfl); (case hr => first | (go_simp; done) | (go_simp; rfl)); intro gm hgn w6 hbox hb; have HGgm := Aside0.mk hbox; have HBgm := Aside0.mk hb; have HNgm := Aside0.mk hgn; have u0 : w6.cell? ⟨gm, 0, none⟩ = some (.int .i64 0) := blk_cell hbox 0; have uf0 : w6.frozen? ⟨gm, 0, none⟩ = false := blk_frozen hbox 0; have u1 : w6.cell? ⟨gm, 1, none⟩ = some (.int .u64 0) := blk_cell hbox 1; have uf1 : w6.frozen? ⟨gm, 1, none⟩ = false := blk_frozen hbox 1; have u2 : w6.cell? ⟨gm, 2, none⟩ = some (.int .u64 0) := blk_cell hbox 2; have uf2 : w6.frozen? ⟨gm, 2, none⟩ = false := blk_frozen hbox 2; have u3 : w6.cell? ⟨gm, 3, none⟩ = some (.int .u64 0) := blk_cell hbox 3; have uf3 : w6.frozen? ⟨gm, 3, none⟩ = false := blk_frozen hbox 3; have u4 : w6.cell? ⟨gm, 4, none⟩ = some (.int .u64 0) := blk_cell hbox 4; have uf4 : w6.frozen? ⟨gm, 4, none⟩ = false := blk_frozen hbox 4; have u5 : w6.cell? ⟨gm, 5, none⟩ = some (.int .u64 0) := blk_cell hbox 5; have uf5 : w6.frozen? ⟨gm, 5, none⟩ = false := blk_frozen hbox 5; have u6 : w6.cell? ⟨gm, 6, none⟩ = some (.int .u64 0) := blk_cell hbox 6; have uf6 : w6.frozen? ⟨gm, 6, none⟩ = false := blk_frozen hbox 6; have u7 : w6.cell? ⟨gm, 7, none⟩ = some (.int .i64 0) := blk_cell hbox 7; have uf7 : w6.frozen? ⟨gm, 7, none⟩ = false := blk_frozen hbox 7; have u8 : w6.cell? ⟨gm, 8, none⟩ = some (.int .u64 0) := blk_cell hbox 8; have uf8 : w6.frozen? ⟨gm, 8, none⟩ = false := blk_frozen hbox 8; have u9 : w6.cell? ⟨gm, 9, none⟩ = some (.slice none 0 0) := blk_cell hbox 9; have uf9 : w6.frozen? ⟨gm, 9, none⟩ = false := blk_frozen hbox 9; have u10 : w6.cell? ⟨gm, 10, none⟩ = some (.int .i64 0) := blk_cell hbox 10; have uf10 : w6.frozen? ⟨gm, 10, none⟩ = false := blk_frozen hbox 10; have u11 : w6.cell? ⟨gm, 11, none⟩ = some (.slice none 0 0) := blk_cell hbox 11; have uf11 : w6.frozen? ⟨gm, 11, none⟩ = false := blk_frozen hbox 11; clear hbox hb hgn))
  obtain ⟨w9, hw9⟩ : ∃ w9, st12 w6 gm (.int .i64 am.k) (.int .u64 am.s) (.int .u64 am.se) (.int .u64 am.a) (.int .u64 am.i) (.int .u64 am.n) (.int .u64 am.c) (.int .i64 am.why) (.int .u64 am.seed) (.slice AP am.P.length cP) (.int .i64 am.most) (.slice AL am.L.length cL) = w9 := ⟨_, rfl⟩
  have hgm : w9.heap[gm]? = some (.cells #[.int .i64 am.k, .int .u64 am.s, .int .u64 am.se, .int .u64 am.a, .int .u64 am.i, .int .u64 am.n, .int .u64 am.c, .int .i64 am.why, .int .u64 am.seed, .slice AP am.P.length cP, .int .i64 am.most, .slice AL am.L.length cL] 29 (0, 0)) := by rw [← hw9]; exact st12_blk HGgm.out _ _ _ _ _ _ _ _ _ _ _ _
  have hb6 : Below w4.heap.size w4 w6 := below_step HB5.out HBgm.out
  have hb9 : Below w4.heap.size w4 w9 := by rw [← hw9]; exact st12_bel hb6 (by rw [HNgm.out]; exact HB5.out.size) _ _ _ _ _ _ _ _ _ _ _ _
  have hP6 := HP5.out.below HBgm.out
  have hL6 := HL5.out.below HBgm.out
  have hP9 : Ls encI 3 w9 w4.heap.size (.slice AP am.P.length cP) am.P := by rw [← hw9]; exact lsK1 hP6 (st12_kept w6 gm _ _ _ _ _ _ _ _ _ _ _ _) HGgm.out (by decide)
  have hL9 : Ls encI 3 w9 w4.heap.size (.slice AL am.L.length cL) am.L := by rw [← hw9]; exact lsK1 hL6 (st12_kept w6 gm _ _ _ _ _ _ _ _ _ _ _ _) HGgm.out (by decide)
  have g0 : (convert 22 9 (.slice A4 2 c4)).run Try.prog w9 = .ok (.string ⟨#[3, 5]⟩) w9 := by
    have hl9 : Ls encB 5 w9 w.heap.size (.slice A4 2 c4) [3, 5] := by
      have q := (HL4.out.below HB5.out).below HBgm.out
      rw [← hw9]
      exact lsK q (st12_kept w6 gm _ _ _ _ _ _ _ _ _ _ _ _) fun k hk e' => (q.ne HGgm.out (by decide)) (by rw [← e']; exact hk.symm)
    have q := Kd.C_string (c := c4) Try.underlying22 Try.underlying5 Try.underlying9 (C_of_ls hl9).2.2
    rw [show strOfNums [3, 5] = (⟨#[3, 5]⟩ : ByteArray) from by kernel_rfl] at q
    exact q
  have y0 : w9.cell? ⟨gm, 0, none⟩ = some (.int .i64 3) := blk_cell hgm 0
  have y1 : w9.cell? ⟨gm, 1, none⟩ = some (.int .u64 5) := blk_cell hgm 1
  have HZ := Aside0.mk (below_step HB4.out hb9)
  unfold st12 at hw9
  have hw9 : _ = w9 := hw9
  rw [hw9]
  clear hw9 hgm hb6 hb9 hP6 hL6 hP9 hL9 u0 uf0 u1 uf1 u2 uf2 u3 uf3 u4 uf4 u5 uf5 u6 uf6 u7 uf7 u8 uf8 u9 uf9 u10 uf10 u11 uf11
  go_wp2_with fail
  go_ret
  exact ⟨rfl, HZ.out⟩
theorem same_self (m : Ms) : sameV m m = true := by
  unfold sameV
  simp
set_option maxHeartbeats 16000000 in
set_option maxRecDepth 100000 in
theorem again_law (A0 : Option Addr) (c0 : Nat) (l : List Int) (w : World) (hb : Kd.C (Kd.int .u8) w A0 l.length l) (hc0 : l.length ≤ c0) (hbs : Bytes l) : Calls Try.prog 3 #[.slice A0 l.length c0] w fun e w' => e = .returned (.bool true) ∧ Below w.heap.size w w' := by
  have hu := Try.underlying29
  have HALIVE := Aside0.mk alive_c
  by_cases hlong : 2000 < l.length
  · have d0 : decide ((2000 : Int) < (l.length : Int)) = true := decide_eq_true (by omega)
    have d0' : decide (2000 < l.length) = true := decide_eq_true hlong
    clear hb hc0 hbs hlong
    go_enter Try.func3, Try.ntmps3
    go_wp2_with (first | (go_at_call 8; (with_reducible refine (HALIVE.out _).mono ?_); rintro er w19 ⟨rfl, hb⟩; have HBA := Aside0.mk hb; clear hb))
    go_ret
    exact ⟨rfl, HBA.out⟩
  have d0 : decide ((2000 : Int) < (l.length : Int)) = false := decide_eq_false (by omega)
  have d0' : decide (2000 < l.length) = false := decide_eq_false hlong
  rcases hr : readV l with ⟨m, e⟩
  have hin := read_in hbs hr
  have HRD := Aside0.mk (read_c A0 c0 l (by omega) hbs hc0 m e hr w hb)
  have HBC := Aside0.mk hb; have HBS := Aside0.mk hbs; have HIN := Aside0.mk hin; have HR := Aside0.mk hr
  clear hb hc0 hbs hlong hin hr
  by_cases he : e = 0
  · subst he
    go_enter Try.func3, Try.ntmps3
    go_upto_region 6 with (first | (go_at_call 9; (with_reducible refine HRD.out.mono ?_); rintro er w5 ⟨vP, vL, rfl, hP, hL, hb⟩; obtain ⟨AP, cP, rfl, _, _⟩ := hP.form; obtain ⟨AL, cL, rfl, _, _⟩ := hL.form; have HP5 := Aside0.mk hP; have HL5 := Aside0.mk hL; have HB5 := Aside0.mk hb; clear hP hL hb) | ((with_reducible refine gate_dst (N := 3) rfl ?_); refine box_event ?hg (N := 3) ?hd (cs := #[.int .i64 0, .int .u64 0, .int .u64 0, .int .u64 0, .int .u64 0, .int .u64 0, .int .u64 0, .int .i64 0, .int .u64 0, .slice none 0 0, .int .i64 0, .slice none 0 0]) (t := 29) ?hr ?_; (case hd => rfl); (case hg => rfl); (case hr => first | (go_simp; done) | (go_simp; rfl)); intro gm hgn w6 hbox hb; have HGgm := Aside0.mk hbox; have HBgm := Aside0.mk hb; have HNgm := Aside0.mk hgn; have u0 : w6.cell? ⟨gm, 0, none⟩ = some (.int .i64 0) := blk_cell hbox 0; have uf0 : w6.frozen? ⟨gm, 0, none⟩ = false := blk_frozen hbox 0; have u1 : w6.cell? ⟨gm, 1, none⟩ = some (.int .u64 0) := blk_cell hbox 1; have uf1 : w6.frozen? ⟨gm, 1, none⟩ = false := blk_frozen hbox 1; have u2 : w6.cell? ⟨gm, 2, none⟩ = some (.int .u64 0) := blk_cell hbox 2; have uf2 : w6.frozen? ⟨gm, 2, none⟩ = false := blk_frozen hbox 2; have u3 : w6.cell? ⟨gm, 3, none⟩ = some (.int .u64 0) := blk_cell hbox 3; have uf3 : w6.frozen? ⟨gm, 3, none⟩ = false := blk_frozen hbox 3; have u4 : w6.cell? ⟨gm, 4, none⟩ = some (.int .u64 0) := blk_cell hbox 4; have uf4 : w6.frozen? ⟨gm, 4, none⟩ = false := blk_frozen hbox 4; have u5 : w6.cell? ⟨gm, 5, none⟩ = some (.int .u64 0) := blk_cell hbox 5; have uf5 : w6.frozen? ⟨gm, 5, none⟩ = false := blk_frozen hbox 5; have u6 : w6.cell? ⟨gm, 6, none⟩ = some (.int .u64 0) := blk_cell hbox 6; have uf6 : w6.frozen? ⟨gm, 6, none⟩ = false := blk_frozen hbox 6; have u7 : w6.cell? ⟨gm, 7, none⟩ = some (.int .i64 0) := blk_cell hbox 7; have uf7 : w6.frozen? ⟨gm, 7, none⟩ = false := blk_frozen hbox 7; have u8 : w6.cell? ⟨gm, 8, none⟩ = some (.int .u64 0) := blk_cell hbox 8; have uf8 : w6.frozen? ⟨gm, 8, none⟩ = false := blk_frozen hbox 8; have u9 : w6.cell? ⟨gm, 9, none⟩ = some (.slice none 0 0) := blk_cell hbox 9; have uf9 : w6.frozen? ⟨gm, 9, none⟩ = false := blk_frozen hbox 9; have u10 : w6.cell? ⟨gm, 10, none⟩ = some (.int .i64 0) := blk_cell hbox 10; have uf10 : w6.frozen? ⟨gm, 10, none⟩ = false := blk_frozen hbox 10; have u11 : w6.cell? ⟨gm, 11, none⟩ = some (.slice none 0 0) := blk_cell hbox 11; have uf11 : w6.frozen? ⟨gm, 11, none⟩ = false := blk_frozen hbox 11; clear hbox hb hgn))
    obtain ⟨w9, hw9⟩ : ∃ w9, st12 w6 gm (.int .i64 m.k) (.int .u64 m.s) (.int .u64 m.se) (.int .u64 m.a) (.int .u64 m.i) (.int .u64 m.n) (.int .u64 m.c) (.int .i64 m.why) (.int .u64 m.seed) (.slice AP m.P.length cP) (.int .i64 m.most) (.slice AL m.L.length cL) = w9 := ⟨_, rfl⟩
    have hgm : w9.heap[gm]? = some (.cells #[.int .i64 m.k, .int .u64 m.s, .int .u64 m.se, .int .u64 m.a, .int .u64 m.i, .int .u64 m.n, .int .u64 m.c, .int .i64 m.why, .int .u64 m.seed, .slice AP m.P.length cP, .int .i64 m.most, .slice AL m.L.length cL] 29 (0, 0)) := by rw [← hw9]; exact st12_blk HGgm.out _ _ _ _ _ _ _ _ _ _ _ _
    have hb6 : Below w.heap.size w w6 := below_step HB5.out HBgm.out
    have hb9 : Below w.heap.size w w9 := by rw [← hw9]; exact st12_bel hb6 (by rw [HNgm.out]; exact HB5.out.size) _ _ _ _ _ _ _ _ _ _ _ _
    have hP6 := HP5.out.below HBgm.out
    have hL6 := HL5.out.below HBgm.out
    have hP9 : Ls encI 3 w9 w.heap.size (.slice AP m.P.length cP) m.P := by rw [← hw9]; exact lsK1 hP6 (st12_kept w6 gm _ _ _ _ _ _ _ _ _ _ _ _) HGgm.out (by decide)
    have hL9 : Ls encI 3 w9 w.heap.size (.slice AL m.L.length cL) m.L := by rw [← hw9]; exact lsK1 hL6 (st12_kept w6 gm _ _ _ _ _ _ _ _ _ _ _ _) HGgm.out (by decide)
    have z0 : w9.cell? ⟨gm, 0, none⟩ = some (.int .i64 m.k) := blk_cell hgm 0
    have zf0 : w9.frozen? ⟨gm, 0, none⟩ = false := blk_frozen hgm 0
    have z1 : w9.cell? ⟨gm, 1, none⟩ = some (.int .u64 m.s) := blk_cell hgm 1
    have zf1 : w9.frozen? ⟨gm, 1, none⟩ = false := blk_frozen hgm 1
    have z2 : w9.cell? ⟨gm, 2, none⟩ = some (.int .u64 m.se) := blk_cell hgm 2
    have zf2 : w9.frozen? ⟨gm, 2, none⟩ = false := blk_frozen hgm 2
    have z3 : w9.cell? ⟨gm, 3, none⟩ = some (.int .u64 m.a) := blk_cell hgm 3
    have zf3 : w9.frozen? ⟨gm, 3, none⟩ = false := blk_frozen hgm 3
    have z4 : w9.cell? ⟨gm, 4, none⟩ = some (.int .u64 m.i) := blk_cell hgm 4
    have zf4 : w9.frozen? ⟨gm, 4, none⟩ = false := blk_frozen hgm 4
    have z5 : w9.cell? ⟨gm, 5, none⟩ = some (.int .u64 m.n) := blk_cell hgm 5
    have zf5 : w9.frozen? ⟨gm, 5, none⟩ = false := blk_frozen hgm 5
    have z6 : w9.cell? ⟨gm, 6, none⟩ = some (.int .u64 m.c) := blk_cell hgm 6
    have zf6 : w9.frozen? ⟨gm, 6, none⟩ = false := blk_frozen hgm 6
    have z7 : w9.cell? ⟨gm, 7, none⟩ = some (.int .i64 m.why) := blk_cell hgm 7
    have zf7 : w9.frozen? ⟨gm, 7, none⟩ = false := blk_frozen hgm 7
    have z8 : w9.cell? ⟨gm, 8, none⟩ = some (.int .u64 m.seed) := blk_cell hgm 8
    have zf8 : w9.frozen? ⟨gm, 8, none⟩ = false := blk_frozen hgm 8
    have z9 : w9.cell? ⟨gm, 9, none⟩ = some (.slice AP m.P.length cP) := blk_cell hgm 9
    have zf9 : w9.frozen? ⟨gm, 9, none⟩ = false := blk_frozen hgm 9
    have z10 : w9.cell? ⟨gm, 10, none⟩ = some (.int .i64 m.most) := blk_cell hgm 10
    have zf10 : w9.frozen? ⟨gm, 10, none⟩ = false := blk_frozen hgm 10
    have z11 : w9.cell? ⟨gm, 11, none⟩ = some (.slice AL m.L.length cL) := blk_cell hgm 11
    have zf11 : w9.frozen? ⟨gm, 11, none⟩ = false := blk_frozen hgm 11
    have HSR := Aside0.mk (show ∀ W, Below w9.heap.size w9 W → (Kd.C (Kd.int .i64) W AP m.P.length m.P ∧ m.P.length ≤ cP) ∧ Kd.C (Kd.int .i64) W AL m.L.length m.L ∧ m.L.length ≤ cL from fun W hw => ⟨⟨Kd.C_below (C_of_li hP9).2.2 hw, (C_of_li hP9).2.1⟩, Kd.C_below (C_of_li hL9).2.2 hw, (C_of_li hL9).2.1⟩)
    have HZ := Aside0.mk hb9
    have HGM := Aside0.mk hgm
    have hag := again_plain HBS.out HR.out
    have hlr : loadR m = (l, 0) := by unfold loadR; rw [if_pos hag.1, hag.2]
    have HLD := Aside0.mk (show Calls Try.prog 11 #[.agg #[.int .i64 m.k, .int .u64 m.s, .int .u64 m.se, .int .u64 m.a, .int .u64 m.i, .int .u64 m.n, .int .u64 m.c, .int .i64 m.why, .int .u64 m.seed, .slice AP m.P.length cP, .int .i64 m.most, .slice AL m.L.length cL]] w9 fun er w' => ∃ v, er = .returned (.tuple #[v, .int .i64 0]) ∧ Ls encB 5 w' w9.heap.size v l ∧ Below w9.heap.size w9 w' from by
      have h1 := HSR.out w9 (Below.refl _ _)
      have q := load_c w9 m HIN.out.1.u AP AL cP cL (by have := HIN.out.1.P.2; omega) (by have := HIN.out.1.L.2; omega) h1.1.2 h1.2.2 h1.1.1 h1.2.1
      rw [hlr] at q
      exact q)
    have HMAY := Aside0.mk (show ∀ W, Below w9.heap.size w9 W → Calls Try.prog 12 #[.agg #[.int .i64 m.k, .int .u64 m.s, .int .u64 m.se, .int .u64 m.a, .int .u64 m.i, .int .u64 m.n, .int .u64 m.c, .int .i64 m.why, .int .u64 m.seed, .slice AP m.P.length cP, .int .i64 m.most, .slice AL m.L.length cL]] W fun er w' => er = .returned (.bool true) ∧ Below W.heap.size W w' from fun W hw => by
      have h1 := HSR.out W hw
      have q := may_c W m AP AL cP cL (by have := HIN.out.1.P.2; omega) (by have := HIN.out.1.L.2; omega) h1.1.2 h1.2.2 h1.1.1 h1.2.1
      rw [hag.1] at q
      exact q)
    unfold st12 at hw9
    rw [hw9]
    clear hw9 hgm hb6 hb9 hP6 hL6 hP9 hL9 hag hlr u0 uf0 u1 uf1 u2 uf2 u3 uf3 u4 uf4 u5 uf5 u6 uf6 u7 uf7 u8 uf8 u9 uf9 u10 uf10 u11 uf11
    go_wp2_with (first | (go_at_call 11; (with_reducible refine HLD.out.mono ?_); rintro er w4 ⟨v, rfl, hl, hb⟩; obtain ⟨A4, c4, rfl, _, _⟩ := hl.form; have HL4 := Aside0.mk hl; have HB4 := Aside0.mk hb; have hg4 := blk_below HGM.out hb; have y0 : w4.cell? ⟨gm, 0, none⟩ = some (.int .i64 m.k) := blk_cell hg4 0; have y1 : w4.cell? ⟨gm, 1, none⟩ = some (.int .u64 m.s) := blk_cell hg4 1; have y2 : w4.cell? ⟨gm, 2, none⟩ = some (.int .u64 m.se) := blk_cell hg4 2; have y3 : w4.cell? ⟨gm, 3, none⟩ = some (.int .u64 m.a) := blk_cell hg4 3; have y4 : w4.cell? ⟨gm, 4, none⟩ = some (.int .u64 m.i) := blk_cell hg4 4; have y5 : w4.cell? ⟨gm, 5, none⟩ = some (.int .u64 m.n) := blk_cell hg4 5; have y6 : w4.cell? ⟨gm, 6, none⟩ = some (.int .u64 m.c) := blk_cell hg4 6; have y7 : w4.cell? ⟨gm, 7, none⟩ = some (.int .i64 m.why) := blk_cell hg4 7; have y8 : w4.cell? ⟨gm, 8, none⟩ = some (.int .u64 m.seed) := blk_cell hg4 8; have y9 : w4.cell? ⟨gm, 9, none⟩ = some (.slice AP m.P.length cP) := blk_cell hg4 9; have y10 : w4.cell? ⟨gm, 10, none⟩ = some (.int .i64 m.most) := blk_cell hg4 10; have y11 : w4.cell? ⟨gm, 11, none⟩ = some (.slice AL m.L.length cL) := blk_cell hg4 11; clear hl hb hg4) | (go_at_call 12; (with_reducible refine (HMAY.out _ HB4.out).mono ?_); rintro er w7 ⟨rfl, hb⟩; have HB7 := Aside0.mk hb; have hl7 := HL4.out.below hb; have g0 : (convert 22 9 (.slice A4 l.length c4)).run Try.prog w7 = .ok (.string (strOfNums l)) w7 := Kd.C_string Try.underlying22 Try.underlying5 Try.underlying9 (C_of_ls hl7).2.2; have g1 : (convert 22 9 (.slice A0 l.length c0)).run Try.prog w7 = .ok (.string (strOfNums l)) w7 := Kd.C_string Try.underlying22 Try.underlying5 Try.underlying9 (Kd.C_below HBC.out (below_step (below_step HZ.out HB4.out) hb)); have ff : ((strOfNums l).toList == (strOfNums l).toList) = true := (by simp); clear hb hl7) | (go_at_call 8; (with_reducible refine (HALIVE.out _).mono ?_); rintro er w19 ⟨rfl, hb⟩; have HBA := Aside0.mk hb; clear hb))
    go_ret
    exact ⟨rfl, below_step (below_step (below_step HZ.out HB4.out) HB7.out) HBA.out⟩
  · have q1 : (e != 0) = true := by simpa using he
    obtain rfl := HIN.out.2 he
    clear he
    go_enter Try.func3, Try.ntmps3
    go_upto_region 5 with (first | (go_at_call 9; (with_reducible refine HRD.out.mono ?_); rintro er w5 ⟨vP, vL, rfl, hP, hL, hb⟩; obtain ⟨AP, cP, rfl, _, _⟩ := hP.form; obtain ⟨AL, cL, rfl, _, _⟩ := hL.form; have HP5 := Aside0.mk hP; have HL5 := Aside0.mk hL; have HB5 := Aside0.mk hb; clear hP hL hb) | ((with_reducible refine gate_dst (N := 3) rfl ?_); refine box_event ?hg (N := 3) ?hd (cs := #[.int .i64 0, .int .u64 0, .int .u64 0, .int .u64 0, .int .u64 0, .int .u64 0, .int .u64 0, .int .i64 0, .int .u64 0, .slice none 0 0, .int .i64 0, .slice none 0 0]) (t := 29) ?hr ?_; (case hd => rfl); (case hg => rfl); (case hr => first | (go_simp; done) | (go_simp; rfl)); intro gm hgn w6 hbox hb; have HGgm := Aside0.mk hbox; have HBgm := Aside0.mk hb; have HNgm := Aside0.mk hgn; have u0 : w6.cell? ⟨gm, 0, none⟩ = some (.int .i64 0) := blk_cell hbox 0; have uf0 : w6.frozen? ⟨gm, 0, none⟩ = false := blk_frozen hbox 0; have u1 : w6.cell? ⟨gm, 1, none⟩ = some (.int .u64 0) := blk_cell hbox 1; have uf1 : w6.frozen? ⟨gm, 1, none⟩ = false := blk_frozen hbox 1; have u2 : w6.cell? ⟨gm, 2, none⟩ = some (.int .u64 0) := blk_cell hbox 2; have uf2 : w6.frozen? ⟨gm, 2, none⟩ = false := blk_frozen hbox 2; have u3 : w6.cell? ⟨gm, 3, none⟩ = some (.int .u64 0) := blk_cell hbox 3; have uf3 : w6.frozen? ⟨gm, 3, none⟩ = false := blk_frozen hbox 3; have u4 : w6.cell? ⟨gm, 4, none⟩ = some (.int .u64 0) := blk_cell hbox 4; have uf4 : w6.frozen? ⟨gm, 4, none⟩ = false := blk_frozen hbox 4; have u5 : w6.cell? ⟨gm, 5, none⟩ = some (.int .u64 0) := blk_cell hbox 5; have uf5 : w6.frozen? ⟨gm, 5, none⟩ = false := blk_frozen hbox 5; have u6 : w6.cell? ⟨gm, 6, none⟩ = some (.int .u64 0) := blk_cell hbox 6; have uf6 : w6.frozen? ⟨gm, 6, none⟩ = false := blk_frozen hbox 6; have u7 : w6.cell? ⟨gm, 7, none⟩ = some (.int .i64 0) := blk_cell hbox 7; have uf7 : w6.frozen? ⟨gm, 7, none⟩ = false := blk_frozen hbox 7; have u8 : w6.cell? ⟨gm, 8, none⟩ = some (.int .u64 0) := blk_cell hbox 8; have uf8 : w6.frozen? ⟨gm, 8, none⟩ = false := blk_frozen hbox 8; have u9 : w6.cell? ⟨gm, 9, none⟩ = some (.slice none 0 0) := blk_cell hbox 9; have uf9 : w6.frozen? ⟨gm, 9, none⟩ = false := blk_frozen hbox 9; have u10 : w6.cell? ⟨gm, 10, none⟩ = some (.int .i64 0) := blk_cell hbox 10; have uf10 : w6.frozen? ⟨gm, 10, none⟩ = false := blk_frozen hbox 10; have u11 : w6.cell? ⟨gm, 11, none⟩ = some (.slice none 0 0) := blk_cell hbox 11; have uf11 : w6.frozen? ⟨gm, 11, none⟩ = false := blk_frozen hbox 11; clear hbox hb hgn))
    obtain ⟨w9, hw9⟩ : ∃ w9, st12 w6 gm (.int .i64 Ms.nil.k) (.int .u64 Ms.nil.s) (.int .u64 Ms.nil.se) (.int .u64 Ms.nil.a) (.int .u64 Ms.nil.i) (.int .u64 Ms.nil.n) (.int .u64 Ms.nil.c) (.int .i64 Ms.nil.why) (.int .u64 Ms.nil.seed) (.slice AP Ms.nil.P.length cP) (.int .i64 Ms.nil.most) (.slice AL Ms.nil.L.length cL) = w9 := ⟨_, rfl⟩
    have hgm : w9.heap[gm]? = some (.cells #[.int .i64 Ms.nil.k, .int .u64 Ms.nil.s, .int .u64 Ms.nil.se, .int .u64 Ms.nil.a, .int .u64 Ms.nil.i, .int .u64 Ms.nil.n, .int .u64 Ms.nil.c, .int .i64 Ms.nil.why, .int .u64 Ms.nil.seed, .slice AP Ms.nil.P.length cP, .int .i64 Ms.nil.most, .slice AL Ms.nil.L.length cL] 29 (0, 0)) := by rw [← hw9]; exact st12_blk HGgm.out _ _ _ _ _ _ _ _ _ _ _ _
    have hb6 : Below w.heap.size w w6 := below_step HB5.out HBgm.out
    have hb9 : Below w.heap.size w w9 := by rw [← hw9]; exact st12_bel hb6 (by rw [HNgm.out]; exact HB5.out.size) _ _ _ _ _ _ _ _ _ _ _ _
    have hP6 := HP5.out.below HBgm.out
    have hL6 := HL5.out.below HBgm.out
    have hP9 : Ls encI 3 w9 w.heap.size (.slice AP Ms.nil.P.length cP) Ms.nil.P := by rw [← hw9]; exact lsK1 hP6 (st12_kept w6 gm _ _ _ _ _ _ _ _ _ _ _ _) HGgm.out (by decide)
    have hL9 : Ls encI 3 w9 w.heap.size (.slice AL Ms.nil.L.length cL) Ms.nil.L := by rw [← hw9]; exact lsK1 hL6 (st12_kept w6 gm _ _ _ _ _ _ _ _ _ _ _ _) HGgm.out (by decide)
    have z0 : w9.cell? ⟨gm, 0, none⟩ = some (.int .i64 0) := blk_cell hgm 0
    have zf0 : w9.frozen? ⟨gm, 0, none⟩ = false := blk_frozen hgm 0
    have z1 : w9.cell? ⟨gm, 1, none⟩ = some (.int .u64 0) := blk_cell hgm 1
    have zf1 : w9.frozen? ⟨gm, 1, none⟩ = false := blk_frozen hgm 1
    have z2 : w9.cell? ⟨gm, 2, none⟩ = some (.int .u64 0) := blk_cell hgm 2
    have zf2 : w9.frozen? ⟨gm, 2, none⟩ = false := blk_frozen hgm 2
    have z3 : w9.cell? ⟨gm, 3, none⟩ = some (.int .u64 0) := blk_cell hgm 3
    have zf3 : w9.frozen? ⟨gm, 3, none⟩ = false := blk_frozen hgm 3
    have z4 : w9.cell? ⟨gm, 4, none⟩ = some (.int .u64 0) := blk_cell hgm 4
    have zf4 : w9.frozen? ⟨gm, 4, none⟩ = false := blk_frozen hgm 4
    have z5 : w9.cell? ⟨gm, 5, none⟩ = some (.int .u64 0) := blk_cell hgm 5
    have zf5 : w9.frozen? ⟨gm, 5, none⟩ = false := blk_frozen hgm 5
    have z6 : w9.cell? ⟨gm, 6, none⟩ = some (.int .u64 0) := blk_cell hgm 6
    have zf6 : w9.frozen? ⟨gm, 6, none⟩ = false := blk_frozen hgm 6
    have z7 : w9.cell? ⟨gm, 7, none⟩ = some (.int .i64 0) := blk_cell hgm 7
    have zf7 : w9.frozen? ⟨gm, 7, none⟩ = false := blk_frozen hgm 7
    have z8 : w9.cell? ⟨gm, 8, none⟩ = some (.int .u64 0) := blk_cell hgm 8
    have zf8 : w9.frozen? ⟨gm, 8, none⟩ = false := blk_frozen hgm 8
    have z9 : w9.cell? ⟨gm, 9, none⟩ = some (.slice AP 0 cP) := blk_cell hgm 9
    have zf9 : w9.frozen? ⟨gm, 9, none⟩ = false := blk_frozen hgm 9
    have z10 : w9.cell? ⟨gm, 10, none⟩ = some (.int .i64 0) := blk_cell hgm 10
    have zf10 : w9.frozen? ⟨gm, 10, none⟩ = false := blk_frozen hgm 10
    have z11 : w9.cell? ⟨gm, 11, none⟩ = some (.slice AL 0 cL) := blk_cell hgm 11
    have zf11 : w9.frozen? ⟨gm, 11, none⟩ = false := blk_frozen hgm 11
    have HZ := Aside0.mk hb9
    have HSAME := Aside0.mk (show Calls Try.prog 10 #[.agg #[.int .i64 0, .int .u64 0, .int .u64 0, .int .u64 0, .int .u64 0, .int .u64 0, .int .u64 0, .int .i64 0, .int .u64 0, .slice AP 0 cP, .int .i64 0, .slice AL 0 cL], .agg #[.int .i64 0, .int .u64 0, .int .u64 0, .int .u64 0, .int .u64 0, .int .u64 0, .int .u64 0, .int .i64 0, .int .u64 0, .slice none 0 0, .int .i64 0, .slice none 0 0]] w9 fun er w' => er = .returned (.bool true) ∧ Below w9.heap.size w9 w' from by
      have q := same_c w9 Ms.nil Ms.nil AP AL none none cP cL 0 0 (Nat.zero_le _) (Nat.zero_le _) (C_of_li hP9).2.1 (C_of_li hL9).2.1 (C_of_li hP9).2.2 (C_of_li hL9).2.2 (Nat.le_refl _) (Nat.le_refl _) (Kd.C_of_reads (enc := Value.int .i64) (d := (0 : Int)) (h1 := fun _ => rfl) ⟨rfl, Nat.zero_le _, fun h => absurd h (by decide)⟩) (Kd.C_of_reads (enc := Value.int .i64) (d := (0 : Int)) (h1 := fun _ => rfl) ⟨rfl, Nat.zero_le _, fun h => absurd h (by decide)⟩)
      rw [same_self] at q
      exact q)
    unfold st12 at hw9
    have hw9 : _ = w9 := hw9
    rw [hw9]
    clear hw9 hgm hb6 hb9 hP6 hL6 hP9 hL9 u0 uf0 u1 uf1 u2 uf2 u3 uf3 u4 uf4 u5 uf5 u6 uf6 u7 uf7 u8 uf8 u9 uf9 u10 uf10 u11 uf11
    go_wp2_with (first | (go_at_call 10; (with_reducible refine HSAME.out.mono ?_); rintro er w7 ⟨rfl, hb⟩; have HB7 := Aside0.mk hb; clear hb) | (go_at_call 8; (with_reducible refine (HALIVE.out _).mono ?_); rintro er w19 ⟨rfl, hb⟩; have HBA := Aside0.mk hb; clear hb))
    go_ret
    exact ⟨rfl, below_step (below_step HZ.out HB7.out) HBA.out⟩
end Go.Proofs.Ytbfmbjkalldonaa.Msg
