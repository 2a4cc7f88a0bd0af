/- MsY3: joined texts of msg at its document, for MsgReads; no condition but those that stand in each. -/
import Derived.Test.YtbfmbjkalldonaaMsY2
import Derived.Test.YtbfmbjkalldonaaPAx30
import Derived.Test.YtbfmbjkalldonaaProg
import Derived.Test.YtbfmbjkalldonaaPAx1
import Derived.Deep.QuietTactic
import Derived.BigQuiet
import Derived.BigRegion
import Derived.RegionTactic
import Derived.Deep.RegionHeld3
import Derived.Deep.RegionLaw
import Derived.WalkSpells
import Derived.LoopTactic
import Derived.Deep.LoopGhost
import Derived.Shelf.Abstract
import Derived.OwnWalk
import Derived.Test.YtbfmbjkalldonaaPAx10
namespace Go.Proofs.Ytbfmbjkalldonaa.Msg
set_option linter.unusedVariables false
set_option linter.unusedSimpArgs false
open Go.RowKit Go.Proofs.Ytbfmbjkalldonaa.PA Go.Proofs.YtbfmbjkalldonaaW.PrintWords Go.Proofs.YtbfmbjkalldonaaW.PrintLast Go.Proofs.YtbfmbjkalldonaaW.PrintMore Go.Proofs.Ytbfmbjkalldonaa.Base Go.Proofs.Ytbfmbjkalldonaa.Var Go.Proofs.Ytbfmbjkalldonaa.Lst
attribute [local go_sem] max2_int min2_int max_two min_two max_three min_three max_four min_four
set_option maxHeartbeats 8000000 in
theorem num_c_r (w0 w : World) (gr : Nat) (b : List Int) (hbs : Bytes b) (hl : b.length ≤ 100000) (e most x : Int) (b' : List Int) (e' : Int) (hv : numV b e most = (x, b', e')) (h : Rd w0 w 73 gr b e) :
    Calls Try.prog 42 #[.pointer (some ⟨gr, 0, none⟩), .int .u64 most] w fun er w' => er = .returned (.int .u64 x) ∧ Rd w0 w' 73 gr b' e' ∧ Kept w w' (fun i => i = gr) := by
  have HR := Aside0.mk h
  obtain ⟨⟨A, c, hg, hC, hc⟩, hge, hbl⟩ := h
  have HGR := Aside0.mk hg; have HC := Aside0.mk hC; have HCC := Aside0.mk hc; have HGE := Aside0.mk hge; have HBL := Aside0.mk hbl
  have hu := Try.underlying73
  have k0 : w.cell? ⟨gr, 0, none⟩ = some (.slice A b.length c) := blk_cell hg 0
  have k1 : w.cell? ⟨gr, 1, none⟩ = some (.int .i64 e) := blk_cell hg 1
  have f0 := blk_frozen hg 0
  have f1 := blk_frozen hg 1
  unfold numV at hv
  by_cases h0 : e = 0
  rotate_left
  · rw [if_neg h0] at hv
    simp only [Prod.mk.injEq] at hv
    obtain ⟨rfl, rfl, rfl⟩ := hv
    have q1 : (e != 0) = true := by simpa using h0
    clear h0 hg hC hc hge hbl
    go_enter Try.func42, Try.ntmps42
    go_wp2_with fail
    go_ret
    exact ⟨rfl, HR.out, Kept.refl _ _⟩
  subst h0
  rw [if_pos rfl] at hv
  rcases hgt : gt 0 0 b with ⟨n, k, e1⟩
  rw [hgt] at hv
  dsimp only at hv
  obtain ⟨K, hK⟩ := rget_ev b (by omega) hbs
  have hf := hK K (Nat.le_refl K)
  rw [hgt] at hf
  have HG := Aside0.mk (garboardref02_Get.calls K A c b n k e1 w (Kd.C_below hC hbl) hc hf)
  by_cases h1 : e1 = 0
  rotate_left
  · rw [if_neg h1] at hv
    simp only [Prod.mk.injEq] at hv
    obtain ⟨rfl, rfl, rfl⟩ := hv
    have q1 : (e1 != 0) = true := by simpa using h1
    clear h1 hg hC hc hge hbl hgt hK hf
    go_enter Try.func42, Try.ntmps42
    go_wp2_with (first | (go_at_call 58; (with_reducible refine HG.out.mono ?_); rintro e9 w9 ⟨rfl, hdr⟩; obtain ⟨nd, rfl⟩ := hdr; have j0 : (World.drewN w nd).cell? ⟨gr, 0, none⟩ = some (.slice A b.length c) := k0; have j1 : (World.drewN w nd).cell? ⟨gr, 1, none⟩ = some (.int .i64 0) := k1; have z0 : (World.drewN w nd).frozen? ⟨gr, 0, none⟩ = false := f0; have z1 : (World.drewN w nd).frozen? ⟨gr, 1, none⟩ = false := f1))
    go_ret
    exact ⟨rfl, ⟨⟨A, c, blk_set (blk_drewN HGR.out nd) 1 _, HC.out, HCC.out⟩, HGE.out, below_set (pw_below_drewN HBL.out nd) HGE.out⟩, kept_set (F := fun i => i = gr) (kept_drewN nd) rfl 1 _⟩
  subst h1
  rw [if_pos rfl] at hv
  obtain ⟨g1, g2, g3, g4⟩ := gt_bd hbs hgt rfl
  by_cases h2 : n > most
  · rw [if_pos h2] at hv
    simp only [Prod.mk.injEq] at hv
    obtain ⟨rfl, rfl, rfl⟩ := hv
    have q1 : decide (most < n) = true := decide_eq_true h2
    clear h2 hg hC hc hge hbl hgt hK hf g1 g2 g3 g4
    go_enter Try.func42, Try.ntmps42
    go_wp2_with (first | (go_at_call 58; (with_reducible refine HG.out.mono ?_); rintro e9 w9 ⟨rfl, hdr⟩; obtain ⟨nd, rfl⟩ := hdr; have j0 : (World.drewN w nd).cell? ⟨gr, 0, none⟩ = some (.slice A b.length c) := k0; have j1 : (World.drewN w nd).cell? ⟨gr, 1, none⟩ = some (.int .i64 0) := k1; have z0 : (World.drewN w nd).frozen? ⟨gr, 0, none⟩ = false := f0; have z1 : (World.drewN w nd).frozen? ⟨gr, 1, none⟩ = false := f1))
    go_ret
    exact ⟨rfl, ⟨⟨A, c, blk_set (blk_drewN HGR.out nd) 1 _, HC.out, HCC.out⟩, HGE.out, below_set (pw_below_drewN HBL.out nd) HGE.out⟩, kept_set (F := fun i => i = gr) (kept_drewN nd) rfl 1 _⟩
  rw [if_neg h2] at hv
  obtain ⟨q, rfl⟩ : ∃ q : Nat, k = q := ⟨k.toNat, by omega⟩
  rw [Int.toNat_natCast] at hv
  simp only [Prod.mk.injEq] at hv
  obtain ⟨rfl, rfl, rfl⟩ := hv
  have q1 : decide (most < n) = false := decide_eq_false h2
  have hq : q ≤ b.length := by omega
  have hd := Kd.C_drop (k := Kd.int .u8) hC hq hc
  obtain ⟨A1, hA1⟩ : ∃ A1 : Option Addr, (if c = q then A else A.map (·.add (q * (Kd.int .u8).sz))) = A1 := ⟨_, rfl⟩
  rw [hA1] at hd
  have hA2 : (if c = q then A else Option.map (fun x => x.add q) A) = A1 := by rw [← hA1, show (Kd.int .u8).sz = 1 from rfl, Nat.mul_one]
  have hs1 : (0 : Int) ≤ (q : Int) := by omega
  have hs2 : (q : Int) ≤ (b.length : Int) := by omega
  have HD := Aside0.mk hd
  have HQ := Aside0.mk hq
  clear h2 hg hC hc hge hbl hgt hK hf g1 g2 g3 g4 hd hA1 hq
  go_enter Try.func42, Try.ntmps42
  go_wp2_with (first | (go_at_call 58; (with_reducible refine HG.out.mono ?_); rintro e9 w9 ⟨rfl, hdr⟩; obtain ⟨nd, rfl⟩ := hdr; have j0 : (World.drewN w nd).cell? ⟨gr, 0, none⟩ = some (.slice A b.length c) := k0; have j1 : (World.drewN w nd).cell? ⟨gr, 1, none⟩ = some (.int .i64 0) := k1; have z0 : (World.drewN w nd).frozen? ⟨gr, 0, none⟩ = false := f0; have z1 : (World.drewN w nd).frozen? ⟨gr, 1, none⟩ = false := f1))
  go_ret
  have hln : (b.drop q).length = b.length - q := List.length_drop
  refine ⟨rfl, ⟨⟨A1, c - q, ?_, HD.out, by have := HCC.out; omega⟩, HGE.out, below_set (pw_below_drewN HBL.out nd) HGE.out⟩, kept_set (F := fun i => i = gr) (kept_drewN nd) rfl 0 _⟩
  rw [hln]
  exact blk_set (blk_drewN HGR.out nd) 0 _
set_option maxHeartbeats 8000000 in
set_option maxRecDepth 100000 in
set_option maxRecDepth 100000 in
theorem list_c_r (w0 w : World) (gr : Nat) (b : List Int) (hbs : Bytes b) (hl : b.length ≤ 100000) (e : Int) (xs : List Int) (b' : List Int) (e' : Int) (hv : listV b e = (xs, b', e')) (h : Rd w0 w 73 gr b e) :
    Calls Try.prog 59 #[.pointer (some ⟨gr, 0, none⟩)] w fun er w' => ∃ v, er = .returned v ∧ Ls encI 3 w' w.heap.size v xs ∧ Rd w0 w' 73 gr b' e' ∧ Kept w w' (fun i => i = gr) := by
  have hu := Try.underlying73
  rcases hn : numV b e 256 with ⟨n, b1, e1⟩
  have hbd := num_bd hbs e 256 (by decide)
  unfold listV at hv
  rw [hn] at hv hbd
  dsimp only at hv hbd
  obtain ⟨n0, n1, hb1, hl1⟩ := hbd
  obtain ⟨q0, rfl⟩ : ∃ q0 : Nat, n = q0 := ⟨n.toNat, by omega⟩
  rw [Int.toNat_natCast] at hv
  have HN := Aside0.mk (num_c_r w0 w gr b hbs hl e 256 q0 b1 e1 hn h)
  have HV := Aside0.mk hv
  have HB1 := Aside0.mk (show Bytes b1 ∧ b1.length ≤ 100000 ∧ q0 ≤ 256 from ⟨hb1, by omega, by omega⟩)
  have HGE := Aside0.mk h.ge
  have ewq : wrap64 (q0 : Int) = (q0 : Int) := w64 (by omega) (by omega)
  have HWS := Aside0.mk h.bel.size
  clear hv hn h n0 n1 hb1 hl1 hbs hl
  go_enter Try.func59, Try.ntmps59
  go_wp2_with (first | (go_at_call 42; (with_reducible refine HN.out.mono ?_); rintro er w8 ⟨rfl, hr, hk⟩; have HR8 := Aside0.mk hr; have HK8 := Aside0.mk hk; clear hr hk))
  clear HN
  rw [ewq]
  go_loopg [4, 5] (q0) (fun q v4 v5 wr => ∃ (j : Nat) (b2 : List Int) (e2 : Int) (ys : List Int), v5 = .int .i64 (j : Int) ∧ Aside0 (j + q = q0) ∧ Aside0 (ys.length + q ≤ 256 ∧ Bytes b2 ∧ b2.length ≤ 100000) ∧ Aside0 (ys ++ (numsV q b2 e2).1 = xs ∧ (numsV q b2 e2).2 = (b', e')) ∧ Aside0 (Ls encI 3 wr w.heap.size v4 ys) ∧ Aside0 (Rd w0 wr 73 gr b2 e2) ∧ Aside0 (Kept w wr (fun i => i = gr)))
  case atStart => exact ⟨0, b1, e1, [], rfl, ⟨by omega⟩, ⟨by have := HB1.out; exact ⟨by simpa using this.2.2, this.1, this.2.1⟩⟩, ⟨by rw [HV.out]; exact ⟨rfl, rfl⟩⟩, ⟨Ls.nil _ _ _ _⟩, HR8, HK8⟩
  case round =>
    obtain ⟨j, b2, e2, ys, rfl, HJ, HI, HAV, HLS, HR, HK⟩ := hrel
    obtain ⟨A, c, hg⟩ := HR.out.row
    have k1 : wr.cell? ⟨gr, 1, none⟩ = some (.int .i64 e2) := blk_cell hg 1
    have HGR := Aside0.mk hg
    clear hg
    by_cases hq : gk = 0
    · subst hq
      have hav := HAV.out
      rw [show numsV 0 b2 e2 = ([], b2, e2) from rfl, List.append_nil] at hav
      dsimp only at hav
      obtain ⟨rfl, hav⟩ := hav
      obtain ⟨rfl, rfl⟩ := Prod.mk.inj hav
      have d1 : decide ((0 : Int) < ((0 : Nat) : Int)) = false := by decide
      have d5 : decide ((j : Int) < (q0 : Int)) = false := decide_eq_false (by have := HJ.out; omega)
      have d6 : decide (j < q0) = false := decide_eq_false (by have := HJ.out; omega)
      go_wp2_with fail
      go_ret
      exact ⟨_, rfl, HLS.out, HR.out, HK.out⟩
    obtain ⟨p, rfl⟩ : ∃ p, gk = p + 1 := ⟨gk - 1, by omega⟩
    have d5 : decide ((j : Int) < (q0 : Int)) = true := decide_eq_true (by have := HJ.out; omega)
    have d6 : decide (j < q0) = true := decide_eq_true (by have := HJ.out; omega)
    by_cases he : e2 = 0
    rotate_left
    · have hav := HAV.out
      unfold numsV at hav
      rw [if_neg he, List.append_nil] at hav
      dsimp only at hav
      obtain ⟨rfl, hav⟩ := hav
      obtain ⟨rfl, rfl⟩ := Prod.mk.inj hav
      have f1 : (e2 == 0) = false := by simpa using he
      clear hav he
      go_wp2_with fail
      go_ret
      exact ⟨_, rfl, HLS.out, HR.out, HK.out⟩
    subst he
    rcases hn : numV b2 0 63 with ⟨x, b3, e3⟩
    have hbd := num_bd HI.out.2.1 0 63 (by decide)
    have hav := HAV.out
    unfold numsV at hav
    rw [if_pos rfl, hn] at hav
    rw [hn] at hbd
    dsimp only at hav hbd
    obtain ⟨n0, n1, hb3, hl3⟩ := hbd
    have HN := Aside0.mk (num_c_r w0 wr gr b2 HI.out.2.1 HI.out.2.2 0 63 x b3 e3 hn HR.out)
    have HAV2 := Aside0.mk hav
    have HB3 := Aside0.mk (show Bytes b3 ∧ b3.length ≤ 100000 from ⟨hb3, Nat.le_trans hl3 HI.out.2.2⟩)
    have ex : wrap64 x = x := w64 (by omega) (by omega)
    clear hav hn n0 n1 hb3 hl3 HAV
    go_wp2_with (first | (go_at_call 42; (with_reducible refine HN.out.mono ?_); rintro er w9 ⟨rfl, hr, hk⟩; have HR9 := Aside0.mk hr; have HL9 := Aside0.mk (lsK1 HLS.out hk HGR.out (by decide)); have HK9 := Aside0.mk (kept_then HK.out hk (fun i hi => hi)); clear hr hk) | (at_builtin; refine wpList_push (d := encI) rfl _ _ 25 3 _ 8 rfl Try.underlying25 info3 rfl w.heap.size u4 ys x rfl _ rfl (by simp) HL9.out (Nat.le_trans HK9.out.1 (Nat.le_refl _)) (by have := HI.out.1; omega) (by decide) _ rfl ?_; intro v7 w7 h1 h2 h3; have HL2 := Aside0.mk h1; have HG2 := Aside0.mk h2; clear h1 h2 h3) | go_in)
    go_roundg p
    case rel =>
      have hne : some gr ≠ u4.ownBlock := by
        obtain ⟨A9, c9, hg9⟩ := HR9.out.row
        exact HL9.out.ne hg9 (by decide)
      have hge := HGE.out
      refine ⟨j + 1, b3, e3, ys ++ [x], by have h1 := HJ.out; have h2 := HB1.out.2.2; have e9 : wrap64 ((j : Int) + 1) = ((j + 1 : Nat) : Int) := (by rw [w64 (by omega) (by omega)]; omega); first | rw [e9] | exact congrArg _ e9 | (simp; omega), ⟨by have := HJ.out; omega⟩, ⟨by rw [List.length_append, List.length_singleton]; have := HI.out.1; exact ⟨by omega, HB3.out⟩⟩, ⟨by rw [List.append_assoc]; exact HAV2.out⟩, HL2, ⟨?_⟩, ⟨?_⟩⟩
      · have hb9 := HR9.out.bel
        refine HR9.out.keep (F := fun i => some i = u4.ownBlock) (pw_below_grown hb9 _ hb9.size HG2.out (fun k hk => Nat.le_trans HWS.out (HL9.out.own k hk).1)) ⟨HG2.out.size, fun i hi hn => HG2.out.block i hi hn⟩ hne
      · refine HK9.out.then_ ⟨HG2.out.size, fun i hi hn => HG2.out.block i hi hn⟩ (S2 := fun i => some i = u4.ownBlock) (fun i hi => .inr (HL9.out.own i hi.symm).1)
    case measure => omega
set_option maxHeartbeats 8000000 in
set_option maxRecDepth 100000 in
theorem fieldr_115 (w0 w : World) (gr : Nat) (b : List Int) (hbs : Bytes b) (hl : b.length ≤ 100000) (e : Int) (m : Ms) (A B : Option Addr) (c d : Nat) (h : Rd w0 w 73 gr b e) (hP : Ls encI 3 w w0.heap.size (.slice A m.P.length c) m.P) (hL : Ls encI 3 w w0.heap.size (.slice B m.L.length d) m.L) (x : Int) (b' : List Int) (e' : Int) (hv : numV b e top = (x, b', e')) :
    Calls Try.prog 43 #[.pointer (some ⟨gr, 0, none⟩), .agg #[.int .i64 m.k, .int .u64 m.s, .int .u64 m.se, .int .u64 m.a, .int .u64 m.i, .int .u64 m.n, .int .u64 m.c, .int .i64 m.why, .int .u64 m.seed, .slice A m.P.length c, .int .i64 m.most, .slice B m.L.length d], .int .u8 115] w fun er w' => ∃ vP vL, er = .returned (.agg (mcells { m with s := x } vP vL)) ∧ Rd w0 w' 73 gr b' e' ∧ Ls encI 3 w' w0.heap.size vP ({ m with s := x }).P ∧ Ls encI 3 w' w0.heap.size vL ({ m with s := x }).L ∧ Kept w w' (fun i => i = gr) := by
  have hu := Try.underlying38
  have hu27 := Try.underlying27
  have HBY := Aside0.mk (And.intro hbs hl)
  have HRD := Aside0.mk h; have HP := Aside0.mk hP; have HL := Aside0.mk hL; have HWS := Aside0.mk h.bel.size
  clear h hP hL hbs hl
  have HN := Aside0.mk hv
  clear hv
  go_enter Try.func43, Try.ntmps43
  go_upto_region 21 with (first | ((with_reducible refine gate_dst (N := 4) rfl ?_); refine box_event ?hg (N := 4) ?hd (cs := #[.int .i64 m.k, .int .u64 m.s, .int .u64 m.se, .int .u64 m.a, .int .u64 m.i, .int .u64 m.n, .int .u64 m.c, .int .i64 m.why, .int .u64 m.seed, .slice A m.P.length c, .int .i64 m.most, .slice B m.L.length d]) (t := 38) ?hr ?_; (case hd => rfl); (case hg => rfl); (case hr => first | (go_simp; done) | (go_simp; rfl)); intro gm hgn w5 hbox hb; have HGM := Aside0.mk hbox; have HB5 := Aside0.mk hb; have HNG := Aside0.mk hgn; clear hbox hb hgn) | ((with_reducible refine gate_dst (N := 6) rfl ?_); refine box_event ?hg (N := 6) ?hd (cs := #[.int .i64 0, .int .u64 0, .int .u64 0, .int .u64 0, .int .u64 0, .int .u64 0, .int .u64 0, .int .i64 0, .int .u64 0, .slice none 0 0, .int .i64 0, .slice none 0 0]) (t := 38) ?hr ?_; (case hd => rfl); (case hg => rfl); (case hr => first | (go_simp; done) | (go_simp; rfl)); intro rc hrn w6 hbox hb; have hm6 := (MI.mk (blk_below HGM.out hb) (by rw [HNG.out]; exact HWS.out) ((HP.out.below HB5.out).below hb) ((HL.out.below HB5.out).below hb) : MI w0 w6 38 gm m (.slice A m.P.length c) (.slice B m.L.length d)); have HM6 := Aside0.mk hm6; have HRC := Aside0.mk hbox; have HR6 := Aside0.mk ((HRD.out.keep (below_weaken HRD.out.bel HWS.out (below_step HB5.out hb)) (Kept.of_below (below_step HB5.out hb) (fun _ => False)) (fun h => h)) : Rd w0 w6 73 gr b e); have HB6 := Aside0.mk (below_step HB5.out hb); have HNR := Aside0.mk hrn; have HLT := Aside0.mk (show gm < rc from by rw [hrn]; exact blk_lt HGM.out); clear hbox hb hrn hm6) | (go_at_call 42; (with_reducible refine (num_c_r w0 w6 gr b HBY.out.1 HBY.out.2 e top x b' e' HN.out HR6.out).mono ?_); rintro er w8 ⟨rfl, hr, hk⟩; have HR8 := Aside0.mk hr; obtain ⟨Ar, cr, hrw⟩ := HR6.out.row; have hm9 := HM6.out.kept hk hrw (by decide) (by decide); have HM8 := Aside0.mk hm9; have HK8 := Aside0.mk hk; have HRC8 := Aside0.mk (blk_kept HRC.out hk (blk_ne HRC.out hrw (by decide))); have cz8 := blk_frozen hm9.blk 1; obtain ⟨uc8, cc8⟩ : ∃ u, w8.cell? ⟨gm, 1, none⟩ = some u := ⟨_, blk_cell hm9.blk 1⟩; clear hr hk hm9 hrw))
  obtain ⟨wa, hwa⟩ : ∃ wa, w8.setCell ⟨gm, 1, none⟩ (.int .u64 x) = wa := ⟨_, rfl⟩
  have ra : Rd w0 wa 73 gr b' e' := by rw [← hwa]; exact HR8.out.far HM8.out.blk (by decide) HM8.out.ge 1 _
  have ma : MI w0 wa 38 gm { m with s := x } (.slice A m.P.length c) (.slice B m.L.length d) := by rw [← hwa]; exact HM8.out.puts (by decide) 1 _ rfl rfl rfl
  have rca : wa.heap[rc]? = some (.cells #[.int .i64 0, .int .u64 0, .int .u64 0, .int .u64 0, .int .u64 0, .int .u64 0, .int .u64 0, .int .i64 0, .int .u64 0, .slice none 0 0, .int .i64 0, .slice none 0 0] 38 (0, 0)) := by rw [← hwa]; exact blk_far (p := ⟨gm, 1, none⟩) HRC8.out (Nat.ne_of_gt HLT.out) _
  have ka : Kept w wa (fun i => i = gr) := by
    rw [← hwa]
    have hgm : w.heap.size ≤ gm := by rw [HNG.out]; exact Nat.le_refl _
    have k0 : Kept w w8 (fun i => i = gr) := (Kept.of_below HB6.out _).then_ HK8.out (fun i hi => .inl hi)
    exact k0.then_ (kept_set (F := fun i => i = gm) (Kept.refl _ _) rfl 1 _) (fun i hi => .inr (by rw [hi]; exact hgm))
  have HRA := Aside0.mk ra; have HMA := Aside0.mk ma; have HRCA := Aside0.mk rca; have HKA := Aside0.mk ka
  have u0 : wa.cell? ⟨gm, 0, none⟩ = some (.int .i64 m.k) := blk_cell ma.blk 0
  have uf0 : wa.frozen? ⟨gm, 0, none⟩ = false := blk_frozen ma.blk 0
  have u1 : wa.cell? ⟨gm, 1, none⟩ = some (.int .u64 x) := blk_cell ma.blk 1
  have uf1 : wa.frozen? ⟨gm, 1, none⟩ = false := blk_frozen ma.blk 1
  have u2 : wa.cell? ⟨gm, 2, none⟩ = some (.int .u64 m.se) := blk_cell ma.blk 2
  have uf2 : wa.frozen? ⟨gm, 2, none⟩ = false := blk_frozen ma.blk 2
  have u3 : wa.cell? ⟨gm, 3, none⟩ = some (.int .u64 m.a) := blk_cell ma.blk 3
  have uf3 : wa.frozen? ⟨gm, 3, none⟩ = false := blk_frozen ma.blk 3
  have u4 : wa.cell? ⟨gm, 4, none⟩ = some (.int .u64 m.i) := blk_cell ma.blk 4
  have uf4 : wa.frozen? ⟨gm, 4, none⟩ = false := blk_frozen ma.blk 4
  have u5 : wa.cell? ⟨gm, 5, none⟩ = some (.int .u64 m.n) := blk_cell ma.blk 5
  have uf5 : wa.frozen? ⟨gm, 5, none⟩ = false := blk_frozen ma.blk 5
  have u6 : wa.cell? ⟨gm, 6, none⟩ = some (.int .u64 m.c) := blk_cell ma.blk 6
  have uf6 : wa.frozen? ⟨gm, 6, none⟩ = false := blk_frozen ma.blk 6
  have u7 : wa.cell? ⟨gm, 7, none⟩ = some (.int .i64 m.why) := blk_cell ma.blk 7
  have uf7 : wa.frozen? ⟨gm, 7, none⟩ = false := blk_frozen ma.blk 7
  have u8 : wa.cell? ⟨gm, 8, none⟩ = some (.int .u64 m.seed) := blk_cell ma.blk 8
  have uf8 : wa.frozen? ⟨gm, 8, none⟩ = false := blk_frozen ma.blk 8
  have u9 : wa.cell? ⟨gm, 9, none⟩ = some (.slice A m.P.length c) := blk_cell ma.blk 9
  have uf9 : wa.frozen? ⟨gm, 9, none⟩ = false := blk_frozen ma.blk 9
  have u10 : wa.cell? ⟨gm, 10, none⟩ = some (.int .i64 m.most) := blk_cell ma.blk 10
  have uf10 : wa.frozen? ⟨gm, 10, none⟩ = false := blk_frozen ma.blk 10
  have u11 : wa.cell? ⟨gm, 11, none⟩ = some (.slice B m.L.length d) := blk_cell ma.blk 11
  have uf11 : wa.frozen? ⟨gm, 11, none⟩ = false := blk_frozen ma.blk 11
  have y0 : wa.cell? ⟨rc, 0, none⟩ = some (.int .i64 0) := blk_cell rca 0
  have yf0 : wa.frozen? ⟨rc, 0, none⟩ = false := blk_frozen rca 0
  have y1 : wa.cell? ⟨rc, 1, none⟩ = some (.int .u64 0) := blk_cell rca 1
  have yf1 : wa.frozen? ⟨rc, 1, none⟩ = false := blk_frozen rca 1
  have y2 : wa.cell? ⟨rc, 2, none⟩ = some (.int .u64 0) := blk_cell rca 2
  have yf2 : wa.frozen? ⟨rc, 2, none⟩ = false := blk_frozen rca 2
  have y3 : wa.cell? ⟨rc, 3, none⟩ = some (.int .u64 0) := blk_cell rca 3
  have yf3 : wa.frozen? ⟨rc, 3, none⟩ = false := blk_frozen rca 3
  have y4 : wa.cell? ⟨rc, 4, none⟩ = some (.int .u64 0) := blk_cell rca 4
  have yf4 : wa.frozen? ⟨rc, 4, none⟩ = false := blk_frozen rca 4
  have y5 : wa.cell? ⟨rc, 5, none⟩ = some (.int .u64 0) := blk_cell rca 5
  have yf5 : wa.frozen? ⟨rc, 5, none⟩ = false := blk_frozen rca 5
  have y6 : wa.cell? ⟨rc, 6, none⟩ = some (.int .u64 0) := blk_cell rca 6
  have yf6 : wa.frozen? ⟨rc, 6, none⟩ = false := blk_frozen rca 6
  have y7 : wa.cell? ⟨rc, 7, none⟩ = some (.int .i64 0) := blk_cell rca 7
  have yf7 : wa.frozen? ⟨rc, 7, none⟩ = false := blk_frozen rca 7
  have y8 : wa.cell? ⟨rc, 8, none⟩ = some (.int .u64 0) := blk_cell rca 8
  have yf8 : wa.frozen? ⟨rc, 8, none⟩ = false := blk_frozen rca 8
  have y9 : wa.cell? ⟨rc, 9, none⟩ = some (.slice none 0 0) := blk_cell rca 9
  have yf9 : wa.frozen? ⟨rc, 9, none⟩ = false := blk_frozen rca 9
  have y10 : wa.cell? ⟨rc, 10, none⟩ = some (.int .i64 0) := blk_cell rca 10
  have yf10 : wa.frozen? ⟨rc, 10, none⟩ = false := blk_frozen rca 10
  have y11 : wa.cell? ⟨rc, 11, none⟩ = some (.slice none 0 0) := blk_cell rca 11
  have yf11 : wa.frozen? ⟨rc, 11, none⟩ = false := blk_frozen rca 11
  have n1 : gm ≠ rc := Nat.ne_of_lt HLT.out
  have n2 : rc ≠ gm := Nat.ne_of_gt HLT.out
  rw [hwa]
  clear hwa ra ma rca ka cz8 cc8
  go_wp2_with fail
  (try simp only [Exit.inBlock, Exit.then])
  refine bodyPost_ret (results_cell_row rfl _ _ rc 38 #[.int .i64 m.k, .int .u64 x, .int .u64 m.se, .int .u64 m.a, .int .u64 m.i, .int .u64 m.n, .int .u64 m.c, .int .i64 m.why, .int .u64 m.seed, .slice A m.P.length c, .int .i64 m.most, .slice B m.L.length d] (0, 0) _ rfl (st12_blk HRCA.out _ _ _ _ _ _ _ _ _ _ _ _) Try.underlying38 rfl (by kernel_rfl)) rfl ?_
  obtain ⟨A9, c9, hg9⟩ := HRA.out.row
  have hrcw : w.heap.size ≤ rc := by have h1 := HLT.out; have h2 := HNG.out; omega
  exact ⟨_, _, rfl, HRA.out.keep (st12_bel HRA.out.bel (Nat.le_trans HWS.out hrcw) _ _ _ _ _ _ _ _ _ _ _ _) (st12_kept _ _ _ _ _ _ _ _ _ _ _ _ _ _) (blk_ne hg9 HRCA.out (by decide)), lsK1 HMA.out.P (st12_kept _ _ _ _ _ _ _ _ _ _ _ _ _ _) HRCA.out (by decide), lsK1 HMA.out.L (st12_kept _ _ _ _ _ _ _ _ _ _ _ _ _ _) HRCA.out (by decide), HKA.out.then_ (st12_kept _ _ _ _ _ _ _ _ _ _ _ _ _ _) (fun i hi => .inr (by rw [hi]; exact hrcw))⟩
set_option maxHeartbeats 8000000 in
set_option maxRecDepth 100000 in
theorem fieldr_101 (w0 w : World) (gr : Nat) (b : List Int) (hbs : Bytes b) (hl : b.length ≤ 100000) (e : Int) (m : Ms) (A B : Option Addr) (c d : Nat) (h : Rd w0 w 73 gr b e) (hP : Ls encI 3 w w0.heap.size (.slice A m.P.length c) m.P) (hL : Ls encI 3 w w0.heap.size (.slice B m.L.length d) m.L) (x : Int) (b' : List Int) (e' : Int) (hv : numV b e top = (x, b', e')) :
    Calls Try.prog 43 #[.pointer (some ⟨gr, 0, none⟩), .agg #[.int .i64 m.k, .int .u64 m.s, .int .u64 m.se, .int .u64 m.a, .int .u64 m.i, .int .u64 m.n, .int .u64 m.c, .int .i64 m.why, .int .u64 m.seed, .slice A m.P.length c, .int .i64 m.most, .slice B m.L.length d], .int .u8 101] w fun er w' => ∃ vP vL, er = .returned (.agg (mcells { m with se := x } vP vL)) ∧ Rd w0 w' 73 gr b' e' ∧ Ls encI 3 w' w0.heap.size vP ({ m with se := x }).P ∧ Ls encI 3 w' w0.heap.size vL ({ m with se := x }).L ∧ Kept w w' (fun i => i = gr) := by
  have hu := Try.underlying38
  have hu27 := Try.underlying27
  have HBY := Aside0.mk (And.intro hbs hl)
  have HRD := Aside0.mk h; have HP := Aside0.mk hP; have HL := Aside0.mk hL; have HWS := Aside0.mk h.bel.size
  clear h hP hL hbs hl
  have HN := Aside0.mk hv
  clear hv
  go_enter Try.func43, Try.ntmps43
  go_upto_region 21 with (first | ((with_reducible refine gate_dst (N := 4) rfl ?_); refine box_event ?hg (N := 4) ?hd (cs := #[.int .i64 m.k, .int .u64 m.s, .int .u64 m.se, .int .u64 m.a, .int .u64 m.i, .int .u64 m.n, .int .u64 m.c, .int .i64 m.why, .int .u64 m.seed, .slice A m.P.length c, .int .i64 m.most, .slice B m.L.length d]) (t := 38) ?hr ?_; (case hd => rfl); (case hg => rfl); (case hr => first | (go_simp; done) | (go_simp; rfl)); intro gm hgn w5 hbox hb; have HGM := Aside0.mk hbox; have HB5 := Aside0.mk hb; have HNG := Aside0.mk hgn; clear hbox hb hgn) | ((with_reducible refine gate_dst (N := 6) rfl ?_); refine box_event ?hg (N := 6) ?hd (cs := #[.int .i64 0, .int .u64 0, .int .u64 0, .int .u64 0, .int .u64 0, .int .u64 0, .int .u64 0, .int .i64 0, .int .u64 0, .slice none 0 0, .int .i64 0, .slice none 0 0]) (t := 38) ?hr ?_; (case hd => rfl); (case hg => rfl); (case hr => first | (go_simp; done) | (go_simp; rfl)); intro rc hrn w6 hbox hb; have hm6 := (MI.mk (blk_below HGM.out hb) (by rw [HNG.out]; exact HWS.out) ((HP.out.below HB5.out).below hb) ((HL.out.below HB5.out).below hb) : MI w0 w6 38 gm m (.slice A m.P.length c) (.slice B m.L.length d)); have HM6 := Aside0.mk hm6; have HRC := Aside0.mk hbox; have HR6 := Aside0.mk ((HRD.out.keep (below_weaken HRD.out.bel HWS.out (below_step HB5.out hb)) (Kept.of_below (below_step HB5.out hb) (fun _ => False)) (fun h => h)) : Rd w0 w6 73 gr b e); have HB6 := Aside0.mk (below_step HB5.out hb); have HNR := Aside0.mk hrn; have HLT := Aside0.mk (show gm < rc from by rw [hrn]; exact blk_lt HGM.out); clear hbox hb hrn hm6) | (go_at_call 42; (with_reducible refine (num_c_r w0 w6 gr b HBY.out.1 HBY.out.2 e top x b' e' HN.out HR6.out).mono ?_); rintro er w8 ⟨rfl, hr, hk⟩; have HR8 := Aside0.mk hr; obtain ⟨Ar, cr, hrw⟩ := HR6.out.row; have hm9 := HM6.out.kept hk hrw (by decide) (by decide); have HM8 := Aside0.mk hm9; have HK8 := Aside0.mk hk; have HRC8 := Aside0.mk (blk_kept HRC.out hk (blk_ne HRC.out hrw (by decide))); have cz8 := blk_frozen hm9.blk 2; obtain ⟨uc8, cc8⟩ : ∃ u, w8.cell? ⟨gm, 2, none⟩ = some u := ⟨_, blk_cell hm9.blk 2⟩; clear hr hk hm9 hrw))
  obtain ⟨wa, hwa⟩ : ∃ wa, w8.setCell ⟨gm, 2, none⟩ (.int .u64 x) = wa := ⟨_, rfl⟩
  have ra : Rd w0 wa 73 gr b' e' := by rw [← hwa]; exact HR8.out.far HM8.out.blk (by decide) HM8.out.ge 2 _
  have ma : MI w0 wa 38 gm { m with se := x } (.slice A m.P.length c) (.slice B m.L.length d) := by rw [← hwa]; exact HM8.out.puts (by decide) 2 _ rfl rfl rfl
  have rca : wa.heap[rc]? = some (.cells #[.int .i64 0, .int .u64 0, .int .u64 0, .int .u64 0, .int .u64 0, .int .u64 0, .int .u64 0, .int .i64 0, .int .u64 0, .slice none 0 0, .int .i64 0, .slice none 0 0] 38 (0, 0)) := by rw [← hwa]; exact blk_far (p := ⟨gm, 2, none⟩) HRC8.out (Nat.ne_of_gt HLT.out) _
  have ka : Kept w wa (fun i => i = gr) := by
    rw [← hwa]
    have hgm : w.heap.size ≤ gm := by rw [HNG.out]; exact Nat.le_refl _
    have k0 : Kept w w8 (fun i => i = gr) := (Kept.of_below HB6.out _).then_ HK8.out (fun i hi => .inl hi)
    exact k0.then_ (kept_set (F := fun i => i = gm) (Kept.refl _ _) rfl 2 _) (fun i hi => .inr (by rw [hi]; exact hgm))
  have HRA := Aside0.mk ra; have HMA := Aside0.mk ma; have HRCA := Aside0.mk rca; have HKA := Aside0.mk ka
  have u0 : wa.cell? ⟨gm, 0, none⟩ = some (.int .i64 m.k) := blk_cell ma.blk 0
  have uf0 : wa.frozen? ⟨gm, 0, none⟩ = false := blk_frozen ma.blk 0
  have u1 : wa.cell? ⟨gm, 1, none⟩ = some (.int .u64 m.s) := blk_cell ma.blk 1
  have uf1 : wa.frozen? ⟨gm, 1, none⟩ = false := blk_frozen ma.blk 1
  have u2 : wa.cell? ⟨gm, 2, none⟩ = some (.int .u64 x) := blk_cell ma.blk 2
  have uf2 : wa.frozen? ⟨gm, 2, none⟩ = false := blk_frozen ma.blk 2
  have u3 : wa.cell? ⟨gm, 3, none⟩ = some (.int .u64 m.a) := blk_cell ma.blk 3
  have uf3 : wa.frozen? ⟨gm, 3, none⟩ = false := blk_frozen ma.blk 3
  have u4 : wa.cell? ⟨gm, 4, none⟩ = some (.int .u64 m.i) := blk_cell ma.blk 4
  have uf4 : wa.frozen? ⟨gm, 4, none⟩ = false := blk_frozen ma.blk 4
  have u5 : wa.cell? ⟨gm, 5, none⟩ = some (.int .u64 m.n) := blk_cell ma.blk 5
  have uf5 : wa.frozen? ⟨gm, 5, none⟩ = false := blk_frozen ma.blk 5
  have u6 : wa.cell? ⟨gm, 6, none⟩ = some (.int .u64 m.c) := blk_cell ma.blk 6
  have uf6 : wa.frozen? ⟨gm, 6, none⟩ = false := blk_frozen ma.blk 6
  have u7 : wa.cell? ⟨gm, 7, none⟩ = some (.int .i64 m.why) := blk_cell ma.blk 7
  have uf7 : wa.frozen? ⟨gm, 7, none⟩ = false := blk_frozen ma.blk 7
  have u8 : wa.cell? ⟨gm, 8, none⟩ = some (.int .u64 m.seed) := blk_cell ma.blk 8
  have uf8 : wa.frozen? ⟨gm, 8, none⟩ = false := blk_frozen ma.blk 8
  have u9 : wa.cell? ⟨gm, 9, none⟩ = some (.slice A m.P.length c) := blk_cell ma.blk 9
  have uf9 : wa.frozen? ⟨gm, 9, none⟩ = false := blk_frozen ma.blk 9
  have u10 : wa.cell? ⟨gm, 10, none⟩ = some (.int .i64 m.most) := blk_cell ma.blk 10
  have uf10 : wa.frozen? ⟨gm, 10, none⟩ = false := blk_frozen ma.blk 10
  have u11 : wa.cell? ⟨gm, 11, none⟩ = some (.slice B m.L.length d) := blk_cell ma.blk 11
  have uf11 : wa.frozen? ⟨gm, 11, none⟩ = false := blk_frozen ma.blk 11
  have y0 : wa.cell? ⟨rc, 0, none⟩ = some (.int .i64 0) := blk_cell rca 0
  have yf0 : wa.frozen? ⟨rc, 0, none⟩ = false := blk_frozen rca 0
  have y1 : wa.cell? ⟨rc, 1, none⟩ = some (.int .u64 0) := blk_cell rca 1
  have yf1 : wa.frozen? ⟨rc, 1, none⟩ = false := blk_frozen rca 1
  have y2 : wa.cell? ⟨rc, 2, none⟩ = some (.int .u64 0) := blk_cell rca 2
  have yf2 : wa.frozen? ⟨rc, 2, none⟩ = false := blk_frozen rca 2
  have y3 : wa.cell? ⟨rc, 3, none⟩ = some (.int .u64 0) := blk_cell rca 3
  have yf3 : wa.frozen? ⟨rc, 3, none⟩ = false := blk_frozen rca 3
  have y4 : wa.cell? ⟨rc, 4, none⟩ = some (.int .u64 0) := blk_cell rca 4
  have yf4 : wa.frozen? ⟨rc, 4, none⟩ = false := blk_frozen rca 4
  have y5 : wa.cell? ⟨rc, 5, none⟩ = some (.int .u64 0) := blk_cell rca 5
  have yf5 : wa.frozen? ⟨rc, 5, none⟩ = false := blk_frozen rca 5
  have y6 : wa.cell? ⟨rc, 6, none⟩ = some (.int .u64 0) := blk_cell rca 6
  have yf6 : wa.frozen? ⟨rc, 6, none⟩ = false := blk_frozen rca 6
  have y7 : wa.cell? ⟨rc, 7, none⟩ = some (.int .i64 0) := blk_cell rca 7
  have yf7 : wa.frozen? ⟨rc, 7, none⟩ = false := blk_frozen rca 7
  have y8 : wa.cell? ⟨rc, 8, none⟩ = some (.int .u64 0) := blk_cell rca 8
  have yf8 : wa.frozen? ⟨rc, 8, none⟩ = false := blk_frozen rca 8
  have y9 : wa.cell? ⟨rc, 9, none⟩ = some (.slice none 0 0) := blk_cell rca 9
  have yf9 : wa.frozen? ⟨rc, 9, none⟩ = false := blk_frozen rca 9
  have y10 : wa.cell? ⟨rc, 10, none⟩ = some (.int .i64 0) := blk_cell rca 10
  have yf10 : wa.frozen? ⟨rc, 10, none⟩ = false := blk_frozen rca 10
  have y11 : wa.cell? ⟨rc, 11, none⟩ = some (.slice none 0 0) := blk_cell rca 11
  have yf11 : wa.frozen? ⟨rc, 11, none⟩ = false := blk_frozen rca 11
  have n1 : gm ≠ rc := Nat.ne_of_lt HLT.out
  have n2 : rc ≠ gm := Nat.ne_of_gt HLT.out
  rw [hwa]
  clear hwa ra ma rca ka cz8 cc8
  go_wp2_with fail
  (try simp only [Exit.inBlock, Exit.then])
  refine bodyPost_ret (results_cell_row rfl _ _ rc 38 #[.int .i64 m.k, .int .u64 m.s, .int .u64 x, .int .u64 m.a, .int .u64 m.i, .int .u64 m.n, .int .u64 m.c, .int .i64 m.why, .int .u64 m.seed, .slice A m.P.length c, .int .i64 m.most, .slice B m.L.length d] (0, 0) _ rfl (st12_blk HRCA.out _ _ _ _ _ _ _ _ _ _ _ _) Try.underlying38 rfl (by kernel_rfl)) rfl ?_
  obtain ⟨A9, c9, hg9⟩ := HRA.out.row
  have hrcw : w.heap.size ≤ rc := by have h1 := HLT.out; have h2 := HNG.out; omega
  exact ⟨_, _, rfl, HRA.out.keep (st12_bel HRA.out.bel (Nat.le_trans HWS.out hrcw) _ _ _ _ _ _ _ _ _ _ _ _) (st12_kept _ _ _ _ _ _ _ _ _ _ _ _ _ _) (blk_ne hg9 HRCA.out (by decide)), lsK1 HMA.out.P (st12_kept _ _ _ _ _ _ _ _ _ _ _ _ _ _) HRCA.out (by decide), lsK1 HMA.out.L (st12_kept _ _ _ _ _ _ _ _ _ _ _ _ _ _) HRCA.out (by decide), HKA.out.then_ (st12_kept _ _ _ _ _ _ _ _ _ _ _ _ _ _) (fun i hi => .inr (by rw [hi]; exact hrcw))⟩
set_option maxHeartbeats 8000000 in
set_option maxRecDepth 100000 in
theorem fieldr_97 (w0 w : World) (gr : Nat) (b : List Int) (hbs : Bytes b) (hl : b.length ≤ 100000) (e : Int) (m : Ms) (A B : Option Addr) (c d : Nat) (h : Rd w0 w 73 gr b e) (hP : Ls encI 3 w w0.heap.size (.slice A m.P.length c) m.P) (hL : Ls encI 3 w w0.heap.size (.slice B m.L.length d) m.L) (x : Int) (b' : List Int) (e' : Int) (hv : numV b e top = (x, b', e')) :
    Calls Try.prog 43 #[.pointer (some ⟨gr, 0, none⟩), .agg #[.int .i64 m.k, .int .u64 m.s, .int .u64 m.se, .int .u64 m.a, .int .u64 m.i, .int .u64 m.n, .int .u64 m.c, .int .i64 m.why, .int .u64 m.seed, .slice A m.P.length c, .int .i64 m.most, .slice B m.L.length d], .int .u8 97] w fun er w' => ∃ vP vL, er = .returned (.agg (mcells { m with a := x } vP vL)) ∧ Rd w0 w' 73 gr b' e' ∧ Ls encI 3 w' w0.heap.size vP ({ m with a := x }).P ∧ Ls encI 3 w' w0.heap.size vL ({ m with a := x }).L ∧ Kept w w' (fun i => i = gr) := by
  have hu := Try.underlying38
  have hu27 := Try.underlying27
  have HBY := Aside0.mk (And.intro hbs hl)
  have HRD := Aside0.mk h; have HP := Aside0.mk hP; have HL := Aside0.mk hL; have HWS := Aside0.mk h.bel.size
  clear h hP hL hbs hl
  have HN := Aside0.mk hv
  clear hv
  go_enter Try.func43, Try.ntmps43
  go_upto_region 21 with (first | ((with_reducible refine gate_dst (N := 4) rfl ?_); refine box_event ?hg (N := 4) ?hd (cs := #[.int .i64 m.k, .int .u64 m.s, .int .u64 m.se, .int .u64 m.a, .int .u64 m.i, .int .u64 m.n, .int .u64 m.c, .int .i64 m.why, .int .u64 m.seed, .slice A m.P.length c, .int .i64 m.most, .slice B m.L.length d]) (t := 38) ?hr ?_; (case hd => rfl); (case hg => rfl); (case hr => first | (go_simp; done) | (go_simp; rfl)); intro gm hgn w5 hbox hb; have HGM := Aside0.mk hbox; have HB5 := Aside0.mk hb; have HNG := Aside0.mk hgn; clear hbox hb hgn) | ((with_reducible refine gate_dst (N := 6) rfl ?_); refine box_event ?hg (N := 6) ?hd (cs := #[.int .i64 0, .int .u64 0, .int .u64 0, .int .u64 0, .int .u64 0, .int .u64 0, .int .u64 0, .int .i64 0, .int .u64 0, .slice none 0 0, .int .i64 0, .slice none 0 0]) (t := 38) ?hr ?_; (case hd => rfl); (case hg => rfl); (case hr => first | (go_simp; done) | (go_simp; rfl)); intro rc hrn w6 hbox hb; have hm6 := (MI.mk (blk_below HGM.out hb) (by rw [HNG.out]; exact HWS.out) ((HP.out.below HB5.out).below hb) ((HL.out.below HB5.out).below hb) : MI w0 w6 38 gm m (.slice A m.P.length c) (.slice B m.L.length d)); have HM6 := Aside0.mk hm6; have HRC := Aside0.mk hbox; have HR6 := Aside0.mk ((HRD.out.keep (below_weaken HRD.out.bel HWS.out (below_step HB5.out hb)) (Kept.of_below (below_step HB5.out hb) (fun _ => False)) (fun h => h)) : Rd w0 w6 73 gr b e); have HB6 := Aside0.mk (below_step HB5.out hb); have HNR := Aside0.mk hrn; have HLT := Aside0.mk (show gm < rc from by rw [hrn]; exact blk_lt HGM.out); clear hbox hb hrn hm6) | (go_at_call 42; (with_reducible refine (num_c_r w0 w6 gr b HBY.out.1 HBY.out.2 e top x b' e' HN.out HR6.out).mono ?_); rintro er w8 ⟨rfl, hr, hk⟩; have HR8 := Aside0.mk hr; obtain ⟨Ar, cr, hrw⟩ := HR6.out.row; have hm9 := HM6.out.kept hk hrw (by decide) (by decide); have HM8 := Aside0.mk hm9; have HK8 := Aside0.mk hk; have HRC8 := Aside0.mk (blk_kept HRC.out hk (blk_ne HRC.out hrw (by decide))); have cz8 := blk_frozen hm9.blk 3; obtain ⟨uc8, cc8⟩ : ∃ u, w8.cell? ⟨gm, 3, none⟩ = some u := ⟨_, blk_cell hm9.blk 3⟩; clear hr hk hm9 hrw))
  obtain ⟨wa, hwa⟩ : ∃ wa, w8.setCell ⟨gm, 3, none⟩ (.int .u64 x) = wa := ⟨_, rfl⟩
  have ra : Rd w0 wa 73 gr b' e' := by rw [← hwa]; exact HR8.out.far HM8.out.blk (by decide) HM8.out.ge 3 _
  have ma : MI w0 wa 38 gm { m with a := x } (.slice A m.P.length c) (.slice B m.L.length d) := by rw [← hwa]; exact HM8.out.puts (by decide) 3 _ rfl rfl rfl
  have rca : wa.heap[rc]? = some (.cells #[.int .i64 0, .int .u64 0, .int .u64 0, .int .u64 0, .int .u64 0, .int .u64 0, .int .u64 0, .int .i64 0, .int .u64 0, .slice none 0 0, .int .i64 0, .slice none 0 0] 38 (0, 0)) := by rw [← hwa]; exact blk_far (p := ⟨gm, 3, none⟩) HRC8.out (Nat.ne_of_gt HLT.out) _
  have ka : Kept w wa (fun i => i = gr) := by
    rw [← hwa]
    have hgm : w.heap.size ≤ gm := by rw [HNG.out]; exact Nat.le_refl _
    have k0 : Kept w w8 (fun i => i = gr) := (Kept.of_below HB6.out _).then_ HK8.out (fun i hi => .inl hi)
    exact k0.then_ (kept_set (F := fun i => i = gm) (Kept.refl _ _) rfl 3 _) (fun i hi => .inr (by rw [hi]; exact hgm))
  have HRA := Aside0.mk ra; have HMA := Aside0.mk ma; have HRCA := Aside0.mk rca; have HKA := Aside0.mk ka
  have u0 : wa.cell? ⟨gm, 0, none⟩ = some (.int .i64 m.k) := blk_cell ma.blk 0
  have uf0 : wa.frozen? ⟨gm, 0, none⟩ = false := blk_frozen ma.blk 0
  have u1 : wa.cell? ⟨gm, 1, none⟩ = some (.int .u64 m.s) := blk_cell ma.blk 1
  have uf1 : wa.frozen? ⟨gm, 1, none⟩ = false := blk_frozen ma.blk 1
  have u2 : wa.cell? ⟨gm, 2, none⟩ = some (.int .u64 m.se) := blk_cell ma.blk 2
  have uf2 : wa.frozen? ⟨gm, 2, none⟩ = false := blk_frozen ma.blk 2
  have u3 : wa.cell? ⟨gm, 3, none⟩ = some (.int .u64 x) := blk_cell ma.blk 3
  have uf3 : wa.frozen? ⟨gm, 3, none⟩ = false := blk_frozen ma.blk 3
  have u4 : wa.cell? ⟨gm, 4, none⟩ = some (.int .u64 m.i) := blk_cell ma.blk 4
  have uf4 : wa.frozen? ⟨gm, 4, none⟩ = false := blk_frozen ma.blk 4
  have u5 : wa.cell? ⟨gm, 5, none⟩ = some (.int .u64 m.n) := blk_cell ma.blk 5
  have uf5 : wa.frozen? ⟨gm, 5, none⟩ = false := blk_frozen ma.blk 5
  have u6 : wa.cell? ⟨gm, 6, none⟩ = some (.int .u64 m.c) := blk_cell ma.blk 6
  have uf6 : wa.frozen? ⟨gm, 6, none⟩ = false := blk_frozen ma.blk 6
  have u7 : wa.cell? ⟨gm, 7, none⟩ = some (.int .i64 m.why) := blk_cell ma.blk 7
  have uf7 : wa.frozen? ⟨gm, 7, none⟩ = false := blk_frozen ma.blk 7
  have u8 : wa.cell? ⟨gm, 8, none⟩ = some (.int .u64 m.seed) := blk_cell ma.blk 8
  have uf8 : wa.frozen? ⟨gm, 8, none⟩ = false := blk_frozen ma.blk 8
  have u9 : wa.cell? ⟨gm, 9, none⟩ = some (.slice A m.P.length c) := blk_cell ma.blk 9
  have uf9 : wa.frozen? ⟨gm, 9, none⟩ = false := blk_frozen ma.blk 9
  have u10 : wa.cell? ⟨gm, 10, none⟩ = some (.int .i64 m.most) := blk_cell ma.blk 10
  have uf10 : wa.frozen? ⟨gm, 10, none⟩ = false := blk_frozen ma.blk 10
  have u11 : wa.cell? ⟨gm, 11, none⟩ = some (.slice B m.L.length d) := blk_cell ma.blk 11
  have uf11 : wa.frozen? ⟨gm, 11, none⟩ = false := blk_frozen ma.blk 11
  have y0 : wa.cell? ⟨rc, 0, none⟩ = some (.int .i64 0) := blk_cell rca 0
  have yf0 : wa.frozen? ⟨rc, 0, none⟩ = false := blk_frozen rca 0
  have y1 : wa.cell? ⟨rc, 1, none⟩ = some (.int .u64 0) := blk_cell rca 1
  have yf1 : wa.frozen? ⟨rc, 1, none⟩ = false := blk_frozen rca 1
  have y2 : wa.cell? ⟨rc, 2, none⟩ = some (.int .u64 0) := blk_cell rca 2
  have yf2 : wa.frozen? ⟨rc, 2, none⟩ = false := blk_frozen rca 2
  have y3 : wa.cell? ⟨rc, 3, none⟩ = some (.int .u64 0) := blk_cell rca 3
  have yf3 : wa.frozen? ⟨rc, 3, none⟩ = false := blk_frozen rca 3
  have y4 : wa.cell? ⟨rc, 4, none⟩ = some (.int .u64 0) := blk_cell rca 4
  have yf4 : wa.frozen? ⟨rc, 4, none⟩ = false := blk_frozen rca 4
  have y5 : wa.cell? ⟨rc, 5, none⟩ = some (.int .u64 0) := blk_cell rca 5
  have yf5 : wa.frozen? ⟨rc, 5, none⟩ = false := blk_frozen rca 5
  have y6 : wa.cell? ⟨rc, 6, none⟩ = some (.int .u64 0) := blk_cell rca 6
  have yf6 : wa.frozen? ⟨rc, 6, none⟩ = false := blk_frozen rca 6
  have y7 : wa.cell? ⟨rc, 7, none⟩ = some (.int .i64 0) := blk_cell rca 7
  have yf7 : wa.frozen? ⟨rc, 7, none⟩ = false := blk_frozen rca 7
  have y8 : wa.cell? ⟨rc, 8, none⟩ = some (.int .u64 0) := blk_cell rca 8
  have yf8 : wa.frozen? ⟨rc, 8, none⟩ = false := blk_frozen rca 8
  have y9 : wa.cell? ⟨rc, 9, none⟩ = some (.slice none 0 0) := blk_cell rca 9
  have yf9 : wa.frozen? ⟨rc, 9, none⟩ = false := blk_frozen rca 9
  have y10 : wa.cell? ⟨rc, 10, none⟩ = some (.int .i64 0) := blk_cell rca 10
  have yf10 : wa.frozen? ⟨rc, 10, none⟩ = false := blk_frozen rca 10
  have y11 : wa.cell? ⟨rc, 11, none⟩ = some (.slice none 0 0) := blk_cell rca 11
  have yf11 : wa.frozen? ⟨rc, 11, none⟩ = false := blk_frozen rca 11
  have n1 : gm ≠ rc := Nat.ne_of_lt HLT.out
  have n2 : rc ≠ gm := Nat.ne_of_gt HLT.out
  rw [hwa]
  clear hwa ra ma rca ka cz8 cc8
  go_wp2_with fail
  (try simp only [Exit.inBlock, Exit.then])
  refine bodyPost_ret (results_cell_row rfl _ _ rc 38 #[.int .i64 m.k, .int .u64 m.s, .int .u64 m.se, .int .u64 x, .int .u64 m.i, .int .u64 m.n, .int .u64 m.c, .int .i64 m.why, .int .u64 m.seed, .slice A m.P.length c, .int .i64 m.most, .slice B m.L.length d] (0, 0) _ rfl (st12_blk HRCA.out _ _ _ _ _ _ _ _ _ _ _ _) Try.underlying38 rfl (by kernel_rfl)) rfl ?_
  obtain ⟨A9, c9, hg9⟩ := HRA.out.row
  have hrcw : w.heap.size ≤ rc := by have h1 := HLT.out; have h2 := HNG.out; omega
  exact ⟨_, _, rfl, HRA.out.keep (st12_bel HRA.out.bel (Nat.le_trans HWS.out hrcw) _ _ _ _ _ _ _ _ _ _ _ _) (st12_kept _ _ _ _ _ _ _ _ _ _ _ _ _ _) (blk_ne hg9 HRCA.out (by decide)), lsK1 HMA.out.P (st12_kept _ _ _ _ _ _ _ _ _ _ _ _ _ _) HRCA.out (by decide), lsK1 HMA.out.L (st12_kept _ _ _ _ _ _ _ _ _ _ _ _ _ _) HRCA.out (by decide), HKA.out.then_ (st12_kept _ _ _ _ _ _ _ _ _ _ _ _ _ _) (fun i hi => .inr (by rw [hi]; exact hrcw))⟩
set_option maxHeartbeats 8000000 in
set_option maxRecDepth 100000 in
theorem fieldr_105 (w0 w : World) (gr : Nat) (b : List Int) (hbs : Bytes b) (hl : b.length ≤ 100000) (e : Int) (m : Ms) (A B : Option Addr) (c d : Nat) (h : Rd w0 w 73 gr b e) (hP : Ls encI 3 w w0.heap.size (.slice A m.P.length c) m.P) (hL : Ls encI 3 w w0.heap.size (.slice B m.L.length d) m.L) (x : Int) (b' : List Int) (e' : Int) (hv : numV b e top = (x, b', e')) :
    Calls Try.prog 43 #[.pointer (some ⟨gr, 0, none⟩), .agg #[.int .i64 m.k, .int .u64 m.s, .int .u64 m.se, .int .u64 m.a, .int .u64 m.i, .int .u64 m.n, .int .u64 m.c, .int .i64 m.why, .int .u64 m.seed, .slice A m.P.length c, .int .i64 m.most, .slice B m.L.length d], .int .u8 105] w fun er w' => ∃ vP vL, er = .returned (.agg (mcells { m with i := x } vP vL)) ∧ Rd w0 w' 73 gr b' e' ∧ Ls encI 3 w' w0.heap.size vP ({ m with i := x }).P ∧ Ls encI 3 w' w0.heap.size vL ({ m with i := x }).L ∧ Kept w w' (fun i => i = gr) := by
  have hu := Try.underlying38
  have hu27 := Try.underlying27
  have HBY := Aside0.mk (And.intro hbs hl)
  have HRD := Aside0.mk h; have HP := Aside0.mk hP; have HL := Aside0.mk hL; have HWS := Aside0.mk h.bel.size
  clear h hP hL hbs hl
  have HN := Aside0.mk hv
  clear hv
  go_enter Try.func43, Try.ntmps43
  go_upto_region 21 with (first | ((with_reducible refine gate_dst (N := 4) rfl ?_); refine box_event ?hg (N := 4) ?hd (cs := #[.int .i64 m.k, .int .u64 m.s, .int .u64 m.se, .int .u64 m.a, .int .u64 m.i, .int .u64 m.n, .int .u64 m.c, .int .i64 m.why, .int .u64 m.seed, .slice A m.P.length c, .int .i64 m.most, .slice B m.L.length d]) (t := 38) ?hr ?_; (case hd => rfl); (case hg => rfl); (case hr => first | (go_simp; done) | (go_simp; rfl)); intro gm hgn w5 hbox hb; have HGM := Aside0.mk hbox; have HB5 := Aside0.mk hb; have HNG := Aside0.mk hgn; clear hbox hb hgn) | ((with_reducible refine gate_dst (N := 6) rfl ?_); refine box_event ?hg (N := 6) ?hd (cs := #[.int .i64 0, .int .u64 0, .int .u64 0, .int .u64 0, .int .u64 0, .int .u64 0, .int .u64 0, .int .i64 0, .int .u64 0, .slice none 0 0, .int .i64 0, .slice none 0 0]) (t := 38) ?hr ?_; (case hd => rfl); (case hg => rfl); (case hr => first | (go_simp; done) | (go_simp; rfl)); intro rc hrn w6 hbox hb; have hm6 := (MI.mk (blk_below HGM.out hb) (by rw [HNG.out]; exact HWS.out) ((HP.out.below HB5.out).below hb) ((HL.out.below HB5.out).below hb) : MI w0 w6 38 gm m (.slice A m.P.length c) (.slice B m.L.length d)); have HM6 := Aside0.mk hm6; have HRC := Aside0.mk hbox; have HR6 := Aside0.mk ((HRD.out.keep (below_weaken HRD.out.bel HWS.out (below_step HB5.out hb)) (Kept.of_below (below_step HB5.out hb) (fun _ => False)) (fun h => h)) : Rd w0 w6 73 gr b e); have HB6 := Aside0.mk (below_step HB5.out hb); have HNR := Aside0.mk hrn; have HLT := Aside0.mk (show gm < rc from by rw [hrn]; exact blk_lt HGM.out); clear hbox hb hrn hm6) | (go_at_call 42; (with_reducible refine (num_c_r w0 w6 gr b HBY.out.1 HBY.out.2 e top x b' e' HN.out HR6.out).mono ?_); rintro er w8 ⟨rfl, hr, hk⟩; have HR8 := Aside0.mk hr; obtain ⟨Ar, cr, hrw⟩ := HR6.out.row; have hm9 := HM6.out.kept hk hrw (by decide) (by decide); have HM8 := Aside0.mk hm9; have HK8 := Aside0.mk hk; have HRC8 := Aside0.mk (blk_kept HRC.out hk (blk_ne HRC.out hrw (by decide))); have cz8 := blk_frozen hm9.blk 4; obtain ⟨uc8, cc8⟩ : ∃ u, w8.cell? ⟨gm, 4, none⟩ = some u := ⟨_, blk_cell hm9.blk 4⟩; clear hr hk hm9 hrw))
  obtain ⟨wa, hwa⟩ : ∃ wa, w8.setCell ⟨gm, 4, none⟩ (.int .u64 x) = wa := ⟨_, rfl⟩
  have ra : Rd w0 wa 73 gr b' e' := by rw [← hwa]; exact HR8.out.far HM8.out.blk (by decide) HM8.out.ge 4 _
  have ma : MI w0 wa 38 gm { m with i := x } (.slice A m.P.length c) (.slice B m.L.length d) := by rw [← hwa]; exact HM8.out.puts (by decide) 4 _ rfl rfl rfl
  have rca : wa.heap[rc]? = some (.cells #[.int .i64 0, .int .u64 0, .int .u64 0, .int .u64 0, .int .u64 0, .int .u64 0, .int .u64 0, .int .i64 0, .int .u64 0, .slice none 0 0, .int .i64 0, .slice none 0 0] 38 (0, 0)) := by rw [← hwa]; exact blk_far (p := ⟨gm, 4, none⟩) HRC8.out (Nat.ne_of_gt HLT.out) _
  have ka : Kept w wa (fun i => i = gr) := by
    rw [← hwa]
    have hgm : w.heap.size ≤ gm := by rw [HNG.out]; exact Nat.le_refl _
    have k0 : Kept w w8 (fun i => i = gr) := (Kept.of_below HB6.out _).then_ HK8.out (fun i hi => .inl hi)
    exact k0.then_ (kept_set (F := fun i => i = gm) (Kept.refl _ _) rfl 4 _) (fun i hi => .inr (by rw [hi]; exact hgm))
  have HRA := Aside0.mk ra; have HMA := Aside0.mk ma; have HRCA := Aside0.mk rca; have HKA := Aside0.mk ka
  have u0 : wa.cell? ⟨gm, 0, none⟩ = some (.int .i64 m.k) := blk_cell ma.blk 0
  have uf0 : wa.frozen? ⟨gm, 0, none⟩ = false := blk_frozen ma.blk 0
  have u1 : wa.cell? ⟨gm, 1, none⟩ = some (.int .u64 m.s) := blk_cell ma.blk 1
  have uf1 : wa.frozen? ⟨gm, 1, none⟩ = false := blk_frozen ma.blk 1
  have u2 : wa.cell? ⟨gm, 2, none⟩ = some (.int .u64 m.se) := blk_cell ma.blk 2
  have uf2 : wa.frozen? ⟨gm, 2, none⟩ = false := blk_frozen ma.blk 2
  have u3 : wa.cell? ⟨gm, 3, none⟩ = some (.int .u64 m.a) := blk_cell ma.blk 3
  have uf3 : wa.frozen? ⟨gm, 3, none⟩ = false := blk_frozen ma.blk 3
  have u4 : wa.cell? ⟨gm, 4, none⟩ = some (.int .u64 x) := blk_cell ma.blk 4
  have uf4 : wa.frozen? ⟨gm, 4, none⟩ = false := blk_frozen ma.blk 4
  have u5 : wa.cell? ⟨gm, 5, none⟩ = some (.int .u64 m.n) := blk_cell ma.blk 5
  have uf5 : wa.frozen? ⟨gm, 5, none⟩ = false := blk_frozen ma.blk 5
  have u6 : wa.cell? ⟨gm, 6, none⟩ = some (.int .u64 m.c) := blk_cell ma.blk 6
  have uf6 : wa.frozen? ⟨gm, 6, none⟩ = false := blk_frozen ma.blk 6
  have u7 : wa.cell? ⟨gm, 7, none⟩ = some (.int .i64 m.why) := blk_cell ma.blk 7
  have uf7 : wa.frozen? ⟨gm, 7, none⟩ = false := blk_frozen ma.blk 7
  have u8 : wa.cell? ⟨gm, 8, none⟩ = some (.int .u64 m.seed) := blk_cell ma.blk 8
  have uf8 : wa.frozen? ⟨gm, 8, none⟩ = false := blk_frozen ma.blk 8
  have u9 : wa.cell? ⟨gm, 9, none⟩ = some (.slice A m.P.length c) := blk_cell ma.blk 9
  have uf9 : wa.frozen? ⟨gm, 9, none⟩ = false := blk_frozen ma.blk 9
  have u10 : wa.cell? ⟨gm, 10, none⟩ = some (.int .i64 m.most) := blk_cell ma.blk 10
  have uf10 : wa.frozen? ⟨gm, 10, none⟩ = false := blk_frozen ma.blk 10
  have u11 : wa.cell? ⟨gm, 11, none⟩ = some (.slice B m.L.length d) := blk_cell ma.blk 11
  have uf11 : wa.frozen? ⟨gm, 11, none⟩ = false := blk_frozen ma.blk 11
  have y0 : wa.cell? ⟨rc, 0, none⟩ = some (.int .i64 0) := blk_cell rca 0
  have yf0 : wa.frozen? ⟨rc, 0, none⟩ = false := blk_frozen rca 0
  have y1 : wa.cell? ⟨rc, 1, none⟩ = some (.int .u64 0) := blk_cell rca 1
  have yf1 : wa.frozen? ⟨rc, 1, none⟩ = false := blk_frozen rca 1
  have y2 : wa.cell? ⟨rc, 2, none⟩ = some (.int .u64 0) := blk_cell rca 2
  have yf2 : wa.frozen? ⟨rc, 2, none⟩ = false := blk_frozen rca 2
  have y3 : wa.cell? ⟨rc, 3, none⟩ = some (.int .u64 0) := blk_cell rca 3
  have yf3 : wa.frozen? ⟨rc, 3, none⟩ = false := blk_frozen rca 3
  have y4 : wa.cell? ⟨rc, 4, none⟩ = some (.int .u64 0) := blk_cell rca 4
  have yf4 : wa.frozen? ⟨rc, 4, none⟩ = false := blk_frozen rca 4
  have y5 : wa.cell? ⟨rc, 5, none⟩ = some (.int .u64 0) := blk_cell rca 5
  have yf5 : wa.frozen? ⟨rc, 5, none⟩ = false := blk_frozen rca 5
  have y6 : wa.cell? ⟨rc, 6, none⟩ = some (.int .u64 0) := blk_cell rca 6
  have yf6 : wa.frozen? ⟨rc, 6, none⟩ = false := blk_frozen rca 6
  have y7 : wa.cell? ⟨rc, 7, none⟩ = some (.int .i64 0) := blk_cell rca 7
  have yf7 : wa.frozen? ⟨rc, 7, none⟩ = false := blk_frozen rca 7
  have y8 : wa.cell? ⟨rc, 8, none⟩ = some (.int .u64 0) := blk_cell rca 8
  have yf8 : wa.frozen? ⟨rc, 8, none⟩ = false := blk_frozen rca 8
  have y9 : wa.cell? ⟨rc, 9, none⟩ = some (.slice none 0 0) := blk_cell rca 9
  have yf9 : wa.frozen? ⟨rc, 9, none⟩ = false := blk_frozen rca 9
  have y10 : wa.cell? ⟨rc, 10, none⟩ = some (.int .i64 0) := blk_cell rca 10
  have yf10 : wa.frozen? ⟨rc, 10, none⟩ = false := blk_frozen rca 10
  have y11 : wa.cell? ⟨rc, 11, none⟩ = some (.slice none 0 0) := blk_cell rca 11
  have yf11 : wa.frozen? ⟨rc, 11, none⟩ = false := blk_frozen rca 11
  have n1 : gm ≠ rc := Nat.ne_of_lt HLT.out
  have n2 : rc ≠ gm := Nat.ne_of_gt HLT.out
  rw [hwa]
  clear hwa ra ma rca ka cz8 cc8
  go_wp2_with fail
  (try simp only [Exit.inBlock, Exit.then])
  refine bodyPost_ret (results_cell_row rfl _ _ rc 38 #[.int .i64 m.k, .int .u64 m.s, .int .u64 m.se, .int .u64 m.a, .int .u64 x, .int .u64 m.n, .int .u64 m.c, .int .i64 m.why, .int .u64 m.seed, .slice A m.P.length c, .int .i64 m.most, .slice B m.L.length d] (0, 0) _ rfl (st12_blk HRCA.out _ _ _ _ _ _ _ _ _ _ _ _) Try.underlying38 rfl (by kernel_rfl)) rfl ?_
  obtain ⟨A9, c9, hg9⟩ := HRA.out.row
  have hrcw : w.heap.size ≤ rc := by have h1 := HLT.out; have h2 := HNG.out; omega
  exact ⟨_, _, rfl, HRA.out.keep (st12_bel HRA.out.bel (Nat.le_trans HWS.out hrcw) _ _ _ _ _ _ _ _ _ _ _ _) (st12_kept _ _ _ _ _ _ _ _ _ _ _ _ _ _) (blk_ne hg9 HRCA.out (by decide)), lsK1 HMA.out.P (st12_kept _ _ _ _ _ _ _ _ _ _ _ _ _ _) HRCA.out (by decide), lsK1 HMA.out.L (st12_kept _ _ _ _ _ _ _ _ _ _ _ _ _ _) HRCA.out (by decide), HKA.out.then_ (st12_kept _ _ _ _ _ _ _ _ _ _ _ _ _ _) (fun i hi => .inr (by rw [hi]; exact hrcw))⟩
set_option maxHeartbeats 8000000 in
set_option maxRecDepth 100000 in
theorem fieldr_110 (w0 w : World) (gr : Nat) (b : List Int) (hbs : Bytes b) (hl : b.length ≤ 100000) (e : Int) (m : Ms) (A B : Option Addr) (c d : Nat) (h : Rd w0 w 73 gr b e) (hP : Ls encI 3 w w0.heap.size (.slice A m.P.length c) m.P) (hL : Ls encI 3 w w0.heap.size (.slice B m.L.length d) m.L) (x : Int) (b' : List Int) (e' : Int) (hv : numV b e top = (x, b', e')) :
    Calls Try.prog 43 #[.pointer (some ⟨gr, 0, none⟩), .agg #[.int .i64 m.k, .int .u64 m.s, .int .u64 m.se, .int .u64 m.a, .int .u64 m.i, .int .u64 m.n, .int .u64 m.c, .int .i64 m.why, .int .u64 m.seed, .slice A m.P.length c, .int .i64 m.most, .slice B m.L.length d], .int .u8 110] w fun er w' => ∃ vP vL, er = .returned (.agg (mcells { m with n := x } vP vL)) ∧ Rd w0 w' 73 gr b' e' ∧ Ls encI 3 w' w0.heap.size vP ({ m with n := x }).P ∧ Ls encI 3 w' w0.heap.size vL ({ m with n := x }).L ∧ Kept w w' (fun i => i = gr) := by
  have hu := Try.underlying38
  have hu27 := Try.underlying27
  have HBY := Aside0.mk (And.intro hbs hl)
  have HRD := Aside0.mk h; have HP := Aside0.mk hP; have HL := Aside0.mk hL; have HWS := Aside0.mk h.bel.size
  clear h hP hL hbs hl
  have HN := Aside0.mk hv
  clear hv
  go_enter Try.func43, Try.ntmps43
  go_upto_region 21 with (first | ((with_reducible refine gate_dst (N := 4) rfl ?_); refine box_event ?hg (N := 4) ?hd (cs := #[.int .i64 m.k, .int .u64 m.s, .int .u64 m.se, .int .u64 m.a, .int .u64 m.i, .int .u64 m.n, .int .u64 m.c, .int .i64 m.why, .int .u64 m.seed, .slice A m.P.length c, .int .i64 m.most, .slice B m.L.length d]) (t := 38) ?hr ?_; (case hd => rfl); (case hg => rfl); (case hr => first | (go_simp; done) | (go_simp; rfl)); intro gm hgn w5 hbox hb; have HGM := Aside0.mk hbox; have HB5 := Aside0.mk hb; have HNG := Aside0.mk hgn; clear hbox hb hgn) | ((with_reducible refine gate_dst (N := 6) rfl ?_); refine box_event ?hg (N := 6) ?hd (cs := #[.int .i64 0, .int .u64 0, .int .u64 0, .int .u64 0, .int .u64 0, .int .u64 0, .int .u64 0, .int .i64 0, .int .u64 0, .slice none 0 0, .int .i64 0, .slice none 0 0]) (t := 38) ?hr ?_; (case hd => rfl); (case hg => rfl); (case hr => first | (go_simp; done) | (go_simp; rfl)); intro rc hrn w6 hbox hb; have hm6 := (MI.mk (blk_below HGM.out hb) (by rw [HNG.out]; exact HWS.out) ((HP.out.below HB5.out).below hb) ((HL.out.below HB5.out).below hb) : MI w0 w6 38 gm m (.slice A m.P.length c) (.slice B m.L.length d)); have HM6 := Aside0.mk hm6; have HRC := Aside0.mk hbox; have HR6 := Aside0.mk ((HRD.out.keep (below_weaken HRD.out.bel HWS.out (below_step HB5.out hb)) (Kept.of_below (below_step HB5.out hb) (fun _ => False)) (fun h => h)) : Rd w0 w6 73 gr b e); have HB6 := Aside0.mk (below_step HB5.out hb); have HNR := Aside0.mk hrn; have HLT := Aside0.mk (show gm < rc from by rw [hrn]; exact blk_lt HGM.out); clear hbox hb hrn hm6) | (go_at_call 42; (with_reducible refine (num_c_r w0 w6 gr b HBY.out.1 HBY.out.2 e top x b' e' HN.out HR6.out).mono ?_); rintro er w8 ⟨rfl, hr, hk⟩; have HR8 := Aside0.mk hr; obtain ⟨Ar, cr, hrw⟩ := HR6.out.row; have hm9 := HM6.out.kept hk hrw (by decide) (by decide); have HM8 := Aside0.mk hm9; have HK8 := Aside0.mk hk; have HRC8 := Aside0.mk (blk_kept HRC.out hk (blk_ne HRC.out hrw (by decide))); have cz8 := blk_frozen hm9.blk 5; obtain ⟨uc8, cc8⟩ : ∃ u, w8.cell? ⟨gm, 5, none⟩ = some u := ⟨_, blk_cell hm9.blk 5⟩; clear hr hk hm9 hrw))
  obtain ⟨wa, hwa⟩ : ∃ wa, w8.setCell ⟨gm, 5, none⟩ (.int .u64 x) = wa := ⟨_, rfl⟩
  have ra : Rd w0 wa 73 gr b' e' := by rw [← hwa]; exact HR8.out.far HM8.out.blk (by decide) HM8.out.ge 5 _
  have ma : MI w0 wa 38 gm { m with n := x } (.slice A m.P.length c) (.slice B m.L.length d) := by rw [← hwa]; exact HM8.out.puts (by decide) 5 _ rfl rfl rfl
  have rca : wa.heap[rc]? = some (.cells #[.int .i64 0, .int .u64 0, .int .u64 0, .int .u64 0, .int .u64 0, .int .u64 0, .int .u64 0, .int .i64 0, .int .u64 0, .slice none 0 0, .int .i64 0, .slice none 0 0] 38 (0, 0)) := by rw [← hwa]; exact blk_far (p := ⟨gm, 5, none⟩) HRC8.out (Nat.ne_of_gt HLT.out) _
  have ka : Kept w wa (fun i => i = gr) := by
    rw [← hwa]
    have hgm : w.heap.size ≤ gm := by rw [HNG.out]; exact Nat.le_refl _
    have k0 : Kept w w8 (fun i => i = gr) := (Kept.of_below HB6.out _).then_ HK8.out (fun i hi => .inl hi)
    exact k0.then_ (kept_set (F := fun i => i = gm) (Kept.refl _ _) rfl 5 _) (fun i hi => .inr (by rw [hi]; exact hgm))
  have HRA := Aside0.mk ra; have HMA := Aside0.mk ma; have HRCA := Aside0.mk rca; have HKA := Aside0.mk ka
  have u0 : wa.cell? ⟨gm, 0, none⟩ = some (.int .i64 m.k) := blk_cell ma.blk 0
  have uf0 : wa.frozen? ⟨gm, 0, none⟩ = false := blk_frozen ma.blk 0
  have u1 : wa.cell? ⟨gm, 1, none⟩ = some (.int .u64 m.s) := blk_cell ma.blk 1
  have uf1 : wa.frozen? ⟨gm, 1, none⟩ = false := blk_frozen ma.blk 1
  have u2 : wa.cell? ⟨gm, 2, none⟩ = some (.int .u64 m.se) := blk_cell ma.blk 2
  have uf2 : wa.frozen? ⟨gm, 2, none⟩ = false := blk_frozen ma.blk 2
  have u3 : wa.cell? ⟨gm, 3, none⟩ = some (.int .u64 m.a) := blk_cell ma.blk 3
  have uf3 : wa.frozen? ⟨gm, 3, none⟩ = false := blk_frozen ma.blk 3
  have u4 : wa.cell? ⟨gm, 4, none⟩ = some (.int .u64 m.i) := blk_cell ma.blk 4
  have uf4 : wa.frozen? ⟨gm, 4, none⟩ = false := blk_frozen ma.blk 4
  have u5 : wa.cell? ⟨gm, 5, none⟩ = some (.int .u64 x) := blk_cell ma.blk 5
  have uf5 : wa.frozen? ⟨gm, 5, none⟩ = false := blk_frozen ma.blk 5
  have u6 : wa.cell? ⟨gm, 6, none⟩ = some (.int .u64 m.c) := blk_cell ma.blk 6
  have uf6 : wa.frozen? ⟨gm, 6, none⟩ = false := blk_frozen ma.blk 6
  have u7 : wa.cell? ⟨gm, 7, none⟩ = some (.int .i64 m.why) := blk_cell ma.blk 7
  have uf7 : wa.frozen? ⟨gm, 7, none⟩ = false := blk_frozen ma.blk 7
  have u8 : wa.cell? ⟨gm, 8, none⟩ = some (.int .u64 m.seed) := blk_cell ma.blk 8
  have uf8 : wa.frozen? ⟨gm, 8, none⟩ = false := blk_frozen ma.blk 8
  have u9 : wa.cell? ⟨gm, 9, none⟩ = some (.slice A m.P.length c) := blk_cell ma.blk 9
  have uf9 : wa.frozen? ⟨gm, 9, none⟩ = false := blk_frozen ma.blk 9
  have u10 : wa.cell? ⟨gm, 10, none⟩ = some (.int .i64 m.most) := blk_cell ma.blk 10
  have uf10 : wa.frozen? ⟨gm, 10, none⟩ = false := blk_frozen ma.blk 10
  have u11 : wa.cell? ⟨gm, 11, none⟩ = some (.slice B m.L.length d) := blk_cell ma.blk 11
  have uf11 : wa.frozen? ⟨gm, 11, none⟩ = false := blk_frozen ma.blk 11
  have y0 : wa.cell? ⟨rc, 0, none⟩ = some (.int .i64 0) := blk_cell rca 0
  have yf0 : wa.frozen? ⟨rc, 0, none⟩ = false := blk_frozen rca 0
  have y1 : wa.cell? ⟨rc, 1, none⟩ = some (.int .u64 0) := blk_cell rca 1
  have yf1 : wa.frozen? ⟨rc, 1, none⟩ = false := blk_frozen rca 1
  have y2 : wa.cell? ⟨rc, 2, none⟩ = some (.int .u64 0) := blk_cell rca 2
  have yf2 : wa.frozen? ⟨rc, 2, none⟩ = false := blk_frozen rca 2
  have y3 : wa.cell? ⟨rc, 3, none⟩ = some (.int .u64 0) := blk_cell rca 3
  have yf3 : wa.frozen? ⟨rc, 3, none⟩ = false := blk_frozen rca 3
  have y4 : wa.cell? ⟨rc, 4, none⟩ = some (.int .u64 0) := blk_cell rca 4
  have yf4 : wa.frozen? ⟨rc, 4, none⟩ = false := blk_frozen rca 4
  have y5 : wa.cell? ⟨rc, 5, none⟩ = some (.int .u64 0) := blk_cell rca 5
  have yf5 : wa.frozen? ⟨rc, 5, none⟩ = false := blk_frozen rca 5
  have y6 : wa.cell? ⟨rc, 6, none⟩ = some (.int .u64 0) := blk_cell rca 6
  have yf6 : wa.frozen? ⟨rc, 6, none⟩ = false := blk_frozen rca 6
  have y7 : wa.cell? ⟨rc, 7, none⟩ = some (.int .i64 0) := blk_cell rca 7
  have yf7 : wa.frozen? ⟨rc, 7, none⟩ = false := blk_frozen rca 7
  have y8 : wa.cell? ⟨rc, 8, none⟩ = some (.int .u64 0) := blk_cell rca 8
  have yf8 : wa.frozen? ⟨rc, 8, none⟩ = false := blk_frozen rca 8
  have y9 : wa.cell? ⟨rc, 9, none⟩ = some (.slice none 0 0) := blk_cell rca 9
  have yf9 : wa.frozen? ⟨rc, 9, none⟩ = false := blk_frozen rca 9
  have y10 : wa.cell? ⟨rc, 10, none⟩ = some (.int .i64 0) := blk_cell rca 10
  have yf10 : wa.frozen? ⟨rc, 10, none⟩ = false := blk_frozen rca 10
  have y11 : wa.cell? ⟨rc, 11, none⟩ = some (.slice none 0 0) := blk_cell rca 11
  have yf11 : wa.frozen? ⟨rc, 11, none⟩ = false := blk_frozen rca 11
  have n1 : gm ≠ rc := Nat.ne_of_lt HLT.out
  have n2 : rc ≠ gm := Nat.ne_of_gt HLT.out
  rw [hwa]
  clear hwa ra ma rca ka cz8 cc8
  go_wp2_with fail
  (try simp only [Exit.inBlock, Exit.then])
  refine bodyPost_ret (results_cell_row rfl _ _ rc 38 #[.int .i64 m.k, .int .u64 m.s, .int .u64 m.se, .int .u64 m.a, .int .u64 m.i, .int .u64 x, .int .u64 m.c, .int .i64 m.why, .int .u64 m.seed, .slice A m.P.length c, .int .i64 m.most, .slice B m.L.length d] (0, 0) _ rfl (st12_blk HRCA.out _ _ _ _ _ _ _ _ _ _ _ _) Try.underlying38 rfl (by kernel_rfl)) rfl ?_
  obtain ⟨A9, c9, hg9⟩ := HRA.out.row
  have hrcw : w.heap.size ≤ rc := by have h1 := HLT.out; have h2 := HNG.out; omega
  exact ⟨_, _, rfl, HRA.out.keep (st12_bel HRA.out.bel (Nat.le_trans HWS.out hrcw) _ _ _ _ _ _ _ _ _ _ _ _) (st12_kept _ _ _ _ _ _ _ _ _ _ _ _ _ _) (blk_ne hg9 HRCA.out (by decide)), lsK1 HMA.out.P (st12_kept _ _ _ _ _ _ _ _ _ _ _ _ _ _) HRCA.out (by decide), lsK1 HMA.out.L (st12_kept _ _ _ _ _ _ _ _ _ _ _ _ _ _) HRCA.out (by decide), HKA.out.then_ (st12_kept _ _ _ _ _ _ _ _ _ _ _ _ _ _) (fun i hi => .inr (by rw [hi]; exact hrcw))⟩
set_option maxHeartbeats 8000000 in
set_option maxRecDepth 100000 in
theorem fieldr_99 (w0 w : World) (gr : Nat) (b : List Int) (hbs : Bytes b) (hl : b.length ≤ 100000) (e : Int) (m : Ms) (A B : Option Addr) (c d : Nat) (h : Rd w0 w 73 gr b e) (hP : Ls encI 3 w w0.heap.size (.slice A m.P.length c) m.P) (hL : Ls encI 3 w w0.heap.size (.slice B m.L.length d) m.L) (x : Int) (b' : List Int) (e' : Int) (hv : numV b e top = (x, b', e')) :
    Calls Try.prog 43 #[.pointer (some ⟨gr, 0, none⟩), .agg #[.int .i64 m.k, .int .u64 m.s, .int .u64 m.se, .int .u64 m.a, .int .u64 m.i, .int .u64 m.n, .int .u64 m.c, .int .i64 m.why, .int .u64 m.seed, .slice A m.P.length c, .int .i64 m.most, .slice B m.L.length d], .int .u8 99] w fun er w' => ∃ vP vL, er = .returned (.agg (mcells { m with c := x } vP vL)) ∧ Rd w0 w' 73 gr b' e' ∧ Ls encI 3 w' w0.heap.size vP ({ m with c := x }).P ∧ Ls encI 3 w' w0.heap.size vL ({ m with c := x }).L ∧ Kept w w' (fun i => i = gr) := by
  have hu := Try.underlying38
  have hu27 := Try.underlying27
  have HBY := Aside0.mk (And.intro hbs hl)
  have HRD := Aside0.mk h; have HP := Aside0.mk hP; have HL := Aside0.mk hL; have HWS := Aside0.mk h.bel.size
  clear h hP hL hbs hl
  have HN := Aside0.mk hv
  clear hv
  go_enter Try.func43, Try.ntmps43
  go_upto_region 21 with (first | ((with_reducible refine gate_dst (N := 4) rfl ?_); refine box_event ?hg (N := 4) ?hd (cs := #[.int .i64 m.k, .int .u64 m.s, .int .u64 m.se, .int .u64 m.a, .int .u64 m.i, .int .u64 m.n, .int .u64 m.c, .int .i64 m.why, .int .u64 m.seed, .slice A m.P.length c, .int .i64 m.most, .slice B m.L.length d]) (t := 38) ?hr ?_; (case hd => rfl); (case hg => rfl); (case hr => first | (go_simp; done) | (go_simp; rfl)); intro gm hgn w5 hbox hb; have HGM := Aside0.mk hbox; have HB5 := Aside0.mk hb; have HNG := Aside0.mk hgn; clear hbox hb hgn) | ((with_reducible refine gate_dst (N := 6) rfl ?_); refine box_event ?hg (N := 6) ?hd (cs := #[.int .i64 0, .int .u64 0, .int .u64 0, .int .u64 0, .int .u64 0, .int .u64 0, .int .u64 0, .int .i64 0, .int .u64 0, .slice none 0 0, .int .i64 0, .slice none 0 0]) (t := 38) ?hr ?_; (case hd => rfl); (case hg => rfl); (case hr => first | (go_simp; done) | (go_simp; rfl)); intro rc hrn w6 hbox hb; have hm6 := (MI.mk (blk_below HGM.out hb) (by rw [HNG.out]; exact HWS.out) ((HP.out.below HB5.out).below hb) ((HL.out.below HB5.out).below hb) : MI w0 w6 38 gm m (.slice A m.P.length c) (.slice B m.L.length d)); have HM6 := Aside0.mk hm6; have HRC := Aside0.mk hbox; have HR6 := Aside0.mk ((HRD.out.keep (below_weaken HRD.out.bel HWS.out (below_step HB5.out hb)) (Kept.of_below (below_step HB5.out hb) (fun _ => False)) (fun h => h)) : Rd w0 w6 73 gr b e); have HB6 := Aside0.mk (below_step HB5.out hb); have HNR := Aside0.mk hrn; have HLT := Aside0.mk (show gm < rc from by rw [hrn]; exact blk_lt HGM.out); clear hbox hb hrn hm6) | (go_at_call 42; (with_reducible refine (num_c_r w0 w6 gr b HBY.out.1 HBY.out.2 e top x b' e' HN.out HR6.out).mono ?_); rintro er w8 ⟨rfl, hr, hk⟩; have HR8 := Aside0.mk hr; obtain ⟨Ar, cr, hrw⟩ := HR6.out.row; have hm9 := HM6.out.kept hk hrw (by decide) (by decide); have HM8 := Aside0.mk hm9; have HK8 := Aside0.mk hk; have HRC8 := Aside0.mk (blk_kept HRC.out hk (blk_ne HRC.out hrw (by decide))); have cz8 := blk_frozen hm9.blk 6; obtain ⟨uc8, cc8⟩ : ∃ u, w8.cell? ⟨gm, 6, none⟩ = some u := ⟨_, blk_cell hm9.blk 6⟩; clear hr hk hm9 hrw))
  obtain ⟨wa, hwa⟩ : ∃ wa, w8.setCell ⟨gm, 6, none⟩ (.int .u64 x) = wa := ⟨_, rfl⟩
  have ra : Rd w0 wa 73 gr b' e' := by rw [← hwa]; exact HR8.out.far HM8.out.blk (by decide) HM8.out.ge 6 _
  have ma : MI w0 wa 38 gm { m with c := x } (.slice A m.P.length c) (.slice B m.L.length d) := by rw [← hwa]; exact HM8.out.puts (by decide) 6 _ rfl rfl rfl
  have rca : wa.heap[rc]? = some (.cells #[.int .i64 0, .int .u64 0, .int .u64 0, .int .u64 0, .int .u64 0, .int .u64 0, .int .u64 0, .int .i64 0, .int .u64 0, .slice none 0 0, .int .i64 0, .slice none 0 0] 38 (0, 0)) := by rw [← hwa]; exact blk_far (p := ⟨gm, 6, none⟩) HRC8.out (Nat.ne_of_gt HLT.out) _
  have ka : Kept w wa (fun i => i = gr) := by
    rw [← hwa]
    have hgm : w.heap.size ≤ gm := by rw [HNG.out]; exact Nat.le_refl _
    have k0 : Kept w w8 (fun i => i = gr) := (Kept.of_below HB6.out _).then_ HK8.out (fun i hi => .inl hi)
    exact k0.then_ (kept_set (F := fun i => i = gm) (Kept.refl _ _) rfl 6 _) (fun i hi => .inr (by rw [hi]; exact hgm))
  have HRA := Aside0.mk ra; have HMA := Aside0.mk ma; have HRCA := Aside0.mk rca; have HKA := Aside0.mk ka
  have u0 : wa.cell? ⟨gm, 0, none⟩ = some (.int .i64 m.k) := blk_cell ma.blk 0
  have uf0 : wa.frozen? ⟨gm, 0, none⟩ = false := blk_frozen ma.blk 0
  have u1 : wa.cell? ⟨gm, 1, none⟩ = some (.int .u64 m.s) := blk_cell ma.blk 1
  have uf1 : wa.frozen? ⟨gm, 1, none⟩ = false := blk_frozen ma.blk 1
  have u2 : wa.cell? ⟨gm, 2, none⟩ = some (.int .u64 m.se) := blk_cell ma.blk 2
  have uf2 : wa.frozen? ⟨gm, 2, none⟩ = false := blk_frozen ma.blk 2
  have u3 : wa.cell? ⟨gm, 3, none⟩ = some (.int .u64 m.a) := blk_cell ma.blk 3
  have uf3 : wa.frozen? ⟨gm, 3, none⟩ = false := blk_frozen ma.blk 3
  have u4 : wa.cell? ⟨gm, 4, none⟩ = some (.int .u64 m.i) := blk_cell ma.blk 4
  have uf4 : wa.frozen? ⟨gm, 4, none⟩ = false := blk_frozen ma.blk 4
  have u5 : wa.cell? ⟨gm, 5, none⟩ = some (.int .u64 m.n) := blk_cell ma.blk 5
  have uf5 : wa.frozen? ⟨gm, 5, none⟩ = false := blk_frozen ma.blk 5
  have u6 : wa.cell? ⟨gm, 6, none⟩ = some (.int .u64 x) := blk_cell ma.blk 6
  have uf6 : wa.frozen? ⟨gm, 6, none⟩ = false := blk_frozen ma.blk 6
  have u7 : wa.cell? ⟨gm, 7, none⟩ = some (.int .i64 m.why) := blk_cell ma.blk 7
  have uf7 : wa.frozen? ⟨gm, 7, none⟩ = false := blk_frozen ma.blk 7
  have u8 : wa.cell? ⟨gm, 8, none⟩ = some (.int .u64 m.seed) := blk_cell ma.blk 8
  have uf8 : wa.frozen? ⟨gm, 8, none⟩ = false := blk_frozen ma.blk 8
  have u9 : wa.cell? ⟨gm, 9, none⟩ = some (.slice A m.P.length c) := blk_cell ma.blk 9
  have uf9 : wa.frozen? ⟨gm, 9, none⟩ = false := blk_frozen ma.blk 9
  have u10 : wa.cell? ⟨gm, 10, none⟩ = some (.int .i64 m.most) := blk_cell ma.blk 10
  have uf10 : wa.frozen? ⟨gm, 10, none⟩ = false := blk_frozen ma.blk 10
  have u11 : wa.cell? ⟨gm, 11, none⟩ = some (.slice B m.L.length d) := blk_cell ma.blk 11
  have uf11 : wa.frozen? ⟨gm, 11, none⟩ = false := blk_frozen ma.blk 11
  have y0 : wa.cell? ⟨rc, 0, none⟩ = some (.int .i64 0) := blk_cell rca 0
  have yf0 : wa.frozen? ⟨rc, 0, none⟩ = false := blk_frozen rca 0
  have y1 : wa.cell? ⟨rc, 1, none⟩ = some (.int .u64 0) := blk_cell rca 1
  have yf1 : wa.frozen? ⟨rc, 1, none⟩ = false := blk_frozen rca 1
  have y2 : wa.cell? ⟨rc, 2, none⟩ = some (.int .u64 0) := blk_cell rca 2
  have yf2 : wa.frozen? ⟨rc, 2, none⟩ = false := blk_frozen rca 2
  have y3 : wa.cell? ⟨rc, 3, none⟩ = some (.int .u64 0) := blk_cell rca 3
  have yf3 : wa.frozen? ⟨rc, 3, none⟩ = false := blk_frozen rca 3
  have y4 : wa.cell? ⟨rc, 4, none⟩ = some (.int .u64 0) := blk_cell rca 4
  have yf4 : wa.frozen? ⟨rc, 4, none⟩ = false := blk_frozen rca 4
  have y5 : wa.cell? ⟨rc, 5, none⟩ = some (.int .u64 0) := blk_cell rca 5
  have yf5 : wa.frozen? ⟨rc, 5, none⟩ = false := blk_frozen rca 5
  have y6 : wa.cell? ⟨rc, 6, none⟩ = some (.int .u64 0) := blk_cell rca 6
  have yf6 : wa.frozen? ⟨rc, 6, none⟩ = false := blk_frozen rca 6
  have y7 : wa.cell? ⟨rc, 7, none⟩ = some (.int .i64 0) := blk_cell rca 7
  have yf7 : wa.frozen? ⟨rc, 7, none⟩ = false := blk_frozen rca 7
  have y8 : wa.cell? ⟨rc, 8, none⟩ = some (.int .u64 0) := blk_cell rca 8
  have yf8 : wa.frozen? ⟨rc, 8, none⟩ = false := blk_frozen rca 8
  have y9 : wa.cell? ⟨rc, 9, none⟩ = some (.slice none 0 0) := blk_cell rca 9
  have yf9 : wa.frozen? ⟨rc, 9, none⟩ = false := blk_frozen rca 9
  have y10 : wa.cell? ⟨rc, 10, none⟩ = some (.int .i64 0) := blk_cell rca 10
  have yf10 : wa.frozen? ⟨rc, 10, none⟩ = false := blk_frozen rca 10
  have y11 : wa.cell? ⟨rc, 11, none⟩ = some (.slice none 0 0) := blk_cell rca 11
  have yf11 : wa.frozen? ⟨rc, 11, none⟩ = false := blk_frozen rca 11
  have n1 : gm ≠ rc := Nat.ne_of_lt HLT.out
  have n2 : rc ≠ gm := Nat.ne_of_gt HLT.out
  rw [hwa]
  clear hwa ra ma rca ka cz8 cc8
  go_wp2_with fail
  (try simp only [Exit.inBlock, Exit.then])
  refine bodyPost_ret (results_cell_row rfl _ _ rc 38 #[.int .i64 m.k, .int .u64 m.s, .int .u64 m.se, .int .u64 m.a, .int .u64 m.i, .int .u64 m.n, .int .u64 x, .int .i64 m.why, .int .u64 m.seed, .slice A m.P.length c, .int .i64 m.most, .slice B m.L.length d] (0, 0) _ rfl (st12_blk HRCA.out _ _ _ _ _ _ _ _ _ _ _ _) Try.underlying38 rfl (by kernel_rfl)) rfl ?_
  obtain ⟨A9, c9, hg9⟩ := HRA.out.row
  have hrcw : w.heap.size ≤ rc := by have h1 := HLT.out; have h2 := HNG.out; omega
  exact ⟨_, _, rfl, HRA.out.keep (st12_bel HRA.out.bel (Nat.le_trans HWS.out hrcw) _ _ _ _ _ _ _ _ _ _ _ _) (st12_kept _ _ _ _ _ _ _ _ _ _ _ _ _ _) (blk_ne hg9 HRCA.out (by decide)), lsK1 HMA.out.P (st12_kept _ _ _ _ _ _ _ _ _ _ _ _ _ _) HRCA.out (by decide), lsK1 HMA.out.L (st12_kept _ _ _ _ _ _ _ _ _ _ _ _ _ _) HRCA.out (by decide), HKA.out.then_ (st12_kept _ _ _ _ _ _ _ _ _ _ _ _ _ _) (fun i hi => .inr (by rw [hi]; exact hrcw))⟩
set_option maxHeartbeats 8000000 in
set_option maxRecDepth 100000 in
theorem fieldr_119 (w0 w : World) (gr : Nat) (b : List Int) (hbs : Bytes b) (hl : b.length ≤ 100000) (e : Int) (m : Ms) (A B : Option Addr) (c d : Nat) (h : Rd w0 w 73 gr b e) (hP : Ls encI 3 w w0.heap.size (.slice A m.P.length c) m.P) (hL : Ls encI 3 w w0.heap.size (.slice B m.L.length d) m.L) (x : Int) (b' : List Int) (e' : Int) (hv : numV b e 255 = (x, b', e')) :
    Calls Try.prog 43 #[.pointer (some ⟨gr, 0, none⟩), .agg #[.int .i64 m.k, .int .u64 m.s, .int .u64 m.se, .int .u64 m.a, .int .u64 m.i, .int .u64 m.n, .int .u64 m.c, .int .i64 m.why, .int .u64 m.seed, .slice A m.P.length c, .int .i64 m.most, .slice B m.L.length d], .int .u8 119] w fun er w' => ∃ vP vL, er = .returned (.agg (mcells { m with why := x } vP vL)) ∧ Rd w0 w' 73 gr b' e' ∧ Ls encI 3 w' w0.heap.size vP ({ m with why := x }).P ∧ Ls encI 3 w' w0.heap.size vL ({ m with why := x }).L ∧ Kept w w' (fun i => i = gr) := by
  have hu := Try.underlying38
  have hu27 := Try.underlying27
  have HBY := Aside0.mk (And.intro hbs hl)
  have HRD := Aside0.mk h; have HP := Aside0.mk hP; have HL := Aside0.mk hL; have HWS := Aside0.mk h.bel.size
  clear h hP hL hbs hl
  have hbd := num_bd HBY.out.1 e 255 (by decide)
  rw [hv] at hbd
  dsimp only at hbd
  have ex : wrap64 x = x := w64 (by omega) (by omega)
  have HN := Aside0.mk hv
  clear hv hbd
  go_enter Try.func43, Try.ntmps43
  go_upto_region 21 with (first | ((with_reducible refine gate_dst (N := 4) rfl ?_); refine box_event ?hg (N := 4) ?hd (cs := #[.int .i64 m.k, .int .u64 m.s, .int .u64 m.se, .int .u64 m.a, .int .u64 m.i, .int .u64 m.n, .int .u64 m.c, .int .i64 m.why, .int .u64 m.seed, .slice A m.P.length c, .int .i64 m.most, .slice B m.L.length d]) (t := 38) ?hr ?_; (case hd => rfl); (case hg => rfl); (case hr => first | (go_simp; done) | (go_simp; rfl)); intro gm hgn w5 hbox hb; have HGM := Aside0.mk hbox; have HB5 := Aside0.mk hb; have HNG := Aside0.mk hgn; clear hbox hb hgn) | ((with_reducible refine gate_dst (N := 6) rfl ?_); refine box_event ?hg (N := 6) ?hd (cs := #[.int .i64 0, .int .u64 0, .int .u64 0, .int .u64 0, .int .u64 0, .int .u64 0, .int .u64 0, .int .i64 0, .int .u64 0, .slice none 0 0, .int .i64 0, .slice none 0 0]) (t := 38) ?hr ?_; (case hd => rfl); (case hg => rfl); (case hr => first | (go_simp; done) | (go_simp; rfl)); intro rc hrn w6 hbox hb; have hm6 := (MI.mk (blk_below HGM.out hb) (by rw [HNG.out]; exact HWS.out) ((HP.out.below HB5.out).below hb) ((HL.out.below HB5.out).below hb) : MI w0 w6 38 gm m (.slice A m.P.length c) (.slice B m.L.length d)); have HM6 := Aside0.mk hm6; have HRC := Aside0.mk hbox; have HR6 := Aside0.mk ((HRD.out.keep (below_weaken HRD.out.bel HWS.out (below_step HB5.out hb)) (Kept.of_below (below_step HB5.out hb) (fun _ => False)) (fun h => h)) : Rd w0 w6 73 gr b e); have HB6 := Aside0.mk (below_step HB5.out hb); have HNR := Aside0.mk hrn; have HLT := Aside0.mk (show gm < rc from by rw [hrn]; exact blk_lt HGM.out); clear hbox hb hrn hm6) | (go_at_call 42; (with_reducible refine (num_c_r w0 w6 gr b HBY.out.1 HBY.out.2 e 255 x b' e' HN.out HR6.out).mono ?_); rintro er w8 ⟨rfl, hr, hk⟩; have HR8 := Aside0.mk hr; obtain ⟨Ar, cr, hrw⟩ := HR6.out.row; have hm9 := HM6.out.kept hk hrw (by decide) (by decide); have HM8 := Aside0.mk hm9; have HK8 := Aside0.mk hk; have HRC8 := Aside0.mk (blk_kept HRC.out hk (blk_ne HRC.out hrw (by decide))); have cz8 := blk_frozen hm9.blk 7; obtain ⟨uc8, cc8⟩ : ∃ u, w8.cell? ⟨gm, 7, none⟩ = some u := ⟨_, blk_cell hm9.blk 7⟩; clear hr hk hm9 hrw))
  obtain ⟨wa, hwa⟩ : ∃ wa, w8.setCell ⟨gm, 7, none⟩ (.int .i64 x) = wa := ⟨_, rfl⟩
  have ra : Rd w0 wa 73 gr b' e' := by rw [← hwa]; exact HR8.out.far HM8.out.blk (by decide) HM8.out.ge 7 _
  have ma : MI w0 wa 38 gm { m with why := x } (.slice A m.P.length c) (.slice B m.L.length d) := by rw [← hwa]; exact HM8.out.puts (by decide) 7 _ rfl rfl rfl
  have rca : wa.heap[rc]? = some (.cells #[.int .i64 0, .int .u64 0, .int .u64 0, .int .u64 0, .int .u64 0, .int .u64 0, .int .u64 0, .int .i64 0, .int .u64 0, .slice none 0 0, .int .i64 0, .slice none 0 0] 38 (0, 0)) := by rw [← hwa]; exact blk_far (p := ⟨gm, 7, none⟩) HRC8.out (Nat.ne_of_gt HLT.out) _
  have ka : Kept w wa (fun i => i = gr) := by
    rw [← hwa]
    have hgm : w.heap.size ≤ gm := by rw [HNG.out]; exact Nat.le_refl _
    have k0 : Kept w w8 (fun i => i = gr) := (Kept.of_below HB6.out _).then_ HK8.out (fun i hi => .inl hi)
    exact k0.then_ (kept_set (F := fun i => i = gm) (Kept.refl _ _) rfl 7 _) (fun i hi => .inr (by rw [hi]; exact hgm))
  have HRA := Aside0.mk ra; have HMA := Aside0.mk ma; have HRCA := Aside0.mk rca; have HKA := Aside0.mk ka
  have u0 : wa.cell? ⟨gm, 0, none⟩ = some (.int .i64 m.k) := blk_cell ma.blk 0
  have uf0 : wa.frozen? ⟨gm, 0, none⟩ = false := blk_frozen ma.blk 0
  have u1 : wa.cell? ⟨gm, 1, none⟩ = some (.int .u64 m.s) := blk_cell ma.blk 1
  have uf1 : wa.frozen? ⟨gm, 1, none⟩ = false := blk_frozen ma.blk 1
  have u2 : wa.cell? ⟨gm, 2, none⟩ = some (.int .u64 m.se) := blk_cell ma.blk 2
  have uf2 : wa.frozen? ⟨gm, 2, none⟩ = false := blk_frozen ma.blk 2
  have u3 : wa.cell? ⟨gm, 3, none⟩ = some (.int .u64 m.a) := blk_cell ma.blk 3
  have uf3 : wa.frozen? ⟨gm, 3, none⟩ = false := blk_frozen ma.blk 3
  have u4 : wa.cell? ⟨gm, 4, none⟩ = some (.int .u64 m.i) := blk_cell ma.blk 4
  have uf4 : wa.frozen? ⟨gm, 4, none⟩ = false := blk_frozen ma.blk 4
  have u5 : wa.cell? ⟨gm, 5, none⟩ = some (.int .u64 m.n) := blk_cell ma.blk 5
  have uf5 : wa.frozen? ⟨gm, 5, none⟩ = false := blk_frozen ma.blk 5
  have u6 : wa.cell? ⟨gm, 6, none⟩ = some (.int .u64 m.c) := blk_cell ma.blk 6
  have uf6 : wa.frozen? ⟨gm, 6, none⟩ = false := blk_frozen ma.blk 6
  have u7 : wa.cell? ⟨gm, 7, none⟩ = some (.int .i64 x) := blk_cell ma.blk 7
  have uf7 : wa.frozen? ⟨gm, 7, none⟩ = false := blk_frozen ma.blk 7
  have u8 : wa.cell? ⟨gm, 8, none⟩ = some (.int .u64 m.seed) := blk_cell ma.blk 8
  have uf8 : wa.frozen? ⟨gm, 8, none⟩ = false := blk_frozen ma.blk 8
  have u9 : wa.cell? ⟨gm, 9, none⟩ = some (.slice A m.P.length c) := blk_cell ma.blk 9
  have uf9 : wa.frozen? ⟨gm, 9, none⟩ = false := blk_frozen ma.blk 9
  have u10 : wa.cell? ⟨gm, 10, none⟩ = some (.int .i64 m.most) := blk_cell ma.blk 10
  have uf10 : wa.frozen? ⟨gm, 10, none⟩ = false := blk_frozen ma.blk 10
  have u11 : wa.cell? ⟨gm, 11, none⟩ = some (.slice B m.L.length d) := blk_cell ma.blk 11
  have uf11 : wa.frozen? ⟨gm, 11, none⟩ = false := blk_frozen ma.blk 11
  have y0 : wa.cell? ⟨rc, 0, none⟩ = some (.int .i64 0) := blk_cell rca 0
  have yf0 : wa.frozen? ⟨rc, 0, none⟩ = false := blk_frozen rca 0
  have y1 : wa.cell? ⟨rc, 1, none⟩ = some (.int .u64 0) := blk_cell rca 1
  have yf1 : wa.frozen? ⟨rc, 1, none⟩ = false := blk_frozen rca 1
  have y2 : wa.cell? ⟨rc, 2, none⟩ = some (.int .u64 0) := blk_cell rca 2
  have yf2 : wa.frozen? ⟨rc, 2, none⟩ = false := blk_frozen rca 2
  have y3 : wa.cell? ⟨rc, 3, none⟩ = some (.int .u64 0) := blk_cell rca 3
  have yf3 : wa.frozen? ⟨rc, 3, none⟩ = false := blk_frozen rca 3
  have y4 : wa.cell? ⟨rc, 4, none⟩ = some (.int .u64 0) := blk_cell rca 4
  have yf4 : wa.frozen? ⟨rc, 4, none⟩ = false := blk_frozen rca 4
  have y5 : wa.cell? ⟨rc, 5, none⟩ = some (.int .u64 0) := blk_cell rca 5
  have yf5 : wa.frozen? ⟨rc, 5, none⟩ = false := blk_frozen rca 5
  have y6 : wa.cell? ⟨rc, 6, none⟩ = some (.int .u64 0) := blk_cell rca 6
  have yf6 : wa.frozen? ⟨rc, 6, none⟩ = false := blk_frozen rca 6
  have y7 : wa.cell? ⟨rc, 7, none⟩ = some (.int .i64 0) := blk_cell rca 7
  have yf7 : wa.frozen? ⟨rc, 7, none⟩ = false := blk_frozen rca 7
  have y8 : wa.cell? ⟨rc, 8, none⟩ = some (.int .u64 0) := blk_cell rca 8
  have yf8 : wa.frozen? ⟨rc, 8, none⟩ = false := blk_frozen rca 8
  have y9 : wa.cell? ⟨rc, 9, none⟩ = some (.slice none 0 0) := blk_cell rca 9
  have yf9 : wa.frozen? ⟨rc, 9, none⟩ = false := blk_frozen rca 9
  have y10 : wa.cell? ⟨rc, 10, none⟩ = some (.int .i64 0) := blk_cell rca 10
  have yf10 : wa.frozen? ⟨rc, 10, none⟩ = false := blk_frozen rca 10
  have y11 : wa.cell? ⟨rc, 11, none⟩ = some (.slice none 0 0) := blk_cell rca 11
  have yf11 : wa.frozen? ⟨rc, 11, none⟩ = false := blk_frozen rca 11
  have n1 : gm ≠ rc := Nat.ne_of_lt HLT.out
  have n2 : rc ≠ gm := Nat.ne_of_gt HLT.out
  rw [hwa]
  clear hwa ra ma rca ka cz8 cc8
  go_wp2_with fail
  (try simp only [Exit.inBlock, Exit.then])
  refine bodyPost_ret (results_cell_row rfl _ _ rc 38 #[.int .i64 m.k, .int .u64 m.s, .int .u64 m.se, .int .u64 m.a, .int .u64 m.i, .int .u64 m.n, .int .u64 m.c, .int .i64 x, .int .u64 m.seed, .slice A m.P.length c, .int .i64 m.most, .slice B m.L.length d] (0, 0) _ rfl (st12_blk HRCA.out _ _ _ _ _ _ _ _ _ _ _ _) Try.underlying38 rfl (by kernel_rfl)) rfl ?_
  obtain ⟨A9, c9, hg9⟩ := HRA.out.row
  have hrcw : w.heap.size ≤ rc := by have h1 := HLT.out; have h2 := HNG.out; omega
  exact ⟨_, _, rfl, HRA.out.keep (st12_bel HRA.out.bel (Nat.le_trans HWS.out hrcw) _ _ _ _ _ _ _ _ _ _ _ _) (st12_kept _ _ _ _ _ _ _ _ _ _ _ _ _ _) (blk_ne hg9 HRCA.out (by decide)), lsK1 HMA.out.P (st12_kept _ _ _ _ _ _ _ _ _ _ _ _ _ _) HRCA.out (by decide), lsK1 HMA.out.L (st12_kept _ _ _ _ _ _ _ _ _ _ _ _ _ _) HRCA.out (by decide), HKA.out.then_ (st12_kept _ _ _ _ _ _ _ _ _ _ _ _ _ _) (fun i hi => .inr (by rw [hi]; exact hrcw))⟩
set_option maxHeartbeats 8000000 in
set_option maxRecDepth 100000 in
theorem fieldr_108 (w0 w : World) (gr : Nat) (b : List Int) (hbs : Bytes b) (hl : b.length ≤ 100000) (e : Int) (m : Ms) (A B : Option Addr) (c d : Nat) (h : Rd w0 w 73 gr b e) (hP : Ls encI 3 w w0.heap.size (.slice A m.P.length c) m.P) (hL : Ls encI 3 w w0.heap.size (.slice B m.L.length d) m.L) (xs : List Int) (b' : List Int) (e' : Int) (hv : listV b e = (xs, b', e')) :
    Calls Try.prog 43 #[.pointer (some ⟨gr, 0, none⟩), .agg #[.int .i64 m.k, .int .u64 m.s, .int .u64 m.se, .int .u64 m.a, .int .u64 m.i, .int .u64 m.n, .int .u64 m.c, .int .i64 m.why, .int .u64 m.seed, .slice A m.P.length c, .int .i64 m.most, .slice B m.L.length d], .int .u8 108] w fun er w' => ∃ vP vL, er = .returned (.agg (mcells { m with L := xs } vP vL)) ∧ Rd w0 w' 73 gr b' e' ∧ Ls encI 3 w' w0.heap.size vP ({ m with L := xs }).P ∧ Ls encI 3 w' w0.heap.size vL ({ m with L := xs }).L ∧ Kept w w' (fun i => i = gr) := by
  have hu := Try.underlying38
  have hu27 := Try.underlying27
  have HBY := Aside0.mk (And.intro hbs hl)
  have HRD := Aside0.mk h; have HP := Aside0.mk hP; have HL := Aside0.mk hL; have HWS := Aside0.mk h.bel.size
  clear h hP hL hbs hl
  have HN := Aside0.mk hv
  clear hv
  go_enter Try.func43, Try.ntmps43
  go_upto_region 21 with (first | ((with_reducible refine gate_dst (N := 4) rfl ?_); refine box_event ?hg (N := 4) ?hd (cs := #[.int .i64 m.k, .int .u64 m.s, .int .u64 m.se, .int .u64 m.a, .int .u64 m.i, .int .u64 m.n, .int .u64 m.c, .int .i64 m.why, .int .u64 m.seed, .slice A m.P.length c, .int .i64 m.most, .slice B m.L.length d]) (t := 38) ?hr ?_; (case hd => rfl); (case hg => rfl); (case hr => first | (go_simp; done) | (go_simp; rfl)); intro gm hgn w5 hbox hb; have HGM := Aside0.mk hbox; have HB5 := Aside0.mk hb; have HNG := Aside0.mk hgn; clear hbox hb hgn) | ((with_reducible refine gate_dst (N := 6) rfl ?_); refine box_event ?hg (N := 6) ?hd (cs := #[.int .i64 0, .int .u64 0, .int .u64 0, .int .u64 0, .int .u64 0, .int .u64 0, .int .u64 0, .int .i64 0, .int .u64 0, .slice none 0 0, .int .i64 0, .slice none 0 0]) (t := 38) ?hr ?_; (case hd => rfl); (case hg => rfl); (case hr => first | (go_simp; done) | (go_simp; rfl)); intro rc hrn w6 hbox hb; have hm6 := (MI.mk (blk_below HGM.out hb) (by rw [HNG.out]; exact HWS.out) ((HP.out.below HB5.out).below hb) ((HL.out.below HB5.out).below hb) : MI w0 w6 38 gm m (.slice A m.P.length c) (.slice B m.L.length d)); have HM6 := Aside0.mk hm6; have HRC := Aside0.mk hbox; have HR6 := Aside0.mk ((HRD.out.keep (below_weaken HRD.out.bel HWS.out (below_step HB5.out hb)) (Kept.of_below (below_step HB5.out hb) (fun _ => False)) (fun h => h)) : Rd w0 w6 73 gr b e); have HB6 := Aside0.mk (below_step HB5.out hb); have HNR := Aside0.mk hrn; have HLT := Aside0.mk (show gm < rc from by rw [hrn]; exact blk_lt HGM.out); clear hbox hb hrn hm6) | (go_at_call 59; (with_reducible refine (list_c_r w0 w6 gr b HBY.out.1 HBY.out.2 e xs b' e' HN.out HR6.out).mono ?_); rintro er w8 ⟨v, rfl, hls, hr, hk⟩; obtain ⟨A8, c8, rfl, _, _⟩ := hls.form; have HR8 := Aside0.mk hr; obtain ⟨Ar, cr, hrw⟩ := HR6.out.row; have hm9 := HM6.out.kept hk hrw (by decide) (by decide); have HM8 := Aside0.mk hm9; have HK8 := Aside0.mk hk; have HV8 := Aside0.mk (hls.lower HR6.out.bel.size); have HRC8 := Aside0.mk (blk_kept HRC.out hk (blk_ne HRC.out hrw (by decide))); have cz8 := blk_frozen hm9.blk 11; obtain ⟨uc8, cc8⟩ : ∃ u, w8.cell? ⟨gm, 11, none⟩ = some u := ⟨_, blk_cell hm9.blk 11⟩; clear hr hk hm9 hrw hls))
  obtain ⟨wa, hwa⟩ : ∃ wa, w8.setCell ⟨gm, 11, none⟩ (.slice A8 xs.length c8) = wa := ⟨_, rfl⟩
  have ra : Rd w0 wa 73 gr b' e' := by rw [← hwa]; exact HR8.out.far HM8.out.blk (by decide) HM8.out.ge 11 _
  have ma : MI w0 wa 38 gm { m with L := xs } (.slice A m.P.length c) (.slice A8 xs.length c8) := by rw [← hwa]; exact HM8.out.put (by decide) 11 _ rfl HM8.out.P HV8.out
  have rca : wa.heap[rc]? = some (.cells #[.int .i64 0, .int .u64 0, .int .u64 0, .int .u64 0, .int .u64 0, .int .u64 0, .int .u64 0, .int .i64 0, .int .u64 0, .slice none 0 0, .int .i64 0, .slice none 0 0] 38 (0, 0)) := by rw [← hwa]; exact blk_far (p := ⟨gm, 11, none⟩) HRC8.out (Nat.ne_of_gt HLT.out) _
  have ka : Kept w wa (fun i => i = gr) := by
    rw [← hwa]
    have hgm : w.heap.size ≤ gm := by rw [HNG.out]; exact Nat.le_refl _
    have k0 : Kept w w8 (fun i => i = gr) := (Kept.of_below HB6.out _).then_ HK8.out (fun i hi => .inl hi)
    exact k0.then_ (kept_set (F := fun i => i = gm) (Kept.refl _ _) rfl 11 _) (fun i hi => .inr (by rw [hi]; exact hgm))
  have HRA := Aside0.mk ra; have HMA := Aside0.mk ma; have HRCA := Aside0.mk rca; have HKA := Aside0.mk ka
  have u0 : wa.cell? ⟨gm, 0, none⟩ = some (.int .i64 m.k) := blk_cell ma.blk 0
  have uf0 : wa.frozen? ⟨gm, 0, none⟩ = false := blk_frozen ma.blk 0
  have u1 : wa.cell? ⟨gm, 1, none⟩ = some (.int .u64 m.s) := blk_cell ma.blk 1
  have uf1 : wa.frozen? ⟨gm, 1, none⟩ = false := blk_frozen ma.blk 1
  have u2 : wa.cell? ⟨gm, 2, none⟩ = some (.int .u64 m.se) := blk_cell ma.blk 2
  have uf2 : wa.frozen? ⟨gm, 2, none⟩ = false := blk_frozen ma.blk 2
  have u3 : wa.cell? ⟨gm, 3, none⟩ = some (.int .u64 m.a) := blk_cell ma.blk 3
  have uf3 : wa.frozen? ⟨gm, 3, none⟩ = false := blk_frozen ma.blk 3
  have u4 : wa.cell? ⟨gm, 4, none⟩ = some (.int .u64 m.i) := blk_cell ma.blk 4
  have uf4 : wa.frozen? ⟨gm, 4, none⟩ = false := blk_frozen ma.blk 4
  have u5 : wa.cell? ⟨gm, 5, none⟩ = some (.int .u64 m.n) := blk_cell ma.blk 5
  have uf5 : wa.frozen? ⟨gm, 5, none⟩ = false := blk_frozen ma.blk 5
  have u6 : wa.cell? ⟨gm, 6, none⟩ = some (.int .u64 m.c) := blk_cell ma.blk 6
  have uf6 : wa.frozen? ⟨gm, 6, none⟩ = false := blk_frozen ma.blk 6
  have u7 : wa.cell? ⟨gm, 7, none⟩ = some (.int .i64 m.why) := blk_cell ma.blk 7
  have uf7 : wa.frozen? ⟨gm, 7, none⟩ = false := blk_frozen ma.blk 7
  have u8 : wa.cell? ⟨gm, 8, none⟩ = some (.int .u64 m.seed) := blk_cell ma.blk 8
  have uf8 : wa.frozen? ⟨gm, 8, none⟩ = false := blk_frozen ma.blk 8
  have u9 : wa.cell? ⟨gm, 9, none⟩ = some (.slice A m.P.length c) := blk_cell ma.blk 9
  have uf9 : wa.frozen? ⟨gm, 9, none⟩ = false := blk_frozen ma.blk 9
  have u10 : wa.cell? ⟨gm, 10, none⟩ = some (.int .i64 m.most) := blk_cell ma.blk 10
  have uf10 : wa.frozen? ⟨gm, 10, none⟩ = false := blk_frozen ma.blk 10
  have u11 : wa.cell? ⟨gm, 11, none⟩ = some (.slice A8 xs.length c8) := blk_cell ma.blk 11
  have uf11 : wa.frozen? ⟨gm, 11, none⟩ = false := blk_frozen ma.blk 11
  have y0 : wa.cell? ⟨rc, 0, none⟩ = some (.int .i64 0) := blk_cell rca 0
  have yf0 : wa.frozen? ⟨rc, 0, none⟩ = false := blk_frozen rca 0
  have y1 : wa.cell? ⟨rc, 1, none⟩ = some (.int .u64 0) := blk_cell rca 1
  have yf1 : wa.frozen? ⟨rc, 1, none⟩ = false := blk_frozen rca 1
  have y2 : wa.cell? ⟨rc, 2, none⟩ = some (.int .u64 0) := blk_cell rca 2
  have yf2 : wa.frozen? ⟨rc, 2, none⟩ = false := blk_frozen rca 2
  have y3 : wa.cell? ⟨rc, 3, none⟩ = some (.int .u64 0) := blk_cell rca 3
  have yf3 : wa.frozen? ⟨rc, 3, none⟩ = false := blk_frozen rca 3
  have y4 : wa.cell? ⟨rc, 4, none⟩ = some (.int .u64 0) := blk_cell rca 4
  have yf4 : wa.frozen? ⟨rc, 4, none⟩ = false := blk_frozen rca 4
  have y5 : wa.cell? ⟨rc, 5, none⟩ = some (.int .u64 0) := blk_cell rca 5
  have yf5 : wa.frozen? ⟨rc, 5, none⟩ = false := blk_frozen rca 5
  have y6 : wa.cell? ⟨rc, 6, none⟩ = some (.int .u64 0) := blk_cell rca 6
  have yf6 : wa.frozen? ⟨rc, 6, none⟩ = false := blk_frozen rca 6
  have y7 : wa.cell? ⟨rc, 7, none⟩ = some (.int .i64 0) := blk_cell rca 7
  have yf7 : wa.frozen? ⟨rc, 7, none⟩ = false := blk_frozen rca 7
  have y8 : wa.cell? ⟨rc, 8, none⟩ = some (.int .u64 0) := blk_cell rca 8
  have yf8 : wa.frozen? ⟨rc, 8, none⟩ = false := blk_frozen rca 8
  have y9 : wa.cell? ⟨rc, 9, none⟩ = some (.slice none 0 0) := blk_cell rca 9
  have yf9 : wa.frozen? ⟨rc, 9, none⟩ = false := blk_frozen rca 9
  have y10 : wa.cell? ⟨rc, 10, none⟩ = some (.int .i64 0) := blk_cell rca 10
  have yf10 : wa.frozen? ⟨rc, 10, none⟩ = false := blk_frozen rca 10
  have y11 : wa.cell? ⟨rc, 11, none⟩ = some (.slice none 0 0) := blk_cell rca 11
  have yf11 : wa.frozen? ⟨rc, 11, none⟩ = false := blk_frozen rca 11
  have n1 : gm ≠ rc := Nat.ne_of_lt HLT.out
  have n2 : rc ≠ gm := Nat.ne_of_gt HLT.out
  rw [hwa]
  clear hwa ra ma rca ka cz8 cc8
  go_wp2_with fail
  (try simp only [Exit.inBlock, Exit.then])
  refine bodyPost_ret (results_cell_row rfl _ _ rc 38 #[.int .i64 m.k, .int .u64 m.s, .int .u64 m.se, .int .u64 m.a, .int .u64 m.i, .int .u64 m.n, .int .u64 m.c, .int .i64 m.why, .int .u64 m.seed, .slice A m.P.length c, .int .i64 m.most, .slice A8 xs.length c8] (0, 0) _ rfl (st12_blk HRCA.out _ _ _ _ _ _ _ _ _ _ _ _) Try.underlying38 rfl (by kernel_rfl)) rfl ?_
  obtain ⟨A9, c9, hg9⟩ := HRA.out.row
  have hrcw : w.heap.size ≤ rc := by have h1 := HLT.out; have h2 := HNG.out; omega
  exact ⟨_, _, rfl, HRA.out.keep (st12_bel HRA.out.bel (Nat.le_trans HWS.out hrcw) _ _ _ _ _ _ _ _ _ _ _ _) (st12_kept _ _ _ _ _ _ _ _ _ _ _ _ _ _) (blk_ne hg9 HRCA.out (by decide)), lsK1 HMA.out.P (st12_kept _ _ _ _ _ _ _ _ _ _ _ _ _ _) HRCA.out (by decide), lsK1 HMA.out.L (st12_kept _ _ _ _ _ _ _ _ _ _ _ _ _ _) HRCA.out (by decide), HKA.out.then_ (st12_kept _ _ _ _ _ _ _ _ _ _ _ _ _ _) (fun i hi => .inr (by rw [hi]; exact hrcw))⟩
set_option maxHeartbeats 8000000 in
set_option maxRecDepth 100000 in
theorem fieldr_106 (w0 w : World) (gr : Nat) (b : List Int) (hbs : Bytes b) (hl : b.length ≤ 100000) (e : Int) (m : Ms) (A B : Option Addr) (c d : Nat) (h : Rd w0 w 73 gr b e) (hP : Ls encI 3 w w0.heap.size (.slice A m.P.length c) m.P) (hL : Ls encI 3 w w0.heap.size (.slice B m.L.length d) m.L) (x1 x2 : Int) (xs b1 b2 b' : List Int) (e1 e2 e' : Int) (hv1 : numV b e top = (x1, b1, e1)) (hv2 : numV b1 e1 256 = (x2, b2, e2)) (hv3 : listV b2 e2 = (xs, b', e')) :
    Calls Try.prog 43 #[.pointer (some ⟨gr, 0, none⟩), .agg #[.int .i64 m.k, .int .u64 m.s, .int .u64 m.se, .int .u64 m.a, .int .u64 m.i, .int .u64 m.n, .int .u64 m.c, .int .i64 m.why, .int .u64 m.seed, .slice A m.P.length c, .int .i64 m.most, .slice B m.L.length d], .int .u8 106] w fun er w' => ∃ vP vL, er = .returned (.agg (mcells { m with seed := x1, most := x2, P := xs } vP vL)) ∧ Rd w0 w' 73 gr b' e' ∧ Ls encI 3 w' w0.heap.size vP ({ m with seed := x1, most := x2, P := xs }).P ∧ Ls encI 3 w' w0.heap.size vL ({ m with seed := x1, most := x2, P := xs }).L ∧ Kept w w' (fun i => i = gr) := by
  have hu := Try.underlying38
  have hu27 := Try.underlying27
  have HBY := Aside0.mk (And.intro hbs hl)
  have HRD := Aside0.mk h; have HP := Aside0.mk hP; have HL := Aside0.mk hL; have HWS := Aside0.mk h.bel.size
  clear h hP hL hbs hl
  have hd1 := num_bd HBY.out.1 e top (by decide)
  rw [hv1] at hd1
  dsimp only at hd1
  have hd2 := num_bd hd1.2.2.1 e1 256 (by decide)
  rw [hv2] at hd2
  dsimp only at hd2
  have ex : wrap64 x2 = x2 := w64 (by have := hd2.1; omega) (by have := hd2.2.1; omega)
  have HD := Aside0.mk (show (Bytes b1 ∧ b1.length ≤ 100000) ∧ Bytes b2 ∧ b2.length ≤ 100000 from ⟨⟨hd1.2.2.1, Nat.le_trans hd1.2.2.2 HBY.out.2⟩, hd2.2.2.1, Nat.le_trans hd2.2.2.2 (Nat.le_trans hd1.2.2.2 HBY.out.2)⟩)
  have HN := Aside0.mk hv1; have HV2 := Aside0.mk hv2; have HV3 := Aside0.mk hv3
  clear hv1 hv2 hv3 hd1 hd2
  go_enter Try.func43, Try.ntmps43
  go_upto_region 19 with (first | ((with_reducible refine gate_dst (N := 4) rfl ?_); refine box_event ?hg (N := 4) ?hd (cs := #[.int .i64 m.k, .int .u64 m.s, .int .u64 m.se, .int .u64 m.a, .int .u64 m.i, .int .u64 m.n, .int .u64 m.c, .int .i64 m.why, .int .u64 m.seed, .slice A m.P.length c, .int .i64 m.most, .slice B m.L.length d]) (t := 38) ?hr ?_; (case hd => rfl); (case hg => rfl); (case hr => first | (go_simp; done) | (go_simp; rfl)); intro gm hgn w5 hbox hb; have HGM := Aside0.mk hbox; have HB5 := Aside0.mk hb; have HNG := Aside0.mk hgn; clear hbox hb hgn) | ((with_reducible refine gate_dst (N := 6) rfl ?_); refine box_event ?hg (N := 6) ?hd (cs := #[.int .i64 0, .int .u64 0, .int .u64 0, .int .u64 0, .int .u64 0, .int .u64 0, .int .u64 0, .int .i64 0, .int .u64 0, .slice none 0 0, .int .i64 0, .slice none 0 0]) (t := 38) ?hr ?_; (case hd => rfl); (case hg => rfl); (case hr => first | (go_simp; done) | (go_simp; rfl)); intro rc hrn w6 hbox hb; have hm6 := (MI.mk (blk_below HGM.out hb) (by rw [HNG.out]; exact HWS.out) ((HP.out.below HB5.out).below hb) ((HL.out.below HB5.out).below hb) : MI w0 w6 38 gm m (.slice A m.P.length c) (.slice B m.L.length d)); have HM6 := Aside0.mk hm6; have HRC := Aside0.mk hbox; have HR6 := Aside0.mk ((HRD.out.keep (below_weaken HRD.out.bel HWS.out (below_step HB5.out hb)) (Kept.of_below (below_step HB5.out hb) (fun _ => False)) (fun h => h)) : Rd w0 w6 73 gr b e); have HB6 := Aside0.mk (below_step HB5.out hb); have HNR := Aside0.mk hrn; have HLT := Aside0.mk (show gm < rc from by rw [hrn]; exact blk_lt HGM.out); clear hbox hb hrn hm6) | (go_at_call 42; (with_reducible refine (num_c_r w0 w6 gr b HBY.out.1 HBY.out.2 e top x1 b1 e1 HN.out HR6.out).mono ?_); rintro er w8 ⟨rfl, hr, hk⟩; have HR8 := Aside0.mk hr; obtain ⟨Ar, cr, hrw⟩ := HR6.out.row; have hm9 := HM6.out.kept hk hrw (by decide) (by decide); have HM8 := Aside0.mk hm9; have HK8 := Aside0.mk hk; have HRC8 := Aside0.mk (blk_kept HRC.out hk (blk_ne HRC.out hrw (by decide))); have cz8 := blk_frozen hm9.blk 8; obtain ⟨uc8, cc8⟩ : ∃ u, w8.cell? ⟨gm, 8, none⟩ = some u := ⟨_, blk_cell hm9.blk 8⟩; clear hr hk hm9 hrw))
  obtain ⟨wa, hwa⟩ : ∃ wa, w8.setCell ⟨gm, 8, none⟩ (.int .u64 x1) = wa := ⟨_, rfl⟩
  have hgmw : w.heap.size ≤ gm := by rw [HNG.out]; exact Nat.le_refl _
  have ra : Rd w0 wa 73 gr b1 e1 := by rw [← hwa]; exact HR8.out.far HM8.out.blk (by decide) HM8.out.ge 8 _
  have ma : MI w0 wa 38 gm { m with seed := x1 } (.slice A m.P.length c) (.slice B m.L.length d) := by rw [← hwa]; exact HM8.out.puts (by decide) 8 _ rfl rfl rfl
  have rca : wa.heap[rc]? = some (.cells #[.int .i64 0, .int .u64 0, .int .u64 0, .int .u64 0, .int .u64 0, .int .u64 0, .int .u64 0, .int .i64 0, .int .u64 0, .slice none 0 0, .int .i64 0, .slice none 0 0] 38 (0, 0)) := by rw [← hwa]; exact blk_far (p := ⟨gm, 8, none⟩) HRC8.out (Nat.ne_of_gt HLT.out) _
  have ka : Kept w wa (fun i => i = gr) := by
    rw [← hwa]
    have k0 : Kept w w8 (fun i => i = gr) := (Kept.of_below HB6.out _).then_ HK8.out (fun i hi => .inl hi)
    exact k0.then_ (kept_set (F := fun i => i = gm) (Kept.refl _ _) rfl 8 _) (fun i hi => .inr (by rw [hi]; exact hgmw))
  have HNB := Aside0.mk (num_c_r w0 wa gr b1 HD.out.1.1 HD.out.1.2 e1 256 x2 b2 e2 HV2.out ra)
  have HMA := Aside0.mk ma; have HKA := Aside0.mk ka; have HRCA := Aside0.mk rca
  obtain ⟨A2, c2, hg2⟩ := ra.row
  have HRWA := Aside0.mk hg2
  rw [hwa]
  clear hwa ra ma ka rca hg2 cz8 cc8
  go_upto_region 20 with (first | (go_at_call 42; (with_reducible refine HNB.out.mono ?_); rintro er w5_ ⟨rfl, hr, hk⟩; have HR5_ := Aside0.mk hr; have hrw := HRWA.out; have hm9 := HMA.out.kept hk hrw (by decide) (by decide); have HM5_ := Aside0.mk hm9; have HK5_ := Aside0.mk hk; have HRC5_ := Aside0.mk (blk_kept HRCA.out hk (blk_ne HRCA.out hrw (by decide))); have cz5_ := blk_frozen hm9.blk 10; obtain ⟨uc5_, cc5_⟩ : ∃ u, w5_.cell? ⟨gm, 10, none⟩ = some u := ⟨_, blk_cell hm9.blk 10⟩; clear hr hk hm9 hrw))
  obtain ⟨wb, hwb⟩ : ∃ wb, w5_.setCell ⟨gm, 10, none⟩ (.int .i64 x2) = wb := ⟨_, rfl⟩
  have ra : Rd w0 wb 73 gr b2 e2 := by rw [← hwb]; exact HR5_.out.far HM5_.out.blk (by decide) HM5_.out.ge 10 _
  have ma : MI w0 wb 38 gm { m with seed := x1, most := x2 } (.slice A m.P.length c) (.slice B m.L.length d) := by rw [← hwb]; exact HM5_.out.puts (by decide) 10 _ rfl rfl rfl
  have rca : wb.heap[rc]? = some (.cells #[.int .i64 0, .int .u64 0, .int .u64 0, .int .u64 0, .int .u64 0, .int .u64 0, .int .u64 0, .int .i64 0, .int .u64 0, .slice none 0 0, .int .i64 0, .slice none 0 0] 38 (0, 0)) := by rw [← hwb]; exact blk_far (p := ⟨gm, 10, none⟩) HRC5_.out (Nat.ne_of_gt HLT.out) _
  have ka : Kept w wb (fun i => i = gr) := by
    rw [← hwb]
    exact (kept_then HKA.out HK5_.out (fun i hi => hi)).then_ (kept_set (F := fun i => i = gm) (Kept.refl _ _) rfl 10 _) (fun i hi => .inr (by rw [hi]; exact hgmw))
  have HNL := Aside0.mk (list_c_r w0 wb gr b2 HD.out.2.1 HD.out.2.2 e2 xs b' e' HV3.out ra)
  have HWB := Aside0.mk ra.bel.size
  have HMB := Aside0.mk ma; have HKB := Aside0.mk ka; have HRCB := Aside0.mk rca
  obtain ⟨A3, c3, hg3⟩ := ra.row
  have HRWB := Aside0.mk hg3
  rw [hwb]
  clear hwb ra ma ka rca hg3 cz5_ cc5_ hgmw
  go_upto_region 21 with (first | (go_at_call 59; (with_reducible refine HNL.out.mono ?_); rintro er w8 ⟨v, rfl, hls, hr, hk⟩; obtain ⟨A8, c8, rfl, _, _⟩ := hls.form; have HR8 := Aside0.mk hr; have hrw := HRWB.out; have hm9 := HMB.out.kept hk hrw (by decide) (by decide); have HM8 := Aside0.mk hm9; have HK8 := Aside0.mk hk; have HV8 := Aside0.mk (hls.lower HWB.out); have HRC8 := Aside0.mk (blk_kept HRCB.out hk (blk_ne HRCB.out hrw (by decide))); have cz8 := blk_frozen hm9.blk 9; obtain ⟨uc8, cc8⟩ : ∃ u, w8.cell? ⟨gm, 9, none⟩ = some u := ⟨_, blk_cell hm9.blk 9⟩; clear hr hk hm9 hrw hls))
  obtain ⟨wa, hwa⟩ : ∃ wa, w8.setCell ⟨gm, 9, none⟩ (.slice A8 xs.length c8) = wa := ⟨_, rfl⟩
  have ra : Rd w0 wa 73 gr b' e' := by rw [← hwa]; exact HR8.out.far HM8.out.blk (by decide) HM8.out.ge 9 _
  have ma : MI w0 wa 38 gm { m with seed := x1, most := x2, P := xs } (.slice A8 xs.length c8) (.slice B m.L.length d) := by rw [← hwa]; exact HM8.out.put (by decide) 9 _ rfl HV8.out HM8.out.L
  have rca : wa.heap[rc]? = some (.cells #[.int .i64 0, .int .u64 0, .int .u64 0, .int .u64 0, .int .u64 0, .int .u64 0, .int .u64 0, .int .i64 0, .int .u64 0, .slice none 0 0, .int .i64 0, .slice none 0 0] 38 (0, 0)) := by rw [← hwa]; exact blk_far (p := ⟨gm, 9, none⟩) HRC8.out (Nat.ne_of_gt HLT.out) _
  have ka : Kept w wa (fun i => i = gr) := by
    rw [← hwa]
    have hgm : w.heap.size ≤ gm := by rw [HNG.out]; exact Nat.le_refl _
    have k0 : Kept w w8 (fun i => i = gr) := kept_then HKB.out HK8.out (fun i hi => hi)
    exact k0.then_ (kept_set (F := fun i => i = gm) (Kept.refl _ _) rfl 9 _) (fun i hi => .inr (by rw [hi]; exact hgm))
  have HRA := Aside0.mk ra; have HMA := Aside0.mk ma; have HRCA := Aside0.mk rca; have HKA := Aside0.mk ka
  have u0 : wa.cell? ⟨gm, 0, none⟩ = some (.int .i64 m.k) := blk_cell ma.blk 0
  have uf0 : wa.frozen? ⟨gm, 0, none⟩ = false := blk_frozen ma.blk 0
  have u1 : wa.cell? ⟨gm, 1, none⟩ = some (.int .u64 m.s) := blk_cell ma.blk 1
  have uf1 : wa.frozen? ⟨gm, 1, none⟩ = false := blk_frozen ma.blk 1
  have u2 : wa.cell? ⟨gm, 2, none⟩ = some (.int .u64 m.se) := blk_cell ma.blk 2
  have uf2 : wa.frozen? ⟨gm, 2, none⟩ = false := blk_frozen ma.blk 2
  have u3 : wa.cell? ⟨gm, 3, none⟩ = some (.int .u64 m.a) := blk_cell ma.blk 3
  have uf3 : wa.frozen? ⟨gm, 3, none⟩ = false := blk_frozen ma.blk 3
  have u4 : wa.cell? ⟨gm, 4, none⟩ = some (.int .u64 m.i) := blk_cell ma.blk 4
  have uf4 : wa.frozen? ⟨gm, 4, none⟩ = false := blk_frozen ma.blk 4
  have u5 : wa.cell? ⟨gm, 5, none⟩ = some (.int .u64 m.n) := blk_cell ma.blk 5
  have uf5 : wa.frozen? ⟨gm, 5, none⟩ = false := blk_frozen ma.blk 5
  have u6 : wa.cell? ⟨gm, 6, none⟩ = some (.int .u64 m.c) := blk_cell ma.blk 6
  have uf6 : wa.frozen? ⟨gm, 6, none⟩ = false := blk_frozen ma.blk 6
  have u7 : wa.cell? ⟨gm, 7, none⟩ = some (.int .i64 m.why) := blk_cell ma.blk 7
  have uf7 : wa.frozen? ⟨gm, 7, none⟩ = false := blk_frozen ma.blk 7
  have u8 : wa.cell? ⟨gm, 8, none⟩ = some (.int .u64 x1) := blk_cell ma.blk 8
  have uf8 : wa.frozen? ⟨gm, 8, none⟩ = false := blk_frozen ma.blk 8
  have u9 : wa.cell? ⟨gm, 9, none⟩ = some (.slice A8 xs.length c8) := blk_cell ma.blk 9
  have uf9 : wa.frozen? ⟨gm, 9, none⟩ = false := blk_frozen ma.blk 9
  have u10 : wa.cell? ⟨gm, 10, none⟩ = some (.int .i64 x2) := blk_cell ma.blk 10
  have uf10 : wa.frozen? ⟨gm, 10, none⟩ = false := blk_frozen ma.blk 10
  have u11 : wa.cell? ⟨gm, 11, none⟩ = some (.slice B m.L.length d) := blk_cell ma.blk 11
  have uf11 : wa.frozen? ⟨gm, 11, none⟩ = false := blk_frozen ma.blk 11
  have y0 : wa.cell? ⟨rc, 0, none⟩ = some (.int .i64 0) := blk_cell rca 0
  have yf0 : wa.frozen? ⟨rc, 0, none⟩ = false := blk_frozen rca 0
  have y1 : wa.cell? ⟨rc, 1, none⟩ = some (.int .u64 0) := blk_cell rca 1
  have yf1 : wa.frozen? ⟨rc, 1, none⟩ = false := blk_frozen rca 1
  have y2 : wa.cell? ⟨rc, 2, none⟩ = some (.int .u64 0) := blk_cell rca 2
  have yf2 : wa.frozen? ⟨rc, 2, none⟩ = false := blk_frozen rca 2
  have y3 : wa.cell? ⟨rc, 3, none⟩ = some (.int .u64 0) := blk_cell rca 3
  have yf3 : wa.frozen? ⟨rc, 3, none⟩ = false := blk_frozen rca 3
  have y4 : wa.cell? ⟨rc, 4, none⟩ = some (.int .u64 0) := blk_cell rca 4
  have yf4 : wa.frozen? ⟨rc, 4, none⟩ = false := blk_frozen rca 4
  have y5 : wa.cell? ⟨rc, 5, none⟩ = some (.int .u64 0) := blk_cell rca 5
  have yf5 : wa.frozen? ⟨rc, 5, none⟩ = false := blk_frozen rca 5
  have y6 : wa.cell? ⟨rc, 6, none⟩ = some (.int .u64 0) := blk_cell rca 6
  have yf6 : wa.frozen? ⟨rc, 6, none⟩ = false := blk_frozen rca 6
  have y7 : wa.cell? ⟨rc, 7, none⟩ = some (.int .i64 0) := blk_cell rca 7
  have yf7 : wa.frozen? ⟨rc, 7, none⟩ = false := blk_frozen rca 7
  have y8 : wa.cell? ⟨rc, 8, none⟩ = some (.int .u64 0) := blk_cell rca 8
  have yf8 : wa.frozen? ⟨rc, 8, none⟩ = false := blk_frozen rca 8
  have y9 : wa.cell? ⟨rc, 9, none⟩ = some (.slice none 0 0) := blk_cell rca 9
  have yf9 : wa.frozen? ⟨rc, 9, none⟩ = false := blk_frozen rca 9
  have y10 : wa.cell? ⟨rc, 10, none⟩ = some (.int .i64 0) := blk_cell rca 10
  have yf10 : wa.frozen? ⟨rc, 10, none⟩ = false := blk_frozen rca 10
  have y11 : wa.cell? ⟨rc, 11, none⟩ = some (.slice none 0 0) := blk_cell rca 11
  have yf11 : wa.frozen? ⟨rc, 11, none⟩ = false := blk_frozen rca 11
  have n1 : gm ≠ rc := Nat.ne_of_lt HLT.out
  have n2 : rc ≠ gm := Nat.ne_of_gt HLT.out
  rw [hwa]
  clear hwa ra ma rca ka cz8 cc8
  go_wp2_with fail
  (try simp only [Exit.inBlock, Exit.then])
  refine bodyPost_ret (results_cell_row rfl _ _ rc 38 #[.int .i64 m.k, .int .u64 m.s, .int .u64 m.se, .int .u64 m.a, .int .u64 m.i, .int .u64 m.n, .int .u64 m.c, .int .i64 m.why, .int .u64 x1, .slice A8 xs.length c8, .int .i64 x2, .slice B m.L.length d] (0, 0) _ rfl (st12_blk HRCA.out _ _ _ _ _ _ _ _ _ _ _ _) Try.underlying38 rfl (by kernel_rfl)) rfl ?_
  obtain ⟨A9, c9, hg9⟩ := HRA.out.row
  have hrcw : w.heap.size ≤ rc := by have h1 := HLT.out; have h2 := HNG.out; omega
  exact ⟨_, _, rfl, HRA.out.keep (st12_bel HRA.out.bel (Nat.le_trans HWS.out hrcw) _ _ _ _ _ _ _ _ _ _ _ _) (st12_kept _ _ _ _ _ _ _ _ _ _ _ _ _ _) (blk_ne hg9 HRCA.out (by decide)), lsK1 HMA.out.P (st12_kept _ _ _ _ _ _ _ _ _ _ _ _ _ _) HRCA.out (by decide), lsK1 HMA.out.L (st12_kept _ _ _ _ _ _ _ _ _ _ _ _ _ _) HRCA.out (by decide), HKA.out.then_ (st12_kept _ _ _ _ _ _ _ _ _ _ _ _ _ _) (fun i hi => .inr (by rw [hi]; exact hrcw))⟩
end Go.Proofs.Ytbfmbjkalldonaa.Msg
namespace Go.Proofs.Ytbfmbjkalldonaa.Msg
set_option linter.unusedVariables false
set_option linter.unusedSimpArgs false
open Go.RowKit Go.Proofs.Ytbfmbjkalldonaa.PA Go.Proofs.YtbfmbjkalldonaaW.PrintWords Go.Proofs.YtbfmbjkalldonaaW.PrintLast Go.Proofs.YtbfmbjkalldonaaW.PrintMore Go.Proofs.Ytbfmbjkalldonaa.Base Go.Proofs.Ytbfmbjkalldonaa.Var Go.Proofs.Ytbfmbjkalldonaa.Lst
attribute [local go_sem] max2_int min2_int max_two min_two max_three min_three max_four min_four
theorem fields_c (w : World) : Calls Try.prog 34 #[] w fun e w' => e = .returned (.slice (some ⟨w.heap.size, 0, none⟩) 13 13) ∧ w.alloc (.cells #[.string ⟨#[]⟩, .string ⟨#[115, 101, 106]⟩, .string ⟨#[115, 110]⟩, .string ⟨#[115]⟩, .string ⟨#[115, 110, 108]⟩, .string ⟨#[115, 110, 119]⟩, .string ⟨#[97, 105, 110, 106]⟩, .string ⟨#[97, 105]⟩, .string ⟨#[97, 105, 110, 108]⟩, .string ⟨#[97, 105, 110, 119]⟩, .string ⟨#[110]⟩, .string ⟨#[110, 105, 99]⟩, .string ⟨#[105]⟩] 9) = w' := by
  go_enter Try.func34, Try.ntmps34
  go_wp2_with fail
  go_ret
  exact ⟨rfl, rfl⟩
theorem field_at (k : Nat) (h1 : 1 ≤ k) (h2 : k ≤ 12) : ∃ S : ByteArray, (#[.string ⟨#[]⟩, .string ⟨#[115, 101, 106]⟩, .string ⟨#[115, 110]⟩, .string ⟨#[115]⟩, .string ⟨#[115, 110, 108]⟩, .string ⟨#[115, 110, 119]⟩, .string ⟨#[97, 105, 110, 106]⟩, .string ⟨#[97, 105]⟩, .string ⟨#[97, 105, 110, 108]⟩, .string ⟨#[97, 105, 110, 119]⟩, .string ⟨#[110]⟩, .string ⟨#[110, 105, 99]⟩, .string ⟨#[105]⟩] : Array Value)[k]? = some (.string S) ∧ bytesOf S = lettersV (k : Int) ∧ S.size = (lettersV (k : Int)).length := by
  have hk : k = 1 ∨ k = 2 ∨ k = 3 ∨ k = 4 ∨ k = 5 ∨ k = 6 ∨ k = 7 ∨ k = 8 ∨ k = 9 ∨ k = 10 ∨ k = 11 ∨ k = 12 := by omega
  rcases hk with rfl | rfl | rfl | rfl | rfl | rfl | rfl | rfl | rfl | rfl | rfl | rfl
  · exact ⟨⟨#[115, 101, 106]⟩, rfl, by kernel_rfl, by kernel_rfl⟩
  · exact ⟨⟨#[115, 110]⟩, rfl, by kernel_rfl, by kernel_rfl⟩
  · exact ⟨⟨#[115]⟩, rfl, by kernel_rfl, by kernel_rfl⟩
  · exact ⟨⟨#[115, 110, 108]⟩, rfl, by kernel_rfl, by kernel_rfl⟩
  · exact ⟨⟨#[115, 110, 119]⟩, rfl, by kernel_rfl, by kernel_rfl⟩
  · exact ⟨⟨#[97, 105, 110, 106]⟩, rfl, by kernel_rfl, by kernel_rfl⟩
  · exact ⟨⟨#[97, 105]⟩, rfl, by kernel_rfl, by kernel_rfl⟩
  · exact ⟨⟨#[97, 105, 110, 108]⟩, rfl, by kernel_rfl, by kernel_rfl⟩
  · exact ⟨⟨#[97, 105, 110, 119]⟩, rfl, by kernel_rfl, by kernel_rfl⟩
  · exact ⟨⟨#[110]⟩, rfl, by kernel_rfl, by kernel_rfl⟩
  · exact ⟨⟨#[110, 105, 99]⟩, rfl, by kernel_rfl, by kernel_rfl⟩
  · exact ⟨⟨#[105]⟩, rfl, by kernel_rfl, by kernel_rfl⟩
theorem fieldr_c (w0 w : World) (gr : Nat) (b : List Int) (hbs : Bytes b) (hl : b.length ≤ 100000) (e : Int) (m : Ms) (A B : Option Addr) (c d : Nat) (h : Rd w0 w 73 gr b e) (hP : Ls encI 3 w w0.heap.size (.slice A m.P.length c) m.P) (hL : Ls encI 3 w w0.heap.size (.slice B m.L.length d) m.L) (ch : Int) (hc : isL ch) (m' : Ms) (b' : List Int) (e' : Int) (hv : fieldV m b e ch = (m', b', e')) :
    Calls Try.prog 43 #[.pointer (some ⟨gr, 0, none⟩), .agg #[.int .i64 m.k, .int .u64 m.s, .int .u64 m.se, .int .u64 m.a, .int .u64 m.i, .int .u64 m.n, .int .u64 m.c, .int .i64 m.why, .int .u64 m.seed, .slice A m.P.length c, .int .i64 m.most, .slice B m.L.length d], .int .u8 ch] w fun er w' => ∃ vP vL, er = .returned (.agg (mcells m' vP vL)) ∧ Rd w0 w' 73 gr b' e' ∧ Ls encI 3 w' w0.heap.size vP m'.P ∧ Ls encI 3 w' w0.heap.size vL m'.L ∧ Kept w w' (fun i => i = gr) := by
  unfold fieldV at hv
  rcases hc with rfl | rfl | rfl | rfl | rfl | rfl | rfl | rfl | rfl
  · rw [if_neg (by decide), if_neg (by decide), if_neg (by decide)] at hv
    rcases hn : numV b e top with ⟨x, b1, e1⟩
    rw [hn] at hv
    obtain ⟨hm', hv⟩ := Prod.mk.inj hv
    obtain ⟨rfl, rfl⟩ := Prod.mk.inj hv
    subst hm'
    exact fieldr_115 w0 w gr b hbs hl e m A B c d h hP hL x _ _ hn
  · rw [if_neg (by decide), if_neg (by decide), if_neg (by decide)] at hv
    rcases hn : numV b e top with ⟨x, b1, e1⟩
    rw [hn] at hv
    obtain ⟨hm', hv⟩ := Prod.mk.inj hv
    obtain ⟨rfl, rfl⟩ := Prod.mk.inj hv
    subst hm'
    exact fieldr_101 w0 w gr b hbs hl e m A B c d h hP hL x _ _ hn
  · rw [if_neg (by decide), if_neg (by decide), if_neg (by decide)] at hv
    rcases hn : numV b e top with ⟨x, b1, e1⟩
    rw [hn] at hv
    obtain ⟨hm', hv⟩ := Prod.mk.inj hv
    obtain ⟨rfl, rfl⟩ := Prod.mk.inj hv
    subst hm'
    exact fieldr_97 w0 w gr b hbs hl e m A B c d h hP hL x _ _ hn
  · rw [if_neg (by decide), if_neg (by decide), if_neg (by decide)] at hv
    rcases hn : numV b e top with ⟨x, b1, e1⟩
    rw [hn] at hv
    obtain ⟨hm', hv⟩ := Prod.mk.inj hv
    obtain ⟨rfl, rfl⟩ := Prod.mk.inj hv
    subst hm'
    exact fieldr_105 w0 w gr b hbs hl e m A B c d h hP hL x _ _ hn
  · rw [if_neg (by decide), if_neg (by decide), if_neg (by decide)] at hv
    rcases hn : numV b e top with ⟨x, b1, e1⟩
    rw [hn] at hv
    obtain ⟨hm', hv⟩ := Prod.mk.inj hv
    obtain ⟨rfl, rfl⟩ := Prod.mk.inj hv
    subst hm'
    exact fieldr_110 w0 w gr b hbs hl e m A B c d h hP hL x _ _ hn
  · rw [if_neg (by decide), if_neg (by decide), if_neg (by decide)] at hv
    rcases hn : numV b e top with ⟨x, b1, e1⟩
    rw [hn] at hv
    obtain ⟨hm', hv⟩ := Prod.mk.inj hv
    obtain ⟨rfl, rfl⟩ := Prod.mk.inj hv
    subst hm'
    exact fieldr_99 w0 w gr b hbs hl e m A B c d h hP hL x _ _ hn
  · rw [if_pos rfl] at hv
    rcases hn : numV b e 255 with ⟨x, b1, e1⟩
    rw [hn] at hv
    obtain ⟨hm', hv⟩ := Prod.mk.inj hv
    obtain ⟨rfl, rfl⟩ := Prod.mk.inj hv
    subst hm'
    exact fieldr_119 w0 w gr b hbs hl e m A B c d h hP hL x _ _ hn
  · rw [if_neg (by decide), if_pos rfl] at hv
    rcases hn : numV b e top with ⟨x1, b1, e1⟩
    rcases hn2 : numV b1 e1 256 with ⟨x2, b2, e2⟩
    rcases hn3 : listV b2 e2 with ⟨xs, b3, e3⟩
    rw [hn] at hv
    dsimp only at hv
    rw [hn2] at hv
    dsimp only at hv
    rw [hn3] at hv
    obtain ⟨hm', hv⟩ := Prod.mk.inj hv
    obtain ⟨rfl, rfl⟩ := Prod.mk.inj hv
    subst hm'
    exact fieldr_106 w0 w gr b hbs hl e m A B c d h hP hL x1 x2 xs b1 b2 _ e1 e2 _ hn hn2 hn3
  · rw [if_neg (by decide), if_neg (by decide), if_pos rfl] at hv
    rcases hn : listV b e with ⟨xs, b1, e1⟩
    rw [hn] at hv
    obtain ⟨hm', hv⟩ := Prod.mk.inj hv
    obtain ⟨rfl, rfl⟩ := Prod.mk.inj hv
    subst hm'
    exact fieldr_108 w0 w gr b hbs hl e m A B c d h hP hL xs _ _ hn
set_option maxHeartbeats 16000000 in
set_option maxRecDepth 100000 in
theorem rread_c (A0 : Option Addr) (c0 : Nat) (l : List Int) (hl : l.length ≤ 100000) (hbs : Bytes l) (hc0 : l.length ≤ c0) (m : Ms) (e0 : Int) (hv : readV l = (m, e0)) (w : World) (hb : Kd.C (Kd.int .u8) w A0 l.length l) :
    Calls Try.prog 20 #[.slice A0 l.length c0] w (PostR w m e0) := by
  have hu := Try.underlying38
  have hu50 := Try.underlying73
  have HBC := Aside0.mk hb; have HL := Aside0.mk hl; have HBS := Aside0.mk hbs; have HC := Aside0.mk hc0
  rcases hn : numV l 0 top with ⟨x, b1, e1⟩
  have hbd := num_bd hbs 0 top (by decide)
  unfold readV at hv
  rw [hn] at hv hbd
  dsimp only at hv hbd
  have HN := Aside0.mk hn
  clear hn hb hl hbs hc0
  by_cases h1 : e1 = 0
  rotate_left
  · rw [if_neg h1] at hv
    obtain ⟨rfl, rfl⟩ := Prod.mk.inj hv
    have q1 : (e1 != 0) = true := by simpa using h1
    clear h1 hbd
    go_enter Try.func20, Try.ntmps20
    go_upto_region 4 with (first | ((with_reducible refine gate_dst (N := 2) rfl ?_); refine box_event ?hg (N := 2) ?hd (cs := #[.int .i64 0, .int .u64 0, .int .u64 0, .int .u64 0, .int .u64 0, .int .u64 0, .int .u64 0, .int .i64 0, .int .u64 0, .slice none 0 0, .int .i64 0, .slice none 0 0]) (t := 38) ?hr ?_; (case hd => rfl); (case hg => rfl); (case hr => first | (go_simp; done) | (go_simp; rfl)); intro rc hrc w5 hbox hb; have HRC := Aside0.mk hbox; have HB5 := Aside0.mk hb; have HNC := Aside0.mk hrc; clear hbox hb hrc) | ((with_reducible refine gate_dst (N := 11) rfl ?_); refine box_event ?hg (N := 11) ?hd (cs := #[.slice A0 l.length c0, .int .i64 0]) (t := 73) ?hr ?_; (case hd => rfl); (case hg => rfl); (case hr => first | (go_simp; done) | (go_simp; rfl)); intro gr hgr w6 hbox hb; have hRD := (Rd.mk ⟨A0, c0, hbox, HBC.out, HC.out⟩ (by rw [hgr]; exact HB5.out.size) (below_step HB5.out hb) : Rd w w6 73 gr l 0); have HRD := Aside0.mk hRD; have HRC6 := Aside0.mk (blk_below HRC.out hb); have HLT := Aside0.mk (show rc < gr from by rw [hgr]; exact blk_lt HRC.out); clear hbox hb hgr hRD HRC) | (go_at_call 42; (with_reducible refine (num_c_r w _ gr l HBS.out (by have := HL.out; omega) 0 top x b1 e1 HN.out HRD.out).mono ?_); rintro er w8 ⟨rfl, hr, hk⟩; have HR8 := Aside0.mk hr; have hrc8 := blk_kept HRC6.out hk (Nat.ne_of_lt HLT.out); have HRC8 := Aside0.mk hrc8; obtain ⟨A, c, hg8⟩ := hr.row; have k1 : w8.cell? ⟨gr, 1, none⟩ = some (.int .i64 e1) := blk_cell hg8 1; have ne1 : gr ≠ rc := Nat.ne_of_gt HLT.out; have ne2 : rc ≠ gr := Nat.ne_of_lt HLT.out; have y0 : w8.cell? ⟨rc, 0, none⟩ = some (.int .i64 0) := blk_cell hrc8 0; have yf0 : w8.frozen? ⟨rc, 0, none⟩ = false := blk_frozen hrc8 0; have y1 : w8.cell? ⟨rc, 1, none⟩ = some (.int .u64 0) := blk_cell hrc8 1; have yf1 : w8.frozen? ⟨rc, 1, none⟩ = false := blk_frozen hrc8 1; have y2 : w8.cell? ⟨rc, 2, none⟩ = some (.int .u64 0) := blk_cell hrc8 2; have yf2 : w8.frozen? ⟨rc, 2, none⟩ = false := blk_frozen hrc8 2; have y3 : w8.cell? ⟨rc, 3, none⟩ = some (.int .u64 0) := blk_cell hrc8 3; have yf3 : w8.frozen? ⟨rc, 3, none⟩ = false := blk_frozen hrc8 3; have y4 : w8.cell? ⟨rc, 4, none⟩ = some (.int .u64 0) := blk_cell hrc8 4; have yf4 : w8.frozen? ⟨rc, 4, none⟩ = false := blk_frozen hrc8 4; have y5 : w8.cell? ⟨rc, 5, none⟩ = some (.int .u64 0) := blk_cell hrc8 5; have yf5 : w8.frozen? ⟨rc, 5, none⟩ = false := blk_frozen hrc8 5; have y6 : w8.cell? ⟨rc, 6, none⟩ = some (.int .u64 0) := blk_cell hrc8 6; have yf6 : w8.frozen? ⟨rc, 6, none⟩ = false := blk_frozen hrc8 6; have y7 : w8.cell? ⟨rc, 7, none⟩ = some (.int .i64 0) := blk_cell hrc8 7; have yf7 : w8.frozen? ⟨rc, 7, none⟩ = false := blk_frozen hrc8 7; have y8 : w8.cell? ⟨rc, 8, none⟩ = some (.int .u64 0) := blk_cell hrc8 8; have yf8 : w8.frozen? ⟨rc, 8, none⟩ = false := blk_frozen hrc8 8; have y9 : w8.cell? ⟨rc, 9, none⟩ = some (.slice none 0 0) := blk_cell hrc8 9; have yf9 : w8.frozen? ⟨rc, 9, none⟩ = false := blk_frozen hrc8 9; have y10 : w8.cell? ⟨rc, 10, none⟩ = some (.int .i64 0) := blk_cell hrc8 10; have yf10 : w8.frozen? ⟨rc, 10, none⟩ = false := blk_frozen hrc8 10; have y11 : w8.cell? ⟨rc, 11, none⟩ = some (.slice none 0 0) := blk_cell hrc8 11; have yf11 : w8.frozen? ⟨rc, 11, none⟩ = false := blk_frozen hrc8 11; clear hr hk hrc8 hg8))
    go_region
    go_wp2_with fail
    (try simp only [Exit.inBlock, Exit.then])
    refine bodyPost_ret (results_ct rfl _ _ rc 38 #[.int .i64 0, .int .u64 0, .int .u64 0, .int .u64 0, .int .u64 0, .int .u64 0, .int .u64 0, .int .i64 0, .int .u64 0, .slice none 0 0, .int .i64 0, .slice none 0 0] (0, 0) _ rfl (blk_drew (st12_blk HRC8.out (.int .i64 0) (.int .u64 0) (.int .u64 0) (.int .u64 0) (.int .u64 0) (.int .u64 0) (.int .u64 0) (.int .i64 0) (.int .u64 0) (.slice none 0 0) (.int .i64 0) (.slice none 0 0))) Try.underlying38 (by rfl) (by kernel_rfl)) rfl ?_
    exact ⟨_, _, rfl, Ls.nil _ _ _ _, Ls.nil _ _ _ _, below_drew (st12_bel HR8.out.bel (Nat.le_of_eq HNC.out.symm) (.int .i64 0) (.int .u64 0) (.int .u64 0) (.int .u64 0) (.int .u64 0) (.int .u64 0) (.int .u64 0) (.int .i64 0) (.int .u64 0) (.slice none 0 0) (.int .i64 0) (.slice none 0 0))⟩
  subst h1
  rw [if_pos rfl] at hv
  by_cases hk : x < 1 ∨ x > 12
  · rw [if_pos hk] at hv
    obtain ⟨rfl, rfl⟩ := Prod.mk.inj hv
    by_cases hx : x < 1
    · have d1 : decide (x < 1) = true := decide_eq_true hx
      clear hk hx hbd
      go_enter Try.func20, Try.ntmps20
      go_wp2_with (first | ((with_reducible refine gate_dst (N := 2) rfl ?_); refine box_event ?hg (N := 2) ?hd (cs := #[.int .i64 0, .int .u64 0, .int .u64 0, .int .u64 0, .int .u64 0, .int .u64 0, .int .u64 0, .int .i64 0, .int .u64 0, .slice none 0 0, .int .i64 0, .slice none 0 0]) (t := 38) ?hr ?_; (case hd => rfl); (case hg => rfl); (case hr => first | (go_simp; done) | (go_simp; rfl)); intro rc hrc w5 hbox hb; have HRC := Aside0.mk hbox; have HB5 := Aside0.mk hb; have HNC := Aside0.mk hrc; clear hbox hb hrc) | ((with_reducible refine gate_dst (N := 11) rfl ?_); refine box_event ?hg (N := 11) ?hd (cs := #[.slice A0 l.length c0, .int .i64 0]) (t := 73) ?hr ?_; (case hd => rfl); (case hg => rfl); (case hr => first | (go_simp; done) | (go_simp; rfl)); intro gr hgr w6 hbox hb; have hRD := (Rd.mk ⟨A0, c0, hbox, HBC.out, HC.out⟩ (by rw [hgr]; exact HB5.out.size) (below_step HB5.out hb) : Rd w w6 73 gr l 0); have HRD := Aside0.mk hRD; have HRC6 := Aside0.mk (blk_below HRC.out hb); have HLT := Aside0.mk (show rc < gr from by rw [hgr]; exact blk_lt HRC.out); clear hbox hb hgr hRD HRC) | (go_at_call 42; (with_reducible refine (num_c_r w _ gr l HBS.out (by have := HL.out; omega) 0 top x b1 0 HN.out HRD.out).mono ?_); rintro er w8 ⟨rfl, hr, hk⟩; have HR8 := Aside0.mk hr; have hrc8 := blk_kept HRC6.out hk (Nat.ne_of_lt HLT.out); have HRC8 := Aside0.mk hrc8; obtain ⟨A, c, hg8⟩ := hr.row; have k1 : w8.cell? ⟨gr, 1, none⟩ = some (.int .i64 0) := blk_cell hg8 1; have n0 : gr ≠ rc := Nat.ne_of_gt HLT.out; have ne2 : rc ≠ gr := Nat.ne_of_lt HLT.out; have y0 : w8.cell? ⟨rc, 0, none⟩ = some (.int .i64 0) := blk_cell hrc8 0; have yf0 : w8.frozen? ⟨rc, 0, none⟩ = false := blk_frozen hrc8 0; have y1 : w8.cell? ⟨rc, 1, none⟩ = some (.int .u64 0) := blk_cell hrc8 1; have yf1 : w8.frozen? ⟨rc, 1, none⟩ = false := blk_frozen hrc8 1; have y2 : w8.cell? ⟨rc, 2, none⟩ = some (.int .u64 0) := blk_cell hrc8 2; have yf2 : w8.frozen? ⟨rc, 2, none⟩ = false := blk_frozen hrc8 2; have y3 : w8.cell? ⟨rc, 3, none⟩ = some (.int .u64 0) := blk_cell hrc8 3; have yf3 : w8.frozen? ⟨rc, 3, none⟩ = false := blk_frozen hrc8 3; have y4 : w8.cell? ⟨rc, 4, none⟩ = some (.int .u64 0) := blk_cell hrc8 4; have yf4 : w8.frozen? ⟨rc, 4, none⟩ = false := blk_frozen hrc8 4; have y5 : w8.cell? ⟨rc, 5, none⟩ = some (.int .u64 0) := blk_cell hrc8 5; have yf5 : w8.frozen? ⟨rc, 5, none⟩ = false := blk_frozen hrc8 5; have y6 : w8.cell? ⟨rc, 6, none⟩ = some (.int .u64 0) := blk_cell hrc8 6; have yf6 : w8.frozen? ⟨rc, 6, none⟩ = false := blk_frozen hrc8 6; have y7 : w8.cell? ⟨rc, 7, none⟩ = some (.int .i64 0) := blk_cell hrc8 7; have yf7 : w8.frozen? ⟨rc, 7, none⟩ = false := blk_frozen hrc8 7; have y8 : w8.cell? ⟨rc, 8, none⟩ = some (.int .u64 0) := blk_cell hrc8 8; have yf8 : w8.frozen? ⟨rc, 8, none⟩ = false := blk_frozen hrc8 8; have y9 : w8.cell? ⟨rc, 9, none⟩ = some (.slice none 0 0) := blk_cell hrc8 9; have yf9 : w8.frozen? ⟨rc, 9, none⟩ = false := blk_frozen hrc8 9; have y10 : w8.cell? ⟨rc, 10, none⟩ = some (.int .i64 0) := blk_cell hrc8 10; have yf10 : w8.frozen? ⟨rc, 10, none⟩ = false := blk_frozen hrc8 10; have y11 : w8.cell? ⟨rc, 11, none⟩ = some (.slice none 0 0) := blk_cell hrc8 11; have yf11 : w8.frozen? ⟨rc, 11, none⟩ = false := blk_frozen hrc8 11; clear hr hk hrc8 hg8))
      (try simp only [Exit.inBlock, Exit.then])
      refine bodyPost_ret (results_ct rfl _ _ rc 38 #[.int .i64 0, .int .u64 0, .int .u64 0, .int .u64 0, .int .u64 0, .int .u64 0, .int .u64 0, .int .i64 0, .int .u64 0, .slice none 0 0, .int .i64 0, .slice none 0 0] (0, 0) _ rfl (st12_blk HRC8.out (.int .i64 0) (.int .u64 0) (.int .u64 0) (.int .u64 0) (.int .u64 0) (.int .u64 0) (.int .u64 0) (.int .i64 0) (.int .u64 0) (.slice none 0 0) (.int .i64 0) (.slice none 0 0)) Try.underlying38 (by rfl) (by kernel_rfl)) rfl ?_
      exact ⟨_, _, rfl, Ls.nil _ _ _ _, Ls.nil _ _ _ _, st12_bel HR8.out.bel (Nat.le_of_eq HNC.out.symm) (.int .i64 0) (.int .u64 0) (.int .u64 0) (.int .u64 0) (.int .u64 0) (.int .u64 0) (.int .u64 0) (.int .i64 0) (.int .u64 0) (.slice none 0 0) (.int .i64 0) (.slice none 0 0)⟩
    · have d1 : decide (x < 1) = false := decide_eq_false hx
      have d2 : decide (12 < x) = true := decide_eq_true (by omega)
      clear hk hx hbd
      go_enter Try.func20, Try.ntmps20
      go_wp2_with (first | ((with_reducible refine gate_dst (N := 2) rfl ?_); refine box_event ?hg (N := 2) ?hd (cs := #[.int .i64 0, .int .u64 0, .int .u64 0, .int .u64 0, .int .u64 0, .int .u64 0, .int .u64 0, .int .i64 0, .int .u64 0, .slice none 0 0, .int .i64 0, .slice none 0 0]) (t := 38) ?hr ?_; (case hd => rfl); (case hg => rfl); (case hr => first | (go_simp; done) | (go_simp; rfl)); intro rc hrc w5 hbox hb; have HRC := Aside0.mk hbox; have HB5 := Aside0.mk hb; have HNC := Aside0.mk hrc; clear hbox hb hrc) | ((with_reducible refine gate_dst (N := 11) rfl ?_); refine box_event ?hg (N := 11) ?hd (cs := #[.slice A0 l.length c0, .int .i64 0]) (t := 73) ?hr ?_; (case hd => rfl); (case hg => rfl); (case hr => first | (go_simp; done) | (go_simp; rfl)); intro gr hgr w6 hbox hb; have hRD := (Rd.mk ⟨A0, c0, hbox, HBC.out, HC.out⟩ (by rw [hgr]; exact HB5.out.size) (below_step HB5.out hb) : Rd w w6 73 gr l 0); have HRD := Aside0.mk hRD; have HRC6 := Aside0.mk (blk_below HRC.out hb); have HLT := Aside0.mk (show rc < gr from by rw [hgr]; exact blk_lt HRC.out); clear hbox hb hgr hRD HRC) | (go_at_call 42; (with_reducible refine (num_c_r w _ gr l HBS.out (by have := HL.out; omega) 0 top x b1 0 HN.out HRD.out).mono ?_); rintro er w8 ⟨rfl, hr, hk⟩; have HR8 := Aside0.mk hr; have hrc8 := blk_kept HRC6.out hk (Nat.ne_of_lt HLT.out); have HRC8 := Aside0.mk hrc8; obtain ⟨A, c, hg8⟩ := hr.row; have k1 : w8.cell? ⟨gr, 1, none⟩ = some (.int .i64 0) := blk_cell hg8 1; have n0 : gr ≠ rc := Nat.ne_of_gt HLT.out; have ne2 : rc ≠ gr := Nat.ne_of_lt HLT.out; have y0 : w8.cell? ⟨rc, 0, none⟩ = some (.int .i64 0) := blk_cell hrc8 0; have yf0 : w8.frozen? ⟨rc, 0, none⟩ = false := blk_frozen hrc8 0; have y1 : w8.cell? ⟨rc, 1, none⟩ = some (.int .u64 0) := blk_cell hrc8 1; have yf1 : w8.frozen? ⟨rc, 1, none⟩ = false := blk_frozen hrc8 1; have y2 : w8.cell? ⟨rc, 2, none⟩ = some (.int .u64 0) := blk_cell hrc8 2; have yf2 : w8.frozen? ⟨rc, 2, none⟩ = false := blk_frozen hrc8 2; have y3 : w8.cell? ⟨rc, 3, none⟩ = some (.int .u64 0) := blk_cell hrc8 3; have yf3 : w8.frozen? ⟨rc, 3, none⟩ = false := blk_frozen hrc8 3; have y4 : w8.cell? ⟨rc, 4, none⟩ = some (.int .u64 0) := blk_cell hrc8 4; have yf4 : w8.frozen? ⟨rc, 4, none⟩ = false := blk_frozen hrc8 4; have y5 : w8.cell? ⟨rc, 5, none⟩ = some (.int .u64 0) := blk_cell hrc8 5; have yf5 : w8.frozen? ⟨rc, 5, none⟩ = false := blk_frozen hrc8 5; have y6 : w8.cell? ⟨rc, 6, none⟩ = some (.int .u64 0) := blk_cell hrc8 6; have yf6 : w8.frozen? ⟨rc, 6, none⟩ = false := blk_frozen hrc8 6; have y7 : w8.cell? ⟨rc, 7, none⟩ = some (.int .i64 0) := blk_cell hrc8 7; have yf7 : w8.frozen? ⟨rc, 7, none⟩ = false := blk_frozen hrc8 7; have y8 : w8.cell? ⟨rc, 8, none⟩ = some (.int .u64 0) := blk_cell hrc8 8; have yf8 : w8.frozen? ⟨rc, 8, none⟩ = false := blk_frozen hrc8 8; have y9 : w8.cell? ⟨rc, 9, none⟩ = some (.slice none 0 0) := blk_cell hrc8 9; have yf9 : w8.frozen? ⟨rc, 9, none⟩ = false := blk_frozen hrc8 9; have y10 : w8.cell? ⟨rc, 10, none⟩ = some (.int .i64 0) := blk_cell hrc8 10; have yf10 : w8.frozen? ⟨rc, 10, none⟩ = false := blk_frozen hrc8 10; have y11 : w8.cell? ⟨rc, 11, none⟩ = some (.slice none 0 0) := blk_cell hrc8 11; have yf11 : w8.frozen? ⟨rc, 11, none⟩ = false := blk_frozen hrc8 11; clear hr hk hrc8 hg8))
      (try simp only [Exit.inBlock, Exit.then])
      refine bodyPost_ret (results_ct rfl _ _ rc 38 #[.int .i64 0, .int .u64 0, .int .u64 0, .int .u64 0, .int .u64 0, .int .u64 0, .int .u64 0, .int .i64 0, .int .u64 0, .slice none 0 0, .int .i64 0, .slice none 0 0] (0, 0) _ rfl (st12_blk HRC8.out (.int .i64 0) (.int .u64 0) (.int .u64 0) (.int .u64 0) (.int .u64 0) (.int .u64 0) (.int .u64 0) (.int .i64 0) (.int .u64 0) (.slice none 0 0) (.int .i64 0) (.slice none 0 0)) Try.underlying38 (by rfl) (by kernel_rfl)) rfl ?_
      exact ⟨_, _, rfl, Ls.nil _ _ _ _, Ls.nil _ _ _ _, st12_bel HR8.out.bel (Nat.le_of_eq HNC.out.symm) (.int .i64 0) (.int .u64 0) (.int .u64 0) (.int .u64 0) (.int .u64 0) (.int .u64 0) (.int .u64 0) (.int .i64 0) (.int .u64 0) (.slice none 0 0) (.int .i64 0) (.slice none 0 0)⟩
  rw [if_neg hk] at hv
  have d1 : decide (x < 1) = false := decide_eq_false (by omega)
  have d2 : decide (12 < x) = false := decide_eq_false (by omega)
  have ex : wrap64 x = x := w64 (by omega) (by omega)
  obtain ⟨kx, rfl⟩ : ∃ kx : Nat, x = kx := ⟨x.toNat, by omega⟩
  obtain ⟨S, hS, hSb, hSn⟩ := field_at kx (by omega) (by omega)
  have hx1 : (0 : Int) ≤ (kx : Int) := by omega
  have hx2 : decide ((kx : Int) < 13) = true := decide_eq_true (by omega)
  have hx3 : kx < 13 := by omega
  have hx4 : (kx : Int) < 13 := by omega
  rcases hf : foldV (lettersV (kx : Int)) (Ms.of (kx : Int)) b1 0 with ⟨mf, bf, ef⟩
  rw [hf] at hv
  dsimp only at hv
  have HF := Aside0.mk hf; have HV := Aside0.mk hv; have HS := Aside0.mk hS; have HSB := Aside0.mk hSb; have HSN := Aside0.mk hSn
  have HB1 := Aside0.mk (show Bytes b1 ∧ b1.length ≤ 100000 from ⟨hbd.2.2.1, Nat.le_trans hbd.2.2.2 HL.out⟩)
  clear hf hv hS hSb hSn hbd hk
  go_enter Try.func20, Try.ntmps20
  go_upto_region 8 with (first | ((with_reducible refine gate_dst (N := 2) rfl ?_); refine box_event ?hg (N := 2) ?hd (cs := #[.int .i64 0, .int .u64 0, .int .u64 0, .int .u64 0, .int .u64 0, .int .u64 0, .int .u64 0, .int .i64 0, .int .u64 0, .slice none 0 0, .int .i64 0, .slice none 0 0]) (t := 38) ?hr ?_; (case hd => rfl); (case hg => rfl); (case hr => first | (go_simp; done) | (go_simp; rfl)); intro rc hrc w5 hbox hb; have HRC := Aside0.mk hbox; have HB5 := Aside0.mk hb; have HNC := Aside0.mk hrc; clear hbox hb hrc) | ((with_reducible refine gate_dst (N := 11) rfl ?_); refine box_event ?hg (N := 11) ?hd (cs := #[.slice A0 l.length c0, .int .i64 0]) (t := 73) ?hr ?_; (case hd => rfl); (case hg => rfl); (case hr => first | (go_simp; done) | (go_simp; rfl)); intro gr hgr w6 hbox hb; have hRD := (Rd.mk ⟨A0, c0, hbox, HBC.out, HC.out⟩ (by rw [hgr]; exact HB5.out.size) (below_step HB5.out hb) : Rd w w6 73 gr l 0); have HRD := Aside0.mk hRD; have HRC6 := Aside0.mk (blk_below HRC.out hb); have HLT := Aside0.mk (show rc < gr from by rw [hgr]; exact blk_lt HRC.out); clear hbox hb hgr hRD HRC) | (go_at_call 42; (with_reducible refine (num_c_r w _ gr l HBS.out (by have := HL.out; omega) 0 top (kx : Int) b1 0 HN.out HRD.out).mono ?_); rintro er w8 ⟨rfl, hr, hk⟩; have HR8 := Aside0.mk hr; have hrc8 := blk_kept HRC6.out hk (Nat.ne_of_lt HLT.out); have HRC8 := Aside0.mk hrc8; obtain ⟨A, c, hg8⟩ := hr.row; have k1 : w8.cell? ⟨gr, 1, none⟩ = some (.int .i64 0) := blk_cell hg8 1; have n0 : gr ≠ rc := Nat.ne_of_gt HLT.out; have ne2 : rc ≠ gr := Nat.ne_of_lt HLT.out; have y0 : w8.cell? ⟨rc, 0, none⟩ = some (.int .i64 0) := blk_cell hrc8 0; have yf0 : w8.frozen? ⟨rc, 0, none⟩ = false := blk_frozen hrc8 0; have y1 : w8.cell? ⟨rc, 1, none⟩ = some (.int .u64 0) := blk_cell hrc8 1; have yf1 : w8.frozen? ⟨rc, 1, none⟩ = false := blk_frozen hrc8 1; have y2 : w8.cell? ⟨rc, 2, none⟩ = some (.int .u64 0) := blk_cell hrc8 2; have yf2 : w8.frozen? ⟨rc, 2, none⟩ = false := blk_frozen hrc8 2; have y3 : w8.cell? ⟨rc, 3, none⟩ = some (.int .u64 0) := blk_cell hrc8 3; have yf3 : w8.frozen? ⟨rc, 3, none⟩ = false := blk_frozen hrc8 3; have y4 : w8.cell? ⟨rc, 4, none⟩ = some (.int .u64 0) := blk_cell hrc8 4; have yf4 : w8.frozen? ⟨rc, 4, none⟩ = false := blk_frozen hrc8 4; have y5 : w8.cell? ⟨rc, 5, none⟩ = some (.int .u64 0) := blk_cell hrc8 5; have yf5 : w8.frozen? ⟨rc, 5, none⟩ = false := blk_frozen hrc8 5; have y6 : w8.cell? ⟨rc, 6, none⟩ = some (.int .u64 0) := blk_cell hrc8 6; have yf6 : w8.frozen? ⟨rc, 6, none⟩ = false := blk_frozen hrc8 6; have y7 : w8.cell? ⟨rc, 7, none⟩ = some (.int .i64 0) := blk_cell hrc8 7; have yf7 : w8.frozen? ⟨rc, 7, none⟩ = false := blk_frozen hrc8 7; have y8 : w8.cell? ⟨rc, 8, none⟩ = some (.int .u64 0) := blk_cell hrc8 8; have yf8 : w8.frozen? ⟨rc, 8, none⟩ = false := blk_frozen hrc8 8; have y9 : w8.cell? ⟨rc, 9, none⟩ = some (.slice none 0 0) := blk_cell hrc8 9; have yf9 : w8.frozen? ⟨rc, 9, none⟩ = false := blk_frozen hrc8 9; have y10 : w8.cell? ⟨rc, 10, none⟩ = some (.int .i64 0) := blk_cell hrc8 10; have yf10 : w8.frozen? ⟨rc, 10, none⟩ = false := blk_frozen hrc8 10; have y11 : w8.cell? ⟨rc, 11, none⟩ = some (.slice none 0 0) := blk_cell hrc8 11; have yf11 : w8.frozen? ⟨rc, 11, none⟩ = false := blk_frozen hrc8 11; clear hr hk hrc8 hg8) | ((with_reducible refine gate_dst (N := 6) rfl ?_); refine box_event ?hg (N := 6) ?hd (cs := #[.int .i64 0, .int .u64 0, .int .u64 0, .int .u64 0, .int .u64 0, .int .u64 0, .int .u64 0, .int .i64 0, .int .u64 0, .slice none 0 0, .int .i64 0, .slice none 0 0]) (t := 38) ?hr ?_; (case hd => rfl); (case hg => rfl); (case hr => first | (go_simp; done) | (go_simp; rfl)); intro gm hgm w10 hbox hb; have HGM := Aside0.mk hbox; have HB10 := Aside0.mk hb; have HGN := Aside0.mk hgm; have u0 : w10.cell? ⟨gm, 0, none⟩ = some (.int .i64 0) := blk_cell hbox 0; have uf0 : w10.frozen? ⟨gm, 0, none⟩ = false := blk_frozen hbox 0; have u1 : w10.cell? ⟨gm, 1, none⟩ = some (.int .u64 0) := blk_cell hbox 1; have uf1 : w10.frozen? ⟨gm, 1, none⟩ = false := blk_frozen hbox 1; have u2 : w10.cell? ⟨gm, 2, none⟩ = some (.int .u64 0) := blk_cell hbox 2; have uf2 : w10.frozen? ⟨gm, 2, none⟩ = false := blk_frozen hbox 2; have u3 : w10.cell? ⟨gm, 3, none⟩ = some (.int .u64 0) := blk_cell hbox 3; have uf3 : w10.frozen? ⟨gm, 3, none⟩ = false := blk_frozen hbox 3; have u4 : w10.cell? ⟨gm, 4, none⟩ = some (.int .u64 0) := blk_cell hbox 4; have uf4 : w10.frozen? ⟨gm, 4, none⟩ = false := blk_frozen hbox 4; have u5 : w10.cell? ⟨gm, 5, none⟩ = some (.int .u64 0) := blk_cell hbox 5; have uf5 : w10.frozen? ⟨gm, 5, none⟩ = false := blk_frozen hbox 5; have u6 : w10.cell? ⟨gm, 6, none⟩ = some (.int .u64 0) := blk_cell hbox 6; have uf6 : w10.frozen? ⟨gm, 6, none⟩ = false := blk_frozen hbox 6; have u7 : w10.cell? ⟨gm, 7, none⟩ = some (.int .i64 0) := blk_cell hbox 7; have uf7 : w10.frozen? ⟨gm, 7, none⟩ = false := blk_frozen hbox 7; have u8 : w10.cell? ⟨gm, 8, none⟩ = some (.int .u64 0) := blk_cell hbox 8; have uf8 : w10.frozen? ⟨gm, 8, none⟩ = false := blk_frozen hbox 8; have u9 : w10.cell? ⟨gm, 9, none⟩ = some (.slice none 0 0) := blk_cell hbox 9; have uf9 : w10.frozen? ⟨gm, 9, none⟩ = false := blk_frozen hbox 9; have u10 : w10.cell? ⟨gm, 10, none⟩ = some (.int .i64 0) := blk_cell hbox 10; have uf10 : w10.frozen? ⟨gm, 10, none⟩ = false := blk_frozen hbox 10; have u11 : w10.cell? ⟨gm, 11, none⟩ = some (.slice none 0 0) := blk_cell hbox 11; have uf11 : w10.frozen? ⟨gm, 11, none⟩ = false := blk_frozen hbox 11; clear hbox hb hgm))
  obtain ⟨w11, hw11⟩ : ∃ w11, st12 w10 gm (.int .i64 (kx : Int)) (.int .u64 0) (.int .u64 0) (.int .u64 0) (.int .u64 0) (.int .u64 0) (.int .u64 0) (.int .i64 0) (.int .u64 0) (.slice none 0 0) (.int .i64 0) (.slice none 0 0) = w11 := ⟨_, rfl⟩
  have hgm : w11.heap[gm]? = some (.cells (mcells (Ms.of (kx : Int)) (.slice none 0 0) (.slice none 0 0)) 38 (0, 0)) := by rw [← hw11]; exact st12_blk HGM.out _ _ _ _ _ _ _ _ _ _ _ _
  have hkk : Kept w8 w11 (fun i => i = gm) := by rw [← hw11]; exact (Kept.of_below HB10.out _).then_ (st12_kept w10 gm _ _ _ _ _ _ _ _ _ _ _ _) (fun i hi => .inl hi)
  have hbl : Below w.heap.size w w11 := by rw [← hw11]; exact st12_bel (below_step HR8.out.bel HB10.out) (by have := HGN.out; have := HR8.out.bel.size; omega) _ _ _ _ _ _ _ _ _ _ _ _
  have HRC11 := Aside0.mk (blk_kept HRC8.out hkk (by have := blk_lt HRC8.out; have := HGN.out; omega))
  have HR11 := Aside0.mk (HR8.out.keep hbl hkk (by obtain ⟨A9, c9, hg9⟩ := HR8.out.row; have := blk_lt hg9; have := HGN.out; omega))
  have HM11 := Aside0.mk (show MI w w11 38 gm (Ms.of (kx : Int)) (.slice none 0 0) (.slice none 0 0) from ⟨hgm, by have := HGN.out; have := HR8.out.bel.size; omega, Ls.nil _ _ _ _, Ls.nil _ _ _ _⟩)
  have HGL := Aside0.mk (show rc < gm ∧ gr < gm from ⟨by have := blk_lt HRC8.out; have := HGN.out; omega, by obtain ⟨A9, c9, hg9⟩ := HR8.out.row; have := blk_lt hg9; have := HGN.out; omega⟩)
  have kg0 : w11.cell? ⟨gm, 0, none⟩ = some (.int .i64 (kx : Int)) := blk_cell hgm 0
  unfold st12 at hw11
  rw [hw11]
  clear hw11 hgm hkk hbl y0 yf0 u0 uf0 y1 yf1 u1 uf1 y2 yf2 u2 uf2 y3 yf3 u3 uf3 y4 yf4 u4 uf4 y5 yf5 u5 uf5 y6 yf6 u6 uf6 y7 yf7 u7 uf7 y8 yf8 u8 uf8 y9 yf9 u9 uf9 y10 yf10 u10 uf10 y11 yf11 u11 uf11
  refine start_ (n := 6) (S := fun w' => w'.cell? ⟨gm, 0, none⟩ = some (.int .i64 (kx : Int))) (ds := [4]) #[false, false, false, false, false, false] (by kernel_rfl) rfl rfl (kg0) (fun hHeld => ?_)
  refine pure_ (i := 1) (N := some 35) (v := ?_) (a' := ?_) #[false, true, false, false, false, false] rfl rfl (by kernel_rfl) (fun _ _ _ h => h) (Or.inl ⟨by rfl, ?_⟩) ?_ ?_
  rotate_left
  · intro w'
    go_simp
    with_reducible rfl
  rotate_left
  · simp only [Act.put, List.setIfInBounds_toArray, List.set_cons_zero, List.set_cons_succ, i64_w, i32_w]
    rfl
  refine take_ (i := 2) (N := some 36) (v := ?_) (a' := ?_) #[false, true, true, false, false, false] rfl rfl (by kernel_rfl) (fun _ _ _ h => h) (Or.inl ⟨by rfl, ?_⟩) hHeld ?_ ?_
  rotate_left
  · intro w' s0
    go_simp
    with_reducible rfl
  rotate_left
  · simp only [Act.put, List.setIfInBounds_toArray, List.set_cons_zero, List.set_cons_succ, i64_w, i32_w]
    rfl
  refine one_ (i := 0) (N := some 34) #[true, true, true, false, false, false] rfl rfl (by kernel_rfl) (by decide) (fun K hK => ?_)
  refine goes_ Try.func34 (by kernel_rfl) rfl #[] (by rfl) rfl rfl (by first | (simp only [List.map_toArray, List.map_cons, List.map_nil]; rfl) | simp only [List.map_toArray, List.map_nil]) ?_
  with_reducible refine (fields_c (World.drew w11)).mono ?_
  rintro e w12 ⟨rfl, hfw⟩
  refine ⟨_, rfl, ?_⟩
  have bb0 : Below (World.drew w11).heap.size (World.drew w11) w12 := by rw [← hfw]; exact below_alloc (Below.refl _ _) _
  have ks : w12.cell? ⟨w11.heap.size, kx, none⟩ = some (.string S) := by rw [← hfw]; exact (blk_cell (blk_new _ _) kx).trans HS.out
  have bb := below_step (below_drew (Below.refl w11.heap.size w11)) bb0
  clear hfw
  refine hK.out _ _ (pw_cell_below bb kg0) (fun hHeld => ?_)
  clear hK K
  refine norm_ (a' := ?_) ?_ ?_
  rotate_left
  · show Act.put _ (some 34) _ = _
    simp only [Act.put, List.setIfInBounds_toArray, List.set_cons_zero, List.set_cons_succ, i64_w, i32_w]
    rfl
  refine pure_ (i := 3) (N := some 37) (v := ?_) (a' := ?_) #[true, true, true, true, false, false] rfl rfl (by kernel_rfl) (fun _ _ _ h => h) (Or.inl ⟨by rfl, ?_⟩) ?_ ?_
  rotate_left
  · intro w'
    go_simp
    with_reducible rfl
  rotate_left
  · simp only [Act.put, List.setIfInBounds_toArray, List.set_cons_zero, List.set_cons_succ, i64_w, i32_w]
    rfl
  refine last_ (i := 4) (N := some 38) #[true, true, true, true, true, false] rfl rfl (by kernel_rfl) (by decide) (fun K hK => ?_)
  refine value_ (w1 := ?_) (v := ?_) (by rfl) rfl ?_ ?_
  rotate_left 2
  · go_simp
    constructor
    · rfl
    · rfl
  refine hK.out _ _ ?_
  clear hK K
  refine norm_ (a' := ?_) ?_ ?_
  rotate_left
  · show Act.put _ (some 38) _ = _
    simp only [Act.put, List.setIfInBounds_toArray, List.set_cons_zero, List.set_cons_succ, i64_w, i32_w]
    rfl
  refine pure_ (i := 5) (N := some 7) (v := ?_) (a' := ?_) #[true, true, true, true, true, true] rfl rfl (by kernel_rfl) (fun _ _ _ h => h) (Or.inl ⟨by rfl, ?_⟩) ?_ ?_
  rotate_left
  · intro w'
    go_simp
    with_reducible rfl
  rotate_left
  · simp only [Act.put, List.setIfInBounds_toArray, List.set_cons_zero, List.set_cons_succ, i64_w, i32_w]
    rfl
  refine done_ (by kernel_rfl) ?_
  obtain ⟨n, hn⟩ : ∃ n, S.size = n := ⟨_, rfl⟩
  have hbb := bb
  clear kg0
  have HNL := Aside0.mk (show n = (lettersV (kx : Int)).length from hn ▸ HSN.out)
  have HNB := Aside0.mk (show n ≤ 4 by rw [HNL.out]; exact letters_len (kx : Int))
  have HRCB := Aside0.mk (blk_below HRC11.out hbb)
  have HGB := Aside0.mk (show rc < gm ∧ gr < gm from HGL.out)
  have HRB := Aside0.mk (HR11.out.keep (below_step HR11.out.bel hbb) (Kept.of_below hbb (fun _ => False)) (fun h => h))
  have HMB := Aside0.mk (HM11.out.below hbb)
  have HSZ := Aside0.mk hn
  clear hbb
  go_wp2_with fail
  go_loopw [8] (fun vi wr => ∃ (i : Nat) (m1 : Ms) (vP vL : Value) (b2 : List Int) (e2 : Int), vi = .int .i64 i ∧ Aside0 (i ≤ n) ∧ Aside0 (foldV ((lettersV (kx : Int)).drop i) m1 b2 e2 = (mf, bf, ef)) ∧ Aside0 (Bytes b2 ∧ b2.length ≤ 100000) ∧ Aside0 (Rd w wr 73 gr b2 e2) ∧ Aside0 (MI w wr 38 gm m1 vP vL) ∧ Aside0 (Kept w12 wr (fun i => i = gr ∨ i = gm)) ∧ Aside0 (m1.In)) (fun vi _ => (n - intOf vi).toNat)
  case atStart => exact ⟨0, Ms.of (kx : Int), _, _, b1, 0, rfl, ⟨Nat.zero_le _⟩, HF, HB1, HRB, HMB, ⟨Kept.refl _ _⟩, ⟨In_of (kx : Int)⟩⟩
  case round =>
    obtain ⟨i, m1, vP, vL, b2, e2, rfl, HI, HFO, HB2, HR2, HM2, HK2, HIN⟩ := hrel
    have l1 := HI.out
    have l3 := HNB.out
    by_cases hlt : i < n
    · have d3 : decide ((i : Int) < (n : Int)) = true := decide_eq_true (by omega)
      have d3' : decide (i < n) = true := decide_eq_true hlt
      have hil : i < (lettersV (kx : Int)).length := by have := HNL.out; omega
      obtain ⟨c, hc⟩ : ∃ c, (lettersV (kx : Int))[i]? = some c := ⟨_, List.getElem?_eq_getElem hil⟩
      have hdr : (lettersV (kx : Int)).drop i = c :: (lettersV (kx : Int)).drop (i + 1) := by
        rw [List.drop_eq_getElem_cons hil]
        rw [List.getElem?_eq_getElem hil] at hc
        rw [Option.some.inj hc]
      rcases hfd : fieldV m1 b2 e2 c with ⟨m3, b3, e3⟩
      have hfo := HFO.out
      rw [hdr] at hfo
      unfold foldV at hfo
      rw [hfd] at hfo
      have hbd := field_bd HIN.out HB2.out.1 e2 c
      rw [hfd] at hbd
      have HFO3 := Aside0.mk hfo
      have HB3 := Aside0.mk (show Bytes b3 ∧ b3.length ≤ 100000 from ⟨hbd.2.1, Nat.le_trans hbd.2.2 HB2.out.2⟩)
      have HIN3 := Aside0.mk hbd.1
      obtain ⟨AP1, cP1, eP1, _, _⟩ := HM2.out.P.form
      obtain ⟨AL1, cL1, eL1, _, _⟩ := HM2.out.L.form
      subst eP1 eL1
      have hgm := HM2.out.blk
      have x0 : wr.cell? ⟨gm, 0, none⟩ = some (.int .i64 m1.k) := blk_cell hgm 0
      have xf0 : wr.frozen? ⟨gm, 0, none⟩ = false := blk_frozen hgm 0
      have x1 : wr.cell? ⟨gm, 1, none⟩ = some (.int .u64 m1.s) := blk_cell hgm 1
      have xf1 : wr.frozen? ⟨gm, 1, none⟩ = false := blk_frozen hgm 1
      have x2 : wr.cell? ⟨gm, 2, none⟩ = some (.int .u64 m1.se) := blk_cell hgm 2
      have xf2 : wr.frozen? ⟨gm, 2, none⟩ = false := blk_frozen hgm 2
      have x3 : wr.cell? ⟨gm, 3, none⟩ = some (.int .u64 m1.a) := blk_cell hgm 3
      have xf3 : wr.frozen? ⟨gm, 3, none⟩ = false := blk_frozen hgm 3
      have x4 : wr.cell? ⟨gm, 4, none⟩ = some (.int .u64 m1.i) := blk_cell hgm 4
      have xf4 : wr.frozen? ⟨gm, 4, none⟩ = false := blk_frozen hgm 4
      have x5 : wr.cell? ⟨gm, 5, none⟩ = some (.int .u64 m1.n) := blk_cell hgm 5
      have xf5 : wr.frozen? ⟨gm, 5, none⟩ = false := blk_frozen hgm 5
      have x6 : wr.cell? ⟨gm, 6, none⟩ = some (.int .u64 m1.c) := blk_cell hgm 6
      have xf6 : wr.frozen? ⟨gm, 6, none⟩ = false := blk_frozen hgm 6
      have x7 : wr.cell? ⟨gm, 7, none⟩ = some (.int .i64 m1.why) := blk_cell hgm 7
      have xf7 : wr.frozen? ⟨gm, 7, none⟩ = false := blk_frozen hgm 7
      have x8 : wr.cell? ⟨gm, 8, none⟩ = some (.int .u64 m1.seed) := blk_cell hgm 8
      have xf8 : wr.frozen? ⟨gm, 8, none⟩ = false := blk_frozen hgm 8
      have x9 : wr.cell? ⟨gm, 9, none⟩ = some (.slice AP1 m1.P.length cP1) := blk_cell hgm 9
      have xf9 : wr.frozen? ⟨gm, 9, none⟩ = false := blk_frozen hgm 9
      have x10 : wr.cell? ⟨gm, 10, none⟩ = some (.int .i64 m1.most) := blk_cell hgm 10
      have xf10 : wr.frozen? ⟨gm, 10, none⟩ = false := blk_frozen hgm 10
      have x11 : wr.cell? ⟨gm, 11, none⟩ = some (.slice AL1 m1.L.length cL1) := blk_cell hgm 11
      have xf11 : wr.frozen? ⟨gm, 11, none⟩ = false := blk_frozen hgm 11
      have hsz : i < S.size := by rw [HSZ.out]; exact hlt
      have hbt := byte_at HSB.out hc hsz
      have HFD := Aside0.mk (show ∀ W, Kept wr W (fun _ => False) → Below w.heap.size w W → Calls Try.prog 43 #[.pointer (some ⟨gr, 0, none⟩), .agg #[.int .i64 m1.k, .int .u64 m1.s, .int .u64 m1.se, .int .u64 m1.a, .int .u64 m1.i, .int .u64 m1.n, .int .u64 m1.c, .int .i64 m1.why, .int .u64 m1.seed, .slice AP1 m1.P.length cP1, .int .i64 m1.most, .slice AL1 m1.L.length cL1], .int .u8 c] W fun er w' => ∃ vP vL, er = .returned (.agg (mcells m3 vP vL)) ∧ Rd w w' 73 gr b3 e3 ∧ Ls encI 3 w' w.heap.size vP m3.P ∧ Ls encI 3 w' w.heap.size vL m3.L ∧ Kept W w' (fun i => i = gr) from fun W hk hb => fieldr_c w W gr b2 HB2.out.1 HB2.out.2 e2 m1 AP1 AL1 cP1 cL1 (HR2.out.keep hb hk (fun h => h)) (lsK HM2.out.P hk (fun _ _ h => h)) (lsK HM2.out.L hk (fun _ _ h => h)) c (letters_isL _ c (List.mem_of_getElem? hc)) m3 b3 e3 hfd)
      have HGMB := Aside0.mk hgm
      have HGRB := Aside0.mk HR2.out.row
      have HBR := Aside0.mk HR2.out.bel
      have HGEM := Aside0.mk HM2.out.ge
      clear hfo hfd hbd hdr hc hil HFO HB2 HIN HR2 HM2 hgm
      go_upto_region 12 with (first | go_in)
      refine start_ (n := 7) (S := fun w' => w'.cell? ⟨gm, 0, none⟩ = some (.int .i64 m1.k) ∧ w'.cell? ⟨gm, 1, none⟩ = some (.int .u64 m1.s) ∧ w'.cell? ⟨gm, 2, none⟩ = some (.int .u64 m1.se) ∧ w'.cell? ⟨gm, 3, none⟩ = some (.int .u64 m1.a) ∧ w'.cell? ⟨gm, 4, none⟩ = some (.int .u64 m1.i) ∧ w'.cell? ⟨gm, 5, none⟩ = some (.int .u64 m1.n) ∧ w'.cell? ⟨gm, 6, none⟩ = some (.int .u64 m1.c) ∧ w'.cell? ⟨gm, 7, none⟩ = some (.int .i64 m1.why) ∧ w'.cell? ⟨gm, 8, none⟩ = some (.int .u64 m1.seed) ∧ w'.cell? ⟨gm, 9, none⟩ = some (.slice AP1 m1.P.length cP1) ∧ w'.cell? ⟨gm, 10, none⟩ = some (.int .i64 m1.most) ∧ w'.cell? ⟨gm, 11, none⟩ = some (.slice AL1 m1.L.length cL1)) (ds := [6]) #[false, false, false, false, false, false, false] (by kernel_rfl) rfl rfl ⟨x0, x1, x2, x3, x4, x5, x6, x7, x8, x9, x10, x11⟩ (fun hHeld => ?_)
      refine pure_ (i := 0) (N := some 45) (v := ?_) (a' := ?_) #[true, false, false, false, false, false, false] rfl rfl (by kernel_rfl) (fun _ _ _ h => h) (Or.inl ⟨by rfl, ?_⟩) ?_ ?_
      rotate_left
      · intro w'
        go_simp
        with_reducible rfl
      rotate_left
      · simp only [Act.put, List.setIfInBounds_toArray, List.set_cons_zero, List.set_cons_succ, i64_w, i32_w]
        rfl
      refine pure_ (i := 2) (N := some 47) (v := ?_) (a' := ?_) #[true, false, true, false, false, false, false] rfl rfl (by kernel_rfl) (fun _ _ _ h => h) (Or.inl ⟨by rfl, ?_⟩) ?_ ?_
      rotate_left
      · intro w'
        go_simp
        with_reducible rfl
      rotate_left
      · simp only [Act.put, List.setIfInBounds_toArray, List.set_cons_zero, List.set_cons_succ, i64_w, i32_w]
        rfl
      refine pure_ (i := 3) (N := some 48) (v := ?_) (a' := ?_) #[true, false, true, true, false, false, false] rfl rfl (by kernel_rfl) (fun _ _ _ h => h) (Or.inl ⟨by rfl, ?_⟩) ?_ ?_
      rotate_left
      · intro w'
        go_simp
        with_reducible rfl
      rotate_left
      · simp only [Act.put, List.setIfInBounds_toArray, List.set_cons_zero, List.set_cons_succ, i64_w, i32_w]
        rfl
      refine take_ (i := 1) (N := some 46) (v := ?_) (a' := ?_) #[true, true, true, true, false, false, false] rfl rfl (by kernel_rfl) (fun _ _ _ h => h) (Or.inl ⟨by rfl, ?_⟩) hHeld ?_ ?_
      rotate_left
      · rintro w' ⟨s0, s1, s2, s3, s4, s5, s6, s7, s8, s9, s10, s11⟩
        go_simp
        with_reducible rfl
      rotate_left
      · simp only [Act.put, List.setIfInBounds_toArray, List.set_cons_zero, List.set_cons_succ, i64_w, i32_w]
        rfl
      refine take_ (i := 4) (N := some 49) (v := ?_) (a' := ?_) #[true, true, true, true, true, false, false] rfl rfl (by kernel_rfl) (fun _ _ _ h => h) (Or.inl ⟨by rfl, ?_⟩) hHeld ?_ ?_
      rotate_left
      · rintro w' ⟨s0, s1, s2, s3, s4, s5, s6, s7, s8, s9, s10, s11⟩
        go_simp
        with_reducible rfl
      rotate_left
      · simp only [Act.put, List.setIfInBounds_toArray, List.set_cons_zero, List.set_cons_succ, i64_w, i32_w]
        rfl
      refine one_ (i := 5) (N := some 50) #[true, true, true, true, true, true, false] rfl rfl (by kernel_rfl) (by decide) (fun K hK => ?_)
      refine goes_ Try.func43 (by kernel_rfl) rfl #[.pointer (some ⟨gr, 0, none⟩), .agg #[.int .i64 m1.k, .int .u64 m1.s, .int .u64 m1.se, .int .u64 m1.a, .int .u64 m1.i, .int .u64 m1.n, .int .u64 m1.c, .int .i64 m1.why, .int .u64 m1.seed, .slice AP1 m1.P.length cP1, .int .i64 m1.most, .slice AL1 m1.L.length cL1], .int .u8 c] (by rfl) rfl rfl (by simp only [List.map_toArray, List.map_cons, List.map_nil]; rfl) ?_
      with_reducible refine (HFD.out _ (Kept.of_below (below_drew (Below.refl wr.heap.size wr)) _) (below_drew HBR.out)).mono ?_
      rintro e w13 ⟨vP3, vL3, rfl, hr, hp3, hl3, hk⟩
      refine ⟨_, rfl, ?_⟩
      obtain ⟨AP3, cP3, rfl, _, _⟩ := hp3.form
      obtain ⟨AL3, cL3, rfl, _, _⟩ := hl3.form
      have HR13 := Aside0.mk hr; have HP13 := Aside0.mk hp3; have HL13 := Aside0.mk hl3
      have hg13 := blk_kept HGMB.out hk (by obtain ⟨Az, cz, hz⟩ := HGRB.out; exact blk_ne HGMB.out hz (by decide))
      have q0 : w13.cell? ⟨gm, 0, none⟩ = some (.int .i64 m1.k) := blk_cell hg13 0
      have q1 : w13.cell? ⟨gm, 1, none⟩ = some (.int .u64 m1.s) := blk_cell hg13 1
      have q2 : w13.cell? ⟨gm, 2, none⟩ = some (.int .u64 m1.se) := blk_cell hg13 2
      have q3 : w13.cell? ⟨gm, 3, none⟩ = some (.int .u64 m1.a) := blk_cell hg13 3
      have q4 : w13.cell? ⟨gm, 4, none⟩ = some (.int .u64 m1.i) := blk_cell hg13 4
      have q5 : w13.cell? ⟨gm, 5, none⟩ = some (.int .u64 m1.n) := blk_cell hg13 5
      have q6 : w13.cell? ⟨gm, 6, none⟩ = some (.int .u64 m1.c) := blk_cell hg13 6
      have q7 : w13.cell? ⟨gm, 7, none⟩ = some (.int .i64 m1.why) := blk_cell hg13 7
      have q8 : w13.cell? ⟨gm, 8, none⟩ = some (.int .u64 m1.seed) := blk_cell hg13 8
      have q9 : w13.cell? ⟨gm, 9, none⟩ = some (.slice AP1 m1.P.length cP1) := blk_cell hg13 9
      have q10 : w13.cell? ⟨gm, 10, none⟩ = some (.int .i64 m1.most) := blk_cell hg13 10
      have q11 : w13.cell? ⟨gm, 11, none⟩ = some (.slice AL1 m1.L.length cL1) := blk_cell hg13 11
      have qf0 : w13.frozen? ⟨gm, 0, none⟩ = false := blk_frozen hg13 0
      have qf1 : w13.frozen? ⟨gm, 1, none⟩ = false := blk_frozen hg13 1
      have qf2 : w13.frozen? ⟨gm, 2, none⟩ = false := blk_frozen hg13 2
      have qf3 : w13.frozen? ⟨gm, 3, none⟩ = false := blk_frozen hg13 3
      have qf4 : w13.frozen? ⟨gm, 4, none⟩ = false := blk_frozen hg13 4
      have qf5 : w13.frozen? ⟨gm, 5, none⟩ = false := blk_frozen hg13 5
      have qf6 : w13.frozen? ⟨gm, 6, none⟩ = false := blk_frozen hg13 6
      have qf7 : w13.frozen? ⟨gm, 7, none⟩ = false := blk_frozen hg13 7
      have qf8 : w13.frozen? ⟨gm, 8, none⟩ = false := blk_frozen hg13 8
      have qf9 : w13.frozen? ⟨gm, 9, none⟩ = false := blk_frozen hg13 9
      have qf10 : w13.frozen? ⟨gm, 10, none⟩ = false := blk_frozen hg13 10
      have qf11 : w13.frozen? ⟨gm, 11, none⟩ = false := blk_frozen hg13 11
      have HG13 := Aside0.mk hg13; have HK13 := Aside0.mk ((Kept.of_below (below_drew (Below.refl wr.heap.size wr)) (fun i => i = gr)).then_ hk (fun i hi => .inl hi))
      clear hr hp3 hl3 hk hg13
      refine hK.out _ _ ⟨q0, q1, q2, q3, q4, q5, q6, q7, q8, q9, q10, q11⟩ (fun hHeld => ?_)
      clear hK K
      refine norm_ (a' := ?_) ?_ ?_
      rotate_left
      · show Act.put _ (some 50) _ = _
        simp only [Act.put, List.setIfInBounds_toArray, List.set_cons_zero, List.set_cons_succ, i64_w, i32_w]
        rfl
      refine last_ (i := 6) (N := none) #[true, true, true, true, true, true, true] rfl rfl (by kernel_rfl) (by decide) (fun K hK => ?_)
      refine skip_ (w1 := ?_) (by rfl) rfl ?_ ?_
      rotate_left
      · go_simp
        rfl
      refine hK.out _ _ ?_
      clear hK K
      refine done_ (by kernel_rfl) ?_
      obtain ⟨wz, hwz⟩ : ∃ wz, st12 w13 gm (.int .i64 m3.k) (.int .u64 m3.s) (.int .u64 m3.se) (.int .u64 m3.a) (.int .u64 m3.i) (.int .u64 m3.n) (.int .u64 m3.c) (.int .i64 m3.why) (.int .u64 m3.seed) (.slice AP3 m3.P.length cP3) (.int .i64 m3.most) (.slice AL3 m3.L.length cL3) = wz := ⟨_, rfl⟩
      have hgr : gr ≠ gm := by have := HGB.out; omega
      have mz : MI w wz 38 gm m3 (.slice AP3 m3.P.length cP3) (.slice AL3 m3.L.length cL3) := by
        rw [← hwz]
        exact ⟨st12_blk HG13.out _ _ _ _ _ _ _ _ _ _ _ _, HGEM.out, lsK1 HP13.out (st12_kept _ _ _ _ _ _ _ _ _ _ _ _ _ _) HG13.out (by decide), lsK1 HL13.out (st12_kept _ _ _ _ _ _ _ _ _ _ _ _ _ _) HG13.out (by decide)⟩
      have rz : Rd w wz 73 gr b3 e3 := by
        rw [← hwz]
        exact HR13.out.keep (st12_bel HR13.out.bel HGEM.out _ _ _ _ _ _ _ _ _ _ _ _) (st12_kept _ _ _ _ _ _ _ _ _ _ _ _ _ _) hgr
      have kz : Kept w12 wz (fun i => i = gr ∨ i = gm) := by
        rw [← hwz]
        exact kept_then (kept_then HK2.out HK13.out (fun i hi => .inl hi)) (st12_kept _ _ _ _ _ _ _ _ _ _ _ _ _ _) (fun i hi => .inr hi)
      have HRZ := Aside0.mk rz; have HMZ := Aside0.mk mz; have HKZ := Aside0.mk kz
      unfold st12 at hwz
      rw [hwz]
      clear hwz hgr mz rz kz q0 qf0 x0 xf0 q1 qf1 x1 xf1 q2 qf2 x2 xf2 q3 qf3 x3 xf3 q4 qf4 x4 xf4 q5 qf5 x5 xf5 q6 qf6 x6 xf6 q7 qf7 x7 xf7 q8 qf8 x8 xf8 q9 qf9 x9 xf9 q10 qf10 x10 xf10 q11 qf11 x11 xf11
      go_wp2_with (first | go_in)
      go_roundw
      case rel => exact ⟨i + 1, m3, _, _, b3, e3, by go_num, ⟨by have := HI.out; omega⟩, HFO3, HB3, HRZ, HMZ, HKZ, HIN3⟩
      case measure => simp [intOf]; omega
    · obtain rfl : i = n := by omega
      have hfo := HFO.out
      rw [List.drop_eq_nil_of_le (by have := HNL.out; omega)] at hfo
      unfold foldV at hfo
      simp only [Prod.mk.injEq] at hfo
      obtain ⟨rfl, rfl, rfl⟩ := hfo
      have hv := HV.out
      have hrc := blk_kept HRCB.out HK2.out (fun h => by have := HGB.out; have := HLT.out; omega)
      have HRCR := Aside0.mk hrc
      obtain ⟨A9, c9, hg9⟩ := HR2.out.row
      have z0 : wr.cell? ⟨gr, 0, none⟩ = some (.slice A9 b2.length c9) := blk_cell hg9 0
      have z1 : wr.cell? ⟨gr, 1, none⟩ = some (.int .i64 e2) := blk_cell hg9 1
      have n1 : gr ≠ rc := Nat.ne_of_gt HLT.out
      have n2 : rc ≠ gr := Nat.ne_of_lt HLT.out
      have y0 : wr.cell? ⟨rc, 0, none⟩ = some (.int .i64 0) := blk_cell hrc 0
      have yf0 : wr.frozen? ⟨rc, 0, none⟩ = false := blk_frozen hrc 0
      have y1 : wr.cell? ⟨rc, 1, none⟩ = some (.int .u64 0) := blk_cell hrc 1
      have yf1 : wr.frozen? ⟨rc, 1, none⟩ = false := blk_frozen hrc 1
      have y2 : wr.cell? ⟨rc, 2, none⟩ = some (.int .u64 0) := blk_cell hrc 2
      have yf2 : wr.frozen? ⟨rc, 2, none⟩ = false := blk_frozen hrc 2
      have y3 : wr.cell? ⟨rc, 3, none⟩ = some (.int .u64 0) := blk_cell hrc 3
      have yf3 : wr.frozen? ⟨rc, 3, none⟩ = false := blk_frozen hrc 3
      have y4 : wr.cell? ⟨rc, 4, none⟩ = some (.int .u64 0) := blk_cell hrc 4
      have yf4 : wr.frozen? ⟨rc, 4, none⟩ = false := blk_frozen hrc 4
      have y5 : wr.cell? ⟨rc, 5, none⟩ = some (.int .u64 0) := blk_cell hrc 5
      have yf5 : wr.frozen? ⟨rc, 5, none⟩ = false := blk_frozen hrc 5
      have y6 : wr.cell? ⟨rc, 6, none⟩ = some (.int .u64 0) := blk_cell hrc 6
      have yf6 : wr.frozen? ⟨rc, 6, none⟩ = false := blk_frozen hrc 6
      have y7 : wr.cell? ⟨rc, 7, none⟩ = some (.int .i64 0) := blk_cell hrc 7
      have yf7 : wr.frozen? ⟨rc, 7, none⟩ = false := blk_frozen hrc 7
      have y8 : wr.cell? ⟨rc, 8, none⟩ = some (.int .u64 0) := blk_cell hrc 8
      have yf8 : wr.frozen? ⟨rc, 8, none⟩ = false := blk_frozen hrc 8
      have y9 : wr.cell? ⟨rc, 9, none⟩ = some (.slice none 0 0) := blk_cell hrc 9
      have yf9 : wr.frozen? ⟨rc, 9, none⟩ = false := blk_frozen hrc 9
      have y10 : wr.cell? ⟨rc, 10, none⟩ = some (.int .i64 0) := blk_cell hrc 10
      have yf10 : wr.frozen? ⟨rc, 10, none⟩ = false := blk_frozen hrc 10
      have y11 : wr.cell? ⟨rc, 11, none⟩ = some (.slice none 0 0) := blk_cell hrc 11
      have yf11 : wr.frozen? ⟨rc, 11, none⟩ = false := blk_frozen hrc 11
      clear hrc hg9
      by_cases he : e2 = 0
      rotate_left
      · rw [if_neg he] at hv
        obtain ⟨rfl, rfl⟩ := Prod.mk.inj hv
        have q1 : (e2 != 0) = true := by simpa using he
        clear he hv
        go_upto_region 14 with (fail)
        go_region
        go_wp2_with fail
        (try simp only [Exit.inBlock, Exit.then])
        refine bodyPost_ret (results_ct rfl _ _ rc 38 #[.int .i64 0, .int .u64 0, .int .u64 0, .int .u64 0, .int .u64 0, .int .u64 0, .int .u64 0, .int .i64 0, .int .u64 0, .slice none 0 0, .int .i64 0, .slice none 0 0] (0, 0) _ rfl (blk_drew (st12_blk HRCR.out (.int .i64 0) (.int .u64 0) (.int .u64 0) (.int .u64 0) (.int .u64 0) (.int .u64 0) (.int .u64 0) (.int .i64 0) (.int .u64 0) (.slice none 0 0) (.int .i64 0) (.slice none 0 0))) Try.underlying38 (by rfl) (by kernel_rfl)) rfl ?_
        exact ⟨_, _, rfl, Ls.nil _ _ _ _, Ls.nil _ _ _ _, below_drew (st12_bel HR2.out.bel (Nat.le_of_eq HNC.out.symm) (.int .i64 0) (.int .u64 0) (.int .u64 0) (.int .u64 0) (.int .u64 0) (.int .u64 0) (.int .u64 0) (.int .i64 0) (.int .u64 0) (.slice none 0 0) (.int .i64 0) (.slice none 0 0))⟩
      subst he
      rw [if_pos rfl] at hv
      by_cases hb2 : b2 = []
      rotate_left
      · rw [if_neg hb2] at hv
        obtain ⟨rfl, rfl⟩ := Prod.mk.inj hv
        have hpos : 0 < b2.length := List.length_pos_iff.2 hb2
        have q1 : decide ((0 : Int) < (b2.length : Int)) = true := decide_eq_true (by omega)
        have q2 : decide (0 < b2.length) = true := decide_eq_true hpos
        clear hb2 hv
        go_wp2_with fail
        (try simp only [Exit.inBlock, Exit.then])
        refine bodyPost_ret (results_ct rfl _ _ rc 38 #[.int .i64 0, .int .u64 0, .int .u64 0, .int .u64 0, .int .u64 0, .int .u64 0, .int .u64 0, .int .i64 0, .int .u64 0, .slice none 0 0, .int .i64 0, .slice none 0 0] (0, 0) _ rfl (st12_blk HRCR.out (.int .i64 0) (.int .u64 0) (.int .u64 0) (.int .u64 0) (.int .u64 0) (.int .u64 0) (.int .u64 0) (.int .i64 0) (.int .u64 0) (.slice none 0 0) (.int .i64 0) (.slice none 0 0)) Try.underlying38 (by rfl) (by kernel_rfl)) rfl ?_
        exact ⟨_, _, rfl, Ls.nil _ _ _ _, Ls.nil _ _ _ _, st12_bel HR2.out.bel (Nat.le_of_eq HNC.out.symm) (.int .i64 0) (.int .u64 0) (.int .u64 0) (.int .u64 0) (.int .u64 0) (.int .u64 0) (.int .u64 0) (.int .i64 0) (.int .u64 0) (.slice none 0 0) (.int .i64 0) (.slice none 0 0)⟩
      subst hb2
      rw [if_pos rfl] at hv
      obtain ⟨rfl, rfl⟩ := Prod.mk.inj hv
      obtain ⟨AP, cP, rfl, _, _⟩ := HM2.out.P.form
      obtain ⟨AL, cL, rfl, _, _⟩ := HM2.out.L.form
      have z0 : wr.cell? ⟨gr, 0, none⟩ = some (.slice A9 0 c9) := z0
      have hgm := HM2.out.blk
      have u0 : wr.cell? ⟨gm, 0, none⟩ = some (.int .i64 m1.k) := blk_cell hgm 0
      have uf0 : wr.frozen? ⟨gm, 0, none⟩ = false := blk_frozen hgm 0
      have u1 : wr.cell? ⟨gm, 1, none⟩ = some (.int .u64 m1.s) := blk_cell hgm 1
      have uf1 : wr.frozen? ⟨gm, 1, none⟩ = false := blk_frozen hgm 1
      have u2 : wr.cell? ⟨gm, 2, none⟩ = some (.int .u64 m1.se) := blk_cell hgm 2
      have uf2 : wr.frozen? ⟨gm, 2, none⟩ = false := blk_frozen hgm 2
      have u3 : wr.cell? ⟨gm, 3, none⟩ = some (.int .u64 m1.a) := blk_cell hgm 3
      have uf3 : wr.frozen? ⟨gm, 3, none⟩ = false := blk_frozen hgm 3
      have u4 : wr.cell? ⟨gm, 4, none⟩ = some (.int .u64 m1.i) := blk_cell hgm 4
      have uf4 : wr.frozen? ⟨gm, 4, none⟩ = false := blk_frozen hgm 4
      have u5 : wr.cell? ⟨gm, 5, none⟩ = some (.int .u64 m1.n) := blk_cell hgm 5
      have uf5 : wr.frozen? ⟨gm, 5, none⟩ = false := blk_frozen hgm 5
      have u6 : wr.cell? ⟨gm, 6, none⟩ = some (.int .u64 m1.c) := blk_cell hgm 6
      have uf6 : wr.frozen? ⟨gm, 6, none⟩ = false := blk_frozen hgm 6
      have u7 : wr.cell? ⟨gm, 7, none⟩ = some (.int .i64 m1.why) := blk_cell hgm 7
      have uf7 : wr.frozen? ⟨gm, 7, none⟩ = false := blk_frozen hgm 7
      have u8 : wr.cell? ⟨gm, 8, none⟩ = some (.int .u64 m1.seed) := blk_cell hgm 8
      have uf8 : wr.frozen? ⟨gm, 8, none⟩ = false := blk_frozen hgm 8
      have u9 : wr.cell? ⟨gm, 9, none⟩ = some (.slice AP m1.P.length cP) := blk_cell hgm 9
      have uf9 : wr.frozen? ⟨gm, 9, none⟩ = false := blk_frozen hgm 9
      have u10 : wr.cell? ⟨gm, 10, none⟩ = some (.int .i64 m1.most) := blk_cell hgm 10
      have uf10 : wr.frozen? ⟨gm, 10, none⟩ = false := blk_frozen hgm 10
      have u11 : wr.cell? ⟨gm, 11, none⟩ = some (.slice AL m1.L.length cL) := blk_cell hgm 11
      have uf11 : wr.frozen? ⟨gm, 11, none⟩ = false := blk_frozen hgm 11
      have n3 : gm ≠ rc := Nat.ne_of_gt HGB.out.1
      have n4 : rc ≠ gm := Nat.ne_of_lt HGB.out.1
      clear hv hgm
      go_wp2_with fail
      (try simp only [Exit.inBlock, Exit.then])
      refine bodyPost_ret (results_ct rfl _ _ rc 38 #[.int .i64 m1.k, .int .u64 m1.s, .int .u64 m1.se, .int .u64 m1.a, .int .u64 m1.i, .int .u64 m1.n, .int .u64 m1.c, .int .i64 m1.why, .int .u64 m1.seed, .slice AP m1.P.length cP, .int .i64 m1.most, .slice AL m1.L.length cL] (0, 0) _ rfl (st12_blk HRCR.out _ _ _ _ _ _ _ _ _ _ _ _) Try.underlying38 (by rfl) (by kernel_rfl)) rfl ?_
      exact ⟨_, _, rfl, lsK1 HM2.out.P (st12_kept _ _ _ _ _ _ _ _ _ _ _ _ _ _) HRCR.out (by decide), lsK1 HM2.out.L (st12_kept _ _ _ _ _ _ _ _ _ _ _ _ _ _) HRCR.out (by decide), st12_bel HR2.out.bel (Nat.le_of_eq HNC.out.symm) _ _ _ _ _ _ _ _ _ _ _ _⟩
end Go.Proofs.Ytbfmbjkalldonaa.Msg
namespace Go.Proofs.Ytbfmbjkalldonaa.Msg
set_option linter.unusedVariables false
set_option linter.unusedSimpArgs false
open Go.RowKit Go.Proofs.Ytbfmbjkalldonaa.PA Go.Proofs.YtbfmbjkalldonaaW.PrintWords Go.Proofs.YtbfmbjkalldonaaW.PrintLast Go.Proofs.YtbfmbjkalldonaaW.PrintMore Go.Proofs.Ytbfmbjkalldonaa.Base Go.Proofs.Ytbfmbjkalldonaa.Var Go.Proofs.Ytbfmbjkalldonaa.Lst
attribute [local go_sem] max2_int min2_int max_two min_two max_three min_three max_four min_four
theorem below_of_drawn {F : Nat} {args : Array Value} {W : World} {v : Bool} (h : Calls Try.prog F args W fun e w' => e = .returned (.bool v) ∧ Drawn0 W w') : Calls Try.prog F args W fun e w' => e = .returned (.bool v) ∧ Below W.heap.size W w' :=
  h.mono fun e w' ⟨h1, h2⟩ => ⟨h1, by obtain ⟨n, rfl⟩ := h2; exact pw_below_drewN (Below.refl _ _) n⟩
theorem alike_loop (l r : List Int) (hl : l.length = r.length) (hb : l.length ≤ 1000000) : ∀ (t u : List Int) (i : Nat), i ≤ l.length → l.drop i = t → r.drop i = u → Ev (fun k => garboardref05_alike.l0 k l r (i : Int)) (decide (t = u))
  | [], u, i, hi, h, hu => by
    have := drop_end hi h
    have e : u = [] := by rw [← hu, List.drop_eq_nil_of_le (by omega)]
    subst e
    exact Ev.step (f := fun _ => some true) (fun q => by rw [garboardref05_alike.l0, if_neg (by omega)]) (Ev.now _)
  | c :: t, u, i, hi, h, hu => by
    obtain ⟨hr, hlt, hd⟩ := rd_drop h
    have hu2 := List.drop_eq_getElem_cons (l := r) (i := i) (by omega)
    rw [hu] at hu2
    subst hu2
    obtain ⟨hr2, _, hd2⟩ := rd_drop hu
    have e1 : wrap64 ((i : Int) + 1) = ((i + 1 : Nat) : Int) := by rw [w64 (by omega) (by omega)]; omega
    by_cases hc : c = r[i]
    · refine Ev.step (f := fun k => garboardref05_alike.l0 k l r ((i + 1 : Nat) : Int)) (fun q => ?_) (ev_eq (alike_loop l r hl hb t (r.drop (i + 1)) (i + 1) (by omega) hd rfl) ?_)
      · rw [garboardref05_alike.l0]
        simp only [hr, hr2, e1]
        repeat (first | rw [if_pos (by omega)] | rw [if_neg (by omega)])
      · rw [hc]; exact decide_eq_decide.2 ⟨fun h => by rw [h], fun h => (List.cons.inj h).2⟩
    · refine Ev.step (f := fun _ => some false) (fun q => ?_) (ev_eq (Ev.now _) ?_)
      · rw [garboardref05_alike.l0]
        simp only [hr, hr2, e1]
        repeat (first | rw [if_pos (by omega)] | rw [if_neg (by omega)])
      · exact (decide_eq_false fun h => hc (List.cons.inj h).1).symm
theorem alike_ev (l r : List Int) (hb : l.length ≤ 1000000) : Ev (fun k => garboardref05_alike.f k l r) (decide (l = r)) := by
  unfold garboardref05_alike.f
  by_cases h : l.length = r.length
  · refine ev_ifT (by omega) ?_
    have := alike_loop l r h hb l r 0 (Nat.zero_le _) rfl rfl
    exact this
  · refine ev_eq (ev_ifF (by omega) (Ev.now _)) ?_
    exact (decide_eq_false fun e => h (by rw [e])).symm
set_option maxHeartbeats 16000000 in
set_option maxRecDepth 100000 in
theorem rsame_self (w : World) (m : Ms) (A B A' B' : Option Addr) (c d c' d' : Nat) (hlP : m.P.length ≤ 1000000) (hlL : m.L.length ≤ 1000000) (hcP : m.P.length ≤ c) (hcL : m.L.length ≤ d) (hP : Kd.C (Kd.int .i64) w A m.P.length m.P) (hL : Kd.C (Kd.int .i64) w B m.L.length m.L) (hcP' : m.P.length ≤ c') (hcL' : m.L.length ≤ d') (hP' : Kd.C (Kd.int .i64) w A' m.P.length m.P) (hL' : Kd.C (Kd.int .i64) w B' m.L.length m.L) :
    Calls Try.prog 19 #[.agg #[.int .i64 m.k, .int .u64 m.s, .int .u64 m.se, .int .u64 m.a, .int .u64 m.i, .int .u64 m.n, .int .u64 m.c, .int .i64 m.why, .int .u64 m.seed, .slice A m.P.length c, .int .i64 m.most, .slice B m.L.length d], .agg #[.int .i64 m.k, .int .u64 m.s, .int .u64 m.se, .int .u64 m.a, .int .u64 m.i, .int .u64 m.n, .int .u64 m.c, .int .i64 m.why, .int .u64 m.seed, .slice A' m.P.length c', .int .i64 m.most, .slice B' m.L.length d']] w fun er w' => er = .returned (.bool true) ∧ Below w.heap.size w w' := by
  have hu := Try.underlying38
  have hu27 := Try.underlying27
  obtain ⟨K1, hK1⟩ := alike_ev m.P m.P hlP
  obtain ⟨K2, hK2⟩ := alike_ev m.L m.L hlL
  have hf1 := hK1 K1 (Nat.le_refl _)
  have hf2 := hK2 K2 (Nat.le_refl _)
  rw [decide_eq_true rfl] at hf1 hf2
  have HAP := Aside0.mk (fun W (hw : Below w.heap.size w W) => below_of_drawn (garboardref05_alike.calls K1 A c m.P A' c' m.P true W (Kd.C_below hP hw) hcP (Kd.C_below hP' hw) hcP' hf1))
  have HAL := Aside0.mk (fun W (hw : Below w.heap.size w W) => below_of_drawn (garboardref05_alike.calls K2 B d m.L B' d' m.L true W (Kd.C_below hL hw) hcL (Kd.C_below hL' hw) hcL' hf2))
  clear hlP hlL hcP hcL hP hL hcP' hcL' hP' hL' hK1 hK2 hf1 hf2
  go_enter Try.func19, Try.ntmps19
  go_wp2_with (first | ((with_reducible refine gate_dst (N := 2) rfl ?_); refine box_event ?hg (N := 2) ?hd (cs := #[.int .i64 m.k, .int .u64 m.s, .int .u64 m.se, .int .u64 m.a, .int .u64 m.i, .int .u64 m.n, .int .u64 m.c, .int .i64 m.why, .int .u64 m.seed, .slice A m.P.length c, .int .i64 m.most, .slice B m.L.length d]) (t := 38) ?hr ?_; (case hd => rfl); (case hg => rfl); (case hr => first | (go_simp; done) | (go_simp; rfl)); intro g hgn w5 hbox hb; have HG := Aside0.mk hbox; have HB5 := Aside0.mk hb; clear hbox hb hgn) | ((with_reducible refine gate_dst (N := 3) rfl ?_); refine box_event ?hg (N := 3) ?hd (cs := #[.int .i64 m.k, .int .u64 m.s, .int .u64 m.se, .int .u64 m.a, .int .u64 m.i, .int .u64 m.n, .int .u64 m.c, .int .i64 m.why, .int .u64 m.seed, .slice A' m.P.length c', .int .i64 m.most, .slice B' m.L.length d']) (t := 38) ?hr ?_; (case hd => rfl); (case hg => rfl); (case hr => first | (go_simp; done) | (go_simp; rfl)); intro h hgn w6 hbox hb; have hg6 := blk_below HG.out hb; have HG6 := Aside0.mk hg6; have HH6 := Aside0.mk hbox; have HB6 := Aside0.mk (below_step HB5.out hb); have u0 : w6.cell? ⟨g, 0, none⟩ = some (.int .i64 m.k) := blk_cell hg6 0; have u1 : w6.cell? ⟨g, 1, none⟩ = some (.int .u64 m.s) := blk_cell hg6 1; have u2 : w6.cell? ⟨g, 2, none⟩ = some (.int .u64 m.se) := blk_cell hg6 2; have u3 : w6.cell? ⟨g, 3, none⟩ = some (.int .u64 m.a) := blk_cell hg6 3; have u4 : w6.cell? ⟨g, 4, none⟩ = some (.int .u64 m.i) := blk_cell hg6 4; have u5 : w6.cell? ⟨g, 5, none⟩ = some (.int .u64 m.n) := blk_cell hg6 5; have u6 : w6.cell? ⟨g, 6, none⟩ = some (.int .u64 m.c) := blk_cell hg6 6; have u7 : w6.cell? ⟨g, 7, none⟩ = some (.int .i64 m.why) := blk_cell hg6 7; have u8 : w6.cell? ⟨g, 8, none⟩ = some (.int .u64 m.seed) := blk_cell hg6 8; have u9 : w6.cell? ⟨g, 9, none⟩ = some (.slice A m.P.length c) := blk_cell hg6 9; have u10 : w6.cell? ⟨g, 10, none⟩ = some (.int .i64 m.most) := blk_cell hg6 10; have u11 : w6.cell? ⟨g, 11, none⟩ = some (.slice B m.L.length d) := blk_cell hg6 11; have v0 : w6.cell? ⟨h, 0, none⟩ = some (.int .i64 m.k) := blk_cell hbox 0; have v1 : w6.cell? ⟨h, 1, none⟩ = some (.int .u64 m.s) := blk_cell hbox 1; have v2 : w6.cell? ⟨h, 2, none⟩ = some (.int .u64 m.se) := blk_cell hbox 2; have v3 : w6.cell? ⟨h, 3, none⟩ = some (.int .u64 m.a) := blk_cell hbox 3; have v4 : w6.cell? ⟨h, 4, none⟩ = some (.int .u64 m.i) := blk_cell hbox 4; have v5 : w6.cell? ⟨h, 5, none⟩ = some (.int .u64 m.n) := blk_cell hbox 5; have v6 : w6.cell? ⟨h, 6, none⟩ = some (.int .u64 m.c) := blk_cell hbox 6; have v7 : w6.cell? ⟨h, 7, none⟩ = some (.int .i64 m.why) := blk_cell hbox 7; have v8 : w6.cell? ⟨h, 8, none⟩ = some (.int .u64 m.seed) := blk_cell hbox 8; have v9 : w6.cell? ⟨h, 9, none⟩ = some (.slice A' m.P.length c') := blk_cell hbox 9; have v10 : w6.cell? ⟨h, 10, none⟩ = some (.int .i64 m.most) := blk_cell hbox 10; have v11 : w6.cell? ⟨h, 11, none⟩ = some (.slice B' m.L.length d') := blk_cell hbox 11; clear hg6; clear hbox hb hgn) | (go_at_call 41; (with_reducible refine (HAP.out _ HB6.out).mono ?_); rintro er w7 ⟨rfl, hb⟩; have HB7 := Aside0.mk (below_step HB6.out hb); have hg7 := blk_below HG6.out hb; have hh7 := blk_below HH6.out hb; have p11 : w7.cell? ⟨g, 11, none⟩ = some (.slice B m.L.length d) := blk_cell hg7 11; have q11 : w7.cell? ⟨h, 11, none⟩ = some (.slice B' m.L.length d') := blk_cell hh7 11; clear hb hg7 hh7) | (go_at_call 41; (with_reducible refine (HAL.out _ HB7.out).mono ?_); rintro er w8 ⟨rfl, hb⟩; have HB8 := Aside0.mk (below_step HB7.out hb); clear hb))
  go_ret
  exact ⟨rfl, HB8.out⟩
set_option maxHeartbeats 16000000 in
set_option maxRecDepth 100000 in
theorem rparsem_c (A0 : Option Addr) (c0 : Nat) (l : List Int) (hc0 : l.length ≤ c0) (hl : l.length ≤ 3000) (hbs : Bytes l) (x : List Int) (e : Int) (hf : Frm.oneV l = (x, e)) (hx : x.length ≤ 100000) (hbx : Bytes x) (m : Ms) (e1 : Int) (hr : parseR x e = (m, e1)) (w : World) (hb : Kd.C (Kd.int .u8) w A0 l.length l) :
    Calls Try.prog 22 #[.slice A0 l.length c0] w (PostR w m e1) := by
  have hu := Try.underlying38
  have HONE := Aside0.mk (fun W (hw : Below w.heap.size w W) => Frm.rone_c A0 c0 l hl hc0 hbs x e hf W (Kd.C_below hb hw))
  have HLX := Aside0.mk hx; have HBX := Aside0.mk hbx
  unfold parseR at hr
  by_cases he : e = 0
  · subst he
    rw [if_pos rfl] at hr
    have HRV := Aside0.mk hr
    clear hb hc0 hf hx hbx hr hl hbs
    go_enter Try.func22, Try.ntmps22
    go_wp2_with (first | ((with_reducible refine gate_dst (N := 2) rfl ?_); refine box_event ?hg (N := 2) ?hd (cs := #[.int .i64 0, .int .u64 0, .int .u64 0, .int .u64 0, .int .u64 0, .int .u64 0, .int .u64 0, .int .i64 0, .int .u64 0, .slice none 0 0, .int .i64 0, .slice none 0 0]) (t := 38) ?hr ?_; (case hd => rfl); (case hg => rfl); (case hr => first | (go_simp; done) | (go_simp; rfl)); intro rc hrc w5 hbox hb; have HRC := Aside0.mk hbox; have HB5 := Aside0.mk hb; have HNC := Aside0.mk hrc; clear hbox hb hrc) | (go_at_call 45; (with_reducible refine (HONE.out _ HB5.out).mono ?_); rintro er w6 ⟨v, rfl, hR, hb⟩; obtain ⟨A6, c6, rfl, hc6⟩ := hR.form; have HX6 := Aside0.mk (And.intro hc6 (Frm.C_of_ct hR HLX.out)); have HB6 := Aside0.mk (below_step HB5.out hb); have hrc6 := blk_below HRC.out hb; have HRC6 := Aside0.mk hrc6; have y0 : w6.cell? ⟨rc, 0, none⟩ = some (.int .i64 0) := blk_cell hrc6 0; have yf0 : w6.frozen? ⟨rc, 0, none⟩ = false := blk_frozen hrc6 0; have y1 : w6.cell? ⟨rc, 1, none⟩ = some (.int .u64 0) := blk_cell hrc6 1; have yf1 : w6.frozen? ⟨rc, 1, none⟩ = false := blk_frozen hrc6 1; have y2 : w6.cell? ⟨rc, 2, none⟩ = some (.int .u64 0) := blk_cell hrc6 2; have yf2 : w6.frozen? ⟨rc, 2, none⟩ = false := blk_frozen hrc6 2; have y3 : w6.cell? ⟨rc, 3, none⟩ = some (.int .u64 0) := blk_cell hrc6 3; have yf3 : w6.frozen? ⟨rc, 3, none⟩ = false := blk_frozen hrc6 3; have y4 : w6.cell? ⟨rc, 4, none⟩ = some (.int .u64 0) := blk_cell hrc6 4; have yf4 : w6.frozen? ⟨rc, 4, none⟩ = false := blk_frozen hrc6 4; have y5 : w6.cell? ⟨rc, 5, none⟩ = some (.int .u64 0) := blk_cell hrc6 5; have yf5 : w6.frozen? ⟨rc, 5, none⟩ = false := blk_frozen hrc6 5; have y6 : w6.cell? ⟨rc, 6, none⟩ = some (.int .u64 0) := blk_cell hrc6 6; have yf6 : w6.frozen? ⟨rc, 6, none⟩ = false := blk_frozen hrc6 6; have y7 : w6.cell? ⟨rc, 7, none⟩ = some (.int .i64 0) := blk_cell hrc6 7; have yf7 : w6.frozen? ⟨rc, 7, none⟩ = false := blk_frozen hrc6 7; have y8 : w6.cell? ⟨rc, 8, none⟩ = some (.int .u64 0) := blk_cell hrc6 8; have yf8 : w6.frozen? ⟨rc, 8, none⟩ = false := blk_frozen hrc6 8; have y9 : w6.cell? ⟨rc, 9, none⟩ = some (.slice none 0 0) := blk_cell hrc6 9; have yf9 : w6.frozen? ⟨rc, 9, none⟩ = false := blk_frozen hrc6 9; have y10 : w6.cell? ⟨rc, 10, none⟩ = some (.int .i64 0) := blk_cell hrc6 10; have yf10 : w6.frozen? ⟨rc, 10, none⟩ = false := blk_frozen hrc6 10; have y11 : w6.cell? ⟨rc, 11, none⟩ = some (.slice none 0 0) := blk_cell hrc6 11; have yf11 : w6.frozen? ⟨rc, 11, none⟩ = false := blk_frozen hrc6 11; clear hR hb hrc6 hc6) | (go_at_call 20; (with_reducible refine (rread_c A6 c6 x HLX.out HBX.out HX6.out.1 m e1 HRV.out w6 HX6.out.2).mono ?_); rintro er w7 ⟨vP, vL, rfl, hP, hL, hb⟩; obtain ⟨AP, cP, rfl, _, _⟩ := hP.form; obtain ⟨AL, cL, rfl, _, _⟩ := hL.form; have HP7 := Aside0.mk hP; have HL7 := Aside0.mk hL; have HB7 := Aside0.mk (below_step HB6.out hb); have hrc7 := blk_below HRC6.out hb; have HRC7 := Aside0.mk hrc7; have z0 : w7.cell? ⟨rc, 0, none⟩ = some (.int .i64 0) := blk_cell hrc7 0; have zf0 : w7.frozen? ⟨rc, 0, none⟩ = false := blk_frozen hrc7 0; have z1 : w7.cell? ⟨rc, 1, none⟩ = some (.int .u64 0) := blk_cell hrc7 1; have zf1 : w7.frozen? ⟨rc, 1, none⟩ = false := blk_frozen hrc7 1; have z2 : w7.cell? ⟨rc, 2, none⟩ = some (.int .u64 0) := blk_cell hrc7 2; have zf2 : w7.frozen? ⟨rc, 2, none⟩ = false := blk_frozen hrc7 2; have z3 : w7.cell? ⟨rc, 3, none⟩ = some (.int .u64 0) := blk_cell hrc7 3; have zf3 : w7.frozen? ⟨rc, 3, none⟩ = false := blk_frozen hrc7 3; have z4 : w7.cell? ⟨rc, 4, none⟩ = some (.int .u64 0) := blk_cell hrc7 4; have zf4 : w7.frozen? ⟨rc, 4, none⟩ = false := blk_frozen hrc7 4; have z5 : w7.cell? ⟨rc, 5, none⟩ = some (.int .u64 0) := blk_cell hrc7 5; have zf5 : w7.frozen? ⟨rc, 5, none⟩ = false := blk_frozen hrc7 5; have z6 : w7.cell? ⟨rc, 6, none⟩ = some (.int .u64 0) := blk_cell hrc7 6; have zf6 : w7.frozen? ⟨rc, 6, none⟩ = false := blk_frozen hrc7 6; have z7 : w7.cell? ⟨rc, 7, none⟩ = some (.int .i64 0) := blk_cell hrc7 7; have zf7 : w7.frozen? ⟨rc, 7, none⟩ = false := blk_frozen hrc7 7; have z8 : w7.cell? ⟨rc, 8, none⟩ = some (.int .u64 0) := blk_cell hrc7 8; have zf8 : w7.frozen? ⟨rc, 8, none⟩ = false := blk_frozen hrc7 8; have z9 : w7.cell? ⟨rc, 9, none⟩ = some (.slice none 0 0) := blk_cell hrc7 9; have zf9 : w7.frozen? ⟨rc, 9, none⟩ = false := blk_frozen hrc7 9; have z10 : w7.cell? ⟨rc, 10, none⟩ = some (.int .i64 0) := blk_cell hrc7 10; have zf10 : w7.frozen? ⟨rc, 10, none⟩ = false := blk_frozen hrc7 10; have z11 : w7.cell? ⟨rc, 11, none⟩ = some (.slice none 0 0) := blk_cell hrc7 11; have zf11 : w7.frozen? ⟨rc, 11, none⟩ = false := blk_frozen hrc7 11; clear hP hL hb hrc7))
    (try simp only [Exit.inBlock, Exit.then])
    refine bodyPost_ret (results_ct rfl _ _ rc 38 #[.int .i64 m.k, .int .u64 m.s, .int .u64 m.se, .int .u64 m.a, .int .u64 m.i, .int .u64 m.n, .int .u64 m.c, .int .i64 m.why, .int .u64 m.seed, .slice AP m.P.length cP, .int .i64 m.most, .slice AL m.L.length cL] (0, 0) _ rfl (st12_blk HRC7.out _ _ _ _ _ _ _ _ _ _ _ _) Try.underlying38 (by rfl) (by kernel_rfl)) rfl ?_
    exact ⟨_, _, rfl, lsK1 (HP7.out.lower HB6.out.size) (st12_kept _ _ _ _ _ _ _ _ _ _ _ _ _ _) HRC7.out (by decide), lsK1 (HL7.out.lower HB6.out.size) (st12_kept _ _ _ _ _ _ _ _ _ _ _ _ _ _) HRC7.out (by decide), st12_bel HB7.out (Nat.le_of_eq HNC.out.symm) _ _ _ _ _ _ _ _ _ _ _ _⟩
  · rw [if_neg he] at hr
    obtain ⟨rfl, rfl⟩ := Prod.mk.inj hr
    have q1 : (e != 0) = true := by simpa using he
    clear hb hc0 hf hx hbx hr he hl hbs
    go_enter Try.func22, Try.ntmps22
    go_wp2_with (first | ((with_reducible refine gate_dst (N := 2) rfl ?_); refine box_event ?hg (N := 2) ?hd (cs := #[.int .i64 0, .int .u64 0, .int .u64 0, .int .u64 0, .int .u64 0, .int .u64 0, .int .u64 0, .int .i64 0, .int .u64 0, .slice none 0 0, .int .i64 0, .slice none 0 0]) (t := 38) ?hr ?_; (case hd => rfl); (case hg => rfl); (case hr => first | (go_simp; done) | (go_simp; rfl)); intro rc hrc w5 hbox hb; have HRC := Aside0.mk hbox; have HB5 := Aside0.mk hb; have HNC := Aside0.mk hrc; clear hbox hb hrc) | (go_at_call 45; (with_reducible refine (HONE.out _ HB5.out).mono ?_); rintro er w6 ⟨v, rfl, hR, hb⟩; obtain ⟨A6, c6, rfl, hc6⟩ := hR.form; have HX6 := Aside0.mk (And.intro hc6 (Frm.C_of_ct hR HLX.out)); have HB6 := Aside0.mk (below_step HB5.out hb); have hrc6 := blk_below HRC.out hb; have HRC6 := Aside0.mk hrc6; have y0 : w6.cell? ⟨rc, 0, none⟩ = some (.int .i64 0) := blk_cell hrc6 0; have yf0 : w6.frozen? ⟨rc, 0, none⟩ = false := blk_frozen hrc6 0; have y1 : w6.cell? ⟨rc, 1, none⟩ = some (.int .u64 0) := blk_cell hrc6 1; have yf1 : w6.frozen? ⟨rc, 1, none⟩ = false := blk_frozen hrc6 1; have y2 : w6.cell? ⟨rc, 2, none⟩ = some (.int .u64 0) := blk_cell hrc6 2; have yf2 : w6.frozen? ⟨rc, 2, none⟩ = false := blk_frozen hrc6 2; have y3 : w6.cell? ⟨rc, 3, none⟩ = some (.int .u64 0) := blk_cell hrc6 3; have yf3 : w6.frozen? ⟨rc, 3, none⟩ = false := blk_frozen hrc6 3; have y4 : w6.cell? ⟨rc, 4, none⟩ = some (.int .u64 0) := blk_cell hrc6 4; have yf4 : w6.frozen? ⟨rc, 4, none⟩ = false := blk_frozen hrc6 4; have y5 : w6.cell? ⟨rc, 5, none⟩ = some (.int .u64 0) := blk_cell hrc6 5; have yf5 : w6.frozen? ⟨rc, 5, none⟩ = false := blk_frozen hrc6 5; have y6 : w6.cell? ⟨rc, 6, none⟩ = some (.int .u64 0) := blk_cell hrc6 6; have yf6 : w6.frozen? ⟨rc, 6, none⟩ = false := blk_frozen hrc6 6; have y7 : w6.cell? ⟨rc, 7, none⟩ = some (.int .i64 0) := blk_cell hrc6 7; have yf7 : w6.frozen? ⟨rc, 7, none⟩ = false := blk_frozen hrc6 7; have y8 : w6.cell? ⟨rc, 8, none⟩ = some (.int .u64 0) := blk_cell hrc6 8; have yf8 : w6.frozen? ⟨rc, 8, none⟩ = false := blk_frozen hrc6 8; have y9 : w6.cell? ⟨rc, 9, none⟩ = some (.slice none 0 0) := blk_cell hrc6 9; have yf9 : w6.frozen? ⟨rc, 9, none⟩ = false := blk_frozen hrc6 9; have y10 : w6.cell? ⟨rc, 10, none⟩ = some (.int .i64 0) := blk_cell hrc6 10; have yf10 : w6.frozen? ⟨rc, 10, none⟩ = false := blk_frozen hrc6 10; have y11 : w6.cell? ⟨rc, 11, none⟩ = some (.slice none 0 0) := blk_cell hrc6 11; have yf11 : w6.frozen? ⟨rc, 11, none⟩ = false := blk_frozen hrc6 11; clear hR hb hrc6 hc6))
    (try simp only [Exit.inBlock, Exit.then])
    refine bodyPost_ret (results_ct rfl _ _ rc 38 #[.int .i64 0, .int .u64 0, .int .u64 0, .int .u64 0, .int .u64 0, .int .u64 0, .int .u64 0, .int .i64 0, .int .u64 0, .slice none 0 0, .int .i64 0, .slice none 0 0] (0, 0) _ rfl (st12_blk HRC6.out (.int .i64 0) (.int .u64 0) (.int .u64 0) (.int .u64 0) (.int .u64 0) (.int .u64 0) (.int .u64 0) (.int .i64 0) (.int .u64 0) (.slice none 0 0) (.int .i64 0) (.slice none 0 0)) Try.underlying38 (by rfl) (by kernel_rfl)) rfl ?_
    exact ⟨_, _, rfl, Ls.nil _ _ _ _, Ls.nil _ _ _ _, st12_bel HB6.out (Nat.le_of_eq HNC.out.symm) (.int .i64 0) (.int .u64 0) (.int .u64 0) (.int .u64 0) (.int .u64 0) (.int .u64 0) (.int .u64 0) (.int .i64 0) (.int .u64 0) (.slice none 0 0) (.int .i64 0) (.slice none 0 0)⟩
end Go.Proofs.Ytbfmbjkalldonaa.Msg
namespace Go.Proofs.Ytbfmbjkalldonaa.Msg
set_option linter.unusedVariables false
set_option linter.unusedSimpArgs false
open Go.RowKit Go.Proofs.Ytbfmbjkalldonaa.PA Go.Proofs.YtbfmbjkalldonaaW.PrintWords Go.Proofs.YtbfmbjkalldonaaW.PrintLast Go.Proofs.YtbfmbjkalldonaaW.PrintMore Go.Proofs.Ytbfmbjkalldonaa.Base Go.Proofs.Ytbfmbjkalldonaa.Var Go.Proofs.Ytbfmbjkalldonaa.Lst
attribute [local go_sem] max2_int min2_int max_two min_two max_three min_three max_four min_four
theorem one_bytes {l : List Int} (hb : Bytes l) {x : List Int} {e : Int} (h : Frm.oneV l = (x, e)) : Bytes x := by
  have hn : Bytes ([] : List Int) := fun y hy => by cases hy
  unfold Frm.oneV at h
  rcases hp : Frm.parseV l with ⟨y, m, f⟩
  rw [hp] at h
  dsimp only at h
  split at h
  · rename_i h0
    subst h0
    have hy := (Frm.again hb hp).2.2.2.2
    split at h <;> (obtain ⟨rfl, _⟩ := Prod.mk.inj h) <;> first | exact hn | exact hy
  · obtain ⟨rfl, _⟩ := Prod.mk.inj h; exact hn
set_option maxHeartbeats 64000000 in
set_option maxRecDepth 100000 in
theorem reads_law (A0 A1 : Option Addr) (c0 c1 : Nat) (l b : List Int) (w : World) (hb0 : Kd.C (Kd.int .u8) w A0 l.length l) (hc0 : l.length ≤ c0) (hbs : Bytes l) (hb1 : Kd.C (Kd.int .u8) w A1 b.length b) (hc1 : b.length ≤ c1) (hbb : Bytes b) :
    Calls Try.prog 6 #[.slice A0 l.length c0, .slice A1 b.length c1] w fun e w' => e = .returned (.bool true) ∧ Below w.heap.size w w' := by
  have hu := Try.underlying29
  have hu38 := Try.underlying38
  have HALIVE := Aside0.mk alive_c
  by_cases hl1 : 2000 < l.length
  · have d0 : decide ((2000 : Int) < (l.length : Int)) = true := decide_eq_true (by omega)
    have d1 : decide (2000 < l.length) = true := decide_eq_true hl1
    clear hb0 hc0 hbs hb1 hc1 hbb hl1
    go_enter Try.func6, Try.ntmps6
    go_wp2_with (first | (go_at_call 8; (with_reducible refine (HALIVE.out _).mono ?_); rintro er w19 ⟨rfl, hb⟩; have BA := Aside0.mk hb; clear hb))
    go_ret
    exact ⟨rfl, BA.out⟩
  have d0 : decide ((2000 : Int) < (l.length : Int)) = false := decide_eq_false (by omega)
  have d1 : decide (2000 < l.length) = false := decide_eq_false hl1
  by_cases hl2 : 2500 < b.length
  · have d2 : decide ((2500 : Int) < (b.length : Int)) = true := decide_eq_true (by omega)
    have d3 : decide (2500 < b.length) = true := decide_eq_true hl2
    clear hb0 hc0 hbs hb1 hc1 hbb hl1 hl2
    go_enter Try.func6, Try.ntmps6
    go_wp2_with (first | (go_at_call 8; (with_reducible refine (HALIVE.out _).mono ?_); rintro er w19 ⟨rfl, hb⟩; have BA := Aside0.mk hb; clear hb))
    go_ret
    exact ⟨rfl, BA.out⟩
  have d2 : decide ((2500 : Int) < (b.length : Int)) = false := decide_eq_false (by omega)
  have d3 : decide (2500 < b.length) = false := decide_eq_false hl2
  rcases hr : readV l with ⟨m, e⟩
  rcases ho : Frm.oneV b with ⟨q, f⟩
  rcases hpr : parseR q f with ⟨x, e1⟩
  have hql := Frm.one_len hbb ho
  have hqb : Bytes q := one_bytes hbb ho
  obtain ⟨K, hK⟩ := Frm.one_ev b (by omega) hbb
  have hf := hK K (Nat.le_refl _)
  rw [ho] at hf
  have hin := (read_in hbs hr).1
  have hix : x.In := by
    unfold parseR at hpr
    split at hpr
    · exact (read_in hqb hpr).1
    · rw [← (Prod.mk.inj hpr).1]; exact In_of 0
  have HS1 := Aside0.mk (fun W (hw : Below w.heap.size w W) => read_c A0 c0 l (by omega) hbs hc0 m e hr W (Kd.C_below hb0 hw))
  have HS2 := Aside0.mk (fun W (hw : Below w.heap.size w W) => rread_c A0 c0 l (by omega) hbs hc0 m e hr W (Kd.C_below hb0 hw))
  have HS3 := Aside0.mk (fun W (hw : Below w.heap.size w W) => parse_c A1 c1 b hc1 K q f hf (by omega) hqb x e1 hpr W (Kd.C_below hb1 hw))
  have HS4 := Aside0.mk (fun W (hw : Below w.heap.size w W) => rparsem_c A1 c1 b hc1 (by omega) hbb q f ho (by omega) hqb x e1 hpr W (Kd.C_below hb1 hw))
  have HIM := Aside0.mk hin; have HIX := Aside0.mk hix
  clear hb0 hc0 hbs hb1 hc1 hbb hl1 hl2 hr ho hpr hql hqb hK hf hin hix
  go_enter Try.func6, Try.ntmps6
  go_upto_region 4 with (first | (go_at_call 9; (with_reducible refine (HS1.out _ (Below.refl _ _)).mono ?_); rintro er wa1 ⟨vP, vL, rfl, hP, hL, hb⟩; obtain ⟨P1, p1, rfl, _, _⟩ := hP.form; obtain ⟨L1, l1, rfl, _, _⟩ := hL.form; have RP1 := Aside0.mk hP; have RL1 := Aside0.mk hL; have RB1 := Aside0.mk hb; clear hP hL hb) | ((with_reducible refine gate_dst (N := 5) rfl ?_); refine box_event ?hg (N := 5) ?hd (cs := #[.int .i64 0, .int .u64 0, .int .u64 0, .int .u64 0, .int .u64 0, .int .u64 0, .int .u64 0, .int .i64 0, .int .u64 0, .slice none 0 0, .int .i64 0, .slice none 0 0]) (t := 29) ?hr ?_; (case hd => rfl); (case hg => rfl); (case hr => first | (go_simp; done) | (go_simp; rfl)); intro g1 hgn wb1 hbox hb; have RG1 := Aside0.mk hbox; have RA1 := Aside0.mk hb; have RN1 := Aside0.mk hgn; have z0 : wb1.cell? ⟨g1, 0, none⟩ = some (.int .i64 0) := blk_cell hbox 0; have zf0 : wb1.frozen? ⟨g1, 0, none⟩ = false := blk_frozen hbox 0; have z1 : wb1.cell? ⟨g1, 1, none⟩ = some (.int .u64 0) := blk_cell hbox 1; have zf1 : wb1.frozen? ⟨g1, 1, none⟩ = false := blk_frozen hbox 1; have z2 : wb1.cell? ⟨g1, 2, none⟩ = some (.int .u64 0) := blk_cell hbox 2; have zf2 : wb1.frozen? ⟨g1, 2, none⟩ = false := blk_frozen hbox 2; have z3 : wb1.cell? ⟨g1, 3, none⟩ = some (.int .u64 0) := blk_cell hbox 3; have zf3 : wb1.frozen? ⟨g1, 3, none⟩ = false := blk_frozen hbox 3; have z4 : wb1.cell? ⟨g1, 4, none⟩ = some (.int .u64 0) := blk_cell hbox 4; have zf4 : wb1.frozen? ⟨g1, 4, none⟩ = false := blk_frozen hbox 4; have z5 : wb1.cell? ⟨g1, 5, none⟩ = some (.int .u64 0) := blk_cell hbox 5; have zf5 : wb1.frozen? ⟨g1, 5, none⟩ = false := blk_frozen hbox 5; have z6 : wb1.cell? ⟨g1, 6, none⟩ = some (.int .u64 0) := blk_cell hbox 6; have zf6 : wb1.frozen? ⟨g1, 6, none⟩ = false := blk_frozen hbox 6; have z7 : wb1.cell? ⟨g1, 7, none⟩ = some (.int .i64 0) := blk_cell hbox 7; have zf7 : wb1.frozen? ⟨g1, 7, none⟩ = false := blk_frozen hbox 7; have z8 : wb1.cell? ⟨g1, 8, none⟩ = some (.int .u64 0) := blk_cell hbox 8; have zf8 : wb1.frozen? ⟨g1, 8, none⟩ = false := blk_frozen hbox 8; have z9 : wb1.cell? ⟨g1, 9, none⟩ = some (.slice none 0 0) := blk_cell hbox 9; have zf9 : wb1.frozen? ⟨g1, 9, none⟩ = false := blk_frozen hbox 9; have z10 : wb1.cell? ⟨g1, 10, none⟩ = some (.int .i64 0) := blk_cell hbox 10; have zf10 : wb1.frozen? ⟨g1, 10, none⟩ = false := blk_frozen hbox 10; have z11 : wb1.cell? ⟨g1, 11, none⟩ = some (.slice none 0 0) := blk_cell hbox 11; have zf11 : wb1.frozen? ⟨g1, 11, none⟩ = false := blk_frozen hbox 11; clear hbox hb hgn))
  obtain ⟨y1, hy⟩ : ∃ y, st12 wb1 g1 (.int .i64 m.k) (.int .u64 m.s) (.int .u64 m.se) (.int .u64 m.a) (.int .u64 m.i) (.int .u64 m.n) (.int .u64 m.c) (.int .i64 m.why) (.int .u64 m.seed) (.slice P1 m.P.length p1) (.int .i64 m.most) (.slice L1 m.L.length l1) = y := ⟨_, rfl⟩
  have hbk : Below w.heap.size w y1 := by rw [← hy]; exact st12_bel (below_step RB1.out RA1.out) (by rw [RN1.out]; exact RB1.out.size) _ _ _ _ _ _ _ _ _ _ _ _
  have B1 := Aside0.mk (hbk)
  have C1_1 := Aside0.mk (show y1.heap[g1]? = some (.cells #[.int .i64 m.k, .int .u64 m.s, .int .u64 m.se, .int .u64 m.a, .int .u64 m.i, .int .u64 m.n, .int .u64 m.c, .int .i64 m.why, .int .u64 m.seed, .slice P1 m.P.length p1, .int .i64 m.most, .slice L1 m.L.length l1] 29 (0, 0)) from by rw [← hy]; exact st12_blk RG1.out _ _ _ _ _ _ _ _ _ _ _ _)
  have D1_1 := Aside0.mk (show Ls encI 3 y1 w.heap.size (.slice P1 m.P.length p1) m.P from by rw [← hy]; exact lsK1 (RP1.out.below RA1.out) (st12_kept _ _ _ _ _ _ _ _ _ _ _ _ _ _) RG1.out (by decide))
  have E1_1 := Aside0.mk (show Ls encI 3 y1 w.heap.size (.slice L1 m.L.length l1) m.L from by rw [← hy]; exact lsK1 (RL1.out.below RA1.out) (st12_kept _ _ _ _ _ _ _ _ _ _ _ _ _ _) RG1.out (by decide))
  unfold st12 at hy
  rw [hy]
  clear hy hbk z0 zf0 z1 zf1 z2 zf2 z3 zf3 z4 zf4 z5 zf5 z6 zf6 z7 zf7 z8 zf8 z9 zf9 z10 zf10 z11 zf11
  go_upto_region 5 with (first | (go_at_call 20; (with_reducible refine (HS2.out _ B1.out).mono ?_); rintro er wa2 ⟨vP, vL, rfl, hP, hL, hb⟩; obtain ⟨P2, p2, rfl, _, _⟩ := hP.form; obtain ⟨L2, l2, rfl, _, _⟩ := hL.form; have RP2 := Aside0.mk hP; have RL2 := Aside0.mk hL; have RB2 := Aside0.mk hb; clear hP hL hb) | ((with_reducible refine gate_dst (N := 7) rfl ?_); refine box_event ?hg (N := 7) ?hd (cs := #[.int .i64 0, .int .u64 0, .int .u64 0, .int .u64 0, .int .u64 0, .int .u64 0, .int .u64 0, .int .i64 0, .int .u64 0, .slice none 0 0, .int .i64 0, .slice none 0 0]) (t := 38) ?hr ?_; (case hd => rfl); (case hg => rfl); (case hr => first | (go_simp; done) | (go_simp; rfl)); intro g2 hgn wb2 hbox hb; have RG2 := Aside0.mk hbox; have RA2 := Aside0.mk hb; have RN2 := Aside0.mk hgn; have z0 : wb2.cell? ⟨g2, 0, none⟩ = some (.int .i64 0) := blk_cell hbox 0; have zf0 : wb2.frozen? ⟨g2, 0, none⟩ = false := blk_frozen hbox 0; have z1 : wb2.cell? ⟨g2, 1, none⟩ = some (.int .u64 0) := blk_cell hbox 1; have zf1 : wb2.frozen? ⟨g2, 1, none⟩ = false := blk_frozen hbox 1; have z2 : wb2.cell? ⟨g2, 2, none⟩ = some (.int .u64 0) := blk_cell hbox 2; have zf2 : wb2.frozen? ⟨g2, 2, none⟩ = false := blk_frozen hbox 2; have z3 : wb2.cell? ⟨g2, 3, none⟩ = some (.int .u64 0) := blk_cell hbox 3; have zf3 : wb2.frozen? ⟨g2, 3, none⟩ = false := blk_frozen hbox 3; have z4 : wb2.cell? ⟨g2, 4, none⟩ = some (.int .u64 0) := blk_cell hbox 4; have zf4 : wb2.frozen? ⟨g2, 4, none⟩ = false := blk_frozen hbox 4; have z5 : wb2.cell? ⟨g2, 5, none⟩ = some (.int .u64 0) := blk_cell hbox 5; have zf5 : wb2.frozen? ⟨g2, 5, none⟩ = false := blk_frozen hbox 5; have z6 : wb2.cell? ⟨g2, 6, none⟩ = some (.int .u64 0) := blk_cell hbox 6; have zf6 : wb2.frozen? ⟨g2, 6, none⟩ = false := blk_frozen hbox 6; have z7 : wb2.cell? ⟨g2, 7, none⟩ = some (.int .i64 0) := blk_cell hbox 7; have zf7 : wb2.frozen? ⟨g2, 7, none⟩ = false := blk_frozen hbox 7; have z8 : wb2.cell? ⟨g2, 8, none⟩ = some (.int .u64 0) := blk_cell hbox 8; have zf8 : wb2.frozen? ⟨g2, 8, none⟩ = false := blk_frozen hbox 8; have z9 : wb2.cell? ⟨g2, 9, none⟩ = some (.slice none 0 0) := blk_cell hbox 9; have zf9 : wb2.frozen? ⟨g2, 9, none⟩ = false := blk_frozen hbox 9; have z10 : wb2.cell? ⟨g2, 10, none⟩ = some (.int .i64 0) := blk_cell hbox 10; have zf10 : wb2.frozen? ⟨g2, 10, none⟩ = false := blk_frozen hbox 10; have z11 : wb2.cell? ⟨g2, 11, none⟩ = some (.slice none 0 0) := blk_cell hbox 11; have zf11 : wb2.frozen? ⟨g2, 11, none⟩ = false := blk_frozen hbox 11; clear hbox hb hgn))
  obtain ⟨y2, hy⟩ : ∃ y, st12 wb2 g2 (.int .i64 m.k) (.int .u64 m.s) (.int .u64 m.se) (.int .u64 m.a) (.int .u64 m.i) (.int .u64 m.n) (.int .u64 m.c) (.int .i64 m.why) (.int .u64 m.seed) (.slice P2 m.P.length p2) (.int .i64 m.most) (.slice L2 m.L.length l2) = y := ⟨_, rfl⟩
  have hbk : Below y1.heap.size y1 y2 := by rw [← hy]; exact st12_bel (below_step RB2.out RA2.out) (by rw [RN2.out]; exact RB2.out.size) _ _ _ _ _ _ _ _ _ _ _ _
  have B2 := Aside0.mk (below_step B1.out hbk)
  have C2_2 := Aside0.mk (show y2.heap[g2]? = some (.cells #[.int .i64 m.k, .int .u64 m.s, .int .u64 m.se, .int .u64 m.a, .int .u64 m.i, .int .u64 m.n, .int .u64 m.c, .int .i64 m.why, .int .u64 m.seed, .slice P2 m.P.length p2, .int .i64 m.most, .slice L2 m.L.length l2] 38 (0, 0)) from by rw [← hy]; exact st12_blk RG2.out _ _ _ _ _ _ _ _ _ _ _ _)
  have D2_2 := Aside0.mk (show Ls encI 3 y2 y1.heap.size (.slice P2 m.P.length p2) m.P from by rw [← hy]; exact lsK1 (RP2.out.below RA2.out) (st12_kept _ _ _ _ _ _ _ _ _ _ _ _ _ _) RG2.out (by decide))
  have E2_2 := Aside0.mk (show Ls encI 3 y2 y1.heap.size (.slice L2 m.L.length l2) m.L from by rw [← hy]; exact lsK1 (RL2.out.below RA2.out) (st12_kept _ _ _ _ _ _ _ _ _ _ _ _ _ _) RG2.out (by decide))
  have C1_2 := Aside0.mk (blk_below C1_1.out hbk)
  have D1_2 := Aside0.mk (D1_1.out.below hbk)
  have E1_2 := Aside0.mk (E1_1.out.below hbk)
  unfold st12 at hy
  rw [hy]
  clear hy hbk z0 zf0 z1 zf1 z2 zf2 z3 zf3 z4 zf4 z5 zf5 z6 zf6 z7 zf7 z8 zf8 z9 zf9 z10 zf10 z11 zf11
  go_upto_region 6 with (first | (go_at_call 21; (with_reducible refine (HS3.out _ B2.out).mono ?_); rintro er wa3 ⟨vP, vL, rfl, hP, hL, hb⟩; obtain ⟨P3, p3, rfl, _, _⟩ := hP.form; obtain ⟨L3, l3, rfl, _, _⟩ := hL.form; have RP3 := Aside0.mk hP; have RL3 := Aside0.mk hL; have RB3 := Aside0.mk hb; clear hP hL hb) | ((with_reducible refine gate_dst (N := 9) rfl ?_); refine box_event ?hg (N := 9) ?hd (cs := #[.int .i64 0, .int .u64 0, .int .u64 0, .int .u64 0, .int .u64 0, .int .u64 0, .int .u64 0, .int .i64 0, .int .u64 0, .slice none 0 0, .int .i64 0, .slice none 0 0]) (t := 29) ?hr ?_; (case hd => rfl); (case hg => rfl); (case hr => first | (go_simp; done) | (go_simp; rfl)); intro g3 hgn wb3 hbox hb; have RG3 := Aside0.mk hbox; have RA3 := Aside0.mk hb; have RN3 := Aside0.mk hgn; have z0 : wb3.cell? ⟨g3, 0, none⟩ = some (.int .i64 0) := blk_cell hbox 0; have zf0 : wb3.frozen? ⟨g3, 0, none⟩ = false := blk_frozen hbox 0; have z1 : wb3.cell? ⟨g3, 1, none⟩ = some (.int .u64 0) := blk_cell hbox 1; have zf1 : wb3.frozen? ⟨g3, 1, none⟩ = false := blk_frozen hbox 1; have z2 : wb3.cell? ⟨g3, 2, none⟩ = some (.int .u64 0) := blk_cell hbox 2; have zf2 : wb3.frozen? ⟨g3, 2, none⟩ = false := blk_frozen hbox 2; have z3 : wb3.cell? ⟨g3, 3, none⟩ = some (.int .u64 0) := blk_cell hbox 3; have zf3 : wb3.frozen? ⟨g3, 3, none⟩ = false := blk_frozen hbox 3; have z4 : wb3.cell? ⟨g3, 4, none⟩ = some (.int .u64 0) := blk_cell hbox 4; have zf4 : wb3.frozen? ⟨g3, 4, none⟩ = false := blk_frozen hbox 4; have z5 : wb3.cell? ⟨g3, 5, none⟩ = some (.int .u64 0) := blk_cell hbox 5; have zf5 : wb3.frozen? ⟨g3, 5, none⟩ = false := blk_frozen hbox 5; have z6 : wb3.cell? ⟨g3, 6, none⟩ = some (.int .u64 0) := blk_cell hbox 6; have zf6 : wb3.frozen? ⟨g3, 6, none⟩ = false := blk_frozen hbox 6; have z7 : wb3.cell? ⟨g3, 7, none⟩ = some (.int .i64 0) := blk_cell hbox 7; have zf7 : wb3.frozen? ⟨g3, 7, none⟩ = false := blk_frozen hbox 7; have z8 : wb3.cell? ⟨g3, 8, none⟩ = some (.int .u64 0) := blk_cell hbox 8; have zf8 : wb3.frozen? ⟨g3, 8, none⟩ = false := blk_frozen hbox 8; have z9 : wb3.cell? ⟨g3, 9, none⟩ = some (.slice none 0 0) := blk_cell hbox 9; have zf9 : wb3.frozen? ⟨g3, 9, none⟩ = false := blk_frozen hbox 9; have z10 : wb3.cell? ⟨g3, 10, none⟩ = some (.int .i64 0) := blk_cell hbox 10; have zf10 : wb3.frozen? ⟨g3, 10, none⟩ = false := blk_frozen hbox 10; have z11 : wb3.cell? ⟨g3, 11, none⟩ = some (.slice none 0 0) := blk_cell hbox 11; have zf11 : wb3.frozen? ⟨g3, 11, none⟩ = false := blk_frozen hbox 11; clear hbox hb hgn))
  obtain ⟨y3, hy⟩ : ∃ y, st12 wb3 g3 (.int .i64 x.k) (.int .u64 x.s) (.int .u64 x.se) (.int .u64 x.a) (.int .u64 x.i) (.int .u64 x.n) (.int .u64 x.c) (.int .i64 x.why) (.int .u64 x.seed) (.slice P3 x.P.length p3) (.int .i64 x.most) (.slice L3 x.L.length l3) = y := ⟨_, rfl⟩
  have hbk : Below y2.heap.size y2 y3 := by rw [← hy]; exact st12_bel (below_step RB3.out RA3.out) (by rw [RN3.out]; exact RB3.out.size) _ _ _ _ _ _ _ _ _ _ _ _
  have B3 := Aside0.mk (below_step B2.out hbk)
  have C3_3 := Aside0.mk (show y3.heap[g3]? = some (.cells #[.int .i64 x.k, .int .u64 x.s, .int .u64 x.se, .int .u64 x.a, .int .u64 x.i, .int .u64 x.n, .int .u64 x.c, .int .i64 x.why, .int .u64 x.seed, .slice P3 x.P.length p3, .int .i64 x.most, .slice L3 x.L.length l3] 29 (0, 0)) from by rw [← hy]; exact st12_blk RG3.out _ _ _ _ _ _ _ _ _ _ _ _)
  have D3_3 := Aside0.mk (show Ls encI 3 y3 y2.heap.size (.slice P3 x.P.length p3) x.P from by rw [← hy]; exact lsK1 (RP3.out.below RA3.out) (st12_kept _ _ _ _ _ _ _ _ _ _ _ _ _ _) RG3.out (by decide))
  have E3_3 := Aside0.mk (show Ls encI 3 y3 y2.heap.size (.slice L3 x.L.length l3) x.L from by rw [← hy]; exact lsK1 (RL3.out.below RA3.out) (st12_kept _ _ _ _ _ _ _ _ _ _ _ _ _ _) RG3.out (by decide))
  have C1_3 := Aside0.mk (blk_below C1_2.out hbk)
  have D1_3 := Aside0.mk (D1_2.out.below hbk)
  have E1_3 := Aside0.mk (E1_2.out.below hbk)
  have C2_3 := Aside0.mk (blk_below C2_2.out hbk)
  have D2_3 := Aside0.mk (D2_2.out.below hbk)
  have E2_3 := Aside0.mk (E2_2.out.below hbk)
  unfold st12 at hy
  rw [hy]
  clear hy hbk z0 zf0 z1 zf1 z2 zf2 z3 zf3 z4 zf4 z5 zf5 z6 zf6 z7 zf7 z8 zf8 z9 zf9 z10 zf10 z11 zf11
  go_upto_region 7 with (first | (go_at_call 22; (with_reducible refine (HS4.out _ B3.out).mono ?_); rintro er wa4 ⟨vP, vL, rfl, hP, hL, hb⟩; obtain ⟨P4, p4, rfl, _, _⟩ := hP.form; obtain ⟨L4, l4, rfl, _, _⟩ := hL.form; have RP4 := Aside0.mk hP; have RL4 := Aside0.mk hL; have RB4 := Aside0.mk hb; clear hP hL hb) | ((with_reducible refine gate_dst (N := 11) rfl ?_); refine box_event ?hg (N := 11) ?hd (cs := #[.int .i64 0, .int .u64 0, .int .u64 0, .int .u64 0, .int .u64 0, .int .u64 0, .int .u64 0, .int .i64 0, .int .u64 0, .slice none 0 0, .int .i64 0, .slice none 0 0]) (t := 38) ?hr ?_; (case hd => rfl); (case hg => rfl); (case hr => first | (go_simp; done) | (go_simp; rfl)); intro g4 hgn wb4 hbox hb; have RG4 := Aside0.mk hbox; have RA4 := Aside0.mk hb; have RN4 := Aside0.mk hgn; have z0 : wb4.cell? ⟨g4, 0, none⟩ = some (.int .i64 0) := blk_cell hbox 0; have zf0 : wb4.frozen? ⟨g4, 0, none⟩ = false := blk_frozen hbox 0; have z1 : wb4.cell? ⟨g4, 1, none⟩ = some (.int .u64 0) := blk_cell hbox 1; have zf1 : wb4.frozen? ⟨g4, 1, none⟩ = false := blk_frozen hbox 1; have z2 : wb4.cell? ⟨g4, 2, none⟩ = some (.int .u64 0) := blk_cell hbox 2; have zf2 : wb4.frozen? ⟨g4, 2, none⟩ = false := blk_frozen hbox 2; have z3 : wb4.cell? ⟨g4, 3, none⟩ = some (.int .u64 0) := blk_cell hbox 3; have zf3 : wb4.frozen? ⟨g4, 3, none⟩ = false := blk_frozen hbox 3; have z4 : wb4.cell? ⟨g4, 4, none⟩ = some (.int .u64 0) := blk_cell hbox 4; have zf4 : wb4.frozen? ⟨g4, 4, none⟩ = false := blk_frozen hbox 4; have z5 : wb4.cell? ⟨g4, 5, none⟩ = some (.int .u64 0) := blk_cell hbox 5; have zf5 : wb4.frozen? ⟨g4, 5, none⟩ = false := blk_frozen hbox 5; have z6 : wb4.cell? ⟨g4, 6, none⟩ = some (.int .u64 0) := blk_cell hbox 6; have zf6 : wb4.frozen? ⟨g4, 6, none⟩ = false := blk_frozen hbox 6; have z7 : wb4.cell? ⟨g4, 7, none⟩ = some (.int .i64 0) := blk_cell hbox 7; have zf7 : wb4.frozen? ⟨g4, 7, none⟩ = false := blk_frozen hbox 7; have z8 : wb4.cell? ⟨g4, 8, none⟩ = some (.int .u64 0) := blk_cell hbox 8; have zf8 : wb4.frozen? ⟨g4, 8, none⟩ = false := blk_frozen hbox 8; have z9 : wb4.cell? ⟨g4, 9, none⟩ = some (.slice none 0 0) := blk_cell hbox 9; have zf9 : wb4.frozen? ⟨g4, 9, none⟩ = false := blk_frozen hbox 9; have z10 : wb4.cell? ⟨g4, 10, none⟩ = some (.int .i64 0) := blk_cell hbox 10; have zf10 : wb4.frozen? ⟨g4, 10, none⟩ = false := blk_frozen hbox 10; have z11 : wb4.cell? ⟨g4, 11, none⟩ = some (.slice none 0 0) := blk_cell hbox 11; have zf11 : wb4.frozen? ⟨g4, 11, none⟩ = false := blk_frozen hbox 11; clear hbox hb hgn))
  obtain ⟨y4, hy⟩ : ∃ y, st12 wb4 g4 (.int .i64 x.k) (.int .u64 x.s) (.int .u64 x.se) (.int .u64 x.a) (.int .u64 x.i) (.int .u64 x.n) (.int .u64 x.c) (.int .i64 x.why) (.int .u64 x.seed) (.slice P4 x.P.length p4) (.int .i64 x.most) (.slice L4 x.L.length l4) = y := ⟨_, rfl⟩
  have hbk : Below y3.heap.size y3 y4 := by rw [← hy]; exact st12_bel (below_step RB4.out RA4.out) (by rw [RN4.out]; exact RB4.out.size) _ _ _ _ _ _ _ _ _ _ _ _
  have B4 := Aside0.mk (below_step B3.out hbk)
  have C4_4 := Aside0.mk (show y4.heap[g4]? = some (.cells #[.int .i64 x.k, .int .u64 x.s, .int .u64 x.se, .int .u64 x.a, .int .u64 x.i, .int .u64 x.n, .int .u64 x.c, .int .i64 x.why, .int .u64 x.seed, .slice P4 x.P.length p4, .int .i64 x.most, .slice L4 x.L.length l4] 38 (0, 0)) from by rw [← hy]; exact st12_blk RG4.out _ _ _ _ _ _ _ _ _ _ _ _)
  have D4_4 := Aside0.mk (show Ls encI 3 y4 y3.heap.size (.slice P4 x.P.length p4) x.P from by rw [← hy]; exact lsK1 (RP4.out.below RA4.out) (st12_kept _ _ _ _ _ _ _ _ _ _ _ _ _ _) RG4.out (by decide))
  have E4_4 := Aside0.mk (show Ls encI 3 y4 y3.heap.size (.slice L4 x.L.length l4) x.L from by rw [← hy]; exact lsK1 (RL4.out.below RA4.out) (st12_kept _ _ _ _ _ _ _ _ _ _ _ _ _ _) RG4.out (by decide))
  have C1_4 := Aside0.mk (blk_below C1_3.out hbk)
  have D1_4 := Aside0.mk (D1_3.out.below hbk)
  have E1_4 := Aside0.mk (E1_3.out.below hbk)
  have C2_4 := Aside0.mk (blk_below C2_3.out hbk)
  have D2_4 := Aside0.mk (D2_3.out.below hbk)
  have E2_4 := Aside0.mk (E2_3.out.below hbk)
  have C3_4 := Aside0.mk (blk_below C3_3.out hbk)
  have D3_4 := Aside0.mk (D3_3.out.below hbk)
  have E3_4 := Aside0.mk (E3_3.out.below hbk)
  unfold st12 at hy
  rw [hy]
  clear hy hbk z0 zf0 z1 zf1 z2 zf2 z3 zf3 z4 zf4 z5 zf5 z6 zf6 z7 zf7 z8 zf8 z9 zf9 z10 zf10 z11 zf11
  have HQ1 := Aside0.mk (fun W (hw : Below y4.heap.size y4 W) => rsame_self W m P1 L1 P2 L2 p1 l1 p2 l2 (by have := HIM.out.P.2; omega) (by have := HIM.out.L.2; omega) (C_of_li D1_4.out).2.1 (C_of_li E1_4.out).2.1 (Kd.C_below (C_of_li D1_4.out).2.2 hw) (Kd.C_below (C_of_li E1_4.out).2.2 hw) (C_of_li D2_4.out).2.1 (C_of_li E2_4.out).2.1 (Kd.C_below (C_of_li D2_4.out).2.2 hw) (Kd.C_below (C_of_li E2_4.out).2.2 hw))
  have HQ2 := Aside0.mk (fun W (hw : Below y4.heap.size y4 W) => rsame_self W x P3 L3 P4 L4 p3 l3 p4 l4 (by have := HIX.out.P.2; omega) (by have := HIX.out.L.2; omega) (C_of_li D3_4.out).2.1 (C_of_li E3_4.out).2.1 (Kd.C_below (C_of_li D3_4.out).2.2 hw) (Kd.C_below (C_of_li E3_4.out).2.2 hw) (C_of_li D4_4.out).2.1 (C_of_li E4_4.out).2.1 (Kd.C_below (C_of_li D4_4.out).2.2 hw) (Kd.C_below (C_of_li E4_4.out).2.2 hw))
  have s1_0_ : y4.cell? ⟨g1, 0, none⟩ = some (.int .i64 m.k) := blk_cell C1_4.out 0
  have s1_1_ : y4.cell? ⟨g1, 1, none⟩ = some (.int .u64 m.s) := blk_cell C1_4.out 1
  have s1_2_ : y4.cell? ⟨g1, 2, none⟩ = some (.int .u64 m.se) := blk_cell C1_4.out 2
  have s1_3_ : y4.cell? ⟨g1, 3, none⟩ = some (.int .u64 m.a) := blk_cell C1_4.out 3
  have s1_4_ : y4.cell? ⟨g1, 4, none⟩ = some (.int .u64 m.i) := blk_cell C1_4.out 4
  have s1_5_ : y4.cell? ⟨g1, 5, none⟩ = some (.int .u64 m.n) := blk_cell C1_4.out 5
  have s1_6_ : y4.cell? ⟨g1, 6, none⟩ = some (.int .u64 m.c) := blk_cell C1_4.out 6
  have s1_7_ : y4.cell? ⟨g1, 7, none⟩ = some (.int .i64 m.why) := blk_cell C1_4.out 7
  have s1_8_ : y4.cell? ⟨g1, 8, none⟩ = some (.int .u64 m.seed) := blk_cell C1_4.out 8
  have s1_9_ : y4.cell? ⟨g1, 9, none⟩ = some (.slice P1 m.P.length p1) := blk_cell C1_4.out 9
  have s1_10_ : y4.cell? ⟨g1, 10, none⟩ = some (.int .i64 m.most) := blk_cell C1_4.out 10
  have s1_11_ : y4.cell? ⟨g1, 11, none⟩ = some (.slice L1 m.L.length l1) := blk_cell C1_4.out 11
  have s2_0_ : y4.cell? ⟨g2, 0, none⟩ = some (.int .i64 m.k) := blk_cell C2_4.out 0
  have s2_1_ : y4.cell? ⟨g2, 1, none⟩ = some (.int .u64 m.s) := blk_cell C2_4.out 1
  have s2_2_ : y4.cell? ⟨g2, 2, none⟩ = some (.int .u64 m.se) := blk_cell C2_4.out 2
  have s2_3_ : y4.cell? ⟨g2, 3, none⟩ = some (.int .u64 m.a) := blk_cell C2_4.out 3
  have s2_4_ : y4.cell? ⟨g2, 4, none⟩ = some (.int .u64 m.i) := blk_cell C2_4.out 4
  have s2_5_ : y4.cell? ⟨g2, 5, none⟩ = some (.int .u64 m.n) := blk_cell C2_4.out 5
  have s2_6_ : y4.cell? ⟨g2, 6, none⟩ = some (.int .u64 m.c) := blk_cell C2_4.out 6
  have s2_7_ : y4.cell? ⟨g2, 7, none⟩ = some (.int .i64 m.why) := blk_cell C2_4.out 7
  have s2_8_ : y4.cell? ⟨g2, 8, none⟩ = some (.int .u64 m.seed) := blk_cell C2_4.out 8
  have s2_9_ : y4.cell? ⟨g2, 9, none⟩ = some (.slice P2 m.P.length p2) := blk_cell C2_4.out 9
  have s2_10_ : y4.cell? ⟨g2, 10, none⟩ = some (.int .i64 m.most) := blk_cell C2_4.out 10
  have s2_11_ : y4.cell? ⟨g2, 11, none⟩ = some (.slice L2 m.L.length l2) := blk_cell C2_4.out 11
  have s3_0_ : y4.cell? ⟨g3, 0, none⟩ = some (.int .i64 x.k) := blk_cell C3_4.out 0
  have s3_1_ : y4.cell? ⟨g3, 1, none⟩ = some (.int .u64 x.s) := blk_cell C3_4.out 1
  have s3_2_ : y4.cell? ⟨g3, 2, none⟩ = some (.int .u64 x.se) := blk_cell C3_4.out 2
  have s3_3_ : y4.cell? ⟨g3, 3, none⟩ = some (.int .u64 x.a) := blk_cell C3_4.out 3
  have s3_4_ : y4.cell? ⟨g3, 4, none⟩ = some (.int .u64 x.i) := blk_cell C3_4.out 4
  have s3_5_ : y4.cell? ⟨g3, 5, none⟩ = some (.int .u64 x.n) := blk_cell C3_4.out 5
  have s3_6_ : y4.cell? ⟨g3, 6, none⟩ = some (.int .u64 x.c) := blk_cell C3_4.out 6
  have s3_7_ : y4.cell? ⟨g3, 7, none⟩ = some (.int .i64 x.why) := blk_cell C3_4.out 7
  have s3_8_ : y4.cell? ⟨g3, 8, none⟩ = some (.int .u64 x.seed) := blk_cell C3_4.out 8
  have s3_9_ : y4.cell? ⟨g3, 9, none⟩ = some (.slice P3 x.P.length p3) := blk_cell C3_4.out 9
  have s3_10_ : y4.cell? ⟨g3, 10, none⟩ = some (.int .i64 x.most) := blk_cell C3_4.out 10
  have s3_11_ : y4.cell? ⟨g3, 11, none⟩ = some (.slice L3 x.L.length l3) := blk_cell C3_4.out 11
  have s4_0_ : y4.cell? ⟨g4, 0, none⟩ = some (.int .i64 x.k) := blk_cell C4_4.out 0
  have s4_1_ : y4.cell? ⟨g4, 1, none⟩ = some (.int .u64 x.s) := blk_cell C4_4.out 1
  have s4_2_ : y4.cell? ⟨g4, 2, none⟩ = some (.int .u64 x.se) := blk_cell C4_4.out 2
  have s4_3_ : y4.cell? ⟨g4, 3, none⟩ = some (.int .u64 x.a) := blk_cell C4_4.out 3
  have s4_4_ : y4.cell? ⟨g4, 4, none⟩ = some (.int .u64 x.i) := blk_cell C4_4.out 4
  have s4_5_ : y4.cell? ⟨g4, 5, none⟩ = some (.int .u64 x.n) := blk_cell C4_4.out 5
  have s4_6_ : y4.cell? ⟨g4, 6, none⟩ = some (.int .u64 x.c) := blk_cell C4_4.out 6
  have s4_7_ : y4.cell? ⟨g4, 7, none⟩ = some (.int .i64 x.why) := blk_cell C4_4.out 7
  have s4_8_ : y4.cell? ⟨g4, 8, none⟩ = some (.int .u64 x.seed) := blk_cell C4_4.out 8
  have s4_9_ : y4.cell? ⟨g4, 9, none⟩ = some (.slice P4 x.P.length p4) := blk_cell C4_4.out 9
  have s4_10_ : y4.cell? ⟨g4, 10, none⟩ = some (.int .i64 x.most) := blk_cell C4_4.out 10
  have s4_11_ : y4.cell? ⟨g4, 11, none⟩ = some (.slice L4 x.L.length l4) := blk_cell C4_4.out 11
  have tt : (e == e) = true := by simp
  have tt1 : (e1 == e1) = true := by simp
  refine start_ (n := 24) (S := fun w' => w'.cell? ⟨g1, 0, none⟩ = some (.int .i64 m.k) ∧ w'.cell? ⟨g1, 1, none⟩ = some (.int .u64 m.s) ∧ w'.cell? ⟨g1, 2, none⟩ = some (.int .u64 m.se) ∧ w'.cell? ⟨g1, 3, none⟩ = some (.int .u64 m.a) ∧ w'.cell? ⟨g1, 4, none⟩ = some (.int .u64 m.i) ∧ w'.cell? ⟨g1, 5, none⟩ = some (.int .u64 m.n) ∧ w'.cell? ⟨g1, 6, none⟩ = some (.int .u64 m.c) ∧ w'.cell? ⟨g1, 7, none⟩ = some (.int .i64 m.why) ∧ w'.cell? ⟨g1, 8, none⟩ = some (.int .u64 m.seed) ∧ w'.cell? ⟨g1, 9, none⟩ = some (.slice P1 m.P.length p1) ∧ w'.cell? ⟨g1, 10, none⟩ = some (.int .i64 m.most) ∧ w'.cell? ⟨g1, 11, none⟩ = some (.slice L1 m.L.length l1) ∧ w'.cell? ⟨g2, 0, none⟩ = some (.int .i64 m.k) ∧ w'.cell? ⟨g2, 1, none⟩ = some (.int .u64 m.s) ∧ w'.cell? ⟨g2, 2, none⟩ = some (.int .u64 m.se) ∧ w'.cell? ⟨g2, 3, none⟩ = some (.int .u64 m.a) ∧ w'.cell? ⟨g2, 4, none⟩ = some (.int .u64 m.i) ∧ w'.cell? ⟨g2, 5, none⟩ = some (.int .u64 m.n) ∧ w'.cell? ⟨g2, 6, none⟩ = some (.int .u64 m.c) ∧ w'.cell? ⟨g2, 7, none⟩ = some (.int .i64 m.why) ∧ w'.cell? ⟨g2, 8, none⟩ = some (.int .u64 m.seed) ∧ w'.cell? ⟨g2, 9, none⟩ = some (.slice P2 m.P.length p2) ∧ w'.cell? ⟨g2, 10, none⟩ = some (.int .i64 m.most) ∧ w'.cell? ⟨g2, 11, none⟩ = some (.slice L2 m.L.length l2) ∧ w'.cell? ⟨g3, 0, none⟩ = some (.int .i64 x.k) ∧ w'.cell? ⟨g3, 1, none⟩ = some (.int .u64 x.s) ∧ w'.cell? ⟨g3, 2, none⟩ = some (.int .u64 x.se) ∧ w'.cell? ⟨g3, 3, none⟩ = some (.int .u64 x.a) ∧ w'.cell? ⟨g3, 4, none⟩ = some (.int .u64 x.i) ∧ w'.cell? ⟨g3, 5, none⟩ = some (.int .u64 x.n) ∧ w'.cell? ⟨g3, 6, none⟩ = some (.int .u64 x.c) ∧ w'.cell? ⟨g3, 7, none⟩ = some (.int .i64 x.why) ∧ w'.cell? ⟨g3, 8, none⟩ = some (.int .u64 x.seed) ∧ w'.cell? ⟨g3, 9, none⟩ = some (.slice P3 x.P.length p3) ∧ w'.cell? ⟨g3, 10, none⟩ = some (.int .i64 x.most) ∧ w'.cell? ⟨g3, 11, none⟩ = some (.slice L3 x.L.length l3) ∧ w'.cell? ⟨g4, 0, none⟩ = some (.int .i64 x.k) ∧ w'.cell? ⟨g4, 1, none⟩ = some (.int .u64 x.s) ∧ w'.cell? ⟨g4, 2, none⟩ = some (.int .u64 x.se) ∧ w'.cell? ⟨g4, 3, none⟩ = some (.int .u64 x.a) ∧ w'.cell? ⟨g4, 4, none⟩ = some (.int .u64 x.i) ∧ w'.cell? ⟨g4, 5, none⟩ = some (.int .u64 x.n) ∧ w'.cell? ⟨g4, 6, none⟩ = some (.int .u64 x.c) ∧ w'.cell? ⟨g4, 7, none⟩ = some (.int .i64 x.why) ∧ w'.cell? ⟨g4, 8, none⟩ = some (.int .u64 x.seed) ∧ w'.cell? ⟨g4, 9, none⟩ = some (.slice P4 x.P.length p4) ∧ w'.cell? ⟨g4, 10, none⟩ = some (.int .i64 x.most) ∧ w'.cell? ⟨g4, 11, none⟩ = some (.slice L4 x.L.length l4)) (ds := [21]) #[false, false, false, false, false, false, false, false, false, false, false, false, false, false, false, false, false, false, false, false, false, false, false, false] (by kernel_rfl) rfl rfl ⟨s1_0_, s1_1_, s1_2_, s1_3_, s1_4_, s1_5_, s1_6_, s1_7_, s1_8_, s1_9_, s1_10_, s1_11_, s2_0_, s2_1_, s2_2_, s2_3_, s2_4_, s2_5_, s2_6_, s2_7_, s2_8_, s2_9_, s2_10_, s2_11_, s3_0_, s3_1_, s3_2_, s3_3_, s3_4_, s3_5_, s3_6_, s3_7_, s3_8_, s3_9_, s3_10_, s3_11_, s4_0_, s4_1_, s4_2_, s4_3_, s4_4_, s4_5_, s4_6_, s4_7_, s4_8_, s4_9_, s4_10_, s4_11_⟩ (fun hHeld => ?_)
  refine take_ (i := 0) (N := some 42) (v := ?_) (a' := ?_) #[true, false, false, false, false, false, false, false, false, false, false, false, false, false, false, false, false, false, false, false, false, false, false, false] rfl rfl (by kernel_rfl) (fun _ _ _ h => h) (Or.inl ⟨by rfl, ?_⟩) hHeld ?_ ?_
  rotate_left
  · rintro w' ⟨s0, s1, s2, s3, s4, s5, s6, s7, s8, s9, s10, s11, s12, s13, s14, s15, s16, s17, s18, s19, s20, s21, s22, s23, s24, s25, s26, s27, s28, s29, s30, s31, s32, s33, s34, s35, s36, s37, s38, s39, s40, s41, s42, s43, s44, s45, s46, s47⟩
    go_simp
    with_reducible rfl
  rotate_left
  · simp only [Act.put, List.setIfInBounds_toArray, List.set_cons_zero, List.set_cons_succ, i64_w, i32_w]
    rfl
  refine take_ (i := 2) (N := some 44) (v := ?_) (a' := ?_) #[true, false, true, false, false, false, false, false, false, false, false, false, false, false, false, false, false, false, false, false, false, false, false, false] rfl rfl (by kernel_rfl) (fun _ _ _ h => h) (Or.inl ⟨by rfl, ?_⟩) hHeld ?_ ?_
  rotate_left
  · rintro w' ⟨s0, s1, s2, s3, s4, s5, s6, s7, s8, s9, s10, s11, s12, s13, s14, s15, s16, s17, s18, s19, s20, s21, s22, s23, s24, s25, s26, s27, s28, s29, s30, s31, s32, s33, s34, s35, s36, s37, s38, s39, s40, s41, s42, s43, s44, s45, s46, s47⟩
    go_simp
    with_reducible rfl
  rotate_left
  · simp only [Act.put, List.setIfInBounds_toArray, List.set_cons_zero, List.set_cons_succ, i64_w, i32_w]
    rfl
  refine one_ (i := 1) (N := some 43) #[true, true, true, false, false, false, false, false, false, false, false, false, false, false, false, false, false, false, false, false, false, false, false, false] rfl rfl (by kernel_rfl) (by decide) (fun K hK => ?_)
  refine goes_ Try.func23 (by kernel_rfl) rfl #[.agg #[.int .i64 m.k, .int .u64 m.s, .int .u64 m.se, .int .u64 m.a, .int .u64 m.i, .int .u64 m.n, .int .u64 m.c, .int .i64 m.why, .int .u64 m.seed, .slice P1 m.P.length p1, .int .i64 m.most, .slice L1 m.L.length l1]] (by rfl) rfl rfl (by first | (simp only [List.map_toArray, List.map_cons, List.map_nil]; rfl) | simp only [List.map_toArray, List.map_nil]) ?_
  with_reducible refine (ours_c _ m P1 L1 p1 l1).mono ?_
  rintro e w1 ⟨rfl, b1⟩
  refine ⟨_, rfl, ?_⟩
  refine hK.out _ _ ⟨pw_cell_below b1 s1_0_, pw_cell_below b1 s1_1_, pw_cell_below b1 s1_2_, pw_cell_below b1 s1_3_, pw_cell_below b1 s1_4_, pw_cell_below b1 s1_5_, pw_cell_below b1 s1_6_, pw_cell_below b1 s1_7_, pw_cell_below b1 s1_8_, pw_cell_below b1 s1_9_, pw_cell_below b1 s1_10_, pw_cell_below b1 s1_11_, pw_cell_below b1 s2_0_, pw_cell_below b1 s2_1_, pw_cell_below b1 s2_2_, pw_cell_below b1 s2_3_, pw_cell_below b1 s2_4_, pw_cell_below b1 s2_5_, pw_cell_below b1 s2_6_, pw_cell_below b1 s2_7_, pw_cell_below b1 s2_8_, pw_cell_below b1 s2_9_, pw_cell_below b1 s2_10_, pw_cell_below b1 s2_11_, pw_cell_below b1 s3_0_, pw_cell_below b1 s3_1_, pw_cell_below b1 s3_2_, pw_cell_below b1 s3_3_, pw_cell_below b1 s3_4_, pw_cell_below b1 s3_5_, pw_cell_below b1 s3_6_, pw_cell_below b1 s3_7_, pw_cell_below b1 s3_8_, pw_cell_below b1 s3_9_, pw_cell_below b1 s3_10_, pw_cell_below b1 s3_11_, pw_cell_below b1 s4_0_, pw_cell_below b1 s4_1_, pw_cell_below b1 s4_2_, pw_cell_below b1 s4_3_, pw_cell_below b1 s4_4_, pw_cell_below b1 s4_5_, pw_cell_below b1 s4_6_, pw_cell_below b1 s4_7_, pw_cell_below b1 s4_8_, pw_cell_below b1 s4_9_, pw_cell_below b1 s4_10_, pw_cell_below b1 s4_11_⟩ (fun hHeld => ?_)
  clear hK K
  refine norm_ (a' := ?_) ?_ ?_
  rotate_left
  · show Act.put _ (some 43) _ = _
    simp only [Act.put, List.setIfInBounds_toArray, List.set_cons_zero, List.set_cons_succ, i64_w, i32_w]
    rfl
  refine one_ (i := 3) (N := some 45) #[true, true, true, true, false, false, false, false, false, false, false, false, false, false, false, false, false, false, false, false, false, false, false, false] rfl rfl (by kernel_rfl) (by decide) (fun K hK => ?_)
  refine goes_ Try.func19 (by kernel_rfl) rfl #[.agg #[.int .i64 m.k, .int .u64 m.s, .int .u64 m.se, .int .u64 m.a, .int .u64 m.i, .int .u64 m.n, .int .u64 m.c, .int .i64 m.why, .int .u64 m.seed, .slice P1 m.P.length p1, .int .i64 m.most, .slice L1 m.L.length l1], .agg #[.int .i64 m.k, .int .u64 m.s, .int .u64 m.se, .int .u64 m.a, .int .u64 m.i, .int .u64 m.n, .int .u64 m.c, .int .i64 m.why, .int .u64 m.seed, .slice P2 m.P.length p2, .int .i64 m.most, .slice L2 m.L.length l2]] (by rfl) rfl rfl (by first | (simp only [List.map_toArray, List.map_cons, List.map_nil]; rfl) | simp only [List.map_toArray, List.map_nil]) ?_
  with_reducible refine (HQ1.out _ (below_step (below_drew (Below.refl y4.heap.size y4)) b1)).mono ?_
  rintro e w2 ⟨rfl, b2_⟩
  refine ⟨_, rfl, ?_⟩
  have b2 := below_step b1 b2_
  refine hK.out _ _ ⟨pw_cell_below b2 s1_0_, pw_cell_below b2 s1_1_, pw_cell_below b2 s1_2_, pw_cell_below b2 s1_3_, pw_cell_below b2 s1_4_, pw_cell_below b2 s1_5_, pw_cell_below b2 s1_6_, pw_cell_below b2 s1_7_, pw_cell_below b2 s1_8_, pw_cell_below b2 s1_9_, pw_cell_below b2 s1_10_, pw_cell_below b2 s1_11_, pw_cell_below b2 s2_0_, pw_cell_below b2 s2_1_, pw_cell_below b2 s2_2_, pw_cell_below b2 s2_3_, pw_cell_below b2 s2_4_, pw_cell_below b2 s2_5_, pw_cell_below b2 s2_6_, pw_cell_below b2 s2_7_, pw_cell_below b2 s2_8_, pw_cell_below b2 s2_9_, pw_cell_below b2 s2_10_, pw_cell_below b2 s2_11_, pw_cell_below b2 s3_0_, pw_cell_below b2 s3_1_, pw_cell_below b2 s3_2_, pw_cell_below b2 s3_3_, pw_cell_below b2 s3_4_, pw_cell_below b2 s3_5_, pw_cell_below b2 s3_6_, pw_cell_below b2 s3_7_, pw_cell_below b2 s3_8_, pw_cell_below b2 s3_9_, pw_cell_below b2 s3_10_, pw_cell_below b2 s3_11_, pw_cell_below b2 s4_0_, pw_cell_below b2 s4_1_, pw_cell_below b2 s4_2_, pw_cell_below b2 s4_3_, pw_cell_below b2 s4_4_, pw_cell_below b2 s4_5_, pw_cell_below b2 s4_6_, pw_cell_below b2 s4_7_, pw_cell_below b2 s4_8_, pw_cell_below b2 s4_9_, pw_cell_below b2 s4_10_, pw_cell_below b2 s4_11_⟩ (fun hHeld => ?_)
  clear hK K
  refine norm_ (a' := ?_) ?_ ?_
  rotate_left
  · show Act.put _ (some 45) _ = _
    simp only [Act.put, List.setIfInBounds_toArray, List.set_cons_zero, List.set_cons_succ, i64_w, i32_w]
    rfl
  refine pure_ (i := 4) (N := some 46) (v := ?_) (a' := ?_) #[true, true, true, true, true, false, false, false, false, false, false, false, false, false, false, false, false, false, false, false, false, false, false, false] rfl rfl (by kernel_rfl) (fun _ _ _ h => h) (Or.inl ⟨by rfl, ?_⟩) ?_ ?_
  rotate_left
  · intro w'
    go_simp
    with_reducible rfl
  rotate_left
  · simp only [Act.put, List.setIfInBounds_toArray, List.set_cons_zero, List.set_cons_succ, i64_w, i32_w]
    rfl
  refine pure_ (i := 5) (N := some 47) (v := ?_) (a' := ?_) #[true, true, true, true, true, true, false, false, false, false, false, false, false, false, false, false, false, false, false, false, false, false, false, false] rfl rfl (by kernel_rfl) (fun _ _ _ h => h) (Or.inl ⟨by rfl, ?_⟩) ?_ ?_
  rotate_left
  · intro w'
    go_simp
    with_reducible rfl
  rotate_left
  · simp only [Act.put, List.setIfInBounds_toArray, List.set_cons_zero, List.set_cons_succ, i64_w, i32_w]
    rfl
  refine pure_ (i := 6) (N := some 48) (v := ?_) (a' := ?_) #[true, true, true, true, true, true, true, false, false, false, false, false, false, false, false, false, false, false, false, false, false, false, false, false] rfl rfl (by kernel_rfl) (fun _ _ _ h => h) (Or.inl ⟨by rfl, ?_⟩) ?_ ?_
  rotate_left
  · intro w'
    go_simp
    with_reducible rfl
  rotate_left
  · simp only [Act.put, List.setIfInBounds_toArray, List.set_cons_zero, List.set_cons_succ, i64_w, i32_w]
    rfl
  refine pure_ (i := 7) (N := some 49) (v := ?_) (a' := ?_) #[true, true, true, true, true, true, true, true, false, false, false, false, false, false, false, false, false, false, false, false, false, false, false, false] rfl rfl (by kernel_rfl) (fun _ _ _ h => h) (Or.inl ⟨by rfl, ?_⟩) ?_ ?_
  rotate_left
  · intro w'
    go_simp
    with_reducible rfl
  rotate_left
  · simp only [Act.put, List.setIfInBounds_toArray, List.set_cons_zero, List.set_cons_succ, i64_w, i32_w]
    rfl
  refine pure_ (i := 8) (N := some 50) (v := ?_) (a' := ?_) #[true, true, true, true, true, true, true, true, true, false, false, false, false, false, false, false, false, false, false, false, false, false, false, false] rfl rfl (by kernel_rfl) (fun _ _ _ h => h) (Or.inl ⟨by rfl, ?_⟩) ?_ ?_
  rotate_left
  · intro w'
    go_simp
    with_reducible rfl
  rotate_left
  · simp only [Act.put, List.setIfInBounds_toArray, List.set_cons_zero, List.set_cons_succ, i64_w, i32_w]
    rfl
  refine pure_ (i := 9) (N := some 51) (v := ?_) (a' := ?_) #[true, true, true, true, true, true, true, true, true, true, false, false, false, false, false, false, false, false, false, false, false, false, false, false] rfl rfl (by kernel_rfl) (fun _ _ _ h => h) (Or.inl ⟨by rfl, ?_⟩) ?_ ?_
  rotate_left
  · intro w'
    go_simp
    with_reducible rfl
  rotate_left
  · simp only [Act.put, List.setIfInBounds_toArray, List.set_cons_zero, List.set_cons_succ, i64_w, i32_w]
    rfl
  refine take_ (i := 10) (N := some 52) (v := ?_) (a' := ?_) #[true, true, true, true, true, true, true, true, true, true, true, false, false, false, false, false, false, false, false, false, false, false, false, false] rfl rfl (by kernel_rfl) (fun _ _ _ h => h) (Or.inl ⟨by rfl, ?_⟩) hHeld ?_ ?_
  rotate_left
  · rintro w' ⟨s0, s1, s2, s3, s4, s5, s6, s7, s8, s9, s10, s11, s12, s13, s14, s15, s16, s17, s18, s19, s20, s21, s22, s23, s24, s25, s26, s27, s28, s29, s30, s31, s32, s33, s34, s35, s36, s37, s38, s39, s40, s41, s42, s43, s44, s45, s46, s47⟩
    go_simp
    with_reducible rfl
  rotate_left
  · simp only [Act.put, List.setIfInBounds_toArray, List.set_cons_zero, List.set_cons_succ, i64_w, i32_w]
    rfl
  refine take_ (i := 12) (N := some 54) (v := ?_) (a' := ?_) #[true, true, true, true, true, true, true, true, true, true, true, false, true, false, false, false, false, false, false, false, false, false, false, false] rfl rfl (by kernel_rfl) (fun _ _ _ h => h) (Or.inl ⟨by rfl, ?_⟩) hHeld ?_ ?_
  rotate_left
  · rintro w' ⟨s0, s1, s2, s3, s4, s5, s6, s7, s8, s9, s10, s11, s12, s13, s14, s15, s16, s17, s18, s19, s20, s21, s22, s23, s24, s25, s26, s27, s28, s29, s30, s31, s32, s33, s34, s35, s36, s37, s38, s39, s40, s41, s42, s43, s44, s45, s46, s47⟩
    go_simp
    with_reducible rfl
  rotate_left
  · simp only [Act.put, List.setIfInBounds_toArray, List.set_cons_zero, List.set_cons_succ, i64_w, i32_w]
    rfl
  refine one_ (i := 11) (N := some 53) #[true, true, true, true, true, true, true, true, true, true, true, true, true, false, false, false, false, false, false, false, false, false, false, false] rfl rfl (by kernel_rfl) (by decide) (fun K hK => ?_)
  refine goes_ Try.func23 (by kernel_rfl) rfl #[.agg #[.int .i64 x.k, .int .u64 x.s, .int .u64 x.se, .int .u64 x.a, .int .u64 x.i, .int .u64 x.n, .int .u64 x.c, .int .i64 x.why, .int .u64 x.seed, .slice P3 x.P.length p3, .int .i64 x.most, .slice L3 x.L.length l3]] (by rfl) rfl rfl (by first | (simp only [List.map_toArray, List.map_cons, List.map_nil]; rfl) | simp only [List.map_toArray, List.map_nil]) ?_
  with_reducible refine (ours_c _ x P3 L3 p3 l3).mono ?_
  rintro e w3 ⟨rfl, b3_⟩
  refine ⟨_, rfl, ?_⟩
  have b3 := below_step b2 b3_
  refine hK.out _ _ ⟨pw_cell_below b3 s1_0_, pw_cell_below b3 s1_1_, pw_cell_below b3 s1_2_, pw_cell_below b3 s1_3_, pw_cell_below b3 s1_4_, pw_cell_below b3 s1_5_, pw_cell_below b3 s1_6_, pw_cell_below b3 s1_7_, pw_cell_below b3 s1_8_, pw_cell_below b3 s1_9_, pw_cell_below b3 s1_10_, pw_cell_below b3 s1_11_, pw_cell_below b3 s2_0_, pw_cell_below b3 s2_1_, pw_cell_below b3 s2_2_, pw_cell_below b3 s2_3_, pw_cell_below b3 s2_4_, pw_cell_below b3 s2_5_, pw_cell_below b3 s2_6_, pw_cell_below b3 s2_7_, pw_cell_below b3 s2_8_, pw_cell_below b3 s2_9_, pw_cell_below b3 s2_10_, pw_cell_below b3 s2_11_, pw_cell_below b3 s3_0_, pw_cell_below b3 s3_1_, pw_cell_below b3 s3_2_, pw_cell_below b3 s3_3_, pw_cell_below b3 s3_4_, pw_cell_below b3 s3_5_, pw_cell_below b3 s3_6_, pw_cell_below b3 s3_7_, pw_cell_below b3 s3_8_, pw_cell_below b3 s3_9_, pw_cell_below b3 s3_10_, pw_cell_below b3 s3_11_, pw_cell_below b3 s4_0_, pw_cell_below b3 s4_1_, pw_cell_below b3 s4_2_, pw_cell_below b3 s4_3_, pw_cell_below b3 s4_4_, pw_cell_below b3 s4_5_, pw_cell_below b3 s4_6_, pw_cell_below b3 s4_7_, pw_cell_below b3 s4_8_, pw_cell_below b3 s4_9_, pw_cell_below b3 s4_10_, pw_cell_below b3 s4_11_⟩ (fun hHeld => ?_)
  clear hK K
  refine norm_ (a' := ?_) ?_ ?_
  rotate_left
  · show Act.put _ (some 53) _ = _
    simp only [Act.put, List.setIfInBounds_toArray, List.set_cons_zero, List.set_cons_succ, i64_w, i32_w]
    rfl
  refine one_ (i := 13) (N := some 55) #[true, true, true, true, true, true, true, true, true, true, true, true, true, true, false, false, false, false, false, false, false, false, false, false] rfl rfl (by kernel_rfl) (by decide) (fun K hK => ?_)
  refine goes_ Try.func19 (by kernel_rfl) rfl #[.agg #[.int .i64 x.k, .int .u64 x.s, .int .u64 x.se, .int .u64 x.a, .int .u64 x.i, .int .u64 x.n, .int .u64 x.c, .int .i64 x.why, .int .u64 x.seed, .slice P3 x.P.length p3, .int .i64 x.most, .slice L3 x.L.length l3], .agg #[.int .i64 x.k, .int .u64 x.s, .int .u64 x.se, .int .u64 x.a, .int .u64 x.i, .int .u64 x.n, .int .u64 x.c, .int .i64 x.why, .int .u64 x.seed, .slice P4 x.P.length p4, .int .i64 x.most, .slice L4 x.L.length l4]] (by rfl) rfl rfl (by first | (simp only [List.map_toArray, List.map_cons, List.map_nil]; rfl) | simp only [List.map_toArray, List.map_nil]) ?_
  with_reducible refine (HQ2.out _ (below_step (below_drew (Below.refl y4.heap.size y4)) b3)).mono ?_
  rintro e w4 ⟨rfl, b4_⟩
  refine ⟨_, rfl, ?_⟩
  have b4 := below_step b3 b4_
  refine hK.out _ _ ⟨pw_cell_below b4 s1_0_, pw_cell_below b4 s1_1_, pw_cell_below b4 s1_2_, pw_cell_below b4 s1_3_, pw_cell_below b4 s1_4_, pw_cell_below b4 s1_5_, pw_cell_below b4 s1_6_, pw_cell_below b4 s1_7_, pw_cell_below b4 s1_8_, pw_cell_below b4 s1_9_, pw_cell_below b4 s1_10_, pw_cell_below b4 s1_11_, pw_cell_below b4 s2_0_, pw_cell_below b4 s2_1_, pw_cell_below b4 s2_2_, pw_cell_below b4 s2_3_, pw_cell_below b4 s2_4_, pw_cell_below b4 s2_5_, pw_cell_below b4 s2_6_, pw_cell_below b4 s2_7_, pw_cell_below b4 s2_8_, pw_cell_below b4 s2_9_, pw_cell_below b4 s2_10_, pw_cell_below b4 s2_11_, pw_cell_below b4 s3_0_, pw_cell_below b4 s3_1_, pw_cell_below b4 s3_2_, pw_cell_below b4 s3_3_, pw_cell_below b4 s3_4_, pw_cell_below b4 s3_5_, pw_cell_below b4 s3_6_, pw_cell_below b4 s3_7_, pw_cell_below b4 s3_8_, pw_cell_below b4 s3_9_, pw_cell_below b4 s3_10_, pw_cell_below b4 s3_11_, pw_cell_below b4 s4_0_, pw_cell_below b4 s4_1_, pw_cell_below b4 s4_2_, pw_cell_below b4 s4_3_, pw_cell_below b4 s4_4_, pw_cell_below b4 s4_5_, pw_cell_below b4 s4_6_, pw_cell_below b4 s4_7_, pw_cell_below b4 s4_8_, pw_cell_below b4 s4_9_, pw_cell_below b4 s4_10_, pw_cell_below b4 s4_11_⟩ (fun hHeld => ?_)
  clear hK K
  refine norm_ (a' := ?_) ?_ ?_
  rotate_left
  · show Act.put _ (some 55) _ = _
    simp only [Act.put, List.setIfInBounds_toArray, List.set_cons_zero, List.set_cons_succ, i64_w, i32_w]
    rfl
  refine pure_ (i := 14) (N := some 56) (v := ?_) (a' := ?_) #[true, true, true, true, true, true, true, true, true, true, true, true, true, true, true, false, false, false, false, false, false, false, false, false] rfl rfl (by kernel_rfl) (fun _ _ _ h => h) (Or.inl ⟨by rfl, ?_⟩) ?_ ?_
  rotate_left
  · intro w'
    go_simp
    with_reducible rfl
  rotate_left
  · simp only [Act.put, List.setIfInBounds_toArray, List.set_cons_zero, List.set_cons_succ, i64_w, i32_w]
    rfl
  refine pure_ (i := 15) (N := some 57) (v := ?_) (a' := ?_) #[true, true, true, true, true, true, true, true, true, true, true, true, true, true, true, true, false, false, false, false, false, false, false, false] rfl rfl (by kernel_rfl) (fun _ _ _ h => h) (Or.inl ⟨by rfl, ?_⟩) ?_ ?_
  rotate_left
  · intro w'
    go_simp
    with_reducible rfl
  rotate_left
  · simp only [Act.put, List.setIfInBounds_toArray, List.set_cons_zero, List.set_cons_succ, i64_w, i32_w]
    rfl
  refine pure_ (i := 16) (N := some 58) (v := ?_) (a' := ?_) #[true, true, true, true, true, true, true, true, true, true, true, true, true, true, true, true, true, false, false, false, false, false, false, false] rfl rfl (by kernel_rfl) (fun _ _ _ h => h) (Or.inl ⟨by rfl, ?_⟩) ?_ ?_
  rotate_left
  · intro w'
    go_simp
    with_reducible rfl
  rotate_left
  · simp only [Act.put, List.setIfInBounds_toArray, List.set_cons_zero, List.set_cons_succ, i64_w, i32_w]
    rfl
  refine pure_ (i := 17) (N := some 59) (v := ?_) (a' := ?_) #[true, true, true, true, true, true, true, true, true, true, true, true, true, true, true, true, true, true, false, false, false, false, false, false] rfl rfl (by kernel_rfl) (fun _ _ _ h => h) (Or.inl ⟨by rfl, ?_⟩) ?_ ?_
  rotate_left
  · intro w'
    go_simp
    with_reducible rfl
  rotate_left
  · simp only [Act.put, List.setIfInBounds_toArray, List.set_cons_zero, List.set_cons_succ, i64_w, i32_w]
    rfl
  refine pure_ (i := 18) (N := some 60) (v := ?_) (a' := ?_) #[true, true, true, true, true, true, true, true, true, true, true, true, true, true, true, true, true, true, true, false, false, false, false, false] rfl rfl (by kernel_rfl) (fun _ _ _ h => h) (Or.inl ⟨by rfl, ?_⟩) ?_ ?_
  rotate_left
  · intro w'
    go_simp
    with_reducible rfl
  rotate_left
  · simp only [Act.put, List.setIfInBounds_toArray, List.set_cons_zero, List.set_cons_succ, i64_w, i32_w]
    rfl
  refine pure_ (i := 19) (N := some 61) (v := ?_) (a' := ?_) #[true, true, true, true, true, true, true, true, true, true, true, true, true, true, true, true, true, true, true, true, false, false, false, false] rfl rfl (by kernel_rfl) (fun _ _ _ h => h) (Or.inl ⟨by rfl, ?_⟩) ?_ ?_
  rotate_left
  · intro w'
    go_simp
    with_reducible rfl
  rotate_left
  · simp only [Act.put, List.setIfInBounds_toArray, List.set_cons_zero, List.set_cons_succ, i64_w, i32_w]
    rfl
  refine pure_ (i := 20) (N := some 62) (v := ?_) (a' := ?_) #[true, true, true, true, true, true, true, true, true, true, true, true, true, true, true, true, true, true, true, true, true, false, false, false] rfl rfl (by kernel_rfl) (fun _ _ _ h => h) (Or.inl ⟨by rfl, ?_⟩) ?_ ?_
  rotate_left
  · intro w'
    go_simp
    with_reducible rfl
  rotate_left
  · simp only [Act.put, List.setIfInBounds_toArray, List.set_cons_zero, List.set_cons_succ, i64_w, i32_w]
    rfl
  refine last_ (i := 21) (N := some 63) #[true, true, true, true, true, true, true, true, true, true, true, true, true, true, true, true, true, true, true, true, true, true, false, false] rfl rfl (by kernel_rfl) (by decide) (fun K hK => ?_)
  refine goes_ Try.func8 (by kernel_rfl) rfl #[] (by rfl) rfl rfl (by first | (simp only [List.map_toArray, List.map_cons, List.map_nil]; rfl) | simp only [List.map_toArray, List.map_nil]) ?_
  with_reducible refine (HALIVE.out _).mono ?_
  rintro e w5 ⟨rfl, b5_⟩
  refine ⟨_, rfl, ?_⟩
  have HZ := Aside0.mk (below_step B4.out (below_step (below_drew (Below.refl y4.heap.size y4)) (below_step b4 b5_)))
  clear b5_
  refine hK.out _ _ ?_
  clear hK K
  refine norm_ (a' := ?_) ?_ ?_
  rotate_left
  · show Act.put _ (some 63) _ = _
    simp only [Act.put, List.setIfInBounds_toArray, List.set_cons_zero, List.set_cons_succ, i64_w, i32_w]
    rfl
  refine pure_ (i := 22) (N := some 64) (v := ?_) (a' := ?_) #[true, true, true, true, true, true, true, true, true, true, true, true, true, true, true, true, true, true, true, true, true, true, true, false] rfl rfl (by kernel_rfl) (fun _ _ _ h => h) (Or.inl ⟨by rfl, ?_⟩) ?_ ?_
  rotate_left
  · intro w'
    go_simp
    with_reducible rfl
  rotate_left
  · simp only [Act.put, List.setIfInBounds_toArray, List.set_cons_zero, List.set_cons_succ, i64_w, i32_w]
    rfl
  refine pure_ (i := 23) (N := some 4) (v := ?_) (a' := ?_) #[true, true, true, true, true, true, true, true, true, true, true, true, true, true, true, true, true, true, true, true, true, true, true, true] rfl rfl (by kernel_rfl) (fun _ _ _ h => h) (Or.inl ⟨by rfl, ?_⟩) ?_ ?_
  rotate_left
  · intro w'
    go_simp
    with_reducible rfl
  rotate_left
  · simp only [Act.put, List.setIfInBounds_toArray, List.set_cons_zero, List.set_cons_succ, i64_w, i32_w]
    rfl
  refine done_ (by kernel_rfl) ?_
  go_wp2_with fail
  go_ret
  exact ⟨rfl, HZ.out⟩
end Go.Proofs.Ytbfmbjkalldonaa.Msg
