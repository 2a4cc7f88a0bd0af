/- msg.Same; no condition but those that stand in each. -/
import Derived.Test.YtbfmbjkalldonaaMsN
import Derived.Test.YtbfmbjkalldonaaPAx8
import Derived.Test.YtbfmbjkalldonaaProg
import Derived.Test.YtbfmbjkalldonaaLst2
import Derived.Test.YtbfmbjkalldonaaMsV
import Derived.Test.YtbfmbjkalldonaaPAx1
import Derived.Deep.QuietTactic
import Derived.BigQuiet
import Derived.BigRegion
import Derived.RegionTactic
import Derived.Deep.RegionHeld3
import Derived.Deep.RegionLaw
import Derived.WalkSpells
import Derived.LoopTactic
import Derived.Deep.LoopGhost
import Derived.Shelf.Abstract
import Derived.OwnWalk
namespace Go.Proofs.Ytbfmbjkalldonaa.Msg
set_option linter.unusedVariables false
set_option linter.unusedSimpArgs false
open Go.RowKit Go.Proofs.Ytbfmbjkalldonaa.PA Go.Proofs.YtbfmbjkalldonaaW.PrintWords Go.Proofs.YtbfmbjkalldonaaW.PrintLast Go.Proofs.YtbfmbjkalldonaaW.PrintMore Go.Proofs.Ytbfmbjkalldonaa.Base Go.Proofs.Ytbfmbjkalldonaa.Var Go.Proofs.Ytbfmbjkalldonaa.Lst
attribute [local go_sem] max2_int min2_int max_two min_two max_three min_three max_four min_four
theorem equal_loop (l r : List Int) (hl : l.length = r.length) (hb : l.length ≤ 1000000) : ∀ (t u : List Int) (i : Nat), i ≤ l.length → l.drop i = t → r.drop i = u → Ev (fun k => slices_Equal_int_int.l0 k l r (l.length : Int) (i : Int)) (decide (t = u))
  | [], u, i, hi, h, hu => by
    have := drop_end hi h
    have e : u = [] := by rw [← hu, List.drop_eq_nil_of_le (by omega)]
    subst e
    exact Ev.step (f := fun _ => some true) (fun q => by rw [slices_Equal_int_int.l0, if_neg (by omega)]) (Ev.now _)
  | c :: t, u, i, hi, h, hu => by
    obtain ⟨hr, hlt, hd⟩ := rd_drop h
    have hu2 := List.drop_eq_getElem_cons (l := r) (i := i) (by omega)
    rw [hu] at hu2
    subst hu2
    obtain ⟨hr2, _, hd2⟩ := rd_drop hu
    have e1 : wrap64 ((i : Int) + 1) = ((i + 1 : Nat) : Int) := by rw [w64 (by omega) (by omega)]; omega
    by_cases hc : c = r[i]
    · refine Ev.step (f := fun k => slices_Equal_int_int.l0 k l r (l.length : Int) ((i + 1 : Nat) : Int)) (fun q => ?_) (ev_eq (equal_loop l r hl hb t (r.drop (i + 1)) (i + 1) (by omega) hd rfl) ?_)
      · rw [slices_Equal_int_int.l0, if_pos (by omega), if_pos (by omega), if_pos (by omega), if_pos (by omega), hr, hr2, if_pos hc, e1]
      · rw [hc]; exact decide_eq_decide.2 ⟨fun h => by rw [h], fun h => (List.cons.inj h).2⟩
    · refine Ev.step (f := fun _ => some false) (fun q => ?_) (ev_eq (Ev.now _) ?_)
      · rw [slices_Equal_int_int.l0, if_pos (by omega), if_pos (by omega), if_pos (by omega), if_pos (by omega), hr, hr2, if_neg hc]
      · exact (decide_eq_false fun h => hc (List.cons.inj h).1).symm
theorem equal_ev (l r : List Int) (hb : l.length ≤ 1000000) : Ev (fun k => slices_Equal_int_int.f k l r) (decide (l = r)) := by
  unfold slices_Equal_int_int.f
  by_cases h : l.length = r.length
  · refine ev_ifT (by omega) ?_
    have := equal_loop l r h hb l r 0 (Nat.zero_le _) rfl rfl
    exact this
  · refine ev_eq (ev_ifF (by omega) (Ev.now _)) ?_
    exact (decide_eq_false fun e => h (by rw [e])).symm
def sameV (m n : Ms) : Bool := ([115, 101, 97, 105, 110, 99] : List Int).all (fun c => getV m c == getV n c) && (m.k == n.k) && (m.why == n.why) && (m.seed == n.seed) && (m.most == n.most) && decide (m.P = n.P) && decide (m.L = n.L)
theorem off_cell (m : Ms) (vP vL : Value) (c : Int) (hc : c = 115 ∨ c = 101 ∨ c = 97 ∨ c = 105 ∨ c = 110 ∨ c = 99) : (mcells m vP vL)[offV c]? = some (.int .u64 (getV m c)) := by
  rcases hc with rfl | rfl | rfl | rfl | rfl | rfl <;> rfl
theorem place_q (w : World) (g : Nat) (c : Int) (hc : c = 115 ∨ c = 101 ∨ c = 97 ∨ c = 105 ∨ c = 110 ∨ c = 99) : Calls Try.prog 27 #[.pointer (some ⟨g, 0, none⟩), .int .u8 c] w fun er w' => er = .returned (.pointer (some ⟨g, offV c, none⟩)) ∧ w' = w := (place_c w g c hc).mono fun er w' ⟨h1, h2⟩ => ⟨h1, h2.symm⟩
set_option maxHeartbeats 16000000 in
set_option maxRecDepth 100000 in
theorem same_c (w : World) (m n : Ms) (A B A' B' : Option Addr) (c d c' d' : Nat) (hlP : m.P.length ≤ 1000000) (hlL : m.L.length ≤ 1000000) (hcP : m.P.length ≤ c) (hcL : m.L.length ≤ d) (hP : Kd.C (Kd.int .i64) w A m.P.length m.P) (hL : Kd.C (Kd.int .i64) w B m.L.length m.L) (hcP' : n.P.length ≤ c') (hcL' : n.L.length ≤ d') (hP' : Kd.C (Kd.int .i64) w A' n.P.length n.P) (hL' : Kd.C (Kd.int .i64) w B' n.L.length n.L) :
    Calls Try.prog 10 #[.agg #[.int .i64 m.k, .int .u64 m.s, .int .u64 m.se, .int .u64 m.a, .int .u64 m.i, .int .u64 m.n, .int .u64 m.c, .int .i64 m.why, .int .u64 m.seed, .slice A m.P.length c, .int .i64 m.most, .slice B m.L.length d], .agg #[.int .i64 n.k, .int .u64 n.s, .int .u64 n.se, .int .u64 n.a, .int .u64 n.i, .int .u64 n.n, .int .u64 n.c, .int .i64 n.why, .int .u64 n.seed, .slice A' n.P.length c', .int .i64 n.most, .slice B' n.L.length d']] w fun er w' => er = .returned (.bool (sameV m n)) ∧ Below w.heap.size w w' := by
  have hu := Try.underlying29
  have hu27 := Try.underlying27
  obtain ⟨K1, hK1⟩ := equal_ev m.P n.P hlP
  obtain ⟨K2, hK2⟩ := equal_ev m.L n.L hlL
  have hf1 := hK1 K1 (Nat.le_refl _)
  have hf2 := hK2 K2 (Nat.le_refl _)
  have HEP := Aside0.mk (fun W (hw : Below w.heap.size w W) => slices_Equal_int_int.calls K1 A c m.P A' c' n.P _ W (Kd.C_below hP hw) hcP (Kd.C_below hP' hw) hcP' hf1)
  have HEL := Aside0.mk (fun W (hw : Below w.heap.size w W) => slices_Equal_int_int.calls K2 B d m.L B' d' n.L _ W (Kd.C_below hL hw) hcL (Kd.C_below hL' hw) hcL' hf2)
  have kc := fun (w : World) (C : Array Value) (n c : Nat) => Lib.run_convert_bytes_const (P := Try.prog) w 22 5 C n c Try.underlying22 Try.underlying5
  obtain ⟨rs, hrs⟩ : ∃ b, sameV m n = b := ⟨_, rfl⟩
  have HRS := Aside0.mk hrs
  rw [hrs]
  obtain ⟨bp, hbp⟩ : ∃ b, decide (m.P = n.P) = b := ⟨_, rfl⟩
  obtain ⟨bl, hbl⟩ : ∃ b, decide (m.L = n.L) = b := ⟨_, rfl⟩
  rw [hbp] at HEP
  rw [hbl] at HEL
  have HBP := Aside0.mk hbp; have HBL := Aside0.mk hbl
  clear hlP hlL hcP hcL hP hL hcP' hcL' hP' hL' hK1 hK2 hf1 hf2 hrs hbp hbl
  go_enter Try.func10, Try.ntmps10
  go_wp2_with (first | ((with_reducible refine gate_dst (N := 2) rfl ?_); refine box_event ?hg (N := 2) ?hd (cs := #[.int .i64 m.k, .int .u64 m.s, .int .u64 m.se, .int .u64 m.a, .int .u64 m.i, .int .u64 m.n, .int .u64 m.c, .int .i64 m.why, .int .u64 m.seed, .slice A m.P.length c, .int .i64 m.most, .slice B m.L.length d]) (t := 29) ?hr ?_; (case hd => rfl); (case hg => rfl); (case hr => first | (go_simp; done) | (go_simp; rfl)); intro g hgn w5 hbox hb; have HGg := Aside0.mk hbox; have HBg := Aside0.mk hb; have HNg := Aside0.mk hgn; clear hbox hb hgn) | ((with_reducible refine gate_dst (N := 3) rfl ?_); refine box_event ?hg (N := 3) ?hd (cs := #[.int .i64 n.k, .int .u64 n.s, .int .u64 n.se, .int .u64 n.a, .int .u64 n.i, .int .u64 n.n, .int .u64 n.c, .int .i64 n.why, .int .u64 n.seed, .slice A' n.P.length c', .int .i64 n.most, .slice B' n.L.length d']) (t := 29) ?hr ?_; (case hd => rfl); (case hg => rfl); (case hr => first | (go_simp; done) | (go_simp; rfl)); intro h hgn w6 hbox hb; have HGh := Aside0.mk hbox; have HBh := Aside0.mk hb; have HNh := Aside0.mk hgn; clear hbox hb hgn))
  have hgm := blk_below HGg.out HBh.out
  have hg1 := blk_alloc hgm (Obj.cells #[.int .u8 115, .int .u8 101, .int .u8 97, .int .u8 105, .int .u8 110, .int .u8 99] 5 (6, 7))
  have hg2 := blk_alloc HGh.out (Obj.cells #[.int .u8 115, .int .u8 101, .int .u8 97, .int .u8 105, .int .u8 110, .int .u8 99] 5 (6, 7))
  have hbl0 : Below w.heap.size w (w6.alloc (Obj.cells #[.int .u8 115, .int .u8 101, .int .u8 97, .int .u8 105, .int .u8 110, .int .u8 99] 5 (6, 7))) := below_alloc (below_step HBg.out HBh.out) _
  have hcl : ∀ i ch, ([115, 101, 97, 105, 110, 99] : List Int)[i]? = some ch → (w6.alloc (Obj.cells #[.int .u8 115, .int .u8 101, .int .u8 97, .int .u8 105, .int .u8 110, .int .u8 99] 5 (6, 7))).cell? ⟨w6.heap.size, i, none⟩ = some (.int .u8 ch) := fun i ch h => by
    rw [World.cell?_alloc_mark]
    have e : (#[.int .u8 115, .int .u8 101, .int .u8 97, .int .u8 105, .int .u8 110, .int .u8 99] : Array Value)[i]? = (([115, 101, 97, 105, 110, 99] : List Int)[i]?).map (Value.int .u8) := by
      rw [show (#[.int .u8 115, .int .u8 101, .int .u8 97, .int .u8 105, .int .u8 110, .int .u8 99] : Array Value) = (([115, 101, 97, 105, 110, 99] : List Int).map (Value.int .u8)).toArray from rfl, List.getElem?_toArray, List.getElem?_map]
    rw [e, h]; rfl
  obtain ⟨gl, hgl⟩ : ∃ gl, w6.heap.size = gl := ⟨_, rfl⟩
  obtain ⟨wl, hwl⟩ : ∃ wl, w6.alloc (Obj.cells #[.int .u8 115, .int .u8 101, .int .u8 97, .int .u8 105, .int .u8 110, .int .u8 99] 5 (6, 7)) = wl := ⟨_, rfl⟩
  rw [hgl] at hcl
  rw [hwl] at hcl hg1 hg2 hbl0
  rw [hgl, hwl]
  have HCL := Aside0.mk hcl; have HG1 := Aside0.mk hg1; have HG2 := Aside0.mk hg2; have HB0 := Aside0.mk hbl0
  clear hcl hg1 hg2 hbl0 hgl hwl hgm
  go_loopw [10] (fun vi wr => ∃ (i : Nat), vi = .int .i64 i ∧ Aside0 (i ≤ 6) ∧ Aside0 ((([115, 101, 97, 105, 110, 99] : List Int).drop i).all (fun c => getV m c == getV n c) = ([115, 101, 97, 105, 110, 99] : List Int).all (fun c => getV m c == getV n c)) ∧ Aside0 (Below wl.heap.size wl wr)) (fun vi _ => (6 - intOf vi).toNat)
  case atStart => exact ⟨0, rfl, ⟨by decide⟩, ⟨by rw [List.drop_zero]⟩, ⟨Below.refl _ _⟩⟩
  case round =>
    obtain ⟨i, rfl, HI, HA, HW⟩ := hrel
    have l1 := HI.out
    have HR1 := Aside0.mk (blk_below HG1.out HW.out)
    have HR2 := Aside0.mk (blk_below HG2.out HW.out)
    by_cases hlt : i < 6
    · have d3 : decide ((i : Int) < 6) = true := decide_eq_true (by omega)
      have d3' : decide (i < 6) = true := decide_eq_true hlt
      obtain ⟨ch, hc⟩ : ∃ c, ([115, 101, 97, 105, 110, 99] : List Int)[i]? = some c := ⟨_, List.getElem?_eq_getElem (by exact hlt)⟩
      have hmem := List.mem_of_getElem? hc
      have hc6 : ch = 115 ∨ ch = 101 ∨ ch = 97 ∨ ch = 105 ∨ ch = 110 ∨ ch = 99 := by simpa using hmem
      have HC6 := Aside0.mk hc6
      have kcc : wr.cell? ⟨gl, i, none⟩ = some (.int .u8 ch) := pw_cell_below HW.out (HCL.out i ch hc)
      have hdr : ([115, 101, 97, 105, 110, 99] : List Int).drop i = ch :: ([115, 101, 97, 105, 110, 99] : List Int).drop (i + 1) := by
        obtain ⟨hi, e⟩ := List.getElem?_eq_some_iff.1 hc
        rw [List.drop_eq_getElem_cons hi, e]
      have ha := HA.out
      rw [hdr, List.all_cons] at ha
      have v1 : wr.cell? ⟨g, offV ch, none⟩ = some (.int .u64 (getV m ch)) := (blk_cell HR1.out _).trans (off_cell m _ _ ch hc6)
      have v2 : wr.cell? ⟨h, offV ch, none⟩ = some (.int .u64 (getV n ch)) := (blk_cell HR2.out _).trans (off_cell n _ _ ch hc6)
      obtain ⟨x, hx⟩ : ∃ x, getV m ch = x := ⟨_, rfl⟩
      obtain ⟨y, hy⟩ : ∃ y, getV n ch = y := ⟨_, rfl⟩
      rw [hx] at v1 ha
      rw [hy] at v2 ha
      clear hc hdr hmem hc6 hx hy
      by_cases hxy : x = y
      · have q1 : (x == y) = true := by simpa using hxy
        have q2 : (x != y) = false := by simpa using hxy
        rw [q1, Bool.true_and] at ha
        have HA2 := Aside0.mk ha
        clear ha hxy q1
        go_upto_region 4 with (fail)
        go_quiet (first | (go_at_call 27; exact Calls.quiet_of_same (place_q _ _ ch HC6.out)))
        go_wp2_with (first | go_in)
        go_roundw
        case rel => exact ⟨i + 1, by go_num, ⟨by omega⟩, HA2, ⟨by first | exact pw_below_drewN HW.out _ | exact below_drew HW.out | exact HW.out⟩⟩
        case measure => simp [intOf]; omega
      · have q1 : (x == y) = false := by simpa using hxy
        have q2 : (x != y) = true := by simpa using hxy
        rw [q1, Bool.false_and] at ha
        have HA2 := Aside0.mk ha
        clear ha hxy q1
        go_upto_region 4 with (fail)
        go_quiet (first | (go_at_call 27; exact Calls.quiet_of_same (place_q _ _ ch HC6.out)))
        go_wp2_with fail
        go_ret
        have e1 : rs = false := by rw [← HRS.out]; unfold sameV; rw [← HA2.out]; rfl
        subst e1
        exact ⟨rfl, below_step HB0.out (by first | exact pw_below_drewN HW.out _ | exact below_drew HW.out | exact HW.out)⟩
    · obtain rfl : i = 6 := by omega
      have ha : true = _ := HA.out
      have hrs := HRS.out
      unfold sameV at hrs
      rw [← ha, Bool.true_and, HBP.out, HBL.out] at hrs
      have HZB := Aside0.mk (below_step HB0.out HW.out)
      have hg1 := HR1.out
      have hg2 := HR2.out
      have u0 : wr.cell? ⟨g, 0, none⟩ = some (.int .i64 m.k) := blk_cell hg1 0
      have uf0 : wr.frozen? ⟨g, 0, none⟩ = false := blk_frozen hg1 0
      have u1 : wr.cell? ⟨g, 1, none⟩ = some (.int .u64 m.s) := blk_cell hg1 1
      have uf1 : wr.frozen? ⟨g, 1, none⟩ = false := blk_frozen hg1 1
      have u2 : wr.cell? ⟨g, 2, none⟩ = some (.int .u64 m.se) := blk_cell hg1 2
      have uf2 : wr.frozen? ⟨g, 2, none⟩ = false := blk_frozen hg1 2
      have u3 : wr.cell? ⟨g, 3, none⟩ = some (.int .u64 m.a) := blk_cell hg1 3
      have uf3 : wr.frozen? ⟨g, 3, none⟩ = false := blk_frozen hg1 3
      have u4 : wr.cell? ⟨g, 4, none⟩ = some (.int .u64 m.i) := blk_cell hg1 4
      have uf4 : wr.frozen? ⟨g, 4, none⟩ = false := blk_frozen hg1 4
      have u5 : wr.cell? ⟨g, 5, none⟩ = some (.int .u64 m.n) := blk_cell hg1 5
      have uf5 : wr.frozen? ⟨g, 5, none⟩ = false := blk_frozen hg1 5
      have u6 : wr.cell? ⟨g, 6, none⟩ = some (.int .u64 m.c) := blk_cell hg1 6
      have uf6 : wr.frozen? ⟨g, 6, none⟩ = false := blk_frozen hg1 6
      have u7 : wr.cell? ⟨g, 7, none⟩ = some (.int .i64 m.why) := blk_cell hg1 7
      have uf7 : wr.frozen? ⟨g, 7, none⟩ = false := blk_frozen hg1 7
      have u8 : wr.cell? ⟨g, 8, none⟩ = some (.int .u64 m.seed) := blk_cell hg1 8
      have uf8 : wr.frozen? ⟨g, 8, none⟩ = false := blk_frozen hg1 8
      have u9 : wr.cell? ⟨g, 9, none⟩ = some (.slice A m.P.length c) := blk_cell hg1 9
      have uf9 : wr.frozen? ⟨g, 9, none⟩ = false := blk_frozen hg1 9
      have u10 : wr.cell? ⟨g, 10, none⟩ = some (.int .i64 m.most) := blk_cell hg1 10
      have uf10 : wr.frozen? ⟨g, 10, none⟩ = false := blk_frozen hg1 10
      have u11 : wr.cell? ⟨g, 11, none⟩ = some (.slice B m.L.length d) := blk_cell hg1 11
      have uf11 : wr.frozen? ⟨g, 11, none⟩ = false := blk_frozen hg1 11
      have y0 : wr.cell? ⟨h, 0, none⟩ = some (.int .i64 n.k) := blk_cell hg2 0
      have yf0 : wr.frozen? ⟨h, 0, none⟩ = false := blk_frozen hg2 0
      have y1 : wr.cell? ⟨h, 1, none⟩ = some (.int .u64 n.s) := blk_cell hg2 1
      have yf1 : wr.frozen? ⟨h, 1, none⟩ = false := blk_frozen hg2 1
      have y2 : wr.cell? ⟨h, 2, none⟩ = some (.int .u64 n.se) := blk_cell hg2 2
      have yf2 : wr.frozen? ⟨h, 2, none⟩ = false := blk_frozen hg2 2
      have y3 : wr.cell? ⟨h, 3, none⟩ = some (.int .u64 n.a) := blk_cell hg2 3
      have yf3 : wr.frozen? ⟨h, 3, none⟩ = false := blk_frozen hg2 3
      have y4 : wr.cell? ⟨h, 4, none⟩ = some (.int .u64 n.i) := blk_cell hg2 4
      have yf4 : wr.frozen? ⟨h, 4, none⟩ = false := blk_frozen hg2 4
      have y5 : wr.cell? ⟨h, 5, none⟩ = some (.int .u64 n.n) := blk_cell hg2 5
      have yf5 : wr.frozen? ⟨h, 5, none⟩ = false := blk_frozen hg2 5
      have y6 : wr.cell? ⟨h, 6, none⟩ = some (.int .u64 n.c) := blk_cell hg2 6
      have yf6 : wr.frozen? ⟨h, 6, none⟩ = false := blk_frozen hg2 6
      have y7 : wr.cell? ⟨h, 7, none⟩ = some (.int .i64 n.why) := blk_cell hg2 7
      have yf7 : wr.frozen? ⟨h, 7, none⟩ = false := blk_frozen hg2 7
      have y8 : wr.cell? ⟨h, 8, none⟩ = some (.int .u64 n.seed) := blk_cell hg2 8
      have yf8 : wr.frozen? ⟨h, 8, none⟩ = false := blk_frozen hg2 8
      have y9 : wr.cell? ⟨h, 9, none⟩ = some (.slice A' n.P.length c') := blk_cell hg2 9
      have yf9 : wr.frozen? ⟨h, 9, none⟩ = false := blk_frozen hg2 9
      have y10 : wr.cell? ⟨h, 10, none⟩ = some (.int .i64 n.most) := blk_cell hg2 10
      have yf10 : wr.frozen? ⟨h, 10, none⟩ = false := blk_frozen hg2 10
      have y11 : wr.cell? ⟨h, 11, none⟩ = some (.slice B' n.L.length d') := blk_cell hg2 11
      have yf11 : wr.frozen? ⟨h, 11, none⟩ = false := blk_frozen hg2 11
      clear ha hg1 hg2
      by_cases t0 : m.k = n.k
      rotate_left
      · have p0 : (m.k == n.k) = false := by simpa using t0
        have e1 : rs = false := by rw [← hrs, p0]; simp
        clear t0
        subst e1
        go_wp2_with (first | (go_at_call 28; (with_reducible refine (HEP.out _ HZB.out).mono ?_); rintro er w8 ⟨rfl, hdr⟩; obtain ⟨n1, rfl⟩ := hdr) | (go_at_call 28; (with_reducible refine (HEL.out _ (pw_below_drewN HZB.out n1)).mono ?_); rintro er w9 ⟨rfl, hdr⟩; obtain ⟨n2, rfl⟩ := hdr))
        go_ret
        exact ⟨rfl, HZB.out⟩
      have p0 : (m.k == n.k) = true := by simpa using t0
      by_cases t1 : m.why = n.why
      rotate_left
      · have p1 : (m.why == n.why) = false := by simpa using t1
        have e1 : rs = false := by rw [← hrs, p1]; simp
        clear t1
        subst e1
        go_wp2_with (first | (go_at_call 28; (with_reducible refine (HEP.out _ HZB.out).mono ?_); rintro er w8 ⟨rfl, hdr⟩; obtain ⟨n1, rfl⟩ := hdr) | (go_at_call 28; (with_reducible refine (HEL.out _ (pw_below_drewN HZB.out n1)).mono ?_); rintro er w9 ⟨rfl, hdr⟩; obtain ⟨n2, rfl⟩ := hdr))
        go_ret
        exact ⟨rfl, HZB.out⟩
      have p1 : (m.why == n.why) = true := by simpa using t1
      by_cases t2 : m.seed = n.seed
      rotate_left
      · have p2 : (m.seed == n.seed) = false := by simpa using t2
        have e1 : rs = false := by rw [← hrs, p2]; simp
        clear t2
        subst e1
        go_wp2_with (first | (go_at_call 28; (with_reducible refine (HEP.out _ HZB.out).mono ?_); rintro er w8 ⟨rfl, hdr⟩; obtain ⟨n1, rfl⟩ := hdr) | (go_at_call 28; (with_reducible refine (HEL.out _ (pw_below_drewN HZB.out n1)).mono ?_); rintro er w9 ⟨rfl, hdr⟩; obtain ⟨n2, rfl⟩ := hdr))
        go_ret
        exact ⟨rfl, HZB.out⟩
      have p2 : (m.seed == n.seed) = true := by simpa using t2
      by_cases t3 : m.most = n.most
      rotate_left
      · have p3 : (m.most == n.most) = false := by simpa using t3
        have e1 : rs = false := by rw [← hrs, p3]; simp
        clear t3
        subst e1
        go_wp2_with (first | (go_at_call 28; (with_reducible refine (HEP.out _ HZB.out).mono ?_); rintro er w8 ⟨rfl, hdr⟩; obtain ⟨n1, rfl⟩ := hdr) | (go_at_call 28; (with_reducible refine (HEL.out _ (pw_below_drewN HZB.out n1)).mono ?_); rintro er w9 ⟨rfl, hdr⟩; obtain ⟨n2, rfl⟩ := hdr))
        go_ret
        exact ⟨rfl, HZB.out⟩
      have p3 : (m.most == n.most) = true := by simpa using t3
      rw [p0, p1, p2, p3] at hrs
      cases bp with
      | false =>
        have e1 : rs = false := by rw [← hrs]; simp
        subst e1
        clear hrs t0 t1 t2 t3
        go_wp2_with (first | (go_at_call 28; (with_reducible refine (HEP.out _ HZB.out).mono ?_); rintro er w8 ⟨rfl, hdr⟩; obtain ⟨n1, rfl⟩ := hdr))
        go_ret
        exact ⟨rfl, pw_below_drewN HZB.out n1⟩
      | true =>
        have e1 : bl = rs := by rw [← hrs]; simp
        subst e1
        clear hrs t0 t1 t2 t3
        go_wp2_with (first | (go_at_call 28; (with_reducible refine (HEL.out _ (pw_below_drewN HZB.out n1)).mono ?_); rintro er w9 ⟨rfl, hdr⟩; obtain ⟨n2, rfl⟩ := hdr) | (go_at_call 28; (with_reducible refine (HEP.out _ HZB.out).mono ?_); rintro er w8 ⟨rfl, hdr⟩; obtain ⟨n1, rfl⟩ := hdr))
        go_ret
        exact ⟨rfl, pw_below_drewN HZB.out (n1 + n2)⟩
end Go.Proofs.Ytbfmbjkalldonaa.Msg
