/- msg.Load; no condition but those that stand in each. -/
import Derived.Test.YtbfmbjkalldonaaMsLv
import Derived.Test.YtbfmbjkalldonaaProg
import Derived.Test.YtbfmbjkalldonaaLst2
import Derived.Test.YtbfmbjkalldonaaMsV
import Derived.Test.YtbfmbjkalldonaaPAx1
import Derived.Deep.QuietTactic
import Derived.BigQuiet
import Derived.BigRegion
import Derived.RegionTactic
import Derived.Deep.RegionHeld3
import Derived.Deep.RegionLaw
import Derived.WalkSpells
import Derived.LoopTactic
import Derived.Deep.LoopGhost
import Derived.Shelf.Abstract
import Derived.OwnWalk
namespace Go.Proofs.Ytbfmbjkalldonaa.Msg
set_option linter.unusedVariables false
set_option linter.unusedSimpArgs false
open Go.RowKit Go.Proofs.Ytbfmbjkalldonaa.PA Go.Proofs.YtbfmbjkalldonaaW.PrintWords Go.Proofs.YtbfmbjkalldonaaW.PrintLast Go.Proofs.YtbfmbjkalldonaaW.PrintMore Go.Proofs.Ytbfmbjkalldonaa.Base Go.Proofs.Ytbfmbjkalldonaa.Var Go.Proofs.Ytbfmbjkalldonaa.Lst
attribute [local go_sem] max2_int min2_int max_two min_two max_three min_three max_four min_four
theorem put1_c (W : World) (b0 : Nat) (A : Option Addr) (c : Nat) (xs : List Int) (x : Int) (h : Ls encB 5 W b0 (.slice A xs.length c) xs) (hb : xs.length ≤ 100000) (hw : 0 ≤ x ∧ x ≤ top) :
    Calls Try.prog 29 #[.slice A xs.length c, .slice (some ⟨W.heap.size, 0, none⟩) 1 1] (W.alloc (.cells #[.int .u64 x] 24)) fun e w' => ∃ A' c', e = .returned (.slice A' (xs ++ flat [x]).length c') ∧ Ls encB 5 w' W.heap.size (.slice A' (xs ++ flat [x]).length c') (xs ++ flat [x]) ∧ Below W.heap.size W w' :=
  put_c W b0 A c xs [x] h hb (by simp) (fun y hy => by simp only [List.mem_singleton] at hy; subst hy; exact wf64 hw)
theorem put2_c (W : World) (b0 : Nat) (A : Option Addr) (c : Nat) (xs : List Int) (x y : Int) (h : Ls encB 5 W b0 (.slice A xs.length c) xs) (hb : xs.length ≤ 100000) (hw : 0 ≤ x ∧ x ≤ top) (hw2 : 0 ≤ y ∧ y ≤ top) :
    Calls Try.prog 29 #[.slice A xs.length c, .slice (some ⟨W.heap.size, 0, none⟩) 2 2] (W.alloc (.cells #[.int .u64 x, .int .u64 y] 24)) fun e w' => ∃ A' c', e = .returned (.slice A' (xs ++ flat [x, y]).length c') ∧ Ls encB 5 w' W.heap.size (.slice A' (xs ++ flat [x, y]).length c') (xs ++ flat [x, y]) ∧ Below W.heap.size W w' :=
  put_c W b0 A c xs [x, y] h hb (by simp) (fun z hz => by simp only [List.mem_cons, List.not_mem_nil, or_false] at hz; rcases hz with rfl | rfl <;> first | exact wf64 hw | exact wf64 hw2)
theorem get_wf {m : Ms} (hu : m.U) (c : Int) : 0 ≤ getV m c ∧ getV m c ≤ top := by
  unfold getV
  split; · exact hu.s
  split; · exact hu.se
  split; · exact hu.a
  split; · exact hu.i
  split; · exact hu.n
  exact hu.c
set_option maxHeartbeats 16000000 in
set_option maxRecDepth 100000 in
theorem load_c (w : World) (m : Ms) (hU : m.U) (A B : Option Addr) (c d : Nat) (hlP : m.P.length ≤ 1000000) (hlL : m.L.length ≤ 1000000) (hcP : m.P.length ≤ c) (hcL : m.L.length ≤ d) (hP : Kd.C (Kd.int .i64) w A m.P.length m.P) (hL : Kd.C (Kd.int .i64) w B m.L.length m.L) :
    Calls Try.prog 11 #[.agg #[.int .i64 m.k, .int .u64 m.s, .int .u64 m.se, .int .u64 m.a, .int .u64 m.i, .int .u64 m.n, .int .u64 m.c, .int .i64 m.why, .int .u64 m.seed, .slice A m.P.length c, .int .i64 m.most, .slice B m.L.length d]] w fun er w' => ∃ v, er = .returned (.tuple #[v, .int .i64 (loadR m).2]) ∧ Ls encB 5 w' w.heap.size v (loadR m).1 ∧ Below w.heap.size w w' := by
  have hu := Try.underlying29
  have hu27 := Try.underlying27
  have hu9 := Try.underlying9
  have HMAY := Aside0.mk (fun W (hw : Below w.heap.size w W) => may_c W m A B c d hlP hlL hcP hcL (Kd.C_below hP hw) (Kd.C_below hL hw))
  obtain ⟨bm, hbm⟩ : ∃ b, mayV m = b := ⟨_, rfl⟩
  rw [hbm] at HMAY
  unfold loadR
  rw [hbm]
  cases bm with
  | false =>
    rw [if_neg (by decide)]
    clear hlP hlL hcP hcL hP hL hU hbm
    go_enter Try.func11, Try.ntmps11
    go_wp2_with (first | ((with_reducible refine gate_dst (N := 1) rfl ?_); refine box_event ?hg (N := 1) ?hd (cs := #[.int .i64 m.k, .int .u64 m.s, .int .u64 m.se, .int .u64 m.a, .int .u64 m.i, .int .u64 m.n, .int .u64 m.c, .int .i64 m.why, .int .u64 m.seed, .slice A m.P.length c, .int .i64 m.most, .slice B m.L.length d]) (t := 29) ?hr ?_; (case hd => rfl); (case hg => rfl); (case hr => first | (go_simp; done) | (go_simp; rfl)); intro g hgn w5 hbox hb; have HGg := Aside0.mk hbox; have HBg := Aside0.mk hb; have HNg := Aside0.mk hgn; have u0 : w5.cell? ⟨g, 0, none⟩ = some (.int .i64 m.k) := blk_cell hbox 0; have uf0 : w5.frozen? ⟨g, 0, none⟩ = false := blk_frozen hbox 0; have u1 : w5.cell? ⟨g, 1, none⟩ = some (.int .u64 m.s) := blk_cell hbox 1; have uf1 : w5.frozen? ⟨g, 1, none⟩ = false := blk_frozen hbox 1; have u2 : w5.cell? ⟨g, 2, none⟩ = some (.int .u64 m.se) := blk_cell hbox 2; have uf2 : w5.frozen? ⟨g, 2, none⟩ = false := blk_frozen hbox 2; have u3 : w5.cell? ⟨g, 3, none⟩ = some (.int .u64 m.a) := blk_cell hbox 3; have uf3 : w5.frozen? ⟨g, 3, none⟩ = false := blk_frozen hbox 3; have u4 : w5.cell? ⟨g, 4, none⟩ = some (.int .u64 m.i) := blk_cell hbox 4; have uf4 : w5.frozen? ⟨g, 4, none⟩ = false := blk_frozen hbox 4; have u5 : w5.cell? ⟨g, 5, none⟩ = some (.int .u64 m.n) := blk_cell hbox 5; have uf5 : w5.frozen? ⟨g, 5, none⟩ = false := blk_frozen hbox 5; have u6 : w5.cell? ⟨g, 6, none⟩ = some (.int .u64 m.c) := blk_cell hbox 6; have uf6 : w5.frozen? ⟨g, 6, none⟩ = false := blk_frozen hbox 6; have u7 : w5.cell? ⟨g, 7, none⟩ = some (.int .i64 m.why) := blk_cell hbox 7; have uf7 : w5.frozen? ⟨g, 7, none⟩ = false := blk_frozen hbox 7; have u8 : w5.cell? ⟨g, 8, none⟩ = some (.int .u64 m.seed) := blk_cell hbox 8; have uf8 : w5.frozen? ⟨g, 8, none⟩ = false := blk_frozen hbox 8; have u9 : w5.cell? ⟨g, 9, none⟩ = some (.slice A m.P.length c) := blk_cell hbox 9; have uf9 : w5.frozen? ⟨g, 9, none⟩ = false := blk_frozen hbox 9; have u10 : w5.cell? ⟨g, 10, none⟩ = some (.int .i64 m.most) := blk_cell hbox 10; have uf10 : w5.frozen? ⟨g, 10, none⟩ = false := blk_frozen hbox 10; have u11 : w5.cell? ⟨g, 11, none⟩ = some (.slice B m.L.length d) := blk_cell hbox 11; have uf11 : w5.frozen? ⟨g, 11, none⟩ = false := blk_frozen hbox 11; clear hbox hb hgn) | (go_at_call 12; (with_reducible refine (HMAY.out _ HBg.out).mono ?_); rintro er w6 ⟨rfl, hb⟩; have hg6 := blk_below HGg.out hb; have HG6 := Aside0.mk hg6; have HB6 := Aside0.mk (below_step HBg.out hb); have k6 : w6.cell? ⟨g, 0, none⟩ = some (.int .i64 m.k) := blk_cell hg6 0; clear hb hg6))
    go_ret2
    exact ⟨_, rfl, Ls.nil _ _ _ _, HB6.out⟩
  | true =>
    rw [if_pos rfl]
    have hmy := may_of hbm
    have HCP := Aside0.mk (fun W (hw : Below w.heap.size w W) => Kd.C_below hP hw)
    have HCL := Aside0.mk (fun W (hw : Below w.heap.size w W) => Kd.C_below hL hw)
    have HC := Aside0.mk (And.intro hcP hcL)
    have HMY := Aside0.mk hmy
    have HU := Aside0.mk hU
    have hkw : IntKind.u64.wrap m.k = m.k := wu64 (by have := hmy.k; omega) (by have := hmy.k; omega)
    have HLEN := Aside0.mk (load_len hU hmy)
    obtain ⟨S, hS, hSb, hSn⟩ := letters_of m.k hmy.k.1 hmy.k.2
    have HS := Aside0.mk hS; have HSB := Aside0.mk hSb; have HSN := Aside0.mk hSn
    have HPUT0 := Aside0.mk (show ∀ W : World, Calls Try.prog 29 #[.slice none 0 0, .slice (some ⟨W.heap.size, 0, none⟩) 1 1] (W.alloc (.cells #[.int .u64 m.k] 24)) (fun e w' => ∃ A' c', e = .returned (.slice A' (flat [m.k]).length c') ∧ Ls encB 5 w' W.heap.size (.slice A' (flat [m.k]).length c') (flat [m.k]) ∧ Below W.heap.size W w') from fun W => put1_c W W.heap.size none 0 [] m.k (Ls.nil _ _ _ _) (by simp) ⟨by have := hmy.k; omega, by have := hmy.k; unfold top; omega⟩)
    clear hlP hlL hcP hcL hP hL hU hbm hmy hS hSb hSn
    go_enter Try.func11, Try.ntmps11
    go_wp2_with (first | ((with_reducible refine gate_dst (N := 1) rfl ?_); refine box_event ?hg (N := 1) ?hd (cs := #[.int .i64 m.k, .int .u64 m.s, .int .u64 m.se, .int .u64 m.a, .int .u64 m.i, .int .u64 m.n, .int .u64 m.c, .int .i64 m.why, .int .u64 m.seed, .slice A m.P.length c, .int .i64 m.most, .slice B m.L.length d]) (t := 29) ?hr ?_; (case hd => rfl); (case hg => rfl); (case hr => first | (go_simp; done) | (go_simp; rfl)); intro g hgn w5 hbox hb; have HGg := Aside0.mk hbox; have HBg := Aside0.mk hb; have HNg := Aside0.mk hgn; have u0 : w5.cell? ⟨g, 0, none⟩ = some (.int .i64 m.k) := blk_cell hbox 0; have uf0 : w5.frozen? ⟨g, 0, none⟩ = false := blk_frozen hbox 0; have u1 : w5.cell? ⟨g, 1, none⟩ = some (.int .u64 m.s) := blk_cell hbox 1; have uf1 : w5.frozen? ⟨g, 1, none⟩ = false := blk_frozen hbox 1; have u2 : w5.cell? ⟨g, 2, none⟩ = some (.int .u64 m.se) := blk_cell hbox 2; have uf2 : w5.frozen? ⟨g, 2, none⟩ = false := blk_frozen hbox 2; have u3 : w5.cell? ⟨g, 3, none⟩ = some (.int .u64 m.a) := blk_cell hbox 3; have uf3 : w5.frozen? ⟨g, 3, none⟩ = false := blk_frozen hbox 3; have u4 : w5.cell? ⟨g, 4, none⟩ = some (.int .u64 m.i) := blk_cell hbox 4; have uf4 : w5.frozen? ⟨g, 4, none⟩ = false := blk_frozen hbox 4; have u5 : w5.cell? ⟨g, 5, none⟩ = some (.int .u64 m.n) := blk_cell hbox 5; have uf5 : w5.frozen? ⟨g, 5, none⟩ = false := blk_frozen hbox 5; have u6 : w5.cell? ⟨g, 6, none⟩ = some (.int .u64 m.c) := blk_cell hbox 6; have uf6 : w5.frozen? ⟨g, 6, none⟩ = false := blk_frozen hbox 6; have u7 : w5.cell? ⟨g, 7, none⟩ = some (.int .i64 m.why) := blk_cell hbox 7; have uf7 : w5.frozen? ⟨g, 7, none⟩ = false := blk_frozen hbox 7; have u8 : w5.cell? ⟨g, 8, none⟩ = some (.int .u64 m.seed) := blk_cell hbox 8; have uf8 : w5.frozen? ⟨g, 8, none⟩ = false := blk_frozen hbox 8; have u9 : w5.cell? ⟨g, 9, none⟩ = some (.slice A m.P.length c) := blk_cell hbox 9; have uf9 : w5.frozen? ⟨g, 9, none⟩ = false := blk_frozen hbox 9; have u10 : w5.cell? ⟨g, 10, none⟩ = some (.int .i64 m.most) := blk_cell hbox 10; have uf10 : w5.frozen? ⟨g, 10, none⟩ = false := blk_frozen hbox 10; have u11 : w5.cell? ⟨g, 11, none⟩ = some (.slice B m.L.length d) := blk_cell hbox 11; have uf11 : w5.frozen? ⟨g, 11, none⟩ = false := blk_frozen hbox 11; clear hbox hb hgn) | (go_at_call 12; (with_reducible refine (HMAY.out _ HBg.out).mono ?_); rintro er w6 ⟨rfl, hb⟩; have hg6 := blk_below HGg.out hb; have HG6 := Aside0.mk hg6; have HB6 := Aside0.mk (below_step HBg.out hb); have k6 : w6.cell? ⟨g, 0, none⟩ = some (.int .i64 m.k) := blk_cell hg6 0; clear hb hg6) | (go_at_call 29; (with_reducible refine (HPUT0.out w6).mono ?_); rintro er w7 ⟨A7, c7, rfl, hl, hb⟩; have hg7 := blk_below HG6.out hb; have HG7 := Aside0.mk hg7; have HB7 := Aside0.mk (below_step HB6.out hb); have HL7 := Aside0.mk (hl.lower HB6.out.size); have k7 : w7.cell? ⟨g, 0, none⟩ = some (.int .i64 m.k) := blk_cell hg7 0; clear hb hg7 hl) | (go_at_call 25; (with_reducible refine (msg_letters.calls m.k S _ HS.out).mono ?_); rintro er w12 ⟨rfl, hdr⟩; obtain ⟨nd, rfl⟩ := hdr))
    obtain ⟨it, hit⟩ : ∃ it, w7.heap.size = it := ⟨_, rfl⟩
    obtain ⟨wl, hwl⟩ : ∃ wl, (World.drewN w7 nd).iter S 0 = wl := ⟨_, rfl⟩
    have hwit : wl.heap[it]? = some (.stringIter S 0) := by rw [← hwl, ← hit]; exact World.iter_heap (World.drewN w7 nd) S 0
    have hbi : Below w7.heap.size w7 wl := by rw [← hwl]; exact below_alloc (pw_below_drewN (Below.refl _ _) nd) _
    have HITS := Aside0.mk hwit
    have HITGE := Aside0.mk (show w.heap.size ≤ it by rw [← hit]; exact HB7.out.size)
    have HBL := Aside0.mk (below_step HB7.out hbi)
    have HLL := Aside0.mk (HL7.out.below hbi)
    have HGL := Aside0.mk (blk_below HG7.out hbi)
    obtain ⟨n, hn⟩ : ∃ n, (lettersV m.k).length = n := ⟨_, rfl⟩
    have HN := Aside0.mk hn
    rw [hit, hwl]
    clear hit hwl hwit hbi hn k7 k6 u0 uf0 u1 uf1 u2 uf2 u3 uf3 u4 uf4 u5 uf5 u6 uf6 u7 uf7 u8 uf8 u9 uf9 u10 uf10 u11 uf11
    go_loopg [4] (n) (fun kf v4 wr => ∃ (pos : Nat) (xs : List Int) (A4 : Option Addr) (c4 : Nat), v4 = .slice A4 xs.length c4 ∧ Aside0 (pos + kf = n) ∧ Aside0 (wr.heap[it]? = some (.stringIter S pos)) ∧ Aside0 (Ls encB 5 wr w.heap.size (.slice A4 xs.length c4) xs) ∧ Aside0 (xs ++ flat (((lettersV m.k).drop pos).flatMap (wordsV m)) = loadV m) ∧ Aside0 (Below w.heap.size w wr) ∧ Aside0 (wr.heap[g]? = some (.cells (mcells m (.slice A m.P.length c) (.slice B m.L.length d)) 29 (0, 0))))
    case atStart => exact ⟨0, _, A7, c7, rfl, ⟨by omega⟩, HITS, HLL, ⟨by rw [List.drop_zero, ← flat_app]; rfl⟩, HBL, HGL⟩
    case round =>
      obtain ⟨pos, xs, A4, c4, rfl, HI, HIT, HLS, HAV, HB, HG⟩ := hrel
      have hpos := HI.out
      by_cases hlt : pos < n
      · obtain ⟨f, hkf⟩ : ∃ f, gk = f + 1 := ⟨gk - 1, by omega⟩
        have HF := Aside0.mk hkf
        have hil : pos < (lettersV m.k).length := by rw [HN.out]; exact hlt
        have hps : pos < S.size := by rw [HSN.out]; exact hil
        obtain ⟨ch, hc⟩ : ∃ c, (lettersV m.k)[pos]? = some c := ⟨_, List.getElem?_eq_getElem hil⟩
        have hisL := letters_isL m.k ch (List.mem_of_getElem? hc)
        have hdr : (lettersV m.k).drop pos = ch :: (lettersV m.k).drop (pos + 1) := by
          obtain ⟨hi, e⟩ := List.getElem?_eq_some_iff.1 hc
          rw [List.drop_eq_getElem_cons hi, e]
        have hav := HAV.out
        rw [hdr, List.flatMap_cons, flat_app] at hav
        have hxl : xs.length ≤ 20000 := by
          have e := congrArg List.length hav
          rw [List.length_append] at e
          have := HLEN.out
          omega
        have hav2 : xs ++ flat (wordsV m ch ++ List.flatMap (wordsV m) ((lettersV m.k).drop (pos + 1))) = loadV m := by rw [flat_app]; exact hav
        have hby := byte_at HSB.out hc hps
        have hnx : ∀ ty, (Instr.next (.pointer (some ⟨it, 0, none⟩)) true ty).run Try.prog wr = .ok (.tuple #[.bool true, .int .i64 pos, .int .i32 ch]) (itTo wr it S (pos + 1)) := fun ty => by
          rw [next_run wr it S pos ty HIT.out hps (by rcases hisL with e | e | e | e | e | e | e | e | e <;> omega), hby]
        have hitn : it < wr.heap.size := blk_lt HIT.out
        have hkI := itTo_kept wr it S (pos + 1)
        have hgi : g ≠ it := fun e => by have h1 := HG.out; have h2 := HIT.out; rw [e] at h1; rw [h1] at h2; cases h2
        obtain ⟨wi, hwi⟩ : ∃ wi, itTo wr it S (pos + 1) = wi := ⟨_, rfl⟩
        have hbI : Below w.heap.size w wi := by rw [← hwi]; exact itTo_below HB.out (HITGE.out) S (pos + 1)
        have hit9 : wi.heap[it]? = some (.stringIter S (pos + 1)) := by rw [← hwi]; exact itTo_at wr it S (pos + 1) hitn
        rw [hwi] at hnx hkI
        have hgI := blk_kept HG.out hkI hgi
        have hlI : Ls encB 5 wi w.heap.size (.slice A4 xs.length c4) xs := lsK HLS.out hkI fun k hk e' => by
          obtain ⟨_, _, cur, hcur⟩ := HLS.out.own k hk
          rw [e'] at hcur
          rw [HIT.out] at hcur
          cases hcur
        have HAV2 := Aside0.mk hav2; have HXL := Aside0.mk hxl; have HBI := Aside0.mk hbI; have HIT9 := Aside0.mk hit9; have HGI := Aside0.mk hgI; have HLI := Aside0.mk hlI
        have u0 : wi.cell? ⟨g, 0, none⟩ = some (.int .i64 m.k) := blk_cell hgI 0
        have uf0 : wi.frozen? ⟨g, 0, none⟩ = false := blk_frozen hgI 0
        have u1 : wi.cell? ⟨g, 1, none⟩ = some (.int .u64 m.s) := blk_cell hgI 1
        have uf1 : wi.frozen? ⟨g, 1, none⟩ = false := blk_frozen hgI 1
        have u2 : wi.cell? ⟨g, 2, none⟩ = some (.int .u64 m.se) := blk_cell hgI 2
        have uf2 : wi.frozen? ⟨g, 2, none⟩ = false := blk_frozen hgI 2
        have u3 : wi.cell? ⟨g, 3, none⟩ = some (.int .u64 m.a) := blk_cell hgI 3
        have uf3 : wi.frozen? ⟨g, 3, none⟩ = false := blk_frozen hgI 3
        have u4 : wi.cell? ⟨g, 4, none⟩ = some (.int .u64 m.i) := blk_cell hgI 4
        have uf4 : wi.frozen? ⟨g, 4, none⟩ = false := blk_frozen hgI 4
        have u5 : wi.cell? ⟨g, 5, none⟩ = some (.int .u64 m.n) := blk_cell hgI 5
        have uf5 : wi.frozen? ⟨g, 5, none⟩ = false := blk_frozen hgI 5
        have u6 : wi.cell? ⟨g, 6, none⟩ = some (.int .u64 m.c) := blk_cell hgI 6
        have uf6 : wi.frozen? ⟨g, 6, none⟩ = false := blk_frozen hgI 6
        have u7 : wi.cell? ⟨g, 7, none⟩ = some (.int .i64 m.why) := blk_cell hgI 7
        have uf7 : wi.frozen? ⟨g, 7, none⟩ = false := blk_frozen hgI 7
        have u8 : wi.cell? ⟨g, 8, none⟩ = some (.int .u64 m.seed) := blk_cell hgI 8
        have uf8 : wi.frozen? ⟨g, 8, none⟩ = false := blk_frozen hgI 8
        have u9 : wi.cell? ⟨g, 9, none⟩ = some (.slice A m.P.length c) := blk_cell hgI 9
        have uf9 : wi.frozen? ⟨g, 9, none⟩ = false := blk_frozen hgI 9
        have u10 : wi.cell? ⟨g, 10, none⟩ = some (.int .i64 m.most) := blk_cell hgI 10
        have uf10 : wi.frozen? ⟨g, 10, none⟩ = false := blk_frozen hgI 10
        have u11 : wi.cell? ⟨g, 11, none⟩ = some (.slice B m.L.length d) := blk_cell hgI 11
        have uf11 : wi.frozen? ⟨g, 11, none⟩ = false := blk_frozen hgI 11
        clear hkf hil hps hc hdr hav hxl hav2 hby hitn hkI hgi hwi hbI hit9 hgI hlI hpos hlt HIT HLS HAV HB HG
        rcases hisL with rfl | rfl | rfl | rfl | rfl | rfl | rfl | rfl | rfl
        · have HC6 := Aside0.mk (show (115 : Int) = 115 ∨ (115 : Int) = 101 ∨ (115 : Int) = 97 ∨ (115 : Int) = 105 ∨ (115 : Int) = 110 ∨ (115 : Int) = 99 from .inl rfl)
          have HPL := Aside0.mk (show Calls Try.prog 27 #[.pointer (some ⟨g, 0, none⟩), .int .u8 115] wi fun er w' => er = .returned (.pointer (some ⟨g, 1, none⟩)) ∧ wi = w' from place_c wi g 115 HC6.out)
          have HPUT := Aside0.mk (put1_c wi w.heap.size A4 c4 xs m.s HLI.out (Nat.le_trans HXL.out (by decide)) HU.out.s)
          go_wp2_with (first | (go_at_call 27; (with_reducible refine HPL.out.mono ?_); rintro er w7 ⟨rfl, rfl⟩) | (go_at_call 29; (with_reducible refine HPUT.out.mono ?_); rintro er w8 ⟨A8, c8, rfl, hl, hb⟩; have HL8 := Aside0.mk hl; have HB8 := Aside0.mk hb; clear hb hl) | go_in)
          go_roundg f
          case measure => have := HF.out; omega
          case rel => exact ⟨pos + 1, xs ++ flat ([m.s]), A8, c8, (by first | rfl | rw [List.length_append]), ⟨by have := HI.out; have := HF.out; omega⟩, ⟨blk_below HIT9.out HB8.out⟩, ⟨HL8.out.lower HBI.out.size⟩, ⟨by rw [List.append_assoc, ← flat_app]; exact HAV2.out⟩, ⟨below_step HBI.out HB8.out⟩, ⟨blk_below HGI.out HB8.out⟩⟩
        · have HC6 := Aside0.mk (show (101 : Int) = 115 ∨ (101 : Int) = 101 ∨ (101 : Int) = 97 ∨ (101 : Int) = 105 ∨ (101 : Int) = 110 ∨ (101 : Int) = 99 from .inr (.inl rfl))
          have HPL := Aside0.mk (show Calls Try.prog 27 #[.pointer (some ⟨g, 0, none⟩), .int .u8 101] wi fun er w' => er = .returned (.pointer (some ⟨g, 2, none⟩)) ∧ wi = w' from place_c wi g 101 HC6.out)
          have HPUT := Aside0.mk (put1_c wi w.heap.size A4 c4 xs m.se HLI.out (Nat.le_trans HXL.out (by decide)) HU.out.se)
          go_wp2_with (first | (go_at_call 27; (with_reducible refine HPL.out.mono ?_); rintro er w7 ⟨rfl, rfl⟩) | (go_at_call 29; (with_reducible refine HPUT.out.mono ?_); rintro er w8 ⟨A8, c8, rfl, hl, hb⟩; have HL8 := Aside0.mk hl; have HB8 := Aside0.mk hb; clear hb hl) | go_in)
          go_roundg f
          case measure => have := HF.out; omega
          case rel => exact ⟨pos + 1, xs ++ flat ([m.se]), A8, c8, (by first | rfl | rw [List.length_append]), ⟨by have := HI.out; have := HF.out; omega⟩, ⟨blk_below HIT9.out HB8.out⟩, ⟨HL8.out.lower HBI.out.size⟩, ⟨by rw [List.append_assoc, ← flat_app]; exact HAV2.out⟩, ⟨below_step HBI.out HB8.out⟩, ⟨blk_below HGI.out HB8.out⟩⟩
        · have HC6 := Aside0.mk (show (97 : Int) = 115 ∨ (97 : Int) = 101 ∨ (97 : Int) = 97 ∨ (97 : Int) = 105 ∨ (97 : Int) = 110 ∨ (97 : Int) = 99 from .inr (.inr (.inl rfl)))
          have HPL := Aside0.mk (show Calls Try.prog 27 #[.pointer (some ⟨g, 0, none⟩), .int .u8 97] wi fun er w' => er = .returned (.pointer (some ⟨g, 3, none⟩)) ∧ wi = w' from place_c wi g 97 HC6.out)
          have HPUT := Aside0.mk (put1_c wi w.heap.size A4 c4 xs m.a HLI.out (Nat.le_trans HXL.out (by decide)) HU.out.a)
          go_wp2_with (first | (go_at_call 27; (with_reducible refine HPL.out.mono ?_); rintro er w7 ⟨rfl, rfl⟩) | (go_at_call 29; (with_reducible refine HPUT.out.mono ?_); rintro er w8 ⟨A8, c8, rfl, hl, hb⟩; have HL8 := Aside0.mk hl; have HB8 := Aside0.mk hb; clear hb hl) | go_in)
          go_roundg f
          case measure => have := HF.out; omega
          case rel => exact ⟨pos + 1, xs ++ flat ([m.a]), A8, c8, (by first | rfl | rw [List.length_append]), ⟨by have := HI.out; have := HF.out; omega⟩, ⟨blk_below HIT9.out HB8.out⟩, ⟨HL8.out.lower HBI.out.size⟩, ⟨by rw [List.append_assoc, ← flat_app]; exact HAV2.out⟩, ⟨below_step HBI.out HB8.out⟩, ⟨blk_below HGI.out HB8.out⟩⟩
        · have HC6 := Aside0.mk (show (105 : Int) = 115 ∨ (105 : Int) = 101 ∨ (105 : Int) = 97 ∨ (105 : Int) = 105 ∨ (105 : Int) = 110 ∨ (105 : Int) = 99 from .inr (.inr (.inr (.inl rfl))))
          have HPL := Aside0.mk (show Calls Try.prog 27 #[.pointer (some ⟨g, 0, none⟩), .int .u8 105] wi fun er w' => er = .returned (.pointer (some ⟨g, 4, none⟩)) ∧ wi = w' from place_c wi g 105 HC6.out)
          have HPUT := Aside0.mk (put1_c wi w.heap.size A4 c4 xs m.i HLI.out (Nat.le_trans HXL.out (by decide)) HU.out.i)
          go_wp2_with (first | (go_at_call 27; (with_reducible refine HPL.out.mono ?_); rintro er w7 ⟨rfl, rfl⟩) | (go_at_call 29; (with_reducible refine HPUT.out.mono ?_); rintro er w8 ⟨A8, c8, rfl, hl, hb⟩; have HL8 := Aside0.mk hl; have HB8 := Aside0.mk hb; clear hb hl) | go_in)
          go_roundg f
          case measure => have := HF.out; omega
          case rel => exact ⟨pos + 1, xs ++ flat ([m.i]), A8, c8, (by first | rfl | rw [List.length_append]), ⟨by have := HI.out; have := HF.out; omega⟩, ⟨blk_below HIT9.out HB8.out⟩, ⟨HL8.out.lower HBI.out.size⟩, ⟨by rw [List.append_assoc, ← flat_app]; exact HAV2.out⟩, ⟨below_step HBI.out HB8.out⟩, ⟨blk_below HGI.out HB8.out⟩⟩
        · have HC6 := Aside0.mk (show (110 : Int) = 115 ∨ (110 : Int) = 101 ∨ (110 : Int) = 97 ∨ (110 : Int) = 105 ∨ (110 : Int) = 110 ∨ (110 : Int) = 99 from .inr (.inr (.inr (.inr (.inl rfl)))))
          have HPL := Aside0.mk (show Calls Try.prog 27 #[.pointer (some ⟨g, 0, none⟩), .int .u8 110] wi fun er w' => er = .returned (.pointer (some ⟨g, 5, none⟩)) ∧ wi = w' from place_c wi g 110 HC6.out)
          have HPUT := Aside0.mk (put1_c wi w.heap.size A4 c4 xs m.n HLI.out (Nat.le_trans HXL.out (by decide)) HU.out.n)
          go_wp2_with (first | (go_at_call 27; (with_reducible refine HPL.out.mono ?_); rintro er w7 ⟨rfl, rfl⟩) | (go_at_call 29; (with_reducible refine HPUT.out.mono ?_); rintro er w8 ⟨A8, c8, rfl, hl, hb⟩; have HL8 := Aside0.mk hl; have HB8 := Aside0.mk hb; clear hb hl) | go_in)
          go_roundg f
          case measure => have := HF.out; omega
          case rel => exact ⟨pos + 1, xs ++ flat ([m.n]), A8, c8, (by first | rfl | rw [List.length_append]), ⟨by have := HI.out; have := HF.out; omega⟩, ⟨blk_below HIT9.out HB8.out⟩, ⟨HL8.out.lower HBI.out.size⟩, ⟨by rw [List.append_assoc, ← flat_app]; exact HAV2.out⟩, ⟨below_step HBI.out HB8.out⟩, ⟨blk_below HGI.out HB8.out⟩⟩
        · have HC6 := Aside0.mk (show (99 : Int) = 115 ∨ (99 : Int) = 101 ∨ (99 : Int) = 97 ∨ (99 : Int) = 105 ∨ (99 : Int) = 110 ∨ (99 : Int) = 99 from .inr (.inr (.inr (.inr (.inr rfl)))))
          have HPL := Aside0.mk (show Calls Try.prog 27 #[.pointer (some ⟨g, 0, none⟩), .int .u8 99] wi fun er w' => er = .returned (.pointer (some ⟨g, 6, none⟩)) ∧ wi = w' from place_c wi g 99 HC6.out)
          have HPUT := Aside0.mk (put1_c wi w.heap.size A4 c4 xs m.c HLI.out (Nat.le_trans HXL.out (by decide)) HU.out.c)
          go_wp2_with (first | (go_at_call 27; (with_reducible refine HPL.out.mono ?_); rintro er w7 ⟨rfl, rfl⟩) | (go_at_call 29; (with_reducible refine HPUT.out.mono ?_); rintro er w8 ⟨A8, c8, rfl, hl, hb⟩; have HL8 := Aside0.mk hl; have HB8 := Aside0.mk hb; clear hb hl) | go_in)
          go_roundg f
          case measure => have := HF.out; omega
          case rel => exact ⟨pos + 1, xs ++ flat ([m.c]), A8, c8, (by first | rfl | rw [List.length_append]), ⟨by have := HI.out; have := HF.out; omega⟩, ⟨blk_below HIT9.out HB8.out⟩, ⟨HL8.out.lower HBI.out.size⟩, ⟨by rw [List.append_assoc, ← flat_app]; exact HAV2.out⟩, ⟨below_step HBI.out HB8.out⟩, ⟨blk_below HGI.out HB8.out⟩⟩
        · have HPUT := Aside0.mk (put1_c wi w.heap.size A4 c4 xs m.why HLI.out (Nat.le_trans HXL.out (by decide)) ⟨HMY.out.why.1, by have := HMY.out.why.2; unfold top; omega⟩)
          have ew : IntKind.u64.wrap m.why = m.why := wu64 (by have := HMY.out.why; omega) (by have := HMY.out.why; omega)
          go_wp2_with (first | (go_at_call 29; (with_reducible refine HPUT.out.mono ?_); rintro er w8 ⟨A8, c8, rfl, hl, hb⟩; have HL8 := Aside0.mk hl; have HB8 := Aside0.mk hb; clear hb hl) | go_in)
          go_roundg f
          case measure => have := HF.out; omega
          case rel => exact ⟨pos + 1, xs ++ flat ([m.why]), A8, c8, (by first | rfl | rw [List.length_append]), ⟨by have := HI.out; have := HF.out; omega⟩, ⟨blk_below HIT9.out HB8.out⟩, ⟨HL8.out.lower HBI.out.size⟩, ⟨by rw [List.append_assoc, ← flat_app]; exact HAV2.out⟩, ⟨below_step HBI.out HB8.out⟩, ⟨blk_below HGI.out HB8.out⟩⟩
        · have HPUT := Aside0.mk (show Calls Try.prog 29 #[.slice A4 xs.length c4, .slice (some ⟨(World.drew wi).heap.size, 0, none⟩) 2 2] (World.drew (wi.alloc (.cells #[.int .u64 m.seed, .int .u64 m.most] 24))) fun e w' => ∃ A' c', e = .returned (.slice A' (xs ++ flat [m.seed, m.most]).length c') ∧ Ls encB 5 w' wi.heap.size (.slice A' (xs ++ flat [m.seed, m.most]).length c') (xs ++ flat [m.seed, m.most]) ∧ Below wi.heap.size (World.drew wi) w' from put2_c (World.drew wi) w.heap.size A4 c4 xs m.seed m.most HLI.out (Nat.le_trans HXL.out (by decide)) HU.out.seed ⟨HMY.out.most.1, by have := HMY.out.most.2; unfold top; omega⟩)
          have ew : IntKind.u64.wrap m.most = m.most := wu64 (by have := HMY.out.most; omega) (by have := HMY.out.most; omega)
          have HXL2 := Aside0.mk (show (xs ++ flat [m.seed, m.most]).length ≤ 100000 from by
            have h2 := flat_len [m.seed, m.most] (fun z hz => by simp only [List.mem_cons, List.not_mem_nil, or_false] at hz; rcases hz with rfl | rfl <;> first | exact wf64 HU.out.seed | exact wf64 ⟨HMY.out.most.1, by have := HMY.out.most.2; unfold top; omega⟩)
            rw [List.length_append]
            have h1 := HXL.out
            have h3 : [m.seed, m.most].length = 2 := rfl
            omega)
          go_upto_region 12 with (fail)
          refine start_ (n := 15) (S := fun w' => w'.cell? ⟨g, 8, none⟩ = some (.int .u64 m.seed) ∧ w'.cell? ⟨g, 10, none⟩ = some (.int .i64 m.most) ∧ w'.cell? ⟨g, 9, none⟩ = some (.slice A m.P.length c)) (ds := [13]) #[false, false, false, false, false, false, false, false, false, false, false, false, false, false, false] (by kernel_rfl) rfl rfl ⟨u8, u10, u9⟩ (fun hHeld => ?_)
          refine pure_ (i := 0) (N := some 41) (v := ?_) (a' := ?_) #[true, false, false, false, false, false, false, false, false, false, false, false, false, false, false] rfl rfl (by kernel_rfl) (fun _ _ _ h => h) (Or.inl ⟨by rfl, ?_⟩) ?_ ?_
          rotate_left
          · intro w'
            go_simp
            with_reducible rfl
          rotate_left
          · simp only [Act.put, List.setIfInBounds_toArray, List.set_cons_zero, List.set_cons_succ, i64_w, i32_w]
            rfl
          refine pure_ (i := 1) (N := some 42) (v := ?_) (a' := ?_) #[true, true, false, false, false, false, false, false, false, false, false, false, false, false, false] rfl rfl (by kernel_rfl) (fun _ _ _ h => h) (Or.inl ⟨by rfl, ?_⟩) ?_ ?_
          rotate_left
          · intro w'
            go_simp
            with_reducible rfl
          rotate_left
          · simp only [Act.put, List.setIfInBounds_toArray, List.set_cons_zero, List.set_cons_succ, i64_w, i32_w]
            rfl
          refine pure_ (i := 2) (N := some 43) (v := ?_) (a' := ?_) #[true, true, true, false, false, false, false, false, false, false, false, false, false, false, false] rfl rfl (by kernel_rfl) (fun _ _ _ h => h) (Or.inl ⟨by rfl, ?_⟩) ?_ ?_
          rotate_left
          · intro w'
            go_simp
            with_reducible rfl
          rotate_left
          · simp only [Act.put, List.setIfInBounds_toArray, List.set_cons_zero, List.set_cons_succ, i64_w, i32_w]
            rfl
          refine pure_ (i := 4) (N := some 45) (v := ?_) (a' := ?_) #[true, true, true, false, true, false, false, false, false, false, false, false, false, false, false] rfl rfl (by kernel_rfl) (fun _ _ _ h => h) (Or.inl ⟨by rfl, ?_⟩) ?_ ?_
          rotate_left
          · intro w'
            go_simp
            with_reducible rfl
          rotate_left
          · simp only [Act.put, List.setIfInBounds_toArray, List.set_cons_zero, List.set_cons_succ, i64_w, i32_w]
            rfl
          refine pure_ (i := 5) (N := some 46) (v := ?_) (a' := ?_) #[true, true, true, false, true, true, false, false, false, false, false, false, false, false, false] rfl rfl (by kernel_rfl) (fun _ _ _ h => h) (Or.inl ⟨by rfl, ?_⟩) ?_ ?_
          rotate_left
          · intro w'
            go_simp
            with_reducible rfl
          rotate_left
          · simp only [Act.put, List.setIfInBounds_toArray, List.set_cons_zero, List.set_cons_succ, i64_w, i32_w]
            rfl
          refine pure_ (i := 10) (N := some 51) (v := ?_) (a' := ?_) #[true, true, true, false, true, true, false, false, false, false, true, false, false, false, false] rfl rfl (by kernel_rfl) (fun _ _ _ h => h) (Or.inl ⟨by rfl, ?_⟩) ?_ ?_
          rotate_left
          · intro w'
            go_simp
            with_reducible rfl
          rotate_left
          · simp only [Act.put, List.setIfInBounds_toArray, List.set_cons_zero, List.set_cons_succ, i64_w, i32_w]
            rfl
          refine pure_ (i := 11) (N := some 52) (v := ?_) (a' := ?_) #[true, true, true, false, true, true, false, false, false, false, true, true, false, false, false] rfl rfl (by kernel_rfl) (fun _ _ _ h => h) (Or.inl ⟨by rfl, ?_⟩) ?_ ?_
          rotate_left
          · intro w'
            go_simp
            with_reducible rfl
          rotate_left
          · simp only [Act.put, List.setIfInBounds_toArray, List.set_cons_zero, List.set_cons_succ, i64_w, i32_w]
            rfl
          refine take_ (i := 3) (N := some 44) (v := ?_) (a' := ?_) #[true, true, true, true, true, true, false, false, false, false, true, true, false, false, false] rfl rfl (by kernel_rfl) (fun _ _ _ h => h) (Or.inl ⟨by rfl, ?_⟩) hHeld ?_ ?_
          rotate_left
          · rintro w' ⟨s0, s1, s2⟩
            go_simp
            with_reducible rfl
          rotate_left
          · simp only [Act.put, List.setIfInBounds_toArray, List.set_cons_zero, List.set_cons_succ, i64_w, i32_w]
            rfl
          refine take_ (i := 6) (N := some 47) (v := ?_) (a' := ?_) #[true, true, true, true, true, true, true, false, false, false, true, true, false, false, false] rfl rfl (by kernel_rfl) (fun _ _ _ h => h) (Or.inl ⟨by rfl, ?_⟩) hHeld ?_ ?_
          rotate_left
          · rintro w' ⟨s0, s1, s2⟩
            go_simp
            with_reducible rfl
          rotate_left
          · simp only [Act.put, List.setIfInBounds_toArray, List.set_cons_zero, List.set_cons_succ, i64_w, i32_w]
            rfl
          refine pure_ (i := 7) (N := some 48) (v := ?_) (a' := ?_) #[true, true, true, true, true, true, true, true, false, false, true, true, false, false, false] rfl rfl (by kernel_rfl) (fun _ _ _ h => h) (Or.inl ⟨by rfl, ?_⟩) ?_ ?_
          rotate_left
          · intro w'
            go_simp
            with_reducible rfl
          rotate_left
          · simp only [Act.put, List.setIfInBounds_toArray, List.set_cons_zero, List.set_cons_succ, i64_w, i32_w]
            rfl
          refine take_ (i := 12) (N := some 53) (v := ?_) (a' := ?_) #[true, true, true, true, true, true, true, true, false, false, true, true, true, false, false] rfl rfl (by kernel_rfl) (fun _ _ _ h => h) (Or.inl ⟨by rfl, ?_⟩) hHeld ?_ ?_
          rotate_left
          · rintro w' ⟨s0, s1, s2⟩
            go_simp
            with_reducible rfl
          rotate_left
          · simp only [Act.put, List.setIfInBounds_toArray, List.set_cons_zero, List.set_cons_succ, i64_w, i32_w]
            rfl
          refine one_ (i := 8) (N := some 49) #[true, true, true, true, true, true, true, true, true, false, true, true, true, false, false] rfl rfl (by kernel_rfl) (by decide) (fun K hK => ?_)
          refine value_ (w1 := ?_) (v := ?_) (by rfl) rfl ?_ ?_
          rotate_left 2
          · go_simp
            constructor
            · rfl
            · rfl
          refine hK.out _ _ ⟨pw_cell_below (below_alloc (Below.refl (World.drew wi).heap.size (World.drew wi)) _) u8, pw_cell_below (below_alloc (Below.refl (World.drew wi).heap.size (World.drew wi)) _) u10, pw_cell_below (below_alloc (Below.refl (World.drew wi).heap.size (World.drew wi)) _) u9⟩ (fun hHeld => ?_)
          clear hK K
          refine norm_ (a' := ?_) ?_ ?_
          rotate_left
          · show Act.put _ (some 49) _ = _
            simp only [Act.put, List.setIfInBounds_toArray, List.set_cons_zero, List.set_cons_succ, i64_w, i32_w]
            rfl
          refine one_ (i := 9) (N := some 50) #[true, true, true, true, true, true, true, true, true, true, true, true, true, false, false] rfl rfl (by kernel_rfl) (by decide) (fun K hK => ?_)
          refine goes_ Try.func29 (by kernel_rfl) rfl #[.slice A4 xs.length c4, .slice (some ⟨(World.drew wi).heap.size, 0, none⟩) 2 2] (by rfl) rfl rfl (by simp only [List.map_toArray, List.map_cons, List.map_nil]; rfl) ?_
          with_reducible refine (HPUT.out).mono ?_
          rintro e w3 ⟨A3, c3, rfl, hl3, hb3⟩
          refine ⟨_, rfl, ?_⟩
          have HB3 := Aside0.mk (below_step (below_drew (Below.refl wi.heap.size wi)) hb3)
          have HL3 := Aside0.mk hl3
          have HPS := Aside0.mk (puts_c w3 _ A3 A c3 c (xs ++ flat [m.seed, m.most]) m.P hl3 (by have h1 := HXL2.out; exact h1) (HCP.out w3 (below_step HBI.out HB3.out)) HC.out.1 HMY.out.P.1 HMY.out.P.2)
          clear hl3 hb3
          refine hK.out _ _ ⟨pw_cell_below HB3.out u8, pw_cell_below HB3.out u10, pw_cell_below HB3.out u9⟩ (fun hHeld => ?_)
          clear hK K
          refine norm_ (a' := ?_) ?_ ?_
          rotate_left
          · show Act.put _ (some 50) _ = _
            simp only [Act.put, List.setIfInBounds_toArray, List.set_cons_zero, List.set_cons_succ, i64_w, i32_w]
            rfl
          refine last_ (i := 13) (N := some 54) #[true, true, true, true, true, true, true, true, true, true, true, true, true, true, false] rfl rfl (by kernel_rfl) (by decide) (fun K hK => ?_)
          refine goes_ Try.func30 (by kernel_rfl) rfl #[.slice A3 (xs ++ flat [m.seed, m.most]).length c3, .slice A m.P.length c] (by rfl) rfl rfl (by simp only [List.map_toArray, List.map_cons, List.map_nil]; rfl) ?_
          with_reducible refine (HPS.out).mono ?_
          rintro e w8 ⟨A8, c8, rfl, hl8, hb8⟩
          refine ⟨_, rfl, ?_⟩
          have HB8 := Aside0.mk (below_step HB3.out hb8)
          have e8 : xs ++ flat [m.seed, m.most] ++ flat ((m.P.length : Int) :: m.P) = xs ++ flat (m.seed :: m.most :: (m.P.length : Int) :: m.P) := by rw [List.append_assoc, ← flat_app]; rfl
          rw [e8] at hl8
          rw [e8]
          have HL8 := Aside0.mk (hl8.lower HB3.out.size)
          clear hl8 hb8 e8
          refine hK.out _ _ ?_
          clear hK K
          refine norm_ (a' := ?_) ?_ ?_
          rotate_left
          · show Act.put _ (some 54) _ = _
            simp only [Act.put, List.setIfInBounds_toArray, List.set_cons_zero, List.set_cons_succ, i64_w, i32_w]
            rfl
          refine pure_ (i := 14) (N := some 4) (v := ?_) (a' := ?_) #[true, true, true, true, true, true, true, true, true, true, true, true, true, true, true] rfl rfl (by kernel_rfl) (fun _ _ _ h => h) (Or.inl ⟨by rfl, ?_⟩) ?_ ?_
          rotate_left
          · intro w'
            go_simp
            with_reducible rfl
          rotate_left
          · simp only [Act.put, List.setIfInBounds_toArray, List.set_cons_zero, List.set_cons_succ, i64_w, i32_w]
            rfl
          refine done_ (by kernel_rfl) ?_
          go_wp2_with (first | go_in)
          go_roundg f
          case measure => have := HF.out; omega
          case rel => exact ⟨pos + 1, xs ++ flat (m.seed :: m.most :: (m.P.length : Int) :: m.P), A8, c8, (by first | rfl | rw [List.length_append]), ⟨by have := HI.out; have := HF.out; omega⟩, ⟨blk_below HIT9.out HB8.out⟩, ⟨HL8.out.lower HBI.out.size⟩, ⟨by rw [List.append_assoc, ← flat_app]; exact HAV2.out⟩, ⟨below_step HBI.out HB8.out⟩, ⟨blk_below HGI.out HB8.out⟩⟩
        · have HPUTS := Aside0.mk (puts_c wi w.heap.size A4 B c4 d xs m.L HLI.out (Nat.le_trans HXL.out (by decide)) (HCL.out wi HBI.out) HC.out.2 HMY.out.L.1 HMY.out.L.2)
          go_wp2_with (first | (go_at_call 30; (with_reducible refine HPUTS.out.mono ?_); rintro er w8 ⟨A8, c8, rfl, hl, hb⟩; have HL8 := Aside0.mk hl; have HB8 := Aside0.mk hb; clear hb hl) | go_in)
          go_roundg f
          case measure => have := HF.out; omega
          case rel => exact ⟨pos + 1, xs ++ flat ((m.L.length : Int) :: m.L), A8, c8, (by first | rfl | rw [List.length_append]), ⟨by have := HI.out; have := HF.out; omega⟩, ⟨blk_below HIT9.out HB8.out⟩, ⟨HL8.out.lower HBI.out.size⟩, ⟨by rw [List.append_assoc, ← flat_app]; exact HAV2.out⟩, ⟨below_step HBI.out HB8.out⟩, ⟨blk_below HGI.out HB8.out⟩⟩
      · obtain rfl : pos = n := by omega
        have hnx : ∀ ty, (Instr.next (.pointer (some ⟨it, 0, none⟩)) true ty).run Try.prog wr = .ok (.tuple #[.bool false]) wr := fun ty => next_end wr it S pos ty HIT.out (by rw [HSN.out, HN.out]; omega)
        have hav := HAV.out
        rw [List.drop_eq_nil_of_le (by rw [HN.out]; omega)] at hav
        have hav : xs = loadV m := by simpa [flat] using hav
        subst hav
        go_wp2_with fail
        go_ret2
        exact ⟨_, rfl, HLS.out, HB.out⟩
end Go.Proofs.Ytbfmbjkalldonaa.Msg
