/- msg's reader: place, num, list, field; no condition but those that stand in each. -/
import Derived.Test.YtbfmbjkalldonaaProg
import Derived.Test.YtbfmbjkalldonaaLst2
import Derived.Test.YtbfmbjkalldonaaMsV
import Derived.Test.YtbfmbjkalldonaaPAx1
import Derived.Deep.QuietTactic
import Derived.BigQuiet
import Derived.BigRegion
import Derived.RegionTactic
import Derived.Deep.RegionHeld3
import Derived.Deep.RegionLaw
import Derived.WalkSpells
import Derived.LoopTactic
import Derived.Deep.LoopGhost
import Derived.Shelf.Abstract
import Derived.OwnWalk
namespace Go.Proofs.Ytbfmbjkalldonaa.Msg
set_option linter.unusedVariables false
set_option linter.unusedSimpArgs false
open Go.RowKit Go.Proofs.Ytbfmbjkalldonaa.PA Go.Proofs.YtbfmbjkalldonaaW.PrintWords Go.Proofs.YtbfmbjkalldonaaW.PrintLast Go.Proofs.YtbfmbjkalldonaaW.PrintMore Go.Proofs.Ytbfmbjkalldonaa.Base Go.Proofs.Ytbfmbjkalldonaa.Var Go.Proofs.Ytbfmbjkalldonaa.Lst
attribute [local go_sem] max2_int min2_int max_two min_two max_three min_three max_four min_four
def encI : En Int := ⟨fun x => [.int .i64 x], 1, fun _ => rfl, fun x u hu => by simp at hu; subst hu; rfl, by decide⟩
theorem info3 : (Try.prog.info? 3).map (fun i => (i.zero, i.size, i.bytes)) = some (some (.int .i64 0), 1, 8) := by kernel_rfl
structure Rd (w0 w : World) (T gr : Nat) (b : List Int) (e : Int) : Prop where
  blk : ∃ A c, w.heap[gr]? = some (.cells #[.slice A b.length c, .int .i64 e] T (0, 0)) ∧ Kd.C (Kd.int .u8) w0 A b.length b ∧ b.length ≤ c
  ge : w0.heap.size ≤ gr
  bel : Below w0.heap.size w0 w
section
variable {w0 w w' : World} {T gr : Nat} {b : List Int} {e : Int}
theorem Rd.keep {F : Nat → Prop} (h : Rd w0 w T gr b e) (hb : Below w0.heap.size w0 w') (hk : Kept w w' F) (hF : ¬ F gr) : Rd w0 w' T gr b e := by
  obtain ⟨⟨A, c, h1, h2, h3⟩, h4, h5⟩ := h
  exact ⟨⟨A, c, blk_kept h1 hk hF, h2, h3⟩, h4, hb⟩
theorem Rd.far {g t : Nat} {cs : Array Value} (h : Rd w0 w T gr b e) (hg : w.heap[g]? = some (.cells cs t (0, 0))) (ht : T ≠ t) (hge : w0.heap.size ≤ g) (j : Nat) (u : Value) : Rd w0 (w.setCell ⟨g, j, none⟩ u) T gr b e := by
  obtain ⟨⟨A, c, h1, h2, h3⟩, h4, h5⟩ := h
  exact ⟨⟨A, c, blk_far (p := ⟨g, j, none⟩) h1 (blk_ne h1 hg ht) u, h2, h3⟩, h4, below_set h5 hge⟩
theorem kept_set {F : Nat → Prop} {g : Nat} (h : Kept w w' F) (hg : F g) (j : Nat) (u : Value) : Kept w (w'.setCell ⟨g, j, none⟩ u) F :=
  ⟨by simpa [World.setCell] using h.1, fun i hi hn => (Below.heap_setCell w' ⟨g, j, none⟩ u i (fun e' => hn (by rw [e']; exact hg))).trans (h.2 i hi hn)⟩
theorem kept_drewN {F : Nat → Prop} (n : Nat) : Kept w (World.drewN w n) F := ⟨Nat.le_refl _, fun _ _ _ => rfl⟩
end
set_option maxHeartbeats 8000000 in
theorem num_c (w0 w : World) (gr : Nat) (b : List Int) (hbs : Bytes b) (hl : b.length ≤ 100000) (e most x : Int) (b' : List Int) (e' : Int) (hv : numV b e most = (x, b', e')) (h : Rd w0 w 50 gr b e) :
    Calls Try.prog 24 #[.pointer (some ⟨gr, 0, none⟩), .int .u64 most] w fun er w' => er = .returned (.int .u64 x) ∧ Rd w0 w' 50 gr b' e' ∧ Kept w w' (fun i => i = gr) := by
  have HR := Aside0.mk h
  obtain ⟨⟨A, c, hg, hC, hc⟩, hge, hbl⟩ := h
  have HGR := Aside0.mk hg; have HC := Aside0.mk hC; have HCC := Aside0.mk hc; have HGE := Aside0.mk hge; have HBL := Aside0.mk hbl
  have hu := Try.underlying50
  have k0 : w.cell? ⟨gr, 0, none⟩ = some (.slice A b.length c) := blk_cell hg 0
  have k1 : w.cell? ⟨gr, 1, none⟩ = some (.int .i64 e) := blk_cell hg 1
  have f0 := blk_frozen hg 0
  have f1 := blk_frozen hg 1
  unfold numV at hv
  by_cases h0 : e = 0
  rotate_left
  · rw [if_neg h0] at hv
    simp only [Prod.mk.injEq] at hv
    obtain ⟨rfl, rfl, rfl⟩ := hv
    have q1 : (e != 0) = true := by simpa using h0
    clear h0 hg hC hc hge hbl
    go_enter Try.func24, Try.ntmps24
    go_wp2_with fail
    go_ret
    exact ⟨rfl, HR.out, Kept.refl _ _⟩
  subst h0
  rw [if_pos rfl] at hv
  rcases hgt : gt 0 0 b with ⟨n, k, e1⟩
  rw [hgt] at hv
  dsimp only at hv
  obtain ⟨K, hK⟩ := get_ev b (by omega) hbs
  have hf := hK K (Nat.le_refl K)
  rw [hgt] at hf
  have HG := Aside0.mk (varint_Get.calls K A c b n k e1 w (Kd.C_below hC hbl) hc hf)
  by_cases h1 : e1 = 0
  rotate_left
  · rw [if_neg h1] at hv
    simp only [Prod.mk.injEq] at hv
    obtain ⟨rfl, rfl, rfl⟩ := hv
    have q1 : (e1 != 0) = true := by simpa using h1
    clear h1 hg hC hc hge hbl hgt hK hf
    go_enter Try.func24, Try.ntmps24
    go_wp2_with (first | (go_at_call 46; (with_reducible refine HG.out.mono ?_); rintro e9 w9 ⟨rfl, hdr⟩; obtain ⟨nd, rfl⟩ := hdr; have j0 : (World.drewN w nd).cell? ⟨gr, 0, none⟩ = some (.slice A b.length c) := k0; have j1 : (World.drewN w nd).cell? ⟨gr, 1, none⟩ = some (.int .i64 0) := k1; have z0 : (World.drewN w nd).frozen? ⟨gr, 0, none⟩ = false := f0; have z1 : (World.drewN w nd).frozen? ⟨gr, 1, none⟩ = false := f1))
    go_ret
    exact ⟨rfl, ⟨⟨A, c, blk_set (blk_drewN HGR.out nd) 1 _, HC.out, HCC.out⟩, HGE.out, below_set (pw_below_drewN HBL.out nd) HGE.out⟩, kept_set (F := fun i => i = gr) (kept_drewN nd) rfl 1 _⟩
  subst h1
  rw [if_pos rfl] at hv
  obtain ⟨g1, g2, g3, g4⟩ := gt_bd hbs hgt rfl
  by_cases h2 : n > most
  · rw [if_pos h2] at hv
    simp only [Prod.mk.injEq] at hv
    obtain ⟨rfl, rfl, rfl⟩ := hv
    have q1 : decide (most < n) = true := decide_eq_true h2
    clear h2 hg hC hc hge hbl hgt hK hf g1 g2 g3 g4
    go_enter Try.func24, Try.ntmps24
    go_wp2_with (first | (go_at_call 46; (with_reducible refine HG.out.mono ?_); rintro e9 w9 ⟨rfl, hdr⟩; obtain ⟨nd, rfl⟩ := hdr; have j0 : (World.drewN w nd).cell? ⟨gr, 0, none⟩ = some (.slice A b.length c) := k0; have j1 : (World.drewN w nd).cell? ⟨gr, 1, none⟩ = some (.int .i64 0) := k1; have z0 : (World.drewN w nd).frozen? ⟨gr, 0, none⟩ = false := f0; have z1 : (World.drewN w nd).frozen? ⟨gr, 1, none⟩ = false := f1))
    go_ret
    exact ⟨rfl, ⟨⟨A, c, blk_set (blk_drewN HGR.out nd) 1 _, HC.out, HCC.out⟩, HGE.out, below_set (pw_below_drewN HBL.out nd) HGE.out⟩, kept_set (F := fun i => i = gr) (kept_drewN nd) rfl 1 _⟩
  rw [if_neg h2] at hv
  obtain ⟨q, rfl⟩ : ∃ q : Nat, k = q := ⟨k.toNat, by omega⟩
  rw [Int.toNat_natCast] at hv
  simp only [Prod.mk.injEq] at hv
  obtain ⟨rfl, rfl, rfl⟩ := hv
  have q1 : decide (most < n) = false := decide_eq_false h2
  have hq : q ≤ b.length := by omega
  have hd := Kd.C_drop (k := Kd.int .u8) hC hq hc
  obtain ⟨A1, hA1⟩ : ∃ A1 : Option Addr, (if c = q then A else A.map (·.add (q * (Kd.int .u8).sz))) = A1 := ⟨_, rfl⟩
  rw [hA1] at hd
  have hA2 : (if c = q then A else Option.map (fun x => x.add q) A) = A1 := by rw [← hA1, show (Kd.int .u8).sz = 1 from rfl, Nat.mul_one]
  have hs1 : (0 : Int) ≤ (q : Int) := by omega
  have hs2 : (q : Int) ≤ (b.length : Int) := by omega
  have HD := Aside0.mk hd
  have HQ := Aside0.mk hq
  clear h2 hg hC hc hge hbl hgt hK hf g1 g2 g3 g4 hd hA1 hq
  go_enter Try.func24, Try.ntmps24
  go_wp2_with (first | (go_at_call 46; (with_reducible refine HG.out.mono ?_); rintro e9 w9 ⟨rfl, hdr⟩; obtain ⟨nd, rfl⟩ := hdr; have j0 : (World.drewN w nd).cell? ⟨gr, 0, none⟩ = some (.slice A b.length c) := k0; have j1 : (World.drewN w nd).cell? ⟨gr, 1, none⟩ = some (.int .i64 0) := k1; have z0 : (World.drewN w nd).frozen? ⟨gr, 0, none⟩ = false := f0; have z1 : (World.drewN w nd).frozen? ⟨gr, 1, none⟩ = false := f1))
  go_ret
  have hln : (b.drop q).length = b.length - q := List.length_drop
  refine ⟨rfl, ⟨⟨A1, c - q, ?_, HD.out, by have := HCC.out; omega⟩, HGE.out, below_set (pw_below_drewN HBL.out nd) HGE.out⟩, kept_set (F := fun i => i = gr) (kept_drewN nd) rfl 0 _⟩
  rw [hln]
  exact blk_set (blk_drewN HGR.out nd) 0 _
def offV (c : Int) : Nat := if c = 115 then 1 else if c = 101 then 2 else if c = 97 then 3 else if c = 105 then 4 else if c = 110 then 5 else 6
theorem place_c (w : World) (g : Nat) (c : Int) (hc : c = 115 ∨ c = 101 ∨ c = 97 ∨ c = 105 ∨ c = 110 ∨ c = 99) :
    Calls Try.prog 27 #[.pointer (some ⟨g, 0, none⟩), .int .u8 c] w fun er w' => er = .returned (.pointer (some ⟨g, offV c, none⟩)) ∧ w = w' := by
  have hu := Try.underlying29
  rcases hc with rfl | rfl | rfl | rfl | rfl | rfl <;>
  · go_enter Try.func27, Try.ntmps27
    go_wp2_with fail
    go_ret
    first | exact ⟨rfl, rfl⟩ | rfl
theorem lsK {α : Type} {d : En α} {e0 : TypeId} {W W' : World} {F : Nat → Prop} {l : List α} {u : Value} {b0 : Nat} (h : Ls d e0 W b0 u l) (hk : Kept W W' F) (hn : ∀ k, u.ownBlock = some k → ¬ F k) : Ls d e0 W' b0 u l := own_move h (fun k hk' => hk.2 k (h.own k hk').2.1 (hn k hk'))
/-- by types -/
theorem lsK1 {W W' : World} {l : List Int} {u : Value} {b0 g t : Nat} {cs : Array Value} (h : Ls encI 3 W b0 u l) (hk : Kept W W' (fun i => i = g)) (hg : W.heap[g]? = some (.cells cs t (0, 0))) (ht : 3 ≠ t) : Ls encI 3 W' b0 u l := lsK h hk fun k hk' e' => h.ne hg ht (by rw [hk', e'])
abbrev mcells (m : Ms) (vP vL : Value) : Array Value := #[.int .i64 m.k, .int .u64 m.s, .int .u64 m.se, .int .u64 m.a, .int .u64 m.i, .int .u64 m.n, .int .u64 m.c, .int .i64 m.why, .int .u64 m.seed, vP, .int .i64 m.most, vL]
structure MI (w0 w : World) (T gm : Nat) (m : Ms) (vP vL : Value) : Prop where
  blk : w.heap[gm]? = some (.cells (mcells m vP vL) T (0, 0))
  ge : w0.heap.size ≤ gm
  P : Ls encI 3 w w0.heap.size vP m.P
  L : Ls encI 3 w w0.heap.size vL m.L
section
variable {w0 w w' : World} {T gm : Nat} {m m' : Ms} {vP vL vP' vL' : Value}
theorem MI.kept {g t : Nat} {cs : Array Value} (h : MI w0 w T gm m vP vL) (hk : Kept w w' (fun i => i = g)) (hg : w.heap[g]? = some (.cells cs t (0, 0))) (h1 : T ≠ t) (h2 : 3 ≠ t) : MI w0 w' T gm m vP vL :=
  ⟨blk_kept h.blk hk (blk_ne h.blk hg h1), h.ge, lsK1 h.P hk hg h2, lsK1 h.L hk hg h2⟩
theorem MI.put (h : MI w0 w T gm m vP vL) (hT : 3 ≠ T) (i : Nat) (u : Value) (he : (mcells m vP vL).setIfInBounds i u = mcells m' vP' vL') (hP : Ls encI 3 w w0.heap.size vP' m'.P) (hL : Ls encI 3 w w0.heap.size vL' m'.L) : MI w0 (w.setCell ⟨gm, i, none⟩ u) T gm m' vP' vL' :=
  ⟨blk_put h.blk i u he, h.ge, hP.far (p := ⟨gm, i, none⟩) (hP.ne h.blk hT) u, hL.far (p := ⟨gm, i, none⟩) (hL.ne h.blk hT) u⟩
theorem MI.puts (h : MI w0 w T gm m vP vL) (hT : 3 ≠ T) (i : Nat) (u : Value) (he : (mcells m vP vL).setIfInBounds i u = mcells m' vP vL) (e1 : m'.P = m.P) (e2 : m'.L = m.L) : MI w0 (w.setCell ⟨gm, i, none⟩ u) T gm m' vP vL :=
  h.put hT i u he (by rw [e1]; exact h.P) (by rw [e2]; exact h.L)
theorem Rd.row {w0 w : World} {T gr : Nat} {b : List Int} {e : Int} (h : Rd w0 w T gr b e) : ∃ A c, w.heap[gr]? = some (.cells #[.slice A b.length c, .int .i64 e] T (0, 0)) := by
  obtain ⟨⟨A, c, h1, _⟩, _⟩ := h
  exact ⟨A, c, h1⟩
theorem kept_then {F G : Nat → Prop} {w w1 w2 : World} (h : Kept w w1 F) (k : Kept w1 w2 G) (hs : ∀ i, G i → F i) : Kept w w2 F := h.then_ k fun i hi => .inl (hs i hi)
end
set_option maxHeartbeats 8000000 in
set_option maxRecDepth 100000 in
set_option maxRecDepth 100000 in
theorem list_c (w0 w : World) (gr : Nat) (b : List Int) (hbs : Bytes b) (hl : b.length ≤ 100000) (e : Int) (xs : List Int) (b' : List Int) (e' : Int) (hv : listV b e = (xs, b', e')) (h : Rd w0 w 50 gr b e) :
    Calls Try.prog 47 #[.pointer (some ⟨gr, 0, none⟩)] w fun er w' => ∃ v, er = .returned v ∧ Ls encI 3 w' w.heap.size v xs ∧ Rd w0 w' 50 gr b' e' ∧ Kept w w' (fun i => i = gr) := by
  have hu := Try.underlying50
  rcases hn : numV b e 256 with ⟨n, b1, e1⟩
  have hbd := num_bd hbs e 256 (by decide)
  unfold listV at hv
  rw [hn] at hv hbd
  dsimp only at hv hbd
  obtain ⟨n0, n1, hb1, hl1⟩ := hbd
  obtain ⟨q0, rfl⟩ : ∃ q0 : Nat, n = q0 := ⟨n.toNat, by omega⟩
  rw [Int.toNat_natCast] at hv
  have HN := Aside0.mk (num_c w0 w gr b hbs hl e 256 q0 b1 e1 hn h)
  have HV := Aside0.mk hv
  have HB1 := Aside0.mk (show Bytes b1 ∧ b1.length ≤ 100000 ∧ q0 ≤ 256 from ⟨hb1, by omega, by omega⟩)
  have HGE := Aside0.mk h.ge
  have HWS := Aside0.mk h.bel.size
  clear hv hn h n0 n1 hb1 hl1 hbs hl
  go_enter Try.func47, Try.ntmps47
  go_wp2_with (first | (go_at_call 24; (with_reducible refine HN.out.mono ?_); rintro er w8 ⟨rfl, hr, hk⟩; have HR8 := Aside0.mk hr; have HK8 := Aside0.mk hk; clear hr hk))
  clear HN
  go_loopw [3, 4] (fun v3 v4 wr => ∃ (q : Nat) (b2 : List Int) (e2 : Int) (ys : List Int), v4 = .int .u64 (q : Int) ∧ Aside0 (ys.length + q ≤ 256 ∧ Bytes b2 ∧ b2.length ≤ 100000) ∧ Aside0 (ys ++ (numsV q b2 e2).1 = xs ∧ (numsV q b2 e2).2 = (b', e')) ∧ Aside0 (Ls encI 3 wr w.heap.size v3 ys) ∧ Aside0 (Rd w0 wr 50 gr b2 e2) ∧ Aside0 (Kept w wr (fun i => i = gr))) (fun _ v4 _ => (intOf v4).toNat)
  case atStart => exact ⟨q0, b1, e1, [], rfl, ⟨by have := HB1.out; exact ⟨by simpa using this.2.2, this.1, this.2.1⟩⟩, ⟨by rw [HV.out]; exact ⟨rfl, rfl⟩⟩, ⟨Ls.nil _ _ _ _⟩, HR8, HK8⟩
  case round =>
    obtain ⟨q, b2, e2, ys, rfl, HI, HAV, HLS, HR, HK⟩ := hrel
    obtain ⟨A, c, hg⟩ := HR.out.row
    have k1 : wr.cell? ⟨gr, 1, none⟩ = some (.int .i64 e2) := blk_cell hg 1
    have HGR := Aside0.mk hg
    clear hg
    by_cases hq : q = 0
    · subst hq
      have hav := HAV.out
      rw [show numsV 0 b2 e2 = ([], b2, e2) from rfl, List.append_nil] at hav
      dsimp only at hav
      obtain ⟨rfl, hav⟩ := hav
      obtain ⟨rfl, rfl⟩ := Prod.mk.inj hav
      have d1 : decide ((0 : Int) < ((0 : Nat) : Int)) = false := by decide
      go_wp2_with fail
      go_ret
      exact ⟨_, rfl, HLS.out, HR.out, HK.out⟩
    obtain ⟨p, rfl⟩ : ∃ p, q = p + 1 := ⟨q - 1, by omega⟩
    have d1 : decide ((0 : Int) < ((p + 1 : Nat) : Int)) = true := decide_eq_true (by omega)
    have d2 : IntKind.u64.wrap (p : Int) = (p : Int) := wu64 (by omega) (by have := HI.out.1; omega)
    by_cases he : e2 = 0
    rotate_left
    · have hav := HAV.out
      unfold numsV at hav
      rw [if_neg he, List.append_nil] at hav
      dsimp only at hav
      obtain ⟨rfl, hav⟩ := hav
      obtain ⟨rfl, rfl⟩ := Prod.mk.inj hav
      have f1 : (e2 == 0) = false := by simpa using he
      clear hav he
      go_wp2_with fail
      go_ret
      exact ⟨_, rfl, HLS.out, HR.out, HK.out⟩
    subst he
    rcases hn : numV b2 0 63 with ⟨x, b3, e3⟩
    have hbd := num_bd HI.out.2.1 0 63 (by decide)
    have hav := HAV.out
    unfold numsV at hav
    rw [if_pos rfl, hn] at hav
    rw [hn] at hbd
    dsimp only at hav hbd
    obtain ⟨n0, n1, hb3, hl3⟩ := hbd
    have HN := Aside0.mk (num_c w0 wr gr b2 HI.out.2.1 HI.out.2.2 0 63 x b3 e3 hn HR.out)
    have HAV2 := Aside0.mk hav
    have HB3 := Aside0.mk (show Bytes b3 ∧ b3.length ≤ 100000 from ⟨hb3, Nat.le_trans hl3 HI.out.2.2⟩)
    have ex : wrap64 x = x := w64 (by omega) (by omega)
    clear hav hn n0 n1 hb3 hl3 HAV
    go_wp2_with (first | (go_at_call 24; (with_reducible refine HN.out.mono ?_); rintro er w9 ⟨rfl, hr, hk⟩; have HR9 := Aside0.mk hr; have HL9 := Aside0.mk (lsK1 HLS.out hk HGR.out (by decide)); have HK9 := Aside0.mk (kept_then HK.out hk (fun i hi => hi)); clear hr hk) | (at_builtin; refine wpList_push (d := encI) rfl _ _ 25 3 _ 8 rfl Try.underlying25 info3 rfl w.heap.size u3 ys x rfl _ rfl (by simp) HL9.out (Nat.le_trans HK9.out.1 (Nat.le_refl _)) (by have := HI.out.1; omega) (by decide) _ rfl ?_; intro v7 w7 h1 h2 h3; have HL2 := Aside0.mk h1; have HG2 := Aside0.mk h2; clear h1 h2 h3) | go_in)
    go_roundw
    case rel =>
      have hne : some gr ≠ u3.ownBlock := by
        obtain ⟨A9, c9, hg9⟩ := HR9.out.row
        exact HL9.out.ne hg9 (by decide)
      have hge := HGE.out
      refine ⟨p, b3, e3, ys ++ [x], by go_num, ⟨by rw [List.length_append, List.length_singleton]; have := HI.out.1; exact ⟨by omega, HB3.out⟩⟩, ⟨by rw [List.append_assoc]; exact HAV2.out⟩, HL2, ⟨?_⟩, ⟨?_⟩⟩
      · have hb9 := HR9.out.bel
        refine HR9.out.keep (F := fun i => some i = u3.ownBlock) (pw_below_grown hb9 _ hb9.size HG2.out (fun k hk => Nat.le_trans HWS.out (HL9.out.own k hk).1)) ⟨HG2.out.size, fun i hi hn => HG2.out.block i hi hn⟩ hne
      · refine HK9.out.then_ ⟨HG2.out.size, fun i hi hn => HG2.out.block i hi hn⟩ (S2 := fun i => some i = u3.ownBlock) (fun i hi => .inr (HL9.out.own i hi.symm).1)
    case measure => first | (simp [intOf]; done) | (simp [intOf]; omega)
set_option maxHeartbeats 8000000 in
set_option maxRecDepth 100000 in
theorem field_115 (w0 w : World) (gr gm : Nat) (b : List Int) (hbs : Bytes b) (hl : b.length ≤ 100000) (e : Int) (m : Ms) (vP vL : Value) (h : Rd w0 w 50 gr b e) (hm : MI w0 w 29 gm m vP vL) (x : Int) (b' : List Int) (e' : Int) (hv : numV b e top = (x, b', e')) :
    Calls Try.prog 26 #[.pointer (some ⟨gr, 0, none⟩), .pointer (some ⟨gm, 0, none⟩), .int .u8 115] w fun er w' => er = .returned (.tuple #[]) ∧ Rd w0 w' 50 gr b' e' ∧ MI w0 w' 29 gm { m with s := x } vP vL ∧ Kept w w' (fun i => i = gr ∨ i = gm) := by
  have hu := Try.underlying29
  have HN := Aside0.mk (num_c w0 w gr b hbs hl e top x b' e' hv h)
  have HP := Aside0.mk (show Calls Try.prog 27 #[.pointer (some ⟨gm, 0, none⟩), .int .u8 115] w fun er w' => er = .returned (.pointer (some ⟨gm, 1, none⟩)) ∧ w = w' from place_c w gm 115 (.inl rfl))
  have HM := Aside0.mk hm
  obtain ⟨A, c, hg⟩ := h.row
  have HRW := Aside0.mk hg
  clear h hm hg hv hbs hl
  go_enter Try.func26, Try.ntmps26
  go_wp2_with (first | (go_at_call 27; (with_reducible refine HP.out.mono ?_); rintro er w7 ⟨rfl, rfl⟩) | (go_at_call 24; (with_reducible refine HN.out.mono ?_); rintro er w8 ⟨rfl, hr, hk⟩; have HR8 := Aside0.mk hr; have hm9 := HM.out.kept hk HRW.out (by decide) (by decide); have HM8 := Aside0.mk hm9; have HK8 := Aside0.mk hk; have cz8 := blk_frozen hm9.blk 1; obtain ⟨uc8, cc8⟩ : ∃ u, w8.cell? ⟨gm, 1, none⟩ = some u := ⟨_, blk_cell hm9.blk 1⟩; clear hr hk hm9))
  go_end0
  exact ⟨rfl, HR8.out.far HM8.out.blk (by decide) HM8.out.ge 1 _, HM8.out.puts (by decide) 1 _ rfl rfl rfl, kept_set (HK8.out.mono (fun i hi => .inl hi)) (.inr rfl) 1 _⟩
set_option maxHeartbeats 8000000 in
set_option maxRecDepth 100000 in
theorem field_101 (w0 w : World) (gr gm : Nat) (b : List Int) (hbs : Bytes b) (hl : b.length ≤ 100000) (e : Int) (m : Ms) (vP vL : Value) (h : Rd w0 w 50 gr b e) (hm : MI w0 w 29 gm m vP vL) (x : Int) (b' : List Int) (e' : Int) (hv : numV b e top = (x, b', e')) :
    Calls Try.prog 26 #[.pointer (some ⟨gr, 0, none⟩), .pointer (some ⟨gm, 0, none⟩), .int .u8 101] w fun er w' => er = .returned (.tuple #[]) ∧ Rd w0 w' 50 gr b' e' ∧ MI w0 w' 29 gm { m with se := x } vP vL ∧ Kept w w' (fun i => i = gr ∨ i = gm) := by
  have hu := Try.underlying29
  have HN := Aside0.mk (num_c w0 w gr b hbs hl e top x b' e' hv h)
  have HP := Aside0.mk (show Calls Try.prog 27 #[.pointer (some ⟨gm, 0, none⟩), .int .u8 101] w fun er w' => er = .returned (.pointer (some ⟨gm, 2, none⟩)) ∧ w = w' from place_c w gm 101 (.inr (.inl rfl)))
  have HM := Aside0.mk hm
  obtain ⟨A, c, hg⟩ := h.row
  have HRW := Aside0.mk hg
  clear h hm hg hv hbs hl
  go_enter Try.func26, Try.ntmps26
  go_wp2_with (first | (go_at_call 27; (with_reducible refine HP.out.mono ?_); rintro er w7 ⟨rfl, rfl⟩) | (go_at_call 24; (with_reducible refine HN.out.mono ?_); rintro er w8 ⟨rfl, hr, hk⟩; have HR8 := Aside0.mk hr; have hm9 := HM.out.kept hk HRW.out (by decide) (by decide); have HM8 := Aside0.mk hm9; have HK8 := Aside0.mk hk; have cz8 := blk_frozen hm9.blk 2; obtain ⟨uc8, cc8⟩ : ∃ u, w8.cell? ⟨gm, 2, none⟩ = some u := ⟨_, blk_cell hm9.blk 2⟩; clear hr hk hm9))
  go_end0
  exact ⟨rfl, HR8.out.far HM8.out.blk (by decide) HM8.out.ge 2 _, HM8.out.puts (by decide) 2 _ rfl rfl rfl, kept_set (HK8.out.mono (fun i hi => .inl hi)) (.inr rfl) 2 _⟩
set_option maxHeartbeats 8000000 in
set_option maxRecDepth 100000 in
theorem field_97 (w0 w : World) (gr gm : Nat) (b : List Int) (hbs : Bytes b) (hl : b.length ≤ 100000) (e : Int) (m : Ms) (vP vL : Value) (h : Rd w0 w 50 gr b e) (hm : MI w0 w 29 gm m vP vL) (x : Int) (b' : List Int) (e' : Int) (hv : numV b e top = (x, b', e')) :
    Calls Try.prog 26 #[.pointer (some ⟨gr, 0, none⟩), .pointer (some ⟨gm, 0, none⟩), .int .u8 97] w fun er w' => er = .returned (.tuple #[]) ∧ Rd w0 w' 50 gr b' e' ∧ MI w0 w' 29 gm { m with a := x } vP vL ∧ Kept w w' (fun i => i = gr ∨ i = gm) := by
  have hu := Try.underlying29
  have HN := Aside0.mk (num_c w0 w gr b hbs hl e top x b' e' hv h)
  have HP := Aside0.mk (show Calls Try.prog 27 #[.pointer (some ⟨gm, 0, none⟩), .int .u8 97] w fun er w' => er = .returned (.pointer (some ⟨gm, 3, none⟩)) ∧ w = w' from place_c w gm 97 (.inr (.inr (.inl rfl))))
  have HM := Aside0.mk hm
  obtain ⟨A, c, hg⟩ := h.row
  have HRW := Aside0.mk hg
  clear h hm hg hv hbs hl
  go_enter Try.func26, Try.ntmps26
  go_wp2_with (first | (go_at_call 27; (with_reducible refine HP.out.mono ?_); rintro er w7 ⟨rfl, rfl⟩) | (go_at_call 24; (with_reducible refine HN.out.mono ?_); rintro er w8 ⟨rfl, hr, hk⟩; have HR8 := Aside0.mk hr; have hm9 := HM.out.kept hk HRW.out (by decide) (by decide); have HM8 := Aside0.mk hm9; have HK8 := Aside0.mk hk; have cz8 := blk_frozen hm9.blk 3; obtain ⟨uc8, cc8⟩ : ∃ u, w8.cell? ⟨gm, 3, none⟩ = some u := ⟨_, blk_cell hm9.blk 3⟩; clear hr hk hm9))
  go_end0
  exact ⟨rfl, HR8.out.far HM8.out.blk (by decide) HM8.out.ge 3 _, HM8.out.puts (by decide) 3 _ rfl rfl rfl, kept_set (HK8.out.mono (fun i hi => .inl hi)) (.inr rfl) 3 _⟩
set_option maxHeartbeats 8000000 in
set_option maxRecDepth 100000 in
theorem field_105 (w0 w : World) (gr gm : Nat) (b : List Int) (hbs : Bytes b) (hl : b.length ≤ 100000) (e : Int) (m : Ms) (vP vL : Value) (h : Rd w0 w 50 gr b e) (hm : MI w0 w 29 gm m vP vL) (x : Int) (b' : List Int) (e' : Int) (hv : numV b e top = (x, b', e')) :
    Calls Try.prog 26 #[.pointer (some ⟨gr, 0, none⟩), .pointer (some ⟨gm, 0, none⟩), .int .u8 105] w fun er w' => er = .returned (.tuple #[]) ∧ Rd w0 w' 50 gr b' e' ∧ MI w0 w' 29 gm { m with i := x } vP vL ∧ Kept w w' (fun i => i = gr ∨ i = gm) := by
  have hu := Try.underlying29
  have HN := Aside0.mk (num_c w0 w gr b hbs hl e top x b' e' hv h)
  have HP := Aside0.mk (show Calls Try.prog 27 #[.pointer (some ⟨gm, 0, none⟩), .int .u8 105] w fun er w' => er = .returned (.pointer (some ⟨gm, 4, none⟩)) ∧ w = w' from place_c w gm 105 (.inr (.inr (.inr (.inl rfl)))))
  have HM := Aside0.mk hm
  obtain ⟨A, c, hg⟩ := h.row
  have HRW := Aside0.mk hg
  clear h hm hg hv hbs hl
  go_enter Try.func26, Try.ntmps26
  go_wp2_with (first | (go_at_call 27; (with_reducible refine HP.out.mono ?_); rintro er w7 ⟨rfl, rfl⟩) | (go_at_call 24; (with_reducible refine HN.out.mono ?_); rintro er w8 ⟨rfl, hr, hk⟩; have HR8 := Aside0.mk hr; have hm9 := HM.out.kept hk HRW.out (by decide) (by decide); have HM8 := Aside0.mk hm9; have HK8 := Aside0.mk hk; have cz8 := blk_frozen hm9.blk 4; obtain ⟨uc8, cc8⟩ : ∃ u, w8.cell? ⟨gm, 4, none⟩ = some u := ⟨_, blk_cell hm9.blk 4⟩; clear hr hk hm9))
  go_end0
  exact ⟨rfl, HR8.out.far HM8.out.blk (by decide) HM8.out.ge 4 _, HM8.out.puts (by decide) 4 _ rfl rfl rfl, kept_set (HK8.out.mono (fun i hi => .inl hi)) (.inr rfl) 4 _⟩
set_option maxHeartbeats 8000000 in
set_option maxRecDepth 100000 in
theorem field_110 (w0 w : World) (gr gm : Nat) (b : List Int) (hbs : Bytes b) (hl : b.length ≤ 100000) (e : Int) (m : Ms) (vP vL : Value) (h : Rd w0 w 50 gr b e) (hm : MI w0 w 29 gm m vP vL) (x : Int) (b' : List Int) (e' : Int) (hv : numV b e top = (x, b', e')) :
    Calls Try.prog 26 #[.pointer (some ⟨gr, 0, none⟩), .pointer (some ⟨gm, 0, none⟩), .int .u8 110] w fun er w' => er = .returned (.tuple #[]) ∧ Rd w0 w' 50 gr b' e' ∧ MI w0 w' 29 gm { m with n := x } vP vL ∧ Kept w w' (fun i => i = gr ∨ i = gm) := by
  have hu := Try.underlying29
  have HN := Aside0.mk (num_c w0 w gr b hbs hl e top x b' e' hv h)
  have HP := Aside0.mk (show Calls Try.prog 27 #[.pointer (some ⟨gm, 0, none⟩), .int .u8 110] w fun er w' => er = .returned (.pointer (some ⟨gm, 5, none⟩)) ∧ w = w' from place_c w gm 110 (.inr (.inr (.inr (.inr (.inl rfl))))))
  have HM := Aside0.mk hm
  obtain ⟨A, c, hg⟩ := h.row
  have HRW := Aside0.mk hg
  clear h hm hg hv hbs hl
  go_enter Try.func26, Try.ntmps26
  go_wp2_with (first | (go_at_call 27; (with_reducible refine HP.out.mono ?_); rintro er w7 ⟨rfl, rfl⟩) | (go_at_call 24; (with_reducible refine HN.out.mono ?_); rintro er w8 ⟨rfl, hr, hk⟩; have HR8 := Aside0.mk hr; have hm9 := HM.out.kept hk HRW.out (by decide) (by decide); have HM8 := Aside0.mk hm9; have HK8 := Aside0.mk hk; have cz8 := blk_frozen hm9.blk 5; obtain ⟨uc8, cc8⟩ : ∃ u, w8.cell? ⟨gm, 5, none⟩ = some u := ⟨_, blk_cell hm9.blk 5⟩; clear hr hk hm9))
  go_end0
  exact ⟨rfl, HR8.out.far HM8.out.blk (by decide) HM8.out.ge 5 _, HM8.out.puts (by decide) 5 _ rfl rfl rfl, kept_set (HK8.out.mono (fun i hi => .inl hi)) (.inr rfl) 5 _⟩
set_option maxHeartbeats 8000000 in
set_option maxRecDepth 100000 in
theorem field_99 (w0 w : World) (gr gm : Nat) (b : List Int) (hbs : Bytes b) (hl : b.length ≤ 100000) (e : Int) (m : Ms) (vP vL : Value) (h : Rd w0 w 50 gr b e) (hm : MI w0 w 29 gm m vP vL) (x : Int) (b' : List Int) (e' : Int) (hv : numV b e top = (x, b', e')) :
    Calls Try.prog 26 #[.pointer (some ⟨gr, 0, none⟩), .pointer (some ⟨gm, 0, none⟩), .int .u8 99] w fun er w' => er = .returned (.tuple #[]) ∧ Rd w0 w' 50 gr b' e' ∧ MI w0 w' 29 gm { m with c := x } vP vL ∧ Kept w w' (fun i => i = gr ∨ i = gm) := by
  have hu := Try.underlying29
  have HN := Aside0.mk (num_c w0 w gr b hbs hl e top x b' e' hv h)
  have HP := Aside0.mk (show Calls Try.prog 27 #[.pointer (some ⟨gm, 0, none⟩), .int .u8 99] w fun er w' => er = .returned (.pointer (some ⟨gm, 6, none⟩)) ∧ w = w' from place_c w gm 99 (.inr (.inr (.inr (.inr (.inr rfl))))))
  have HM := Aside0.mk hm
  obtain ⟨A, c, hg⟩ := h.row
  have HRW := Aside0.mk hg
  clear h hm hg hv hbs hl
  go_enter Try.func26, Try.ntmps26
  go_wp2_with (first | (go_at_call 27; (with_reducible refine HP.out.mono ?_); rintro er w7 ⟨rfl, rfl⟩) | (go_at_call 24; (with_reducible refine HN.out.mono ?_); rintro er w8 ⟨rfl, hr, hk⟩; have HR8 := Aside0.mk hr; have hm9 := HM.out.kept hk HRW.out (by decide) (by decide); have HM8 := Aside0.mk hm9; have HK8 := Aside0.mk hk; have cz8 := blk_frozen hm9.blk 6; obtain ⟨uc8, cc8⟩ : ∃ u, w8.cell? ⟨gm, 6, none⟩ = some u := ⟨_, blk_cell hm9.blk 6⟩; clear hr hk hm9))
  go_end0
  exact ⟨rfl, HR8.out.far HM8.out.blk (by decide) HM8.out.ge 6 _, HM8.out.puts (by decide) 6 _ rfl rfl rfl, kept_set (HK8.out.mono (fun i hi => .inl hi)) (.inr rfl) 6 _⟩
set_option maxHeartbeats 8000000 in
set_option maxRecDepth 100000 in
theorem field_119 (w0 w : World) (gr gm : Nat) (b : List Int) (hbs : Bytes b) (hl : b.length ≤ 100000) (e : Int) (m : Ms) (vP vL : Value) (h : Rd w0 w 50 gr b e) (hm : MI w0 w 29 gm m vP vL) (x : Int) (b' : List Int) (e' : Int) (hv : numV b e 255 = (x, b', e')) :
    Calls Try.prog 26 #[.pointer (some ⟨gr, 0, none⟩), .pointer (some ⟨gm, 0, none⟩), .int .u8 119] w fun er w' => er = .returned (.tuple #[]) ∧ Rd w0 w' 50 gr b' e' ∧ MI w0 w' 29 gm { m with why := x } vP vL ∧ Kept w w' (fun i => i = gr ∨ i = gm) := by
  have hu := Try.underlying29
  have HN := Aside0.mk (num_c w0 w gr b hbs hl e 255 x b' e' hv h)
  have hbd := num_bd hbs e 255 (by decide)
  rw [hv] at hbd
  have ex : wrap64 x = x := w64 (by have := hbd.1; omega) (by have := hbd.2.1; dsimp only at this; omega)
  have HM := Aside0.mk hm
  obtain ⟨A, c, hg⟩ := h.row
  have HRW := Aside0.mk hg
  clear h hm hg hv hbs hl hbd
  go_enter Try.func26, Try.ntmps26
  go_wp2_with (first | (go_at_call 24; (with_reducible refine HN.out.mono ?_); rintro er w8 ⟨rfl, hr, hk⟩; have HR8 := Aside0.mk hr; have hm9 := HM.out.kept hk HRW.out (by decide) (by decide); have HM8 := Aside0.mk hm9; have HK8 := Aside0.mk hk; have cz8 := blk_frozen hm9.blk 7; obtain ⟨uc8, cc8⟩ : ∃ u, w8.cell? ⟨gm, 7, none⟩ = some u := ⟨_, blk_cell hm9.blk 7⟩; clear hr hk hm9))
  go_end0
  exact ⟨rfl, HR8.out.far HM8.out.blk (by decide) HM8.out.ge 7 _, HM8.out.puts (by decide) 7 _ rfl rfl rfl, kept_set (HK8.out.mono (fun i hi => .inl hi)) (.inr rfl) 7 _⟩
set_option maxHeartbeats 8000000 in
set_option maxRecDepth 100000 in
theorem field_108 (w0 w : World) (gr gm : Nat) (b : List Int) (hbs : Bytes b) (hl : b.length ≤ 100000) (e : Int) (m : Ms) (vP vL : Value) (h : Rd w0 w 50 gr b e) (hm : MI w0 w 29 gm m vP vL) (xs : List Int) (b' : List Int) (e' : Int) (hv : listV b e = (xs, b', e')) :
    Calls Try.prog 26 #[.pointer (some ⟨gr, 0, none⟩), .pointer (some ⟨gm, 0, none⟩), .int .u8 108] w fun er w' => ∃ v, er = .returned (.tuple #[]) ∧ Rd w0 w' 50 gr b' e' ∧ MI w0 w' 29 gm { m with L := xs } vP v ∧ Kept w w' (fun i => i = gr ∨ i = gm) := by
  have hu := Try.underlying29
  have HNL := Aside0.mk (list_c w0 w gr b hbs hl e xs b' e' hv h)
  have HM := Aside0.mk hm
  have HWS := Aside0.mk h.bel.size
  obtain ⟨A, c, hg⟩ := h.row
  have HRW := Aside0.mk hg
  clear h hm hg hv hbs hl
  go_enter Try.func26, Try.ntmps26
  go_wp2_with (first | (go_at_call 47; (with_reducible refine HNL.out.mono ?_); rintro er w6 ⟨v, rfl, hls, hr, hk⟩; obtain ⟨A6, c6, rfl, _, _⟩ := hls.form; have HR6 := Aside0.mk hr; have hm9 := HM.out.kept hk HRW.out (by decide) (by decide); have HM6 := Aside0.mk hm9; have HV6 := Aside0.mk hls; have HK6 := Aside0.mk hk; have cz6 := blk_frozen hm9.blk 11; obtain ⟨uc6, cc6⟩ : ∃ u, w6.cell? ⟨gm, 11, none⟩ = some u := ⟨_, blk_cell hm9.blk 11⟩; clear hr hk hm9 hls))
  go_end0
  exact ⟨_, rfl, HR6.out.far HM6.out.blk (by decide) HM6.out.ge 11 _, HM6.out.put (by decide) 11 _ rfl HM6.out.P (HV6.out.lower HWS.out), kept_set (HK6.out.mono (fun i hi => .inl hi)) (.inr rfl) 11 _⟩
set_option maxHeartbeats 8000000 in
set_option maxRecDepth 100000 in
theorem field_106 (w0 w : World) (gr gm : Nat) (b : List Int) (hbs : Bytes b) (hl : b.length ≤ 100000) (e : Int) (m : Ms) (vP vL : Value) (h : Rd w0 w 50 gr b e) (hm : MI w0 w 29 gm m vP vL) (x1 x2 : Int) (xs b1 b2 b' : List Int) (e1 e2 e' : Int) (hv1 : numV b e top = (x1, b1, e1)) (hv2 : numV b1 e1 256 = (x2, b2, e2)) (hv3 : listV b2 e2 = (xs, b', e')) :
    Calls Try.prog 26 #[.pointer (some ⟨gr, 0, none⟩), .pointer (some ⟨gm, 0, none⟩), .int .u8 106] w fun er w' => ∃ v, er = .returned (.tuple #[]) ∧ Rd w0 w' 50 gr b' e' ∧ MI w0 w' 29 gm { m with seed := x1, most := x2, P := xs } v vL ∧ Kept w w' (fun i => i = gr ∨ i = gm) := by
  have hu := Try.underlying29
  have hu27 := Try.underlying27
  have HN := Aside0.mk (num_c w0 w gr b hbs hl e top x1 b1 e1 hv1 h)
  have hd1 := num_bd hbs e top (by decide)
  rw [hv1] at hd1
  dsimp only at hd1
  have hd2 := num_bd hd1.2.2.1 e1 256 (by decide)
  rw [hv2] at hd2
  dsimp only at hd2
  have ex : wrap64 x2 = x2 := w64 (by have := hd2.1; omega) (by have := hd2.2.1; omega)
  have HD := Aside0.mk (show (Bytes b1 ∧ b1.length ≤ 100000) ∧ Bytes b2 ∧ b2.length ≤ 100000 from ⟨⟨hd1.2.2.1, Nat.le_trans hd1.2.2.2 hl⟩, hd2.2.2.1, Nat.le_trans hd2.2.2.2 (Nat.le_trans hd1.2.2.2 hl)⟩)
  have HM := Aside0.mk hm
  have HWS := Aside0.mk h.bel.size
  have HV2 := Aside0.mk hv2; have HV3 := Aside0.mk hv3
  obtain ⟨A, c, hg⟩ := h.row
  have HRW := Aside0.mk hg
  clear h hm hg hv1 hv2 hv3 hbs hl hd1 hd2
  go_enter Try.func26, Try.ntmps26
  go_upto_region 6 with (first | (go_at_call 24; (with_reducible refine HN.out.mono ?_); rintro er w8 ⟨rfl, hr, hk⟩; have HR8 := Aside0.mk hr; have hm9 := HM.out.kept hk HRW.out (by decide) (by decide); have HM8 := Aside0.mk hm9; have HK8 := Aside0.mk hk; have cz8 := blk_frozen hm9.blk 8; obtain ⟨uc8, cc8⟩ : ∃ u, w8.cell? ⟨gm, 8, none⟩ = some u := ⟨_, blk_cell hm9.blk 8⟩; clear hr hk hm9))
  obtain ⟨wa, hwa⟩ : ∃ wa, w8.setCell ⟨gm, 8, none⟩ (.int .u64 x1) = wa := ⟨_, rfl⟩
  have ra : Rd w0 wa 50 gr b1 e1 := by rw [← hwa]; exact HR8.out.far HM8.out.blk (by decide) HM8.out.ge 8 _
  have ma : MI w0 wa 29 gm { m with seed := x1 } vP vL := by rw [← hwa]; exact HM8.out.puts (by decide) 8 _ rfl rfl rfl
  have ka : Kept w wa (fun i => i = gr ∨ i = gm) := by rw [← hwa]; exact kept_set (HK8.out.mono (fun i hi => .inl hi)) (.inr rfl) 8 _
  have HNB := Aside0.mk (num_c w0 wa gr b1 HD.out.1.1 HD.out.1.2 e1 256 x2 b2 e2 HV2.out ra)
  have HMA := Aside0.mk ma; have HKA := Aside0.mk ka
  obtain ⟨A2, c2, hg2⟩ := ra.row
  have HRWA := Aside0.mk hg2
  rw [hwa]
  clear hwa ra ma ka hg2 cz8 cc8
  go_upto_region 7 with (first | (go_at_call 24; (with_reducible refine HNB.out.mono ?_); rintro er w5 ⟨rfl, hr, hk⟩; have HR5 := Aside0.mk hr; have hm9 := HMA.out.kept hk HRWA.out (by decide) (by decide); have HM5 := Aside0.mk hm9; have HK5 := Aside0.mk hk; have cz5 := blk_frozen hm9.blk 10; obtain ⟨uc5, cc5⟩ : ∃ u, w5.cell? ⟨gm, 10, none⟩ = some u := ⟨_, blk_cell hm9.blk 10⟩; clear hr hk hm9))
  obtain ⟨wb, hwb⟩ : ∃ wb, w5.setCell ⟨gm, 10, none⟩ (.int .i64 x2) = wb := ⟨_, rfl⟩
  have ra : Rd w0 wb 50 gr b2 e2 := by rw [← hwb]; exact HR5.out.far HM5.out.blk (by decide) HM5.out.ge 10 _
  have ma : MI w0 wb 29 gm { m with seed := x1, most := x2 } vP vL := by rw [← hwb]; exact HM5.out.puts (by decide) 10 _ rfl rfl rfl
  have ka : Kept w wb (fun i => i = gr ∨ i = gm) := by rw [← hwb]; exact kept_set (kept_then HKA.out HK5.out (fun i hi => .inl hi)) (.inr rfl) 10 _
  have HNL := Aside0.mk (list_c w0 wb gr b2 HD.out.2.1 HD.out.2.2 e2 xs b' e' HV3.out ra)
  have HWB := Aside0.mk ra.bel.size
  have HMB := Aside0.mk ma; have HKB := Aside0.mk ka
  obtain ⟨A3, c3, hg3⟩ := ra.row
  have HRWB := Aside0.mk hg3
  rw [hwb]
  clear hwb ra ma ka hg3 cz5 cc5
  go_wp2_with (first | (go_at_call 47; (with_reducible refine HNL.out.mono ?_); rintro er w6 ⟨v, rfl, hls, hr, hk⟩; obtain ⟨A6, c6, rfl, _, _⟩ := hls.form; have HR6 := Aside0.mk hr; have hm9 := HMB.out.kept hk HRWB.out (by decide) (by decide); have HM6 := Aside0.mk hm9; have HV6 := Aside0.mk hls; have HK6 := Aside0.mk hk; have cz6 := blk_frozen hm9.blk 9; obtain ⟨uc6, cc6⟩ : ∃ u, w6.cell? ⟨gm, 9, none⟩ = some u := ⟨_, blk_cell hm9.blk 9⟩; clear hr hk hm9 hls))
  go_end0
  exact ⟨_, rfl, HR6.out.far HM6.out.blk (by decide) HM6.out.ge 9 _, HM6.out.put (by decide) 9 _ rfl (HV6.out.lower HWB.out) HM6.out.L, kept_set (kept_then HKB.out HK6.out (fun i hi => .inl hi)) (.inr rfl) 9 _⟩
end Go.Proofs.Ytbfmbjkalldonaa.Msg
