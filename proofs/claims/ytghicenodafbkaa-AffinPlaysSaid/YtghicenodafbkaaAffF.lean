/- Forget of a table of bindings; no condition but those that stand in each. -/
import Derived.Test.YtghicenodafbkaaAffL
namespace Go.Proofs.Ytghicenodafbkaa.Aff
set_option linter.unusedVariables false
set_option linter.unusedSimpArgs false
open Go.RowKit Go.Proofs.Ytghicenodafbkaa.PA Go.Proofs.YtghicenodafbkaaW.PrintWords Go.Proofs.YtghicenodafbkaaW.PrintLast Go.Proofs.YtghicenodafbkaaW.PrintMore Go.Proofs.Ytghicenodafbkaa.Tab
attribute [local go_sem] max2_int min2_int max_two min_two max_three min_three max_four min_four
def forgetV (s : TS) (now r : Int) : Int × TS :=
  let t := laterV s now
  let l' := t.l.filter (fun q => !(q.x == r))
  ((t.l.length : Int) - (l'.length : Int), { t with l := l' })
theorem clof_c (bx : Nat) (k x y r : Int) (w : World) (hbx : w.cell? ⟨bx, 0, none⟩ = some (.int .u64 r)) :
    Calls Try.prog 27 (#[.int .u64 k, .agg #[.int .u64 x, .int .i64 y]] ++ #[.pointer (some ⟨bx, 0, none⟩)]) w fun e w' => e = .returned (.bool (x == r)) ∧ Below w.heap.size w w' := by
  have bel := below_alloc (Below.refl w.heap.size w) (.cells #[.int .u64 x, .int .i64 y] 56 (0, 0))
  have hbx1 := pw_cell_below bel hbx
  have hb : (w.alloc (.cells #[.int .u64 x, .int .i64 y] 56 (0, 0))).heap[w.heap.size]? = some (.cells #[.int .u64 x, .int .i64 y] 56 (0, 0)) := blk_new _ _
  have k0 := blk_cell hb 0
  have HB := Aside0.mk bel
  clear hbx hb bel
  have huT := Try.underlying56
  go_enter Try.func27, Try.ntmps27
  go_wp2_with fail
  go_ret
  exact ⟨rfl, HB.out⟩
theorem eg27 : ∀ args w, (callFunc 27 args).run Try.prog w = .ok (.enter 27 args) w := enters_of Try.func27 (by kernel_rfl) rfl
theorem delr_c (g b bx : Nat) (t : TS) (r : Int) (w0 w : World) (hT : IsT w0 w g b t) (hbx : w.cell? ⟨bx, 0, none⟩ = some (.int .u64 r)) :
    Calls Try.prog 26 #[.map (some b), .func (.func 27) #[] #[.pointer (some ⟨bx, 0, none⟩)]] w fun e w' => e = .returned (.tuple #[]) ∧ IsT w0 w' g b { t with l := t.l.filter (fun q => !(q.x == r)) } ∧ w.grownBy w' (some b) := by
  have hnb : some bx ≠ some b := by
    intro e
    injection e with e
    subst e
    obtain ⟨D, ⟨es, clock, h0, _⟩, _⟩ := hT.map
    simp [World.cell?, h0] at hbx
  refine (delf_c (fun k x y => x == r) b t.l 27 #[.pointer (some ⟨bx, 0, none⟩)] w hT.map eg27 fun W q hq hg => ?_).mono fun e w' ⟨h1, h2, h3⟩ => ⟨h1, hT.turn h2 h3, h3⟩
  exact clof_c bx q.key q.x q.y r W (hg.cell hbx (by simpa using hnb))
set_option maxHeartbeats 4000000 in
theorem forget_c (g b : Nat) (s : TS) (now r : Int) (w0 w : World) (hT : IsT w0 w g b s) (hB : Below w0.heap.size w0 w) (hO : Ok s) (n : Int) (t : TS) (hr : forgetV s now r = (n, t)) :
    Calls Try.prog 14 #[.pointer (some ⟨g, 0, none⟩), .int .i64 now, .int .u64 r] w fun e w' => e = .returned (.int .i64 n) ∧ Post w0 w g b t w' := by
  have bel := below_alloc (Below.refl w.heap.size w) (.cells #[.int .u64 r] 30 (0, 0))
  have hO1 := hO.later now
  have H0 := Aside0.mk (fun w' (h : IsT w0 w' g b s) => ok_c g b s w0 w' h)
  have H1 := Aside0.mk (fun w' (h : IsT w0 w' g b s) (h' : Below w0.heap.size w0 w') => later_c g b s now w0 w' h h' hO)
  unfold forgetV at hr
  dsimp only at hr
  obtain ⟨u, hu⟩ : ∃ u, laterV s now = u := ⟨_, rfl⟩
  rw [hu] at H1 hr hO1
  have HT := Aside0.mk (hT.below bel)
  have HB := Aside0.mk (below_step hB bel)
  have HK0 := Aside0.mk (KeepBut.of_below bel g (some b))
  have HBX := Aside0.mk (show (w.alloc (.cells #[.int .u64 r] 30 (0, 0))).heap[w.heap.size]? = some (.cells #[.int .u64 r] 30 (0, 0)) from blk_new _ _)
  have NX := Aside0.mk (show w.heap.size ≠ g ∧ some w.heap.size ≠ some b from ⟨Nat.ne_of_gt hT.lt, fun e => Nat.ne_of_gt hT.ltb (Option.some.inj e)⟩)
  obtain ⟨l', hl'⟩ : ∃ l', u.l.filter (fun q => !(q.x == r)) = l' := ⟨_, rfl⟩
  rw [hl'] at hr
  simp only [Prod.mk.injEq] at hr
  obtain ⟨hn, rfl⟩ := hr
  have HL' := Aside0.mk hl'
  have HQ := Aside0.mk (run_len b u.l); have HQ2 := Aside0.mk (run_len b l')
  have ll := hO1.len; have lr := hO1.room2
  have lf : l'.length ≤ u.l.length := by rw [← hl']; exact List.length_filter_le _ _
  obtain ⟨n1, hn1⟩ : ∃ z, u.l.length = z := ⟨_, rfl⟩
  obtain ⟨n2, hn2⟩ : ∃ z, l'.length = z := ⟨_, rfl⟩
  rw [hn1] at HQ hn ll lf
  rw [hn2] at HQ2 hn lf
  have e1 : IntKind.i64.wrap ((n1 : Int) - (n2 : Int)) = n := by rw [i64_w, hn]; exact Base.w64 (by omega) (by omega)
  clear hT hB hO hO1 hu bel hl' hn1 hn2 hn
  go_enter Try.func14, Try.ntmps14
  go_wp2_with (first | (go_at_call 18; (with_reducible refine (H0.out _ HT.out).mono ?_); rintro e w9 ⟨rfl, rfl⟩) | (go_at_call 19; (with_reducible refine (H1.out _ HT.out HB.out).mono ?_); rintro e w9 ⟨rfl, hp⟩; have HBY := Aside0.mk (blk_cell (hp.2.2.blk HBX.out NX.out.1 NX.out.2) 0); have HP := Aside0.mk hp; clear hp HBX; have h3 := HP.out.1.c3; have ql := HQ.out _ HP.out.1.map) | (go_at_call 26; (with_reducible refine (delr_c g b _ u r w0 _ HP.out.1 HBY.out).mono ?_); rintro e w9 ⟨rfl, h1, h2⟩; rw [HL'.out] at h1; have HM := Aside0.mk h1; have HG := Aside0.mk h2; clear h1 h2 h3 ql; have h3 := HM.out.c3; have ql := HQ2.out _ HM.out.map))
  go_ret
  exact ⟨rfl, HM.out, below_map HP.out.2.1 HP.out.1.geb HG.out, KeepBut.trans (KeepBut.trans HK0.out HP.out.2.2 (.inl rfl)) (keep_map HG.out) (.inl rfl)⟩
end Go.Proofs.Ytghicenodafbkaa.Aff
