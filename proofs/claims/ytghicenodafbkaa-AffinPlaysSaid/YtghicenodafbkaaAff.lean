/- A table of bindings: what lies, letting time go on; no condition but those that stand in each. -/
import Derived.Test.YtghicenodafbkaaTab
import Derived.Test.YtghicenodafbkaaPAx1
import Derived.Deep.QuietTactic
import Derived.BigQuiet
import Derived.RegionTactic
import Derived.Deep.RegionHeld3
import Derived.Deep.RegionLaw
namespace Go.Proofs.Ytghicenodafbkaa.Aff
set_option linter.unusedVariables false
set_option linter.unusedSimpArgs false
open Go.RowKit Go.Proofs.Ytghicenodafbkaa.PA Go.Proofs.YtghicenodafbkaaW.PrintWords Go.Proofs.YtghicenodafbkaaW.PrintLast Go.Proofs.YtghicenodafbkaaW.PrintMore Go.Proofs.Ytghicenodafbkaa.Tab
attribute [local go_sem] max2_int min2_int max_two min_two max_three min_three max_four min_four
structure TS where
  room : Int
  keep : Int
  now : Int
  l : List Bk
def tcells (s : TS) (b : Nat) : Array Value := #[.int .i64 s.room, .int .i64 s.keep, .int .i64 s.now, .map (some b)]
def IsT (w0 W : World) (g b : Nat) (s : TS) : Prop := W.heap[g]? = some (.cells (tcells s b) 51 (0, 0)) ∧ MapIs W b s.l ∧ w0.heap.size ≤ g ∧ w0.heap.size ≤ b
section
variable {w0 W W' : World} {g b : Nat} {s : TS}
def Tc (W : World) (g b : Nat) (s : TS) : Prop := W.heap[g]? = some (.cells (tcells s b) 51 (0, 0))
theorem Tc.c2 (h : Tc W g b s) : W.cell? ⟨g, 2, none⟩ = some (.int .i64 s.now) := blk_cell h 2
theorem Tc.c3 (h : Tc W g b s) : W.cell? ⟨g, 3, none⟩ = some (.map (some b)) := blk_cell h 3
theorem Tc.below (h : Tc W g b s) (hb : Below W.heap.size W W') : Tc W' g b s := blk_below h hb
theorem IsT.c0 (h : IsT w0 W g b s) : W.cell? ⟨g, 0, none⟩ = some (.int .i64 s.room) := blk_cell h.1 0
theorem IsT.c1 (h : IsT w0 W g b s) : W.cell? ⟨g, 1, none⟩ = some (.int .i64 s.keep) := blk_cell h.1 1
theorem IsT.c2 (h : IsT w0 W g b s) : W.cell? ⟨g, 2, none⟩ = some (.int .i64 s.now) := blk_cell h.1 2
theorem IsT.c3 (h : IsT w0 W g b s) : W.cell? ⟨g, 3, none⟩ = some (.map (some b)) := blk_cell h.1 3
theorem IsT.free (h : IsT w0 W g b s) (k : Nat) : W.frozen? ⟨g, k, none⟩ = false := blk_frozen h.1 k
theorem IsT.map (h : IsT w0 W g b s) : MapIs W b s.l := h.2.1
theorem IsT.ge (h : IsT w0 W g b s) : w0.heap.size ≤ g := h.2.2.1
theorem IsT.geb (h : IsT w0 W g b s) : w0.heap.size ≤ b := h.2.2.2
theorem IsT.ne (h : IsT w0 W g b s) : g ≠ b := h.2.1.ne h.1
theorem IsT.lt (h : IsT w0 W g b s) : g < W.heap.size := blk_lt h.1
theorem IsT.ltb (h : IsT w0 W g b s) : b < W.heap.size := h.2.1.lt
theorem IsT.below (h : IsT w0 W g b s) (hb : Below W.heap.size W W') : IsT w0 W' g b s := ⟨blk_below h.1 hb, h.2.1.below hb, h.2.2⟩
theorem IsT.drew (h : IsT w0 W g b s) (n : Nat) : IsT w0 (W.drewN n) g b s := h
theorem IsT.keep {g' : Nat} {row : Option Nat} (h : IsT w0 W g b s) (hk : KeepBut W W' g' row) (h1 : g ≠ g') (h2 : some g ≠ row) (h3 : b ≠ g') (h4 : some b ≠ row) : IsT w0 W' g b s :=
  ⟨hk.blk h.1 h1 h2, h.2.1.move (hk.2 b h.ltb h3 h4), h.2.2⟩
theorem IsT.perm {l' : List Bk} (h : IsT w0 W g b s) (hp : s.l.Perm l') : IsT w0 W g b { s with l := l' } := ⟨h.1, h.2.1.perm hp, h.2.2⟩
/-- the map is turned, nothing else -/
theorem IsT.turn {l' : List Bk} (h : IsT w0 W g b s) (hm : MapIs W' b l') (hg : W.grownBy W' (some b)) : IsT w0 W' g b { s with l := l' } :=
  ⟨blk_grown h.1 hg (by simp [h.ne]), hm, h.2.2⟩
theorem IsT.tick (h : IsT w0 W g b s) (n : Int) : IsT w0 (W.setCell ⟨g, 2, none⟩ (.int .i64 n)) g b { s with now := n } :=
  ⟨blk_set h.1 2 _, h.2.1.move (Below.heap_setCell W ⟨g, 2, none⟩ _ b h.ne.symm), h.2.2⟩
end
theorem keep_map {W W' : World} {g b : Nat} (hg : W.grownBy W' (some b)) : KeepBut W W' g (some b) := KeepBut.of_grown hg g
theorem below_map {w0 W W' : World} {b : Nat} (hB : Below w0.heap.size w0 W) (hb : w0.heap.size ≤ b) (hg : W.grownBy W' (some b)) : Below w0.heap.size w0 W' := pw_below_grown hB (some b) hB.size hg (fun k hk => by cases hk; exact hb)
/-! ### plain -/
def mx (a b : Int) : Int := if a < b then b else a
def laterT (s : TS) (now : Int) : TS := if now ≤ 1099511627776 then { s with now := mx s.now now } else s
def endB (s : TS) (q : Bk) : Bool := decide (q.y ≤ s.now)
def laterV (s : TS) (now : Int) : TS := let t := laterT s now; { t with l := t.l.filter (fun q => !endB t q) }
structure Ok (s : TS) : Prop where
  room1 : 1 ≤ s.room
  room2 : s.room ≤ 1024
  keep1 : 1 ≤ s.keep
  keep2 : s.keep ≤ 4294967296
  now1 : 0 ≤ s.now
  now2 : s.now ≤ 1099511627776
  reps : ∀ q ∈ s.l, 0 ≤ q.x ∧ q.x ≤ 18446744073709551615
  ends : ∀ q ∈ s.l, 0 ≤ q.y ∧ q.y ≤ 1103806595072
  len : (s.l.length : Int) ≤ s.room
  keys : (s.l.map (·.key)).Nodup
theorem Ok.tick {s : TS} (h : Ok s) (now : Int) : Ok (laterT s now) := by
  unfold laterT
  by_cases hn : now ≤ 1099511627776
  · rw [if_pos hn]
    have m : 0 ≤ mx s.now now ∧ mx s.now now ≤ 1099511627776 := by have := h.now1; have := h.now2; unfold mx; split <;> omega
    exact ⟨h.1, h.2, h.3, h.4, m.1, m.2, h.7, h.8, h.len, h.keys⟩
  · rw [if_neg hn]; exact h
theorem Ok.later {s : TS} (h : Ok s) (now : Int) : Ok (laterV s now) := by
  have key := h.tick now
  unfold laterV
  refine ⟨key.1, key.2, key.3, key.4, key.5, key.6, fun q hq => key.reps q (List.mem_filter.1 hq).1, fun q hq => key.ends q (List.mem_filter.1 hq).1, ?_, key.keys.sublist (List.filter_sublist.map _)⟩
  have := List.length_filter_le (fun q => !endB (laterT s now) q) (laterT s now).l
  have := key.len
  show (((laterT s now).l.filter _).length : Int) ≤ _
  dsimp only
  omega
/-! ### the walks -/
theorem ok_c (g b : Nat) (s : TS) (w0 w : World) (hT : IsT w0 w g b s) : Calls Try.prog 18 #[.pointer (some ⟨g, 0, none⟩)] w fun e w' => e = .returned (.bool true) ∧ w = w' := by
  have h3 := hT.c3
  have hn := run_nil
  clear hT
  go_enter Try.func18, Try.ntmps18
  go_wp2_with fail
  go_ret
  exact ⟨rfl, rfl⟩
set_option maxHeartbeats 4000000 in
theorem clo_c (g b bx : Nat) (s : TS) (k x y : Int) (w : World) (hT : Tc w g b s) (hbx : w.cell? ⟨bx, 0, none⟩ = some (.pointer (some ⟨g, 0, none⟩))) :
    Calls Try.prog 28 (#[.int .u64 k, .agg #[.int .u64 x, .int .i64 y]] ++ #[.pointer (some ⟨bx, 0, none⟩)]) w fun e w' => e = .returned (.bool (decide (y ≤ s.now))) ∧ Below w.heap.size w w' := by
  have bel := below_alloc (Below.refl w.heap.size w) (.cells #[.int .u64 x, .int .i64 y] 56 (0, 0))
  have hT1 := hT.below bel
  have hbx1 := pw_cell_below bel hbx
  have h2 := hT1.c2
  have hb : (w.alloc (.cells #[.int .u64 x, .int .i64 y] 56 (0, 0))).heap[w.heap.size]? = some (.cells #[.int .u64 x, .int .i64 y] 56 (0, 0)) := blk_new _ _
  have k1 := blk_cell hb 1
  obtain ⟨now, hnow⟩ : ∃ m, s.now = m := ⟨_, rfl⟩
  rw [hnow]
  rw [hnow] at h2
  have HB := Aside0.mk bel
  clear hT hT1 hbx hb hnow bel
  have huT := Try.underlying56
  go_enter Try.func28, Try.ntmps28
  go_wp2_with fail
  go_quiet (fail)
  go_wp2_with fail
  go_ret
  exact ⟨rfl, pw_below_drewN HB.out _⟩
theorem eg28 : ∀ args w, (callFunc 28 args).run Try.prog w = .ok (.enter 28 args) w := enters_of Try.func28 (by kernel_rfl) rfl
theorem del_c (g b bx : Nat) (t : TS) (w0 w : World) (hT : IsT w0 w g b t) (hO : Ok t) (hbx : w.cell? ⟨bx, 0, none⟩ = some (.pointer (some ⟨g, 0, none⟩))) :
    Calls Try.prog 26 #[.map (some b), .func (.func 28) #[] #[.pointer (some ⟨bx, 0, none⟩)]] w fun e w' => e = .returned (.tuple #[]) ∧ IsT w0 w' g b { t with l := t.l.filter (fun q => !endB t q) } ∧ w.grownBy w' (some b) := by
  have hnb : some bx ≠ some b := by
    intro e
    injection e with e
    subst e
    obtain ⟨D, ⟨es, clock, h0, _⟩, _⟩ := hT.map
    simp [World.cell?, h0] at hbx
  refine (delf_c (fun k x y => decide (y ≤ t.now)) b t.l 28 #[.pointer (some ⟨bx, 0, none⟩)] w hT.map eg28 fun W q hq hg => ?_).mono fun e w' ⟨h1, h2, h3⟩ => ⟨h1, hT.turn h2 h3, h3⟩
  exact clo_c g b bx t q.key q.x q.y W (blk_grown hT.1 hg (by simp [hT.ne])) (hg.cell hbx (by simpa using hnb))
abbrev Post (w0 w : World) (g b : Nat) (s' : TS) (w' : World) : Prop := IsT w0 w' g b s' ∧ Below w0.heap.size w0 w' ∧ KeepBut w w' g (some b)
theorem tick_same {s : TS} {now : Int} (h : now ≤ 1099511627776) (h' : s.now < now) : laterT s now = { s with now := now } := by unfold laterT mx; rw [if_pos h]; congr 1; split <;> omega
theorem tick_not {s : TS} {now : Int} (h : now ≤ 1099511627776) (h' : ¬ s.now < now) : laterT s now = { s with now := s.now } := by unfold laterT mx; rw [if_pos h]; congr 1; split <;> omega
theorem later_c (g b : Nat) (s : TS) (now : Int) (w0 w : World) (hT : IsT w0 w g b s) (hB : Below w0.heap.size w0 w) (hO : Ok s) :
    Calls Try.prog 19 #[.pointer (some ⟨g, 0, none⟩), .int .i64 now] w fun e w' => e = .returned (.tuple #[]) ∧ Post w0 w g b (laterV s now) w' := by
  have bel := below_alloc (Below.refl w.heap.size w) (.cells #[.pointer (some ⟨g, 0, none⟩)] 23 (0, 0))
  have hT1 := hT.below bel
  have hb : (w.alloc (.cells #[.pointer (some ⟨g, 0, none⟩)] 23 (0, 0))).heap[w.heap.size]? = some (.cells #[.pointer (some ⟨g, 0, none⟩)] 23 (0, 0)) := blk_new _ _
  have hbx := blk_cell hb 0
  have hOt := hO.tick now
  have HD := Aside0.mk (fun w2 (h : IsT w0 w2 g b (laterT s now)) hb => del_c g b w.heap.size (laterT s now) w0 w2 h hOt hb)
  have HB := Aside0.mk (below_step hB bel)
  have HK := Aside0.mk (KeepBut.of_below bel g (some b))
  have hne : w.heap.size ≠ g := Nat.ne_of_gt hT.lt
  have hgp := hT.ge
  have HG := Aside0.mk hT.geb
  have HGG := Aside0.mk hgp
  have h3 := hT1.c2
  have h4 := hT1.c3
  have hf3 := hT1.free 2
  have HX := Aside0.mk hT1
  have HBX := Aside0.mk hbx
  have HGL := Aside0.mk hT.lt
  by_cases hn : now ≤ 1099511627776
  · by_cases hlt : s.now < now
    · have HE := Aside0.mk (tick_same hn hlt)
      obtain ⟨n0, hn0⟩ : ∃ n0, s.now = n0 := ⟨_, rfl⟩
      rw [hn0] at h3 hlt
      clear hT hB hO hT1 hb bel hn0 hgp hOt
      go_enter Try.func19, Try.ntmps19
      go_wp2_with fail
      go_region
      have HX2 := Aside0.mk (show IsT w0 ((w.alloc (.cells #[.pointer (some ⟨g, 0, none⟩)] 23)).setCell ⟨g, 2, none⟩ (.int .i64 now)).drew g b (laterT s now) by rw [HE.out]; exact (HX.out.tick now).drew 1)
      have HB2 := Aside0.mk (below_drew (below_set (g := g) (j := 2) (v := .int .i64 now) HB.out HGG.out))
      have HK2 := Aside0.mk (keep_drew (KeepBut.set_ HK.out 2 (.int .i64 now)))
      have HBX2 := Aside0.mk (show ((w.alloc (.cells #[.pointer (some ⟨g, 0, none⟩)] 23)).setCell ⟨g, 2, none⟩ (.int .i64 now)).drew.cell? ⟨w.heap.size, 0, none⟩ = some (.pointer (some ⟨g, 0, none⟩)) from blk_cell (blk_drew (blk_far (blk_new w (.cells #[.pointer (some ⟨g, 0, none⟩)] 23 (0, 0))) (p := ⟨g, 2, none⟩) (by show w.heap.size ≠ g; exact hne) _)) 0)
      clear HX HB HK HBX hbx h3 h4 hf3
      have h4 := HX2.out.c3
      have hbx := HBX2.out
      go_wp2_with (go_at_call 26; (with_reducible refine (HD.out _ HX2.out HBX2.out).mono ?_); rintro e w9 ⟨rfl, h1, h2⟩; have H1 := Aside0.mk h1; have H2 := Aside0.mk h2; clear h1 h2)
      first | go_end0 | ((try simp only [Exit.inBlock, Exit.then]); refine bodyPost_ret (results_none rfl _ _ _) rfl ?_)
      exact ⟨rfl, H1.out, below_map HB2.out HG.out H2.out, KeepBut.trans HK2.out (keep_map H2.out) (.inl rfl)⟩
    · obtain ⟨n0, hn0⟩ : ∃ n0, s.now = n0 := ⟨_, rfl⟩
      have HE := Aside0.mk (show laterT s now = { s with now := n0 } by rw [← hn0]; exact tick_not hn hlt)
      rw [hn0] at h3 hlt
      clear hT hB hO hT1 hb bel hn0 hgp hOt
      go_enter Try.func19, Try.ntmps19
      go_wp2_with fail
      go_region
      have HX2 := Aside0.mk (show IsT w0 ((w.alloc (.cells #[.pointer (some ⟨g, 0, none⟩)] 23)).setCell ⟨g, 2, none⟩ (.int .i64 n0)).drew g b (laterT s now) by rw [HE.out]; exact (HX.out.tick n0).drew 1)
      have HB2 := Aside0.mk (below_drew (below_set (g := g) (j := 2) (v := .int .i64 n0) HB.out HGG.out))
      have HK2 := Aside0.mk (keep_drew (KeepBut.set_ HK.out 2 (.int .i64 n0)))
      have HBX2 := Aside0.mk (show ((w.alloc (.cells #[.pointer (some ⟨g, 0, none⟩)] 23)).setCell ⟨g, 2, none⟩ (.int .i64 n0)).drew.cell? ⟨w.heap.size, 0, none⟩ = some (.pointer (some ⟨g, 0, none⟩)) from blk_cell (blk_drew (blk_far (blk_new w (.cells #[.pointer (some ⟨g, 0, none⟩)] 23 (0, 0))) (p := ⟨g, 2, none⟩) (by show w.heap.size ≠ g; exact hne) _)) 0)
      clear HX HB HK HBX hbx h3 h4 hf3
      have h4 := HX2.out.c3
      have hbx := HBX2.out
      go_wp2_with (go_at_call 26; (with_reducible refine (HD.out _ HX2.out HBX2.out).mono ?_); rintro e w9 ⟨rfl, h1, h2⟩; have H1 := Aside0.mk h1; have H2 := Aside0.mk h2; clear h1 h2)
      first | go_end0 | ((try simp only [Exit.inBlock, Exit.then]); refine bodyPost_ret (results_none rfl _ _ _) rfl ?_)
      exact ⟨rfl, H1.out, below_map HB2.out HG.out H2.out, KeepBut.trans HK2.out (keep_map H2.out) (.inl rfl)⟩
  · have HE := Aside0.mk (show laterT s now = s by unfold laterT; rw [if_neg hn])
    clear hT hB hO hT1 hb bel hgp hOt h3 hf3 hne
    go_enter Try.func19, Try.ntmps19
    go_wp2_with (go_at_call 26; (with_reducible refine (HD.out _ (by rw [HE.out]; exact HX.out) HBX.out).mono ?_); rintro e w9 ⟨rfl, h1, h2⟩; have H1 := Aside0.mk h1; have H2 := Aside0.mk h2; clear h1 h2)
    first | go_end0 | ((try simp only [Exit.inBlock, Exit.then]); refine bodyPost_ret (results_none rfl _ _ _) rfl ?_)
    exact ⟨rfl, H1.out, below_map HB.out HG.out H2.out, KeepBut.trans HK.out (keep_map H2.out) (.inl rfl)⟩
end Go.Proofs.Ytghicenodafbkaa.Aff
