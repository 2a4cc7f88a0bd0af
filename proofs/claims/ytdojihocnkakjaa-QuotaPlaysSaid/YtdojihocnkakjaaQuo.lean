/- A table of quotas: what lies, how much a bucket has, letting time go on; no condition but those that stand in each. -/
import Derived.Test.YtdojihocnkakjaaTab
import Derived.Test.YtdojihocnkakjaaPAx1
import Derived.Test.YtdojihocnkakjaaSatMul
import Derived.Deep.QuietTactic
import Derived.BigQuiet
import Derived.RegionTactic
import Derived.Deep.RegionHeld3
import Derived.Deep.RegionLaw
namespace Go.Proofs.Ytdojihocnkakjaa.Quo
set_option linter.unusedVariables false
set_option linter.unusedSimpArgs false
open Go.RowKit Go.Proofs.Ytdojihocnkakjaa.PA Go.Proofs.YtdojihocnkakjaaW.PrintWords Go.Proofs.YtdojihocnkakjaaW.PrintLast Go.Proofs.YtdojihocnkakjaaW.PrintMore Go.Proofs.Ytdojihocnkakjaa.Tab Go.Proofs.Ytdojihocnkakjaa.SatMul
attribute [local go_sem] max2_int min2_int max_two min_two max_three min_three max_four min_four
structure TS where
  room : Int
  most : Int
  rate : Int
  now : Int
  l : List Bk
def tcells (s : TS) (b : Nat) : Array Value := #[.int .i64 s.room, .int .i64 s.most, .int .i64 s.rate, .int .i64 s.now, .map (some b)]
def IsT (w0 W : World) (g b : Nat) (s : TS) : Prop := W.heap[g]? = some (.cells (tcells s b) 55 (0, 0)) ∧ MapIs W b s.l ∧ w0.heap.size ≤ g ∧ w0.heap.size ≤ b
section
variable {w0 W W' : World} {g b : Nat} {s : TS}
def Tc (W : World) (g b : Nat) (s : TS) : Prop := W.heap[g]? = some (.cells (tcells s b) 55 (0, 0))
theorem Tc.c0 (h : Tc W g b s) : W.cell? ⟨g, 0, none⟩ = some (.int .i64 s.room) := blk_cell h 0
theorem Tc.c1 (h : Tc W g b s) : W.cell? ⟨g, 1, none⟩ = some (.int .i64 s.most) := blk_cell h 1
theorem Tc.c2 (h : Tc W g b s) : W.cell? ⟨g, 2, none⟩ = some (.int .i64 s.rate) := blk_cell h 2
theorem Tc.c3 (h : Tc W g b s) : W.cell? ⟨g, 3, none⟩ = some (.int .i64 s.now) := blk_cell h 3
theorem Tc.c4 (h : Tc W g b s) : W.cell? ⟨g, 4, none⟩ = some (.map (some b)) := blk_cell h 4
theorem Tc.below (h : Tc W g b s) (hb : Below W.heap.size W W') : Tc W' g b s := blk_below h hb
theorem IsT.c0 (h : IsT w0 W g b s) : W.cell? ⟨g, 0, none⟩ = some (.int .i64 s.room) := blk_cell h.1 0
theorem IsT.c1 (h : IsT w0 W g b s) : W.cell? ⟨g, 1, none⟩ = some (.int .i64 s.most) := blk_cell h.1 1
theorem IsT.c2 (h : IsT w0 W g b s) : W.cell? ⟨g, 2, none⟩ = some (.int .i64 s.rate) := blk_cell h.1 2
theorem IsT.c3 (h : IsT w0 W g b s) : W.cell? ⟨g, 3, none⟩ = some (.int .i64 s.now) := blk_cell h.1 3
theorem IsT.c4 (h : IsT w0 W g b s) : W.cell? ⟨g, 4, none⟩ = some (.map (some b)) := blk_cell h.1 4
theorem IsT.free (h : IsT w0 W g b s) (k : Nat) : W.frozen? ⟨g, k, none⟩ = false := blk_frozen h.1 k
theorem IsT.map (h : IsT w0 W g b s) : MapIs W b s.l := h.2.1
theorem IsT.ge (h : IsT w0 W g b s) : w0.heap.size ≤ g := h.2.2.1
theorem IsT.geb (h : IsT w0 W g b s) : w0.heap.size ≤ b := h.2.2.2
theorem IsT.ne (h : IsT w0 W g b s) : g ≠ b := h.2.1.ne h.1
theorem IsT.lt (h : IsT w0 W g b s) : g < W.heap.size := blk_lt h.1
theorem IsT.ltb (h : IsT w0 W g b s) : b < W.heap.size := h.2.1.lt
theorem IsT.below (h : IsT w0 W g b s) (hb : Below W.heap.size W W') : IsT w0 W' g b s := ⟨blk_below h.1 hb, h.2.1.below hb, h.2.2⟩
theorem IsT.drew (h : IsT w0 W g b s) (n : Nat) : IsT w0 (W.drewN n) g b s := h
theorem IsT.keep {g' : Nat} {row : Option Nat} (h : IsT w0 W g b s) (hk : KeepBut W W' g' row) (h1 : g ≠ g') (h2 : some g ≠ row) (h3 : b ≠ g') (h4 : some b ≠ row) : IsT w0 W' g b s :=
  ⟨hk.blk h.1 h1 h2, h.2.1.move (hk.2 b h.ltb h3 h4), h.2.2⟩
theorem IsT.perm {l' : List Bk} (h : IsT w0 W g b s) (hp : s.l.Perm l') : IsT w0 W g b { s with l := l' } := ⟨h.1, h.2.1.perm hp, h.2.2⟩
/-- the map is turned, nothing else -/
theorem IsT.turn {l' : List Bk} (h : IsT w0 W g b s) (hm : MapIs W' b l') (hg : W.grownBy W' (some b)) : IsT w0 W' g b { s with l := l' } :=
  ⟨blk_grown h.1 hg (by simp [h.ne]), hm, h.2.2⟩
theorem IsT.tick (h : IsT w0 W g b s) (n : Int) : IsT w0 (W.setCell ⟨g, 3, none⟩ (.int .i64 n)) g b { s with now := n } :=
  ⟨blk_set h.1 3 _, h.2.1.move (Below.heap_setCell W ⟨g, 3, none⟩ _ b h.ne.symm), h.2.2⟩
end
theorem keep_map {W W' : World} {g b : Nat} (hg : W.grownBy W' (some b)) : KeepBut W W' g (some b) := KeepBut.of_grown hg g
theorem below_map {w0 W W' : World} {b : Nat} (hB : Below w0.heap.size w0 W) (hb : w0.heap.size ≤ b) (hg : W.grownBy W' (some b)) : Below w0.heap.size w0 W' := pw_below_grown hB (some b) hB.size hg (fun k hk => by cases hk; exact hb)
/-! ### plain -/
def hasV (s : TS) (x y : Int) : Int := mn (x + (s.now - y) * s.rate) s.most
def laterT (s : TS) (now : Int) : TS := if now ≤ 1099511627776 then { s with now := mx s.now now } else s
def fullB (s : TS) (q : Bk) : Bool := hasV s q.x q.y == s.most
def laterV (s : TS) (now : Int) : TS := let t := laterT s now; { t with l := t.l.filter (fun q => !fullB t q) }
def fillV (s : TS) (k : Int) : Int × Bool := let r := lookV s.l k; if r.2.2 then (hasV s r.1 r.2.1, true) else (s.most, false)
structure Ok (s : TS) : Prop where
  room1 : 1 ≤ s.room
  room2 : s.room ≤ 1024
  most1 : 1 ≤ s.most
  most2 : s.most ≤ 4294967296
  rate1 : 0 ≤ s.rate
  rate2 : s.rate ≤ 1048576
  now1 : 0 ≤ s.now
  now2 : s.now ≤ 1099511627776
  fills : ∀ q ∈ s.l, 0 ≤ q.x ∧ q.x ≤ s.most ∧ 0 ≤ q.y ∧ q.y ≤ s.now
  len : (s.l.length : Int) ≤ s.room
  keys : (s.l.map (·.key)).Nodup
theorem Ok.later {s : TS} (h : Ok s) (now : Int) : Ok (laterV s now) := by
  have key : Ok (laterT s now) := by
    unfold laterT
    by_cases hn : now ≤ 1099511627776
    · rw [if_pos hn]
      have m : s.now ≤ mx s.now now ∧ 0 ≤ mx s.now now ∧ mx s.now now ≤ 1099511627776 := by have := h.now1; have := h.now2; unfold mx; split <;> omega
      exact ⟨h.1, h.2, h.3, h.4, h.5, h.6, m.2.1, m.2.2, fun q hq => by have := h.fills q hq; exact ⟨this.1, this.2.1, this.2.2.1, by show q.y ≤ mx s.now now; omega⟩, h.len, h.keys⟩
    · rw [if_neg hn]; exact h
  unfold laterV
  refine ⟨key.1, key.2, key.3, key.4, key.5, key.6, key.7, key.8, fun q hq => key.fills q (List.mem_filter.1 hq).1, ?_, key.keys.sublist (List.filter_sublist.map _)⟩
  have := List.length_filter_le (fun q => !fullB (laterT s now) q) (laterT s now).l
  have := key.len
  show (((laterT s now).l.filter _).length : Int) ≤ _
  dsimp only
  omega
/-! ### sat, within its bounds -/
theorem bound_f (b : Bool) : sat_bound.f b = some (if b = true then -9223372036854775808 else 9223372036854775807) := by
  cases b <;> rfl
theorem add_f (a b : Int) (ha : I64 a) (hb : I64 b) : sat_Add.f a b = some (cl (a + b)) := by
  unfold I64 at ha hb
  simp only [sat_Add.f, bound_f, Option.bind_some]
  by_cases h0 : a < 0
  all_goals by_cases h1 : b < 0
  all_goals by_cases h2 : wrap64 (a + b) < 0
  all_goals simp only [h0, h1, h2, decide_true, decide_false]
  all_goals simp
  all_goals (unfold wrap64 at *; unfold cl; (repeat' split) <;> omega)
theorem sub_f (a b : Int) (ha : I64 a) (hb : I64 b) : sat_Sub.f a b = some (cl (a - b)) := by
  unfold I64 at ha hb
  simp only [sat_Sub.f, bound_f, Option.bind_some]
  by_cases h0 : a < 0
  all_goals by_cases h1 : b < 0
  all_goals by_cases h2 : wrap64 (a - b) < 0
  all_goals simp only [h0, h1, h2, decide_true, decide_false]
  all_goals simp
  all_goals (unfold wrap64 at *; unfold cl; (repeat' split) <;> omega)
theorem add_c (a b r : Int) (ha : I64 a) (hb : I64 b) (h : cl (a + b) = r) (w : World) : Calls Try.prog 28 #[.int .i64 a, .int .i64 b] w fun e w' => e = .returned (.int .i64 r) ∧ Drawn0 w w' :=
  sat_Add.calls a b r w (by rw [add_f a b ha hb, h])
theorem sub_c (a b r : Int) (ha : I64 a) (hb : I64 b) (h : cl (a - b) = r) (w : World) : Calls Try.prog 27 #[.int .i64 a, .int .i64 b] w fun e w' => e = .returned (.int .i64 r) ∧ Drawn0 w w' :=
  sat_Sub.calls a b r w (by rw [sub_f a b ha hb, h])
theorem mul_c (a b r : Int) (ha : I64 a) (hb : I64 b) (h : cl (a * b) = r) (w : World) : Calls Try.prog 34 #[.int .i64 a, .int .i64 b] w fun e w' => e = .returned (.int .i64 r) ∧ Drawn0 w w' :=
  sat_Mul.calls a b r w (by rw [mul_f a b ha hb, h])
theorem drawn_ex {w w' : World} (h : Drawn0 w w') : ∃ m, w' = w.drewN m := let ⟨⟨m, e⟩⟩ := h; ⟨m, e⟩
/-! ### the walks -/
theorem ret_int {k : IntKind} {a b : Int} (h : a = b) : Ending.returned (.int k a) = .returned (.int k b) := by rw [h]
theorem ok_c (g b : Nat) (s : TS) (w0 w : World) (hT : IsT w0 w g b s) : Calls Try.prog 24 #[.pointer (some ⟨g, 0, none⟩)] w fun e w' => e = .returned (.bool true) ∧ w = w' := by
  have h4 := hT.c4
  have hn := run_nil
  clear hT
  go_enter Try.func24, Try.ntmps24
  go_wp2_with fail
  go_ret
  exact ⟨rfl, rfl⟩
set_option maxHeartbeats 4000000 in
theorem has_c (g b : Nat) (s : TS) (x y : Int) (w : World) (hT : Tc w g b s) (hO : Ok s) (hx0 : 0 ≤ x) (hx1 : x ≤ s.most) (hy0 : 0 ≤ y) (hy1 : y ≤ s.now) :
    Calls Try.prog 32 #[.pointer (some ⟨g, 0, none⟩), .agg #[.int .i64 x, .int .i64 y]] w fun e w' => e = .returned (.int .i64 (hasV s x y)) ∧ Below w.heap.size w w' := by
  obtain ⟨p, hp⟩ : ∃ p, (s.now - y) * s.rate = p := ⟨_, rfl⟩
  have n2 := hO.now2; have n1 := hO.now1; have r1 := hO.rate1; have r2 := hO.rate2; have m1 := hO.most1; have m2 := hO.most2
  have p0 : 0 ≤ p := by rw [← hp]; exact Int.mul_nonneg (by omega) r1
  have p1 : p ≤ 1099511627776 * 1048576 := by rw [← hp]; exact Int.mul_le_mul (by omega) r2 r1 (by omega)
  have HM := Aside0.mk (mul_c (s.now - y) s.rate p (by unfold I64; omega) (by unfold I64; omega) (by rw [hp]; exact cl_id (by omega) (by omega)))
  have HA := Aside0.mk (add_c x p (x + p) (by unfold I64; omega) (by unfold I64; omega) (cl_id (by omega) (by omega)))
  have HB := Aside0.mk (below_alloc (Below.refl w.heap.size w) (.cells #[.int .i64 x, .int .i64 y] 61 (0, 0)))
  have hT1 := hT.below (below_alloc (Below.refl _ _) (.cells #[.int .i64 x, .int .i64 y] 61 (0, 0)))
  have h1 := hT1.c1; have h2 := hT1.c2; have h3 := hT1.c3
  have HV := Aside0.mk (show hasV s x y = mn (x + p) s.most by unfold hasV; rw [hp])
  obtain ⟨now, hnow⟩ : ∃ now, s.now = now := ⟨_, rfl⟩
  obtain ⟨rate, hrate⟩ : ∃ rate, s.rate = rate := ⟨_, rfl⟩
  obtain ⟨most, hmost⟩ : ∃ most, s.most = most := ⟨_, rfl⟩
  rw [hnow] at h3 HM hy1 n1 n2
  rw [hrate] at h2 HM r1 r2
  rw [hmost] at h1 hx1 HV m1 m2
  clear hT hT1 hp hO hnow hrate hmost
  go_enter Try.func32, Try.ntmps32
  go_wp2_with fail
  go_quiet ((first | (go_at_call 34; exact Calls.quiet_of ((HM.out _).mono fun _ _ ⟨a, b⟩ => ⟨a, drawn_ex b⟩)) | (go_at_call 28; exact Calls.quiet_of ((HA.out _).mono fun _ _ ⟨a, b⟩ => ⟨a, drawn_ex b⟩))))
  go_wp2_with fail
  all_goals
   go_ret
   refine ⟨ret_int ?_, pw_below_drewN HB.out _⟩
   rw [HV.out]
   unfold mn
   split <;> omega
set_option maxHeartbeats 4000000 in
theorem clo_c (g b bx : Nat) (s : TS) (k x y : Int) (w : World) (hT : Tc w g b s) (hO : Ok s) (hbx : w.cell? ⟨bx, 0, none⟩ = some (.pointer (some ⟨g, 0, none⟩))) (hx0 : 0 ≤ x) (hx1 : x ≤ s.most) (hy0 : 0 ≤ y) (hy1 : y ≤ s.now) :
    Calls Try.prog 31 (#[.int .u64 k, .agg #[.int .i64 x, .int .i64 y]] ++ #[.pointer (some ⟨bx, 0, none⟩)]) w fun e w' => e = .returned (.bool (hasV s x y == s.most)) ∧ Below w.heap.size w w' := by
  have bel := below_alloc (Below.refl w.heap.size w) (.cells #[.int .i64 x, .int .i64 y] 61 (0, 0))
  have hT1 := hT.below bel
  have hbx1 := pw_cell_below bel hbx
  have h1 := hT1.c1
  have hb : (w.alloc (.cells #[.int .i64 x, .int .i64 y] 61 (0, 0))).heap[w.heap.size]? = some (.cells #[.int .i64 x, .int .i64 y] 61 (0, 0)) := blk_new _ _
  have k0 := blk_cell hb 0; have k1 := blk_cell hb 1
  have HH := Aside0.mk (fun w' (h : Tc w' g b s) => has_c g b s x y w' h hO hx0 hx1 hy0 hy1)
  obtain ⟨r, hr⟩ : ∃ r, hasV s x y = r := ⟨_, rfl⟩
  obtain ⟨most, hmost⟩ : ∃ m, s.most = m := ⟨_, rfl⟩
  rw [hr, hmost]
  rw [hmost] at h1
  rw [hr] at HH
  have HT1 := Aside0.mk hT1
  have HB := Aside0.mk bel
  clear hT hT1 hbx hb hO hx0 hx1 hy0 hy1 hr hmost bel
  have huT := Try.underlying61
  go_enter Try.func31, Try.ntmps31
  go_wp2_with fail
  have n0_ := Aside0.mk (show Tc _ g b s from blk_drew HT1.out)
  have n1_ := Aside0.mk (below_drew HB.out)
  clear HT1 HB
  have HT1 := n0_; have HB := n1_
  clear n0_ n1_
  go_region_held3 (fun w' => w'.cell? ⟨bx, 0, none⟩ = some (.pointer (some ⟨g, 0, none⟩)) ∧ w'.cell? ⟨g, 1, none⟩ = some (.int .i64 most) ∧ w'.cell? ⟨w.heap.size, 0, none⟩ = some (.int .i64 x) ∧ w'.cell? ⟨w.heap.size, 1, none⟩ = some (.int .i64 y)) (first | exact ⟨hbx1, h1, k0, k1⟩ | go_keep) ((first | (go_at_call 32; (with_reducible refine (HH.out _ HT1.out).mono ?_); rintro e w9 ⟨rfl, hb⟩; have n0_ := Aside0.mk (HT1.out.below hb); have n1_ := Aside0.mk (below_step HB.out hb); have n2_ := pw_cell_below hb hbx1; have n3_ := pw_cell_below hb h1; have n4_ := pw_cell_below hb k0; have n5_ := pw_cell_below hb k1; clear HT1 HB hb hbx1 h1 k0 k1; have HT1 := n0_; have HB := n1_; have hbx1 := n2_; have h1 := n3_; have k0 := n4_; have k1 := n5_; clear n0_ n1_ n2_ n3_ n4_ n5_)))
  all_goals go_wp2_with fail
  all_goals go_ret
  all_goals exact ⟨rfl, HB.out⟩
theorem eg31 : ∀ args w, (callFunc 31 args).run Try.prog w = .ok (.enter 31 args) w := enters_of Try.func31 (by kernel_rfl) rfl
theorem del_c (g b bx : Nat) (t : TS) (w0 w : World) (hT : IsT w0 w g b t) (hO : Ok t) (hbx : w.cell? ⟨bx, 0, none⟩ = some (.pointer (some ⟨g, 0, none⟩))) :
    Calls Try.prog 30 #[.map (some b), .func (.func 31) #[] #[.pointer (some ⟨bx, 0, none⟩)]] w fun e w' => e = .returned (.tuple #[]) ∧ IsT w0 w' g b { t with l := t.l.filter (fun q => !fullB t q) } ∧ w.grownBy w' (some b) := by
  have hnb : some bx ≠ some b := by
    intro e
    injection e with e
    subst e
    obtain ⟨D, ⟨es, clock, h0, _⟩, _⟩ := hT.map
    simp [World.cell?, h0] at hbx
  refine (delf_c (fun k x y => hasV t x y == t.most) b t.l 31 #[.pointer (some ⟨bx, 0, none⟩)] w hT.map eg31 fun W q hq hg => ?_).mono fun e w' ⟨h1, h2, h3⟩ => ⟨h1, hT.turn h2 h3, h3⟩
  have hf := hO.fills q hq
  exact clo_c g b bx t q.key q.x q.y W (blk_grown hT.1 hg (by simp [hT.ne])) hO (hg.cell hbx (by simpa using hnb)) hf.1 hf.2.1 hf.2.2.1 hf.2.2.2
theorem Ok.tick {s : TS} (h : Ok s) (now : Int) : Ok (laterT s now) := by
  unfold laterT
  by_cases hn : now ≤ 1099511627776
  · rw [if_pos hn]
    have m : s.now ≤ mx s.now now ∧ 0 ≤ mx s.now now ∧ mx s.now now ≤ 1099511627776 := by have := h.now1; have := h.now2; unfold mx; split <;> omega
    exact ⟨h.1, h.2, h.3, h.4, h.5, h.6, m.2.1, m.2.2, fun q hq => by have := h.fills q hq; exact ⟨this.1, this.2.1, this.2.2.1, by show q.y ≤ mx s.now now; omega⟩, h.len, h.keys⟩
  · rw [if_neg hn]; exact h
abbrev Post (w0 w : World) (g b : Nat) (s' : TS) (w' : World) : Prop := IsT w0 w' g b s' ∧ Below w0.heap.size w0 w' ∧ KeepBut w w' g (some b)
theorem tick_same {s : TS} {now : Int} (h : now ≤ 1099511627776) (h' : s.now < now) : laterT s now = { s with now := now } := by unfold laterT mx; rw [if_pos h]; congr 1; split <;> omega
theorem tick_not {s : TS} {now : Int} (h : now ≤ 1099511627776) (h' : ¬ s.now < now) : laterT s now = { s with now := s.now } := by unfold laterT mx; rw [if_pos h]; congr 1; split <;> omega
theorem later_c (g b : Nat) (s : TS) (now : Int) (w0 w : World) (hT : IsT w0 w g b s) (hB : Below w0.heap.size w0 w) (hO : Ok s) :
    Calls Try.prog 25 #[.pointer (some ⟨g, 0, none⟩), .int .i64 now] w fun e w' => e = .returned (.tuple #[]) ∧ Post w0 w g b (laterV s now) w' := by
  have bel := below_alloc (Below.refl w.heap.size w) (.cells #[.pointer (some ⟨g, 0, none⟩)] 25 (0, 0))
  have hT1 := hT.below bel
  have hb : (w.alloc (.cells #[.pointer (some ⟨g, 0, none⟩)] 25 (0, 0))).heap[w.heap.size]? = some (.cells #[.pointer (some ⟨g, 0, none⟩)] 25 (0, 0)) := blk_new _ _
  have hbx := blk_cell hb 0
  have hOt := hO.tick now
  have HD := Aside0.mk (fun w2 (h : IsT w0 w2 g b (laterT s now)) hb => del_c g b w.heap.size (laterT s now) w0 w2 h hOt hb)
  have HB := Aside0.mk (below_step hB bel)
  have HK := Aside0.mk (KeepBut.of_below bel g (some b))
  have hne : w.heap.size ≠ g := Nat.ne_of_gt hT.lt
  have hgp := hT.ge
  have HG := Aside0.mk hT.geb
  have HGG := Aside0.mk hgp
  have h3 := hT1.c3
  have h4 := hT1.c4
  have hf3 := hT1.free 3
  have HX := Aside0.mk hT1
  have HBX := Aside0.mk hbx
  have HGL := Aside0.mk hT.lt
  by_cases hn : now ≤ 1099511627776
  · by_cases hlt : s.now < now
    · have HE := Aside0.mk (tick_same hn hlt)
      obtain ⟨n0, hn0⟩ : ∃ n0, s.now = n0 := ⟨_, rfl⟩
      rw [hn0] at h3 hlt
      clear hT hB hO hT1 hb bel hn0 hgp hOt
      go_enter Try.func25, Try.ntmps25
      go_wp2_with fail
      go_region
      have HX2 := Aside0.mk (show IsT w0 ((w.alloc (.cells #[.pointer (some ⟨g, 0, none⟩)] 25)).setCell ⟨g, 3, none⟩ (.int .i64 now)).drew g b (laterT s now) by rw [HE.out]; exact (HX.out.tick now).drew 1)
      have HB2 := Aside0.mk (below_drew (below_set (g := g) (j := 3) (v := .int .i64 now) HB.out HGG.out))
      have HK2 := Aside0.mk (keep_drew (KeepBut.set_ HK.out 3 (.int .i64 now)))
      have HBX2 := Aside0.mk (show ((w.alloc (.cells #[.pointer (some ⟨g, 0, none⟩)] 25)).setCell ⟨g, 3, none⟩ (.int .i64 now)).drew.cell? ⟨w.heap.size, 0, none⟩ = some (.pointer (some ⟨g, 0, none⟩)) from blk_cell (blk_drew (blk_far (blk_new w (.cells #[.pointer (some ⟨g, 0, none⟩)] 25 (0, 0))) (p := ⟨g, 3, none⟩) (by show w.heap.size ≠ g; exact hne) _)) 0)
      clear HX HB HK HBX hbx h3 h4 hf3
      have h4 := HX2.out.c4
      have hbx := HBX2.out
      go_wp2_with (go_at_call 30; (with_reducible refine (HD.out _ HX2.out HBX2.out).mono ?_); rintro e w9 ⟨rfl, h1, h2⟩; have H1 := Aside0.mk h1; have H2 := Aside0.mk h2; clear h1 h2)
      first | go_end0 | ((try simp only [Exit.inBlock, Exit.then]); refine bodyPost_ret (results_none rfl _ _ _) rfl ?_)
      exact ⟨rfl, H1.out, below_map HB2.out HG.out H2.out, KeepBut.trans HK2.out (keep_map H2.out) (.inl rfl)⟩
    · obtain ⟨n0, hn0⟩ : ∃ n0, s.now = n0 := ⟨_, rfl⟩
      have HE := Aside0.mk (show laterT s now = { s with now := n0 } by rw [← hn0]; exact tick_not hn hlt)
      rw [hn0] at h3 hlt
      clear hT hB hO hT1 hb bel hn0 hgp hOt
      go_enter Try.func25, Try.ntmps25
      go_wp2_with fail
      go_region
      have HX2 := Aside0.mk (show IsT w0 ((w.alloc (.cells #[.pointer (some ⟨g, 0, none⟩)] 25)).setCell ⟨g, 3, none⟩ (.int .i64 n0)).drew g b (laterT s now) by rw [HE.out]; exact (HX.out.tick n0).drew 1)
      have HB2 := Aside0.mk (below_drew (below_set (g := g) (j := 3) (v := .int .i64 n0) HB.out HGG.out))
      have HK2 := Aside0.mk (keep_drew (KeepBut.set_ HK.out 3 (.int .i64 n0)))
      have HBX2 := Aside0.mk (show ((w.alloc (.cells #[.pointer (some ⟨g, 0, none⟩)] 25)).setCell ⟨g, 3, none⟩ (.int .i64 n0)).drew.cell? ⟨w.heap.size, 0, none⟩ = some (.pointer (some ⟨g, 0, none⟩)) from blk_cell (blk_drew (blk_far (blk_new w (.cells #[.pointer (some ⟨g, 0, none⟩)] 25 (0, 0))) (p := ⟨g, 3, none⟩) (by show w.heap.size ≠ g; exact hne) _)) 0)
      clear HX HB HK HBX hbx h3 h4 hf3
      have h4 := HX2.out.c4
      have hbx := HBX2.out
      go_wp2_with (go_at_call 30; (with_reducible refine (HD.out _ HX2.out HBX2.out).mono ?_); rintro e w9 ⟨rfl, h1, h2⟩; have H1 := Aside0.mk h1; have H2 := Aside0.mk h2; clear h1 h2)
      first | go_end0 | ((try simp only [Exit.inBlock, Exit.then]); refine bodyPost_ret (results_none rfl _ _ _) rfl ?_)
      exact ⟨rfl, H1.out, below_map HB2.out HG.out H2.out, KeepBut.trans HK2.out (keep_map H2.out) (.inl rfl)⟩
  · have HE := Aside0.mk (show laterT s now = s by unfold laterT; rw [if_neg hn])
    clear hT hB hO hT1 hb bel hgp hOt h3 hf3 hne
    go_enter Try.func25, Try.ntmps25
    go_wp2_with (go_at_call 30; (with_reducible refine (HD.out _ (by rw [HE.out]; exact HX.out) HBX.out).mono ?_); rintro e w9 ⟨rfl, h1, h2⟩; have H1 := Aside0.mk h1; have H2 := Aside0.mk h2; clear h1 h2)
    first | go_end0 | ((try simp only [Exit.inBlock, Exit.then]); refine bodyPost_ret (results_none rfl _ _ _) rfl ?_)
    exact ⟨rfl, H1.out, below_map HB.out HG.out H2.out, KeepBut.trans HK.out (keep_map H2.out) (.inl rfl)⟩
end Go.Proofs.Ytdojihocnkakjaa.Quo
