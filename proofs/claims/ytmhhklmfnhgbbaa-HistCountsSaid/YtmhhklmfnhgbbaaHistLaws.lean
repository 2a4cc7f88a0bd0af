/- HistBoxes, HistRises: the walks; no condition but that numbers are of their kinds. -/
import Derived.Test.YtmhhklmfnhgbbaaHistRef
namespace Go.Proofs.Ytmhhklmfnhgbbaa.Hst
set_option linter.unusedVariables false
set_option linter.unusedSimpArgs false
open Go.RowKit Go.Proofs.Ytmhhklmfnhgbbaa.PA Go.Proofs.YtmhhklmfnhgbbaaW.PrintWords Go.Proofs.YtmhhklmfnhgbbaaW.PrintLast Go.Proofs.YtmhhklmfnhgbbaaW.PrintMore
attribute [local go_sem] max2_int min2_int max_two min_two max_three min_three max_four min_four
theorem least_v (b x e : Int) (h : leastV b = (x, e)) (h0 : -9223372036854775808 ≤ b) (h1 : b ≤ 9223372036854775807) (w : World) : Calls Try.prog 8 #[.int .i64 b] w fun r w' => r = .returned (.tuple #[.int .i64 x, .int .i64 e]) ∧ Drawn0 w w' := by
  have := least_q b h0 h1 w
  rw [h] at this; exact this
theorem rleast_v (b x e : Int) (h : leastV b = (x, e)) (w : World) : Calls Try.prog 9 #[.int .i64 b] w fun r w' => r = .returned (.tuple #[.int .i64 x, .int .i64 e]) ∧ Drawn0 w w' := by
  have := rleast_q b w
  rw [h] at this; exact this
theorem box_v (a b : Int) (hb : boxV a = b) (h : a ≤ 9223372036854775807) (w : World) : Calls Try.prog 10 #[.int .i64 a] w fun e w' => e = .returned (.int .i64 b) ∧ w' = w := by
  have := box_q a h w
  rw [hb] at this; exact this
theorem rbox_v (a b : Int) (hb : boxV a = b) (h : a ≤ 9223372036854775807) (w : World) : Calls Try.prog 11 #[.int .i64 a] w fun e w' => e = .returned (.int .i64 b) ∧ Drawn0 w w' := by
  have := rbox_q a h w
  rw [hb] at this; exact this
set_option maxHeartbeats 4000000 in
set_option maxRecDepth 100000 in
theorem boxes_c (n b : Int) (hn : n ≤ 9223372036854775807) (hb0 : -9223372036854775808 ≤ b) (hb1 : b ≤ 9223372036854775807) (w : World) : Calls Try.prog 3 #[.int .i64 n, .int .i64 b] w fun e w' => e = .returned (.bool true) ∧ Below w.heap.size w w' := by
  obtain ⟨x, e, hl⟩ : ∃ x e, leastV b = (x, e) := ⟨_, _, rfl⟩
  obtain ⟨y, hy⟩ : ∃ y, boxV n = y := ⟨_, rfl⟩
  have H1 := Aside0.mk (least_v b x e hl hb0 hb1)
  have H2 := Aside0.mk (rleast_v b x e hl)
  have H3 := Aside0.mk (box_v n y hy hn)
  have H4 := Aside0.mk (rbox_v n y hy hn)
  have HB := Aside0.mk (Below.refl w.heap.size w)
  clear hl hy
  go_enter Try.func3, Try.ntmps3
  go_wp2_with (first | (go_at_call 8; (with_reducible refine (H1.out _).mono ?_); rintro e w1 ⟨rfl, hd⟩; have n1_ := Aside0.mk (below_step HB.out hd.below); clear HB hd; have HB := n1_; clear n1_) | (go_at_call 9; (with_reducible refine (H2.out _).mono ?_); rintro e w1 ⟨rfl, hd⟩; have n1_ := Aside0.mk (below_step HB.out hd.below); clear HB hd; have HB := n1_; clear n1_) | (go_at_call 10; (with_reducible refine (H3.out _).mono ?_); rintro e w1 ⟨rfl, rfl⟩) | (go_at_call 11; (with_reducible refine (H4.out _).mono ?_); rintro e w1 ⟨rfl, hd⟩; have n1_ := Aside0.mk (below_step HB.out hd.below); clear HB hd; have HB := n1_; clear n1_) | (go_at_call 12; (with_reducible refine (alive_c _).mono ?_); rintro e w1 ⟨rfl, hb⟩; have n1_ := Aside0.mk (below_step HB.out hb); clear HB hb; have HB := n1_; clear n1_))
  go_ret
  exact ⟨rfl, HB.out⟩
end Go.Proofs.Ytmhhklmfnhgbbaa.Hst
