/- The document's Quantile where it refuses; the walk. -/
import Derived.Test.YtmhhklmfnhgbbaaHistDoc3
namespace Go.Proofs.Ytmhhklmfnhgbbaa.Hst
set_option linter.unusedVariables false
set_option linter.unusedSimpArgs false
open Go.RowKit Go.Proofs.Ytmhhklmfnhgbbaa.PA Go.Proofs.YtmhhklmfnhgbbaaW.PrintWords Go.Proofs.YtmhhklmfnhgbbaaW.PrintLast Go.Proofs.YtmhhklmfnhgbbaaW.PrintMore
attribute [local go_sem] max2_int min2_int max_two min_two max_three min_three max_four min_four
theorem dcount_s (g : Nat) (xs : List Int) (s : Int) (w0 w : World) (hI : IsD w0 w g xs) (hx : Cnt xs) (hs : xs.sum = s) :
    Calls Try.prog 19 #[.pointer (some ⟨g, 0, none⟩)] w fun e w' => e = .returned (.int .u64 s) ∧ w' = w := by
  have := dcount_c g xs w0 w hI hx
  rw [sumL_is hx hI.2.1, hs] at this; exact this
set_option maxHeartbeats 2000000 in
theorem dquant_no (g : Nat) (xs : List Int) (part whole : Int) (w0 w : World) (hI : IsD w0 w g xs) (hx : Cnt xs) (h : part < 0 ∨ whole < part ∨ whole < 1 ∨ 1000000 < whole ∨ xs.sum = 0) :
    Calls Try.prog 17 #[.pointer (some ⟨g, 0, none⟩), .int .i64 part, .int .i64 whole] w fun e w' => e = .returned (.tuple #[.int .i64 0, .int .i64 1]) ∧ Drawn0 w w' := by
  obtain ⟨s, hs⟩ : ∃ s, xs.sum = s := ⟨_, rfl⟩
  have HC := Aside0.mk (dcount_s g xs s w0 w hI hx hs)
  have b := sum_bd xs hx
  rw [hs] at h b
  have b0 := b.1
  clear hs b
  have H : part < 0 ∨ (0 ≤ part ∧ whole < part) ∨ (0 ≤ part ∧ part ≤ whole ∧ whole < 1) ∨ (0 ≤ part ∧ part ≤ whole ∧ 1 ≤ whole ∧ 1000000 < whole) ∨ (0 ≤ part ∧ part ≤ whole ∧ 1 ≤ whole ∧ whole ≤ 1000000 ∧ s = 0) := by omega
  clear h
  rcases H with h | ⟨a, h⟩ | ⟨a, b, h⟩ | ⟨a, b, c, h⟩ | ⟨a, b, c, d, rfl⟩
  all_goals
   go_enter Try.func17, Try.ntmps17
   go_wp2_with (go_at_call 19; (with_reducible refine HC.out.mono ?_); rintro e w1 ⟨rfl, rfl⟩)
   go_ret2
   exact ⟨rfl, Drawn0.refl _⟩
end Go.Proofs.Ytmhhklmfnhgbbaa.Hst
