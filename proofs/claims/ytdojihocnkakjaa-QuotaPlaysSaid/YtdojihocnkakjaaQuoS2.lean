/- The document's When; the walk; no condition but those that stand in it. -/
import Derived.Test.YtdojihocnkakjaaQuoS
namespace Go.Proofs.Ytdojihocnkakjaa.Quo
set_option linter.unusedVariables false
set_option linter.unusedSimpArgs false
open Go.RowKit Go.Proofs.Ytdojihocnkakjaa.PA Go.Proofs.YtdojihocnkakjaaW.PrintWords Go.Proofs.YtdojihocnkakjaaW.PrintLast Go.Proofs.YtdojihocnkakjaaW.PrintMore Go.Proofs.Ytdojihocnkakjaa.Tab Go.Proofs.Ytdojihocnkakjaa.SatMul Go.Proofs.Ytdojihocnkakjaa.Lst
attribute [local go_sem] max2_int min2_int max_two min_two max_three min_three max_four min_four
set_option maxHeartbeats 8000000 in
theorem rwhen_c (g : Nat) (v : Value) (r : RS) (now k n : Int) (hn1 : n ≤ 9223372036854775807) (w0 w : World) (hR : IsR w0 w g v r) (hB : Below w0.heap.size w0 w) (hO : OkR r) (z : Int) (t : RS) (ht : rlaterV r now = t) (hr : rwhenV r now k n = z) :
    Calls Try.prog 17 #[.pointer (some ⟨g, 0, none⟩), .int .i64 now, .int .u64 k, .int .i64 n] w fun e w' => e = .returned (.int .i64 z) ∧ PostR w0 w g v t w' := by
  have hO1 := hO.later now
  rw [ht] at hO1
  unfold rwhenV at hr
  rw [ht] at hr
  dsimp only at hr
  have fb := rF_bd hO1 k
  obtain ⟨f, hf⟩ : ∃ f, rF t k = f := ⟨_, rfl⟩
  have H1 := Aside0.mk (rfill_c g v r now k w0 w hR hB hO t ht f hf)
  rw [hf] at hr fb
  have m2 := hO1.most2; have n1 := hO1.T1; have n2 := hO1.T2; have r1 := hO1.rate1; have r2 := hO1.rate2
  obtain ⟨T, hT⟩ : ∃ z, t.T = z := ⟨_, rfl⟩
  obtain ⟨most, hmost⟩ : ∃ z, t.most = z := ⟨_, rfl⟩
  obtain ⟨rate, hrate⟩ : ∃ z, t.rate = z := ⟨_, rfl⟩
  rw [hT, hmost, hrate] at hr
  rw [hT] at n1 n2
  rw [hmost] at m2 fb
  rw [hrate] at r1 r2
  have HTT := Aside0.mk hT; have HMO := Aside0.mk hmost; have HRA := Aside0.mk hrate
  clear hR hB hO hO1 ht hf hT hmost hrate
  by_cases c1 : n ≤ f
  · rw [if_pos c1] at hr
    subst hr
    go_enter Try.func17, Try.ntmps17
    go_wp2_with (first | (go_at_call 20; (with_reducible refine H1.out.mono ?_); rintro e w9 ⟨rfl, v', hp⟩; have HP := Aside0.mk hp; clear hp H1; have hc1 := HP.out.1.c1; have hc2 := HP.out.1.c2; have hc3 := HP.out.1.c3; rw [HMO.out] at hc1; rw [HRA.out] at hc2; rw [HTT.out] at hc3))
    go_ret
    exact ⟨rfl, v', HP.out⟩
  rw [if_neg c1] at hr
  by_cases c2 : n > most ∨ rate = 0
  · rw [if_pos c2] at hr
    subst hr
    have c3 : most < n ∨ (n ≤ most ∧ rate = 0) := by omega
    clear c2
    rcases c3 with c3 | ⟨c3, rfl⟩
    all_goals
      go_enter Try.func17, Try.ntmps17
      go_wp2_with (first | (go_at_call 20; (with_reducible refine H1.out.mono ?_); rintro e w9 ⟨rfl, v', hp⟩; have HP := Aside0.mk hp; clear hp H1; have hc1 := HP.out.1.c1; have hc2 := HP.out.1.c2; have hc3 := HP.out.1.c3; rw [HMO.out] at hc1; rw [HRA.out] at hc2; rw [HTT.out] at hc3))
      go_ret
      exact ⟨rfl, v', HP.out⟩
  rw [if_neg c2] at hr
  obtain ⟨c3, c4⟩ : n ≤ most ∧ 1 ≤ rate := by omega
  clear c2
  obtain ⟨d, hd⟩ : ∃ d, (n - f).tdiv rate = d := ⟨_, rfl⟩
  obtain ⟨m, hm⟩ : ∃ m, (n - f).tmod rate = m := ⟨_, rfl⟩
  have d0 : 0 ≤ d ∧ d ≤ 4294967296 := by
    rw [← hd, Int.tdiv_eq_ediv_of_nonneg (by omega)]
    exact ⟨Int.ediv_nonneg (by omega) (by omega), Int.le_trans (Int.ediv_le_self _ (by omega)) (by omega)⟩
  rw [hd, hm] at hr
  have m0 : 0 ≤ m ∧ m ≤ 1048576 := by
    rw [← hm, Int.tmod_eq_emod_of_nonneg (by omega)]
    have := Int.emod_lt_of_pos (n - f) (show 0 < rate by omega)
    exact ⟨Int.emod_nonneg _ (by omega), by omega⟩
  have e1 : IntKind.i64.wrap (n - f) = n - f := by rw [i64_w]; exact Base.w64 (by omega) (by omega)
  have e3 : IntKind.i64.wrap d = d := by rw [i64_w]; exact Base.w64 (by omega) (by omega)
  have e3' : IntKind.i64.wrap m = m := by rw [i64_w]; exact Base.w64 (by omega) (by omega)
  have e4 : IntKind.i64.wrap (T + d) = T + d := by rw [i64_w]; exact Base.w64 (by omega) (by omega)
  have e5 : IntKind.i64.wrap (d + 1) = d + 1 := by rw [i64_w]; exact Base.w64 (by omega) (by omega)
  have e5' : IntKind.i64.wrap (T + (d + 1)) = T + (d + 1) := by rw [i64_w]; exact Base.w64 (by omega) (by omega)
  have e6 : (rate == 0) = false := by simp; omega
  by_cases c5 : m = 0
  · have e8 : ((n - f).tmod rate != 0) = false := by rw [hm, c5]; rfl
    have e9 : (m != 0) = false := by rw [c5]; rfl
    have e7 : (if 1099511627776 < T + d then 1099511627776 else T + d) = z := by rw [← hr]; unfold mn; (repeat' split) <;> omega
    clear hr d0 m0 c5 e5 e5'
    go_enter Try.func17, Try.ntmps17
    go_wp2_with (first | (go_at_call 20; (with_reducible refine H1.out.mono ?_); rintro e w9 ⟨rfl, v', hp⟩; have HP := Aside0.mk hp; clear hp H1; have hc1 := HP.out.1.c1; have hc2 := HP.out.1.c2; have hc3 := HP.out.1.c3; rw [HMO.out] at hc1; rw [HRA.out] at hc2; rw [HTT.out] at hc3))
    go_ret
    exact ⟨rfl, v', HP.out⟩
  · have e8 : ((n - f).tmod rate != 0) = true := by rw [hm]; simpa using c5
    have e9 : (m != 0) = true := by simpa using c5
    have e7 : (if 1099511627776 < T + (d + 1) then 1099511627776 else T + (d + 1)) = z := by rw [← hr, if_neg c5]; unfold mn; (repeat' split) <;> omega
    clear hr d0 m0 c5
    go_enter Try.func17, Try.ntmps17
    go_wp2_with (first | (go_at_call 20; (with_reducible refine H1.out.mono ?_); rintro e w9 ⟨rfl, v', hp⟩; have HP := Aside0.mk hp; clear hp H1; have hc1 := HP.out.1.c1; have hc2 := HP.out.1.c2; have hc3 := HP.out.1.c3; rw [HMO.out] at hc1; rw [HRA.out] at hc2; rw [HTT.out] at hc3))
    go_ret
    exact ⟨rfl, v', HP.out⟩
end Go.Proofs.Ytdojihocnkakjaa.Quo
