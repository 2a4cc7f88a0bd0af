/- The document's Quantile where it answers; the walk. -/
import Derived.Test.YtmhhklmfnhgbbaaHistDoc5
namespace Go.Proofs.Ytmhhklmfnhgbbaa.Hst
set_option linter.unusedVariables false
set_option linter.unusedSimpArgs false
open Go.RowKit Go.Proofs.Ytmhhklmfnhgbbaa.PA Go.Proofs.YtmhhklmfnhgbbaaW.PrintWords Go.Proofs.YtmhhklmfnhgbbaaW.PrintLast Go.Proofs.YtmhhklmfnhgbbaaW.PrintMore

set_option maxHeartbeats 4000000 in
set_option maxRecDepth 100000 in
theorem dquant_ok (g : Nat) (xs : List Int) (part whole : Int) (w0 w : World) (hI : IsD w0 w g xs) (hx : Cnt xs) (p0 : 0 ≤ part) (p1 : part ≤ whole) (p2 : 1 ≤ whole) (p3 : whole ≤ 1000000) (hs0 : xs.sum ≠ 0) (R : Int × Int) (hR : qw xs 0 (mx ((xs.sum * part + whole - 1) / whole) 1) = R) :
    Calls Try.prog 17 #[.pointer (some ⟨g, 0, none⟩), .int .i64 part, .int .i64 whole] w fun e w' => e = .returned (.tuple #[.int .i64 R.1, .int .i64 R.2]) ∧ Drawn0 w w' := by
  obtain ⟨s, hs⟩ : ∃ s, xs.sum = s := ⟨_, rfl⟩
  have HC := Aside0.mk (dcount_s g xs s w0 w hI hx hs)
  have b := sum_bd xs hx
  rw [hI.2.1] at b
  rw [hs] at hs0 b hR
  have b0 := b.1
  have b1 : s ≤ 1309965024975 := b.2
  have m1 : s * part ≤ s * whole := Int.mul_le_mul_of_nonneg_left p1 b0
  have m2 : s * whole ≤ 1309965024975 * 1000000 := Int.mul_le_mul b1 p3 (by omega) (by decide)
  have s1 : ¬ s = 0 := hs0
  have s2 : (s == 0) = false := beq_eq_false_iff_ne.mpr hs0
  obtain ⟨left, hl⟩ : ∃ left, mx ((s * part + whole - 1) / whole) 1 = left := ⟨_, rfl⟩
  have hq := need_is p0 p2 b0 (show s * part ≤ 1309965024975000000 by omega) hl
  have hl1 : 1 ≤ left ∧ left ≤ 1309965024977 := by
    have : (s * part + whole - 1) / whole ≤ s + 1 := Int.ediv_le_of_le_mul (by omega) (by rw [Int.add_mul]; omega)
    rw [← hl]; unfold mx; split <;> omega
  rw [hl] at hR
  have HI := Aside0.mk hI
  have HX := Aside0.mk hx
  have HRR := Aside0.mk hR
  have HLL := Aside0.mk hl1
  have L := Aside0.mk hI.2.1
  clear hI hx hR hs b hs0 m1 m2 hl hl1
  rcases hq with ⟨q1, q2⟩ | ⟨q1, q2⟩
  all_goals
   go_enter Try.func17, Try.ntmps17
   go_wp2_with (go_at_call 19; (with_reducible refine HC.out.mono ?_); rintro e w1 ⟨rfl, rfl⟩)

   go_loop [10, 11] (fun vl vi => ∃ (i : Nat) (sm : Int), vi = .int .i64 i ∧ vl = .int .u64 sm ∧ Aside0 (i ≤ 305) ∧ Aside0 (0 ≤ sm ∧ sm < left) ∧ Aside0 (qw (xs.drop i) i (left - sm) = R)) (fun _ vi => (305 - intOf vi).toNat)
   case atStart => exact ⟨0, 0, rfl, rfl, ⟨by omega⟩, ⟨by have := HLL.out; omega⟩, ⟨by rw [Int.sub_zero]; exact HRR.out⟩⟩
   case round =>
    obtain ⟨i, y, rfl, rfl, HL, HY, HQ⟩ := hrel
    have l1' := HL.out
    obtain ⟨y0, y1⟩ := HY.out
    have z1 := HLL.out
    by_cases hlt : i < 305
    · have hcell := HI.out.read hlt
      have c := HX.out.get i
      have hdr : xs.drop i = xs.getD i 0 :: xs.drop (i + 1) := by
        have hi : i < xs.length := by have := L.out; omega
        rw [List.drop_eq_getElem_cons hi, List.getD_eq_getElem?_getD, List.getElem?_eq_getElem hi]; rfl
      have q := HQ.out
      rw [hdr] at q
      obtain ⟨v, hv⟩ : ∃ v, xs.getD i 0 = v := ⟨_, rfl⟩
      rw [hv] at hcell c q
      clear hv hdr
      rw [qw] at q
      have wv : IntKind.u64.wrap (y + v) = y + v := wu (by omega) (by omega)
      by_cases hle : left ≤ y + v
      · rw [if_pos (by omega)] at q
        have hlq := rleast_v (i : Int) R.1 R.2 (by rw [q])
        have HLQ := Aside0.mk hlq
        clear q hlq
        go_wp2_with (go_at_call 9; (with_reducible refine (HLQ.out _).mono ?_); rintro e w1 ⟨rfl, hd⟩)
        go_ret2
        exact ⟨rfl, hd⟩
      · rw [if_neg (by omega)] at q
        have HQ2 := Aside0.mk (show qw (xs.drop (i + 1)) ((i + 1 : Nat) : Int) (left - (y + v)) = R by rw [← q]; congr 1; omega)
        clear q
        go_wp2_with fail
        go_round
        case rel => exact ⟨i + 1, y + v, by go_num, by first | rfl | rw [wv], ⟨by omega⟩, ⟨by omega⟩, HQ2⟩
        case measure => simp [intOf] <;> omega
    · have e : xs.drop i = [] := List.drop_eq_nil_of_le (by have := L.out; omega)
      have q := HQ.out
      rw [e] at q
      have q1' : R = (0, 1) := q.symm
      subst q1'
      clear q HQ
      go_wp2_with fail
      go_ret2
      exact ⟨rfl, Drawn0.refl _⟩
end Go.Proofs.Ytmhhklmfnhgbbaa.Hst
