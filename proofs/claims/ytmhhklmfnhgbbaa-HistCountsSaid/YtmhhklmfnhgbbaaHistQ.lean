/- Count and Quantile: how many there are, and where; no condition but those that stand in each. -/
import Derived.Test.YtmhhklmfnhgbbaaHistAdd
import Derived.Laws.Rows
namespace Go.Proofs.Ytmhhklmfnhgbbaa.Hst
set_option linter.unusedVariables false
set_option linter.unusedSimpArgs false
open Go.RowKit Go.Proofs.Ytmhhklmfnhgbbaa.PA Go.Proofs.YtmhhklmfnhgbbaaW.PrintWords Go.Proofs.YtmhhklmfnhgbbaaW.PrintLast Go.Proofs.YtmhhklmfnhgbbaaW.PrintMore
attribute [local go_sem] max2_int min2_int max_two min_two max_three min_three max_four min_four
theorem index_in (xs : List Int) (hl : xs.length = 305) (i : Nat) (h : i < 305) (w : World) : (Instr.index 51 (.agg (nums .u32 xs).toArray) (.int .i64 i)).run Try.prog w = .ok (.int .u32 (xs.getD i 0)) w := by
  have hi : i < xs.length := by omega
  have hn : (0 : Int) ≤ i ∧ (i : Int) < (305 : Nat) := by omega
  have hs : (sizeOf 45).run Try.prog w = .ok 1 w := by kernel_rfl
  simp [Instr.index, run_underlying Try.underlying51, asIntOf, hn, go_sem]
  rw [if_pos h]
  simp [nums, hi, go_sem]
def sumL (xs : List Int) : Int := xs.foldl (fun s c => (s + c) % 18446744073709551616) 0
theorem sumL_take {xs : List Int} {i : Nat} (h : i < xs.length) : sumL (xs.take (i + 1)) = (sumL (xs.take i) + xs.getD i 0) % 18446744073709551616 := by
  unfold sumL
  rw [List.take_succ_eq_append_getElem h, List.foldl_append, List.getD_eq_getElem?_getD, List.getElem?_eq_getElem h]; rfl
theorem fold_mod : ∀ (zs : List Int) (s : Int), 0 ≤ s → s < 18446744073709551616 → zs.foldl (fun s c => (s + c) % 18446744073709551616) s = (s + zs.sum) % 18446744073709551616
  | [], s, h0, h1 => by simp; omega
  | z :: zs, s, h0, h1 => by
    rw [List.foldl_cons, fold_mod zs _ (by omega) (by omega), List.sum_cons]
    omega
theorem sum_bd : ∀ (xs : List Int), Cnt xs → 0 ≤ xs.sum ∧ xs.sum ≤ 4294967295 * xs.length
  | [], _ => by simp
  | x :: xs, h => by
    have a := h x List.mem_cons_self
    have b := sum_bd xs (fun y hy => h y (List.mem_cons_of_mem _ hy))
    rw [List.sum_cons, List.length_cons]
    omega
theorem sumL_is {xs : List Int} (h : Cnt xs) (hl : xs.length = 305) : sumL xs = xs.sum := by
  have := sum_bd xs h
  unfold sumL
  rw [fold_mod xs 0 (by decide) (by decide)]
  omega
set_option maxHeartbeats 4000000 in
set_option maxRecDepth 100000 in
theorem count_c (g : Nat) (xs : List Int) (w0 w : World) (hI : IsH w0 w g xs) (hx : Cnt xs) :
    Calls Try.prog 18 #[.pointer (some ⟨g, 0, none⟩)] w fun e w' => e = .returned (.int .u64 (sumL xs)) ∧ w' = w := by
  have HI := Aside0.mk hI
  have HX := Aside0.mk hx
  have hsz : (Try.prog.info? 51).map (·.size) = some 305 := by kernel_rfl
  have HSZ := Aside0.mk (show (Try.prog.info? 51).map (·.size) = some (nums .u32 xs).toArray.size by rw [hsz]; simp [nums, hI.2.1])
  clear hI hx hsz
  go_enter Try.func18, Try.ntmps18
  go_wp2_with (refine wpList_load_row rfl 51 (.tmp 10) rfl g rfl 53 _ (0, 0) _ HI.out.1 Try.underlying51 rfl HSZ.out ?_)
  have L := Aside0.mk HI.out.2.1
  go_loop [3, 12] (fun vn vi => ∃ i : Nat, vi = .int .i64 i ∧ vn = .int .u64 (sumL (xs.take i)) ∧ Aside0 (i ≤ 305)) (fun _ vi => (305 - intOf vi).toNat)
  case atStart => exact ⟨0, rfl, rfl, ⟨by omega⟩⟩
  case round =>
    obtain ⟨i, rfl, rfl, HL⟩ := hrel
    have l1 := HL.out
    by_cases hlt : i < 305
    · have hix := index_in xs L.out i hlt
      have c := HX.out.get i
      have E := Aside0.mk (sumL_take (xs := xs) (i := i) (by have := L.out; omega))
      obtain ⟨v, hv⟩ : ∃ v, xs.getD i 0 = v := ⟨_, rfl⟩
      rw [hv] at hix c E
      clear hv
      obtain ⟨s, hs⟩ : ∃ s, sumL (xs.take i) = s := ⟨_, rfl⟩
      rw [hs] at E ⊢
      clear hs
      go_wp2_with fail
      go_round
      case rel => exact ⟨i + 1, by go_num, by rw [E.out, IntKind.wrap_u64], ⟨by omega⟩⟩
      case measure => simp [intOf]; omega
    · have e : xs.take i = xs := List.take_of_length_le (by have := L.out; omega)
      rw [e]
      go_wp2_with fail
      go_ret
      exact ⟨rfl, rfl⟩
/-! ### the least number of a box -/
def leastV (b : Int) : Int × Int := if b < 0 ∨ 305 ≤ b then (0, 1) else if b < 16 then (b, 0) else (2 ^ (4 + (b - 16) / 8).toNat + (b - 16) % 8 * 2 ^ (1 + (b - 16) / 8).toNat, 0)
theorem least_q (b : Int) (h0 : -9223372036854775808 ≤ b) (h1 : b ≤ 9223372036854775807) (w : World) : Calls Try.prog 8 #[.int .i64 b] w fun e w' => e = .returned (.tuple #[.int .i64 (leastV b).1, .int .i64 (leastV b).2]) ∧ Drawn0 w w' := by
  unfold leastV
  by_cases hb : b < 0 ∨ 305 ≤ b
  · rw [if_pos hb]
    rcases hb with hb | hb
    · go_enter Try.func8, Try.ntmps8
      go_wp2_with fail
      go_ret2
      exact ⟨rfl, Drawn0.refl _⟩
    · have : ¬ b < 0 := by omega
      go_enter Try.func8, Try.ntmps8
      go_wp2_with fail
      go_ret2
      exact ⟨rfl, Drawn0.refl _⟩
  rw [if_neg hb]
  by_cases h16 : b < 16
  · rw [if_pos h16]
    have : ¬ b < 0 := by omega
    have : ¬ 305 ≤ b := by omega
    go_enter Try.func8, Try.ntmps8
    go_wp2_with fail
    go_ret2
    exact ⟨rfl, Drawn0.refl _⟩
  rw [if_neg h16]
  have n0 : ¬ b < 0 := by omega
  have n1 : ¬ 305 ≤ b := by omega
  have n2 : 16 ≤ b := by omega
  clear hb h16 h0 h1
  obtain ⟨q, hq⟩ : ∃ q : Nat, (b - 16) / 8 = (q : Int) := ⟨((b - 16) / 8).toNat, by omega⟩
  obtain ⟨r, hr⟩ : ∃ r : Nat, (b - 16) % 8 = (r : Int) := ⟨((b - 16) % 8).toNat, by omega⟩
  have hq36 : q ≤ 36 := by omega
  have hr8 : r < 8 := by omega
  rw [hq, hr, show ((4 : Int) + (q : Int)).toNat = 4 + q by omega, show ((1 : Int) + (q : Int)).toNat = 1 + q by omega]
  go_enter Try.func8, Try.ntmps8
  go_wp2_with fail
  go_quiet (fail)
  go_wp2_with fail
  go_ret2
  have hX : (2 : Int) ^ (4 + q) = 8 * 2 ^ (1 + q) := by rw [show 4 + q = (1 + q) + 3 by omega, Int.pow_add]; omega
  have hX0 : (0 : Int) < 2 ^ (1 + q) := Int.pow_pos (by decide)
  have hX1 : (2 : Int) ^ (1 + q) ≤ 137438953472 := by
    have := pow_int_le (show 1 + q ≤ 37 by omega)
    have e : (2 : Int) ^ 37 = 137438953472 := by decide
    omega
  have hr0 : (0 : Int) ≤ (r : Int) * 2 ^ (1 + q) := Int.mul_nonneg (by omega) (by omega)
  have hr1 : (r : Int) * 2 ^ (1 + q) ≤ 7 * 2 ^ (1 + q) := Int.mul_le_mul_of_nonneg_right (by omega) (by omega)
  refine ⟨?_, Drawn0.step (Drawn0.refl _) _⟩
  show Ending.returned (Value.tuple #[Value.int IntKind.i64 (wrap64 (wrap64 (2 ^ (4 + q)) + wrap64 ((r : Int) * 2 ^ (4 + q - 3)))), Value.int IntKind.i64 0]) = _
  rw [show 4 + q - 3 = 1 + q by omega, Base.w64 (x := (2 : Int) ^ (4 + q)) (by omega) (by omega), Base.w64 (x := (r : Int) * 2 ^ (1 + q)) (by omega) (by omega), Base.w64 (by omega) (by omega)]

/-! ### Quantile -/
def qw : List Int → Int → Int → Int × Int
  | [], _, _ => (0, 1)
  | c :: t, b, left => if left - c ≤ 0 then leastV b else qw t (b + 1) (left - c)
def quantV (xs : List Int) (part whole : Int) : Int × Int :=
  if part < 0 ∨ whole < part ∨ whole < 1 ∨ 1000000 < whole ∨ xs.sum = 0 then (0, 1) else qw xs 0 (mx ((xs.sum * part + whole - 1) / whole) 1)
theorem count_s (g : Nat) (xs : List Int) (s : Int) (w0 w : World) (hI : IsH w0 w g xs) (hx : Cnt xs) (hs : xs.sum = s) :
    Calls Try.prog 18 #[.pointer (some ⟨g, 0, none⟩)] w fun e w' => e = .returned (.int .u64 s) ∧ w' = w := by
  have := count_c g xs w0 w hI hx
  rw [sumL_is hx hI.2.1, hs] at this; exact this
set_option maxHeartbeats 4000000 in
set_option maxRecDepth 100000 in
theorem quant_no (g : Nat) (xs : List Int) (part whole : Int) (w0 w : World) (hI : IsH w0 w g xs) (hx : Cnt xs) (h : part < 0 ∨ whole < part ∨ whole < 1 ∨ 1000000 < whole ∨ xs.sum = 0) :
    Calls Try.prog 15 #[.pointer (some ⟨g, 0, none⟩), .int .i64 part, .int .i64 whole] w fun e w' => e = .returned (.tuple #[.int .i64 0, .int .i64 1]) ∧ Drawn0 w w' := by
  obtain ⟨s, hs⟩ : ∃ s, xs.sum = s := ⟨_, rfl⟩
  have HC := Aside0.mk (count_s g xs s w0 w hI hx hs)
  have b := sum_bd xs hx
  rw [hs] at h b
  have b0 := b.1
  clear hs b
  have H : part < 0 ∨ (0 ≤ part ∧ whole < part) ∨ (0 ≤ part ∧ part ≤ whole ∧ whole < 1) ∨ (0 ≤ part ∧ part ≤ whole ∧ 1 ≤ whole ∧ 1000000 < whole) ∨ (0 ≤ part ∧ part ≤ whole ∧ 1 ≤ whole ∧ whole ≤ 1000000 ∧ s = 0) := by omega
  clear h
  rcases H with h | ⟨a, h⟩ | ⟨a, b, h⟩ | ⟨a, b, c, h⟩ | ⟨a, b, c, d, rfl⟩
  all_goals
   go_enter Try.func15, Try.ntmps15
   go_wp2_with (go_at_call 18; (with_reducible refine HC.out.mono ?_); rintro e w1 ⟨rfl, rfl⟩)
   go_ret2
   exact ⟨rfl, Drawn0.refl _⟩
theorem sub_c (a b : Int) (ha0 : 0 ≤ a) (ha : a ≤ 4611686018427387904) (hb0 : 0 ≤ b) (hb : b ≤ 4294967295) (w : World) : Calls Try.prog 25 #[.int .i64 a, .int .i64 b] w fun e w' => e = .returned (.int .i64 (a - b)) ∧ Drawn0 w w' := by
  refine sat_Sub.calls a b (a - b) w ?_
  unfold sat_Sub.f
  rw [decide_eq_false (show ¬ a < 0 by omega), decide_eq_false (show ¬ b < 0 by omega), if_neg (by decide), Base.w64 (by omega) (by omega)]
theorem quiet_of_drawn {f : FuncId} {args : Array Value} {v : Value} {w : World} {n : Nat} (h : Calls Try.prog f args (w.drewN n) fun e w' => e = .returned v ∧ Drawn0 (w.drewN n) w') : Calls Try.prog f args (w.drewN n) fun e w'' => e = .returned v ∧ ∃ m, w'' = w.drewN m :=
  Calls.quiet_of (h.mono fun _ _ ⟨a, b⟩ => ⟨a, b.out⟩)
set_option maxHeartbeats 4000000 in
set_option maxRecDepth 100000 in
theorem quant_ok (g : Nat) (xs : List Int) (part whole : Int) (w0 w : World) (hI : IsH w0 w g xs) (hx : Cnt xs) (p0 : 0 ≤ part) (p1 : part ≤ whole) (p2 : 1 ≤ whole) (p3 : whole ≤ 1000000) (hs0 : xs.sum ≠ 0) (R : Int × Int) (hR : qw xs 0 (mx ((xs.sum * part + whole - 1) / whole) 1) = R) :
    Calls Try.prog 15 #[.pointer (some ⟨g, 0, none⟩), .int .i64 part, .int .i64 whole] w fun e w' => e = .returned (.tuple #[.int .i64 R.1, .int .i64 R.2]) ∧ Drawn0 w w' := by
  obtain ⟨s, hs⟩ : ∃ s, xs.sum = s := ⟨_, rfl⟩
  have HC := Aside0.mk (count_s g xs s w0 w hI hx hs)
  have b := sum_bd xs hx
  rw [hI.2.1] at b
  rw [hs] at hs0 b hR
  have b0 := b.1
  have b1 : s ≤ 1309965024975 := b.2
  have m0 : 0 ≤ s * part := Int.mul_nonneg b0 p0
  have m1 : s * part ≤ s * whole := Int.mul_le_mul_of_nonneg_left p1 b0
  have m2 : s * whole ≤ 1309965024975 * 1000000 := Int.mul_le_mul b1 p3 (by omega) (by decide)
  obtain ⟨t, ht⟩ : ∃ t, s * part = t := ⟨_, rfl⟩
  have ht1 : s * part ≤ 1309965024975000000 := by omega
  rw [ht] at m0 m1 ht1 hR
  obtain ⟨nd, hnd⟩ : ∃ nd, (t + whole - 1) / whole = nd := ⟨_, rfl⟩
  have nd0 : 0 ≤ nd := by rw [← hnd]; exact Int.ediv_nonneg (by omega) (by omega)
  have nd1 : nd ≤ s + 1 := by
    rw [← hnd]
    have : t + whole - 1 ≤ (s + 1) * whole := by rw [Int.add_mul]; omega
    exact Int.ediv_le_of_le_mul (by omega) this
  rw [hnd] at hR
  have s1 : ¬ s = 0 := hs0
  have s2 : (s == 0) = false := beq_eq_false_iff_ne.mpr hs0
  have HI := Aside0.mk hI
  have HX := Aside0.mk hx
  have HRR := Aside0.mk hR
  have L := Aside0.mk hI.2.1
  have hsz : (Try.prog.info? 51).map (·.size) = some 305 := by kernel_rfl
  have HSZ := Aside0.mk (show (Try.prog.info? 51).map (·.size) = some (nums .u32 xs).toArray.size by rw [hsz]; simp [nums, hI.2.1])
  clear hsz hI hx hR hs b hs0 m1 m2
  obtain ⟨left, hl⟩ : ∃ left, mx nd 1 = left := ⟨_, rfl⟩
  have hl' : 1 ≤ left ∧ left ≤ 1309965024977 ∧ ((1 ≤ nd ∧ nd = left) ∨ (nd = 0 ∧ left = 1)) := by rw [← hl]; unfold mx; split <;> omega
  have HRL := Aside0.mk (show qw xs 0 left = R by rw [← hl]; exact HRR.out)
  clear HRR hl
  obtain ⟨l0, l1, hl'⟩ := hl'
  rcases hl' with ⟨q0, rfl⟩ | ⟨rfl, rfl⟩
  all_goals
   go_enter Try.func15, Try.ntmps15
   go_wp2_with (first | (go_at_call 18; (with_reducible refine HC.out.mono ?_); rintro e w1 ⟨rfl, rfl⟩) | (refine wpList_load_row rfl 51 (.tmp 50) rfl g rfl 53 _ (0, 0) _ HI.out.1 Try.underlying51 rfl HSZ.out ?_))
   go_loopw [10, 52] (fun vl vi wr => ∃ (i : Nat) (left : Int), vi = .int .i64 i ∧ vl = .int .i64 left ∧ Aside0 (i ≤ 305) ∧ Aside0 (1 ≤ left ∧ left ≤ 1309965024977) ∧ Aside0 (qw (xs.drop i) i left = R) ∧ Drawn0 w1 wr) (fun _ vi _ => (305 - intOf vi).toNat)
   case atStart => exact ⟨0, _, rfl, by first | rfl | (rw [Base.w64 (by omega) (by omega)]), ⟨by omega⟩, ⟨by omega⟩, HRL, Drawn0.refl _⟩
   case round =>
    obtain ⟨i, y, rfl, rfl, HL, HY, HQ, HD⟩ := hrel
    have l1' := HL.out
    obtain ⟨y0, y1⟩ := HY.out
    by_cases hlt : i < 305
    · have hix := index_in xs L.out i hlt
      have c := HX.out.get i
      have hdr : xs.drop i = xs.getD i 0 :: xs.drop (i + 1) := by
        have hi : i < xs.length := by have := L.out; omega
        rw [List.drop_eq_getElem_cons hi, List.getD_eq_getElem?_getD, List.getElem?_eq_getElem hi]; rfl
      have q := HQ.out
      rw [hdr] at q
      obtain ⟨v, hv⟩ : ∃ v, xs.getD i 0 = v := ⟨_, rfl⟩
      rw [hv] at hix c q
      clear hv hdr
      rw [qw] at q
      have HS := Aside0.mk (sub_c y v (by omega) (by omega) c.1 c.2)
      by_cases hle : y - v ≤ 0
      · rw [if_pos hle] at q
        have hlq := least_q (i : Int) (by omega) (by omega)
        rw [q] at hlq
        have HLQ := Aside0.mk hlq
        clear q hlq
        go_wp2_with (first | (go_at_call 25; (with_reducible refine (HS.out _).mono ?_); rintro e w1 ⟨rfl, hd⟩; obtain ⟨n1, rfl⟩ := hd.out) | (go_at_call 8; (with_reducible refine (HLQ.out _).mono ?_); rintro e w1 ⟨rfl, hd⟩; obtain ⟨n2, rfl⟩ := hd.out))
        go_ret2
        exact ⟨rfl, HD.step _⟩
      · rw [if_neg hle] at q
        have HQ2 := Aside0.mk q
        clear q
        go_wp2_with (go_at_call 25; (with_reducible refine (HS.out _).mono ?_); rintro e w1 ⟨rfl, hd⟩; obtain ⟨n1, rfl⟩ := hd.out)
        go_roundw
        case rel => exact ⟨i + 1, y - v, by go_num, rfl, ⟨by omega⟩, ⟨by omega⟩, HQ2, HD.step _⟩
        case measure => simp [intOf]; omega
    · have e : xs.drop i = [] := List.drop_eq_nil_of_le (by have := L.out; omega)
      have q := HQ.out
      rw [e] at q
      have q1 : R = (0, 1) := q.symm
      subst q1
      clear q HQ
      go_wp2_with fail
      go_ret2
      exact ⟨rfl, HD⟩
end Go.Proofs.Ytmhhklmfnhgbbaa.Hst
