-- written by myprint.py, a program of this session, over the kit's print.py
import Derived.Test.YthpdologbfigcaaPAx0
import Derived.Test.YthpdologbfigcaaPAx1
import Derived.Test.YthpdologbfigcaaPAx2
import Derived.Test.YthpdologbfigcaaPAx4
namespace Go.Proofs.Ythpdologbfigcaa.PA
open Go.RowKit Go.Proofs.YthpdologbfigcaaW.PrintWords Go.Proofs.YthpdologbfigcaaW.PrintLast Go.Proofs.YthpdologbfigcaaW.PrintMore
attribute [local go_sem] max2_int min2_int max_two min_two max_three min_three max_four min_four   -- for this text's walks alone
set_option linter.unusedVariables false
set_option linter.unusedSimpArgs false

/-! ### garboardref02_Skip: function 26 -/
def garboardref02_Skip.l0 : Nat → List Int → Int → Int → Int → Option (Int × Int)
  | 0, _, _, _, _ => none
  | k + 1, x0, x1, x6, x7 => if x7 < x1 then (if 0 ≤ x6 then (if x6 ≤ (x0.length : Int) then ((garboardref02_Get.f k (x0.drop (x6 : Int).toNat)).bind fun bt209 => (if bt209.2.2 = 0 then (garboardref02_Skip.l0 k x0 x1 (wrap64 (x6 + bt209.2.1)) (wrap64 (x7 + 1))) else (some (0, bt209.2.2)))) else (none)) else (none)) else (some (x6, 0))
def garboardref02_Skip.f (k : Nat) (l0 : List Int) (a1 : Int) : Option (Int × Int) := garboardref02_Skip.l0 k l0 a1 0 0
theorem garboardref02_Skip.mono_l : ∀ k, (∀ y0 y1 y2 y3, LeO (garboardref02_Skip.l0 k y0 y1 y2 y3) (garboardref02_Skip.l0 (k + 1) y0 y1 y2 y3))
  | 0 => fun _ _ _ _ r h => by simp [garboardref02_Skip.l0] at h
  | k + 1 => by
    have ih0 := garboardref02_Skip.mono_l k
    · intro y0 y1 y2 y3
      unfold garboardref02_Skip.l0
      repeat' first
      | (with_reducible exact ih0 _ _ _ _)
      | (with_reducible exact garboardref02_Get.mono _ _)
      | (with_reducible exact LeO.refl _)
      | (with_reducible exact LeO.none _)
      | (with_reducible refine LeO.ite ?_ ?_)
      | (with_reducible refine LeO.bind ?_ (fun _ => ?_))
      | exact ih0 _ _ _ _
      | exact garboardref02_Get.mono _ _
      | exact LeO.none _
      | refine LeO.ite ?_ ?_
      | refine LeO.bind ?_ (fun _ => ?_)
theorem garboardref02_Skip.mono : ∀ a0 a1 k, LeO (garboardref02_Skip.f k a0 a1) (garboardref02_Skip.f (k + 1) a0 a1) := by
  intro a0 a1 k
  have ih0 := garboardref02_Skip.mono_l k
  unfold garboardref02_Skip.f
  repeat' first
      | (with_reducible exact ih0 _ _ _ _)
      | (with_reducible exact garboardref02_Get.mono _ _)
      | (with_reducible exact LeO.refl _)
      | (with_reducible exact LeO.none _)
      | (with_reducible refine LeO.ite ?_ ?_)
      | (with_reducible refine LeO.bind ?_ (fun _ => ?_))
      | exact ih0 _ _ _ _
      | exact garboardref02_Get.mono _ _
      | exact LeO.none _
      | refine LeO.ite ?_ ?_
      | refine LeO.bind ?_ (fun _ => ?_)
set_option maxHeartbeats 8000000 in
set_option maxRecDepth 100000 in
theorem garboardref02_Skip.calls (k : Nat) (A0 : Option Addr) (c0 : Nat) (l0 : List Int) (a1 : Int) (r1 : Int) (r2 : Int) (w : World) (hr0 : Kd.C (Kd.int .u8) w A0 l0.length l0) (hc0 : l0.length ≤ c0) (h : garboardref02_Skip.f k l0 a1 = some (r1, r2)) :
    Calls Try.prog 26 #[.slice A0 l0.length c0, .int .i64 a1] w fun e w' => e = .returned (.tuple #[.int .i64 r1, .int .i64 r2]) ∧ Drawn0 w w' := by
  have HR0 := Aside0.mk hr0
  have HC0 := Aside0.mk hc0
  clear hr0 hc0
  have H : (garboardref02_Skip.l0 k l0 a1 0 0) = some (r1, r2) := h
  clear h
  have H' := Aside0.mk H
  clear H
  go_enter Try.func26, Try.ntmps26
  go_wp2
  go_loopg [6, 7] k (fun kq v6 v7 w' => ∃ (x6_1 : Int) (x7_1 : Int), v6 = .int .i64 x6_1 ∧ v7 = .int .i64 x7_1 ∧ Aside0 (garboardref02_Skip.l0 kq l0 a1 x6_1 x7_1 = some (r1, r2)) ∧ Aside0 (kq ≤ k) ∧ Drawn0 w w')
  case atStart => exact ⟨(0), (0), (by first | rfl | (simp; done) | (simp [*]; done)), (by first | rfl | (simp; done) | (simp [*]; done)), H', ⟨Nat.le_refl _⟩, by repeat (first | exact Drawn0.refl _ | apply Drawn0.step)⟩
  case round =>
    clear H'
    try clear c2
    try clear p2
    obtain ⟨x6_1, x7_1, rfl, rfl, HA, HK1, ⟨m1, rfl⟩⟩ := hrel
    cases gk with
    | zero => exact absurd HA.out (by simp [garboardref02_Skip.l0])
    | succ k1 =>
      have H := HA.out
      clear HA
      simp only [garboardref02_Skip.l0] at H
      by_cases c3 : x7_1 < a1
      · rw [if_pos c3] at H
        have c3b0 : decide (x7_1 < a1) = true := decide_eq_true c3
        clear c3
        by_cases c4 : 0 ≤ x6_1
        · rw [if_pos c4] at H
          have c4b0 := eq_true c4
          have c4b1 : decide (0 ≤ x6_1) = true := decide_eq_true c4
          clear c4
          by_cases c5 : x6_1 ≤ (l0.length : Int)
          · rw [if_pos c5] at H
            have c5b0 := eq_true c5
            have c5b1 : decide (x6_1 ≤ (l0.length : Int)) = true := decide_eq_true c5
            clear c5
            replace H := Option.bind_eq_some_iff.mp H
            obtain ⟨⟨t209, t210, t211⟩, A60, H⟩ := H
            replace H : (if t211 = 0 then (garboardref02_Skip.l0 k1 l0 a1 (wrap64 (x6_1 + t210)) (wrap64 (x7_1 + 1))) else (some (0, t211))) = some (r1, r2) := H
            have A6 := Aside0.mk A60
            clear A60
            by_cases c7 : t211 = 0
            · rw [if_pos c7] at H
              have c7b0 : (t211 == 0) = true := beq_iff_eq.mpr c7
              have c7b1 : (t211 != 0) = false := bne_eq_false_iff_eq.mpr c7
              clear c7
              have H' := Aside0.mk H
              clear H
              obtain ⟨i08, hi08, _, hsz8, _⟩ := info_parts info5
              obtain ⟨A8, hcut8, hA8, hC8⟩ := print_drop_of (P := Try.prog) (Value.int .u8) 0 22 5 .i64 Try.underlying22 hi08 hsz8 A0 c0 l0 x6_1 (of_decide_eq_true (by first | (with_reducible assumption) | assumption)) (of_decide_eq_true (by first | (with_reducible assumption) | assumption)) HC0.out
              have HR208 := Aside0.mk (Kd.C_of_reads (h1 := fun _ => rfl) (hA8 _ (Kd.reads_of_C HR0.out)))
              have HC208 := Aside0.mk hC8
              clear hA8 hC8 hi08 hsz8
              go_wp2_with (first | ((with_reducible refine gate_callee (f := 11) rfl ?_); refine goesL_ (some 20) rfl rfl Try.func11 (by kernel_rfl) rfl #[.slice A8 (l0.drop (x6_1 : Int).toNat).length (c0 - x6_1.toNat)] rfl (by (try simp only [List.map_toArray, List.map_cons, List.map_nil]); first | done | (rw [show (l0.drop (x6_1 : Int).toNat).length = (l0.length - x6_1.toNat) from List.length_drop] <;> rfl) | rfl | (simp only [List.length_drop, List.length_take]; rfl)) ?_; (with_reducible refine (garboardref02_Get.calls k1 _ _ (l0.drop (x6_1 : Int).toNat) t209 t210 t211 _ ?side1 ?side2 A6.out).mono ?_); (case side1 => repeat (first | exact HR208.out | (with_reducible refine Kd.C_alloc ?_ _) | (with_reducible refine Kd.C_drewN ?_ _) | (with_reducible refine Kd.C_drew ?_))); (case side2 => exact HC208.out); rintro e w' ⟨rfl, ⟨nd, rfl⟩⟩; refine ⟨_, rfl, ?_⟩))
              go_roundg k1
              case measure => have := HK1.out; omega
              case rel => exact ⟨(wrap64 (x6_1 + t210)), (wrap64 (x7_1 + 1)), (by first | rfl | (simp; done) | (simp [*]; done)), (by first | rfl | (simp; done) | (simp [*]; done)), H', ⟨by have := HK1.out; omega⟩, by repeat (first | exact Drawn0.refl _ | apply Drawn0.step)⟩
            · rw [if_neg c7] at H
              have c7b0 : (t211 == 0) = false := beq_eq_false_iff_ne.mpr c7
              have c7b1 : (t211 != 0) = true := bne_iff_ne.mpr c7
              simp only [Option.some.injEq, Prod.mk.injEq] at H
              obtain ⟨rfl, rfl⟩ := H
              obtain ⟨i09, hi09, _, hsz9, _⟩ := info_parts info5
              obtain ⟨A9, hcut9, hA9, hC9⟩ := print_drop_of (P := Try.prog) (Value.int .u8) 0 22 5 .i64 Try.underlying22 hi09 hsz9 A0 c0 l0 x6_1 (of_decide_eq_true (by first | (with_reducible assumption) | assumption)) (of_decide_eq_true (by first | (with_reducible assumption) | assumption)) HC0.out
              have HR208 := Aside0.mk (Kd.C_of_reads (h1 := fun _ => rfl) (hA9 _ (Kd.reads_of_C HR0.out)))
              have HC208 := Aside0.mk hC9
              clear hA9 hC9 hi09 hsz9
              go_wp2_with (first | ((with_reducible refine gate_callee (f := 11) rfl ?_); refine goesL_ (some 20) rfl rfl Try.func11 (by kernel_rfl) rfl #[.slice A9 (l0.drop (x6_1 : Int).toNat).length (c0 - x6_1.toNat)] rfl (by (try simp only [List.map_toArray, List.map_cons, List.map_nil]); first | done | (rw [show (l0.drop (x6_1 : Int).toNat).length = (l0.length - x6_1.toNat) from List.length_drop] <;> rfl) | rfl | (simp only [List.length_drop, List.length_take]; rfl)) ?_; (with_reducible refine (garboardref02_Get.calls k1 _ _ (l0.drop (x6_1 : Int).toNat) t209 t210 t211 _ ?side1 ?side2 A6.out).mono ?_); (case side1 => repeat (first | exact HR208.out | (with_reducible refine Kd.C_alloc ?_ _) | (with_reducible refine Kd.C_drewN ?_ _) | (with_reducible refine Kd.C_drew ?_))); (case side2 => exact HC208.out); rintro e w' ⟨rfl, ⟨nd, rfl⟩⟩; refine ⟨_, rfl, ?_⟩))
              go_ret2
              exact ⟨by first | rfl | (simp; done) | (simp [*]; done), by repeat (first | exact Drawn0.refl _ | apply Drawn0.step)⟩
          · rw [if_neg c5] at H
            exact absurd H (by simp)
        · rw [if_neg c4] at H
          exact absurd H (by simp)
      · rw [if_neg c3] at H
        have c3b0 : decide (x7_1 < a1) = false := decide_eq_false c3
        clear c3
        simp only [Option.some.injEq, Prod.mk.injEq] at H
        obtain ⟨rfl, rfl⟩ := H
        go_wp2
        go_ret2
        exact ⟨by first | rfl | (simp; done) | (simp [*]; done), by repeat (first | exact Drawn0.refl _ | apply Drawn0.step)⟩

/-! ### garboardlaw02_VarintLists: function 7 -/
mutual
def garboardlaw02_VarintLists.j0 : Nat → List Int → List Int → Bool → Option (Bool)
  | 0, _, _, _ => none
  | k + 1, x11, x13, x97 => if x97 = true then (some false) else (garboardlaw02_VarintLists.l0 k x11 x13 (x11.length : Int) 0)
def garboardlaw02_VarintLists.l0 : Nat → List Int → List Int → Int → Int → Option (Bool)
  | 0, _, _, _, _ => none
  | k + 1, x11, x13, x99, x100 => if x100 < x99 then (if 0 ≤ x100 then (if x100 < (x11.length : Int) then (if x100 < (x13.length : Int) then (if (rd x11 x100) = (rd x13 x100) then (garboardlaw02_VarintLists.l0 k x11 x13 x99 (wrap64 (x100 + 1))) else (some false)) else (none)) else (none)) else (none)) else ((garboardlaw02_alive.f k).bind fun t238 => (some t238))
end
def garboardlaw02_VarintLists.f (k : Nat) (l0 : List Int) (a1 : Int) : Option (Bool) := (garboardlaw02_long.f l0).bind fun t212 => (if t212 = true then ((garboardlaw02_alive.f k).bind fun t213 => (some t213)) else ((varint_GetBytes.f k l0 a1).bind fun bt214 => ((garboardref02_GetBytes.f k l0 a1).bind fun bt219 => ((varint_All.f k l0 a1).bind fun bt224 => ((garboardref02_All.f k l0 a1).bind fun bt228 => ((varint_Skip.f k l0 a1).bind fun bt232 => ((garboardref02_Skip.f k l0 a1).bind fun bt234 => (if (strOfNums bt214.1).toList = (strOfNums bt219.1).toList then (if bt214.2.1 = bt219.2.1 then (if bt214.2.2 = bt219.2.2 then (if (bt224.1.length : Int) = (bt228.1.length : Int) then (if bt224.2 = bt228.2 then (if bt232.1 = bt234.1 then (garboardlaw02_VarintLists.j0 k bt224.1 bt228.1 (bt232.2 != bt234.2)) else (garboardlaw02_VarintLists.j0 k bt224.1 bt228.1 true)) else (garboardlaw02_VarintLists.j0 k bt224.1 bt228.1 true)) else (garboardlaw02_VarintLists.j0 k bt224.1 bt228.1 true)) else (garboardlaw02_VarintLists.j0 k bt224.1 bt228.1 true)) else (garboardlaw02_VarintLists.j0 k bt224.1 bt228.1 true)) else (garboardlaw02_VarintLists.j0 k bt224.1 bt228.1 true)))))))))
theorem garboardlaw02_VarintLists.mono_l : ∀ k, (∀ y0 y1 y2, LeO (garboardlaw02_VarintLists.j0 k y0 y1 y2) (garboardlaw02_VarintLists.j0 (k + 1) y0 y1 y2)) ∧ (∀ y0 y1 y2 y3, LeO (garboardlaw02_VarintLists.l0 k y0 y1 y2 y3) (garboardlaw02_VarintLists.l0 (k + 1) y0 y1 y2 y3))
  | 0 => ⟨fun _ _ _ r h => by simp [garboardlaw02_VarintLists.j0] at h, fun _ _ _ _ r h => by simp [garboardlaw02_VarintLists.l0] at h⟩
  | k + 1 => by
    obtain ⟨ih0, ih1⟩ := garboardlaw02_VarintLists.mono_l k
    refine ⟨?_, ?_⟩
    · intro y0 y1 y2
      unfold garboardlaw02_VarintLists.j0
      repeat' first
      | (with_reducible exact ih0 _ _ _)
      | (with_reducible exact ih1 _ _ _ _)
      | (with_reducible exact garboardlaw02_alive.mono _)
      | (with_reducible exact garboardref02_All.mono _ _ _)
      | (with_reducible exact garboardref02_GetBytes.mono _ _ _)
      | (with_reducible exact garboardref02_Skip.mono _ _ _)
      | (with_reducible exact varint_All.mono _ _ _)
      | (with_reducible exact varint_GetBytes.mono _ _ _)
      | (with_reducible exact varint_Skip.mono _ _ _)
      | (with_reducible exact LeO.refl _)
      | (with_reducible exact LeO.none _)
      | (with_reducible refine LeO.ite ?_ ?_)
      | (with_reducible refine LeO.bind ?_ (fun _ => ?_))
      | exact ih0 _ _ _
      | exact ih1 _ _ _ _
      | exact garboardlaw02_alive.mono _
      | exact garboardref02_All.mono _ _ _
      | exact garboardref02_GetBytes.mono _ _ _
      | exact garboardref02_Skip.mono _ _ _
      | exact varint_All.mono _ _ _
      | exact varint_GetBytes.mono _ _ _
      | exact varint_Skip.mono _ _ _
      | exact LeO.none _
      | refine LeO.ite ?_ ?_
      | refine LeO.bind ?_ (fun _ => ?_)
    · intro y0 y1 y2 y3
      unfold garboardlaw02_VarintLists.l0
      repeat' first
      | (with_reducible exact ih0 _ _ _)
      | (with_reducible exact ih1 _ _ _ _)
      | (with_reducible exact garboardlaw02_alive.mono _)
      | (with_reducible exact garboardref02_All.mono _ _ _)
      | (with_reducible exact garboardref02_GetBytes.mono _ _ _)
      | (with_reducible exact garboardref02_Skip.mono _ _ _)
      | (with_reducible exact varint_All.mono _ _ _)
      | (with_reducible exact varint_GetBytes.mono _ _ _)
      | (with_reducible exact varint_Skip.mono _ _ _)
      | (with_reducible exact LeO.refl _)
      | (with_reducible exact LeO.none _)
      | (with_reducible refine LeO.ite ?_ ?_)
      | (with_reducible refine LeO.bind ?_ (fun _ => ?_))
      | exact ih0 _ _ _
      | exact ih1 _ _ _ _
      | exact garboardlaw02_alive.mono _
      | exact garboardref02_All.mono _ _ _
      | exact garboardref02_GetBytes.mono _ _ _
      | exact garboardref02_Skip.mono _ _ _
      | exact varint_All.mono _ _ _
      | exact varint_GetBytes.mono _ _ _
      | exact varint_Skip.mono _ _ _
      | exact LeO.none _
      | refine LeO.ite ?_ ?_
      | refine LeO.bind ?_ (fun _ => ?_)
theorem garboardlaw02_VarintLists.mono : ∀ a0 a1 k, LeO (garboardlaw02_VarintLists.f k a0 a1) (garboardlaw02_VarintLists.f (k + 1) a0 a1) := by
  intro a0 a1 k
  obtain ⟨ih0, ih1⟩ := garboardlaw02_VarintLists.mono_l k
  unfold garboardlaw02_VarintLists.f
  repeat' first
      | (with_reducible exact ih0 _ _ _)
      | (with_reducible exact ih1 _ _ _ _)
      | (with_reducible exact garboardlaw02_alive.mono _)
      | (with_reducible exact garboardref02_All.mono _ _ _)
      | (with_reducible exact garboardref02_GetBytes.mono _ _ _)
      | (with_reducible exact garboardref02_Skip.mono _ _ _)
      | (with_reducible exact varint_All.mono _ _ _)
      | (with_reducible exact varint_GetBytes.mono _ _ _)
      | (with_reducible exact varint_Skip.mono _ _ _)
      | (with_reducible exact LeO.refl _)
      | (with_reducible exact LeO.none _)
      | (with_reducible refine LeO.ite ?_ ?_)
      | (with_reducible refine LeO.bind ?_ (fun _ => ?_))
      | exact ih0 _ _ _
      | exact ih1 _ _ _ _
      | exact garboardlaw02_alive.mono _
      | exact garboardref02_All.mono _ _ _
      | exact garboardref02_GetBytes.mono _ _ _
      | exact garboardref02_Skip.mono _ _ _
      | exact varint_All.mono _ _ _
      | exact varint_GetBytes.mono _ _ _
      | exact varint_Skip.mono _ _ _
      | exact LeO.none _
      | refine LeO.ite ?_ ?_
      | refine LeO.bind ?_ (fun _ => ?_)
set_option maxHeartbeats 8000000 in
set_option maxRecDepth 100000 in
theorem garboardlaw02_VarintLists.calls (k : Nat) (A0 : Option Addr) (c0 : Nat) (l0 : List Int) (a1 : Int) (r : Bool) (w : World) (hr0 : Kd.C (Kd.int .u8) w A0 l0.length l0) (hc0 : l0.length ≤ c0) (h : garboardlaw02_VarintLists.f k l0 a1 = some r) :
    Calls Try.prog 7 #[.slice A0 l0.length c0, .int .i64 a1] w fun e w' => e = .returned (.bool r) ∧ Below w.heap.size w w' := by
  have HR0 := Aside0.mk hr0
  have HC0 := Aside0.mk hc0
  clear hr0 hc0
  have HB := Aside0.mk (Below.refl w.heap.size w)
  have H : ((garboardlaw02_long.f l0).bind fun t212 => (if t212 = true then ((garboardlaw02_alive.f k).bind fun t213 => (some t213)) else ((varint_GetBytes.f k l0 a1).bind fun bt214 => ((garboardref02_GetBytes.f k l0 a1).bind fun bt219 => ((varint_All.f k l0 a1).bind fun bt224 => ((garboardref02_All.f k l0 a1).bind fun bt228 => ((varint_Skip.f k l0 a1).bind fun bt232 => ((garboardref02_Skip.f k l0 a1).bind fun bt234 => (if (strOfNums bt214.1).toList = (strOfNums bt219.1).toList then (if bt214.2.1 = bt219.2.1 then (if bt214.2.2 = bt219.2.2 then (if (bt224.1.length : Int) = (bt228.1.length : Int) then (if bt224.2 = bt228.2 then (if bt232.1 = bt234.1 then (garboardlaw02_VarintLists.j0 k bt224.1 bt228.1 (bt232.2 != bt234.2)) else (garboardlaw02_VarintLists.j0 k bt224.1 bt228.1 true)) else (garboardlaw02_VarintLists.j0 k bt224.1 bt228.1 true)) else (garboardlaw02_VarintLists.j0 k bt224.1 bt228.1 true)) else (garboardlaw02_VarintLists.j0 k bt224.1 bt228.1 true)) else (garboardlaw02_VarintLists.j0 k bt224.1 bt228.1 true)) else (garboardlaw02_VarintLists.j0 k bt224.1 bt228.1 true)))))))))) = some r := h
  clear h
  replace H := Option.bind_eq_some_iff.mp H
  obtain ⟨t212, A30, H⟩ := H
  replace H : (if t212 = true then ((garboardlaw02_alive.f k).bind fun t213 => (some t213)) else ((varint_GetBytes.f k l0 a1).bind fun bt214 => ((garboardref02_GetBytes.f k l0 a1).bind fun bt219 => ((varint_All.f k l0 a1).bind fun bt224 => ((garboardref02_All.f k l0 a1).bind fun bt228 => ((varint_Skip.f k l0 a1).bind fun bt232 => ((garboardref02_Skip.f k l0 a1).bind fun bt234 => (if (strOfNums bt214.1).toList = (strOfNums bt219.1).toList then (if bt214.2.1 = bt219.2.1 then (if bt214.2.2 = bt219.2.2 then (if (bt224.1.length : Int) = (bt228.1.length : Int) then (if bt224.2 = bt228.2 then (if bt232.1 = bt234.1 then (garboardlaw02_VarintLists.j0 k bt224.1 bt228.1 (bt232.2 != bt234.2)) else (garboardlaw02_VarintLists.j0 k bt224.1 bt228.1 true)) else (garboardlaw02_VarintLists.j0 k bt224.1 bt228.1 true)) else (garboardlaw02_VarintLists.j0 k bt224.1 bt228.1 true)) else (garboardlaw02_VarintLists.j0 k bt224.1 bt228.1 true)) else (garboardlaw02_VarintLists.j0 k bt224.1 bt228.1 true)) else (garboardlaw02_VarintLists.j0 k bt224.1 bt228.1 true))))))))) = some r := H
  have A3 := Aside0.mk A30
  clear A30
  by_cases c4 : t212 = true
  · subst c4
    have H1 : ((garboardlaw02_alive.f k).bind fun t213 => (some t213)) = some r := by rw [if_pos rfl] at H; exact H
    clear H
    have H := H1
    clear H1
    replace H := Option.bind_eq_some_iff.mp H
    obtain ⟨t213, A50, H⟩ := H
    replace H : (some t213) = some r := H
    have A5 := Aside0.mk A50
    clear A50
    obtain rfl := Option.some.inj H
    go_enter Try.func7, Try.ntmps7
    go_wp2_with (first | (go_at_call 8; (with_reducible refine (garboardlaw02_long.calls _ _ l0 true _ ?side1 ?side2 A3.out).mono ?_); (case side1 => repeat (first | exact HR0.out | (with_reducible refine Kd.C_alloc ?_ _) | (with_reducible refine Kd.C_drewN ?_ _) | (with_reducible refine Kd.C_drew ?_))); (case side2 => exact HC0.out); rintro e w' ⟨rfl, ⟨nd, rfl⟩⟩; (try first | exact ⟨rfl, _, World.drewN_drewN _ _ _⟩ | exact ⟨rfl, _, Eq.trans (World.drewN_drewN _ _ _) (congrArg (World.drewN _) (Nat.add_assoc _ _ _))⟩)) | (go_at_call 9; (with_reducible refine (garboardlaw02_alive.calls k  t213 _ A5.out).mono ?_); rintro e w6 ⟨rfl, hb⟩; have n0_ := Aside0.mk (below_step (by repeat (first | (with_reducible first | exact HB.out | apply below_alloc | apply pw_below_drewN | apply below_drew1) | exact HB.out | (with_reducible exact Below.refl _ _))) hb); clear HB; have HB := n0_; clear n0_; (try clear hb); (try clear hb2); (try clear hk); (try clear hi)))
    repeat (go_quiet (first | (go_at_call 8; (with_reducible refine (garboardlaw02_long.calls _ _ l0 true _ ?side1 ?side2 A3.out).mono ?_); (case side1 => repeat (first | exact HR0.out | (with_reducible refine Kd.C_alloc ?_ _) | (with_reducible refine Kd.C_drewN ?_ _) | (with_reducible refine Kd.C_drew ?_))); (case side2 => exact HC0.out); rintro e w' ⟨rfl, ⟨nd, rfl⟩⟩; (try first | exact ⟨rfl, _, World.drewN_drewN _ _ _⟩ | exact ⟨rfl, _, Eq.trans (World.drewN_drewN _ _ _) (congrArg (World.drewN _) (Nat.add_assoc _ _ _))⟩)) | (go_at_call 9; (with_reducible refine (garboardlaw02_alive.calls k  t213 _ A5.out).mono ?_); rintro e w6 ⟨rfl, hb⟩; have n0_ := Aside0.mk (below_step (by repeat (first | (with_reducible first | exact HB.out | apply below_alloc | apply pw_below_drewN | apply below_drew1) | exact HB.out | (with_reducible exact Below.refl _ _))) hb); clear HB; have HB := n0_; clear n0_; (try clear hb); (try clear hb2); (try clear hk); (try clear hi))); try go_wp2_with (first | (go_at_call 8; (with_reducible refine (garboardlaw02_long.calls _ _ l0 true _ ?side1 ?side2 A3.out).mono ?_); (case side1 => repeat (first | exact HR0.out | (with_reducible refine Kd.C_alloc ?_ _) | (with_reducible refine Kd.C_drewN ?_ _) | (with_reducible refine Kd.C_drew ?_))); (case side2 => exact HC0.out); rintro e w' ⟨rfl, ⟨nd, rfl⟩⟩; (try first | exact ⟨rfl, _, World.drewN_drewN _ _ _⟩ | exact ⟨rfl, _, Eq.trans (World.drewN_drewN _ _ _) (congrArg (World.drewN _) (Nat.add_assoc _ _ _))⟩)) | (go_at_call 9; (with_reducible refine (garboardlaw02_alive.calls k  t213 _ A5.out).mono ?_); rintro e w6 ⟨rfl, hb⟩; have n0_ := Aside0.mk (below_step (by repeat (first | (with_reducible first | exact HB.out | apply below_alloc | apply pw_below_drewN | apply below_drew1) | exact HB.out | (with_reducible exact Below.refl _ _))) hb); clear HB; have HB := n0_; clear n0_; (try clear hb); (try clear hb2); (try clear hk); (try clear hi))))
    go_ret
    exact ⟨by first | rfl | (simp [errW_none, errW_some] <;> rfl) | (simp [*, errW_none, errW_some] <;> rfl), by repeat (first | (with_reducible first | exact HB.out | apply below_alloc | apply pw_below_drewN | apply below_drew1) | exact HB.out | (with_reducible exact Below.refl _ _))⟩
  · replace c4 := Bool.eq_false_iff.mpr c4
    subst c4
    have H1 : ((varint_GetBytes.f k l0 a1).bind fun bt214 => ((garboardref02_GetBytes.f k l0 a1).bind fun bt219 => ((varint_All.f k l0 a1).bind fun bt224 => ((garboardref02_All.f k l0 a1).bind fun bt228 => ((varint_Skip.f k l0 a1).bind fun bt232 => ((garboardref02_Skip.f k l0 a1).bind fun bt234 => (if (strOfNums bt214.1).toList = (strOfNums bt219.1).toList then (if bt214.2.1 = bt219.2.1 then (if bt214.2.2 = bt219.2.2 then (if (bt224.1.length : Int) = (bt228.1.length : Int) then (if bt224.2 = bt228.2 then (if bt232.1 = bt234.1 then (garboardlaw02_VarintLists.j0 k bt224.1 bt228.1 (bt232.2 != bt234.2)) else (garboardlaw02_VarintLists.j0 k bt224.1 bt228.1 true)) else (garboardlaw02_VarintLists.j0 k bt224.1 bt228.1 true)) else (garboardlaw02_VarintLists.j0 k bt224.1 bt228.1 true)) else (garboardlaw02_VarintLists.j0 k bt224.1 bt228.1 true)) else (garboardlaw02_VarintLists.j0 k bt224.1 bt228.1 true)) else (garboardlaw02_VarintLists.j0 k bt224.1 bt228.1 true)))))))) = some r := by rw [if_neg (show ¬ (false = true) by decide)] at H; exact H
    clear H
    have H := H1
    clear H1
    replace H := Option.bind_eq_some_iff.mp H
    obtain ⟨⟨t214, t215, t216⟩, A70, H⟩ := H
    replace H : ((garboardref02_GetBytes.f k l0 a1).bind fun bt219 => ((varint_All.f k l0 a1).bind fun bt224 => ((garboardref02_All.f k l0 a1).bind fun bt228 => ((varint_Skip.f k l0 a1).bind fun bt232 => ((garboardref02_Skip.f k l0 a1).bind fun bt234 => (if (strOfNums t214).toList = (strOfNums bt219.1).toList then (if t215 = bt219.2.1 then (if t216 = bt219.2.2 then (if (bt224.1.length : Int) = (bt228.1.length : Int) then (if bt224.2 = bt228.2 then (if bt232.1 = bt234.1 then (garboardlaw02_VarintLists.j0 k bt224.1 bt228.1 (bt232.2 != bt234.2)) else (garboardlaw02_VarintLists.j0 k bt224.1 bt228.1 true)) else (garboardlaw02_VarintLists.j0 k bt224.1 bt228.1 true)) else (garboardlaw02_VarintLists.j0 k bt224.1 bt228.1 true)) else (garboardlaw02_VarintLists.j0 k bt224.1 bt228.1 true)) else (garboardlaw02_VarintLists.j0 k bt224.1 bt228.1 true)) else (garboardlaw02_VarintLists.j0 k bt224.1 bt228.1 true))))))) = some r := H
    have A7 := Aside0.mk A70
    clear A70
    replace H := Option.bind_eq_some_iff.mp H
    obtain ⟨⟨t219, t220, t221⟩, A80, H⟩ := H
    replace H : ((varint_All.f k l0 a1).bind fun bt224 => ((garboardref02_All.f k l0 a1).bind fun bt228 => ((varint_Skip.f k l0 a1).bind fun bt232 => ((garboardref02_Skip.f k l0 a1).bind fun bt234 => (if (strOfNums t214).toList = (strOfNums t219).toList then (if t215 = t220 then (if t216 = t221 then (if (bt224.1.length : Int) = (bt228.1.length : Int) then (if bt224.2 = bt228.2 then (if bt232.1 = bt234.1 then (garboardlaw02_VarintLists.j0 k bt224.1 bt228.1 (bt232.2 != bt234.2)) else (garboardlaw02_VarintLists.j0 k bt224.1 bt228.1 true)) else (garboardlaw02_VarintLists.j0 k bt224.1 bt228.1 true)) else (garboardlaw02_VarintLists.j0 k bt224.1 bt228.1 true)) else (garboardlaw02_VarintLists.j0 k bt224.1 bt228.1 true)) else (garboardlaw02_VarintLists.j0 k bt224.1 bt228.1 true)) else (garboardlaw02_VarintLists.j0 k bt224.1 bt228.1 true)))))) = some r := H
    have A8 := Aside0.mk A80
    clear A80
    replace H := Option.bind_eq_some_iff.mp H
    obtain ⟨⟨t224, t227⟩, A90, H⟩ := H
    replace H : ((garboardref02_All.f k l0 a1).bind fun bt228 => ((varint_Skip.f k l0 a1).bind fun bt232 => ((garboardref02_Skip.f k l0 a1).bind fun bt234 => (if (strOfNums t214).toList = (strOfNums t219).toList then (if t215 = t220 then (if t216 = t221 then (if (t224.length : Int) = (bt228.1.length : Int) then (if t227 = bt228.2 then (if bt232.1 = bt234.1 then (garboardlaw02_VarintLists.j0 k t224 bt228.1 (bt232.2 != bt234.2)) else (garboardlaw02_VarintLists.j0 k t224 bt228.1 true)) else (garboardlaw02_VarintLists.j0 k t224 bt228.1 true)) else (garboardlaw02_VarintLists.j0 k t224 bt228.1 true)) else (garboardlaw02_VarintLists.j0 k t224 bt228.1 true)) else (garboardlaw02_VarintLists.j0 k t224 bt228.1 true)) else (garboardlaw02_VarintLists.j0 k t224 bt228.1 true))))) = some r := H
    have A9 := Aside0.mk A90
    clear A90
    replace H := Option.bind_eq_some_iff.mp H
    obtain ⟨⟨t228, t231⟩, A100, H⟩ := H
    replace H : ((varint_Skip.f k l0 a1).bind fun bt232 => ((garboardref02_Skip.f k l0 a1).bind fun bt234 => (if (strOfNums t214).toList = (strOfNums t219).toList then (if t215 = t220 then (if t216 = t221 then (if (t224.length : Int) = (t228.length : Int) then (if t227 = t231 then (if bt232.1 = bt234.1 then (garboardlaw02_VarintLists.j0 k t224 t228 (bt232.2 != bt234.2)) else (garboardlaw02_VarintLists.j0 k t224 t228 true)) else (garboardlaw02_VarintLists.j0 k t224 t228 true)) else (garboardlaw02_VarintLists.j0 k t224 t228 true)) else (garboardlaw02_VarintLists.j0 k t224 t228 true)) else (garboardlaw02_VarintLists.j0 k t224 t228 true)) else (garboardlaw02_VarintLists.j0 k t224 t228 true)))) = some r := H
    have A10 := Aside0.mk A100
    clear A100
    replace H := Option.bind_eq_some_iff.mp H
    obtain ⟨⟨t232, t233⟩, A110, H⟩ := H
    replace H : ((garboardref02_Skip.f k l0 a1).bind fun bt234 => (if (strOfNums t214).toList = (strOfNums t219).toList then (if t215 = t220 then (if t216 = t221 then (if (t224.length : Int) = (t228.length : Int) then (if t227 = t231 then (if t232 = bt234.1 then (garboardlaw02_VarintLists.j0 k t224 t228 (t233 != bt234.2)) else (garboardlaw02_VarintLists.j0 k t224 t228 true)) else (garboardlaw02_VarintLists.j0 k t224 t228 true)) else (garboardlaw02_VarintLists.j0 k t224 t228 true)) else (garboardlaw02_VarintLists.j0 k t224 t228 true)) else (garboardlaw02_VarintLists.j0 k t224 t228 true)) else (garboardlaw02_VarintLists.j0 k t224 t228 true))) = some r := H
    have A11 := Aside0.mk A110
    clear A110
    replace H := Option.bind_eq_some_iff.mp H
    obtain ⟨⟨t234, t235⟩, A120, H⟩ := H
    replace H : (if (strOfNums t214).toList = (strOfNums t219).toList then (if t215 = t220 then (if t216 = t221 then (if (t224.length : Int) = (t228.length : Int) then (if t227 = t231 then (if t232 = t234 then (garboardlaw02_VarintLists.j0 k t224 t228 (t233 != t235)) else (garboardlaw02_VarintLists.j0 k t224 t228 true)) else (garboardlaw02_VarintLists.j0 k t224 t228 true)) else (garboardlaw02_VarintLists.j0 k t224 t228 true)) else (garboardlaw02_VarintLists.j0 k t224 t228 true)) else (garboardlaw02_VarintLists.j0 k t224 t228 true)) else (garboardlaw02_VarintLists.j0 k t224 t228 true)) = some r := H
    have A12 := Aside0.mk A120
    clear A120
    have HC13 := Aside0.mk H
    clear H
    go_enter Try.func7, Try.ntmps7
    go_upto_region 9 with (first | (go_at_call 8; (with_reducible refine (garboardlaw02_long.calls _ _ l0 false _ ?side1 ?side2 A3.out).mono ?_); (case side1 => repeat (first | exact HR0.out | (with_reducible refine Kd.C_alloc ?_ _) | (with_reducible refine Kd.C_drewN ?_ _) | (with_reducible refine Kd.C_drew ?_))); (case side2 => exact HC0.out); rintro e w' ⟨rfl, ⟨nd, rfl⟩⟩; (try first | exact ⟨rfl, _, World.drewN_drewN _ _ _⟩ | exact ⟨rfl, _, Eq.trans (World.drewN_drewN _ _ _) (congrArg (World.drewN _) (Nat.add_assoc _ _ _))⟩)) | (go_at_call 22; (with_reducible refine (varint_GetBytes.calls k _ _ l0 a1 t214 t215 t216 _ ?side1 ?side2 A7.out).mono ?_); (case side1 => repeat (first | exact HR0.out | (with_reducible refine Kd.C_alloc ?_ _) | (with_reducible refine Kd.C_drewN ?_ _) | (with_reducible refine Kd.C_drew ?_))); (case side2 => exact HC0.out); rintro e w14 ⟨v217, rfl, ho0, hb⟩; have n0_ := Aside0.mk (Kd.R_lower ho0 (below_size (by repeat (first | (with_reducible first | exact HB.out | apply below_alloc | apply pw_below_drewN | apply below_drew1) | exact HB.out | (with_reducible exact Below.refl _ _))))); have n1_ := Aside0.mk (below_step (by repeat (first | (with_reducible first | exact HB.out | apply below_alloc | apply pw_below_drewN | apply below_drew1) | exact HB.out | (with_reducible exact Below.refl _ _))) hb); clear HB; have HO218 := n0_; have HB := n1_; clear n0_ n1_; (try clear hb); (try clear hb2); (try clear hk); (try clear hi); (try clear ho0)) | (go_at_call 23; (with_reducible refine (garboardref02_GetBytes.calls k _ _ l0 a1 t219 t220 t221 _ ?side1 ?side2 A8.out).mono ?_); (case side1 => repeat (first | exact (Kd.C_below HR0.out HB.out) | exact HR0.out | (with_reducible refine Kd.C_alloc ?_ _) | (with_reducible refine Kd.C_drewN ?_ _) | (with_reducible refine Kd.C_drew ?_))); (case side2 => exact HC0.out); rintro e w15 ⟨v222, rfl, ho0, hb⟩; have n0_ := Aside0.mk (Kd.R_elder' (by (with_reducible repeat (first | apply Kd.R_alloc | apply Kd.R_drewN | apply Kd.R_drew)); exact HO218.out) (Kd.R_base ho0) hb); have n1_ := Aside0.mk (Kd.R_lower (Kd.R_new' ho0 (Kd.R_lt (by (with_reducible repeat (first | apply Kd.R_alloc | apply Kd.R_drewN | apply Kd.R_drew)); exact HO218.out))) (below_size (by repeat (first | (with_reducible first | exact HB.out | apply below_alloc | apply pw_below_drewN | apply below_drew1) | exact HB.out | (with_reducible exact Below.refl _ _))))); have n2_ := Aside0.mk (below_step (by repeat (first | (with_reducible first | exact HB.out | apply below_alloc | apply pw_below_drewN | apply below_drew1) | exact HB.out | (with_reducible exact Below.refl _ _))) hb); clear HO218; clear HB; have HO218 := n0_; have HO223 := n1_; have HB := n2_; clear n0_ n1_ n2_; (try clear hb); (try clear hb2); (try clear hk); (try clear hi); (try clear ho0)) | (go_at_call 13; (with_reducible refine (varint_All.calls k (fun k_ => k_ < w.heap.size) _ _ l0 a1 t224 t227 _ ?side1 A9.out).mono ?_); (case side1 => exact Kd.V_mk HC0.out (Kd.F_below (Kd.C_F (Kd.heap_int .u8) HR0.out) (by repeat (first | (with_reducible first | exact HB.out | apply below_alloc | apply pw_below_drewN | apply below_drew1) | exact HB.out | (with_reducible exact Below.refl _ _))))); rintro e w16 ⟨v225, rfl, ho0, hb⟩; have n0_ := Aside0.mk (Kd.R_below (by (with_reducible repeat (first | apply Kd.R_alloc | apply Kd.R_drewN | apply Kd.R_drew)); exact HO218.out) hb); have n1_ := Aside0.mk (Kd.R_below (by (with_reducible repeat (first | apply Kd.R_alloc | apply Kd.R_drewN | apply Kd.R_drew)); exact HO223.out) hb); have n2_ := Aside0.mk (Kd.R_lower (Kd.R_mono (ok' := fun k_ => True) ho0 (fun _ hk_ => trivial)) (below_size (by repeat (first | (with_reducible first | exact HB.out | apply below_alloc | apply pw_below_drewN | apply below_drew1) | exact HB.out | (with_reducible exact Below.refl _ _))))); have n3_ := Aside0.mk (below_step (by repeat (first | (with_reducible first | exact HB.out | apply below_alloc | apply pw_below_drewN | apply below_drew1) | exact HB.out | (with_reducible exact Below.refl _ _))) hb); clear HO218; clear HO223; clear HB; have HO218 := n0_; have HO223 := n1_; have HO226 := n2_; have HB := n3_; clear n0_ n1_ n2_ n3_; (try clear hb); (try clear hb2); (try clear hk); (try clear hi); (try clear ho0)) | (go_at_call 24; (with_reducible refine (garboardref02_All.calls k (fun k_ => k_ < w.heap.size) _ _ l0 a1 t228 t231 _ ?side1 A10.out).mono ?_); (case side1 => exact Kd.V_mk HC0.out (Kd.F_below (Kd.C_F (Kd.heap_int .u8) HR0.out) (by repeat (first | (with_reducible first | exact HB.out | apply below_alloc | apply pw_below_drewN | apply below_drew1) | exact HB.out | (with_reducible exact Below.refl _ _))))); rintro e w17 ⟨v229, rfl, ho0, hb⟩; have n0_ := Aside0.mk (Kd.R_below (by (with_reducible repeat (first | apply Kd.R_alloc | apply Kd.R_drewN | apply Kd.R_drew)); exact HO218.out) hb); have n1_ := Aside0.mk (Kd.R_below (by (with_reducible repeat (first | apply Kd.R_alloc | apply Kd.R_drewN | apply Kd.R_drew)); exact HO223.out) hb); have n2_ := Aside0.mk (Kd.R_elder' (by (with_reducible repeat (first | apply Kd.R_alloc | apply Kd.R_drewN | apply Kd.R_drew)); exact HO226.out) (Kd.R_base ho0) hb); have n3_ := Aside0.mk (Kd.R_lower (Kd.R_new' (Kd.R_mono (ok' := fun k_ => True) ho0 (fun _ hk_ => trivial)) (Kd.R_lt (by (with_reducible repeat (first | apply Kd.R_alloc | apply Kd.R_drewN | apply Kd.R_drew)); exact HO226.out))) (below_size (by repeat (first | (with_reducible first | exact HB.out | apply below_alloc | apply pw_below_drewN | apply below_drew1) | exact HB.out | (with_reducible exact Below.refl _ _))))); have n4_ := Aside0.mk (below_step (by repeat (first | (with_reducible first | exact HB.out | apply below_alloc | apply pw_below_drewN | apply below_drew1) | exact HB.out | (with_reducible exact Below.refl _ _))) hb); clear HO218; clear HO223; clear HO226; clear HB; have HO218 := n0_; have HO223 := n1_; have HO226 := n2_; have HO230 := n3_; have HB := n4_; clear n0_ n1_ n2_ n3_ n4_; (try clear hb); (try clear hb2); (try clear hk); (try clear hi); (try clear ho0)) | (go_at_call 25; (with_reducible refine (varint_Skip.calls k _ _ l0 a1 t232 t233 _ ?side1 ?side2 A11.out).mono ?_); (case side1 => repeat (first | exact (Kd.C_below HR0.out HB.out) | exact HR0.out | (with_reducible refine Kd.C_alloc ?_ _) | (with_reducible refine Kd.C_drewN ?_ _) | (with_reducible refine Kd.C_drew ?_))); (case side2 => exact HC0.out); rintro e w18 ⟨rfl, hb⟩; have n0_ := Aside0.mk (Kd.R_below (by (with_reducible repeat (first | apply Kd.R_alloc | apply Kd.R_drewN | apply Kd.R_drew)); exact HO218.out) hb); have n1_ := Aside0.mk (Kd.R_below (by (with_reducible repeat (first | apply Kd.R_alloc | apply Kd.R_drewN | apply Kd.R_drew)); exact HO223.out) hb); have n2_ := Aside0.mk (Kd.R_below (by (with_reducible repeat (first | apply Kd.R_alloc | apply Kd.R_drewN | apply Kd.R_drew)); exact HO226.out) hb); have n3_ := Aside0.mk (Kd.R_below (by (with_reducible repeat (first | apply Kd.R_alloc | apply Kd.R_drewN | apply Kd.R_drew)); exact HO230.out) hb); have n4_ := Aside0.mk (below_step (by repeat (first | (with_reducible first | exact HB.out | apply below_alloc | apply pw_below_drewN | apply below_drew1) | exact HB.out | (with_reducible exact Below.refl _ _))) hb); clear HO218; clear HO223; clear HO226; clear HO230; clear HB; have HO218 := n0_; have HO223 := n1_; have HO226 := n2_; have HO230 := n3_; have HB := n4_; clear n0_ n1_ n2_ n3_ n4_; (try clear hb); (try clear hb2); (try clear hk); (try clear hi)) | (go_at_call 26; (with_reducible refine (garboardref02_Skip.calls k _ _ l0 a1 t234 t235 _ ?side1 ?side2 A12.out).mono ?_); (case side1 => repeat (first | exact (Kd.C_below HR0.out HB.out) | exact HR0.out | (with_reducible refine Kd.C_alloc ?_ _) | (with_reducible refine Kd.C_drewN ?_ _) | (with_reducible refine Kd.C_drew ?_))); (case side2 => exact HC0.out); rintro e w' ⟨rfl, ⟨nd, rfl⟩⟩; (try first | exact ⟨rfl, _, World.drewN_drewN _ _ _⟩ | exact ⟨rfl, _, Eq.trans (World.drewN_drewN _ _ _) (congrArg (World.drewN _) (Nat.add_assoc _ _ _))⟩)))
    repeat (go_quiet (first | (go_at_call 8; (with_reducible refine (garboardlaw02_long.calls _ _ l0 false _ ?side1 ?side2 A3.out).mono ?_); (case side1 => repeat (first | exact HR0.out | (with_reducible refine Kd.C_alloc ?_ _) | (with_reducible refine Kd.C_drewN ?_ _) | (with_reducible refine Kd.C_drew ?_))); (case side2 => exact HC0.out); rintro e w' ⟨rfl, ⟨nd, rfl⟩⟩; (try first | exact ⟨rfl, _, World.drewN_drewN _ _ _⟩ | exact ⟨rfl, _, Eq.trans (World.drewN_drewN _ _ _) (congrArg (World.drewN _) (Nat.add_assoc _ _ _))⟩)) | (go_at_call 22; (with_reducible refine (varint_GetBytes.calls k _ _ l0 a1 t214 t215 t216 _ ?side1 ?side2 A7.out).mono ?_); (case side1 => repeat (first | exact HR0.out | (with_reducible refine Kd.C_alloc ?_ _) | (with_reducible refine Kd.C_drewN ?_ _) | (with_reducible refine Kd.C_drew ?_))); (case side2 => exact HC0.out); rintro e w14 ⟨v217, rfl, ho0, hb⟩; have n0_ := Aside0.mk (Kd.R_lower ho0 (below_size (by repeat (first | (with_reducible first | exact HB.out | apply below_alloc | apply pw_below_drewN | apply below_drew1) | exact HB.out | (with_reducible exact Below.refl _ _))))); have n1_ := Aside0.mk (below_step (by repeat (first | (with_reducible first | exact HB.out | apply below_alloc | apply pw_below_drewN | apply below_drew1) | exact HB.out | (with_reducible exact Below.refl _ _))) hb); clear HB; have HO218 := n0_; have HB := n1_; clear n0_ n1_; (try clear hb); (try clear hb2); (try clear hk); (try clear hi); (try clear ho0)) | (go_at_call 23; (with_reducible refine (garboardref02_GetBytes.calls k _ _ l0 a1 t219 t220 t221 _ ?side1 ?side2 A8.out).mono ?_); (case side1 => repeat (first | exact (Kd.C_below HR0.out HB.out) | exact HR0.out | (with_reducible refine Kd.C_alloc ?_ _) | (with_reducible refine Kd.C_drewN ?_ _) | (with_reducible refine Kd.C_drew ?_))); (case side2 => exact HC0.out); rintro e w15 ⟨v222, rfl, ho0, hb⟩; have n0_ := Aside0.mk (Kd.R_elder' (by (with_reducible repeat (first | apply Kd.R_alloc | apply Kd.R_drewN | apply Kd.R_drew)); exact HO218.out) (Kd.R_base ho0) hb); have n1_ := Aside0.mk (Kd.R_lower (Kd.R_new' ho0 (Kd.R_lt (by (with_reducible repeat (first | apply Kd.R_alloc | apply Kd.R_drewN | apply Kd.R_drew)); exact HO218.out))) (below_size (by repeat (first | (with_reducible first | exact HB.out | apply below_alloc | apply pw_below_drewN | apply below_drew1) | exact HB.out | (with_reducible exact Below.refl _ _))))); have n2_ := Aside0.mk (below_step (by repeat (first | (with_reducible first | exact HB.out | apply below_alloc | apply pw_below_drewN | apply below_drew1) | exact HB.out | (with_reducible exact Below.refl _ _))) hb); clear HO218; clear HB; have HO218 := n0_; have HO223 := n1_; have HB := n2_; clear n0_ n1_ n2_; (try clear hb); (try clear hb2); (try clear hk); (try clear hi); (try clear ho0)) | (go_at_call 13; (with_reducible refine (varint_All.calls k (fun k_ => k_ < w.heap.size) _ _ l0 a1 t224 t227 _ ?side1 A9.out).mono ?_); (case side1 => exact Kd.V_mk HC0.out (Kd.F_below (Kd.C_F (Kd.heap_int .u8) HR0.out) (by repeat (first | (with_reducible first | exact HB.out | apply below_alloc | apply pw_below_drewN | apply below_drew1) | exact HB.out | (with_reducible exact Below.refl _ _))))); rintro e w16 ⟨v225, rfl, ho0, hb⟩; have n0_ := Aside0.mk (Kd.R_below (by (with_reducible repeat (first | apply Kd.R_alloc | apply Kd.R_drewN | apply Kd.R_drew)); exact HO218.out) hb); have n1_ := Aside0.mk (Kd.R_below (by (with_reducible repeat (first | apply Kd.R_alloc | apply Kd.R_drewN | apply Kd.R_drew)); exact HO223.out) hb); have n2_ := Aside0.mk (Kd.R_lower (Kd.R_mono (ok' := fun k_ => True) ho0 (fun _ hk_ => trivial)) (below_size (by repeat (first | (with_reducible first | exact HB.out | apply below_alloc | apply pw_below_drewN | apply below_drew1) | exact HB.out | (with_reducible exact Below.refl _ _))))); have n3_ := Aside0.mk (below_step (by repeat (first | (with_reducible first | exact HB.out | apply below_alloc | apply pw_below_drewN | apply below_drew1) | exact HB.out | (with_reducible exact Below.refl _ _))) hb); clear HO218; clear HO223; clear HB; have HO218 := n0_; have HO223 := n1_; have HO226 := n2_; have HB := n3_; clear n0_ n1_ n2_ n3_; (try clear hb); (try clear hb2); (try clear hk); (try clear hi); (try clear ho0)) | (go_at_call 24; (with_reducible refine (garboardref02_All.calls k (fun k_ => k_ < w.heap.size) _ _ l0 a1 t228 t231 _ ?side1 A10.out).mono ?_); (case side1 => exact Kd.V_mk HC0.out (Kd.F_below (Kd.C_F (Kd.heap_int .u8) HR0.out) (by repeat (first | (with_reducible first | exact HB.out | apply below_alloc | apply pw_below_drewN | apply below_drew1) | exact HB.out | (with_reducible exact Below.refl _ _))))); rintro e w17 ⟨v229, rfl, ho0, hb⟩; have n0_ := Aside0.mk (Kd.R_below (by (with_reducible repeat (first | apply Kd.R_alloc | apply Kd.R_drewN | apply Kd.R_drew)); exact HO218.out) hb); have n1_ := Aside0.mk (Kd.R_below (by (with_reducible repeat (first | apply Kd.R_alloc | apply Kd.R_drewN | apply Kd.R_drew)); exact HO223.out) hb); have n2_ := Aside0.mk (Kd.R_elder' (by (with_reducible repeat (first | apply Kd.R_alloc | apply Kd.R_drewN | apply Kd.R_drew)); exact HO226.out) (Kd.R_base ho0) hb); have n3_ := Aside0.mk (Kd.R_lower (Kd.R_new' (Kd.R_mono (ok' := fun k_ => True) ho0 (fun _ hk_ => trivial)) (Kd.R_lt (by (with_reducible repeat (first | apply Kd.R_alloc | apply Kd.R_drewN | apply Kd.R_drew)); exact HO226.out))) (below_size (by repeat (first | (with_reducible first | exact HB.out | apply below_alloc | apply pw_below_drewN | apply below_drew1) | exact HB.out | (with_reducible exact Below.refl _ _))))); have n4_ := Aside0.mk (below_step (by repeat (first | (with_reducible first | exact HB.out | apply below_alloc | apply pw_below_drewN | apply below_drew1) | exact HB.out | (with_reducible exact Below.refl _ _))) hb); clear HO218; clear HO223; clear HO226; clear HB; have HO218 := n0_; have HO223 := n1_; have HO226 := n2_; have HO230 := n3_; have HB := n4_; clear n0_ n1_ n2_ n3_ n4_; (try clear hb); (try clear hb2); (try clear hk); (try clear hi); (try clear ho0)) | (go_at_call 25; (with_reducible refine (varint_Skip.calls k _ _ l0 a1 t232 t233 _ ?side1 ?side2 A11.out).mono ?_); (case side1 => repeat (first | exact (Kd.C_below HR0.out HB.out) | exact HR0.out | (with_reducible refine Kd.C_alloc ?_ _) | (with_reducible refine Kd.C_drewN ?_ _) | (with_reducible refine Kd.C_drew ?_))); (case side2 => exact HC0.out); rintro e w18 ⟨rfl, hb⟩; have n0_ := Aside0.mk (Kd.R_below (by (with_reducible repeat (first | apply Kd.R_alloc | apply Kd.R_drewN | apply Kd.R_drew)); exact HO218.out) hb); have n1_ := Aside0.mk (Kd.R_below (by (with_reducible repeat (first | apply Kd.R_alloc | apply Kd.R_drewN | apply Kd.R_drew)); exact HO223.out) hb); have n2_ := Aside0.mk (Kd.R_below (by (with_reducible repeat (first | apply Kd.R_alloc | apply Kd.R_drewN | apply Kd.R_drew)); exact HO226.out) hb); have n3_ := Aside0.mk (Kd.R_below (by (with_reducible repeat (first | apply Kd.R_alloc | apply Kd.R_drewN | apply Kd.R_drew)); exact HO230.out) hb); have n4_ := Aside0.mk (below_step (by repeat (first | (with_reducible first | exact HB.out | apply below_alloc | apply pw_below_drewN | apply below_drew1) | exact HB.out | (with_reducible exact Below.refl _ _))) hb); clear HO218; clear HO223; clear HO226; clear HO230; clear HB; have HO218 := n0_; have HO223 := n1_; have HO226 := n2_; have HO230 := n3_; have HB := n4_; clear n0_ n1_ n2_ n3_ n4_; (try clear hb); (try clear hb2); (try clear hk); (try clear hi)) | (go_at_call 26; (with_reducible refine (garboardref02_Skip.calls k _ _ l0 a1 t234 t235 _ ?side1 ?side2 A12.out).mono ?_); (case side1 => repeat (first | exact (Kd.C_below HR0.out HB.out) | exact HR0.out | (with_reducible refine Kd.C_alloc ?_ _) | (with_reducible refine Kd.C_drewN ?_ _) | (with_reducible refine Kd.C_drew ?_))); (case side2 => exact HC0.out); rintro e w' ⟨rfl, ⟨nd, rfl⟩⟩; (try first | exact ⟨rfl, _, World.drewN_drewN _ _ _⟩ | exact ⟨rfl, _, Eq.trans (World.drewN_drewN _ _ _) (congrArg (World.drewN _) (Nat.add_assoc _ _ _))⟩))); go_upto_region 9 with (first | (go_at_call 8; (with_reducible refine (garboardlaw02_long.calls _ _ l0 false _ ?side1 ?side2 A3.out).mono ?_); (case side1 => repeat (first | exact HR0.out | (with_reducible refine Kd.C_alloc ?_ _) | (with_reducible refine Kd.C_drewN ?_ _) | (with_reducible refine Kd.C_drew ?_))); (case side2 => exact HC0.out); rintro e w' ⟨rfl, ⟨nd, rfl⟩⟩; (try first | exact ⟨rfl, _, World.drewN_drewN _ _ _⟩ | exact ⟨rfl, _, Eq.trans (World.drewN_drewN _ _ _) (congrArg (World.drewN _) (Nat.add_assoc _ _ _))⟩)) | (go_at_call 22; (with_reducible refine (varint_GetBytes.calls k _ _ l0 a1 t214 t215 t216 _ ?side1 ?side2 A7.out).mono ?_); (case side1 => repeat (first | exact HR0.out | (with_reducible refine Kd.C_alloc ?_ _) | (with_reducible refine Kd.C_drewN ?_ _) | (with_reducible refine Kd.C_drew ?_))); (case side2 => exact HC0.out); rintro e w14 ⟨v217, rfl, ho0, hb⟩; have n0_ := Aside0.mk (Kd.R_lower ho0 (below_size (by repeat (first | (with_reducible first | exact HB.out | apply below_alloc | apply pw_below_drewN | apply below_drew1) | exact HB.out | (with_reducible exact Below.refl _ _))))); have n1_ := Aside0.mk (below_step (by repeat (first | (with_reducible first | exact HB.out | apply below_alloc | apply pw_below_drewN | apply below_drew1) | exact HB.out | (with_reducible exact Below.refl _ _))) hb); clear HB; have HO218 := n0_; have HB := n1_; clear n0_ n1_; (try clear hb); (try clear hb2); (try clear hk); (try clear hi); (try clear ho0)) | (go_at_call 23; (with_reducible refine (garboardref02_GetBytes.calls k _ _ l0 a1 t219 t220 t221 _ ?side1 ?side2 A8.out).mono ?_); (case side1 => repeat (first | exact (Kd.C_below HR0.out HB.out) | exact HR0.out | (with_reducible refine Kd.C_alloc ?_ _) | (with_reducible refine Kd.C_drewN ?_ _) | (with_reducible refine Kd.C_drew ?_))); (case side2 => exact HC0.out); rintro e w15 ⟨v222, rfl, ho0, hb⟩; have n0_ := Aside0.mk (Kd.R_elder' (by (with_reducible repeat (first | apply Kd.R_alloc | apply Kd.R_drewN | apply Kd.R_drew)); exact HO218.out) (Kd.R_base ho0) hb); have n1_ := Aside0.mk (Kd.R_lower (Kd.R_new' ho0 (Kd.R_lt (by (with_reducible repeat (first | apply Kd.R_alloc | apply Kd.R_drewN | apply Kd.R_drew)); exact HO218.out))) (below_size (by repeat (first | (with_reducible first | exact HB.out | apply below_alloc | apply pw_below_drewN | apply below_drew1) | exact HB.out | (with_reducible exact Below.refl _ _))))); have n2_ := Aside0.mk (below_step (by repeat (first | (with_reducible first | exact HB.out | apply below_alloc | apply pw_below_drewN | apply below_drew1) | exact HB.out | (with_reducible exact Below.refl _ _))) hb); clear HO218; clear HB; have HO218 := n0_; have HO223 := n1_; have HB := n2_; clear n0_ n1_ n2_; (try clear hb); (try clear hb2); (try clear hk); (try clear hi); (try clear ho0)) | (go_at_call 13; (with_reducible refine (varint_All.calls k (fun k_ => k_ < w.heap.size) _ _ l0 a1 t224 t227 _ ?side1 A9.out).mono ?_); (case side1 => exact Kd.V_mk HC0.out (Kd.F_below (Kd.C_F (Kd.heap_int .u8) HR0.out) (by repeat (first | (with_reducible first | exact HB.out | apply below_alloc | apply pw_below_drewN | apply below_drew1) | exact HB.out | (with_reducible exact Below.refl _ _))))); rintro e w16 ⟨v225, rfl, ho0, hb⟩; have n0_ := Aside0.mk (Kd.R_below (by (with_reducible repeat (first | apply Kd.R_alloc | apply Kd.R_drewN | apply Kd.R_drew)); exact HO218.out) hb); have n1_ := Aside0.mk (Kd.R_below (by (with_reducible repeat (first | apply Kd.R_alloc | apply Kd.R_drewN | apply Kd.R_drew)); exact HO223.out) hb); have n2_ := Aside0.mk (Kd.R_lower (Kd.R_mono (ok' := fun k_ => True) ho0 (fun _ hk_ => trivial)) (below_size (by repeat (first | (with_reducible first | exact HB.out | apply below_alloc | apply pw_below_drewN | apply below_drew1) | exact HB.out | (with_reducible exact Below.refl _ _))))); have n3_ := Aside0.mk (below_step (by repeat (first | (with_reducible first | exact HB.out | apply below_alloc | apply pw_below_drewN | apply below_drew1) | exact HB.out | (with_reducible exact Below.refl _ _))) hb); clear HO218; clear HO223; clear HB; have HO218 := n0_; have HO223 := n1_; have HO226 := n2_; have HB := n3_; clear n0_ n1_ n2_ n3_; (try clear hb); (try clear hb2); (try clear hk); (try clear hi); (try clear ho0)) | (go_at_call 24; (with_reducible refine (garboardref02_All.calls k (fun k_ => k_ < w.heap.size) _ _ l0 a1 t228 t231 _ ?side1 A10.out).mono ?_); (case side1 => exact Kd.V_mk HC0.out (Kd.F_below (Kd.C_F (Kd.heap_int .u8) HR0.out) (by repeat (first | (with_reducible first | exact HB.out | apply below_alloc | apply pw_below_drewN | apply below_drew1) | exact HB.out | (with_reducible exact Below.refl _ _))))); rintro e w17 ⟨v229, rfl, ho0, hb⟩; have n0_ := Aside0.mk (Kd.R_below (by (with_reducible repeat (first | apply Kd.R_alloc | apply Kd.R_drewN | apply Kd.R_drew)); exact HO218.out) hb); have n1_ := Aside0.mk (Kd.R_below (by (with_reducible repeat (first | apply Kd.R_alloc | apply Kd.R_drewN | apply Kd.R_drew)); exact HO223.out) hb); have n2_ := Aside0.mk (Kd.R_elder' (by (with_reducible repeat (first | apply Kd.R_alloc | apply Kd.R_drewN | apply Kd.R_drew)); exact HO226.out) (Kd.R_base ho0) hb); have n3_ := Aside0.mk (Kd.R_lower (Kd.R_new' (Kd.R_mono (ok' := fun k_ => True) ho0 (fun _ hk_ => trivial)) (Kd.R_lt (by (with_reducible repeat (first | apply Kd.R_alloc | apply Kd.R_drewN | apply Kd.R_drew)); exact HO226.out))) (below_size (by repeat (first | (with_reducible first | exact HB.out | apply below_alloc | apply pw_below_drewN | apply below_drew1) | exact HB.out | (with_reducible exact Below.refl _ _))))); have n4_ := Aside0.mk (below_step (by repeat (first | (with_reducible first | exact HB.out | apply below_alloc | apply pw_below_drewN | apply below_drew1) | exact HB.out | (with_reducible exact Below.refl _ _))) hb); clear HO218; clear HO223; clear HO226; clear HB; have HO218 := n0_; have HO223 := n1_; have HO226 := n2_; have HO230 := n3_; have HB := n4_; clear n0_ n1_ n2_ n3_ n4_; (try clear hb); (try clear hb2); (try clear hk); (try clear hi); (try clear ho0)) | (go_at_call 25; (with_reducible refine (varint_Skip.calls k _ _ l0 a1 t232 t233 _ ?side1 ?side2 A11.out).mono ?_); (case side1 => repeat (first | exact (Kd.C_below HR0.out HB.out) | exact HR0.out | (with_reducible refine Kd.C_alloc ?_ _) | (with_reducible refine Kd.C_drewN ?_ _) | (with_reducible refine Kd.C_drew ?_))); (case side2 => exact HC0.out); rintro e w18 ⟨rfl, hb⟩; have n0_ := Aside0.mk (Kd.R_below (by (with_reducible repeat (first | apply Kd.R_alloc | apply Kd.R_drewN | apply Kd.R_drew)); exact HO218.out) hb); have n1_ := Aside0.mk (Kd.R_below (by (with_reducible repeat (first | apply Kd.R_alloc | apply Kd.R_drewN | apply Kd.R_drew)); exact HO223.out) hb); have n2_ := Aside0.mk (Kd.R_below (by (with_reducible repeat (first | apply Kd.R_alloc | apply Kd.R_drewN | apply Kd.R_drew)); exact HO226.out) hb); have n3_ := Aside0.mk (Kd.R_below (by (with_reducible repeat (first | apply Kd.R_alloc | apply Kd.R_drewN | apply Kd.R_drew)); exact HO230.out) hb); have n4_ := Aside0.mk (below_step (by repeat (first | (with_reducible first | exact HB.out | apply below_alloc | apply pw_below_drewN | apply below_drew1) | exact HB.out | (with_reducible exact Below.refl _ _))) hb); clear HO218; clear HO223; clear HO226; clear HO230; clear HB; have HO218 := n0_; have HO223 := n1_; have HO226 := n2_; have HO230 := n3_; have HB := n4_; clear n0_ n1_ n2_ n3_ n4_; (try clear hb); (try clear hb2); (try clear hk); (try clear hi)) | (go_at_call 26; (with_reducible refine (garboardref02_Skip.calls k _ _ l0 a1 t234 t235 _ ?side1 ?side2 A12.out).mono ?_); (case side1 => repeat (first | exact (Kd.C_below HR0.out HB.out) | exact HR0.out | (with_reducible refine Kd.C_alloc ?_ _) | (with_reducible refine Kd.C_drewN ?_ _) | (with_reducible refine Kd.C_drew ?_))); (case side2 => exact HC0.out); rintro e w' ⟨rfl, ⟨nd, rfl⟩⟩; (try first | exact ⟨rfl, _, World.drewN_drewN _ _ _⟩ | exact ⟨rfl, _, Eq.trans (World.drewN_drewN _ _ _) (congrArg (World.drewN _) (Nat.add_assoc _ _ _))⟩))))
    (try simp only [Act.put, List.setIfInBounds_toArray, List.set_cons_zero, List.set_cons_succ])
    go_cut [97] (fun v97 wc => ∃ (kq : Nat) (x97_12 : Bool), v97 = .bool x97_12 ∧ Aside0 (garboardlaw02_VarintLists.j0 kq t224 t228 x97_12 = some r) ∧ Aside0 (kq ≤ k) ∧ Aside0 (Kd.R (Kd.int .u64) 25 wc w.heap.size (fun k_ => some k_ ≠ (v229 : Value).ownBlock) v225 t224) ∧ Aside0 (Kd.R (Kd.int .u64) 25 wc w.heap.size (fun k_ => some k_ ≠ (v225 : Value).ownBlock) v229 t228) ∧ Aside0 (Below w.heap.size w wc))
    case first =>
      have H := HC13.out
      clear HC13
      by_cases c19 : (strOfNums t214).toList = (strOfNums t219).toList
      · rw [if_pos c19] at H
        have c19b0 : ((strOfNums t214).toList == (strOfNums t219).toList) = true := beq_iff_eq.mpr c19
        have c19b1 : ((strOfNums t214).toList != (strOfNums t219).toList) = false := bne_eq_false_iff_eq.mpr c19
        clear c19
        (first | rw [c19b0] | (simp only [i64_w, i32_w]; rw [c19b0]) | skip)
        by_cases c20 : t215 = t220
        · rw [if_pos c20] at H
          have c20b0 : (t215 == t220) = true := beq_iff_eq.mpr c20
          have c20b1 : (t215 != t220) = false := bne_eq_false_iff_eq.mpr c20
          clear c20
          by_cases c21 : t216 = t221
          · rw [if_pos c21] at H
            have c21b0 : (t216 == t221) = true := beq_iff_eq.mpr c21
            have c21b1 : (t216 != t221) = false := bne_eq_false_iff_eq.mpr c21
            clear c21
            by_cases c22 : (t224.length : Int) = (t228.length : Int)
            · rw [if_pos c22] at H
              have c22b0 : ((t224.length : Int) == (t228.length : Int)) = true := beq_iff_eq.mpr c22
              have c22b1 : ((t224.length : Int) != (t228.length : Int)) = false := bne_eq_false_iff_eq.mpr c22
              have c22b2 : (t224.length == t228.length) = true := by first | simpa using c22 | (simp at c22 ⊢; omega)
              clear c22
              by_cases c23 : t227 = t231
              · rw [if_pos c23] at H
                have c23b0 : (t227 == t231) = true := beq_iff_eq.mpr c23
                have c23b1 : (t227 != t231) = false := bne_eq_false_iff_eq.mpr c23
                clear c23
                by_cases c24 : t232 = t234
                · rw [if_pos c24] at H
                  have c24b0 : (t232 == t234) = true := beq_iff_eq.mpr c24
                  have c24b1 : (t232 != t234) = false := bne_eq_false_iff_eq.mpr c24
                  clear c24
                  have H' := Aside0.mk H
                  clear H
                  have hcv25 := own_string (P := Try.prog) Try.underlying22 Try.underlying5 Try.underlying9 (Kd.own_of_R HO218.out)
                  have hcv26 := fun m_ : Nat => own_string (P := Try.prog) Try.underlying22 Try.underlying5 Try.underlying9 (Kd.own_of_R (Kd.R_drewN HO218.out m_))
                  have hcv27 := own_string (P := Try.prog) Try.underlying22 Try.underlying5 Try.underlying9 (Kd.own_of_R HO223.out)
                  have hcv28 := fun m_ : Nat => own_string (P := Try.prog) Try.underlying22 Try.underlying5 Try.underlying9 (Kd.own_of_R (Kd.R_drewN HO223.out m_))
                  obtain ⟨Ao29, co29, eo29⟩ := Kd.R_slice HO226.out
                  subst eo29
                  obtain ⟨Ao30, co30, eo30⟩ := Kd.R_slice HO230.out
                  subst eo30
                  go_wp2
                  repeat (go_quiet (fail); try go_wp2)
                  go_meet
                  case rel => exact ⟨_, ((t233 != t235)), (by first | rfl | (simp; done) | (simp [*]; done)), H', ⟨by first | omega | exact Nat.le_refl _⟩, ⟨by (with_reducible repeat (first | apply Kd.R_alloc | apply Kd.R_drewN | apply Kd.R_drew)); exact Kd.R_mono HO226.out (fun _ hk => hk.2)⟩, ⟨by (with_reducible repeat (first | apply Kd.R_alloc | apply Kd.R_drewN | apply Kd.R_drew)); exact Kd.R_mono HO230.out (fun _ hk => hk.2)⟩, ⟨by repeat (first | (with_reducible first | exact HB.out | apply below_alloc | apply pw_below_drewN | apply below_drew1) | exact HB.out | (with_reducible exact Below.refl _ _))⟩⟩
                · rw [if_neg c24] at H
                  have c24b0 : (t232 == t234) = false := beq_eq_false_iff_ne.mpr c24
                  have c24b1 : (t232 != t234) = true := bne_iff_ne.mpr c24
                  have H' := Aside0.mk H
                  clear H
                  have hcv31 := own_string (P := Try.prog) Try.underlying22 Try.underlying5 Try.underlying9 (Kd.own_of_R HO218.out)
                  have hcv32 := fun m_ : Nat => own_string (P := Try.prog) Try.underlying22 Try.underlying5 Try.underlying9 (Kd.own_of_R (Kd.R_drewN HO218.out m_))
                  have hcv33 := own_string (P := Try.prog) Try.underlying22 Try.underlying5 Try.underlying9 (Kd.own_of_R HO223.out)
                  have hcv34 := fun m_ : Nat => own_string (P := Try.prog) Try.underlying22 Try.underlying5 Try.underlying9 (Kd.own_of_R (Kd.R_drewN HO223.out m_))
                  obtain ⟨Ao35, co35, eo35⟩ := Kd.R_slice HO226.out
                  subst eo35
                  obtain ⟨Ao36, co36, eo36⟩ := Kd.R_slice HO230.out
                  subst eo36
                  go_wp2
                  repeat (go_quiet (fail); try go_wp2)
                  go_meet
                  case rel => exact ⟨_, (true), (by first | rfl | (simp; done) | (simp [*]; done)), H', ⟨by first | omega | exact Nat.le_refl _⟩, ⟨by (with_reducible repeat (first | apply Kd.R_alloc | apply Kd.R_drewN | apply Kd.R_drew)); exact Kd.R_mono HO226.out (fun _ hk => hk.2)⟩, ⟨by (with_reducible repeat (first | apply Kd.R_alloc | apply Kd.R_drewN | apply Kd.R_drew)); exact Kd.R_mono HO230.out (fun _ hk => hk.2)⟩, ⟨by repeat (first | (with_reducible first | exact HB.out | apply below_alloc | apply pw_below_drewN | apply below_drew1) | exact HB.out | (with_reducible exact Below.refl _ _))⟩⟩
              · rw [if_neg c23] at H
                have c23b0 : (t227 == t231) = false := beq_eq_false_iff_ne.mpr c23
                have c23b1 : (t227 != t231) = true := bne_iff_ne.mpr c23
                have H' := Aside0.mk H
                clear H
                have hcv37 := own_string (P := Try.prog) Try.underlying22 Try.underlying5 Try.underlying9 (Kd.own_of_R HO218.out)
                have hcv38 := fun m_ : Nat => own_string (P := Try.prog) Try.underlying22 Try.underlying5 Try.underlying9 (Kd.own_of_R (Kd.R_drewN HO218.out m_))
                have hcv39 := own_string (P := Try.prog) Try.underlying22 Try.underlying5 Try.underlying9 (Kd.own_of_R HO223.out)
                have hcv40 := fun m_ : Nat => own_string (P := Try.prog) Try.underlying22 Try.underlying5 Try.underlying9 (Kd.own_of_R (Kd.R_drewN HO223.out m_))
                obtain ⟨Ao41, co41, eo41⟩ := Kd.R_slice HO226.out
                subst eo41
                obtain ⟨Ao42, co42, eo42⟩ := Kd.R_slice HO230.out
                subst eo42
                go_wp2
                repeat (go_quiet (fail); try go_wp2)
                go_meet
                case rel => exact ⟨_, (true), (by first | rfl | (simp; done) | (simp [*]; done)), H', ⟨by first | omega | exact Nat.le_refl _⟩, ⟨by (with_reducible repeat (first | apply Kd.R_alloc | apply Kd.R_drewN | apply Kd.R_drew)); exact Kd.R_mono HO226.out (fun _ hk => hk.2)⟩, ⟨by (with_reducible repeat (first | apply Kd.R_alloc | apply Kd.R_drewN | apply Kd.R_drew)); exact Kd.R_mono HO230.out (fun _ hk => hk.2)⟩, ⟨by repeat (first | (with_reducible first | exact HB.out | apply below_alloc | apply pw_below_drewN | apply below_drew1) | exact HB.out | (with_reducible exact Below.refl _ _))⟩⟩
            · rw [if_neg c22] at H
              have c22b0 : ((t224.length : Int) == (t228.length : Int)) = false := beq_eq_false_iff_ne.mpr c22
              have c22b1 : ((t224.length : Int) != (t228.length : Int)) = true := bne_iff_ne.mpr c22
              have c22b2 : (t224.length == t228.length) = false := by first | simpa using c22 | (simp at c22 ⊢; omega)
              have H' := Aside0.mk H
              clear H
              have hcv43 := own_string (P := Try.prog) Try.underlying22 Try.underlying5 Try.underlying9 (Kd.own_of_R HO218.out)
              have hcv44 := fun m_ : Nat => own_string (P := Try.prog) Try.underlying22 Try.underlying5 Try.underlying9 (Kd.own_of_R (Kd.R_drewN HO218.out m_))
              have hcv45 := own_string (P := Try.prog) Try.underlying22 Try.underlying5 Try.underlying9 (Kd.own_of_R HO223.out)
              have hcv46 := fun m_ : Nat => own_string (P := Try.prog) Try.underlying22 Try.underlying5 Try.underlying9 (Kd.own_of_R (Kd.R_drewN HO223.out m_))
              obtain ⟨Ao47, co47, eo47⟩ := Kd.R_slice HO226.out
              subst eo47
              obtain ⟨Ao48, co48, eo48⟩ := Kd.R_slice HO230.out
              subst eo48
              go_wp2
              repeat (go_quiet (fail); try go_wp2)
              go_meet
              case rel => exact ⟨_, (true), (by first | rfl | (simp; done) | (simp [*]; done)), H', ⟨by first | omega | exact Nat.le_refl _⟩, ⟨by (with_reducible repeat (first | apply Kd.R_alloc | apply Kd.R_drewN | apply Kd.R_drew)); exact Kd.R_mono HO226.out (fun _ hk => hk.2)⟩, ⟨by (with_reducible repeat (first | apply Kd.R_alloc | apply Kd.R_drewN | apply Kd.R_drew)); exact Kd.R_mono HO230.out (fun _ hk => hk.2)⟩, ⟨by repeat (first | (with_reducible first | exact HB.out | apply below_alloc | apply pw_below_drewN | apply below_drew1) | exact HB.out | (with_reducible exact Below.refl _ _))⟩⟩
          · rw [if_neg c21] at H
            have c21b0 : (t216 == t221) = false := beq_eq_false_iff_ne.mpr c21
            have c21b1 : (t216 != t221) = true := bne_iff_ne.mpr c21
            have H' := Aside0.mk H
            clear H
            have hcv49 := own_string (P := Try.prog) Try.underlying22 Try.underlying5 Try.underlying9 (Kd.own_of_R HO218.out)
            have hcv50 := fun m_ : Nat => own_string (P := Try.prog) Try.underlying22 Try.underlying5 Try.underlying9 (Kd.own_of_R (Kd.R_drewN HO218.out m_))
            have hcv51 := own_string (P := Try.prog) Try.underlying22 Try.underlying5 Try.underlying9 (Kd.own_of_R HO223.out)
            have hcv52 := fun m_ : Nat => own_string (P := Try.prog) Try.underlying22 Try.underlying5 Try.underlying9 (Kd.own_of_R (Kd.R_drewN HO223.out m_))
            go_wp2
            repeat (go_quiet (fail); try go_wp2)
            go_meet
            case rel => exact ⟨_, (true), (by first | rfl | (simp; done) | (simp [*]; done)), H', ⟨by first | omega | exact Nat.le_refl _⟩, ⟨by (with_reducible repeat (first | apply Kd.R_alloc | apply Kd.R_drewN | apply Kd.R_drew)); exact Kd.R_mono HO226.out (fun _ hk => hk.2)⟩, ⟨by (with_reducible repeat (first | apply Kd.R_alloc | apply Kd.R_drewN | apply Kd.R_drew)); exact Kd.R_mono HO230.out (fun _ hk => hk.2)⟩, ⟨by repeat (first | (with_reducible first | exact HB.out | apply below_alloc | apply pw_below_drewN | apply below_drew1) | exact HB.out | (with_reducible exact Below.refl _ _))⟩⟩
        · rw [if_neg c20] at H
          have c20b0 : (t215 == t220) = false := beq_eq_false_iff_ne.mpr c20
          have c20b1 : (t215 != t220) = true := bne_iff_ne.mpr c20
          have H' := Aside0.mk H
          clear H
          have hcv53 := own_string (P := Try.prog) Try.underlying22 Try.underlying5 Try.underlying9 (Kd.own_of_R HO218.out)
          have hcv54 := fun m_ : Nat => own_string (P := Try.prog) Try.underlying22 Try.underlying5 Try.underlying9 (Kd.own_of_R (Kd.R_drewN HO218.out m_))
          have hcv55 := own_string (P := Try.prog) Try.underlying22 Try.underlying5 Try.underlying9 (Kd.own_of_R HO223.out)
          have hcv56 := fun m_ : Nat => own_string (P := Try.prog) Try.underlying22 Try.underlying5 Try.underlying9 (Kd.own_of_R (Kd.R_drewN HO223.out m_))
          go_wp2
          repeat (go_quiet (fail); try go_wp2)
          go_meet
          case rel => exact ⟨_, (true), (by first | rfl | (simp; done) | (simp [*]; done)), H', ⟨by first | omega | exact Nat.le_refl _⟩, ⟨by (with_reducible repeat (first | apply Kd.R_alloc | apply Kd.R_drewN | apply Kd.R_drew)); exact Kd.R_mono HO226.out (fun _ hk => hk.2)⟩, ⟨by (with_reducible repeat (first | apply Kd.R_alloc | apply Kd.R_drewN | apply Kd.R_drew)); exact Kd.R_mono HO230.out (fun _ hk => hk.2)⟩, ⟨by repeat (first | (with_reducible first | exact HB.out | apply below_alloc | apply pw_below_drewN | apply below_drew1) | exact HB.out | (with_reducible exact Below.refl _ _))⟩⟩
      · rw [if_neg c19] at H
        have c19b0 : ((strOfNums t214).toList == (strOfNums t219).toList) = false := beq_eq_false_iff_ne.mpr c19
        have c19b1 : ((strOfNums t214).toList != (strOfNums t219).toList) = true := bne_iff_ne.mpr c19
        (first | rw [c19b0] | (simp only [i64_w, i32_w]; rw [c19b0]) | skip)
        have H' := Aside0.mk H
        clear H
        have hcv57 := own_string (P := Try.prog) Try.underlying22 Try.underlying5 Try.underlying9 (Kd.own_of_R HO218.out)
        have hcv58 := fun m_ : Nat => own_string (P := Try.prog) Try.underlying22 Try.underlying5 Try.underlying9 (Kd.own_of_R (Kd.R_drewN HO218.out m_))
        have hcv59 := own_string (P := Try.prog) Try.underlying22 Try.underlying5 Try.underlying9 (Kd.own_of_R HO223.out)
        have hcv60 := fun m_ : Nat => own_string (P := Try.prog) Try.underlying22 Try.underlying5 Try.underlying9 (Kd.own_of_R (Kd.R_drewN HO223.out m_))
        go_wp2
        repeat (go_quiet (fail); try go_wp2)
        go_meet
        case rel => exact ⟨_, (true), (by first | rfl | (simp; done) | (simp [*]; done)), H', ⟨by first | omega | exact Nat.le_refl _⟩, ⟨by (with_reducible repeat (first | apply Kd.R_alloc | apply Kd.R_drewN | apply Kd.R_drew)); exact Kd.R_mono HO226.out (fun _ hk => hk.2)⟩, ⟨by (with_reducible repeat (first | apply Kd.R_alloc | apply Kd.R_drewN | apply Kd.R_drew)); exact Kd.R_mono HO230.out (fun _ hk => hk.2)⟩, ⟨by repeat (first | (with_reducible first | exact HB.out | apply below_alloc | apply pw_below_drewN | apply below_drew1) | exact HB.out | (with_reducible exact Below.refl _ _))⟩⟩
    case rest =>
      clear HC13
      try clear c1
      try clear c2
      try clear p2
      try clear hcv2
      try clear hcv3
      try clear c4
      try clear hcv4
      try clear hcv5
      try clear hcv6
      try clear c7
      try clear c19
      try clear c19b0
      try clear c19b1
      try clear c20
      try clear c20b0
      try clear c20b1
      try clear c21
      try clear c21b0
      try clear c21b1
      try clear c22
      try clear c22b0
      try clear c22b1
      try clear c22b2
      try clear c23
      try clear c23b0
      try clear c23b1
      try clear c24
      try clear c24b0
      try clear c24b1
      try clear hcv25
      try clear hcv26
      try clear hcv27
      try clear hcv28
      try clear hcv31
      try clear hcv32
      try clear hcv33
      try clear hcv34
      try clear hcv37
      try clear hcv38
      try clear hcv39
      try clear hcv40
      try clear hcv43
      try clear hcv44
      try clear hcv45
      try clear hcv46
      try clear hcv49
      try clear hcv50
      try clear hcv51
      try clear hcv52
      try clear hcv53
      try clear hcv54
      try clear hcv55
      try clear hcv56
      try clear hcv57
      try clear hcv58
      try clear hcv59
      try clear hcv60
      obtain ⟨kq, x97_12, rfl, HA, HJ12, HO_11, HO_13, HB⟩ := hcut
      cases kq with
      | zero => exact absurd HA.out (by simp [garboardlaw02_VarintLists.j0])
      | succ kj12 =>
        have H := HA.out
        clear HA
        simp only [garboardlaw02_VarintLists.j0] at H
        by_cases c61 : x97_12 = true
        · subst c61
          have H1 : (some false) = some r := by rw [if_pos rfl] at H; exact H
          clear H
          have H := H1
          clear H1
          obtain rfl := Option.some.inj H
          go_wp2
          repeat (go_quiet (fail); try go_wp2)
          go_ret
          exact ⟨by first | rfl | (simp [errW_none, errW_some] <;> rfl) | (simp [*, errW_none, errW_some] <;> rfl), by repeat (first | (with_reducible first | exact HB.out | apply below_alloc | apply pw_below_drewN | apply below_drew1) | exact HB.out | (with_reducible exact Below.refl _ _))⟩
        · replace c61 := Bool.eq_false_iff.mpr c61
          subst c61
          have H1 : (garboardlaw02_VarintLists.l0 kj12 t224 t228 (t224.length : Int) 0) = some r := by rw [if_neg (show ¬ (false = true) by decide)] at H; exact H
          clear H
          have H := H1
          clear H1
          have H' := Aside0.mk H
          clear H
          obtain ⟨Ao62, co62, eo62⟩ := Kd.R_slice HO_11.out
          subst eo62
          go_wp2
          repeat (go_quiet (fail); try go_wp2)
          go_loopg [100] kj12 (fun kq v100 w' => ∃ (x100_2 : Int), v100 = .int .i64 x100_2 ∧ Aside0 (garboardlaw02_VarintLists.l0 kq t224 t228 (t224.length : Int) x100_2 = some r) ∧ Aside0 (kq ≤ kj12) ∧ Aside0 (Kd.R (Kd.int .u64) 25 w' w.heap.size (fun k_ => some k_ ≠ (v229 : Value).ownBlock) (.slice Ao62 t224.length co62) t224) ∧ Aside0 (Kd.R (Kd.int .u64) 25 w' w.heap.size (fun k_ => some k_ ≠ ((.slice Ao62 t224.length co62) : Value).ownBlock) v229 t228) ∧ Aside0 (Below w.heap.size w w'))
          case atStart => exact ⟨(0), (by first | rfl | (simp; done) | (simp [*]; done)), H', ⟨Nat.le_refl _⟩, ⟨by (with_reducible repeat (first | apply Kd.R_alloc | apply Kd.R_drewN | apply Kd.R_drew)); exact HO_11.out⟩, ⟨by (with_reducible repeat (first | apply Kd.R_alloc | apply Kd.R_drewN | apply Kd.R_drew)); exact HO_13.out⟩, ⟨by repeat (first | (with_reducible first | exact HB.out | apply below_alloc | apply pw_below_drewN | apply below_drew1) | exact HB.out | (with_reducible exact Below.refl _ _))⟩⟩
          case round =>
            clear H'
            try clear c1
            try clear c2
            try clear p2
            try clear hcv2
            try clear hcv3
            try clear c4
            try clear hcv4
            try clear hcv5
            try clear c6
            try clear hcv6
            try clear c7
            try clear c19
            try clear c19b0
            try clear c19b1
            try clear c20
            try clear c20b0
            try clear c20b1
            try clear c21
            try clear c21b0
            try clear c21b1
            try clear c22
            try clear c22b0
            try clear c22b1
            try clear c22b2
            try clear c23
            try clear c23b0
            try clear c23b1
            try clear c24
            try clear c24b0
            try clear c24b1
            try clear hcv25
            try clear hcv26
            try clear hcv27
            try clear hcv28
            try clear hcv31
            try clear hcv32
            try clear hcv33
            try clear hcv34
            try clear hcv37
            try clear hcv38
            try clear hcv39
            try clear hcv40
            try clear hcv43
            try clear hcv44
            try clear hcv45
            try clear hcv46
            try clear hcv49
            try clear hcv50
            try clear hcv51
            try clear hcv52
            try clear hcv53
            try clear hcv54
            try clear hcv55
            try clear hcv56
            try clear hcv57
            try clear hcv58
            try clear hcv59
            try clear hcv60
            try clear c61
            try clear p2
            obtain ⟨x100_2, rfl, HA, HK2, HO_11, HO_13, HB⟩ := hrel
            cases gk with
            | zero => exact absurd HA.out (by simp [garboardlaw02_VarintLists.l0])
            | succ k2 =>
              have H := HA.out
              clear HA
              simp only [garboardlaw02_VarintLists.l0] at H
              by_cases c63 : x100_2 < (t224.length : Int)
              · rw [if_pos c63] at H
                have c63b0 : decide (x100_2 < (t224.length : Int)) = true := decide_eq_true c63
                clear c63
                by_cases c64 : 0 ≤ x100_2
                · rw [if_pos c64] at H
                  have c64b0 : decide (0 ≤ x100_2) = true := decide_eq_true c64
                  clear c64
                  by_cases c65 : x100_2 < (t224.length : Int)
                  · rw [if_pos c65] at H
                    have c65b0 : decide (x100_2 < (t224.length : Int)) = true := decide_eq_true c65
                    clear c65
                    by_cases c66 : x100_2 < (t228.length : Int)
                    · rw [if_pos c66] at H
                      have c66b0 : decide (x100_2 < (t228.length : Int)) = true := decide_eq_true c66
                      clear c66
                      by_cases c67 : (rd t224 x100_2) = (rd t228 x100_2)
                      · rw [if_pos c67] at H
                        have c67b0 : ((rd t224 x100_2) == (rd t228 x100_2)) = true := beq_iff_eq.mpr c67
                        have c67b1 : ((rd t224 x100_2) != (rd t228 x100_2)) = false := bne_eq_false_iff_eq.mpr c67
                        clear c67
                        have H' := Aside0.mk H
                        clear H
                        have p236 : 0 ≤ (x100_2 : Int) := of_decide_eq_true (by first | (with_reducible assumption) | assumption)
                        have q236 : x100_2 < (t224.length : Int) := of_decide_eq_true (by first | (with_reducible assumption) | assumption)
                        obtain ⟨ad236, e236, hx236_0⟩ := Kd.at_int (Kd.R_reads' HO_11.out).2.2 x100_2 p236 q236
                        cases e236
                        replace p236 := eq_true p236
                        replace q236 := eq_true q236
                        obtain ⟨Ao68, co68, eo68⟩ := Kd.R_slice HO_13.out
                        subst eo68
                        have p237 : 0 ≤ (x100_2 : Int) := of_decide_eq_true (by first | (with_reducible assumption) | assumption)
                        have q237 : x100_2 < (t228.length : Int) := of_decide_eq_true (by first | (with_reducible assumption) | assumption)
                        obtain ⟨ad237, e237, hx237_0⟩ := Kd.at_int (Kd.R_reads' HO_13.out).2.2 x100_2 p237 q237
                        cases e237
                        replace p237 := eq_true p237
                        replace q237 := eq_true q237
                        go_wp2
                        repeat (go_quiet (fail); try go_wp2)
                        go_roundg k2
                        case measure => have := HJ12.out; have := HK2.out; omega
                        case rel => exact ⟨(wrap64 (x100_2 + 1)), (by first | rfl | (simp; done) | (simp [*]; done)), H', ⟨by have := HJ12.out; have := HK2.out; omega⟩, ⟨by (with_reducible repeat (first | apply Kd.R_alloc | apply Kd.R_drewN | apply Kd.R_drew)); exact HO_11.out⟩, ⟨by (with_reducible repeat (first | apply Kd.R_alloc | apply Kd.R_drewN | apply Kd.R_drew)); exact HO_13.out⟩, ⟨by repeat (first | (with_reducible first | exact HB.out | apply below_alloc | apply pw_below_drewN | apply below_drew1) | exact HB.out | (with_reducible exact Below.refl _ _))⟩⟩
                      · rw [if_neg c67] at H
                        have c67b0 : ((rd t224 x100_2) == (rd t228 x100_2)) = false := beq_eq_false_iff_ne.mpr c67
                        have c67b1 : ((rd t224 x100_2) != (rd t228 x100_2)) = true := bne_iff_ne.mpr c67
                        obtain rfl := Option.some.inj H
                        have p236 : 0 ≤ (x100_2 : Int) := of_decide_eq_true (by first | (with_reducible assumption) | assumption)
                        have q236 : x100_2 < (t224.length : Int) := of_decide_eq_true (by first | (with_reducible assumption) | assumption)
                        obtain ⟨ad236, e236, hx236_0⟩ := Kd.at_int (Kd.R_reads' HO_11.out).2.2 x100_2 p236 q236
                        cases e236
                        replace p236 := eq_true p236
                        replace q236 := eq_true q236
                        obtain ⟨Ao69, co69, eo69⟩ := Kd.R_slice HO_13.out
                        subst eo69
                        have p237 : 0 ≤ (x100_2 : Int) := of_decide_eq_true (by first | (with_reducible assumption) | assumption)
                        have q237 : x100_2 < (t228.length : Int) := of_decide_eq_true (by first | (with_reducible assumption) | assumption)
                        obtain ⟨ad237, e237, hx237_0⟩ := Kd.at_int (Kd.R_reads' HO_13.out).2.2 x100_2 p237 q237
                        cases e237
                        replace p237 := eq_true p237
                        replace q237 := eq_true q237
                        go_wp2
                        repeat (go_quiet (fail); try go_wp2)
                        go_ret
                        exact ⟨by first | rfl | (simp [errW_none, errW_some] <;> rfl) | (simp [*, errW_none, errW_some] <;> rfl), by repeat (first | (with_reducible first | exact HB.out | apply below_alloc | apply pw_below_drewN | apply below_drew1) | exact HB.out | (with_reducible exact Below.refl _ _))⟩
                    · rw [if_neg c66] at H
                      exact absurd H (by simp)
                  · rw [if_neg c65] at H
                    exact absurd H (by simp)
                · rw [if_neg c64] at H
                  exact absurd H (by simp)
              · rw [if_neg c63] at H
                have c63b0 : decide (x100_2 < (t224.length : Int)) = false := decide_eq_false c63
                clear c63
                replace H := Option.bind_eq_some_iff.mp H
                obtain ⟨t238, A700, H⟩ := H
                replace H : (some t238) = some r := H
                have A70 := Aside0.mk A700
                clear A700
                obtain rfl := Option.some.inj H
                go_wp2_with (first | (go_at_call 9; (with_reducible refine (garboardlaw02_alive.calls k2  t238 _ A70.out).mono ?_); rintro e w71 ⟨rfl, hb⟩; have n0_ := Aside0.mk (Kd.R_below (by (with_reducible repeat (first | apply Kd.R_alloc | apply Kd.R_drewN | apply Kd.R_drew)); exact HO_11.out) hb); have n1_ := Aside0.mk (Kd.R_below (by (with_reducible repeat (first | apply Kd.R_alloc | apply Kd.R_drewN | apply Kd.R_drew)); exact HO_13.out) hb); have n2_ := Aside0.mk (below_step (by repeat (first | (with_reducible first | exact HB.out | apply below_alloc | apply pw_below_drewN | apply below_drew1) | exact HB.out | (with_reducible exact Below.refl _ _))) hb); clear HO_11; clear HO_13; clear HB; have HO_11 := n0_; have HO_13 := n1_; have HB := n2_; clear n0_ n1_ n2_; (try clear hb); (try clear hb2); (try clear hk); (try clear hi)))
                repeat (go_quiet (first | (go_at_call 9; (with_reducible refine (garboardlaw02_alive.calls k2  t238 _ A70.out).mono ?_); rintro e w71 ⟨rfl, hb⟩; have n0_ := Aside0.mk (Kd.R_below (by (with_reducible repeat (first | apply Kd.R_alloc | apply Kd.R_drewN | apply Kd.R_drew)); exact HO_11.out) hb); have n1_ := Aside0.mk (Kd.R_below (by (with_reducible repeat (first | apply Kd.R_alloc | apply Kd.R_drewN | apply Kd.R_drew)); exact HO_13.out) hb); have n2_ := Aside0.mk (below_step (by repeat (first | (with_reducible first | exact HB.out | apply below_alloc | apply pw_below_drewN | apply below_drew1) | exact HB.out | (with_reducible exact Below.refl _ _))) hb); clear HO_11; clear HO_13; clear HB; have HO_11 := n0_; have HO_13 := n1_; have HB := n2_; clear n0_ n1_ n2_; (try clear hb); (try clear hb2); (try clear hk); (try clear hi))); try go_wp2_with (first | (go_at_call 9; (with_reducible refine (garboardlaw02_alive.calls k2  t238 _ A70.out).mono ?_); rintro e w71 ⟨rfl, hb⟩; have n0_ := Aside0.mk (Kd.R_below (by (with_reducible repeat (first | apply Kd.R_alloc | apply Kd.R_drewN | apply Kd.R_drew)); exact HO_11.out) hb); have n1_ := Aside0.mk (Kd.R_below (by (with_reducible repeat (first | apply Kd.R_alloc | apply Kd.R_drewN | apply Kd.R_drew)); exact HO_13.out) hb); have n2_ := Aside0.mk (below_step (by repeat (first | (with_reducible first | exact HB.out | apply below_alloc | apply pw_below_drewN | apply below_drew1) | exact HB.out | (with_reducible exact Below.refl _ _))) hb); clear HO_11; clear HO_13; clear HB; have HO_11 := n0_; have HO_13 := n1_; have HB := n2_; clear n0_ n1_ n2_; (try clear hb); (try clear hb2); (try clear hk); (try clear hi))))
                go_ret
                exact ⟨by first | rfl | (simp [errW_none, errW_some] <;> rfl) | (simp [*, errW_none, errW_some] <;> rfl), by repeat (first | (with_reducible first | exact HB.out | apply below_alloc | apply pw_below_drewN | apply below_drew1) | exact HB.out | (with_reducible exact Below.refl _ _))⟩

/-- THE ONE PURE STATEMENT of garboardlaw02_VarintLists: yours. -/
def garboardlaw02_VarintLists.Pure : Prop := ∀ (l0 : List Int) (a1 : Int), l0.length ≤ maxLen → l0.length * 1 ≤ 140737488351232 → (∀ x ∈ l0, (Lit.int .u8 x).wf = true) → (Lit.int .i64 a1).wf = true → ∃ k, garboardlaw02_VarintLists.f k l0 a1 = some true
theorem garboardlaw02_VarintLists.walk (P : garboardlaw02_VarintLists.Pure) (a0 : Option Addr) (len0 cap0 : Nat) (z0 : List Int) (a1 : Int) (w : World) (w0 : (a0 = none ∧ len0 = 0 ∧ cap0 = 0 ∧ z0 = []) ∨ ∃ x, a0 = some x ∧ len0 ≤ cap0 ∧ cap0 ≤ maxLen ∧ z0.length = cap0 ∧ (∀ i, i < z0.length → w.cell? (x.add i) = some (.int .u8 (z0.getD i 0))) ∧ ∀ n ∈ z0, (Lit.int .u8 n).wf = true) (y0 : len0 * 1 ≤ 140737488351232) (w1 : (Lit.int .i64 a1).wf = true) :
    Calls Try.prog 7 #[.slice a0 len0 cap0, .int .i64 a1] w fun e w' => e = .returned (.bool true) ∧ Below w.heap.size w w' := by
  obtain ⟨l0, rfl, hr0, hm0, hw0, hc0⟩ := ReadsInt.ofRowC w0
  obtain ⟨k, h⟩ := P l0 a1 hm0 y0 hw0 w1
  refine (garboardlaw02_VarintLists.calls k _ _ l0 a1 true w (Kd.C_of_reads (d := (0 : Int)) (h1 := fun _ => rfl) hr0) hc0 h).mono ?_
  rintro e w' ⟨rfl, hd⟩
  exact ⟨rfl, hd⟩

/-! ### varint_PutBytes: function 21 -/
def varint_PutBytes.f (k : Nat) (l0 : List Int) (l1 : List Int) : Option (List Int) := (varint_Put.f k l0 (([IntKind.u64.wrap ((l1.length : Int))] : List Int))).bind fun t242 => (if t242.length + l1.length < 140737488355328 then (some (t242 ++ l1)) else (none))
theorem varint_PutBytes.mono : ∀ a0 a1 k, LeO (varint_PutBytes.f k a0 a1) (varint_PutBytes.f (k + 1) a0 a1) := by
  intro a0 a1 k
  unfold varint_PutBytes.f
  repeat' first
      | (with_reducible exact varint_Put.mono _ _ _)
      | (with_reducible exact LeO.refl _)
      | (with_reducible exact LeO.none _)
      | (with_reducible refine LeO.ite ?_ ?_)
      | (with_reducible refine LeO.bind ?_ (fun _ => ?_))
      | exact varint_Put.mono _ _ _
      | exact LeO.none _
      | refine LeO.ite ?_ ?_
      | refine LeO.bind ?_ (fun _ => ?_)
set_option maxHeartbeats 8000000 in
set_option maxRecDepth 100000 in
theorem varint_PutBytes.calls (k : Nat) (A0 : Option Addr) (c0 : Nat) (l0 : List Int) (A1 : Option Addr) (c1 : Nat) (l1 : List Int) (r : List Int) (w : World) (hr0 : Kd.C (Kd.int .u8) w A0 l0.length l0) (hc0 : l0.length ≤ c0) (hr1 : Kd.C (Kd.int .u8) w A1 l1.length l1) (hc1 : l1.length ≤ c1) (h : varint_PutBytes.f k l0 l1 = some r) :
    Calls Try.prog 21 #[.slice A0 l0.length c0, .slice A1 l1.length c1] w fun e w' => ∃ v0_ : Value, e = .returned (v0_) ∧ Kd.R (Kd.int .u8) 5 w' w.heap.size (fun _ => True) v0_ r ∧ Below w.heap.size w w' := by
  have HR0 := Aside0.mk hr0
  have HC0 := Aside0.mk hc0
  clear hr0 hc0
  have HR1 := Aside0.mk hr1
  have HC1 := Aside0.mk hc1
  clear hr1 hc1
  have HB := Aside0.mk (Below.refl w.heap.size w)
  have H : ((varint_Put.f k l0 (([IntKind.u64.wrap ((l1.length : Int))] : List Int))).bind fun t242 => (if t242.length + l1.length < 140737488355328 then (some (t242 ++ l1)) else (none))) = some r := h
  clear h
  obtain ⟨y239, hy239⟩ : ∃ y_ : List Int, y_ = (([IntKind.u64.wrap ((l1.length : Int))] : List Int)) := ⟨_, rfl⟩
  replace H : ((varint_Put.f k l0 y239).bind fun t242 => (if t242.length + l1.length < 140737488355328 then (some (t242 ++ l1)) else (none))) = some r := by first | (rw [hy239]; with_reducible exact H) | (have H2_ := (Option.bind_some _ _).symm.trans H; rw [hy239]; with_reducible exact H2_) | (have H2_ := (Option.bind_some _ _).symm.trans H; with_reducible exact H2_) | with_reducible exact H | (rw [hy239]; exact H) | exact H
  have Ny239 := Aside0.mk hy239
  clear hy239
  replace H := Option.bind_eq_some_iff.mp H
  obtain ⟨t242, A30, H⟩ := H
  replace H : (if t242.length + l1.length < 140737488355328 then (some (t242 ++ l1)) else (none)) = some r := H
  have A3 := Aside0.mk A30
  clear A30
  by_cases c4 : t242.length + l1.length < 140737488355328
  · rw [if_pos c4] at H
    have LMc4 := Aside0.mk c4
    clear c4
    obtain ⟨y245, hy245⟩ : ∃ y_ : List Int, y_ = (t242 ++ l1) := ⟨_, rfl⟩
    replace H : (some y245) = some r := by first | (rw [hy245]; with_reducible exact H) | (have H2_ := (Option.bind_some _ _).symm.trans H; rw [hy245]; with_reducible exact H2_) | (have H2_ := (Option.bind_some _ _).symm.trans H; with_reducible exact H2_) | with_reducible exact H | (rw [hy245]; exact H) | exact H
    have Ny245 := Aside0.mk hy245
    clear hy245
    obtain rfl := Option.some.inj H
    go_enter Try.func21, Try.ntmps21
    go_wp2_with (first | ((with_reducible refine gate_dst (N := 9) rfl ?_); refine Kd.R_lit (Kd.int .u64) _ 25 ?hg (N := 9) ?hd (xs := ([IntKind.u64.wrap ((l1.length : Int))] : List Int)) (inner := [.int .u64 (IntKind.u64.wrap ((l1.length : Int)))]) (ok := fun _ => True) (okp := fun _ => True) ?hr ?hp (fun _ hk => hk) trivial (Below.refl _ _) (Nat.le_refl _) (by simp) ?_; (case hd => rfl); (case hg => rfl); (case hr => first | (go_simp; done) | (go_simp; rfl)); (case hp => exact (Reps.one (show Kd.M (Kd.int .u64) _ _ _ (IntKind.u64.wrap ((l1.length : Int))) [.int .u64 (IntKind.u64.wrap ((l1.length : Int)))] from rfl) (Reps.none _ _))); intro v240 w5 ho6 hb hg_ hnew_; clear hg_ hnew_; (first | rw [← Ny239.out] at ho6 | (simp only [Int.reduceToNat] at ho6; rw [← Ny239.out] at ho6)); have n0_ := Aside0.mk (Kd.R_lower ho6 (below_size (by repeat (first | (with_reducible first | exact HB.out | apply below_alloc | apply pw_below_drewN | apply below_drew1) | exact HB.out | (with_reducible exact Below.refl _ _))))); have n1_ := Aside0.mk (below_step (by repeat (first | (with_reducible first | exact HB.out | apply below_alloc | apply pw_below_drewN | apply below_drew1) | exact HB.out | (with_reducible exact Below.refl _ _))) hb); clear HB; have HO241 := n0_; have HB := n1_; clear n0_ n1_; clear hb ho6; obtain ⟨Ao7, co7, eo7⟩ := Kd.R_slice HO241.out; subst eo7) | ((with_reducible refine gate_callee (f := 12) rfl ?_); refine goesL_ (some 10) rfl rfl Try.func12 (by kernel_rfl) rfl #[.slice A0 l0.length c0, .slice Ao7 y239.length co7] rfl (by (try simp only [List.map_toArray, List.map_cons, List.map_nil]); first | done | rfl | (simp only [List.length_drop, List.length_take]; rfl)) ?_; (with_reducible refine (varint_Put.calls k _ _ l0 _ _ y239 t242 _ ?side1 ?side2 ?side3 ?side4 A3.out).mono ?_); (case side1 => repeat (first | exact (Kd.C_below HR0.out HB.out) | exact HR0.out | (with_reducible refine Kd.C_alloc ?_ _) | (with_reducible refine Kd.C_drewN ?_ _) | (with_reducible refine Kd.C_drew ?_))); (case side2 => exact HC0.out); (case side3 => repeat (first | exact (Kd.R_reads' HO241.out).2.2 | (with_reducible refine Kd.C_alloc ?_ _) | (with_reducible refine Kd.C_drewN ?_ _) | (with_reducible refine Kd.C_drew ?_))); (case side4 => exact (Kd.R_reads' HO241.out).2.1); rintro e w8 ⟨v243, rfl, ho0, hb⟩; refine ⟨_, rfl, ?_⟩; have n0_ := Aside0.mk (Kd.R_below (by (with_reducible repeat (first | apply Kd.R_alloc | apply Kd.R_drewN | apply Kd.R_drew)); exact HO241.out) hb); have n1_ := Aside0.mk (Kd.R_lower ho0 (below_size (by repeat (first | (with_reducible first | exact HB.out | apply below_alloc | apply pw_below_drewN | apply below_drew1) | exact HB.out | (with_reducible exact Below.refl _ _))))); have n2_ := Aside0.mk (below_step (by repeat (first | (with_reducible first | exact HB.out | apply below_alloc | apply pw_below_drewN | apply below_drew1) | exact HB.out | (with_reducible exact Below.refl _ _))) hb); clear HO241; clear HB; have HO241 := n0_; have HO244 := n1_; have HB := n2_; clear n0_ n1_ n2_; (try clear hb); (try clear hb2); (try clear hk); (try clear hi); (try clear ho0)) | ((with_reducible refine gate_builtin (b := .append) (xs := #[.tmp 10, .tmp 11]) rfl ?_); at_builtin; refine Kd.R_append_rows (Kd.int .u8) (w0 := w) w.heap.size rfl (.tmp 10) (.tmp 11) 22 5 (.int .u8 0) 1 rfl Try.underlying22 info5 rfl (by decide) (by omega) v243 t242 l1 _ _ _ (fun _ => True) (fun _ => False) rfl rfl ?aO ?aR (fun _ _ h => h) (fun _ h => h.elim) ?aF ?aB ?aS ?aL ?_; (case aR => repeat (first | exact (Kd.C_below HR1.out HB.out) | exact HR1.out | (with_reducible refine Kd.C_alloc ?_ _) | (with_reducible refine Kd.C_drewN ?_ _) | (with_reducible refine Kd.C_drew ?_))); (case aB => exact (by repeat (first | (with_reducible first | exact HB.out | apply below_alloc | apply pw_below_drewN | apply below_drew1) | exact HB.out | (with_reducible exact Below.refl _ _)))); (case aF => exact (fun _ _ => trivial)); (case aO => exact (by (with_reducible repeat (first | apply Kd.R_alloc | apply Kd.R_drewN | apply Kd.R_drew)); exact HO244.out)); (case aS => exact (below_size (by repeat (first | (with_reducible first | exact HB.out | apply below_alloc | apply pw_below_drewN | apply below_drew1) | exact HB.out | (with_reducible exact Below.refl _ _))))); (case aL => have := LMc4.out; omega); intro v246 w9 ho hb hg hat; rw [← Ny245.out] at ho; have n0_ := Aside0.mk (Kd.R_over' (by (with_reducible repeat (first | apply Kd.R_alloc | apply Kd.R_drewN | apply Kd.R_drew)); exact HO241.out) (Kd.R_typed (by (with_reducible repeat (first | apply Kd.R_alloc | apply Kd.R_drewN | apply Kd.R_drew)); exact HO244.out)) (by decide) hg); have n1_ := Aside0.mk (hb); have n2_ := Aside0.mk (ho); clear HO241; clear HB; clear HO244; have HO241 := n0_; have HB := n1_; have HO247 := n2_; clear n0_ n1_ n2_; clear ho hb hg hat))
    go_ret
    exact ⟨_, by first | rfl | (simp [errW_none, errW_some] <;> rfl) | (simp [*, errW_none, errW_some] <;> rfl), by (with_reducible repeat (first | apply Kd.R_alloc | apply Kd.R_drewN | apply Kd.R_drew)); exact HO247.out, by repeat (first | (with_reducible first | exact HB.out | apply below_alloc | apply pw_below_drewN | apply below_drew1) | exact HB.out | (with_reducible exact Below.refl _ _))⟩
  · rw [if_neg c4] at H
    exact absurd H (by simp)

end Go.Proofs.Ythpdologbfigcaa.PA
