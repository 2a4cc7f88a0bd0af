/- HistQuantiles: quantiles rise with their part, and lie from the least to the greatest number; the walk; no condition but that numbers are of their kinds. -/
import Derived.Test.YtmhhklmfnhgbbaaHistMono
import Derived.Laws.IdiomArrays
import Derived.OpenShut
import Derived.Lib.SmallJoins
namespace Go.Proofs.Ytmhhklmfnhgbbaa.Hst
set_option linter.unusedVariables false
set_option linter.unusedSimpArgs false
open Go.RowKit Go.Proofs.Ytmhhklmfnhgbbaa.PA Go.Proofs.YtmhhklmfnhgbbaaW.PrintWords Go.Proofs.YtmhhklmfnhgbbaaW.PrintLast Go.Proofs.YtmhhklmfnhgbbaaW.PrintMore
attribute [local go_sem] max2_int min2_int max_two min_two max_three min_three max_four min_four
def Bad (xs : List Int) (part whole : Int) : Prop := part < 0 ∨ whole < part ∨ whole < 1 ∨ 1000000 < whole ∨ xs.sum = 0
def leftV (xs : List Int) (part whole : Int) : Int := mx ((xs.sum * part + whole - 1) / whole) 1
theorem left_bd {xs : List Int} (hx : Cnt xs) {p whole : Int} (h : ¬ Bad xs p whole) : 1 ≤ leftV xs p whole ∧ leftV xs p whole ≤ xs.sum := by
  unfold Bad at h
  have s0 := (sum_bd xs hx).1
  obtain ⟨s, hs⟩ : ∃ s, xs.sum = s := ⟨_, rfl⟩
  unfold leftV
  rw [hs] at h s0 ⊢
  have m1 : s * p ≤ s * whole := Int.mul_le_mul_of_nonneg_left (by omega) s0
  have : (s * p + whole - 1) / whole ≤ s := by
    have h2 : s * p + whole - 1 < (s + 1) * whole := by rw [Int.add_mul]; omega
    have := Int.ediv_lt_of_lt_mul (show (0 : Int) < whole by omega) h2
    omega
  unfold mx; split <;> omega
theorem left_mono {xs : List Int} (hx : Cnt xs) {p q whole : Int} (hw : 1 ≤ whole) (h : p ≤ q) : leftV xs p whole ≤ leftV xs q whole := by
  have s0 := (sum_bd xs hx).1
  unfold leftV
  have m1 : xs.sum * p ≤ xs.sum * q := Int.mul_le_mul_of_nonneg_left h s0
  have : (xs.sum * p + whole - 1) / whole ≤ (xs.sum * q + whole - 1) / whole := Int.ediv_le_ediv (by omega) (by omega)
  unfold mx; (repeat' split) <;> omega
theorem quant_v (g : Nat) (xs : List Int) (part whole x : Int) (w0 w : World) (hI : IsH w0 w g xs) (hx : Cnt xs) (h : ¬ Bad xs part whole) (hq : qw xs 0 (leftV xs part whole) = (x, 0)) :
    Calls Try.prog 15 #[.pointer (some ⟨g, 0, none⟩), .int .i64 part, .int .i64 whole] w fun e w' => e = .returned (.tuple #[.int .i64 x, .int .i64 0]) ∧ Drawn0 w w' := by
  unfold Bad at h
  exact quant_ok g xs part whole w0 w hI hx (by omega) (by omega) (by omega) (by omega) (by omega) (x, 0) hq
theorem quant_bad (g : Nat) (xs : List Int) (part whole : Int) (w0 w : World) (hI : IsH w0 w g xs) (hx : Cnt xs) (h : Bad xs part whole) :
    Calls Try.prog 15 #[.pointer (some ⟨g, 0, none⟩), .int .i64 part, .int .i64 whole] w fun e w' => e = .returned (.tuple #[.int .i64 0, .int .i64 1]) ∧ Drawn0 w w' := quant_no g xs part whole w0 w hI hx h
theorem qw_zero {xs : List Int} (hx : Cnt xs) (hl : xs.length = 305) {left : Int} (h0 : 1 ≤ left) (h1 : left ≤ xs.sum) : ∃ x, qw xs 0 left = (x, 0) := by
  have := (qw_mono hx hl h0 (Int.le_refl _) h1).2.1
  exact ⟨(qw xs 0 left).1, Prod.ext rfl this⟩

set_option maxHeartbeats 8000000 in
set_option maxRecDepth 100000 in
theorem quantiles_long (A : Option Addr) (cp : Nat) (l : List Int) (p q whole : Int) (h : 500 < l.length) (w : World) :
    Calls Try.prog 5 #[.slice A l.length cp, .agg #[.int .i64 p, .int .i64 q], .int .i64 whole] w fun e w' => e = .returned (.bool true) ∧ Below w.heap.size w w' := by
  have HB := Aside0.mk (below_alloc (Below.refl w.heap.size w) (.cells #[.int .i64 p, .int .i64 q] 32 (0, 0)))
  have HA := Aside0.mk alive_c
  go_enter Try.func5, Try.ntmps5
  go_wp2_with fail
  go_quiet (fail)
  go_wp2_with (go_at_call 12; (with_reducible refine (HA.out _).mono ?_); rintro e w1 ⟨rfl, hb⟩; have n1_ := Aside0.mk (below_step (pw_below_drewN HB.out _) hb); clear HB hb; have HB := n1_; clear n1_)
  go_ret
  exact ⟨rfl, HB.out⟩
theorem RowI.below {w w' : World} {A : Option Addr} {l : List Int} (h : RowI w A l) (hb : Below w.heap.size w w') : RowI w' A l := fun j x hx => by
  obtain ⟨a, ha, hc⟩ := h j x hx
  exact ⟨a, ha, pw_cell_below hb hc⟩
theorem RowI.lt {w : World} {A : Option Addr} {l : List Int} (h : RowI w A l) : 0 < l.length → ∀ a, A = some a → a.block < w.heap.size := fun h0 a ha => by
  obtain ⟨x, hx⟩ : ∃ x, l[0]? = some x := ⟨_, List.getElem?_eq_getElem h0⟩
  obtain ⟨b, hb, hc⟩ := h 0 x hx
  rw [ha] at hb
  obtain rfl := Option.some.inj hb
  have := World.block_lt_of_cell? w _ hc
  rw [add_block] at this; exact this
theorem RowI.of {w : World} {A : Option Addr} {l : List Int} (h : ReadsInt w .i64 A l.length l) : RowI w A l := fun j x hx => by
  have hj := (List.getElem?_eq_some_iff.1 hx).1
  obtain ⟨a, ha, hc⟩ := ReadsInt.at_ h (j : Int) (by omega) (by omega)
  refine ⟨a, ha, ?_⟩
  rw [Int.toNat_natCast] at hc
  rw [hc]
  unfold rd
  rw [Int.toNat_natCast, List.getD_eq_getElem?_getD, hx]; rfl
theorem pairOf {H : Type} {enc : TypeId × Value → H} {W : World} {base b2 : Nat} {spare : Nat → Bool} {held : Bool} {r : Reach} {v : Value} {d : DataW H} {p : List MemPlace} (hv : Value.okWide Try.prog W r b2 32 v) (h : DataW.Trod enc Try.prog W base spare held 32 v d p) :
    ∃ a b : Int, v = .agg #[.int .i64 a, .int .i64 b] := by
  unfold Value.okWide at hv
  rw [Try.underlying32] at hv
  obtain ⟨cs, rfl, hs, -⟩ := hv
  have c2 : Try.prog.cellsOf 32 = 2 := by kernel_rfl
  have c1 : Try.prog.cellsOf 3 = 1 := by kernel_rfl
  obtain ⟨c0, c1', rfl⟩ := Go.Joins.array2 (hs.trans c2)
  obtain ⟨fuel, hf⟩ := h
  obtain ⟨xs, m, _, _, _, hlen, hi⟩ := DataW.trod_array Try.underlying32 hf
  have g0 := hi 0 (by omega)
  have g1 := hi 1 (by omega)
  rw [c1] at g0 g1
  rw [List.getElem?_eq_getElem (show 0 < xs.length by omega)] at g0
  rw [List.getElem?_eq_getElem (show 1 < xs.length by omega)] at g1
  obtain ⟨a, e0, -, -⟩ := DataW.trod_int Try.underlying3 g0
  obtain ⟨b, e1, -, -⟩ := DataW.trod_int Try.underlying3 g1
  refine ⟨a, b, ?_⟩
  simp [Value.cells] at e0 e1
  rw [e0, e1]
theorem quant_any (g : Nat) (xs : List Int) (part whole : Int) (hx : Cnt xs) (hl : xs.length = 305) : ∃ x e, (∀ w0 w, IsH w0 w g xs → Calls Try.prog 15 #[.pointer (some ⟨g, 0, none⟩), .int .i64 part, .int .i64 whole] w fun r w' => r = .returned (.tuple #[.int .i64 x, .int .i64 e]) ∧ Drawn0 w w') ∧
    (e = 1 ∨ (e = 0 ∧ ¬ Bad xs part whole ∧ qw xs 0 (leftV xs part whole) = (x, 0))) := by
  by_cases h : Bad xs part whole
  · exact ⟨0, 1, fun w0 w hI => quant_bad g xs part whole w0 w hI hx h, .inl rfl⟩
  · have b := left_bd hx h
    obtain ⟨x, hq⟩ := qw_zero hx hl b.1 b.2
    exact ⟨x, 0, fun w0 w hI => quant_v g xs part whole x w0 w hI hx h hq, .inr ⟨rfl, h, hq⟩⟩
theorem add_l (g : Nat) (A : Option Addr) (cp : Nat) (l xs : List Int) (w0 w : World) (hxs : (addV zs l).1 = xs) (hI : IsH w0 w g zs) (hB : Below w0.heap.size w0 w) (hr : RowI w A l) (hn : 0 < l.length → ∀ a, A = some a → a.block ≠ g) (hc : l.length ≤ cp) (hm : l.length ≤ 1000000) (hw : ∀ x ∈ l, x ≤ 9223372036854775807) :
    Calls Try.prog 14 #[.pointer (some ⟨g, 0, none⟩), .slice A l.length cp] w fun e w' => ∃ v, e = .returned (.int .i64 v) ∧ IsH w0 w' g xs ∧ Below w0.heap.size w0 w' :=
  (add_c g zs A cp l w0 w hI hB cnt_zs hr hn hc hm hw).mono fun e w' ⟨a, b, c, _⟩ => ⟨_, a, hxs ▸ b, c⟩
set_option maxHeartbeats 8000000 in
set_option maxRecDepth 100000 in
theorem quantiles_ok (A : Option Addr) (cp : Nat) (l : List Int) (p q whole : Int) (h5 : l.length ≤ 500) (w : World) (hr : RowI w A l) (hc : l.length ≤ cp) (hw : ∀ x ∈ l, -9223372036854775808 ≤ x ∧ x ≤ 9223372036854775807) :
    Calls Try.prog 5 #[.slice A l.length cp, .agg #[.int .i64 p, .int .i64 q], .int .i64 whole] w fun e w' => e = .returned (.bool true) ∧ Below w.heap.size w w' := by
  obtain ⟨xs, hxs⟩ : ∃ xs, (addV zs l).1 = xs := ⟨_, rfl⟩
  have HXS := Aside0.mk hxs
  have inv := addV_inv zs cnt_zs l
  rw [hxs] at inv
  have HX := Aside0.mk inv.1
  have HXL := Aside0.mk (inv.2.2.2.trans (List.length_replicate : zs.length = 305))
  have HR := Aside0.mk hr
  have HLT := Aside0.mk (RowI.lt hr)
  have HC := Aside0.mk hc
  have HM := Aside0.mk (show l.length ≤ 1000000 by omega)
  have HW := Aside0.mk (show ∀ x ∈ l, x ≤ 9223372036854775807 from fun x hx => (hw x hx).2)
  have HWW := Aside0.mk hw
  have HA := Aside0.mk alive_c
  clear hxs inv hr hc hw
  have HB := Aside0.mk (below_alloc (Below.refl w.heap.size w) (.cells #[.int .i64 p, .int .i64 q] 32 (0, 0)))
  go_enter Try.func5, Try.ntmps5
  go_wp2_with fail
  go_quiet (fail)
  have n0_ := Aside0.mk (pw_below_drewN HB.out nq)
  clear HB
  have HB := n0_
  clear n0_
  go_wp2_with (first | (go_at_call 13; (with_reducible refine (new_c _).mono ?_); rintro e w2 ⟨g, rfl, hi, hb⟩; have n0_ := Aside0.mk (show IsH w w2 g zs from ⟨hi.1, hi.2.1, Nat.le_trans HB.out.size hi.2.2⟩); have HNE := Aside0.mk (show 0 < l.length → ∀ a, A = some a → a.block ≠ g from fun h0 a ha => Nat.ne_of_lt (Nat.lt_of_lt_of_le (HLT.out h0 a ha) (Nat.le_trans HB.out.size hi.2.2))); have n1_ := Aside0.mk (below_step HB.out hb); clear HB hb hi; have HI := n0_; have HB := n1_; clear n0_ n1_; have HRR := Aside0.mk (HR.out.below HB.out); obtain ⟨x1, e1, hq1, hx1⟩ := quant_any g xs p whole HX.out HXL.out; obtain ⟨x2, e2, hq2, hx2⟩ := quant_any g xs q whole HX.out HXL.out; have HQ1 := Aside0.mk hq1; have HQ2 := Aside0.mk hq2; have HX1 := Aside0.mk hx1; have HX2 := Aside0.mk hx2; clear hq1 hq2 hx1 hx2) | (go_at_call 14; (with_reducible refine (add_l g A cp l xs w _ HXS.out HI.out HB.out HRR.out HNE.out HC.out HM.out HW.out).mono ?_); rintro e w3 ⟨v3, rfl, hi, hb⟩; have n0_ := Aside0.mk hi; have n1_ := Aside0.mk hb; clear HI HB hi hb; have HI := n0_; have HB := n1_; clear n0_ n1_))
  rcases HX1.out with e | ⟨rfl, b1, r1⟩
  · subst e
    clear HX1
    go_wp2_with (first | (go_at_call 15; (with_reducible refine (HQ1.out w _ HI.out).mono ?_); rintro e w4 ⟨rfl, hd⟩; have n0_ := Aside0.mk (HI.out.below hd.below); have n1_ := Aside0.mk (below_step HB.out hd.below); clear HI HB hd; have HI := n0_; have HB := n1_; clear n0_ n1_) | (go_at_call 15; (with_reducible refine (HQ2.out w _ HI.out).mono ?_); rintro e w4 ⟨rfl, hd⟩; have n0_ := Aside0.mk (HI.out.below hd.below); have n1_ := Aside0.mk (below_step HB.out hd.below); clear HI HB hd; have HI := n0_; have HB := n1_; clear n0_ n1_) | (go_at_call 12; (with_reducible refine (HA.out _).mono ?_); rintro e w1 ⟨rfl, hb⟩; have n1_ := Aside0.mk (below_step HB.out hb); clear HB hb; have HB := n1_; clear n1_))
    go_ret
    exact ⟨rfl, HB.out⟩
  rcases HX2.out with e | ⟨rfl, b2, r2⟩
  · subst e
    clear HX2
    go_wp2_with (first | (go_at_call 15; (with_reducible refine (HQ1.out w _ HI.out).mono ?_); rintro e w4 ⟨rfl, hd⟩; have n0_ := Aside0.mk (HI.out.below hd.below); have n1_ := Aside0.mk (below_step HB.out hd.below); clear HI HB hd; have HI := n0_; have HB := n1_; clear n0_ n1_) | (go_at_call 15; (with_reducible refine (HQ2.out w _ HI.out).mono ?_); rintro e w4 ⟨rfl, hd⟩; have n0_ := Aside0.mk (HI.out.below hd.below); have n1_ := Aside0.mk (below_step HB.out hd.below); clear HI HB hd; have HI := n0_; have HB := n1_; clear n0_ n1_) | (go_at_call 12; (with_reducible refine (HA.out _).mono ?_); rintro e w1 ⟨rfl, hb⟩; have n1_ := Aside0.mk (below_step HB.out hb); clear HB hb; have HB := n1_; clear n1_))
    go_ret
    exact ⟨rfl, HB.out⟩
  have B1 := Aside0.mk b1
  have R1 := Aside0.mk r1
  have R2 := Aside0.mk r2
  have BL1 := Aside0.mk (left_bd HX.out b1)
  have BL2 := Aside0.mk (left_bd HX.out b2)
  clear HX1 HX2 b1 r1 b2 r2
  go_wp2_with (first | (go_at_call 15; (with_reducible refine (HQ1.out w _ HI.out).mono ?_); rintro e w4 ⟨rfl, hd⟩; have n0_ := Aside0.mk (HI.out.below hd.below); have n1_ := Aside0.mk (below_step HB.out hd.below); clear HI HB hd; have HI := n0_; have HB := n1_; clear n0_ n1_) | (go_at_call 15; (with_reducible refine (HQ2.out w _ HI.out).mono ?_); rintro e w4 ⟨rfl, hd⟩; have n0_ := Aside0.mk (HI.out.below hd.below); have n1_ := Aside0.mk (below_step HB.out hd.below); clear HI HB hd; have HI := n0_; have HB := n1_; clear n0_ n1_))
  have hne : l ≠ [] := by
    rintro rfl
    have e : (addV zs []).1 = zs := rfl
    have s := HXS.out
    rw [e] at s
    have b := BL1.out
    rw [← s] at b
    have z : zs.sum = 0 := by decide +kernel
    omega
  obtain ⟨x0, hx0⟩ : ∃ x0, l[0]? = some x0 := by
    cases l with
    | nil => exact absurd rfl hne
    | cons x t => exact ⟨x, rfl⟩
  have hl0 : 0 < l.length := (List.getElem?_eq_some_iff.1 hx0).1
  obtain ⟨a, rfl, h0⟩ := HR.out 0 x0 hx0
  have a0 : a.add 0 = a := by simp [Addr.add]
  rw [a0] at h0
  have k0 := pw_cell_below HB.out h0
  have X0 := Aside0.mk hx0
  clear h0 a0 hne hx0
  go_quiet (fail)
  have n1_ := Aside0.mk (pw_below_drewN HB.out nq)
  clear HB k0
  have HB := n1_
  clear n1_
  go_wp2_with fail
  go_loop [14, 15, 61] (fun vlo vhi vi => ∃ (i : Nat) (lo hi : Int), vi = .int .i64 i ∧ vlo = .int .i64 lo ∧ vhi = .int .i64 hi ∧ Aside0 (i ≤ l.length) ∧ Aside0 ((∀ x ∈ l.take i, lo ≤ x ∧ x ≤ hi) ∧ lo ≤ 9223372036854775807)) (fun _ _ vi => (l.length - intOf vi).toNat)
  case atStart => exact ⟨0, x0, x0, rfl, rfl, rfl, ⟨Nat.zero_le _⟩, ⟨⟨fun x hx => by simp at hx, HW.out x0 (List.mem_of_getElem? X0.out)⟩⟩⟩
  case round =>
    obtain ⟨i, lo, hi, rfl, rfl, rfl, HL, HS⟩ := hrel
    have l1 := HL.out
    by_cases hlt : i < l.length
    · obtain ⟨x, hx⟩ : ∃ x, l[i]? = some x := ⟨_, List.getElem?_eq_getElem hlt⟩
      obtain ⟨a', ha', h0⟩ := HR.out i x hx
      obtain rfl := Option.some.inj ha'
      have k0 := pw_cell_below HB.out h0
      have hi' : i < l.length := hlt
      have ETK := Aside0.mk (show l.take (i + 1) = l.take i ++ [x] by
        obtain ⟨q1, q2⟩ := List.getElem?_eq_some_iff.1 hx
        rw [List.take_succ_eq_append_getElem q1, q2])
      have hxw := HW.out x (List.mem_of_getElem? hx)
      clear h0 hx ha'
      have step : ∀ lo' hi' : Int, lo' ≤ lo → lo' ≤ x → hi ≤ hi' → x ≤ hi' → (∀ y ∈ l.take (i + 1), lo' ≤ y ∧ y ≤ hi') ∧ lo' ≤ 9223372036854775807 := by
        intro lo' hi' a b c d
        refine ⟨fun y hy => ?_, by omega⟩
        rw [ETK.out] at hy
        rcases List.mem_append.mp hy with hy | hy
        · have := HS.out.1 y hy; omega
        · simp only [List.mem_singleton] at hy; subst hy; omega
      have ST := Aside0.mk step
      clear step
      by_cases c1 : x < lo
      · by_cases c2 : hi < x
        · go_wp2_with fail
          go_round
          case rel => exact ⟨i + 1, _, _, by go_num, rfl, rfl, ⟨by omega⟩, ⟨ST.out _ _ (by omega) (by omega) (by omega) (by omega)⟩⟩
          case measure => simp [intOf]; omega
        · go_wp2_with fail
          go_round
          case rel => exact ⟨i + 1, _, _, by go_num, rfl, rfl, ⟨by omega⟩, ⟨ST.out _ _ (by omega) (by omega) (by omega) (by omega)⟩⟩
          case measure => simp [intOf]; omega
      · by_cases c2 : hi < x
        · go_wp2_with fail
          go_round
          case rel => exact ⟨i + 1, _, _, by go_num, rfl, rfl, ⟨by omega⟩, ⟨ST.out _ _ (by omega) (by omega) (by omega) (by omega)⟩⟩
          case measure => simp [intOf]; omega
        · go_wp2_with fail
          go_round
          case rel => exact ⟨i + 1, _, _, by go_num, rfl, rfl, ⟨by omega⟩, ⟨ST.out _ _ (by omega) (by omega) (by omega) (by omega)⟩⟩
          case measure => simp [intOf]; omega
    · have e : l.take i = l := List.take_of_length_le (by omega)
      have hs := HS.out
      rw [e] at hs
      obtain ⟨hs1, hs2⟩ := hs
      have bl := boxV_bd hs2
      obtain ⟨lw, e3, hlv⟩ : ∃ lw e, leastV (boxV lo) = (lw, e) := ⟨_, _, rfl⟩
      obtain ⟨bx, hbx⟩ : ∃ bx, boxV lo = bx := ⟨_, rfl⟩
      have H1 := Aside0.mk (box_v lo bx hbx hs2)
      rw [hbx] at hlv bl
      have H2 := Aside0.mk (least_v bx lw e3 hlv (by omega) (by omega))
      have bt1 := quant_between HW.out (fun x hx => (hs1 x hx).1) (fun x hx => (hs1 x hx).2) hs2 BL1.out.1 (by rw [HXS.out]; exact BL1.out.2)
      rw [HXS.out, R1.out, hbx] at bt1
      have q1 : lw ≤ x1 := by
        have := bt1.1
        unfold lv at this
        rw [hlv] at this; exact this
      have q2 : x1 ≤ mx hi 0 := bt1.2
      have q3 : p ≤ q → x1 ≤ x2 := fun hpq => by
        have b := B1.out
        unfold Bad at b
        have := (qw_mono HX.out HXL.out BL1.out.1 (left_mono HX.out (by omega) hpq) BL2.out.2).1
        rw [R1.out, R2.out] at this; exact this
      have q4 : (p ≤ q ∧ x1 ≤ x2) ∨ q < p := by
        by_cases h : p ≤ q
        · exact .inl ⟨h, q3 h⟩
        · exact .inr (by omega)
      have q5 : (hi < 0 ∧ x1 ≤ 0) ∨ (0 ≤ hi ∧ x1 ≤ hi) := by unfold mx at q2; split at q2 <;> omega
      clear bt1 q2 q3 hbx hlv hs1 e HS bl
      rcases q4 with ⟨q4, q4'⟩ | q4
      all_goals rcases q5 with ⟨q5, q5'⟩ | ⟨q5, q5'⟩
      all_goals
       go_wp2_with (first | (go_at_call 10; (with_reducible refine (H1.out _).mono ?_); rintro e w1 ⟨rfl, rfl⟩) | (go_at_call 8; (with_reducible refine (H2.out _).mono ?_); rintro e w1 ⟨rfl, hd⟩; have n1_ := Aside0.mk (below_step HB.out hd.below); clear HB hd; have HB := n1_; clear n1_) | (go_at_call 12; (with_reducible refine (HA.out _).mono ?_); rintro e w1 ⟨rfl, hb⟩; have n1_ := Aside0.mk (below_step HB.out hb); clear HB hb; have HB := n1_; clear n1_))
       go_ret
       exact ⟨rfl, HB.out⟩
theorem quantiles_c (A : Option Addr) (cp : Nat) (l : List Int) (p q whole : Int) (w : World) (hr : RowI w A l) (hc : l.length ≤ cp) (hw : ∀ x ∈ l, -9223372036854775808 ≤ x ∧ x ≤ 9223372036854775807) :
    Calls Try.prog 5 #[.slice A l.length cp, .agg #[.int .i64 p, .int .i64 q], .int .i64 whole] w fun e w' => e = .returned (.bool true) ∧ Below w.heap.size w w' := by
  by_cases h : 500 < l.length
  · exact quantiles_long A cp l p q whole h w
  · exact quantiles_ok A cp l p q whole (by omega) w hr hc hw
end Go.Proofs.Ytmhhklmfnhgbbaa.Hst
