/- HistCounts: any numbers are counted, and any quantile is told, as the document says; merged with itself, and with another one, too; the walk; no condition but that numbers are of their kinds. -/
import Derived.Test.YtmhhklmfnhgbbaaHistDoc6
import Derived.Test.YtmhhklmfnhgbbaaHistOrder
namespace Go.Proofs.Ytmhhklmfnhgbbaa.Hst
set_option linter.unusedVariables false
set_option linter.unusedSimpArgs false
open Go.RowKit Go.Proofs.Ytmhhklmfnhgbbaa.PA Go.Proofs.YtmhhklmfnhgbbaaW.PrintWords Go.Proofs.YtmhhklmfnhgbbaaW.PrintLast Go.Proofs.YtmhhklmfnhgbbaaW.PrintMore
attribute [local go_sem] max2_int min2_int max_two min_two max_three min_three max_four min_four
def IsP (W : World) (g : Nat) (p q : Int) : Prop := W.heap[g]? = some (.cells #[.int .i64 p, .int .i64 q] 32 (0, 0))
theorem IsP.below {W W' : World} {g : Nat} {p q : Int} (h : IsP W g p q) (hb : Below W.heap.size W W') : IsP W' g p q := blk_below h hb
theorem IsP.keep {W W' : World} {g k : Nat} {p q : Int} (h : IsP W g p q) (hk : KeepBut W W' k none) (hn : g ≠ k) : IsP W' g p q := hk.blk h hn (by simp)
theorem IsP.lt {W : World} {g : Nat} {p q : Int} (h : IsP W g p q) : g < W.heap.size := blk_lt h
theorem IsP.c0 {W : World} {g : Nat} {p q : Int} (h : IsP W g p q) : W.cell? ⟨g, 0, none⟩ = some (.int .i64 p) := blk_cell h 0
theorem IsP.c1 {W : World} {g : Nat} {p q : Int} (h : IsP W g p q) : W.cell? ⟨g, 1, none⟩ = some (.int .i64 q) := blk_cell h 1
theorem add_kv (g : Nat) (xs : List Int) (A : Option Addr) (cp : Nat) (l ys : List Int) (n : Int) (w0 w : World) (h : addV xs l = (ys, n)) (hI : IsH w0 w g xs) (hB : Below w0.heap.size w0 w) (hx : Cnt xs) (hr : RowI w A l) (hn : 0 < l.length → ∀ a, A = some a → a.block ≠ g) (hc : l.length ≤ cp) (hm : l.length ≤ 1000000) (hw : ∀ x ∈ l, x ≤ 9223372036854775807) :
    Calls Try.prog 14 #[.pointer (some ⟨g, 0, none⟩), .slice A l.length cp] w fun e w' => e = .returned (.int .i64 n) ∧ IsH w0 w' g ys ∧ Below w0.heap.size w0 w' ∧ KeepBut w w' g none := by
  have := add_c g xs A cp l w0 w hI hB hx hr hn hc hm hw
  rw [h] at this; exact this
theorem dadd_kv (g : Nat) (xs : List Int) (A : Option Addr) (cp : Nat) (l ys : List Int) (n : Int) (w0 w : World) (h : addV xs l = (ys, n)) (hI : IsD w0 w g xs) (hB : Below w0.heap.size w0 w) (hx : Cnt xs) (hr : RowI w A l) (hn : 0 < l.length → ∀ a, A = some a → a.block ≠ g) (hc : l.length ≤ cp) (hm : l.length ≤ 1000000) (hw : ∀ x ∈ l, x ≤ 9223372036854775807) :
    Calls Try.prog 16 #[.pointer (some ⟨g, 0, none⟩), .slice A l.length cp] w fun e w' => e = .returned (.int .i64 n) ∧ IsD w0 w' g ys ∧ Below w0.heap.size w0 w' ∧ KeepBut w w' g none := by
  have := dadd_c g xs A cp l w0 w hI hB hx hr hn hc hm hw
  rw [h] at this; exact this
theorem dmerge_k (g go : Nat) (xs ys zs' : List Int) (w0 w : World) (hn : go ≠ g ∨ (go = g ∧ xs = ys)) (h : mg xs ys 305 = zs') (hI : IsD w0 w g xs) (hJ : IsD w0 w go ys) (hB : Below w0.heap.size w0 w) (hx : Cnt xs) (hy : Cnt ys) :
    Calls Try.prog 22 #[.pointer (some ⟨g, 0, none⟩), .pointer (some ⟨go, 0, none⟩)] w fun e w' => e = .returned (.tuple #[]) ∧ IsD w0 w' g zs' ∧ Below w0.heap.size w0 w' ∧ KeepBut w w' g none :=
  (dmerge_c g go xs ys w0 w hn hI hJ hB hx hy).mono fun e w' ⟨a, b, c, d⟩ => ⟨a, h ▸ b, c, d⟩
theorem count_v (g : Nat) (xs : List Int) (s : Int) (w0 : World) (h : sumL xs = s) (w : World) (hI : IsH w0 w g xs) (hx : Cnt xs) :
    Calls Try.prog 18 #[.pointer (some ⟨g, 0, none⟩)] w fun e w' => e = .returned (.int .u64 s) ∧ w' = w := by
  have := count_c g xs w0 w hI hx
  rw [h] at this; exact this
theorem dcount_v (g : Nat) (xs : List Int) (s : Int) (w0 : World) (h : sumL xs = s) (w : World) (hI : IsD w0 w g xs) (hx : Cnt xs) :
    Calls Try.prog 19 #[.pointer (some ⟨g, 0, none⟩)] w fun e w' => e = .returned (.int .u64 s) ∧ w' = w := by
  have := dcount_c g xs w0 w hI hx
  rw [h] at this; exact this
theorem quant_both (g gd : Nat) (xs : List Int) (part whole : Int) (hx : Cnt xs) (hl : xs.length = 305) : ∃ x e,
    (∀ w0 w, IsH w0 w g xs → Calls Try.prog 15 #[.pointer (some ⟨g, 0, none⟩), .int .i64 part, .int .i64 whole] w fun r w' => r = .returned (.tuple #[.int .i64 x, .int .i64 e]) ∧ Drawn0 w w') ∧
    (∀ w0 w, IsD w0 w gd xs → Calls Try.prog 17 #[.pointer (some ⟨gd, 0, none⟩), .int .i64 part, .int .i64 whole] w fun r w' => r = .returned (.tuple #[.int .i64 x, .int .i64 e]) ∧ Drawn0 w w') := by
  by_cases h : Bad xs part whole
  · exact ⟨0, 1, fun w0 w hI => quant_bad g xs part whole w0 w hI hx h, fun w0 w hI => dquant_no gd xs part whole w0 w hI hx h⟩
  · have b := left_bd hx h
    obtain ⟨x, hq⟩ := qw_zero hx hl b.1 b.2
    unfold Bad at h
    exact ⟨x, 0, fun w0 w hI => quant_v g xs part whole x w0 w hI hx (by unfold Bad; exact h) hq, fun w0 w hI => dquant_ok gd xs part whole w0 w hI hx (by omega) (by omega) (by omega) (by omega) (by omega) (x, 0) hq⟩
theorem mg_cnt {xs ys : List Int} (hx : Cnt xs) (hy : Cnt ys) : ∀ i, Cnt (mg xs ys i)
  | 0 => hx
  | i + 1 => by
    have a := hx.get i
    have b := hy.get i
    exact (mg_cnt hx hy i).set i (by unfold mv mn; split <;> omega) (by unfold mv mn; split <;> omega)
theorem in_w (g : Nat) (xs : List Int) (b c : Int) (w0 w : World) (h : inV xs b = c) (hI : IsH w0 w g xs) : Calls Try.prog 20 #[.pointer (some ⟨g, 0, none⟩), .int .i64 b] w fun e w' => e = .returned (.int .u32 c) ∧ w' = w := by
  have := in_c g xs b w0 w hI
  rw [h] at this; exact this
theorem isD_two {w0 w : World} (hB : Below w0.heap.size w0 w) : IsD w0 ((w.alloc (.cells ZR 41)).alloc (.cells ZR 41)) w.heap.size zs ∧ IsD w0 ((w.alloc (.cells ZR 41)).alloc (.cells ZR 41)) (w.heap.size + 1) zs ∧ Below w.heap.size w ((w.alloc (.cells ZR 41)).alloc (.cells ZR 41)) ∧ Below w0.heap.size w0 ((w.alloc (.cells ZR 41)).alloc (.cells ZR 41)) := by
  have e : (w.alloc (.cells ZR 41)).heap.size = w.heap.size + 1 := Array.size_push ..
  have h1 : IsD w0 (w.alloc (.cells ZR 41)) w.heap.size zs := ⟨blk_new _ _, zs_len, hB.size⟩
  have h2 : IsD w0 ((w.alloc (.cells ZR 41)).alloc (.cells ZR 41)) (w.alloc (.cells ZR 41)).heap.size zs := ⟨blk_new _ _, zs_len, Nat.le_trans hB.size (by rw [e]; omega)⟩
  rw [e] at h2
  exact ⟨h1.below (below_alloc (Below.refl _ _) _), h2, below_alloc (below_alloc (Below.refl _ _) _) _, below_alloc (below_alloc hB _) _⟩
set_option maxHeartbeats 8000000 in
set_option maxRecDepth 100000 in
theorem counts_long (A A' : Option Addr) (cp cp' : Nat) (a b : List Int) (p q : Int) (h : 500 < a.length ∨ (a.length ≤ 500 ∧ 500 < b.length)) (w : World) :
    Calls Try.prog 6 #[.slice A a.length cp, .slice A' b.length cp', .agg #[.int .i64 p, .int .i64 q]] w fun e w' => e = .returned (.bool true) ∧ Below w.heap.size w w' := by
  have HA := Aside0.mk alive_c
  have HB := Aside0.mk (below_alloc (Below.refl w.heap.size w) (.cells #[.int .i64 p, .int .i64 q] 32))
  rcases h with h | ⟨h, h'⟩
  all_goals
   go_enter Try.func6, Try.ntmps6
   go_wp2_with (go_at_call 12; (with_reducible refine (HA.out _).mono ?_); rintro e w1 ⟨rfl, hb⟩; have n1_ := Aside0.mk (below_step HB.out hb); clear HB hb; have HB := n1_; clear n1_)
   go_ret
   exact ⟨rfl, HB.out⟩
set_option maxHeartbeats 16000000 in
set_option maxRecDepth 100000 in
theorem counts_ok (A A' : Option Addr) (cp cp' : Nat) (a b : List Int) (p q : Int) (ha : a.length ≤ 500) (hb : b.length ≤ 500) (w : World) (hra : RowI w A a) (hrb : RowI w A' b) (hca : a.length ≤ cp) (hcb : b.length ≤ cp') (wa : ∀ x ∈ a, x ≤ 9223372036854775807) (wb : ∀ x ∈ b, x ≤ 9223372036854775807) :
    Calls Try.prog 6 #[.slice A a.length cp, .slice A' b.length cp', .agg #[.int .i64 p, .int .i64 q]] w fun e w' => e = .returned (.bool true) ∧ Below w.heap.size w w' := by
  obtain ⟨X1, n1, hX1⟩ : ∃ X1 n1, addV zs a = (X1, n1) := ⟨_, _, rfl⟩
  obtain ⟨Y1, n2, hY1⟩ : ∃ Y1 n2, addV zs b = (Y1, n2) := ⟨_, _, rfl⟩
  have Va := Aside0.mk hX1; have Vb := Aside0.mk hY1
  have C0 := Aside0.mk cnt_zs
  have CX1 := Aside0.mk (show Cnt X1 from (show (addV zs a).1 = X1 by rw [hX1]) ▸ (addV_inv zs cnt_zs a).1)
  have CY1 := Aside0.mk (show Cnt Y1 from (show (addV zs b).1 = Y1 by rw [hY1]) ▸ (addV_inv zs cnt_zs b).1)
  have HRa := Aside0.mk hra; have HRb := Aside0.mk hrb; have HCa := Aside0.mk hca; have HCb := Aside0.mk hcb; have HWa := Aside0.mk wa; have HWb := Aside0.mk wb
  have HMa := Aside0.mk (show a.length ≤ 1000000 by omega); have HMb := Aside0.mk (show b.length ≤ 1000000 by omega)
  have HA := Aside0.mk alive_c
  have HB := Aside0.mk (below_alloc (Below.refl w.heap.size w) (.cells #[.int .i64 p, .int .i64 q] 32))
  have HR := Aside0.mk (show IsP (w.alloc (.cells #[.int .i64 p, .int .i64 q] 32)) w.heap.size p q from blk_new _ _)
  clear hX1 hY1 hra hrb hca hcb wa wb
  have hz41 := zero41
  go_enter Try.func6, Try.ntmps6
  go_upto_region 5 with (first | (go_at_call 13; (with_reducible refine (new_c _).mono ?_); rintro e w9 ⟨gy, rfl, hi, hb⟩; have NXY := Aside0.mk (Nat.ne_of_lt (Nat.lt_of_lt_of_le HX.out.lt hi.2.2)); have NYX := Aside0.mk NXY.out.symm; have NRY := Aside0.mk (Nat.ne_of_lt (Nat.lt_of_lt_of_le HR.out.lt hi.2.2)); have NYR := Aside0.mk NRY.out.symm; have nN_ := Aside0.mk (IsH.up hi HB.out); have nX_ := Aside0.mk (HX.out.below hb); have nR_ := Aside0.mk (HR.out.below hb); have nB_ := Aside0.mk (below_step HB.out hb); clear HB HX HR hi hb; have HY := nN_; have HX := nX_; have HR := nR_; have HB := nB_; clear nN_ nB_ nX_ nR_) | (go_at_call 13; (with_reducible refine (new_c _).mono ?_); rintro e w9 ⟨gx, rfl, hi, hb⟩; have NRX := Aside0.mk (Nat.ne_of_lt (Nat.lt_of_lt_of_le HR.out.lt hi.2.2)); have NXR := Aside0.mk NRX.out.symm; have nN_ := Aside0.mk (IsH.up hi HB.out); have nR_ := Aside0.mk (HR.out.below hb); have nB_ := Aside0.mk (below_step HB.out hb); clear HB HR hi hb; have HX := nN_; have HR := nR_; have HB := nB_; clear nN_ nB_ nR_))
  obtain ⟨hp, hq, hb1, hb2⟩ := isD_two HB.out
  have gx_lt := HX.out.lt; have gy_lt := HY.out.lt; have gr_lt := HR.out.lt
  have HP := Aside0.mk hp; have HQ := Aside0.mk hq; have nX_ := Aside0.mk (HX.out.below hb1); have nY_ := Aside0.mk (HY.out.below hb1); have nR_ := Aside0.mk (HR.out.below hb1); have nB_ := Aside0.mk hb2
  clear HX HY HR HB hp hq hb1 hb2
  have HX := nX_; have HY := nY_; have HR := nR_; have HB := nB_
  clear nX_ nY_ nR_ nB_
  obtain ⟨gq, hgq⟩ : ∃ gq, w9.heap.size + 1 = gq := ⟨_, rfl⟩
  rw [hgq] at HQ ⊢
  obtain ⟨gp, hgp⟩ : ∃ gp, w9.heap.size = gp := ⟨_, rfl⟩
  rw [hgp] at HP gx_lt gy_lt gr_lt hgq ⊢
  have NXP := Aside0.mk (Nat.ne_of_lt gx_lt); have NPX := Aside0.mk NXP.out.symm
  have NYP := Aside0.mk (Nat.ne_of_lt gy_lt); have NPY := Aside0.mk NYP.out.symm
  have NXQ := Aside0.mk (show gx ≠ gq by omega); have NQX := Aside0.mk NXQ.out.symm
  have NYQ := Aside0.mk (show gy ≠ gq by omega); have NQY := Aside0.mk NYQ.out.symm
  have NPQ := Aside0.mk (show gp ≠ gq by omega); have NQP := Aside0.mk NPQ.out.symm
  have NRP := Aside0.mk (Nat.ne_of_lt gr_lt); have NPR := Aside0.mk NRP.out.symm
  have NRQ := Aside0.mk (show w.heap.size ≠ gq by omega); have NQR := Aside0.mk NRQ.out.symm
  clear gx_lt gy_lt gr_lt hgq hgp
  go_wp2_with (first | (go_at_call 14; (with_reducible refine (add_kv _ zs A cp a X1 n1 _ _ Va.out HX.out HB.out C0.out (HRa.out.below HB.out) (fun h0 a_ ha_ => Nat.ne_of_lt (Nat.lt_of_lt_of_le (RowI.lt HRa.out h0 a_ ha_) (IsH.ge HX.out))) HCa.out HMa.out HWa.out).mono ?_); rintro e w9 ⟨rfl, hi, hb, hk⟩; have nX_ := Aside0.mk hi; have nY_ := Aside0.mk (HY.out.keep hk NYX.out); have nP_ := Aside0.mk (HP.out.keep hk NPX.out); have nQ_ := Aside0.mk (HQ.out.keep hk NQX.out); have nR_ := Aside0.mk (HR.out.keep hk NRX.out); have nB_ := Aside0.mk hb; clear HB HX HY HP HQ HR hi hb hk; have HX := nX_; have HY := nY_; have HP := nP_; have HQ := nQ_; have HR := nR_; have HB := nB_; clear nB_ nX_ nY_ nP_ nQ_ nR_) | (go_at_call 16; (with_reducible refine (dadd_kv _ zs A cp a X1 n1 _ _ Va.out HP.out HB.out C0.out (HRa.out.below HB.out) (fun h0 a_ ha_ => Nat.ne_of_lt (Nat.lt_of_lt_of_le (RowI.lt HRa.out h0 a_ ha_) (IsD.ge HP.out))) HCa.out HMa.out HWa.out).mono ?_); rintro e w9 ⟨rfl, hi, hb, hk⟩; have nX_ := Aside0.mk (HX.out.keep hk NXP.out); have nY_ := Aside0.mk (HY.out.keep hk NYP.out); have nP_ := Aside0.mk hi; have nQ_ := Aside0.mk (HQ.out.keep hk NQP.out); have nR_ := Aside0.mk (HR.out.keep hk NRP.out); have nB_ := Aside0.mk hb; clear HB HX HY HP HQ HR hi hb hk; have HX := nX_; have HY := nY_; have HP := nP_; have HQ := nQ_; have HR := nR_; have HB := nB_; clear nB_ nX_ nY_ nP_ nQ_ nR_) | (go_at_call 14; (with_reducible refine (add_kv _ zs A' cp' b Y1 n2 _ _ Vb.out HY.out HB.out C0.out (HRb.out.below HB.out) (fun h0 a_ ha_ => Nat.ne_of_lt (Nat.lt_of_lt_of_le (RowI.lt HRb.out h0 a_ ha_) (IsH.ge HY.out))) HCb.out HMb.out HWb.out).mono ?_); rintro e w9 ⟨rfl, hi, hb, hk⟩; have nX_ := Aside0.mk (HX.out.keep hk NXY.out); have nY_ := Aside0.mk hi; have nP_ := Aside0.mk (HP.out.keep hk NPY.out); have nQ_ := Aside0.mk (HQ.out.keep hk NQY.out); have nR_ := Aside0.mk (HR.out.keep hk NRY.out); have nB_ := Aside0.mk hb; clear HB HX HY HP HQ HR hi hb hk; have HX := nX_; have HY := nY_; have HP := nP_; have HQ := nQ_; have HR := nR_; have HB := nB_; clear nB_ nX_ nY_ nP_ nQ_ nR_) | (go_at_call 16; (with_reducible refine (dadd_kv _ zs A' cp' b Y1 n2 _ _ Vb.out HQ.out HB.out C0.out (HRb.out.below HB.out) (fun h0 a_ ha_ => Nat.ne_of_lt (Nat.lt_of_lt_of_le (RowI.lt HRb.out h0 a_ ha_) (IsD.ge HQ.out))) HCb.out HMb.out HWb.out).mono ?_); rintro e w9 ⟨rfl, hi, hb, hk⟩; have nX_ := Aside0.mk (HX.out.keep hk NXQ.out); have nY_ := Aside0.mk (HY.out.keep hk NYQ.out); have nP_ := Aside0.mk (HP.out.keep hk NPQ.out); have nQ_ := Aside0.mk hi; have nR_ := Aside0.mk (HR.out.keep hk NRQ.out); have nB_ := Aside0.mk hb; clear HB HX HY HP HQ HR hi hb hk; have HX := nX_; have HY := nY_; have HP := nP_; have HQ := nQ_; have HR := nR_; have HB := nB_; clear nB_ nX_ nY_ nP_ nQ_ nR_))
  go_loopw [50] (fun vk wr => ∃ (k : Nat) (xs ys : List Int), vk = .int .i64 k ∧ Aside0 (k ≤ 3) ∧ Aside0 (Cnt xs) ∧ Aside0 (Cnt ys) ∧ Aside0 (IsH w wr gx xs) ∧ Aside0 (IsH w wr gy ys) ∧ Aside0 (IsD w wr gp xs) ∧ Aside0 (IsD w wr gq ys) ∧ Aside0 (IsP wr w.heap.size p q) ∧ Aside0 (Below w.heap.size w wr)) (fun vk _ => (3 - intOf vk).toNat)
  case atStart => exact ⟨0, _, _, rfl, ⟨by omega⟩, CX1, CY1, HX, HY, HP, HQ, HR, HB⟩
  case round =>
    clear HX HY HP HQ HR HB CX1 CY1 Va Vb
    obtain ⟨k, xs, ys, rfl, HL, HCX, HCY, HX, HY, HP, HQ, HR, HB⟩ := hrel
    have l1 := HL.out
    by_cases hlt : k < 3
    · obtain ⟨x1, e1, hq1, hq2⟩ := quant_both gx gp xs p q HCX.out HX.out.2.1
      have HQ1 := Aside0.mk hq1; have HQ2 := Aside0.mk hq2
      obtain ⟨sm, hsm⟩ : ∃ sm, sumL xs = sm := ⟨_, rfl⟩
      have HS := Aside0.mk hsm
      clear hq1 hq2 hsm
      have hc0 := HR.out.c0; have hc1 := HR.out.c1
      go_wp2_with (first | (clear hc0 hc1; go_at_call 15; (with_reducible refine (HQ1.out _ _ HX.out).mono ?_); rintro e w9 ⟨rfl, hd⟩; have nX_ := Aside0.mk (HX.out.below hd.below); have nY_ := Aside0.mk (HY.out.below hd.below); have nP_ := Aside0.mk (HP.out.below hd.below); have nQ_ := Aside0.mk (HQ.out.below hd.below); have nR_ := Aside0.mk (HR.out.below hd.below); have nB_ := Aside0.mk (below_step HB.out hd.below); clear HB hd HX HY HP HQ HR; have HX := nX_; have HY := nY_; have HP := nP_; have HQ := nQ_; have HR := nR_; have HB := nB_; clear nB_ nX_ nY_ nP_ nQ_ nR_; have hc0 := HR.out.c0; have hc1 := HR.out.c1) | (clear hc0 hc1; go_at_call 17; (with_reducible refine (HQ2.out _ _ HP.out).mono ?_); rintro e w9 ⟨rfl, hd⟩; have nX_ := Aside0.mk (HX.out.below hd.below); have nY_ := Aside0.mk (HY.out.below hd.below); have nP_ := Aside0.mk (HP.out.below hd.below); have nQ_ := Aside0.mk (HQ.out.below hd.below); have nR_ := Aside0.mk (HR.out.below hd.below); have nB_ := Aside0.mk (below_step HB.out hd.below); clear HB hd HX HY HP HQ HR; have HX := nX_; have HY := nY_; have HP := nP_; have HQ := nQ_; have HR := nR_; have HB := nB_; clear nB_ nX_ nY_ nP_ nQ_ nR_) | (go_at_call 18; (with_reducible refine (count_v gx xs _ _ HS.out _ HX.out HCX.out).mono ?_); rintro e w9 ⟨rfl, hw_⟩; have hv_ := hw_.symm; clear hw_; subst hv_) | (go_at_call 19; (with_reducible refine (dcount_v gp xs _ _ HS.out _ HP.out HCX.out).mono ?_); rintro e w9 ⟨rfl, hw_⟩; have hv_ := hw_.symm; clear hw_; subst hv_))
      go_loopw [15] (fun vj wr => ∃ (j : Nat) (i : Int), vj = .int .i64 i ∧ Aside0 (i = (j : Int) - 1) ∧ Aside0 (j ≤ 307) ∧ Aside0 (IsH w wr gx xs) ∧ Aside0 (IsH w wr gy ys) ∧ Aside0 (IsD w wr gp xs) ∧ Aside0 (IsD w wr gq ys) ∧ Aside0 (IsP wr w.heap.size p q) ∧ Aside0 (Below w.heap.size w wr)) (fun vj _ => (306 - intOf vj).toNat)
      case atStart => exact ⟨0, -1, rfl, ⟨rfl⟩, ⟨by omega⟩, HX, HY, HP, HQ, HR, HB⟩
      case round =>
        clear HX HY HP HQ HR HB HQ1 HQ2
        obtain ⟨j, i, rfl, HE, HJ, HX, HY, HP, HQ, HR, HB⟩ := hrel
        have j1 := HJ.out
        by_cases hend : j = 307
        · obtain rfl : i = 306 := by have := HE.out; omega
          clear HE HJ j1 hend
          obtain ⟨xz, hxz⟩ : ∃ xz, mg xs ys 305 = xz := ⟨_, rfl⟩
          obtain ⟨yz, hyz⟩ : ∃ yz, mg ys ys 305 = yz := ⟨_, rfl⟩
          have Exz := Aside0.mk hxz; have Eyz := Aside0.mk hyz
          have CXZ := Aside0.mk (show Cnt xz from hxz ▸ mg_cnt HCX.out HCY.out 305); have CYZ := Aside0.mk (show Cnt yz from hyz ▸ mg_cnt HCY.out HCY.out 305)
          have Cxs := HCX; have Cys := HCY
          clear hxz hyz
          go_wp2_with (first | (go_at_call 21; (with_reducible refine (merge_k _ _ xs ys xz _ _ Exz.out HX.out HY.out HB.out Cxs.out Cys.out).mono ?_); rintro e w9 ⟨rfl, hi, hb, hk⟩; have nX_ := Aside0.mk hi; have nY_ := Aside0.mk (HY.out.keep hk NYX.out); have nP_ := Aside0.mk (HP.out.keep hk NPX.out); have nQ_ := Aside0.mk (HQ.out.keep hk NQX.out); have nR_ := Aside0.mk (HR.out.keep hk NRX.out); have nB_ := Aside0.mk hb; clear HB HX HY HP HQ HR hi hb hk; have HX := nX_; have HY := nY_; have HP := nP_; have HQ := nQ_; have HR := nR_; have HB := nB_; clear nB_ nX_ nY_ nP_ nQ_ nR_) | (go_at_call 22; (with_reducible refine (dmerge_k _ _ xs ys xz _ _ (.inl NQP.out) Exz.out HP.out HQ.out HB.out Cxs.out Cys.out).mono ?_); rintro e w9 ⟨rfl, hi, hb, hk⟩; have nX_ := Aside0.mk (HX.out.keep hk NXP.out); have nY_ := Aside0.mk (HY.out.keep hk NYP.out); have nP_ := Aside0.mk hi; have nQ_ := Aside0.mk (HQ.out.keep hk NQP.out); have nR_ := Aside0.mk (HR.out.keep hk NRP.out); have nB_ := Aside0.mk hb; clear HB HX HY HP HQ HR hi hb hk; have HX := nX_; have HY := nY_; have HP := nP_; have HQ := nQ_; have HR := nR_; have HB := nB_; clear nB_ nX_ nY_ nP_ nQ_ nR_) | (go_at_call 21; (with_reducible refine (merge_k _ _ ys ys yz _ _ Eyz.out HY.out HY.out HB.out Cys.out Cys.out).mono ?_); rintro e w9 ⟨rfl, hi, hb, hk⟩; have nX_ := Aside0.mk (HX.out.keep hk NXY.out); have nY_ := Aside0.mk hi; have nP_ := Aside0.mk (HP.out.keep hk NPY.out); have nQ_ := Aside0.mk (HQ.out.keep hk NQY.out); have nR_ := Aside0.mk (HR.out.keep hk NRY.out); have nB_ := Aside0.mk hb; clear HB HX HY HP HQ HR hi hb hk; have HX := nX_; have HY := nY_; have HP := nP_; have HQ := nQ_; have HR := nR_; have HB := nB_; clear nB_ nX_ nY_ nP_ nQ_ nR_) | (go_at_call 22; (with_reducible refine (dmerge_k _ _ ys ys yz _ _ (.inr ⟨rfl, rfl⟩) Eyz.out HQ.out HQ.out HB.out Cys.out Cys.out).mono ?_); rintro e w9 ⟨rfl, hi, hb, hk⟩; have nX_ := Aside0.mk (HX.out.keep hk NXQ.out); have nY_ := Aside0.mk (HY.out.keep hk NYQ.out); have nP_ := Aside0.mk (HP.out.keep hk NPQ.out); have nQ_ := Aside0.mk hi; have nR_ := Aside0.mk (HR.out.keep hk NRQ.out); have nB_ := Aside0.mk hb; clear HB HX HY HP HQ HR hi hb hk; have HX := nX_; have HY := nY_; have HP := nP_; have HQ := nQ_; have HR := nR_; have HB := nB_; clear nB_ nX_ nY_ nP_ nQ_ nR_))
          go_roundw
          case rel => exact ⟨k + 1, _, _, by go_num, ⟨by omega⟩, CXZ, CYZ, HX, HY, HP, HQ, HR, HB⟩
          case measure => simp [intOf] <;> omega
        · by_cases h0 : j = 0
          · obtain rfl : i = -1 := by have := HE.out; omega
            have HI := Aside0.mk (fun w' (h : IsH w w' gx xs) => in_w gx xs (-1) 0 w w' (by unfold inV; rw [if_pos (by omega)]) h)
            go_wp2_with ((go_at_call 20; (with_reducible refine (HI.out _ HX.out).mono ?_); rintro e w9 ⟨rfl, hw_⟩; have hv_ := hw_.symm; clear hw_; subst hv_))
            go_roundw
            case rel => exact ⟨1, 0, by first | rfl | go_num, ⟨by omega⟩, ⟨by omega⟩, HX, HY, HP, HQ, HR, HB⟩
            case measure => simp [intOf] <;> omega
          · by_cases h5 : j = 306
            · obtain rfl : i = 305 := by have := HE.out; omega
              have HI := Aside0.mk (fun w' (h : IsH w w' gx xs) => in_w gx xs 305 0 w w' (by unfold inV; rw [if_pos (by omega)]) h)
              go_wp2_with ((go_at_call 20; (with_reducible refine (HI.out _ HX.out).mono ?_); rintro e w9 ⟨rfl, hw_⟩; have hv_ := hw_.symm; clear hw_; subst hv_))
              go_roundw
              case rel => exact ⟨307, 306, by first | rfl | go_num, ⟨by omega⟩, ⟨by omega⟩, HX, HY, HP, HQ, HR, HB⟩
              case measure => simp [intOf] <;> omega
            · obtain ⟨m, rfl⟩ : ∃ m, j = m + 1 := ⟨j - 1, by omega⟩
              obtain rfl : i = (m : Int) := by have := HE.out; omega
              have hm : m < 305 := by omega
              have hcell := HP.out.read hm
              have cx := HCX.out.get m
              have HI0 := fun w' (h : IsH w w' gx xs) => in_w gx xs (m : Int) (xs.getD m 0) w w' (by unfold inV; rw [if_neg (by omega), Int.toNat_natCast]) h
              obtain ⟨c, hc⟩ : ∃ c, xs.getD m 0 = c := ⟨_, rfl⟩
              rw [hc] at hcell cx HI0
              have HI := Aside0.mk HI0
              clear hc HI0 h5 h0 hend HE j1
              go_wp2_with ((go_at_call 20; (with_reducible refine (HI.out _ HX.out).mono ?_); rintro e w9 ⟨rfl, hw_⟩; have hv_ := hw_.symm; clear hw_; subst hv_))
              go_roundw
              case rel => exact ⟨m + 2, (m : Int) + 1, by first | rfl | go_num, ⟨by omega⟩, ⟨by omega⟩, HX, HY, HP, HQ, HR, HB⟩
              case measure => simp [intOf] <;> omega
    · go_wp2_with (first | (go_at_call 23; (with_reducible refine (reset_c gx xs _ _ HX.out HB.out).mono ?_); rintro e w9 ⟨rfl, hi, hb, hk⟩; have nX_ := Aside0.mk hi; have nY_ := Aside0.mk (HY.out.keep hk NYX.out); have nP_ := Aside0.mk (HP.out.keep hk NPX.out); have nQ_ := Aside0.mk (HQ.out.keep hk NQX.out); have nR_ := Aside0.mk (HR.out.keep hk NRX.out); have nB_ := Aside0.mk hb; clear HB HX HY HP HQ HR hi hb hk; have HX := nX_; have HY := nY_; have HP := nP_; have HQ := nQ_; have HR := nR_; have HB := nB_; clear nB_ nX_ nY_ nP_ nQ_ nR_) | (go_at_call 18; (with_reducible refine (count_v gx zs 0 _ (by decide +kernel) _ HX.out C0.out).mono ?_); rintro e w9 ⟨rfl, hw_⟩; have hv_ := hw_.symm; clear hw_; subst hv_) | (go_at_call 12; (with_reducible refine (HA.out _).mono ?_); rintro e w1 ⟨rfl, hb⟩; have n1_ := Aside0.mk (below_step HB.out hb); clear HB hb; have HB := n1_; clear n1_))
      go_ret
      exact ⟨rfl, HB.out⟩
theorem counts_c (A A' : Option Addr) (cp cp' : Nat) (a b : List Int) (p q : Int) (w : World) (hra : RowI w A a) (hrb : RowI w A' b) (hca : a.length ≤ cp) (hcb : b.length ≤ cp') (wa : ∀ x ∈ a, x ≤ 9223372036854775807) (wb : ∀ x ∈ b, x ≤ 9223372036854775807) :
    Calls Try.prog 6 #[.slice A a.length cp, .slice A' b.length cp', .agg #[.int .i64 p, .int .i64 q]] w fun e w' => e = .returned (.bool true) ∧ Below w.heap.size w w' := by
  by_cases h1 : 500 < a.length
  · exact counts_long A A' cp cp' a b p q (.inl h1) w
  · by_cases h2 : 500 < b.length
    · exact counts_long A A' cp cp' a b p q (.inr ⟨by omega, h2⟩) w
    · exact counts_ok A A' cp cp' a b p q (by omega) (by omega) w hra hrb hca hcb wa wb
end Go.Proofs.Ytmhhklmfnhgbbaa.Hst
