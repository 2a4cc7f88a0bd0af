/- HistOrder: what is added in any order is the same; merging is adding; what nobody made counts nothing; the walk; no condition but that numbers are of their kinds. -/
import Derived.Test.YtmhhklmfnhgbbaaHistQuant
import Derived.Test.YtmhhklmfnhgbbaaHistCnt
namespace Go.Proofs.Ytmhhklmfnhgbbaa.Hst
set_option linter.unusedVariables false
set_option linter.unusedSimpArgs false
open Go.RowKit Go.Proofs.Ytmhhklmfnhgbbaa.PA Go.Proofs.YtmhhklmfnhgbbaaW.PrintWords Go.Proofs.YtmhhklmfnhgbbaaW.PrintLast Go.Proofs.YtmhhklmfnhgbbaaW.PrintMore
attribute [local go_sem] max2_int min2_int max_two min_two max_three min_three max_four min_four
theorem add_k (g : Nat) (xs : List Int) (A : Option Addr) (cp : Nat) (l ys : List Int) (w0 w : World) (h : (addV xs l).1 = ys) (hI : IsH w0 w g xs) (hB : Below w0.heap.size w0 w) (hx : Cnt xs) (hr : RowI w A l) (hn : 0 < l.length → ∀ a, A = some a → a.block ≠ g) (hc : l.length ≤ cp) (hm : l.length ≤ 1000000) (hw : ∀ x ∈ l, x ≤ 9223372036854775807) :
    Calls Try.prog 14 #[.pointer (some ⟨g, 0, none⟩), .slice A l.length cp] w fun e w' => ∃ v, e = .returned (.int .i64 v) ∧ IsH w0 w' g ys ∧ Below w0.heap.size w0 w' ∧ KeepBut w w' g none :=
  (add_c g xs A cp l w0 w hI hB hx hr hn hc hm hw).mono fun e w' ⟨a, b, c, d⟩ => ⟨_, a, h ▸ b, c, d⟩
theorem add_one (g : Nat) (xs : List Int) (x : Int) (ys : List Int) (w0 w : World) (h : (addV xs [x]).1 = ys) (hI : IsH w0 w g xs) (hB : Below w0.heap.size w0 w) (hx : Cnt xs) (hw : x ≤ 9223372036854775807) :
    Calls Try.prog 14 #[.pointer (some ⟨g, 0, none⟩), .slice (some ⟨w.heap.size, 0, none⟩) 1 1] (w.alloc (.cells #[.int .i64 x] 2)) fun e w' => ∃ v, e = .returned (.int .i64 v) ∧ IsH w0 w' g ys ∧ Below w0.heap.size w0 w' ∧ KeepBut w w' g none := by
  have hb : (w.alloc (.cells #[.int .i64 x] 2)).heap[w.heap.size]? = some (.cells #[.int .i64 x] 2 (0, 0)) := blk_new _ _
  have hr : RowI (w.alloc (.cells #[.int .i64 x] 2)) (some ⟨w.heap.size, 0, none⟩) [x] := fun j y hy => by
    refine ⟨_, rfl, ?_⟩
    rw [add_plain]
    refine (blk_cell hb j).trans ?_
    rcases j with _ | j
    · simp at hy; subst hy; rfl
    · simp at hy
  refine (add_k g xs (some ⟨w.heap.size, 0, none⟩) 1 [x] ys w0 (w.alloc (.cells #[.int .i64 x] 2)) h (hI.below (below_alloc (Below.refl _ _) _)) (below_alloc hB _) hx hr (fun _ a ha => by obtain rfl := Option.some.inj ha; exact (Nat.ne_of_lt hI.lt).symm) (Nat.le_refl _) (by show 1 ≤ 1000000; decide) (fun y hy => by simp only [List.mem_singleton] at hy; omega)).mono ?_
  rintro e w' ⟨v, a, b, c, d⟩
  exact ⟨v, a, b, c, KeepBut.trans (KeepBut.of_below (below_alloc (Below.refl _ _) _) g none) d (.inl rfl)⟩
theorem merge_k (g go : Nat) (xs ys zs' : List Int) (w0 w : World) (h : mg xs ys 305 = zs') (hI : IsH w0 w g xs) (hJ : IsH w0 w go ys) (hB : Below w0.heap.size w0 w) (hx : Cnt xs) (hy : Cnt ys) :
    Calls Try.prog 21 #[.pointer (some ⟨g, 0, none⟩), .pointer (some ⟨go, 0, none⟩)] w fun e w' => e = .returned (.tuple #[]) ∧ IsH w0 w' g zs' ∧ Below w0.heap.size w0 w' ∧ KeepBut w w' g none :=
  (merge_c g go xs ys w0 w hI hJ hB hx hy).mono fun e w' ⟨a, b, c, d⟩ => ⟨a, h ▸ b, c, d⟩
theorem fold_fst : ∀ (m : List Int) (p q : List Int × Int), p.1 = q.1 → (m.foldl addS p).1 = (m.foldl addS q).1
  | [], _, _, h => h
  | x :: m, p, q, h => by
    refine fold_fst m _ _ ?_
    unfold addS
    rw [h]
    split
    · rfl
    · exact h
theorem addV_cat (xs l m : List Int) : (addV (addV xs l).1 m).1 = (addV xs (l ++ m)).1 := by
  unfold addV
  rw [List.foldl_append]
  exact fold_fst m _ _ rfl
theorem back_step {xs l : List Int} {k : Nat} {x : Int} (h : l[k]? = some x) : (addV (addV xs (l.drop (k + 1)).reverse).1 [x]).1 = (addV xs (l.drop k).reverse).1 := by
  rw [addV_cat]
  obtain ⟨hk, rfl⟩ := List.getElem?_eq_some_iff.1 h
  rw [List.drop_eq_getElem_cons hk, List.reverse_cons]
theorem in_v (g : Nat) (xs : List Int) (i : Nat) (c : Int) (w0 w : World) (h : xs.getD i 0 = c) (hi : i < 305) (hI : IsH w0 w g xs) : Calls Try.prog 20 #[.pointer (some ⟨g, 0, none⟩), .int .i64 i] w fun e w' => e = .returned (.int .u32 c) ∧ w' = w := by
  have := in_c g xs i w0 w hI
  unfold inV at this
  rw [if_neg (by omega), Int.toNat_natCast, h] at this
  exact this
theorem IsH.ge {w0 w : World} {g : Nat} {xs : List Int} (h : IsH w0 w g xs) : w0.heap.size ≤ g := h.2.2
theorem IsH.up {w0 w1 w2 : World} {g : Nat} {xs : List Int} (h : IsH w1 w2 g xs) (hB : Below w0.heap.size w0 w1) : IsH w0 w2 g xs := ⟨h.1, h.2.1, Nat.le_trans hB.size h.2.2⟩
set_option maxRecDepth 100000 in
theorem isH_box {w0 w : World} (hB : Below w0.heap.size w0 w) : IsH w0 (w.alloc (.cells ZA 53)) w.heap.size zs := ⟨blk_new _ _, by simp [zs], hB.size⟩
set_option maxHeartbeats 8000000 in
set_option maxRecDepth 100000 in
theorem order_long (A A' : Option Addr) (cp cp' : Nat) (a b : List Int) (h : 500 < a.length ∨ (a.length ≤ 500 ∧ 500 < b.length)) (w : World) :
    Calls Try.prog 7 #[.slice A a.length cp, .slice A' b.length cp'] w fun e w' => e = .returned (.bool true) ∧ Below w.heap.size w w' := by
  have HA := Aside0.mk alive_c
  rcases h with h | ⟨h, h'⟩
  all_goals
   go_enter Try.func7, Try.ntmps7
   go_wp2_with (go_at_call 12; (with_reducible refine (HA.out _).mono ?_); rintro e w1 ⟨rfl, hb⟩; have HB := Aside0.mk hb; clear hb)
   go_ret
   exact ⟨rfl, HB.out⟩
set_option maxHeartbeats 8000000 in
set_option maxRecDepth 100000 in
theorem order_ok (A A' : Option Addr) (cp cp' : Nat) (a b : List Int) (ha : a.length ≤ 500) (hb : b.length ≤ 500) (w : World) (hra : RowI w A a) (hrb : RowI w A' b) (hca : a.length ≤ cp) (hcb : b.length ≤ cp') (wa : ∀ x ∈ a, x ≤ 9223372036854775807) (wb : ∀ x ∈ b, x ≤ 9223372036854775807) :
    Calls Try.prog 7 #[.slice A a.length cp, .slice A' b.length cp'] w fun e w' => e = .returned (.bool true) ∧ Below w.heap.size w w' := by
  obtain ⟨X1, hX1⟩ : ∃ X1, (addV zs a).1 = X1 := ⟨_, rfl⟩
  obtain ⟨X2, hX2⟩ : ∃ X2, (addV X1 b).1 = X2 := ⟨_, rfl⟩
  obtain ⟨Z1, hZ1⟩ : ∃ Z1, (addV zs b).1 = Z1 := ⟨_, rfl⟩
  obtain ⟨Y2, hY2⟩ : ∃ Y2, mg X1 Z1 305 = Y2 := ⟨_, rfl⟩
  have EX1 := Aside0.mk hX1; have EX2 := Aside0.mk hX2; have EZ1 := Aside0.mk hZ1; have EY2 := Aside0.mk hY2
  have C0 := Aside0.mk cnt_zs; have CBb := C0; have CBa := Aside0.mk (addV_inv zs cnt_zs b.reverse).1
  have T3 : Aside0 (∀ i, i < 305 → X2.getD i 0 = Y2.getD i 0 ∧ X2.getD i 0 = (addV (addV zs b.reverse).1 a.reverse).1.getD i 0) := ⟨fun i hi => by rw [← hX2, ← hY2, ← hX1, ← hZ1]; exact three_one ha hb wa wb hi⟩
  have CX1 := Aside0.mk (show Cnt X1 from hX1 ▸ (addV_inv zs cnt_zs a).1)
  have CZ1 := Aside0.mk (show Cnt Z1 from hZ1 ▸ (addV_inv zs cnt_zs b).1)
  have HRa := Aside0.mk hra; have HRb := Aside0.mk hrb; have HCa := Aside0.mk hca; have HCb := Aside0.mk hcb; have HWa := Aside0.mk wa; have HWb := Aside0.mk wb
  have HMa := Aside0.mk (show a.length ≤ 1000000 by omega); have HMb := Aside0.mk (show b.length ≤ 1000000 by omega)
  have HA := Aside0.mk alive_c
  have HB := Aside0.mk (Below.refl w.heap.size w)
  have hz := zero53
  clear hX1 hX2 hZ1 hY2 hra hrb hca hcb wa wb
  go_enter Try.func7, Try.ntmps7
  go_upto_region 9 with (first | (go_at_call 13; (with_reducible refine (new_c _).mono ?_); rintro e w1 ⟨g0, rfl, hi, hb⟩; have nB_ := Aside0.mk (below_step HB.out hb); clear HB hi hb; have HB := nB_; clear nB_) | (go_at_call 23; (with_reducible refine (nil_reset _).mono ?_); rintro e w1 ⟨rfl, hw_⟩; have hv_ := hw_.symm; clear hw_; subst hv_) | (go_at_call 21; (with_reducible refine (nil_merge _ _).mono ?_); rintro e w1 ⟨rfl, hw_⟩; have hv_ := hw_.symm; clear hw_; subst hv_) | (go_at_call 15; (with_reducible refine (nil_quant 1 2 _).mono ?_); rintro e w1 ⟨rfl, hw_⟩; have hv_ := hw_.symm; clear hw_; subst hv_) | (go_at_call 14; (with_reducible refine (nil_add _ _).mono ?_); rintro e w1 ⟨rfl, hw_⟩; have hv_ := hw_.symm; clear hw_; subst hv_) | (go_at_call 18; (with_reducible refine (nil_count _).mono ?_); rintro e w1 ⟨rfl, hw_⟩; have hv_ := hw_.symm; clear hw_; subst hv_) | (go_at_call 20; (with_reducible refine (nil_in 0 _).mono ?_); rintro e w1 ⟨rfl, hw_⟩; have hv_ := hw_.symm; clear hw_; subst hv_))
  have nB_ := Aside0.mk (below_alloc HB.out (.cells #[.int .i64 1] 2)); clear HB; have HB := nB_; clear nB_
  go_upto_region 10 with (first | (go_at_call 13; (with_reducible refine (new_c _).mono ?_); rintro e w9 ⟨gy, rfl, hi, hb⟩; have NXY := Aside0.mk (Nat.ne_of_lt (Nat.lt_of_lt_of_le HX.out.lt hi.2.2)); have NYX := Aside0.mk NXY.out.symm; have nN_ := Aside0.mk (IsH.up hi HB.out); have nX_ := Aside0.mk (HX.out.below hb); have nB_ := Aside0.mk (below_step HB.out hb); clear HB HX hi hb; have HY := nN_; have HX := nX_; have HB := nB_; clear nN_ nB_ nX_) | (go_at_call 13; (with_reducible refine (new_c _).mono ?_); rintro e w9 ⟨gx, rfl, hi, hb⟩; have nN_ := Aside0.mk (IsH.up hi HB.out); have nB_ := Aside0.mk (below_step HB.out hb); clear HB  hi hb; have HX := nN_; have HB := nB_; clear nN_ nB_))
  have HZ := Aside0.mk (isH_box HB.out)
  have NXZ := Aside0.mk (Nat.ne_of_lt HX.out.lt); have NZX := Aside0.mk NXZ.out.symm; have nX_ := Aside0.mk (HX.out.below (below_alloc (Below.refl _ _) (.cells ZA 53)))
  have NYZ := Aside0.mk (Nat.ne_of_lt HY.out.lt); have NZY := Aside0.mk NYZ.out.symm; have nY_ := Aside0.mk (HY.out.below (below_alloc (Below.refl _ _) (.cells ZA 53)))
  have nB_ := Aside0.mk (below_alloc HB.out (.cells ZA 53)); clear HB HX HY; have HX := nX_; have HY := nY_; have HB := nB_; clear nX_ nY_ nB_
  go_upto_region 17 with (first | (go_at_call 14; (with_reducible refine (add_k _ zs A cp a X1 _ _ EX1.out HX.out HB.out C0.out (HRa.out.below HB.out) (fun h0 a_ ha_ => Nat.ne_of_lt (Nat.lt_of_lt_of_le (RowI.lt HRa.out h0 a_ ha_) (IsH.ge HX.out))) HCa.out HMa.out HWa.out).mono ?_); rintro e w9 ⟨v9, rfl, hi, hb, hk⟩; have nX_ := Aside0.mk hi; have nY_ := Aside0.mk (HY.out.keep hk NYX.out); have nZ_ := Aside0.mk (HZ.out.keep hk NZX.out); have nB_ := Aside0.mk hb; clear HB HX HY HZ hi hb hk; have HX := nX_; have HY := nY_; have HZ := nZ_; have HB := nB_; clear nB_ nX_ nY_ nZ_) | (go_at_call 14; (with_reducible refine (add_k _ X1 A' cp' b X2 _ _ EX2.out HX.out HB.out CX1.out (HRb.out.below HB.out) (fun h0 a_ ha_ => Nat.ne_of_lt (Nat.lt_of_lt_of_le (RowI.lt HRb.out h0 a_ ha_) (IsH.ge HX.out))) HCb.out HMb.out HWb.out).mono ?_); rintro e w9 ⟨v9, rfl, hi, hb, hk⟩; have nX_ := Aside0.mk hi; have nY_ := Aside0.mk (HY.out.keep hk NYX.out); have nZ_ := Aside0.mk (HZ.out.keep hk NZX.out); have nB_ := Aside0.mk hb; clear HB HX HY HZ hi hb hk; have HX := nX_; have HY := nY_; have HZ := nZ_; have HB := nB_; clear nB_ nX_ nY_ nZ_) | (go_at_call 14; (with_reducible refine (add_k _ zs A cp a X1 _ _ EX1.out HY.out HB.out C0.out (HRa.out.below HB.out) (fun h0 a_ ha_ => Nat.ne_of_lt (Nat.lt_of_lt_of_le (RowI.lt HRa.out h0 a_ ha_) (IsH.ge HY.out))) HCa.out HMa.out HWa.out).mono ?_); rintro e w9 ⟨v9, rfl, hi, hb, hk⟩; have nX_ := Aside0.mk (HX.out.keep hk NXY.out); have nY_ := Aside0.mk hi; have nZ_ := Aside0.mk (HZ.out.keep hk NZY.out); have nB_ := Aside0.mk hb; clear HB HX HY HZ hi hb hk; have HX := nX_; have HY := nY_; have HZ := nZ_; have HB := nB_; clear nB_ nX_ nY_ nZ_) | (go_at_call 14; (with_reducible refine (add_k _ zs A' cp' b Z1 _ _ EZ1.out HZ.out HB.out C0.out (HRb.out.below HB.out) (fun h0 a_ ha_ => Nat.ne_of_lt (Nat.lt_of_lt_of_le (RowI.lt HRb.out h0 a_ ha_) (IsH.ge HZ.out))) HCb.out HMb.out HWb.out).mono ?_); rintro e w9 ⟨v9, rfl, hi, hb, hk⟩; have nX_ := Aside0.mk (HX.out.keep hk NXZ.out); have nY_ := Aside0.mk (HY.out.keep hk NYZ.out); have nZ_ := Aside0.mk hi; have nB_ := Aside0.mk hb; clear HB HX HY HZ hi hb hk; have HX := nX_; have HY := nY_; have HZ := nZ_; have HB := nB_; clear nB_ nX_ nY_ nZ_) | (go_at_call 21; (with_reducible refine (merge_k _ _ X1 Z1 Y2 _ _ EY2.out HY.out HZ.out HB.out CX1.out CZ1.out).mono ?_); rintro e w9 ⟨rfl, hi, hb, hk⟩; have nX_ := Aside0.mk (HX.out.keep hk NXY.out); have nY_ := Aside0.mk hi; have nZ_ := Aside0.mk (HZ.out.keep hk NZY.out); have nB_ := Aside0.mk hb; clear HB HX HY HZ hi hb hk; have HX := nX_; have HY := nY_; have HZ := nZ_; have HB := nB_; clear nB_ nX_ nY_ nZ_) | (go_at_call 21; (with_reducible refine (merge_nil _ _).mono ?_); rintro e w9 ⟨rfl, rfl⟩) | (go_at_call 13; (with_reducible refine (new_c _).mono ?_); rintro e w9 ⟨gk, rfl, hi, hb⟩; have NXK := Aside0.mk (Nat.ne_of_lt (Nat.lt_of_lt_of_le HX.out.lt hi.2.2)); have NKX := Aside0.mk NXK.out.symm; have NYK := Aside0.mk (Nat.ne_of_lt (Nat.lt_of_lt_of_le HY.out.lt hi.2.2)); have NKY := Aside0.mk NYK.out.symm; have NZK := Aside0.mk (Nat.ne_of_lt (Nat.lt_of_lt_of_le HZ.out.lt hi.2.2)); have NKZ := Aside0.mk NZK.out.symm; have nN_ := Aside0.mk (IsH.up hi HB.out); have nX_ := Aside0.mk (HX.out.below hb); have nY_ := Aside0.mk (HY.out.below hb); have nZ_ := Aside0.mk (HZ.out.below hb); have nB_ := Aside0.mk (below_step HB.out hb); clear HB HX HY HZ hi hb; have HK := nN_; have HX := nX_; have HY := nY_; have HZ := nZ_; have HB := nB_; clear nN_ nB_ nX_ nY_ nZ_))
  clear HZ NXZ NZX NYZ NZY NZK NKZ EX1 EZ1
  go_wp2_with fail
  go_loopw [12] (fun vi wr => ∃ (k : Nat) (v : Int) (ys : List Int), vi = .int .i64 v ∧ Aside0 (v = (k : Int) - 1) ∧ Aside0 (k ≤ b.length) ∧ Aside0 (ys = (addV zs (b.drop k).reverse).1) ∧ Aside0 (IsH w wr gk ys) ∧ Aside0 (IsH w wr gx X2) ∧ Aside0 (IsH w wr gy Y2) ∧ Aside0 (Below w.heap.size w wr)) (fun vi _ => (intOf vi + 1).toNat)
  case atStart => exact ⟨b.length, _, _, rfl, ⟨rfl⟩, ⟨Nat.le_refl _⟩, ⟨by rw [List.drop_eq_nil_of_le (Nat.le_refl _)]; rfl⟩, HK, HX, HY, HB⟩
  case round =>
    clear HX HY HB HK
    obtain ⟨k, v, ys, rfl, HV, HL, HE, HK, HX, HY, HB⟩ := hrel
    have l1 := HL.out
    rcases k with _ | k
    · obtain rfl : v = -1 := by have := HV.out; omega
      have e := HE.out
      rw [List.drop_zero] at e
      subst e
      clear HE HV HL l1
      go_wp2_with fail
      go_loopw [13] (fun vi wr => ∃ (k : Nat) (v : Int) (ys : List Int), vi = .int .i64 v ∧ Aside0 (v = (k : Int) - 1) ∧ Aside0 (k ≤ a.length) ∧ Aside0 (ys = (addV (addV zs b.reverse).1 (a.drop k).reverse).1) ∧ Aside0 (IsH w wr gk ys) ∧ Aside0 (IsH w wr gx X2) ∧ Aside0 (IsH w wr gy Y2) ∧ Aside0 (Below w.heap.size w wr)) (fun vi _ => (intOf vi + 1).toNat)
      case atStart => exact ⟨a.length, _, _, rfl, ⟨rfl⟩, ⟨Nat.le_refl _⟩, ⟨by rw [List.drop_eq_nil_of_le (Nat.le_refl _)]; rfl⟩, HK, HX, HY, HB⟩
      case round =>
        clear HX HY HB HK
        obtain ⟨k, v, ys, rfl, HV, HL, HE, HK, HX, HY, HB⟩ := hrel
        have l1 := HL.out
        rcases k with _ | k
        · obtain rfl : v = -1 := by have := HV.out; omega
          have e := HE.out
          rw [List.drop_zero] at e
          subst e
          clear HE HV HL l1
          go_wp2_with fail
          go_loopw [102] (fun vi wr => ∃ i : Nat, vi = .int .i64 i ∧ Aside0 (i ≤ 305) ∧ Aside0 (IsH w wr gk (addV (addV zs b.reverse).1 a.reverse).1) ∧ Aside0 (IsH w wr gx X2) ∧ Aside0 (IsH w wr gy Y2) ∧ Aside0 (Below w.heap.size w wr)) (fun vi _ => (305 - intOf vi).toNat)
          case atStart => exact ⟨0, rfl, ⟨by omega⟩, HK, HX, HY, HB⟩
          case round =>
            clear HX HY HB HK
            obtain ⟨i, rfl, HL, HK, HX, HY, HB⟩ := hrel
            have l1 := HL.out
            by_cases hlt : i < 305
            · obtain ⟨t1, t2⟩ := T3.out i hlt
              obtain ⟨c, hc⟩ : ∃ c, X2.getD i 0 = c := ⟨_, rfl⟩
              rw [hc] at t1 t2
              have C1 := Aside0.mk hc; have C2 := Aside0.mk t1.symm; have C3 := Aside0.mk t2.symm
              clear hc t1 t2
              have HI1 := Aside0.mk (fun w' (h : IsH w w' gx X2) => in_v gx X2 i c w w' C1.out hlt h)
              have HI2 := Aside0.mk (fun w' (h : IsH w w' gy Y2) => in_v gy Y2 i c w w' C2.out hlt h)
              have HI3 := Aside0.mk (fun w' (h : IsH w w' gk _) => in_v gk _ i c w w' C3.out hlt h)
              go_wp2_with (first | (go_at_call 20; (with_reducible refine (HI1.out _ HX.out).mono ?_); rintro e w9 ⟨rfl, hw_⟩; have hv_ := hw_.symm; clear hw_; subst hv_) | (go_at_call 20; (with_reducible refine (HI2.out _ HY.out).mono ?_); rintro e w9 ⟨rfl, hw_⟩; have hv_ := hw_.symm; clear hw_; subst hv_) | (go_at_call 20; (with_reducible refine (HI3.out _ HK.out).mono ?_); rintro e w9 ⟨rfl, hw_⟩; have hv_ := hw_.symm; clear hw_; subst hv_))
              go_roundw
              case rel => exact ⟨i + 1, by go_num, ⟨by omega⟩, HK, HX, HY, HB⟩
              case measure => simp [intOf] <;> omega
            · go_wp2_with (go_at_call 12; (with_reducible refine (HA.out _).mono ?_); rintro e w9 ⟨rfl, hb⟩; have n1_ := Aside0.mk (below_step HB.out hb); clear HB hb; have HB := n1_; clear n1_)
              go_ret
              exact ⟨rfl, HB.out⟩
        · obtain rfl : v = (k : Int) := by have := HV.out; omega
          have hlt : k < a.length := by omega
          obtain ⟨x, hx⟩ : ∃ x, a[k]? = some x := ⟨_, List.getElem?_eq_getElem hlt⟩
          obtain ⟨a_, rfl, h0⟩ := (HRa.out.below HB.out) k x hx
          have HXW := Aside0.mk (HWa.out x (List.mem_of_getElem? hx))
          have hc := (addV_inv (addV zs b.reverse).1 CBa.out (a.drop (k + 1)).reverse).1
          rw [← HE.out] at hc
          have HC := Aside0.mk hc
          have EN := Aside0.mk (show (addV ys [x]).1 = (addV (addV zs b.reverse).1 (a.drop k).reverse).1 by rw [HE.out]; exact back_step hx)
          clear hc hx HV HE
          go_wp2_with (go_at_call 14; (with_reducible refine (add_one gk ys x _ w _ EN.out HK.out HB.out HC.out HXW.out).mono ?_); rintro e w9 ⟨v9, rfl, hi, hb, hk⟩; have nX_ := Aside0.mk (HX.out.keep hk NXK.out); have nY_ := Aside0.mk (HY.out.keep hk NYK.out); have nK_ := Aside0.mk hi; have nB_ := Aside0.mk hb; clear HB HX HY HK hi hb hk; have HX := nX_; have HY := nY_; have HK := nK_; have HB := nB_; clear nB_ nX_ nY_ nK_)
          go_roundw
          case rel => exact ⟨k, (k : Int) - 1, _, by first | rfl | go_num, ⟨rfl⟩, ⟨by omega⟩, ⟨rfl⟩, HK, HX, HY, HB⟩
          case measure => simp [intOf] <;> omega
    · obtain rfl : v = (k : Int) := by have := HV.out; omega
      have hlt : k < b.length := by omega
      obtain ⟨x, hx⟩ : ∃ x, b[k]? = some x := ⟨_, List.getElem?_eq_getElem hlt⟩
      obtain ⟨a_, rfl, h0⟩ := (HRb.out.below HB.out) k x hx
      have HXW := Aside0.mk (HWb.out x (List.mem_of_getElem? hx))
      have hc := (addV_inv zs CBb.out (b.drop (k + 1)).reverse).1
      rw [← HE.out] at hc
      have HC := Aside0.mk hc
      have EN := Aside0.mk (show (addV ys [x]).1 = (addV zs (b.drop k).reverse).1 by rw [HE.out]; exact back_step hx)
      clear hc hx HV HE
      go_wp2_with (go_at_call 14; (with_reducible refine (add_one gk ys x _ w _ EN.out HK.out HB.out HC.out HXW.out).mono ?_); rintro e w9 ⟨v9, rfl, hi, hb, hk⟩; have nX_ := Aside0.mk (HX.out.keep hk NXK.out); have nY_ := Aside0.mk (HY.out.keep hk NYK.out); have nK_ := Aside0.mk hi; have nB_ := Aside0.mk hb; clear HB HX HY HK hi hb hk; have HX := nX_; have HY := nY_; have HK := nK_; have HB := nB_; clear nB_ nX_ nY_ nK_)
      go_roundw
      case rel => exact ⟨k, (k : Int) - 1, _, by first | rfl | go_num, ⟨rfl⟩, ⟨by omega⟩, ⟨rfl⟩, HK, HX, HY, HB⟩
      case measure => simp [intOf] <;> omega
theorem order_c (A A' : Option Addr) (cp cp' : Nat) (a b : List Int) (w : World) (hra : RowI w A a) (hrb : RowI w A' b) (hca : a.length ≤ cp) (hcb : b.length ≤ cp') (wa : ∀ x ∈ a, x ≤ 9223372036854775807) (wb : ∀ x ∈ b, x ≤ 9223372036854775807) :
    Calls Try.prog 7 #[.slice A a.length cp, .slice A' b.length cp'] w fun e w' => e = .returned (.bool true) ∧ Below w.heap.size w w' := by
  by_cases h1 : 500 < a.length
  · exact order_long A A' cp cp' a b (.inl h1) w
  · by_cases h2 : 500 < b.length
    · exact order_long A A' cp cp' a b (.inr ⟨by omega, h2⟩) w
    · exact order_ok A A' cp cp' a b (by omega) (by omega) w hra hrb hca hcb wa wb
end Go.Proofs.Ytmhhklmfnhgbbaa.Hst
