/- In, Merge and what nobody made; no condition but those that stand in each. -/
import Derived.Test.YtmhhklmfnhgbbaaHistAlive
import Derived.Deep.RegionLaw
namespace Go.Proofs.Ytmhhklmfnhgbbaa.Hst
set_option linter.unusedVariables false
set_option linter.unusedSimpArgs false
open Go.RowKit Go.Proofs.Ytmhhklmfnhgbbaa.PA Go.Proofs.YtmhhklmfnhgbbaaW.PrintWords Go.Proofs.YtmhhklmfnhgbbaaW.PrintLast Go.Proofs.YtmhhklmfnhgbbaaW.PrintMore
attribute [local go_sem] max2_int min2_int max_two min_two max_three min_three max_four min_four
def inV (xs : List Int) (b : Int) : Int := if b < 0 ∨ 305 ≤ b then 0 else xs.getD b.toNat 0
theorem in_c (g : Nat) (xs : List Int) (b : Int) (w0 w : World) (hI : IsH w0 w g xs) : Calls Try.prog 20 #[.pointer (some ⟨g, 0, none⟩), .int .i64 b] w fun e w' => e = .returned (.int .u32 (inV xs b)) ∧ w' = w := by
  unfold inV
  by_cases h : b < 0 ∨ 305 ≤ b
  · rw [if_pos h]
    have H : b < 0 ∨ (0 ≤ b ∧ 305 ≤ b) := by omega
    clear h hI
    rcases H with h | ⟨h, h'⟩
    all_goals
     go_enter Try.func20, Try.ntmps20
     go_wp2_with fail
     go_ret
     exact ⟨rfl, rfl⟩
  · rw [if_neg h]
    obtain ⟨k, rfl⟩ := Int.eq_ofNat_of_zero_le (show 0 ≤ b by omega)
    have hk : k < 305 := by omega
    have hc := hI.read hk
    rw [Int.toNat_natCast]
    clear h hI
    go_enter Try.func20, Try.ntmps20
    go_wp2_with fail
    go_ret
    exact ⟨rfl, rfl⟩
/-! ### what nobody made -/
theorem nil_in (b : Int) (w : World) : Calls Try.prog 20 #[.pointer none, .int .i64 b] w fun e w' => e = .returned (.int .u32 0) ∧ w' = w := by
  go_enter Try.func20, Try.ntmps20
  go_wp2_with fail
  go_ret
  exact ⟨rfl, rfl⟩
theorem nil_add (v : Value) (w : World) : Calls Try.prog 14 #[.pointer none, v] w fun e w' => e = .returned (.int .i64 0) ∧ w' = w := by
  go_enter Try.func14, Try.ntmps14
  go_wp2_with fail
  go_ret
  exact ⟨rfl, rfl⟩
theorem nil_count (w : World) : Calls Try.prog 18 #[.pointer none] w fun e w' => e = .returned (.int .u64 0) ∧ w' = w := by
  go_enter Try.func18, Try.ntmps18
  go_wp2_with fail
  go_ret
  exact ⟨rfl, rfl⟩
theorem nil_reset (w : World) : Calls Try.prog 23 #[.pointer none] w fun e w' => e = .returned (.tuple #[]) ∧ w' = w := by
  go_enter Try.func23, Try.ntmps23
  go_wp2_with fail
  first | go_end0 | ((try simp only [Exit.inBlock, Exit.then]); refine bodyPost_ret (results_none rfl _ _ _) rfl ?_)
  exact ⟨rfl, rfl⟩
theorem nil_merge (v : Value) (w : World) : Calls Try.prog 21 #[.pointer none, v] w fun e w' => e = .returned (.tuple #[]) ∧ w' = w := by
  go_enter Try.func21, Try.ntmps21
  go_wp2_with fail
  first | go_end0 | ((try simp only [Exit.inBlock, Exit.then]); refine bodyPost_ret (results_none rfl _ _ _) rfl ?_)
  exact ⟨rfl, rfl⟩
theorem merge_nil (g : Nat) (w : World) : Calls Try.prog 21 #[.pointer (some ⟨g, 0, none⟩), .pointer none] w fun e w' => e = .returned (.tuple #[]) ∧ w' = w := by
  go_enter Try.func21, Try.ntmps21
  go_wp2_with fail
  first | go_end0 | ((try simp only [Exit.inBlock, Exit.then]); refine bodyPost_ret (results_none rfl _ _ _) rfl ?_)
  exact ⟨rfl, rfl⟩
theorem nil_quant (a b : Int) (w : World) : Calls Try.prog 15 #[.pointer none, .int .i64 a, .int .i64 b] w fun e w' => e = .returned (.tuple #[.int .i64 0, .int .i64 1]) ∧ w' = w := by
  have HC := Aside0.mk nil_count
  have H : a < 0 ∨ (0 ≤ a ∧ b < a) ∨ (0 ≤ a ∧ a ≤ b ∧ b < 1) ∨ (0 ≤ a ∧ a ≤ b ∧ 1 ≤ b ∧ 1000000 < b) ∨ (0 ≤ a ∧ a ≤ b ∧ 1 ≤ b ∧ b ≤ 1000000) := by omega
  rcases H with h | ⟨h1, h⟩ | ⟨h1, h2, h⟩ | ⟨h1, h2, h3, h⟩ | ⟨h1, h2, h3, h4⟩
  all_goals
   go_enter Try.func15, Try.ntmps15
   go_wp2_with (go_at_call 18; (with_reducible refine (HC.out _).mono ?_); rintro e w1 ⟨rfl, rfl⟩)
   go_ret2
   exact ⟨rfl, rfl⟩
/-! ### Merge -/
def mv (x y : Int) : Int := mn (x + y) 4294967295
def mg (xs ys : List Int) : Nat → List Int
  | 0 => xs
  | i + 1 => (mg xs ys i).set i (mv (xs.getD i 0) (ys.getD i 0))
theorem mg_len (xs ys : List Int) : ∀ i, (mg xs ys i).length = xs.length
  | 0 => rfl
  | i + 1 => by rw [mg, List.length_set, mg_len xs ys i]
theorem mg_get (xs ys : List Int) : ∀ (i j : Nat), i ≤ j → (mg xs ys i).getD j 0 = xs.getD j 0
  | 0, j, _ => rfl
  | i + 1, j, h => by
    rw [mg, List.getD_eq_getElem?_getD, List.getElem?_set_ne (by omega), ← List.getD_eq_getElem?_getD, mg_get xs ys i j (by omega)]
theorem mg_done (xs ys : List Int) : ∀ (i j : Nat), j < i → j < xs.length → (mg xs ys i).getD j 0 = mv (xs.getD j 0) (ys.getD j 0)
  | 0, j, h, _ => by omega
  | i + 1, j, h, hl => by
    rw [mg, List.getD_eq_getElem?_getD]
    by_cases e : i = j
    · subst e
      rw [List.getElem?_set_self (by rw [mg_len]; exact hl)]; rfl
    · rw [List.getElem?_set_ne e, ← List.getD_eq_getElem?_getD, mg_done xs ys i j (by omega) hl]
theorem up_c (a m x : Int) (r : Int) (h : (a + (mn x ((m - a) % 4294967296))) % 4294967296 = r) (w : World) : Calls Try.prog 27 #[.agg #[.int .u32 a, .int .u32 m], .int .u32 x] w fun e w' => e = .returned (.agg #[.int .u32 r, .int .u32 m]) ∧ Below w.heap.size w w' :=
  sat_Counter_Up.calls a m x r m w (by unfold sat_Counter_Up.f; rw [h])
set_option maxHeartbeats 4000000 in
set_option maxRecDepth 100000 in
theorem merge_c (g go : Nat) (xs ys : List Int) (w0 w : World) (hI : IsH w0 w g xs) (hJ : IsH w0 w go ys) (hB : Below w0.heap.size w0 w) (hx : Cnt xs) (hy : Cnt ys) :
    Calls Try.prog 21 #[.pointer (some ⟨g, 0, none⟩), .pointer (some ⟨go, 0, none⟩)] w fun e w' => e = .returned (.tuple #[]) ∧ IsH w0 w' g (mg xs ys 305) ∧ Below w0.heap.size w0 w' ∧ KeepBut w w' g none := by
  have HI := Aside0.mk hI
  have HJ := Aside0.mk hJ
  have HB := Aside0.mk hB
  have HX := Aside0.mk hx
  have HY := Aside0.mk hy
  have HK := Aside0.mk (KeepBut.refl w g none)
  have LX := Aside0.mk hI.2.1
  have LY := Aside0.mk hJ.2.1
  have hsz : (Try.prog.info? 51).map (·.size) = some 305 := by kernel_rfl
  have HSZ := Aside0.mk (show (Try.prog.info? 51).map (·.size) = some (nums .u32 ys).toArray.size by rw [hsz]; simp [nums, hJ.2.1])
  clear hsz hI hJ hB hx hy
  go_enter Try.func21, Try.ntmps21
  go_wp2_with (refine wpList_load_row rfl 51 (.tmp 14) rfl go rfl 53 _ (0, 0) _ HJ.out.1 Try.underlying51 rfl HSZ.out ?_)
  go_loopw [16] (fun vi wr => ∃ i : Nat, vi = .int .i64 i ∧ Aside0 (i ≤ 305) ∧ Aside0 (IsH w0 wr g (mg xs ys i)) ∧ Aside0 (Below w0.heap.size w0 wr) ∧ Aside0 (KeepBut w wr g none)) (fun vi _ => (305 - intOf vi).toNat)
  case atStart => exact ⟨0, rfl, ⟨by omega⟩, HI, HB, HK⟩
  case round =>
    clear HI HB HK HJ
    obtain ⟨i, rfl, HL, HI, HB, HK⟩ := hrel
    have l1 := HL.out
    by_cases hlt : i < 305
    · have hix := index_in ys LY.out i hlt
      have hcell := HI.out.read hlt
      rw [mg_get xs ys i i (Nat.le_refl _)] at hcell
      have cx := HX.out.get i
      have cy := HY.out.get i
      have EM := Aside0.mk (show mg xs ys (i + 1) = (mg xs ys i).set i (mv (xs.getD i 0) (ys.getD i 0)) from rfl)
      obtain ⟨x, hxx⟩ : ∃ x, xs.getD i 0 = x := ⟨_, rfl⟩
      obtain ⟨y, hyy⟩ : ∃ y, ys.getD i 0 = y := ⟨_, rfl⟩
      rw [hxx] at hcell cx EM
      rw [hyy] at hix cy EM
      have HXX := Aside0.mk hxx
      clear hxx hyy
      have U1 := Aside0.mk (up_c 0 4294967295 x x (by unfold mn; split <;> omega))
      have U2 := Aside0.mk (up_c x 4294967295 y (mv x y) (by unfold mv mn; (repeat' split) <;> omega))
      have HXI := Aside0.mk (show ∀ w', IsH w0 w' g (mg xs ys i) → w'.cell? ⟨g, i, none⟩ = some (.int .u32 x) from fun w' h => by have := h.read hlt; rw [mg_get xs ys i i (Nat.le_refl _), HXX.out] at this; exact this)
      have HN := Aside0.mk (fun w' : World => sat_NewCounter.calls 4294967295 0 4294967295 w' rfl)
      have HQ := Aside0.mk (fun w' : World => sat_Counter_N.calls (mv x y) 4294967295 (mv x y) w' rfl)
      go_wp2_with fail
      have n0_ := Aside0.mk (show IsH w0 wr.drew g (mg xs ys i) from HI.out)
      have n1_ := Aside0.mk (show Below w0.heap.size w0 wr.drew from below_drew HB.out)
      have n2_ := Aside0.mk (show KeepBut w wr.drew g none from HK.out)
      clear HI HB HK hcell
      have HI := n0_; have HB := n1_; have HK := n2_
      clear n0_ n1_ n2_
      have hcell := HXI.out wr.drew HI.out
      have hfree := HI.out.free i
      go_region_law (first | (go_simp; go_at_call 26; (with_reducible refine (HN.out _).mono ?_); rintro e w9 ⟨rfl, hb⟩; have n0_ := Aside0.mk (HI.out.below hb); have n1_ := Aside0.mk (below_step HB.out hb); have n2_ := Aside0.mk (KeepBut.trans HK.out (KeepBut.of_below hb g none) (.inl rfl)); clear HI HB HK hb; have HI := n0_; have HB := n1_; have HK := n2_; clear n0_ n1_ n2_; have hcell : w9.cell? ⟨g, i, none⟩ = some (.int .u32 x) := HXI.out w9 HI.out; have hfree := HI.out.free i) | (go_simp; go_at_call 27; (with_reducible refine (U1.out _).mono ?_); rintro e w9 ⟨rfl, hb⟩; have n0_ := Aside0.mk (HI.out.below hb); have n1_ := Aside0.mk (below_step HB.out hb); have n2_ := Aside0.mk (KeepBut.trans HK.out (KeepBut.of_below hb g none) (.inl rfl)); clear HI HB HK hb; have HI := n0_; have HB := n1_; have HK := n2_; clear n0_ n1_ n2_; have hcell : w9.cell? ⟨g, i, none⟩ = some (.int .u32 x) := HXI.out w9 HI.out; have hfree := HI.out.free i) | (go_simp; go_at_call 27; (with_reducible refine (U2.out _).mono ?_); rintro e w9 ⟨rfl, hb⟩; have n0_ := Aside0.mk (HI.out.below hb); have n1_ := Aside0.mk (below_step HB.out hb); have n2_ := Aside0.mk (KeepBut.trans HK.out (KeepBut.of_below hb g none) (.inl rfl)); clear HI HB HK hb; have HI := n0_; have HB := n1_; have HK := n2_; clear n0_ n1_ n2_; have hcell : w9.cell? ⟨g, i, none⟩ = some (.int .u32 x) := HXI.out w9 HI.out; have hfree := HI.out.free i) | (go_simp; go_at_call 28; (with_reducible refine (HQ.out _).mono ?_); rintro e w9 ⟨rfl, hb⟩; have n0_ := Aside0.mk (HI.out.below hb); have n1_ := Aside0.mk (below_step HB.out hb); have n2_ := Aside0.mk (KeepBut.trans HK.out (KeepBut.of_below hb g none) (.inl rfl)); clear HI HB HK hb; have HI := n0_; have HB := n1_; have HK := n2_; clear n0_ n1_ n2_; have hcell : w9.cell? ⟨g, i, none⟩ = some (.int .u32 x) := HXI.out w9 HI.out; have hfree := HI.out.free i))
      all_goals go_wp2_with fail
      all_goals go_roundw
      all_goals first
        | exact ⟨i + 1, by go_num, ⟨by omega⟩, ⟨by rw [EM.out]; exact HI.out.put i _⟩, ⟨below_set HB.out HI.out.2.2⟩, ⟨KeepBut.set_ HK.out _ _⟩⟩
        | (simp [intOf]; omega)
    · have e : i = 305 := by omega
      subst e
      go_wp2_with fail
      first | go_end0 | ((try simp only [Exit.inBlock, Exit.then]); refine bodyPost_ret (results_none rfl _ _ _) rfl ?_)
      exact ⟨rfl, HI.out, HB.out, HK.out⟩
end Go.Proofs.Ytmhhklmfnhgbbaa.Hst
