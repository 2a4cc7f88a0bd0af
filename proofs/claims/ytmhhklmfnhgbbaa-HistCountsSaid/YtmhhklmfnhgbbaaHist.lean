/- A histogram as a row of counts: what lies, the boxes, what is added; no condition but those that stand in each. -/
import Derived.Test.YtmhhklmfnhgbbaaPAx1
import Derived.Test.YtmhhklmfnhgbbaaBase
import Derived.Test.YtmhhklmfnhgbbaaShelf
import Derived.LoopTactic
import Derived.Deep.QuietTactic
import Derived.BigQuiet
import Derived.RegionTactic
namespace Go.Proofs.Ytmhhklmfnhgbbaa.Hst
set_option linter.unusedVariables false
set_option linter.unusedSimpArgs false
open Go.RowKit Go.Proofs.Ytmhhklmfnhgbbaa.PA Go.Proofs.YtmhhklmfnhgbbaaW.PrintWords Go.Proofs.YtmhhklmfnhgbbaaW.PrintLast Go.Proofs.YtmhhklmfnhgbbaaW.PrintMore
attribute [local go_sem] max2_int min2_int max_two min_two max_three min_three max_four min_four
def zs : List Int := List.replicate 305 0
def ZA : Array Value := (nums .u32 zs).toArray
theorem zero53 (w : World) : (zeroValue 53).run Try.prog w = .ok (.agg ZA) w := by kernel_rfl
theorem box_zero (w : World) : (Instr.box 53 (.agg ZA)).run Try.prog w = .ok (.pointer (some ⟨w.heap.size, 0, none⟩)) (w.alloc (.cells ZA 53)) := by kernel_rfl
def IsH (w0 W : World) (g : Nat) (xs : List Int) : Prop := W.heap[g]? = some (.cells (nums .u32 xs).toArray 53 (0, 0)) ∧ xs.length = 305 ∧ w0.heap.size ≤ g
set_option maxHeartbeats 1000000 in
set_option maxRecDepth 100000 in
theorem new_c (w : World) : Calls Try.prog 13 #[] w fun e w' => ∃ g, e = .returned (.pointer (some ⟨g, 0, none⟩)) ∧ IsH w w' g zs ∧ Below w.heap.size w w' := by
  have hb := zero53
  have hx := box_zero
  go_enter Try.func13, Try.ntmps13
  go_wp2_with fail
  go_ret
  exact ⟨_, rfl, ⟨blk_new _ _, by simp [zs], Nat.le_refl _⟩, below_alloc (Below.refl _ _) _⟩
theorem IsH.read {w0 W : World} {g : Nat} {xs : List Int} (h : IsH w0 W g xs) {k : Nat} (hk : k < 305) : W.cell? ⟨g, k, none⟩ = some (.int .u32 (xs.getD k 0)) := by
  refine (blk_cell h.1 k).trans ?_
  have := h.2.1
  simp [nums, List.getD_eq_getElem?_getD, show k < xs.length by omega]
theorem IsH.free {w0 W : World} {g : Nat} {xs : List Int} (h : IsH w0 W g xs) (k : Nat) : W.frozen? ⟨g, k, none⟩ = false := blk_frozen h.1 k
theorem IsH.put {w0 W : World} {g : Nat} {xs : List Int} (h : IsH w0 W g xs) (k : Nat) (v : Int) : IsH w0 (W.setCell ⟨g, k, none⟩ (.int .u32 v)) g (xs.set k v) := by
  refine ⟨(blk_set h.1 k _).trans ?_, by rw [List.length_set]; exact h.2.1, h.2.2⟩
  simp [nums, List.map_set]
theorem IsH.below {w0 W W' : World} {g : Nat} {xs : List Int} (h : IsH w0 W g xs) (hb : Below W.heap.size W W') : IsH w0 W' g xs := ⟨blk_below h.1 hb, h.2⟩
theorem IsH.drew {w0 W : World} {g : Nat} {xs : List Int} (h : IsH w0 W g xs) (n : Nat) : IsH w0 (W.drewN n) g xs := h
theorem IsH.keep {w0 W W' : World} {g k : Nat} {xs : List Int} (h : IsH w0 W g xs) (hk : KeepBut W W' k none) (hn : g ≠ k) : IsH w0 W' g xs := ⟨hk.blk h.1 hn (by simp), h.2⟩
theorem IsH.lt {w0 W : World} {g : Nat} {xs : List Int} (h : IsH w0 W g xs) : g < W.heap.size := blk_lt h.1
theorem box_low (a : Int) (h : a < 16) (w : World) : Calls Try.prog 10 #[.int .i64 a] w fun e w' => e = .returned (.int .i64 (mx a 0)) ∧ w' = w := by
  by_cases h0 : 0 ≤ a
  · have e : mx a 0 = a := by unfold mx; split <;> omega
    rw [e]
    go_enter Try.func10, Try.ntmps10
    go_wp2_with fail
    go_ret
    exact ⟨rfl, rfl⟩
  · have e : mx a 0 = 0 := by unfold mx; split <;> omega
    rw [e]
    go_enter Try.func10, Try.ntmps10
    go_wp2_with fail
    go_ret
    exact ⟨rfl, rfl⟩
theorem len_c (a b : Int) (h : 16 ≤ a) (h1 : a ≤ 9223372036854775807) (hb : (Lib.bitLen a.toNat : Int) = b) (w : World) : Calls Try.prog 24 #[.int .u64 a] w fun e w' => e = .returned (.int .i64 b) ∧ w' = w := by
  have := Shelf.bits_Len64 a w (by omega) (by omega)
  rw [hb] at this; exact this
theorem box_top (a b : Int) (h : 16 ≤ a) (h1 : a ≤ 9223372036854775807) (hb : (Lib.bitLen a.toNat : Int) = b) (hb0 : 41 ≤ b) (hb1 : b ≤ 64) (w : World) : Calls Try.prog 10 #[.int .i64 a] w fun e w' => e = .returned (.int .i64 304) ∧ w' = w := by
  have HL := Aside0.mk (len_c a b h h1 hb)
  clear hb
  go_enter Try.func10, Try.ntmps10
  go_wp2_with (go_at_call 24; (with_reducible refine (HL.out _).mono ?_); rintro e w1 ⟨rfl, rfl⟩)
  go_ret
  exact ⟨rfl, rfl⟩
set_option maxHeartbeats 1000000 in
theorem box_mid (a : Int) (p : Nat) (h4 : 4 ≤ p) (h39 : p ≤ 39) (h : (2 : Int) ^ p ≤ a) (h1 : a < 2 ^ (p + 1)) (hb : Lib.bitLen a.toNat = p + 1) (w : World) : Calls Try.prog 10 #[.int .i64 a] w fun e w' => e = .returned (.int .i64 (16 + 8 * ((p : Int) - 4) + (a - 2 ^ p) / 2 ^ (p - 3))) ∧ w' = w := by
  have hp0 : (0 : Int) < 2 ^ (p - 3) := Int.pow_pos (by decide)
  have hp8 : (2 : Int) ^ p = 8 * 2 ^ (p - 3) := by
    have : p = (p - 3) + 3 := by omega
    rw [this, Int.pow_add]
    rw [show (p - 3 + 3 - 3) = p - 3 by omega]
    omega
  have hp36 : (2 : Int) ^ (p - 3) ≤ 68719476736 := by
    have : (2 : Nat) ^ (p - 3) ≤ 2 ^ 36 := Nat.pow_le_pow_right (by decide) (by omega)
    have h2 : ((2 ^ (p - 3) : Nat) : Int) ≤ ((2 ^ 36 : Nat) : Int) := by exact_mod_cast this
    simpa using h2
  have hp2 : (2 : Int) ^ (p + 1) = 2 * 2 ^ p := by rw [Int.pow_succ]; omega
  have h16 : 16 ≤ a := by
    have : (2 : Nat) ^ 1 ≤ 2 ^ (p - 3) := Nat.pow_le_pow_right (by decide) (by omega)
    have h2 : ((2 ^ 1 : Nat) : Int) ≤ ((2 ^ (p - 3) : Nat) : Int) := by exact_mod_cast this
    have h3 : (2 : Int) ≤ 2 ^ (p - 3) := by simpa using h2
    omega
  have hL := len_c a ((p : Int) + 1) h16 (by omega) (by rw [hb]; rfl)
  have HL := Aside0.mk hL
  have hq0 : 0 ≤ (a - 2 ^ p) / 2 ^ (p - 3) := Int.ediv_nonneg (by omega) (by omega)
  have hq8 : (a - 2 ^ p) / 2 ^ (p - 3) < 8 := Int.ediv_lt_of_lt_mul hp0 (by omega)
  have W1 : wrap64 ((2 : Int) ^ p) = 2 ^ p := Base.w64 (by omega) (by omega)
  have W2 : wrap64 (a - 2 ^ p) = a - 2 ^ p := Base.w64 (by omega) (by omega)
  have W3 : wrap64 (16 + 8 * ((p : Int) - 4) + (a - 2 ^ p) / 2 ^ (p - 3)) = 16 + 8 * ((p : Int) - 4) + (a - 2 ^ p) / 2 ^ (p - 3) := Base.w64 (by omega) (by omega)
  have hmx : a ≤ 9223372036854775807 := by omega
  have WW := Aside0.mk (And.intro W1 (And.intro W2 W3))
  clear hL hb hq0 hq8 W1 W2 W3 hp0 hp8 hp36 hp2 h h1
  go_enter Try.func10, Try.ntmps10
  go_wp2_with (go_at_call 24; (with_reducible refine (HL.out _).mono ?_); rintro e w1 ⟨rfl, rfl⟩)
  go_ret
  obtain ⟨W1, W2, W3⟩ := WW.out
  have e1 : ((p : Int) + 1 - 1) = p := by omega
  refine ⟨?_, rfl⟩
  show Ending.returned (Value.int IntKind.i64 (wrap64 (16 + 8 * ((p : Int) - 4) + wrap64 (a - wrap64 (2 ^ p)) / 2 ^ (p - 3)))) = _
  rw [W1, W2, W3]

theorem bit_lg : ∀ n : Nat, 0 < n → n < 2 ^ 64 → ∃ p, Lib.bitLen n = p + 1 ∧ 2 ^ p ≤ n ∧ n < 2 ^ (p + 1) := by
  intro n
  induction n using Nat.strongRecOn with
  | ind n ih =>
    intro h0 h
    rw [Lib.bitLen_half n (by omega) h]
    by_cases h1 : n = 1
    · subst h1
      exact ⟨0, by decide +kernel, by decide, by decide⟩
    · obtain ⟨p, e, l, u⟩ := ih (n / 2) (by omega) (by omega) (by omega)
      refine ⟨p + 1, by rw [e]; omega, ?_, ?_⟩
      · rw [Nat.pow_succ]; omega
      · rw [Nat.pow_succ]; omega
def lg (a : Int) : Nat := Lib.bitLen a.toNat - 1
theorem lg_is {a : Int} (h0 : 16 ≤ a) (h1 : a ≤ 9223372036854775807) : Lib.bitLen a.toNat = lg a + 1 ∧ (2 : Int) ^ lg a ≤ a ∧ a < 2 ^ (lg a + 1) ∧ 4 ≤ lg a := by
  obtain ⟨p, e, l, u⟩ := bit_lg a.toNat (by omega) (by omega)
  have hp : lg a = p := by unfold lg; omega
  rw [hp]
  have l' : ((2 ^ p : Nat) : Int) ≤ (a.toNat : Int) := by exact_mod_cast l
  have u' : (a.toNat : Int) < ((2 ^ (p + 1) : Nat) : Int) := by exact_mod_cast u
  rw [show (a.toNat : Int) = a by omega] at l' u'
  refine ⟨e, by simpa using l', by simpa using u', ?_⟩
  rcases Nat.lt_or_ge p 4 with hp4 | hp4
  · have : (2 : Nat) ^ (p + 1) ≤ 2 ^ 4 := Nat.pow_le_pow_right (by decide) (by omega)
    omega
  · exact hp4
def boxV (a : Int) : Int := if a < 16 then mx a 0 else if 1099511627776 ≤ a then 304 else 16 + 8 * ((lg a : Int) - 4) + (a - 2 ^ lg a) / 2 ^ (lg a - 3)
theorem pow_int_le {p q : Nat} (h : p ≤ q) : (2 : Int) ^ p ≤ 2 ^ q := by
  have : (2 : Nat) ^ p ≤ 2 ^ q := Nat.pow_le_pow_right (by decide) h
  have h2 : ((2 ^ p : Nat) : Int) ≤ ((2 ^ q : Nat) : Int) := by exact_mod_cast this
  simpa using h2
theorem lg_40 {a : Int} (h0 : 16 ≤ a) (h1 : a ≤ 9223372036854775807) : 1099511627776 ≤ a ↔ 40 ≤ lg a := by
  obtain ⟨e, l, u, h4⟩ := lg_is h0 h1
  constructor
  · intro h
    rcases Nat.lt_or_ge (lg a) 40 with hp | hp
    · have := pow_int_le (show lg a + 1 ≤ 40 by omega)
      have e40 : (2 : Int) ^ 40 = 1099511627776 := by decide
      omega
    · exact hp
  · intro h
    have := pow_int_le h
    have e40 : (2 : Int) ^ 40 = 1099511627776 := by decide
    omega
theorem box_q (a : Int) (h : a ≤ 9223372036854775807) (w : World) : Calls Try.prog 10 #[.int .i64 a] w fun e w' => e = .returned (.int .i64 (boxV a)) ∧ w' = w := by
  unfold boxV
  by_cases h16 : a < 16
  · rw [if_pos h16]; exact box_low a h16 w
  rw [if_neg h16]
  obtain ⟨e, l, u, h4⟩ := lg_is (by omega) h
  by_cases h40 : 1099511627776 ≤ a
  · rw [if_pos h40]
    have := (lg_40 (by omega) h).mp h40
    have h64 := Lib.bitLen_le a.toNat 64 (by decide) (by omega)
    exact box_top a ((lg a : Int) + 1) (by omega) h (by rw [e]; rfl) (by omega) (by omega) w
  · rw [if_neg h40]
    have h39 : lg a ≤ 39 := by
      have := mt (lg_40 (by omega) h).mpr h40
      omega
    exact box_mid a (lg a) h4 h39 l u e w
theorem mid_bd {a : Int} {p : Nat} (h4 : 4 ≤ p) (l : (2 : Int) ^ p ≤ a) (u : a < 2 ^ (p + 1)) : 0 ≤ (a - 2 ^ p) / 2 ^ (p - 3) ∧ (a - 2 ^ p) / 2 ^ (p - 3) < 8 := by
  have hp0 : (0 : Int) < 2 ^ (p - 3) := Int.pow_pos (by decide)
  have hp8 : (2 : Int) ^ p = 8 * 2 ^ (p - 3) := by
    have : p = (p - 3) + 3 := by omega
    rw [this, Int.pow_add]
    rw [show (p - 3 + 3 - 3) = p - 3 by omega]
    omega
  have hp2 : (2 : Int) ^ (p + 1) = 2 * 2 ^ p := by rw [Int.pow_succ]; omega
  exact ⟨Int.ediv_nonneg (by omega) (by omega), Int.ediv_lt_of_lt_mul hp0 (by omega)⟩
theorem boxV_bd {a : Int} (h : a ≤ 9223372036854775807) : 0 ≤ boxV a ∧ boxV a ≤ 304 := by
  unfold boxV
  by_cases h16 : a < 16
  · rw [if_pos h16]; unfold mx; split <;> omega
  rw [if_neg h16]
  by_cases h40 : 1099511627776 ≤ a
  · rw [if_pos h40]; omega
  rw [if_neg h40]
  obtain ⟨e, l, u, h4⟩ := lg_is (by omega) h
  have h39 : lg a ≤ 39 := by
    have := mt (lg_40 (by omega) h).mpr h40
    omega
  have := mid_bd h4 l u
  omega
end Go.Proofs.Ytmhhklmfnhgbbaa.Hst
