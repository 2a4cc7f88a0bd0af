/- What the functions of layer 7 and of its reference come to, as plain integer functions; no condition. -/
import Derived.Test.YtfneknniikacpaaBase
import Derived.Test.YtfneknniikacpaaPAx
namespace Go.Proofs.Ytfneknniikacpaa.Fix
set_option linter.unusedVariables false
set_option linter.unusedSimpArgs false
open Go.RowKit Go.Proofs.Ytfneknniikacpaa.PA Go.Proofs.YtfneknniikacpaaW.PrintWords Go.Proofs.YtfneknniikacpaaW.PrintLast Go.Proofs.YtfneknniikacpaaW.PrintMore Go.Proofs.Ytfneknniikacpaa.Base

def wi (x : Int) : Int := if x < -2147483648 then -2147483648 else if x > 2147483647 then 2147483647 else x
theorem wi_bd (x : Int) : -2147483648 ≤ wi x ∧ wi x ≤ 2147483647 := by unfold wi; (repeat' split) <;> omega
theorem wi_id {x : Int} (h0 : -2147483648 ≤ x) (h1 : x ≤ 2147483647) : wi x = x := by unfold wi; (repeat' split) <;> omega
theorem wi_mono {x y : Int} (h : x ≤ y) : wi x ≤ wi y := by unfold wi; (repeat' split) <;> omega
theorem within_f (a : Int) : fixed_Within.f a = some (wi a) := by
  simp only [fixed_Within.f, fixed_between_int64.f, Option.bind_some, mx, mn, wi]
  congr 1
  (repeat' split) <;> omega
theorem rwithin_f (a : Int) : garboardref07_Within.f a = some (wi a) := by
  simp only [garboardref07_Within.f, wi]
  (repeat' split) <;> rfl

/-! ### rounding down -/
theorem ediv_of_tdiv (a d : Int) (hd : 0 < d) : a / d = if a.tmod d < 0 then a.tdiv d - 1 else a.tdiv d := by
  have h1 := Int.tdiv_eq_ediv (a := a) (b := d)
  have h2 := Int.tmod_eq_emod (a := a) (b := d)
  have h3 : 0 ≤ a % d := Int.emod_nonneg a (by omega)
  have h4 : a % d < d := Int.emod_lt_of_pos a hd
  have h5 : d.sign = 1 := Int.sign_eq_one_of_pos hd
  by_cases h : 0 ≤ a ∨ d ∣ a
  · rw [if_pos h] at h1 h2
    rw [if_neg (by omega)]; omega
  · rw [if_neg h] at h1 h2
    have h6 : (d.natAbs : Int) = d := Int.natAbs_of_nonneg (by omega)
    rw [if_pos (by omega)]; omega
theorem tdiv_bd (a d : Int) (hd : d ≠ 0) (h0 : -9223372036854775807 ≤ a) (h1 : a ≤ 9223372036854775807) : -9223372036854775807 ≤ a.tdiv d ∧ a.tdiv d ≤ 9223372036854775807 := by
  have h := Int.natAbs_tdiv_le_natAbs a d
  omega
theorem by_f (a d : Int) (hd : 0 < d) (h0 : -9223372036854775807 ≤ a) (h1 : a ≤ 9223372036854775807) : garboardref07_by.f a d = some (a / d) := by
  have hb := tdiv_bd a d (by omega) h0 h1
  have he := ediv_of_tdiv a d hd
  unfold garboardref07_by.f
  rw [if_neg (by omega)]
  split
  · rename_i h
    rw [if_pos h] at he
    rw [w64 (x := a.tdiv d) (by omega) (by omega), w64 (by omega) (by omega), he]
  · rename_i h
    rw [if_neg h] at he
    rw [w64 (by omega) (by omega), he]
theorem floored_f (a d : Int) (hd : d ≠ 0) (h0 : -9223372036854775807 ≤ a) (h1 : a ≤ 9223372036854775807) : fixed_floored.f a d = some (if 0 < d then a / d else (-a) / (-d)) := by
  have hb := tdiv_bd a d hd h0 h1
  unfold fixed_floored.f
  rw [if_neg hd]
  by_cases hp : 0 < d
  · rw [if_pos hp]
    have he := ediv_of_tdiv a d hp
    have h2 := Int.tmod_eq_emod (a := a) (b := d)
    have h3 : 0 ≤ a % d := Int.emod_nonneg a (by omega)
    have h6 : (d.natAbs : Int) = d := Int.natAbs_of_nonneg (by omega)
    have h4 : a % d < d := Int.emod_lt_of_pos a hp
    have hdn : decide (d < 0) = false := decide_eq_false (by omega)
    by_cases hz : a.tmod d = 0
    · rw [if_pos hz, w64 (by omega) (by omega)]
      rw [if_neg (by omega)] at he; rw [he]
    · rw [if_neg hz, hdn]
      by_cases ha : a < 0
      · rw [decide_eq_true ha, if_pos (by rfl), w64 (x := a.tdiv d) (by omega) (by omega), w64 (by omega) (by omega)]
        have hl : a.tmod d < 0 := by
          have : ¬ (0 ≤ a ∨ d ∣ a) := by
            rintro (h | h)
            · omega
            · exact hz (Int.tmod_eq_zero_of_dvd h)
          rw [if_neg this] at h2; omega
        rw [if_pos hl] at he; rw [he]
      · rw [decide_eq_false ha, if_neg (by decide), w64 (by omega) (by omega)]
        rw [if_pos (.inl (by omega))] at h2
        rw [if_neg (by omega)] at he; rw [he]
  · rw [if_neg hp]
    have hp' : 0 < -d := by omega
    have he := ediv_of_tdiv (-a) (-d) hp'
    rw [Int.neg_tdiv_neg] at he
    have hm : (-a).tmod (-d) = -(a.tmod d) := by rw [Int.tmod_neg, Int.neg_tmod]
    rw [hm] at he
    have hdn : decide (d < 0) = true := decide_eq_true (by omega)
    have h2 := Int.tmod_eq_emod (a := -a) (b := -d)
    rw [hm] at h2
    have h3 : 0 ≤ (-a) % (-d) := Int.emod_nonneg _ (by omega)
    have h6 : ((-d).natAbs : Int) = -d := Int.natAbs_of_nonneg (by omega)
    have h4 : (-a) % (-d) < -d := Int.emod_lt_of_pos _ hp'
    by_cases hz : a.tmod d = 0
    · rw [if_pos hz, w64 (by omega) (by omega)]
      rw [if_neg (by omega)] at he; rw [he]
    · rw [if_neg hz, hdn]
      by_cases ha : a < 0
      · rw [decide_eq_true ha, if_neg (by decide), w64 (by omega) (by omega)]
        rw [if_pos (.inl (by omega))] at h2
        rw [if_neg (by omega)] at he; rw [he]
      · rw [decide_eq_false ha, if_pos (by rfl), w64 (x := a.tdiv d) (by omega) (by omega), w64 (by omega) (by omega)]
        have hl : -(a.tmod d) < 0 := by
          have : ¬ (0 ≤ -a ∨ -d ∣ -a) := by
            rintro (h | h)
            · have : a = 0 := by omega
              subst this; simp at hz
            · exact hz (Int.tmod_eq_zero_of_dvd (Int.neg_dvd.mp (Int.dvd_neg.mp h)))
          rw [if_neg this] at h2; omega
        rw [if_pos hl] at he; rw [he]

/-! ### sums, products, quotients -/
theorem mul_bd {a b m n : Int} (ha0 : -m ≤ a) (ha : a ≤ m) (hb0 : -n ≤ b) (hb : b ≤ n) (hm : 0 ≤ m) : -(m * n) ≤ a * b ∧ a * b ≤ m * n := by
  have h1 : (a * b).natAbs = a.natAbs * b.natAbs := Int.natAbs_mul a b
  have h2 : a.natAbs ≤ m.natAbs := by omega
  have h3 : b.natAbs ≤ n.natAbs := by omega
  have h4 := Nat.mul_le_mul h2 h3
  have h5 : (m * n).natAbs = m.natAbs * n.natAbs := Int.natAbs_mul m n
  have h6 : 0 ≤ m * n := Int.mul_nonneg hm (by omega)
  omega
def addI (a b : Int) : Int := wi (wi a + wi b)
def mulI (a b : Int) : Int := wi (wi a * wi b / 65536)
def divI (a b : Int) : Int := if wi b = 0 then (if wi a > 0 then 2147483647 else if wi a < 0 then -2147483648 else 0) else wi (if 0 < wi b then wi a * 65536 / wi b else -(wi a * 65536) / -wi b)
theorem add_f (a b : Int) : fixed_Add.f a b = some (addI a b) := by
  have ha := wi_bd a; have hb := wi_bd b
  simp only [fixed_Add.f, within_f, Option.bind_some, addI]
  rw [w64 (by omega) (by omega)]
theorem radd_f (a b : Int) : garboardref07_Add.f a b = some (addI a b) := by
  have ha := wi_bd a; have hb := wi_bd b
  simp only [garboardref07_Add.f, rwithin_f, Option.bind_some, addI]
  rw [w64 (by omega) (by omega)]
theorem prod_bd (a b : Int) : -4611686018427387904 ≤ wi a * wi b ∧ wi a * wi b ≤ 4611686018427387904 := by
  have ha := wi_bd a; have hb := wi_bd b
  have := mul_bd (m := 2147483648) (n := 2147483648) (show -2147483648 ≤ wi a by omega) (by omega) (show -2147483648 ≤ wi b by omega) (by omega) (by omega)
  omega
theorem mul_f (a b : Int) : fixed_Mul.f a b = some (mulI a b) := by
  have := prod_bd a b
  simp only [fixed_Mul.f, within_f, Option.bind_some, mulI]
  rw [w64 (by omega) (by omega)]
theorem rmul_f (a b : Int) : garboardref07_Mul.f a b = some (mulI a b) := by
  have := prod_bd a b
  simp only [garboardref07_Mul.f, rwithin_f, Option.bind_some, mulI]
  rw [w64 (by omega) (by omega), by_f _ _ (by omega) (by omega) (by omega)]
  simp only [Option.bind_some]
theorem div_f (a b : Int) : fixed_Div.f a b = some (divI a b) := by
  have ha := wi_bd a; have hb := wi_bd b
  simp only [fixed_Div.f, within_f, Option.bind_some, divI]
  by_cases h : wi b = 0
  · rw [if_pos h, if_pos h]; (repeat' split) <;> rfl
  · rw [if_neg h, if_neg h, w64 (by omega) (by omega), floored_f _ _ h (by omega) (by omega)]
    simp only [Option.bind_some]
theorem rdiv_ev (a b : Int) : Ev (fun k => garboardref07_Div.f k a b) (divI a b) := by
  have ha := wi_bd a; have hb := wi_bd b
  refine ⟨1, fun k hk => ?_⟩
  obtain ⟨k, rfl⟩ : ∃ m, k = m + 1 := ⟨k - 1, by omega⟩
  simp only [garboardref07_Div.f, rwithin_f, Option.bind_some, divI, garboardref07_Div.j0]
  by_cases h : wi b < 0
  · rw [if_pos h, w64 (x := -wi a) (by omega) (by omega), w64 (x := -wi b) (by omega) (by omega), if_pos (by omega), w64 (by omega) (by omega), by_f _ _ (by omega) (by omega) (by omega), if_neg (show ¬ wi b = 0 by omega), if_neg (show ¬ 0 < wi b by omega)]
    simp only [Option.bind_some]
    rw [show 65536 * -wi a = -(wi a * 65536) from by omega]
  · rw [if_neg h]
    by_cases h0 : wi b = 0
    · rw [if_neg (by omega), if_pos h0]; (repeat' split) <;> rfl
    · rw [if_pos (by omega), w64 (by omega) (by omega), by_f _ _ (by omega) (by omega) (by omega), if_neg h0, if_pos (by omega)]
      simp only [Option.bind_some]
      rw [show 65536 * wi a = wi a * 65536 from by omega]

/-! ### powers -/
theorem and65535 (y : Int) : bits .and .i64 y 65535 = y % 65536 := by
  have h2 : (BitVec.ofInt 64 (65535 : Int)).toNat = 65535 := by decide
  show IntKind.i64.wrap ((BitVec.ofInt 64 y &&& BitVec.ofInt 64 65535).toNat : Int) = _
  rw [BitVec.toNat_and, h2, show (65535 : Nat) = 2 ^ 16 - 1 from rfl, Nat.and_two_pow_sub_one_eq_mod, BitVec.toNat_ofInt, IntKind.wrap_i64]
  omega
/-- e to a number, by its parts: k above the point, f behind it. -/
def pf (f : Int) : Int := 65536 + f * (43691 + f * 21845 / 65536) / 65536
def expK (k f : Int) : Int := if k ≥ 16 then 2147483647 else if k ≥ 0 then wi (pf f * 2 ^ k.toNat) else pf f / 2 ^ (min (-k).toNat 62)
def yI (x : Int) : Int := wi x * 94548 / 65536
def expI (x : Int) : Int := expK (yI x / 65536) (yI x % 65536)
theorem y_bd (x : Int) : -3098149999 ≤ yI x ∧ yI x ≤ 3098149999 := by
  have := wi_bd x; unfold yI; omega
theorem pf_bd {f : Int} (h0 : 0 ≤ f) (h1 : f ≤ 65535) : 65536 ≤ pf f ∧ pf f ≤ 131070 ∧ 0 ≤ f * 21845 / 65536 ∧ f * 21845 / 65536 ≤ 21844 ∧ 0 ≤ f * (43691 + f * 21845 / 65536) ∧ f * (43691 + f * 21845 / 65536) ≤ 4294836225 := by
  have a1 : 0 ≤ f * 21845 / 65536 ∧ f * 21845 / 65536 ≤ 21844 := by omega
  have a2 : 0 ≤ f * (43691 + f * 21845 / 65536) := Int.mul_nonneg h0 (by omega)
  have a3 : f * (43691 + f * 21845 / 65536) ≤ 65535 * 65535 := Int.mul_le_mul h1 (by omega) (by omega) (by omega)
  unfold pf
  omega
theorem pf_mono {f g : Int} (h0 : 0 ≤ f) (h : f ≤ g) (h1 : g ≤ 65535) : pf f ≤ pf g := by
  have a : f * 21845 / 65536 ≤ g * 21845 / 65536 := by omega
  have b : f * (43691 + f * 21845 / 65536) ≤ g * (43691 + g * 21845 / 65536) := Int.mul_le_mul h (by omega) (by omega) (by omega)
  unfold pf
  omega
theorem pow2_pos (n : Nat) : (0 : Int) < 2 ^ n := Int.pow_pos (by decide)
theorem pow2_le {m n : Nat} (h : m ≤ n) : (2 : Int) ^ m ≤ 2 ^ n := by
  have := Nat.pow_le_pow_right (n := 2) (by decide) h
  exact_mod_cast this
theorem pf_shift {f : Int} {n : Nat} (h0 : 0 ≤ f) (h1 : f ≤ 65535) (hn : n ≤ 15) : 0 ≤ pf f * 2 ^ n ∧ pf f * 2 ^ n ≤ 4294901760 := by
  have hb := pf_bd h0 h1
  have hp := pow2_pos n
  have hq : (2 : Int) ^ n ≤ 32768 := pow2_le hn
  have a1 : pf f * 2 ^ n ≤ 131070 * 32768 := Int.mul_le_mul hb.2.1 hq (by omega) (by omega)
  have a0 : 0 ≤ pf f * 2 ^ n := Int.mul_nonneg (by omega) (by omega)
  omega
theorem exp_f (x : Int) : fixed_Exp.f x = some (expI x) := by
  have hw := wi_bd x
  have hy := y_bd x
  simp only [fixed_Exp.f, within_f, Option.bind_some]
  rw [w64 (x := wi x * 94548) (by omega) (by omega)]
  show _ = some (expK (wi x * 94548 / 65536 / 65536) (wi x * 94548 / 65536 % 65536))
  have hy' : -3098149999 ≤ wi x * 94548 / 65536 ∧ wi x * 94548 / 65536 ≤ 3098149999 := hy
  generalize wi x * 94548 / 65536 = y at hy'
  rw [and65535]
  have hf0 : 0 ≤ y % 65536 := by omega
  have hf1 : y % 65536 ≤ 65535 := by omega
  have hk0 : -47275 ≤ y / 65536 := by omega
  have hk1 : y / 65536 ≤ 47275 := by omega
  generalize y % 65536 = f at hf0 hf1
  generalize y / 65536 = k at hk0 hk1
  obtain ⟨p1, p2, p3, p4, p5, p6⟩ := pf_bd hf0 hf1
  rw [w64 (x := f * 21845) (by omega) (by omega), w64 (x := 43691 + f * 21845 / 65536) (by omega) (by omega), w64 (x := f * (43691 + f * 21845 / 65536)) (by omega) (by omega)]
  have e : wrap64 (65536 + f * (43691 + f * 21845 / 65536) / 65536) = pf f := w64 (by unfold pf at p1; omega) (by unfold pf at p2; omega)
  rw [e]
  unfold expK
  by_cases h16 : k ≥ 16
  · rw [if_pos h16, if_pos h16]
  · rw [if_neg h16, if_neg h16]
    by_cases h0 : k ≥ 0
    · rw [if_pos h0, if_pos h0, if_pos h0]
      have hs := pf_shift (n := k.toNat) hf0 hf1 (by omega)
      have es : shl .i64 (pf f) k = pf f * 2 ^ k.toNat := by
        unfold shl
        rw [Nat.min_eq_left (show k.toNat ≤ IntKind.i64.bits from (by have : k.toNat ≤ 64 := by omega
                                                                      exact this)), IntKind.wrap_i64]
        omega
      rw [es]
    · rw [if_neg h0, if_neg h0, w64 (x := -k) (by omega) (by omega)]
      have em : mn (-k) 62 = (min (-k).toNat 62 : Nat) := by unfold mn; split <;> omega
      rw [em, if_pos (by omega), show ((min (-k).toNat 62 : Nat) : Int).toNat = min (-k).toNat 62 from by omega]
theorem power_loop (x : Int) : ∀ (d i : Nat), i + d = min x.toNat 60 → Ev (fun k => garboardref07_power.l0 k x (2 ^ i) (i : Int)) (2 ^ (min x.toNat 60)) := by
  intro d
  induction d with
  | zero =>
    intro i hi
    refine Ev.step (f := fun _ => some (2 ^ (min x.toNat 60))) (fun k => ?_) (Ev.now _)
    rw [garboardref07_power.l0, show min x.toNat 60 = i from by omega]
    by_cases h : (i : Int) < x
    · rw [if_pos h, if_neg (by omega)]
    · rw [if_neg h]
  | succ d ih =>
    intro i hi
    have hp : (2 : Int) ^ (i + 1) = 2 ^ i * 2 := Int.pow_succ ..
    have hle : (2 : Int) ^ (i + 1) ≤ 2 ^ 60 := pow2_le (by omega)
    have hpos := pow2_pos i
    refine Ev.step (f := fun k => garboardref07_power.l0 k x (2 ^ (i + 1)) ((i + 1 : Nat) : Int)) (fun k => ?_) (ih (i + 1) (by omega))
    rw [garboardref07_power.l0, if_pos (by omega), if_pos (by omega), w64 (x := (i : Int) + 1) (by omega) (by omega), ← hp, w64 (by omega) (by omega)]
    rfl
theorem power_ev (x : Int) : Ev (fun k => garboardref07_power.f k x) (2 ^ (min x.toNat 60)) := power_loop x (min x.toNat 60) 0 (by omega)
theorem rexp_ev (x : Int) : Ev (fun k => garboardref07_Exp.f k x) (expI x) := by
  have hw := wi_bd x
  have hy := y_bd x
  simp only [garboardref07_Exp.f, rwithin_f, Option.bind_some]
  rw [w64 (x := wi x * 94548) (by omega) (by omega), by_f _ _ (by omega) (by omega) (by omega)]
  simp only [Option.bind_some]
  show Ev _ (expK (wi x * 94548 / 65536 / 65536) (wi x * 94548 / 65536 % 65536))
  have hy' : -3098149999 ≤ wi x * 94548 / 65536 ∧ wi x * 94548 / 65536 ≤ 3098149999 := hy
  generalize wi x * 94548 / 65536 = y at hy'
  rw [by_f y 65536 (by omega) (by omega) (by omega)]
  simp only [Option.bind_some]
  rw [w64 (x := y / 65536 * 65536) (by omega) (by omega), show y - y / 65536 * 65536 = y % 65536 from by omega]
  have hf0 : 0 ≤ y % 65536 := by omega
  have hf1 : y % 65536 ≤ 65535 := by omega
  have hk0 : -47275 ≤ y / 65536 := by omega
  have hk1 : y / 65536 ≤ 47275 := by omega
  generalize y % 65536 = f at hf0 hf1
  generalize y / 65536 = k at hk0 hk1
  obtain ⟨p1, p2, p3, p4, p5, p6⟩ := pf_bd hf0 hf1
  rw [w64 (x := f) (by omega) (by omega), w64 (x := f * 21845) (by omega) (by omega), by_f _ 65536 (by omega) (by omega) (by omega)]
  simp only [Option.bind_some]
  rw [w64 (x := 43691 + f * 21845 / 65536) (by omega) (by omega), w64 (x := f * (43691 + f * 21845 / 65536)) (by omega) (by omega), by_f _ 65536 (by omega) (by omega) (by omega)]
  simp only [Option.bind_some]
  have e : wrap64 (65536 + f * (43691 + f * 21845 / 65536) / 65536) = pf f := w64 (by unfold pf at p1; omega) (by unfold pf at p2; omega)
  rw [e]
  unfold expK
  by_cases h16 : k ≥ 16
  · rw [if_pos h16]; exact ev_ifT h16 (Ev.now _)
  · rw [if_neg h16]
    refine ev_ifF h16 ?_
    by_cases h0 : k ≥ 0
    · rw [if_pos h0]
      refine ev_ifT h0 (Ev.bind (power_ev k) ?_)
      have hs := pf_shift (n := k.toNat) hf0 hf1 (by omega)
      rw [show min k.toNat 60 = k.toNat from by omega, w64 (by omega) (by omega)]
      exact Ev.now _
    · rw [if_neg h0, w64 (x := -k) (by omega) (by omega)]
      refine ev_ifF h0 (Ev.bind (power_ev (-k)) ?_)
      rw [by_f _ _ (pow2_pos _) (by omega) (by omega)]
      refine ev_some ?_
      by_cases h : (-k).toNat ≤ 60
      · rw [Nat.min_eq_left h, Nat.min_eq_left (by omega)]
      · rw [Nat.min_eq_right (by omega)]
        have z1 : pf f / 2 ^ 60 = 0 := Int.ediv_eq_zero_of_lt (by omega) (by omega)
        have hq : (2 : Int) ^ 60 ≤ 2 ^ (min (-k).toNat 62) := pow2_le (by omega)
        have z2 : pf f / 2 ^ (min (-k).toNat 62) = 0 := Int.ediv_eq_zero_of_lt (by omega) (by omega)
        rw [z1, z2]

theorem exp_nonneg (x : Int) : 0 ≤ expI x := by
  have hf0 : 0 ≤ yI x % 65536 := by omega
  have hf1 : yI x % 65536 ≤ 65535 := by omega
  unfold expI expK
  have hb := pf_bd hf0 hf1
  split
  · decide
  · split
    · rename_i h1 h2
      have hs := pf_shift (n := (yI x / 65536).toNat) hf0 hf1 (by omega)
      unfold wi; (repeat' split) <;> omega
    · exact Int.ediv_nonneg (by omega) (Int.le_of_lt (pow2_pos _))
theorem expK_mono_f {k f g : Int} (h0 : 0 ≤ f) (h : f ≤ g) (h1 : g ≤ 65535) : expK k f ≤ expK k g := by
  unfold expK
  have hm := pf_mono h0 h h1
  split
  · omega
  · split
    · exact wi_mono (Int.mul_le_mul_of_nonneg_right hm (Int.le_of_lt (pow2_pos _)))
    · exact Int.ediv_le_ediv (pow2_pos _) hm
theorem expK_step (k : Int) : expK k 65535 ≤ expK (k + 1) 0 := by
  have e1 : pf 65535 = 131070 := by decide
  have e0 : pf 0 = 65536 := by decide
  unfold expK
  rw [e1, e0]
  by_cases h16 : k ≥ 16
  · rw [if_pos h16, if_pos (by omega)]; omega
  · rw [if_neg h16]
    by_cases h15 : k + 1 ≥ 16
    · rw [if_pos h15]
      split
      · have := wi_bd (131070 * 2 ^ k.toNat); omega
      · omega
    · rw [if_neg h15]
      by_cases h0 : k ≥ 0
      · rw [if_pos h0, if_pos (by omega)]
        refine wi_mono ?_
        rw [show (k + 1).toNat = k.toNat + 1 from by omega, Int.pow_succ]
        have := pow2_pos k.toNat
        omega
      · rw [if_neg h0]
        by_cases h1 : k + 1 ≥ 0
        · have : k = -1 := by omega
          subst this
          decide
        · rw [if_neg h1]
          by_cases hd : (-k).toNat ≤ 62
          · rw [Nat.min_eq_left hd, Nat.min_eq_left (by omega)]
            have : (-k).toNat = (-(k + 1)).toNat + 1 := by omega
            rw [this, Int.pow_succ]
            have hp := pow2_pos (-(k + 1)).toNat
            refine Int.le_ediv_of_mul_le hp ?_
            have h2 := Int.ediv_mul_le 131070 (b := 2 ^ (-(k + 1)).toNat * 2) (by omega)
            have h3 : (131070 : Int) / (2 ^ (-(k + 1)).toNat * 2) * (2 ^ (-(k + 1)).toNat * 2) = 2 * (131070 / (2 ^ (-(k + 1)).toNat * 2) * 2 ^ (-(k + 1)).toNat) := by
              rw [← Int.mul_assoc]; omega
            omega
          · have : (131070 : Int) / 2 ^ (min (-k).toNat 62) = 0 := by
              rw [Nat.min_eq_right (by omega)]; decide
            rw [this]
            exact Int.ediv_nonneg (by decide) (Int.le_of_lt (pow2_pos _))
theorem expK_mono_k (n : Nat) : ∀ (k f g : Int), 0 ≤ f → f ≤ 65535 → 0 ≤ g → g ≤ 65535 → expK k f ≤ expK (k + 1 + n) g := by
  induction n with
  | zero =>
    intro k f g f0 f1 g0 g1
    have a := expK_mono_f (k := k) f0 f1 (by omega)
    have b := expK_step k
    have c := expK_mono_f (k := k + 1) (f := 0) (by omega) g0 g1
    rw [show k + 1 + ((0 : Nat) : Int) = k + 1 from by omega]
    omega
  | succ n ih =>
    intro k f g f0 f1 g0 g1
    have a := ih k f 65535 f0 f1 (by omega) (by omega)
    have b := expK_step (k + 1 + n)
    have c := expK_mono_f (k := k + 1 + n + 1) (f := 0) (by omega) g0 g1
    rw [show k + 1 + ((n + 1 : Nat) : Int) = k + 1 + n + 1 from by omega]
    omega
theorem exp_mono {a b : Int} (h : a ≤ b) : expI a ≤ expI b := by
  have hw := wi_mono h
  have hy : yI a ≤ yI b := by unfold yI; omega
  unfold expI
  generalize yI a = y at *
  generalize yI b = z at *
  by_cases hk : y / 65536 = z / 65536
  · rw [hk]; exact expK_mono_f (by omega) (by omega) (by omega)
  · obtain ⟨n, hn⟩ : ∃ n : Nat, z / 65536 = y / 65536 + 1 + n := ⟨(z / 65536 - y / 65536 - 1).toNat, by omega⟩
    rw [hn]
    exact expK_mono_k n _ _ _ (by omega) (by omega) (by omega) (by omega)

/-! ### roots -/
theorem sq_lt {a b : Int} (ha : 0 ≤ a) (h : a < b) : a * a < b * b := by
  have h1 : a * a ≤ a * b := Int.mul_le_mul_of_nonneg_left (by omega) ha
  have h2 : a * b < b * b := Int.mul_lt_mul_of_pos_right h (by omega)
  omega
theorem root_uniq {n r s : Int} (hr : 0 ≤ r) (hs : 0 ≤ s) (r1 : r * r ≤ n) (r2 : n < (r + 1) * (r + 1)) (s1 : s * s ≤ n) (s2 : n < (s + 1) * (s + 1)) : r = s := by
  rcases Int.lt_trichotomy r s with h | h | h
  · exfalso
    have : (r + 1) * (r + 1) ≤ s * s := Int.mul_le_mul (by omega) (by omega) (by omega) (by omega)
    omega
  · exact h
  · exfalso
    have : (s + 1) * (s + 1) ≤ r * r := Int.mul_le_mul (by omega) (by omega) (by omega) (by omega)
    omega
/-- Newton's step stays at or above the root. -/
theorem newton_ge {n r s : Int} (hs : 0 < s) (r1 : r * r ≤ n) : r ≤ (s + n / s) / 2 := by
  have h1 : 2 * r - s ≤ n / s := by
    refine Int.le_ediv_of_mul_le hs ?_
    have h2 : 0 ≤ (r - s) * (r - s) := by
      rcases Int.le_total 0 (r - s) with h | h
      · exact Int.mul_nonneg h h
      · exact Int.mul_nonneg_of_nonpos_of_nonpos h h
    have h3 : (r - s) * (r - s) = r * r - 2 * (r * s) + s * s := by
      rw [Int.sub_mul, Int.mul_sub, Int.mul_sub, Int.mul_comm s r]; omega
    have h4 : (2 * r - s) * s = 2 * (r * s) - s * s := by rw [Int.sub_mul, Int.mul_assoc]
    omega
  omega
theorem newton_stop {n s : Int} (hs : 0 < s) (h : s ≤ (s + n / s) / 2) : s * s ≤ n := by
  have h1 : s ≤ n / s := by omega
  have h2 := Int.mul_le_mul_of_nonneg_right h1 (Int.le_of_lt hs)
  have h3 := Int.ediv_mul_le n (b := s) (by omega)
  omega
theorem sqrt_loop (n : Int) (hn : 0 < n) (hn1 : n ≤ 140737488355328) (r : Int) (hr : 0 < r) (r1 : r * r ≤ n) (r2 : n < (r + 1) * (r + 1)) : ∀ (d : Nat) (s : Int), s.toNat = d → r ≤ s → s ≤ 4294967296 →
    Ev (fun k => fixed_Sqrt.l0 k n s) r := by
  intro d
  induction d using Nat.strongRecOn with
  | ind d ih =>
    intro s hd hs hs1
    have q0 : 0 ≤ n / s := Int.ediv_nonneg (by omega) (by omega)
    have q1 : n / s ≤ n := Int.ediv_le_self _ (by omega)
    have e1 : Int.tdiv n s = n / s := Int.tdiv_eq_ediv_of_nonneg (by omega)
    have e2 : wrap64 (Int.tdiv n s) = n / s := by rw [e1]; exact w64 (by omega) (by omega)
    have e3 : wrap64 (Int.tdiv (wrap64 (s + wrap64 (Int.tdiv n s))) 2) = (s + n / s) / 2 := by
      rw [e2, w64 (x := s + n / s) (by omega) (by omega), Int.tdiv_eq_ediv_of_nonneg (by omega)]; exact w64 (by omega) (by omega)
    by_cases h : (s + n / s) / 2 ≥ s
    · have hq := newton_stop (n := n) (s := s) (by omega) h
      have : s = r := by
        rcases Int.lt_or_le r s with h | h
        · exfalso
          have : (r + 1) * (r + 1) ≤ s * s := Int.mul_le_mul (by omega) (by omega) (by omega) (by omega)
          omega
        · omega
      subst this
      refine Ev.step (f := fun _ => some s) (fun k => ?_) (Ev.now _)
      rw [fixed_Sqrt.l0, if_neg (by omega), e3, if_pos h]
    · have hge := newton_ge (n := n) (r := r) (s := s) (by omega) r1
      refine Ev.step (f := fun k => fixed_Sqrt.l0 k n ((s + n / s) / 2)) (fun k => ?_) (ih ((s + n / s) / 2).toNat (by omega) _ rfl hge (by omega))
      rw [fixed_Sqrt.l0, if_neg (by omega), e3, if_neg h]
theorem rsqrt_loop (n : Int) (hn1 : n ≤ 140737488355328) : ∀ (d : Nat) (s : Int), d ≤ 32 → 0 ≤ s → s * s ≤ n → n < (s + 2 ^ d) * (s + 2 ^ d) →
    ∃ r, Ev (fun k => garboardref07_Sqrt.l0 k n s (2 ^ d / 2)) r ∧ 0 ≤ r ∧ r * r ≤ n ∧ n < (r + 1) * (r + 1) := by
  intro d
  induction d with
  | zero =>
    intro s hd hs h1 h2
    refine ⟨s, Ev.step (f := fun _ => some s) (fun k => ?_) (Ev.now _), hs, h1, by simpa using h2⟩
    rw [garboardref07_Sqrt.l0, if_neg (by decide)]
  | succ d ih =>
    intro s hd hs h1 h2
    have hp := pow2_pos d
    have hq : (2 : Int) ^ d ≤ 2 ^ 31 := pow2_le (by omega)
    have e : (2 : Int) ^ (d + 1) = 2 ^ d * 2 := Int.pow_succ ..
    have e2 : (2 : Int) ^ (d + 1) / 2 = 2 ^ d := by omega
    have hs1 : s < 16777216 := by
      rcases Int.lt_or_le s 16777216 with h | h
      · exact h
      · exfalso
        have : (16777216 : Int) * 16777216 ≤ s * s := Int.mul_le_mul h h (by omega) (by omega)
        omega
    have b1 : 0 ≤ (s + 2 ^ d) * (s + 2 ^ d) := Int.mul_nonneg (by omega) (by omega)
    have b2 : (s + 2 ^ d) * (s + 2 ^ d) ≤ 2164260864 * 2164260864 := Int.mul_le_mul (by omega) (by omega) (by omega) (by omega)
    have es : wrap64 (s + 2 ^ d) = s + 2 ^ d := w64 (by omega) (by omega)
    have em : wrap64 ((s + 2 ^ d) * (s + 2 ^ d)) = (s + 2 ^ d) * (s + 2 ^ d) := w64 (by omega) (by omega)
    have et : wrap64 (Int.tdiv (2 ^ d) 2) = 2 ^ d / 2 := by rw [Int.tdiv_eq_ediv_of_nonneg (by omega)]; exact w64 (by omega) (by omega)
    rw [e2]
    by_cases h : (s + 2 ^ d) * (s + 2 ^ d) ≤ n
    · obtain ⟨r, hr, h3⟩ := ih (s + 2 ^ d) (by omega) (by omega) h (by rw [show s + 2 ^ d + 2 ^ d = s + 2 ^ (d + 1) from by omega]; exact h2)
      refine ⟨r, Ev.step (f := fun k => garboardref07_Sqrt.l0 k n (s + 2 ^ d) (2 ^ d / 2)) (fun k => ?_) hr, h3⟩
      rw [garboardref07_Sqrt.l0, if_pos (by omega), es, em, if_pos h, et]
    · obtain ⟨r, hr, h3⟩ := ih s (by omega) hs h1 (by omega)
      refine ⟨r, Ev.step (f := fun k => garboardref07_Sqrt.l0 k n s (2 ^ d / 2)) (fun k => ?_) hr, h3⟩
      rw [garboardref07_Sqrt.l0, if_pos (by omega), es, em, if_neg h, et]
/-- Below 0 nothing is taken. -/
theorem rsqrt_neg (n : Int) (hn : n < 0) : ∀ (d : Nat), d ≤ 32 → Ev (fun k => garboardref07_Sqrt.l0 k n 0 (2 ^ d / 2)) 0 := by
  intro d
  induction d with
  | zero =>
    intro _
    refine Ev.step (f := fun _ => some 0) (fun k => ?_) (Ev.now _)
    rw [garboardref07_Sqrt.l0, if_neg (by decide)]
  | succ d ih =>
    intro hd
    have hp := pow2_pos d
    have hq : (2 : Int) ^ d ≤ 2 ^ 31 := pow2_le (by omega)
    have e : (2 : Int) ^ (d + 1) = 2 ^ d * 2 := Int.pow_succ ..
    have e2 : (2 : Int) ^ (d + 1) / 2 = 2 ^ d := by omega
    have b1 : 0 ≤ (2 : Int) ^ d * 2 ^ d := Int.mul_nonneg (by omega) (by omega)
    have b2 : (2 : Int) ^ d * 2 ^ d ≤ 2147483648 * 2147483648 := Int.mul_le_mul (by omega) (by omega) (by omega) (by omega)
    have es : wrap64 (0 + 2 ^ d) = 2 ^ d := by rw [Int.zero_add]; exact w64 (by omega) (by omega)
    have em : wrap64 ((2 : Int) ^ d * 2 ^ d) = 2 ^ d * 2 ^ d := w64 (by omega) (by omega)
    have et : wrap64 (Int.tdiv (2 ^ d) 2) = 2 ^ d / 2 := by rw [Int.tdiv_eq_ediv_of_nonneg (by omega)]; exact w64 (by omega) (by omega)
    rw [e2]
    refine Ev.step (f := fun k => garboardref07_Sqrt.l0 k n 0 (2 ^ d / 2)) (fun k => ?_) (ih (by omega))
    rw [garboardref07_Sqrt.l0, if_pos (by omega), es, em, if_neg (by omega), et]
/-- The root of any number: the same by both ways, and what it is. -/
theorem roots (x : Int) : ∃ r, Ev (fun k => fixed_Sqrt.f k x) r ∧ Ev (fun k => garboardref07_Sqrt.f k x) r ∧ 0 ≤ r ∧ (wi x * 65536 < 0 ∧ r = 0 ∨ 0 ≤ wi x * 65536 ∧ r * r ≤ wi x * 65536 ∧ wi x * 65536 < (r + 1) * (r + 1)) ∧ r ≤ 16777216 := by
  have hw := wi_bd x
  have e1 : wrap64 (wi x * 65536) = wi x * 65536 := w64 (by omega) (by omega)
  have e2 : wrap64 (65536 * wi x) = wi x * 65536 := by rw [Int.mul_comm]; exact e1
  simp only [fixed_Sqrt.f, garboardref07_Sqrt.f, within_f, rwithin_f, Option.bind_some, e1, e2]
  have ht : (2 : Int) ^ 32 / 2 = 2147483648 := by decide
  by_cases h0 : wi x * 65536 < 0
  · refine ⟨0, ev_ifT (by omega) (Ev.now _), ?_, by omega, .inl ⟨h0, rfl⟩, by omega⟩
    have := rsqrt_neg (wi x * 65536) h0 32 (by omega)
    rw [ht] at this; exact this
  · obtain ⟨r, hr, r0, r1, r2⟩ := rsqrt_loop (wi x * 65536) (by omega) 32 0 (by omega) (by omega) (by omega) (by
      have : (0 + 2 ^ 32 : Int) * (0 + 2 ^ 32) = 18446744073709551616 := by decide
      omega)
    rw [ht] at hr
    have hr3 : r ≤ 16777216 := by
      rcases Int.lt_or_le 16777216 r with h | h
      · exfalso
        have : (16777217 : Int) * 16777217 ≤ r * r := Int.mul_le_mul (by omega) (by omega) (by omega) (by omega)
        omega
      · exact h
    refine ⟨r, ?_, hr, r0, .inr ⟨by omega, r1, r2⟩, hr3⟩
    by_cases hz : wi x * 65536 ≤ 0
    · refine ev_ifT hz (ev_some ?_)
      rcases Int.lt_or_le 0 r with h | h
      · exfalso
        have : (1 : Int) * 1 ≤ r * r := Int.mul_le_mul (by omega) (by omega) (by omega) (by omega)
        omega
      · omega
    · refine ev_ifF hz ?_
      have hrp : 0 < r := by
        rcases Int.lt_or_le 0 r with h | h
        · exact h
        · exfalso
          have : r = 0 := by omega
          subst this
          omega
      exact sqrt_loop (wi x * 65536) (by omega) (by omega) r hrp r1 r2 _ 4294967296 rfl (by omega) (by omega)

theorem alive_ev : Ev (fun k => garboardlaw07_alive.f k) true := Ev.of garboardlaw07_alive.mono (k := 80) (by decide +kernel)

end Go.Proofs.Ytfneknniikacpaa.Fix
