/- What sat.Mul comes to: the product, within the bounds of an int64; no condition but that both are int64s. -/
import Derived.Test.YtdojihocnkakjaaBase
import Derived.Test.YtdojihocnkakjaaPAx
namespace Go.Proofs.Ytdojihocnkakjaa.SatMul
set_option linter.unusedVariables false
set_option linter.unusedSimpArgs false
open Go.RowKit Go.Proofs.Ytdojihocnkakjaa.PA Go.Proofs.YtdojihocnkakjaaW.PrintWords Go.Proofs.YtdojihocnkakjaaW.PrintLast Go.Proofs.YtdojihocnkakjaaW.PrintMore Go.Proofs.Ytdojihocnkakjaa.Base

/-- Within the bounds of an int64. -/
def cl (x : Int) : Int := if x < -9223372036854775808 then -9223372036854775808 else if x > 9223372036854775807 then 9223372036854775807 else x
theorem cl_id {x : Int} (h0 : -9223372036854775808 ≤ x) (h1 : x ≤ 9223372036854775807) : cl x = x := by unfold cl; (repeat' split) <;> omega
theorem cl_bd (x : Int) : -9223372036854775808 ≤ cl x ∧ cl x ≤ 9223372036854775807 := by unfold cl; (repeat' split) <;> omega
def I64 (x : Int) : Prop := -9223372036854775808 ≤ x ∧ x ≤ 9223372036854775807

theorem and32 (x : Int) (h0 : 0 ≤ x) (h1 : x < 18446744073709551616) : bits .and .u64 x 4294967295 = x % 4294967296 := and_mask64 32 (by decide) x h0 h1
theorem prod32 {x y : Int} (hx0 : 0 ≤ x) (hx : x ≤ 4294967295) (hy0 : 0 ≤ y) (hy : y ≤ 4294967295) : 0 ≤ x * y ∧ x * y ≤ 18446744065119617025 := by
  have h1 : x * y ≤ 4294967295 * 4294967295 := Int.mul_le_mul hx hy hy0 (by omega)
  have h2 : 0 ≤ x * y := Int.mul_nonneg hx0 hy0
  omega
theorem mul64_f (a b : Int) (ha0 : 0 ≤ a) (ha : a < 18446744073709551616) (hb0 : 0 ≤ b) (hb : b < 18446744073709551616) :
    bits_Mul64.f a b = some (a * b / 18446744073709551616, a * b % 18446744073709551616) := by
  unfold bits_Mul64.f
  rw [and32 a ha0 ha, and32 b hb0 hb]
  have ea : a = a / 4294967296 * 4294967296 + a % 4294967296 := by omega
  have eb : b = b / 4294967296 * 4294967296 + b % 4294967296 := by omega
  have x1 : 0 ≤ a / 4294967296 ∧ a / 4294967296 ≤ 4294967295 := by omega
  have x0 : 0 ≤ a % 4294967296 ∧ a % 4294967296 ≤ 4294967295 := by omega
  have y1 : 0 ≤ b / 4294967296 ∧ b / 4294967296 ≤ 4294967295 := by omega
  have y0 : 0 ≤ b % 4294967296 ∧ b % 4294967296 ≤ 4294967295 := by omega
  have hab : a * b = (a / 4294967296 * 4294967296 + a % 4294967296) * (b / 4294967296 * 4294967296 + b % 4294967296) := by rw [← ea, ← eb]
  generalize a / 4294967296 = p1 at *
  generalize a % 4294967296 = p0 at *
  generalize b / 4294967296 = q1 at *
  generalize b % 4294967296 = q0 at *
  have h11 := prod32 x1.1 x1.2 y1.1 y1.2
  have h10 := prod32 x1.1 x1.2 y0.1 y0.2
  have h01 := prod32 x0.1 x0.2 y1.1 y1.2
  have h00 := prod32 x0.1 x0.2 y0.1 y0.2
  have hexp : a * b = p1 * q1 * 18446744073709551616 + (p1 * q0 + p0 * q1) * 4294967296 + p0 * q0 := by
    rw [hab]
    simp only [Int.add_mul, Int.mul_add]
    have e1 : p1 * 4294967296 * (q1 * 4294967296) = p1 * q1 * 18446744073709551616 := by
      rw [Int.mul_assoc, Int.mul_comm 4294967296 (q1 * 4294967296), Int.mul_assoc q1, ← Int.mul_assoc p1]; rfl
    have e2 : p1 * 4294967296 * q0 = p1 * q0 * 4294967296 := by rw [Int.mul_assoc, Int.mul_comm 4294967296 q0, ← Int.mul_assoc]
    have e3 : p0 * (q1 * 4294967296) = p0 * q1 * 4294967296 := by rw [Int.mul_assoc]
    rw [e1, e2, e3]; omega
  rw [hexp]
  generalize p1 * q1 = A at *
  generalize p1 * q0 = B at *
  generalize p0 * q1 = C at *
  generalize p0 * q0 = D at *
  simp only [wu64']
  have g0 : D % 18446744073709551616 = D := by omega
  have g1 : B % 18446744073709551616 = B := by omega
  have g2 : (B + D / 4294967296) % 18446744073709551616 = B + D / 4294967296 := by omega
  have g3 : C % 18446744073709551616 = C := by omega
  have g4 : A % 18446744073709551616 = A := by omega
  rw [g0, g1, g2, g3, g4, and32 _ (by omega) (by omega)]
  refine congrArg some (Prod.ext ?_ ?_)
  · show _ = _
    omega
  · show _ = _
    rfl
theorem plain_f (a : Int) (h : I64 a) : sat_plain.f a = some (a.natAbs : Int) := by
  unfold sat_plain.f
  simp only [wu64']
  unfold I64 at h
  split <;> (congr 1; omega)
theorem mul_f (a b : Int) (ha : I64 a) (hb : I64 b) : sat_Mul.f a b = some (cl (a * b)) := by
  unfold sat_Mul.f
  rw [plain_f a ha, plain_f b hb]
  simp only [Option.bind_some]
  have pa : (a.natAbs : Int) ≤ 9223372036854775808 := by unfold I64 at ha; omega
  have pb : (b.natAbs : Int) ≤ 9223372036854775808 := by unfold I64 at hb; omega
  rw [mul64_f _ _ (by omega) (by omega) (by omega) (by omega)]
  simp only [Option.bind_some]
  have hn : ((a * b).natAbs : Int) = (a.natAbs : Int) * (b.natAbs : Int) := by rw [Int.natAbs_mul]; omega
  rw [← hn]
  have hs : (decide (a < 0) != decide (b < 0)) = true → a * b ≤ 0 := by
    intro h
    by_cases h0 : a < 0
    · by_cases h1 : b < 0
      · simp [h0, h1] at h
      · exact Int.mul_nonpos_of_nonpos_of_nonneg (by omega) (by omega)
    · by_cases h1 : b < 0
      · exact Int.mul_nonpos_of_nonneg_of_nonpos (by omega) (by omega)
      · simp [h0, h1] at h
  have ht : ¬ (decide (a < 0) != decide (b < 0)) = true → 0 ≤ a * b := by
    intro h
    by_cases h0 : a < 0
    · by_cases h1 : b < 0
      · exact Int.mul_nonneg_of_nonpos_of_nonpos (by omega) (by omega)
      · simp [h0, h1] at h
    · by_cases h1 : b < 0
      · simp [h0, h1] at h
      · exact Int.mul_nonneg (by omega) (by omega)
  generalize a * b = p at *
  generalize (decide (a < 0) != decide (b < 0)) = m at *
  cases m with
  | true =>
    have hp := hs rfl
    rw [if_pos rfl]
    have e : (p.natAbs : Int) = -p := by omega
    rw [e]
    simp only [wu64']
    split
    · unfold cl; (congr 1; (repeat' split) <;> omega)
    · split
      · unfold cl; (congr 1; (repeat' split) <;> omega)
      · unfold cl wrap64; (congr 1; (repeat' split) <;> omega)
  | false =>
    have hp := ht (by decide)
    rw [if_neg (by decide)]
    have e : (p.natAbs : Int) = p := by omega
    rw [e]
    split
    · unfold cl; (congr 1; (repeat' split) <;> omega)
    · split
      · unfold cl; (congr 1; (repeat' split) <;> omega)
      · unfold cl wrap64; (congr 1; (repeat' split) <;> omega)

end Go.Proofs.Ytdojihocnkakjaa.SatMul
