/- What the functions of layer 1 and of its reference come to, as plain integer functions; no condition but that numbers are int64s. -/
import Derived.Test.YtgnkeojclibbdaaSatMul
namespace Go.Proofs.Ytgnkeojclibbdaa.Sat
set_option linter.unusedVariables false
set_option linter.unusedSimpArgs false
open Go.RowKit Go.Proofs.Ytgnkeojclibbdaa.PA Go.Proofs.YtgnkeojclibbdaaW.PrintWords Go.Proofs.YtgnkeojclibbdaaW.PrintLast Go.Proofs.YtgnkeojclibbdaaW.PrintMore Go.Proofs.Ytgnkeojclibbdaa.Base Go.Proofs.Ytgnkeojclibbdaa.SatMul

theorem bound_f (b : Bool) : sat_bound.f b = some (if b = true then -9223372036854775808 else 9223372036854775807) := by
  cases b <;> rfl
theorem add_f (a b : Int) (ha : I64 a) (hb : I64 b) : sat_Add.f a b = some (cl (a + b)) := by
  unfold I64 at ha hb
  simp only [sat_Add.f, bound_f, Option.bind_some]
  by_cases h0 : a < 0
  all_goals by_cases h1 : b < 0
  all_goals by_cases h2 : wrap64 (a + b) < 0
  all_goals simp only [h0, h1, h2, decide_true, decide_false]
  all_goals simp
  all_goals (unfold wrap64 at *; unfold cl; (repeat' split) <;> omega)
theorem sub_f (a b : Int) (ha : I64 a) (hb : I64 b) : sat_Sub.f a b = some (cl (a - b)) := by
  unfold I64 at ha hb
  simp only [sat_Sub.f, bound_f, Option.bind_some]
  by_cases h0 : a < 0
  all_goals by_cases h1 : b < 0
  all_goals by_cases h2 : wrap64 (a - b) < 0
  all_goals simp only [h0, h1, h2, decide_true, decide_false]
  all_goals simp
  all_goals (unfold wrap64 at *; unfold cl; (repeat' split) <;> omega)
theorem radd_ev (a b : Int) (ha : I64 a) (hb : I64 b) : Ev (fun k => garboardref01_Add.f k a b) (cl (a + b)) := by
  unfold I64 at ha hb
  refine ⟨1, fun k hk => ?_⟩
  obtain ⟨k, rfl⟩ : ∃ m, k = m + 1 := ⟨k - 1, by omega⟩
  simp only [garboardref01_Add.f, garboardref01_Add.j0, decide_eq_true_eq]
  unfold cl wrap64
  by_cases h : b > 0
  · rw [if_pos h]; (repeat' split) <;> (refine congrArg some ?_; omega)
  · rw [if_neg h, if_neg (by decide)]; (repeat' split) <;> (refine congrArg some ?_; omega)
theorem rsub_ev (a b : Int) (ha : I64 a) (hb : I64 b) : Ev (fun k => garboardref01_Sub.f k a b) (cl (a - b)) := by
  unfold I64 at ha hb
  refine ⟨1, fun k hk => ?_⟩
  obtain ⟨k, rfl⟩ : ∃ m, k = m + 1 := ⟨k - 1, by omega⟩
  simp only [garboardref01_Sub.f, garboardref01_Sub.j0, decide_eq_true_eq]
  unfold cl wrap64
  by_cases h : b < 0
  · rw [if_pos h]; (repeat' split) <;> (refine congrArg some ?_; omega)
  · rw [if_neg h, if_neg (by decide)]; (repeat' split) <;> (refine congrArg some ?_; omega)
theorem size_f (a : Int) (h : I64 a) : garboardref01_size.f a = some (a.natAbs : Int) := by
  unfold I64 at h
  unfold garboardref01_size.f
  simp only [wu64']
  unfold wrap64
  split <;> (refine congrArg some ?_; omega)
theorem rmul_f (a b : Int) (ha : I64 a) (hb : I64 b) : garboardref01_Mul.f a b = some (cl (a * b)) := by
  unfold garboardref01_Mul.f
  by_cases a0 : a = 0
  · subst a0
    rw [if_pos rfl, Int.zero_mul]; rfl
  · rw [if_neg a0]
    by_cases b0 : b = 0
    · subst b0
      rw [if_pos rfl, Int.mul_zero]; rfl
    · rw [if_neg b0, size_f a ha, size_f b hb]
      simp only [Option.bind_some]
      have pa : (a.natAbs : Int) ≤ 9223372036854775808 := by unfold I64 at ha; omega
      have pb : (b.natAbs : Int) ≤ 9223372036854775808 := by unfold I64 at hb; omega
      have hb1 : 1 ≤ (b.natAbs : Int) := by omega
      have ha1 : 1 ≤ (a.natAbs : Int) := by omega
      have hn : ((a * b).natAbs : Int) = (a.natAbs : Int) * (b.natAbs : Int) := by rw [Int.natAbs_mul]; omega
      have hq : ∀ top : Int, 0 ≤ top → top ≤ 9223372036854775808 → ((a.natAbs : Int) > IntKind.u64.wrap (Int.tdiv top (b.natAbs : Int)) ↔ ((a * b).natAbs : Int) > top) := by
        intro top h0 h1
        have e1 : Int.tdiv top (b.natAbs : Int) = top / (b.natAbs : Int) := Int.tdiv_eq_ediv_of_nonneg h0
        have q0 : 0 ≤ top / (b.natAbs : Int) := Int.ediv_nonneg h0 (by omega)
        have q1 : top / (b.natAbs : Int) ≤ top := Int.ediv_le_self _ h0
        rw [e1, wu64 q0 (by omega), hn]
        constructor
        · intro h
          have := (Int.ediv_lt_iff_lt_mul (by omega)).mp h
          omega
        · intro h
          exact (Int.ediv_lt_iff_lt_mul (by omega)).mpr h
      have hz : ∀ top : Int, ((a * b).natAbs : Int) ≤ top → top ≤ 9223372036854775808 → IntKind.u64.wrap ((a.natAbs : Int) * (b.natAbs : Int)) = ((a * b).natAbs : Int) := by
        intro top h h1
        rw [← hn]; exact wu64 (by omega) (by omega)
      have hs : (decide (a < 0) != decide (b < 0)) = true → a * b < 0 := by
        intro h
        by_cases h0 : a < 0
        · by_cases h1 : b < 0
          · simp [h0, h1] at h
          · exact Int.mul_neg_of_neg_of_pos (by omega) (by omega)
        · by_cases h1 : b < 0
          · exact Int.mul_neg_of_pos_of_neg (by omega) (by omega)
          · simp [h0, h1] at h
      have ht : ¬ (decide (a < 0) != decide (b < 0)) = true → 0 < a * b := by
        intro h
        by_cases h0 : a < 0
        · by_cases h1 : b < 0
          · exact Int.mul_pos_of_neg_of_neg (by omega) (by omega)
          · simp [h0, h1] at h
        · by_cases h1 : b < 0
          · simp [h0, h1] at h
          · exact Int.mul_pos (by omega) (by omega)
      generalize (decide (a < 0) != decide (b < 0)) = m at *
      cases m with
      | true =>
        have hp := hs rfl
        rw [if_neg (by omega), if_pos rfl]
        by_cases hc : ((a * b).natAbs : Int) > 9223372036854775808
        · rw [if_pos ((hq _ (by omega) (by omega)).mpr hc)]
          unfold cl; refine congrArg some ?_; (repeat' split) <;> omega
        · rw [if_neg (fun h => hc ((hq _ (by omega) (by omega)).mp h)), hz 9223372036854775808 (by omega) (by omega)]
          generalize a * b = p at *
          simp only [wu64']
          unfold cl wrap64; refine congrArg some ?_; (repeat' split) <;> omega
      | false =>
        have hp := ht (by decide)
        rw [if_neg (by omega), if_neg (by decide)]
        by_cases hc : ((a * b).natAbs : Int) > 9223372036854775807
        · rw [if_pos ((hq _ (by omega) (by omega)).mpr hc)]
          unfold cl; refine congrArg some ?_; (repeat' split) <;> omega
        · rw [if_neg (fun h => hc ((hq _ (by omega) (by omega)).mp h)), hz 9223372036854775807 (by omega) (by omega)]
          generalize a * b = p at *
          unfold cl wrap64; refine congrArg some ?_; (repeat' split) <;> omega

theorem within_f (a l m : Int) : sat_Within.f a l m = garboardref01_Within.f a l m := by
  unfold sat_Within.f garboardref01_Within.f mx mn
  (repeat' split) <;> (refine congrArg some ?_; omega)

/-! ### sums of lists -/
def sumI (s : Int) : List Int → Int
  | [] => s
  | x :: t => sumI (cl (s + x)) t
theorem sum_loop (l : List Int) (hl : l.length ≤ 1000000) (hw : ∀ x ∈ l, I64 x) : ∀ (t : List Int) (i : Nat) (s : Int), l.drop i = t → i ≤ l.length → I64 s →
    Ev (fun k => sat_Sum.l0 k s l (l.length : Int) (i : Int)) (sumI s t) := by
  intro t
  induction t with
  | nil =>
    intro i s hd hi hs
    have := drop_end hi hd
    refine Ev.step (f := fun _ => some s) (fun k => ?_) (Ev.now _)
    rw [sat_Sum.l0, if_neg (by omega)]
  | cons x t ih =>
    intro i s hd hi hs
    obtain ⟨hr, hlt, hd'⟩ := rd_drop hd
    have hx := hw x (List.mem_of_mem_drop (by rw [hd]; exact List.mem_cons_self))
    refine Ev.step (f := fun k => sat_Sum.l0 k (cl (s + x)) l (l.length : Int) ((i + 1 : Nat) : Int)) (fun k => ?_) (ih (i + 1) _ hd' (by omega) (cl_bd _))
    rw [sat_Sum.l0, if_pos (by omega), if_pos (by omega), if_pos (by omega), hr, add_f s x hs hx, Option.bind_some, w64 (by omega) (by omega)]
    rfl
theorem rsum_loop (l : List Int) (hl : l.length ≤ 1000000) (hw : ∀ x ∈ l, I64 x) : ∀ (t : List Int) (i : Nat) (s : Int), l.drop i = t → i ≤ l.length → I64 s →
    Ev (fun k => garboardref01_Sum.l0 k l s (i : Int)) (sumI s t) := by
  intro t
  induction t with
  | nil =>
    intro i s hd hi hs
    have := drop_end hi hd
    refine Ev.step (f := fun _ => some s) (fun k => ?_) (Ev.now _)
    rw [garboardref01_Sum.l0, if_neg (by omega)]
  | cons x t ih =>
    intro i s hd hi hs
    obtain ⟨hr, hlt, hd'⟩ := rd_drop hd
    have hx := hw x (List.mem_of_mem_drop (by rw [hd]; exact List.mem_cons_self))
    refine Ev.step (f := fun k => (garboardref01_Add.f k s x).bind fun t156 => garboardref01_Sum.l0 k l t156 ((i + 1 : Nat) : Int)) (fun k => ?_) (Ev.bind (radd_ev s x hs hx) (ih (i + 1) _ hd' (by omega) (cl_bd _)))
    rw [garboardref01_Sum.l0, if_pos (by omega), if_pos (by omega), hr, w64 (by omega) (by omega)]
    rfl

theorem alive_f : garboardlaw01_alive.f = some true := by decide +kernel

end Go.Proofs.Ytgnkeojclibbdaa.Sat
