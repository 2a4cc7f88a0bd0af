/- Steps: a row of steps as it lies, and its beginning; no condition but those that stand in each. -/
import Derived.Test.YtkpablemeaaeoaaBrkEnds
import Derived.ProofKit
import Derived.OpenShut
import Derived.ChangeSlices
import Derived.ChangeArms
import Derived.ChangeSame
import Derived.Lib.SmallJoins
namespace Go.Proofs.Ytkpablemeaaeoaa.Brk
set_option linter.unusedVariables false
set_option linter.unusedSimpArgs false
open Go.RowKit Go.ChangeShapes Go.WideShapes Go.Joins Go.Proofs.Ytkpablemeaaeoaa.PA Go.Proofs.YtkpablemeaaeoaaW.PrintWords Go.Proofs.YtkpablemeaaeoaaW.PrintLast Go.Proofs.YtkpablemeaaeoaaW.PrintMore Go.Proofs.Ytkpablemeaaeoaa.Base
attribute [local go_sem] max2_int min2_int max_two min_two max_three min_three max_four min_four
/-- A row of steps: the kind, and how much later. -/
def Row (w : World) (A : Option Addr) (l : List (Int × Int)) : Prop :=
  ∀ (j : Nat) (x : Int × Int), l[j]? = some x → ∃ a, A = some a ∧ w.cell? (a.add (j * 2)) = some (.int .u8 x.1) ∧ w.cell? (a.add (j * 2 + 1)) = some (.int .i64 x.2)
theorem Row.below {w w' : World} {A : Option Addr} {l : List (Int × Int)} (h : Row w A l) (hb : Below w.heap.size w w') : Row w' A l := fun j x hx => by
  obtain ⟨a, h0, h1, h2⟩ := h j x hx
  exact ⟨a, h0, pw_cell_below hb h1, pw_cell_below hb h2⟩
theorem Row.take {w : World} {A : Option Addr} {l : List (Int × Int)} (h : Row w A l) (n : Nat) : Row w A (l.take n) := fun j x hx => by
  rcases Nat.lt_or_ge j n with hj | hj
  · rw [List.getElem?_take_of_lt hj] at hx; exact h j x hx
  · rw [List.getElem?_eq_none (by rw [List.length_take]; omega)] at hx; cases hx
theorem stepsOf {H : Type} {enc : TypeId × Value → H} {W : World} {base : Nat} {spare : Nat → Bool} {held : Bool} {fuel : Nat} {a0 : Option Addr} {len0 cap0 : Nat} {x : DataW H × List MemPlace}
    (h : DataW.trod enc Try.prog W base spare held fuel 24 (Value.slice a0 len0 cap0).cells.toList = some x) :
    ∃ l0 : List (Int × Int), len0 = l0.length ∧ Row W a0 l0 ∧ ((∀ p ∈ l0, (Lit.int .u8 p.1).wf = true ∧ (Lit.int .i64 p.2).wf = true) ∧ l0.length ≤ 9223372036854775807) ∧ l0.length ≤ cap0 := by
  have c34 : Try.prog.cellsOf 34 = 2 := by kernel_rfl
  rcases DataW.trod_slice Try.underlying24 h with ⟨hcs, _⟩ | ⟨a, len, cap, elems, rest, n, _, hcs, _, _, hl, hm, hlen, hel, _, _⟩
  · simp [Value.cells] at hcs
    obtain ⟨rfl, rfl, rfl⟩ := hcs
    exact ⟨[], rfl, fun j x hx => by simp at hx, ⟨fun p hp => absurd hp (by simp), by decide⟩, Nat.le_refl _⟩
  · simp [Value.cells] at hcs
    obtain ⟨rfl, rfl, rfl⟩ := hcs
    have each : ∀ i, i < len0 → ∃ p : Int × Int, ((Lit.int .u8 p.1).wf = true ∧ (Lit.int .i64 p.2).wf = true) ∧ W.cell? (a.add (i * 2)) = some (.int .u8 p.1) ∧ W.cell? (a.add (i * 2 + 1)) = some (.int .i64 p.2) := by
      intro i hi
      have he := hel i hi
      rw [List.getElem?_eq_getElem (show i < elems.length by omega), c34, Option.bind_eq_some_iff] at he
      obtain ⟨cs', hcs, hy⟩ := he
      obtain ⟨y0, y1, n', _, _, g0, g1⟩ := trod_struct2 Try.underlying34 hy
      obtain ⟨_, hcl, hat⟩ := World.cells?_some hcs
      obtain ⟨p0, e0, -, w0⟩ := DataW.trod_int Try.underlying5 g0
      obtain ⟨p1, e1, -, w1⟩ := DataW.trod_int Try.underlying2 g1
      have c5 : Try.prog.cellsOf 5 = 1 := by kernel_rfl
      have c2 : Try.prog.cellsOf 2 = 1 := by kernel_rfl
      obtain ⟨v0, t0, rfl⟩ := List.exists_cons_of_length_eq_add_one hcl
      obtain ⟨v1, t1, rfl⟩ := List.exists_cons_of_length_eq_add_one (show t0.length = 0 + 1 by simpa using hcl)
      obtain rfl : t1 = [] := List.length_eq_zero_iff.mp (by simpa using hcl)
      have q0 := hat 0 (by omega)
      have q1 := hat 1 (by omega)
      dsimp only at e0 e1
      rw [c5] at e0
      rw [c2] at e1
      obtain rfl : v0 = .int .u8 p0 := by simpa using e0
      obtain rfl : v1 = .int .i64 p1 := by simpa using e1
      rw [Go.Deep.add_add] at q0 q1
      exact ⟨(p0, p1), ⟨w0, w1⟩, q0, q1⟩
    let l0 : List (Int × Int) := (List.finRange len0).map fun i => (each i.val i.isLt).choose
    have hll : l0.length = len0 := by simp [l0]
    have hget : ∀ j p, l0[j]? = some p → ∃ hj : j < len0, p = (each j hj).choose := by
      intro j p hp
      have hj := (List.getElem?_eq_some_iff.1 hp).1
      rw [hll] at hj
      refine ⟨hj, ?_⟩
      have h2 : l0[j]? = some (each j hj).choose := by simp [l0, hj]
      rw [h2] at hp
      exact (Option.some.inj hp).symm
    refine ⟨l0, hll.symm, fun j p hp => ?_, ⟨fun p hp => ?_, by rw [hll]; simp only [maxLen] at hm; omega⟩, by rw [hll]; exact hl⟩
    · obtain ⟨hj, rfl⟩ := hget j p hp
      exact ⟨a, rfl, (each j hj).choose_spec.2⟩
    · obtain ⟨j, hj⟩ := List.getElem?_of_mem hp
      obtain ⟨hj', rfl⟩ := hget j p hj
      exact (each j hj').choose_spec.1
theorem minI (a b : Int) : (if b < a then b else a) = mn a b := rfl
set_option maxHeartbeats 1000000 in
set_option maxRecDepth 100000 in
theorem short_c (A : Option Addr) (n c : Nat) (hc : n ≤ c) (hm : n ≤ 9223372036854775807) (w : World) : Calls Try.prog 10 #[.slice A n c] w fun e w' => e = .returned (.slice A (min n 400) c) ∧ w' = w := by
  obtain ⟨i06, hi06, _, hsz6, _⟩ := info_parts info34
  by_cases h : 400 < n
  · have hcut6 := cut_to (P := Try.prog) 24 34 .i64 Try.underlying24 hi06 A n c 400 (by omega) (by omega) hc
    have e1 : min n 400 = 400 := by omega
    have e2 : (400 : Int) < n := by omega
    rw [e1]
    go_enter Try.func10, Try.ntmps10
    go_wp2_with fail
    go_ret
    exact ⟨rfl, rfl⟩
  · have hcut6 := cut_to (P := Try.prog) 24 34 .i64 Try.underlying24 hi06 A n c n (by omega) (by omega) hc
    have e1 : min n 400 = n := by omega
    have e2 : ¬ (400 : Int) < n := by omega
    rw [e1]
    simp only [Int.toNat_natCast] at hcut6
    go_enter Try.func10, Try.ntmps10
    go_wp2_with fail
    go_ret
    exact ⟨rfl, rfl⟩
end Go.Proofs.Ytkpablemeaaeoaa.Brk
