/- Steps: a row of steps as it lies, opened, and its beginning; no condition but those that stand in each. -/
import Derived.Test.YtiekmjkeoicjfaaBase
import Derived.Test.YtiekmjkeoicjfaaPAx0
import Derived.ProofKit
import Derived.OpenShut
import Derived.ChangeSlices
import Derived.ChangeArms
import Derived.ChangeSame
import Derived.Deep.Strs
import Derived.Lib.SmallJoins
namespace Go.Proofs.Ytiekmjkeoicjfaa.Stp
set_option linter.unusedVariables false
set_option linter.unusedSimpArgs false
open Go.RowKit Go.ChangeShapes Go.WideShapes Go.Joins Go.Proofs.Ytiekmjkeoicjfaa.PA Go.Proofs.YtiekmjkeoicjfaaW.PrintWords Go.Proofs.YtiekmjkeoicjfaaW.PrintLast Go.Proofs.YtiekmjkeoicjfaaW.PrintMore Go.Proofs.Ytiekmjkeoicjfaa.Base
attribute [local go_sem] max2_int min2_int max_two min_two max_three min_three max_four min_four
structure St where
  a0 : Int
  a1 : Int
def Row (w : World) (A : Option Addr) (l : List St) : Prop :=
  ∀ (j : Nat) (x : St), l[j]? = some x → ∃ a, A = some a ∧ w.cell? (a.add (j * 2)) = some (.int .u8 x.a0) ∧ w.cell? (a.add (j * 2 + 1)) = some (.int .i64 x.a1)
theorem Row.below {w w' : World} {A : Option Addr} {l : List St} (h : Row w A l) (hb : Below w.heap.size w w') : Row w' A l := fun j x hx => by
  obtain ⟨a, h0, k0, k1⟩ := h j x hx
  exact ⟨a, h0, pw_cell_below hb k0, pw_cell_below hb k1⟩
theorem Row.take {w : World} {A : Option Addr} {l : List St} (h : Row w A l) (n : Nat) : Row w A (l.take n) := fun j x hx => by
  rcases Nat.lt_or_ge j n with hj | hj
  · rw [List.getElem?_take_of_lt hj] at hx; exact h j x hx
  · rw [List.getElem?_eq_none (by rw [List.length_take]; omega)] at hx; cases hx
theorem Row.cells {w : World} {A : Option Addr} {l : List St} (h : Row w A l) {i : Nat} {x : St} (hx : l[i]? = some x) : ∃ a, A = some a ∧ w.cell? (a.add (i * 2)) = some (.int .u8 x.a0) ∧ w.cell? ⟨(a.add (i * 2)).block, (a.add (i * 2)).off + 1, none⟩ = some (.int .i64 x.a1) := by
  obtain ⟨a, h0, k0, k1⟩ := h i x hx
  rw [add_field a (i * 2) 1 (by decide)] at k1
  exact ⟨a, h0, k0, k1⟩
theorem stepsOf {H : Type} {enc : TypeId × Value → H} {W : World} {base : Nat} {spare : Nat → Bool} {held : Bool} {fuel : Nat} {a0 : Option Addr} {len0 cap0 : Nat} {x : DataW H × List MemPlace}
    (h : DataW.trod enc Try.prog W base spare held fuel 22 (Value.slice a0 len0 cap0).cells.toList = some x) :
    ∃ l0 : List St, len0 = l0.length ∧ Row W a0 l0 ∧ ((∀ p ∈ l0, (Lit.int .u8 p.a0).wf = true ∧ (Lit.int .i64 p.a1).wf = true) ∧ l0.length ≤ 9223372036854775807) ∧ l0.length ≤ cap0 := by
  have cE : Try.prog.cellsOf 35 = 2 := by kernel_rfl
  rcases DataW.trod_slice Try.underlying22 h with ⟨hcs, _⟩ | ⟨a, len, cap, elems, rest, n, _, hcs, _, _, hl, hm, hlen, hel, _, _⟩
  · simp [Value.cells] at hcs
    obtain ⟨rfl, rfl, rfl⟩ := hcs
    exact ⟨[], rfl, fun j x hx => by simp at hx, ⟨fun p hp => absurd hp (by simp), by decide⟩, Nat.le_refl _⟩
  · simp [Value.cells] at hcs
    obtain ⟨rfl, rfl, rfl⟩ := hcs
    have each : ∀ i, i < len0 → ∃ p : St, ((Lit.int .u8 p.a0).wf = true ∧ (Lit.int .i64 p.a1).wf = true) ∧ W.cell? (a.add (i * 2)) = some (.int .u8 p.a0) ∧ W.cell? (a.add (i * 2 + 1)) = some (.int .i64 p.a1) := by
      intro i hi
      have he := hel i hi
      rw [List.getElem?_eq_getElem (show i < elems.length by omega), cE, Option.bind_eq_some_iff] at he
      obtain ⟨cs', hcs, hy⟩ := he
      obtain ⟨y0, y1, n', _, _, g0, g1⟩ := trod_struct2 Try.underlying35 hy
      obtain ⟨_, hcl, hat⟩ := World.cells?_some hcs
      obtain ⟨p0, e0, -, w0⟩ := DataW.trod_int Try.underlying5 g0
      obtain ⟨p1, e1, -, w1⟩ := DataW.trod_int Try.underlying3 g1
      have c3 : Try.prog.cellsOf 3 = 1 := by kernel_rfl
      have c5 : Try.prog.cellsOf 5 = 1 := by kernel_rfl
      obtain ⟨v0, t0, rfl⟩ := List.exists_cons_of_length_eq_add_one hcl
      obtain ⟨v1, t1, rfl⟩ := List.exists_cons_of_length_eq_add_one (show t0.length = 0 + 1 by simpa using hcl)
      obtain rfl : t1 = [] := List.length_eq_zero_iff.mp (by simpa using hcl)
      have q0 := hat 0 (by omega)
      have q1 := hat 1 (by omega)
      dsimp only at e0 e1
      simp only [c3, c5] at e0
      simp only [c3, c5] at e1
      obtain rfl : v0 = .int .u8 p0 := by simpa using e0
      obtain rfl : v1 = .int .i64 p1 := by simpa using e1
      rw [Go.Deep.add_add] at q0 q1
      exact ⟨⟨p0, p1⟩, ⟨w0, w1⟩, q0, q1⟩
    let l0 : List St := (List.finRange len0).map fun i => (each i.val i.isLt).choose
    have hll : l0.length = len0 := by simp [l0]
    have hget : ∀ j p, l0[j]? = some p → ∃ hj : j < len0, p = (each j hj).choose := by
      intro j p hp
      have hj := (List.getElem?_eq_some_iff.1 hp).1
      rw [hll] at hj
      refine ⟨hj, ?_⟩
      have h2 : l0[j]? = some (each j hj).choose := by simp [l0, hj]
      rw [h2] at hp
      exact (Option.some.inj hp).symm
    refine ⟨l0, hll.symm, fun j p hp => ?_, ⟨fun p hp => ?_, by rw [hll]; simp only [maxLen] at hm; omega⟩, by rw [hll]; exact hl⟩
    · obtain ⟨hj, rfl⟩ := hget j p hp
      exact ⟨a, rfl, (each j hj).choose_spec.2⟩
    · obtain ⟨j, hj⟩ := List.getElem?_of_mem hp
      obtain ⟨hj', rfl⟩ := hget j p hj
      exact (each j hj').choose_spec.1
theorem short_c (A : Option Addr) (n c m : Nat) (hc : n ≤ c) (hm : n ≤ 9223372036854775807) (w : World) (h : min n 400 = m) : Calls Try.prog 9 #[.slice A n c] w fun e w' => e = .returned (.slice A m c) ∧ w = w' := by
  obtain ⟨i06, hi06, _, hsz6, _⟩ := info_parts info35
  by_cases h0 : 400 < n
  · have hcut6 := cut_to (P := Try.prog) 22 35 .i64 Try.underlying22 hi06 A n c 400 (by omega) (by omega) hc
    obtain rfl : m = 400 := by omega
    have e2 : (400 : Int) < n := by omega
    clear h
    go_enter Try.func9, Try.ntmps9
    go_wp2_with fail
    go_ret
    exact ⟨rfl, rfl⟩
  · have hcut6 := cut_to (P := Try.prog) 22 35 .i64 Try.underlying22 hi06 A n c n (by omega) (by omega) hc
    obtain rfl : n = m := by omega
    have e2 : ¬ (400 : Int) < n := by omega
    simp only [Int.toNat_natCast] at hcut6
    clear h
    go_enter Try.func9, Try.ntmps9
    go_wp2_with fail
    go_ret
    exact ⟨rfl, rfl⟩
end Go.Proofs.Ytiekmjkeoicjfaa.Stp
