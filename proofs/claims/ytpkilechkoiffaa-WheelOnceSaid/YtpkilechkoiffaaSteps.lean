/- Steps: a row of steps as it lies, opened, and its beginning; no condition but those that stand in each. -/
import Derived.Test.YtpkilechkoiffaaBase
import Derived.Test.YtpkilechkoiffaaPAx0
import Derived.ProofKit
import Derived.OpenShut
import Derived.ChangeSlices
import Derived.ChangeArms
import Derived.ChangeSame
import Derived.Deep.Strs
import Derived.Lib.SmallJoins
namespace Go.Proofs.Ytpkilechkoiffaa.Stp
set_option linter.unusedVariables false
set_option linter.unusedSimpArgs false
open Go.RowKit Go.ChangeShapes Go.WideShapes Go.Joins Go.Proofs.Ytpkilechkoiffaa.PA Go.Proofs.YtpkilechkoiffaaW.PrintWords Go.Proofs.YtpkilechkoiffaaW.PrintLast Go.Proofs.YtpkilechkoiffaaW.PrintMore Go.Proofs.Ytpkilechkoiffaa.Base
attribute [local go_sem] max2_int min2_int max_two min_two max_three min_three max_four min_four
theorem trod_struct5 {H : Type} {enc : TypeId × Value → H} {P : Program} {w : World} {base : Nat} {spare : Nat → Bool} {held : Bool} {t : TypeId} {f0 f1 f2 f3 f4 : Field} {fuel : Nat} {cs : List Value} {x : DataW H × List MemPlace} (ht : P.underlying t = some (.struct #[f0, f1, f2, f3, f4])) (h : DataW.trod enc P w base spare held fuel t cs = some x) :
    ∃ y0 y1 y2 y3 y4 n, x = (.agg [y0.1, y1.1, y2.1, y3.1, y4.1], y0.2 ++ (y1.2 ++ (y2.2 ++ (y3.2 ++ y4.2)))) ∧ cs.length = P.cellsOf t ∧ DataW.trod enc P w base spare held n f0.type ((cs.drop f0.offset).take (P.cellsOf f0.type)) = some y0 ∧
      DataW.trod enc P w base spare held n f1.type ((cs.drop f1.offset).take (P.cellsOf f1.type)) = some y1 ∧ DataW.trod enc P w base spare held n f2.type ((cs.drop f2.offset).take (P.cellsOf f2.type)) = some y2 ∧
      DataW.trod enc P w base spare held n f3.type ((cs.drop f3.offset).take (P.cellsOf f3.type)) = some y3 ∧ DataW.trod enc P w base spare held n f4.type ((cs.drop f4.offset).take (P.cellsOf f4.type)) = some y4 := by
  obtain ⟨xs, n, _, rfl, hl, hlen, hf⟩ := DataW.trod_struct ht h
  match xs, hlen with
  | [y0, y1, y2, y3, y4], _ => exact ⟨y0, y1, y2, y3, y4, n, by simp, hl, by simpa using hf 0 f0 rfl, by simpa using hf 1 f1 rfl, by simpa using hf 2 f2 rfl, by simpa using hf 3 f3 rfl, by simpa using hf 4 f4 rfl⟩
structure St where
  a0 : Int
  a1 : Int
  a2 : Int
  a3 : Int
  a4 : Int
def Row (w : World) (A : Option Addr) (l : List St) : Prop :=
  ∀ (j : Nat) (x : St), l[j]? = some x → ∃ a, A = some a ∧ w.cell? (a.add (j * 5)) = some (.int .u8 x.a0) ∧ w.cell? (a.add (j * 5 + 1)) = some (.int .i64 x.a1) ∧ w.cell? (a.add (j * 5 + 2)) = some (.int .i64 x.a2) ∧ w.cell? (a.add (j * 5 + 3)) = some (.int .u64 x.a3) ∧ w.cell? (a.add (j * 5 + 4)) = some (.int .i64 x.a4)
theorem Row.below {w w' : World} {A : Option Addr} {l : List St} (h : Row w A l) (hb : Below w.heap.size w w') : Row w' A l := fun j x hx => by
  obtain ⟨a, h0, k0, k1, k2, k3, k4⟩ := h j x hx
  exact ⟨a, h0, pw_cell_below hb k0, pw_cell_below hb k1, pw_cell_below hb k2, pw_cell_below hb k3, pw_cell_below hb k4⟩
theorem Row.take {w : World} {A : Option Addr} {l : List St} (h : Row w A l) (n : Nat) : Row w A (l.take n) := fun j x hx => by
  rcases Nat.lt_or_ge j n with hj | hj
  · rw [List.getElem?_take_of_lt hj] at hx; exact h j x hx
  · rw [List.getElem?_eq_none (by rw [List.length_take]; omega)] at hx; cases hx
theorem Row.cells {w : World} {A : Option Addr} {l : List St} (h : Row w A l) {i : Nat} {x : St} (hx : l[i]? = some x) : ∃ a, A = some a ∧ w.cell? (a.add (i * 5)) = some (.int .u8 x.a0) ∧ w.cell? ⟨(a.add (i * 5)).block, (a.add (i * 5)).off + 1, none⟩ = some (.int .i64 x.a1) ∧ w.cell? ⟨(a.add (i * 5)).block, (a.add (i * 5)).off + 2, none⟩ = some (.int .i64 x.a2) ∧ w.cell? ⟨(a.add (i * 5)).block, (a.add (i * 5)).off + 3, none⟩ = some (.int .u64 x.a3) ∧ w.cell? ⟨(a.add (i * 5)).block, (a.add (i * 5)).off + 4, none⟩ = some (.int .i64 x.a4) := by
  obtain ⟨a, h0, k0, k1, k2, k3, k4⟩ := h i x hx
  rw [add_field a (i * 5) 1 (by decide)] at k1
  rw [add_field a (i * 5) 2 (by decide)] at k2
  rw [add_field a (i * 5) 3 (by decide)] at k3
  rw [add_field a (i * 5) 4 (by decide)] at k4
  exact ⟨a, h0, k0, k1, k2, k3, k4⟩
theorem stepsOf {H : Type} {enc : TypeId × Value → H} {W : World} {base : Nat} {spare : Nat → Bool} {held : Bool} {fuel : Nat} {a0 : Option Addr} {len0 cap0 : Nat} {x : DataW H × List MemPlace}
    (h : DataW.trod enc Try.prog W base spare held fuel 22 (Value.slice a0 len0 cap0).cells.toList = some x) :
    ∃ l0 : List St, len0 = l0.length ∧ Row W a0 l0 ∧ ((∀ p ∈ l0, (Lit.int .u8 p.a0).wf = true ∧ (Lit.int .i64 p.a1).wf = true ∧ (Lit.int .i64 p.a2).wf = true ∧ (Lit.int .u64 p.a3).wf = true ∧ (Lit.int .i64 p.a4).wf = true) ∧ l0.length ≤ 9223372036854775807) ∧ l0.length ≤ cap0 := by
  have cE : Try.prog.cellsOf 30 = 5 := by kernel_rfl
  rcases DataW.trod_slice Try.underlying22 h with ⟨hcs, _⟩ | ⟨a, len, cap, elems, rest, n, _, hcs, _, _, hl, hm, hlen, hel, _, _⟩
  · simp [Value.cells] at hcs
    obtain ⟨rfl, rfl, rfl⟩ := hcs
    exact ⟨[], rfl, fun j x hx => by simp at hx, ⟨fun p hp => absurd hp (by simp), by decide⟩, Nat.le_refl _⟩
  · simp [Value.cells] at hcs
    obtain ⟨rfl, rfl, rfl⟩ := hcs
    have each : ∀ i, i < len0 → ∃ p : St, ((Lit.int .u8 p.a0).wf = true ∧ (Lit.int .i64 p.a1).wf = true ∧ (Lit.int .i64 p.a2).wf = true ∧ (Lit.int .u64 p.a3).wf = true ∧ (Lit.int .i64 p.a4).wf = true) ∧ W.cell? (a.add (i * 5)) = some (.int .u8 p.a0) ∧ W.cell? (a.add (i * 5 + 1)) = some (.int .i64 p.a1) ∧ W.cell? (a.add (i * 5 + 2)) = some (.int .i64 p.a2) ∧ W.cell? (a.add (i * 5 + 3)) = some (.int .u64 p.a3) ∧ W.cell? (a.add (i * 5 + 4)) = some (.int .i64 p.a4) := by
      intro i hi
      have he := hel i hi
      rw [List.getElem?_eq_getElem (show i < elems.length by omega), cE, Option.bind_eq_some_iff] at he
      obtain ⟨cs', hcs, hy⟩ := he
      obtain ⟨y0, y1, y2, y3, y4, n', _, _, g0, g1, g2, g3, g4⟩ := trod_struct5 Try.underlying30 hy
      obtain ⟨_, hcl, hat⟩ := World.cells?_some hcs
      obtain ⟨p0, e0, -, w0⟩ := DataW.trod_int Try.underlying5 g0
      obtain ⟨p1, e1, -, w1⟩ := DataW.trod_int Try.underlying2 g1
      obtain ⟨p2, e2, -, w2⟩ := DataW.trod_int Try.underlying2 g2
      obtain ⟨p3, e3, -, w3⟩ := DataW.trod_int Try.underlying28 g3
      obtain ⟨p4, e4, -, w4⟩ := DataW.trod_int Try.underlying3 g4
      have c2 : Try.prog.cellsOf 2 = 1 := by kernel_rfl
      have c3 : Try.prog.cellsOf 3 = 1 := by kernel_rfl
      have c5 : Try.prog.cellsOf 5 = 1 := by kernel_rfl
      have c28 : Try.prog.cellsOf 28 = 1 := by kernel_rfl
      obtain ⟨v0, t0, rfl⟩ := List.exists_cons_of_length_eq_add_one hcl
      obtain ⟨v1, t1, rfl⟩ := List.exists_cons_of_length_eq_add_one (show t0.length = 3 + 1 by simpa using hcl)
      obtain ⟨v2, t2, rfl⟩ := List.exists_cons_of_length_eq_add_one (show t1.length = 2 + 1 by simpa using hcl)
      obtain ⟨v3, t3, rfl⟩ := List.exists_cons_of_length_eq_add_one (show t2.length = 1 + 1 by simpa using hcl)
      obtain ⟨v4, t4, rfl⟩ := List.exists_cons_of_length_eq_add_one (show t3.length = 0 + 1 by simpa using hcl)
      obtain rfl : t4 = [] := List.length_eq_zero_iff.mp (by simpa using hcl)
      have q0 := hat 0 (by omega)
      have q1 := hat 1 (by omega)
      have q2 := hat 2 (by omega)
      have q3 := hat 3 (by omega)
      have q4 := hat 4 (by omega)
      dsimp only at e0 e1 e2 e3 e4
      simp only [c2, c3, c5, c28] at e0
      simp only [c2, c3, c5, c28] at e1
      simp only [c2, c3, c5, c28] at e2
      simp only [c2, c3, c5, c28] at e3
      simp only [c2, c3, c5, c28] at e4
      obtain rfl : v0 = .int .u8 p0 := by simpa using e0
      obtain rfl : v1 = .int .i64 p1 := by simpa using e1
      obtain rfl : v2 = .int .i64 p2 := by simpa using e2
      obtain rfl : v3 = .int .u64 p3 := by simpa using e3
      obtain rfl : v4 = .int .i64 p4 := by simpa using e4
      rw [Go.Deep.add_add] at q0 q1 q2 q3 q4
      exact ⟨⟨p0, p1, p2, p3, p4⟩, ⟨w0, w1, w2, w3, w4⟩, q0, q1, q2, q3, q4⟩
    let l0 : List St := (List.finRange len0).map fun i => (each i.val i.isLt).choose
    have hll : l0.length = len0 := by simp [l0]
    have hget : ∀ j p, l0[j]? = some p → ∃ hj : j < len0, p = (each j hj).choose := by
      intro j p hp
      have hj := (List.getElem?_eq_some_iff.1 hp).1
      rw [hll] at hj
      refine ⟨hj, ?_⟩
      have h2 : l0[j]? = some (each j hj).choose := by simp [l0, hj]
      rw [h2] at hp
      exact (Option.some.inj hp).symm
    refine ⟨l0, hll.symm, fun j p hp => ?_, ⟨fun p hp => ?_, by rw [hll]; simp only [maxLen] at hm; omega⟩, by rw [hll]; exact hl⟩
    · obtain ⟨hj, rfl⟩ := hget j p hp
      exact ⟨a, rfl, (each j hj).choose_spec.2⟩
    · obtain ⟨j, hj⟩ := List.getElem?_of_mem hp
      obtain ⟨hj', rfl⟩ := hget j p hj
      exact (each j hj').choose_spec.1
theorem short_c (A : Option Addr) (n c m : Nat) (hc : n ≤ c) (hm : n ≤ 9223372036854775807) (w : World) (h : min n 300 = m) : Calls Try.prog 7 #[.slice A n c] w fun e w' => e = .returned (.slice A m c) ∧ w = w' := by
  obtain ⟨i06, hi06, _, hsz6, _⟩ := info_parts info30
  by_cases h0 : 300 < n
  · have hcut6 := cut_to (P := Try.prog) 22 30 .i64 Try.underlying22 hi06 A n c 300 (by omega) (by omega) hc
    obtain rfl : m = 300 := by omega
    have e2 : (300 : Int) < n := by omega
    clear h
    go_enter Try.func7, Try.ntmps7
    go_wp2_with fail
    go_ret
    exact ⟨rfl, rfl⟩
  · have hcut6 := cut_to (P := Try.prog) 22 30 .i64 Try.underlying22 hi06 A n c n (by omega) (by omega) hc
    obtain rfl : n = m := by omega
    have e2 : ¬ (300 : Int) < n := by omega
    simp only [Int.toNat_natCast] at hcut6
    clear h
    go_enter Try.func7, Try.ntmps7
    go_wp2_with fail
    go_ret
    exact ⟨rfl, rfl⟩
end Go.Proofs.Ytpkilechkoiffaa.Stp
