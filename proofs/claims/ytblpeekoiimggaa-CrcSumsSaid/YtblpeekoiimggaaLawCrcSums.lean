/- CrcSums (written by hand after a printed row of this seat): for every input the law returns true, and each argument reads behind the call as it read before; no condition. -/
import Derived.Test.YtblpeekoiimggaaRows
import Derived.Test.YtblpeekoiimggaaPAx8
import Derived.Test.YtblpeekoiimggaaPureCrcSums
import Derived.WalkKit
import Derived.ProofKit
import Derived.OpenShut
import Derived.ShutString
import Derived.ChangeOld
import Derived.Below
import Derived.ChangeSlices
import Derived.ChangeArms
import Derived.SizedLaws
import Derived.Test.YtblpeekoiimggaaWSized
namespace Go.Proofs.Ytblpeekoiimggaa.crcSums
open Go.ChangeShapes Go.WideShapes Go.ChangeAt Go.RowKit
open Go.ChangeMaps (open_string shut_string)
open Go.Proofs.YtblpeekoiimggaaW
set_option linter.unusedVariables false
set_option linter.unusedSimpArgs false
theorem own : ownKnob Try.prog.godebug = none := by kernel_rfl
theorem laidOut : laidOutB Try.prog = true := by kernel_rfl
theorem partOf {H : Type} {enc : TypeId × Value → H} {W : World} {base : Nat} {spare : Nat → Bool} {held : Bool} {fuel : Nat} {cs : List Value} {x : DataW H × List MemPlace}
    (h : DataW.trod enc Try.prog W base spare held fuel 24 cs = some x) : ∃ p : List Int, Crc.Bytes p ∧ (PrintWords.Kd.slice 5 (PrintWords.Kd.int .u8)).K W p cs ∧ cs.length = 1 := by
  rcases open_ints Try.underlying24 Try.underlying5 (by kernel_rfl) h with ⟨rfl, _⟩ | ⟨a, len, cap, zs, rfl, _, hl, hm, hz, _, hcell, hwz⟩
  · exact ⟨[], fun x hx => absurd hx (by simp), ⟨none, 0, rfl, Nat.le_refl _, ⟨rfl, by decide, fun h0 => absurd h0 (by decide)⟩⟩, rfl⟩
  · have hzl : len ≤ zs.length := by rw [hz]; split <;> omega
    have hlen : (zs.take len).length = len := by rw [List.length_take]; omega
    refine ⟨zs.take len, fun y hy => Base.wf_u8 (hwz y (List.mem_of_mem_take hy)), ⟨some a, cap, by rw [hlen], by rw [hlen]; exact hl, ⟨rfl, by rw [hlen]; simp only [maxLen] at hm; omega, fun _ => ⟨a, rfl, fun j y hj => ⟨[.int .u8 y], rfl, rfl, fun i u hu => ?_⟩⟩⟩⟩, rfl⟩
    have hi : i = 0 := by
      rcases i with _ | i
      · rfl
      · simp at hu
    subst hi
    simp only [List.getElem?_cons_zero] at hu
    obtain rfl := Option.some.inj hu
    have hjl : j < zs.length := by
      have := (List.getElem?_eq_some_iff.1 hj).1
      rw [hlen] at this; omega
    have hjt : j < len := by
      have := (List.getElem?_eq_some_iff.1 hj).1
      rw [hlen] at this; exact this
    have hy : zs.getD j 0 = y := by
      rw [List.getElem?_take_of_lt hjt] at hj
      rw [List.getD_eq_getElem?_getD, hj]; rfl
    have := hcell j hjl
    rw [hy] at this
    show W.cell? (a.add (j * 1 + 0)) = _
    rw [Nat.mul_one, Nat.add_zero]
    exact this
theorem parts {H : Type} {enc : TypeId × Value → H} {W : World} {base : Nat} {spare : Nat → Bool} {held : Bool} {fuel : Nat} {a0 : Option Addr} {len0 cap0 : Nat} {x : DataW H × List MemPlace}
    (h : DataW.trod enc Try.prog W base spare held fuel 22 (Value.slice a0 len0 cap0).cells.toList = some x) :
    ∃ l0 : List (List Int), len0 = l0.length ∧ PrintWords.Kd.C (PrintWords.Kd.slice 5 (PrintWords.Kd.int .u8)) W a0 l0.length l0 ∧ (∀ p ∈ l0, Crc.Bytes p) ∧ l0.length ≤ cap0 := by
  have c24 : Try.prog.cellsOf 24 = 1 := by kernel_rfl
  rcases DataW.trod_slice Try.underlying22 h with ⟨hcs, _⟩ | ⟨a, len, cap, elems, rest, n, _, hcs, _, _, hl, hm, hlen, hel, _, _⟩
  · simp [Value.cells] at hcs
    obtain ⟨rfl, rfl, rfl⟩ := hcs
    exact ⟨[], rfl, ⟨rfl, by decide, fun h0 => absurd h0 (by decide)⟩, fun p hp => absurd hp (by simp), Nat.le_refl _⟩
  · simp [Value.cells] at hcs
    obtain ⟨rfl, rfl, rfl⟩ := hcs
    have each : ∀ i, i < len0 → ∃ p : List Int, Crc.Bytes p ∧ ∃ v, (PrintWords.Kd.slice 5 (PrintWords.Kd.int .u8)).K W p [v] ∧ W.cell? (a.add i) = some v := by
      intro i hi
      have he := hel i hi
      rw [List.getElem?_eq_getElem (show i < elems.length by omega), c24, Nat.mul_one, Option.bind_eq_some_iff] at he
      obtain ⟨cs', hcs, hy⟩ := he
      obtain ⟨p, hp, hK, h1⟩ := partOf hy
      obtain ⟨v, rfl⟩ := List.length_eq_one_iff.mp h1
      exact ⟨p, hp, v, hK, cell_of_cells?_one hcs⟩
    let l0 : List (List Int) := (List.finRange len0).map fun i => (each i.val i.isLt).choose
    have hll : l0.length = len0 := by simp [l0]
    have hget : ∀ j p, l0[j]? = some p → ∃ hj : j < len0, p = (each j hj).choose := by
      intro j p hp
      have hj := (List.getElem?_eq_some_iff.1 hp).1
      rw [hll] at hj
      refine ⟨hj, ?_⟩
      have h2 : l0[j]? = some (each j hj).choose := by simp [l0, hj]
      rw [h2] at hp
      exact (Option.some.inj hp).symm
    refine ⟨l0, hll.symm, ⟨rfl, by rw [hll]; simp only [maxLen] at hm; omega, fun _ => ⟨a, rfl, fun j p hp => ?_⟩⟩, fun p hp => ?_, by rw [hll]; exact hl⟩
    · obtain ⟨hj, rfl⟩ := hget j p hp
      obtain ⟨_, v, hK, hcell⟩ := (each j hj).choose_spec
      refine ⟨[v], rfl, hK, fun i u hu => ?_⟩
      have hi : i = 0 := by
        rcases i with _ | i
        · rfl
        · simp at hu
      subst hi
      simp only [List.getElem?_cons_zero] at hu
      obtain rfl := Option.some.inj hu
      show W.cell? (a.add (j * 1 + 0)) = _
      rw [Nat.mul_one, Nat.add_zero]
      exact hcell
    · obtain ⟨j, hj⟩ := List.getElem?_of_mem hp
      obtain ⟨hj', rfl⟩ := hget j p hj
      exact (each j hj').choose_spec.1
set_option maxRecDepth 100000 in
theorem lifted (os : Os) (started : os.Started) (H : Type) (enc : TypeId × Value → H) :
    ReturnsInHanded {} Try.checked os 3 .any (Rows.crcSumsSpec.pre6 enc Try.prog Try.f3 Rows.crcSumsRow.domain false) (Rows.crcSumsSpec.post enc Try.prog Try.f3 false true false false) := by
  refine returnsInHanded_of_change_sized (C := Try.checked) own started (by kernel_rfl) Try.func3
    (ChangeSpec.witness6 (enc := enc) (C := Try.checked) false ⟨#[], #[.slice none 0 0], []⟩ 8 (by kernel_rfl) (by kernel_rfl) (by kernel_rfl) (by kernel_rfl)) ?_
  intro W base args ds gs before hval0 hW hcnd hsz0 _
  have hsz : (DataW.weightsEach Try.prog (Try.f3.params.toList ++ Rows.crcSumsSpec.plain.varTypes Try.prog) (ds ++ gs)).all (· ≤ reachBytes) = true := hsz0
  have hval : ∀ (j : Nat) t v, Try.f3.params[j]? = some t → args[j]? = some v → Value.okWide Try.prog W .any base t v := hval0
  have hW' := hW
  obtain ⟨p, q, hA0, hV, rfl, hfz, hnd⟩ := hW
  have hA : DataW.TrodAll enc Try.prog W 0 (fun _ => true) true Try.f3.params.toList args.toList ds p := hA0
  rw [Try.params3] at hA hval hsz
  obtain ⟨v0, vs0, d0, ds0, p0, q0, hargs, rfl, rfl, h0, r0⟩ := trodAll_cons hA
  obtain ⟨rfl, rfl, rfl⟩ := trodAll_nil r0
  obtain rfl : args = #[v0] := by cases args; simp_all
  obtain ⟨rfl, rfl⟩ := trodVars_none hV
  obtain ⟨a0, len0, cap0, rfl⟩ := okWide_slice Try.underlying22 (hval 0 22 v0 rfl rfl)
  have k0 := h0
  have lt0 : ∀ x ∈ p0, x.block < W.heap.size := by obtain ⟨m, hm⟩ := k0; exact DataW.trod_lt m _ _ _ hm
  obtain ⟨l0, rfl, hC0, hb0, hc0⟩ : ∃ l0 : List (List Int), len0 = l0.length ∧ PrintWords.Kd.C (PrintWords.Kd.slice 5 (PrintWords.Kd.int .u8)) W a0 l0.length l0 ∧ (∀ p ∈ l0, Crc.Bytes p) ∧ l0.length ≤ cap0 := by
    obtain ⟨fuel, hf⟩ := h0
    exact parts hf
  clear hA0 hval0 hsz0 hsz
  obtain ⟨k, hk⟩ := Pure.CrcSums l0 hb0
  refine (PA.garboardlaw03_CrcSums.calls k a0 cap0 l0 true W hC0 hc0 hk).mono fun e W' ⟨he, bel⟩ => ?_
  subst he
  exact ⟨_, rfl, _, _, _, [], _, [], hW', trodAll_mk1 (shut_bool Try.underlying4 _), (trodAll_cons_mk (Below.trod laidOut (by kernel_rfl) (of_decide_eq_true (by kernel_rfl)) k0 bel lt0) trodAll_mk0), rfl, bel.frame _, fun h => by cases h⟩
theorem over : Rows.crcSumsRow.holds Try.pinned (OpenSpec.ofChange Rows.crcSumsSpec) :=
  OpenClaim.holds_of_wide 3 Try.f3 rfl rfl rfl rfl rfl rfl rfl ⟨rfl, rfl, rfl, rfl, rfl⟩ rfl rfl rfl rfl rfl (by kernel_rfl) Try.func3 (by kernel_rfl)
    (of_decide_eq_true (by kernel_rfl)) (by unfold Func.isWrapper; first | (rw [if_pos (by decide +kernel)]; kernel_rfl) | (rw [if_neg (by decide +kernel)]; exact ⟨rfl, rfl⟩))
    (fun os started H enc _ => lifted os started H enc)
theorem proved : Rows.CrcSumsSaid := over
#print axioms proved
end Go.Proofs.Ytblpeekoiimggaa.crcSums
namespace Go.Proofs.Ytblpeekoiimggaa
/-- The row, under a short name, for the claim. -/
theorem crcSums_holds : Rows.CrcSumsSaid := crcSums.proved
end Go.Proofs.Ytblpeekoiimggaa
