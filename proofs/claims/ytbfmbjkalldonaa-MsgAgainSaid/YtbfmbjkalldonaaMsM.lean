/- msg's areTokens; no condition but those that stand in each. -/
import Derived.Test.YtbfmbjkalldonaaMsRd
import Derived.Test.YtbfmbjkalldonaaProg
import Derived.Test.YtbfmbjkalldonaaLst2
import Derived.Test.YtbfmbjkalldonaaMsV
import Derived.Test.YtbfmbjkalldonaaPAx1
import Derived.Deep.QuietTactic
import Derived.BigQuiet
import Derived.BigRegion
import Derived.RegionTactic
import Derived.Deep.RegionHeld3
import Derived.Deep.RegionLaw
import Derived.WalkSpells
import Derived.LoopTactic
import Derived.Deep.LoopGhost
import Derived.Shelf.Abstract
import Derived.OwnWalk
namespace Go.Proofs.Ytbfmbjkalldonaa.Msg
set_option linter.unusedVariables false
set_option linter.unusedSimpArgs false
open Go.RowKit Go.Proofs.Ytbfmbjkalldonaa.PA Go.Proofs.YtbfmbjkalldonaaW.PrintWords Go.Proofs.YtbfmbjkalldonaaW.PrintLast Go.Proofs.YtbfmbjkalldonaaW.PrintMore Go.Proofs.Ytbfmbjkalldonaa.Base Go.Proofs.Ytbfmbjkalldonaa.Var Go.Proofs.Ytbfmbjkalldonaa.Lst
attribute [local go_sem] max2_int min2_int max_two min_two max_three min_three max_four min_four
def badV (t : Int) : Bool := decide (t < 0) || decide (64 ≤ t)
theorem bad_c (t : Int) (w : World) : Calls Try.prog 49 #[.int .i64 t] w fun er w' => er = .returned (.bool (badV t)) ∧ w = w' := by
  unfold badV
  by_cases h : t < 0
  · have d1 : decide (t < 0) = true := decide_eq_true h
    go_enter Try.func49, Try.ntmps49
    go_wp2_with fail
    go_ret
    first | exact ⟨rfl, rfl⟩ | exact ⟨by simp [d1], rfl⟩
  · have d1 : decide (t < 0) = false := decide_eq_false h
    go_enter Try.func49, Try.ntmps49
    go_wp2_with fail
    go_ret
    first | exact ⟨rfl, rfl⟩ | exact ⟨by simp [d1], rfl⟩
def findV : List Int → Int → Int
  | [], _ => -1
  | t :: l, i => if badV t = true then i else findV l (i + 1)
theorem find_any : ∀ (l : List Int) (i : Int), 0 ≤ i → decide (0 ≤ findV l i) = l.any badV
  | [], i, _ => rfl
  | t :: l, i, h => by
    unfold findV
    by_cases hb : badV t = true
    · rw [if_pos hb, List.any_cons, hb, Bool.true_or]; exact decide_eq_true h
    · rw [if_neg hb, List.any_cons, find_any l (i + 1) (by omega)]
      have : badV t = false := by simpa using hb
      rw [this, Bool.false_or]
theorem find_bd : ∀ (l : List Int) (i : Int), 0 ≤ i → i + l.length ≤ 1000000 → -1 ≤ findV l i ∧ findV l i ≤ 1000000
  | [], i, _, _ => ⟨Int.le_refl _, (by show (-1 : Int) ≤ 1000000; decide)⟩
  | t :: l, i, h, hl => by
    unfold findV
    rw [List.length_cons] at hl
    split
    · omega
    · exact find_bd l (i + 1) (by omega) (by omega)
set_option maxHeartbeats 8000000 in
theorem idx_c (A : Option Addr) (c : Nat) (l : List Int) (hl : l.length ≤ 100000) (hc : l.length ≤ c) (w : World) (hb : Kd.C (Kd.int .i64) w A l.length l) : Calls Try.prog 62 #[.slice A l.length c, (.func (.func 49) #[] #[])] w fun er w' => er = .returned (.int .i64 (findV l 0)) ∧ Below w.heap.size w w' := by
  have HB := Aside0.mk hb; have HL := Aside0.mk hl; have HC := Aside0.mk hc
  obtain ⟨r0, hr0⟩ : ∃ r, findV l 0 = r := ⟨_, rfl⟩
  have HR0 := Aside0.mk hr0
  rw [hr0]
  clear hb hc hr0
  go_enter Try.func62, Try.ntmps62
  go_wp2_with fail
  go_loopw [8] (fun vi wr => ∃ (i : Nat), vi = .int .i64 i ∧ Aside0 (i ≤ l.length) ∧ Aside0 (findV (l.drop i) i = r0) ∧ Aside0 (Below w.heap.size w wr)) (fun vi _ => (l.length - intOf vi).toNat)
  case atStart => exact ⟨0, rfl, ⟨Nat.zero_le _⟩, ⟨by rw [List.drop_zero]; exact HR0.out⟩, ⟨Below.refl _ _⟩⟩
  case round =>
    obtain ⟨i, rfl, HI, HF, HW⟩ := hrel
    have l1 := HI.out
    by_cases hlt : i < l.length
    · have d3 : decide ((i : Int) < (l.length : Int)) = true := decide_eq_true (by omega)
      have d3' : decide (i < l.length) = true := decide_eq_true hlt
      have r := Kd.reads_of_C (enc := Value.int .i64) (d := (0 : Int)) (h1 := fun _ => rfl) (Kd.C_below HB.out HW.out)
      obtain ⟨ad, rfl, hcl⟩ := r.2.2 (by omega)
      have kc : wr.cell? (ad.add i) = some (.int .i64 (l.getD i 0)) := hcl i hlt
      have hfo := HF.out
      have hdr : l.drop i = l.getD i 0 :: l.drop (i + 1) := by
        rw [List.drop_eq_getElem_cons hlt, List.getD_eq_getElem?_getD, List.getElem?_eq_getElem hlt]; rfl
      rw [hdr] at hfo
      obtain ⟨t, ht⟩ : ∃ t, l.getD i 0 = t := ⟨_, rfl⟩
      rw [ht] at hfo kc
      unfold findV at hfo
      clear r hcl hdr ht
      by_cases hbd : badV t = true
      · rw [if_pos hbd] at hfo
        have HFO := Aside0.mk hfo
        clear hfo
        go_wp2_with (first | (go_at_call 49; (with_reducible refine (bad_c _ _).mono ?_); rintro er w9 ⟨rfl, rfl⟩))
        go_ret
        have e0 := HFO.out
        subst e0
        exact ⟨rfl, HW.out⟩
      · rw [if_neg hbd] at hfo
        have HFO := Aside0.mk hfo
        have hbf : badV t = false := by simpa using hbd
        clear hfo hbd
        go_wp2_with (first | (go_at_call 49; (with_reducible refine (bad_c _ _).mono ?_); rintro er w9 ⟨rfl, rfl⟩) | go_in)
        go_roundw
        case rel => exact ⟨i + 1, by go_num, ⟨by omega⟩, ⟨HFO.out⟩, HW⟩
        case measure => simp [intOf]; omega
    · obtain rfl : i = l.length := by omega
      have hfo := HF.out
      rw [List.drop_length] at hfo
      have HFO := Aside0.mk hfo
      clear hfo
      go_wp2_with fail
      go_ret
      have e0 := HFO.out
      subst e0
      exact ⟨rfl, HW.out⟩
theorem cf_c (A : Option Addr) (c : Nat) (l : List Int) (hl : l.length ≤ 100000) (hc : l.length ≤ c) (w : World) (hb : Kd.C (Kd.int .i64) w A l.length l) : Calls Try.prog 50 #[.slice A l.length c, (.func (.func 49) #[] #[])] w fun er w' => er = .returned (.bool (l.any badV)) ∧ Below w.heap.size w w' := by
  have HX := Aside0.mk (idx_c A c l hl hc)
  have HRX := Aside0.mk hb
  have HL := Aside0.mk hl
  clear hb
  go_enter Try.func50, Try.ntmps50
  go_wp2_with (first | (go_at_call 62; (with_reducible refine (HX.out _ HRX.out).mono ?_); rintro er w9 ⟨rfl, hb⟩; have HB := Aside0.mk hb; clear hb))
  go_ret
  exact ⟨congrArg (fun b => Ending.returned (.bool b)) (find_any l 0 (by decide)), HB.out⟩
def tokV (l : List Int) : Bool := decide (l.length ≤ 256) && !l.any badV
theorem tokens_c (A : Option Addr) (c : Nat) (l : List Int) (hl : l.length ≤ 1000000) (hc : l.length ≤ c) (w : World) (hb : Kd.C (Kd.int .i64) w A l.length l) : Calls Try.prog 31 #[.slice A l.length c] w fun er w' => er = .returned (.bool (tokV l)) ∧ Below w.heap.size w w' := by
  unfold tokV
  by_cases h : l.length ≤ 256
  · have HX := Aside0.mk (cf_c A c l (by omega) hc w hb)
    have d1 : decide (l.length ≤ 256) = true := decide_eq_true h
    have d2 : decide ((l.length : Int) ≤ 256) = true := decide_eq_true (by omega)
    clear h hb hc hl
    go_enter Try.func31, Try.ntmps31
    go_wp2_with (first | (go_at_call 50; (with_reducible refine (HX.out).mono ?_); rintro er w9 ⟨rfl, hb⟩; have HB := Aside0.mk hb; clear hb))
    go_ret
    exact ⟨by first | rfl | simp [d1], HB.out⟩
  · have d1 : decide (l.length ≤ 256) = false := decide_eq_false h
    have d2 : decide ((l.length : Int) ≤ 256) = false := decide_eq_false (by omega)
    clear h hb hc hl
    go_enter Try.func31, Try.ntmps31
    go_wp2_with (first | (go_at_call 50; (with_reducible refine (HX.out).mono ?_); rintro er w9 ⟨rfl, hb⟩; have HB := Aside0.mk hb; clear hb))
    go_ret
    exact ⟨by first | rfl | simp [d1], Below.refl _ _⟩
end Go.Proofs.Ytbfmbjkalldonaa.Msg
