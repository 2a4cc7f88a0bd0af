/- alive, by hand; the methods' contracts by equations; no condition but those that stand in each. -/
import Derived.Test.YtkpablemeaaeoaaBrkFail
namespace Go.Proofs.Ytkpablemeaaeoaa.Brk
set_option linter.unusedVariables false
set_option linter.unusedSimpArgs false
open Go.RowKit Go.Proofs.Ytkpablemeaaeoaa.PA Go.Proofs.YtkpablemeaaeoaaW.PrintWords Go.Proofs.YtkpablemeaaeoaaW.PrintLast Go.Proofs.YtkpablemeaaeoaaW.PrintMore Go.Proofs.Ytkpablemeaaeoaa.Base
attribute [local go_sem] max2_int min2_int max_two min_two max_three min_three max_four min_four
theorem state_e (g : Nat) (s s' : B) (a v : Int) (hf : 0 < s.f) (h : laterV s a = s') (hv : s'.st = v) (w0 w : World) (hI : IsB w0 w g s) (hB : Below w0.heap.size w0 w) :
    Calls Try.prog 11 #[.pointer (some ⟨g, 0, none⟩), .int .i64 a] w fun e w' => e = .returned (.int .i64 v) ∧ IsB w0 w' g s' ∧ Below w0.heap.size w0 w' ∧ KeepBut w w' g none := by
  have := state_c g s a hf w0 w hI hB; rw [h, hv] at this; exact this
theorem allow_e (g : Nat) (s s' : B) (a : Int) (b : Bool) (hf : 0 < s.f) (h : allowV s a = (b, s')) (w0 w : World) (hI : IsB w0 w g s) (hB : Below w0.heap.size w0 w) :
    Calls Try.prog 12 #[.pointer (some ⟨g, 0, none⟩), .int .i64 a] w fun e w' => e = .returned (.bool b) ∧ IsB w0 w' g s' ∧ Below w0.heap.size w0 w' ∧ KeepBut w w' g none := by
  have := allow_c g s a hf w0 w hI hB; rw [h] at this; exact this
theorem okm_e (g : Nat) (s s' : B) (a : Int) (hf : 0 < s.f) (h : okV s a = s') (w0 w : World) (hI : IsB w0 w g s) (hB : Below w0.heap.size w0 w) :
    Calls Try.prog 13 #[.pointer (some ⟨g, 0, none⟩), .int .i64 a] w fun e w' => e = .returned (.tuple #[]) ∧ IsB w0 w' g s' ∧ Below w0.heap.size w0 w' ∧ KeepBut w w' g none := by
  have := okm_c g s a hf w0 w hI hB; rw [h] at this; exact this
theorem leave_e (g : Nat) (s s' : B) (a : Int) (hf : 0 < s.f) (h : leaveV s a = s') (w0 w : World) (hI : IsB w0 w g s) (hB : Below w0.heap.size w0 w) :
    Calls Try.prog 15 #[.pointer (some ⟨g, 0, none⟩), .int .i64 a] w fun e w' => e = .returned (.tuple #[]) ∧ IsB w0 w' g s' ∧ Below w0.heap.size w0 w' ∧ KeepBut w w' g none := by
  have := leave_c g s a hf w0 w hI hB; rw [h] at this; exact this
theorem fail_e (g : Nat) (s s' : B) (a : Int) (hf : 0 < s.f) (hc0 : 0 ≤ s.cl) (hc1 : s.cl ≤ 4294967296) (ht0 : 0 ≤ s.nw) (ht1 : s.nw ≤ 1099511627776) (h : failV s a = s') (w0 w : World) (hI : IsB w0 w g s) (hB : Below w0.heap.size w0 w) :
    Calls Try.prog 14 #[.pointer (some ⟨g, 0, none⟩), .int .i64 a] w fun e w' => e = .returned (.tuple #[]) ∧ IsB w0 w' g s' ∧ Below w0.heap.size w0 w' ∧ KeepBut w w' g none := by
  have := fail_c g s a hf hc0 hc1 ht0 ht1 w0 w hI hB; rw [h] at this; exact this
theorem reset_e (g : Nat) (s s' : B) (hf : 0 < s.f) (h : closeV s = s') (w0 w : World) (hI : IsB w0 w g s) (hB : Below w0.heap.size w0 w) :
    Calls Try.prog 24 #[.pointer (some ⟨g, 0, none⟩)] w fun e w' => e = .returned (.tuple #[]) ∧ IsB w0 w' g s' ∧ Below w0.heap.size w0 w' ∧ KeepBut w w' g none := by
  have := reset_c g s hf w0 w hI hB; rw [h] at this; exact this
def a0 : B := ⟨1, 10, 20, 1, 0, 0, 1, 0, 0, 10, 0, false, 0⟩
def a2 : B := ⟨1, 10, 20, 1, 1, 1, 1, 0, 0, 20, 10, false, 0⟩
def a3 : B := ⟨1, 10, 20, 1, 1, 1, 1, 0, 0, 20, 10, false, 9⟩
def a4 : B := ⟨1, 10, 20, 1, 2, 1, 1, 0, 1, 20, 10, false, 10⟩
def a5 : B := ⟨1, 10, 20, 1, 0, 0, 1, 1, 1, 10, 10, false, 11⟩
theorem s1 : allowV a0 0 = (true, a0) := by rfl
theorem s2 : failV a0 0 = a2 := by rfl
theorem s3 : laterV a2 9 = a3 := by rfl
theorem s4 : laterV a3 10 = a4 := by rfl
theorem s5 : okV a4 11 = a5 := by rfl
theorem s6 : laterV a5 11 = a5 := by rfl
theorem new0 (w : World) : Calls Try.prog 7 #[.agg #[.int .i64 1, .int .i64 10, .int .i64 20, .int .i64 1]] w fun e w' => ∃ g, e = .returned (.tuple #[.pointer (some ⟨g, 0, none⟩), .int .i64 0]) ∧ IsB w w' g a0 ∧ Below w.heap.size w w' :=
  New.ok 1 10 20 1 (by decide) (by decide) (by decide) (by decide) (by decide) (by decide) (by decide) w
set_option maxHeartbeats 4000000 in
set_option maxRecDepth 100000 in
theorem alive_c (w : World) : Calls Try.prog 9 #[] w fun e w' => e = .returned (.bool true) ∧ Below w.heap.size w w' := by
  go_enter Try.func9, Try.ntmps9
  go_wp2_with (first | (go_at_call 7; (with_reducible refine (new0 _).mono ?_); rintro e w1 ⟨g, rfl, hi, hb⟩; have HI := Aside0.mk hi; have HB := Aside0.mk hb; clear hi hb) | (go_at_call 12; (with_reducible refine (allow_e g a0 a0 0 true (by decide) s1 w _ HI.out HB.out).mono ?_); rintro e w9 ⟨rfl, hi, hb, hk⟩; have n0_ := Aside0.mk hi; have n1_ := Aside0.mk hb; clear HI HB hi hb hk; have HI := n0_; have HB := n1_; clear n0_ n1_) | (go_at_call 14; (with_reducible refine (fail_e g a0 a2 0 (by decide) (by decide) (by decide) (by decide) (by decide) s2 w _ HI.out HB.out).mono ?_); rintro e w9 ⟨rfl, hi, hb, hk⟩; have n0_ := Aside0.mk hi; have n1_ := Aside0.mk hb; clear HI HB hi hb hk; have HI := n0_; have HB := n1_; clear n0_ n1_) | (go_at_call 11; (with_reducible refine (state_e g a2 a3 9 1 (by decide) s3 rfl w _ HI.out HB.out).mono ?_); rintro e w9 ⟨rfl, hi, hb, hk⟩; have n0_ := Aside0.mk hi; have n1_ := Aside0.mk hb; clear HI HB hi hb hk; have HI := n0_; have HB := n1_; clear n0_ n1_) | (go_at_call 11; (with_reducible refine (state_e g a3 a4 10 2 (by decide) s4 rfl w _ HI.out HB.out).mono ?_); rintro e w9 ⟨rfl, hi, hb, hk⟩; have n0_ := Aside0.mk hi; have n1_ := Aside0.mk hb; clear HI HB hi hb hk; have HI := n0_; have HB := n1_; clear n0_ n1_) | (go_at_call 13; (with_reducible refine (okm_e g a4 a5 11 (by decide) s5 w _ HI.out HB.out).mono ?_); rintro e w9 ⟨rfl, hi, hb, hk⟩; have n0_ := Aside0.mk hi; have n1_ := Aside0.mk hb; clear HI HB hi hb hk; have HI := n0_; have HB := n1_; clear n0_ n1_) | (go_at_call 11; (with_reducible refine (state_e g a5 a5 11 0 (by decide) s6 rfl w _ HI.out HB.out).mono ?_); rintro e w9 ⟨rfl, hi, hb, hk⟩; have n0_ := Aside0.mk hi; have n1_ := Aside0.mk hb; clear HI HB hi hb hk; have HI := n0_; have HB := n1_; clear n0_ n1_))
  go_ret
  exact ⟨rfl, HB.out⟩
end Go.Proofs.Ytkpablemeaaeoaa.Brk
