/- SatTurned: sums and products may be turned about; what is added within the bounds is taken away; no condition beyond the row's. -/
import Derived.Test.YtgnkeojclibbdaaSat
namespace Go.Proofs.Ytgnkeojclibbdaa.Pure
set_option linter.unusedVariables false
set_option linter.unusedSimpArgs false
open Go.RowKit Go.Proofs.Ytgnkeojclibbdaa.PA Go.Proofs.YtgnkeojclibbdaaW.PrintWords Go.Proofs.YtgnkeojclibbdaaW.PrintMore Go.Proofs.Ytgnkeojclibbdaa.Base Go.Proofs.Ytgnkeojclibbdaa.SatMul Go.Proofs.Ytgnkeojclibbdaa.Sat

theorem SatTurned : garboardlaw01_SatTurned.Pure := by
  intro a b ha hb
  have ha := wf_i64 ha
  have hb := wf_i64 hb
  have hs : I64 (cl (a + b)) := cl_bd _
  refine Ev.rounds ⟨1, fun k hk => ?_⟩
  obtain ⟨k, rfl⟩ : ∃ m, k = m + 1 := ⟨k - 1, by omega⟩
  simp only [garboardlaw01_SatTurned.f, Sat.add_f a b ha hb, Sat.add_f b a hb ha, SatMul.mul_f a b ha hb, SatMul.mul_f b a hb ha, alive_f, Option.bind_some, garboardlaw01_SatTurned.j0, Sat.sub_f _ b hs hb]
  rw [Int.add_comm b a, Int.mul_comm b a, if_pos rfl]
  simp only [bne_self_eq_false, Bool.false_eq_true, if_false]
  split
  · rfl
  · split
    · rfl
    · rename_i h1 h2
      have e : cl (a + b) = a + b := by
        unfold cl at h1 h2 ⊢
        revert h1 h2
        (repeat' split) <;> intro h1 h2 <;> omega
      rw [e, if_pos]
      rw [show a + b - b = a from by omega]
      exact cl_id ha.1 ha.2

end Go.Proofs.Ytgnkeojclibbdaa.Pure
