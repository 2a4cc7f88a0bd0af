/- SatWithin: any number within any two, and the sum of some, is the document's; no condition beyond the row's. -/
import Derived.Test.YtgnkeojclibbdaaSat
namespace Go.Proofs.Ytgnkeojclibbdaa.Pure
set_option linter.unusedVariables false
set_option linter.unusedSimpArgs false
open Go.RowKit Go.Proofs.Ytgnkeojclibbdaa.PA Go.Proofs.YtgnkeojclibbdaaW.PrintWords Go.Proofs.YtgnkeojclibbdaaW.PrintMore Go.Proofs.Ytgnkeojclibbdaa.Base Go.Proofs.Ytgnkeojclibbdaa.SatMul Go.Proofs.Ytgnkeojclibbdaa.Sat

theorem SatWithin : garboardlaw01_SatWithin.Pure := by
  intro n l m hn hl hm
  have hn := wf_i64 hn
  have hl := wf_i64 hl
  have hm := wf_i64 hm
  refine Ev.rounds ?_
  have hw : ∀ x ∈ [n, l, m, n], I64 x := by
    intro x hx
    simp only [List.mem_cons, List.not_mem_nil, or_false] at hx
    rcases hx with rfl | rfl | rfl | rfl
    · exact hn
    · exact hl
    · exact hm
    · exact hn
  obtain ⟨r, hr⟩ : ∃ r, garboardref01_Within.f n l m = some r := by
    unfold garboardref01_Within.f
    (repeat' split) <;> exact ⟨_, rfl⟩
  simp only [garboardlaw01_SatWithin.f, Sat.within_f, hr, alive_f, Option.bind_some]
  refine ev_ifT (by trivial) (Ev.bind (sum_loop [n, l, m, n] (by simp) hw _ 0 0 rfl (by simp) (by unfold I64; omega)) (Ev.bind (rsum_loop [n, l, m, n] (by simp) hw _ 0 0 rfl (by simp) (by unfold I64; omega)) (ev_ifT (by trivial) (Ev.bind (sum_loop [] (by simp) (fun x hx => by cases hx) _ 0 0 rfl (by simp) (by unfold I64; omega)) (ev_ifT (by trivial) (Ev.now true))))))

end Go.Proofs.Ytgnkeojclibbdaa.Pure
