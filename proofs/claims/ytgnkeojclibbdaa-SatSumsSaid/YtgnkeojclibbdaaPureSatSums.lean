/- SatSums: the sum and the difference of any two numbers are the document's; no condition beyond the row's. -/
import Derived.Test.YtgnkeojclibbdaaSat
namespace Go.Proofs.Ytgnkeojclibbdaa.Pure
set_option linter.unusedVariables false
set_option linter.unusedSimpArgs false
open Go.RowKit Go.Proofs.Ytgnkeojclibbdaa.PA Go.Proofs.YtgnkeojclibbdaaW.PrintWords Go.Proofs.YtgnkeojclibbdaaW.PrintMore Go.Proofs.Ytgnkeojclibbdaa.Base Go.Proofs.Ytgnkeojclibbdaa.SatMul Go.Proofs.Ytgnkeojclibbdaa.Sat

theorem SatSums : garboardlaw01_SatSums.Pure := by
  intro a b ha hb
  have ha := wf_i64 ha
  have hb := wf_i64 hb
  refine Ev.rounds ?_
  simp only [garboardlaw01_SatSums.f, Sat.add_f a b ha hb, Sat.sub_f a b ha hb, alive_f, Option.bind_some]
  exact Ev.bind (radd_ev a b ha hb) (ev_ifT (by trivial) (Ev.bind (rsub_ev a b ha hb) (ev_ifT (by trivial) (Ev.now true))))

end Go.Proofs.Ytgnkeojclibbdaa.Pure
