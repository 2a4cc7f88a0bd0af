/- SatProducts: the product of any two numbers is the document's; no condition beyond the row's. -/
import Derived.Test.YtgnkeojclibbdaaSat
namespace Go.Proofs.Ytgnkeojclibbdaa.Pure
set_option linter.unusedVariables false
set_option linter.unusedSimpArgs false
open Go.RowKit Go.Proofs.Ytgnkeojclibbdaa.PA Go.Proofs.YtgnkeojclibbdaaW.PrintWords Go.Proofs.YtgnkeojclibbdaaW.PrintMore Go.Proofs.Ytgnkeojclibbdaa.Base Go.Proofs.Ytgnkeojclibbdaa.SatMul Go.Proofs.Ytgnkeojclibbdaa.Sat

theorem SatProducts : garboardlaw01_SatProducts.Pure := by
  intro a b ha hb
  have ha := wf_i64 ha
  have hb := wf_i64 hb
  simp only [garboardlaw01_SatProducts.f, SatMul.mul_f a b ha hb, rmul_f a b ha hb, alive_f, Option.bind_some]
  simp

end Go.Proofs.Ytgnkeojclibbdaa.Pure
