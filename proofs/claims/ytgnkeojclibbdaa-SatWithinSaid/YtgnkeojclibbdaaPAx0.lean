-- written by myprint.py, a program of this session, over the kit's print.py
import Derived.Test.YtgnkeojclibbdaaProg
import Derived.Below
import Derived.Deep.Draws
import Derived.Deep.AppendLies
import Derived.Maps.AppendAt
import Derived.OwnWalk
import Derived.Laws.BytesArg
import Derived.Laws.MakeOwn
import Derived.Laws.OwnMore
import Derived.Deep.OwnRows
import Derived.Tactics
import Derived.Lib.ConvBytes
import Derived.Laws.Slices
import Derived.WalkKit
import Derived.KernelRfl
import Derived.RowKit3
import Derived.Deep.LoopGhost
import Derived.Deep.QuietTactic
import Derived.BigQuiet
import Derived.WideLaws
import Derived.Deep.DeepCutAuto
import Derived.Deep.CutBlock
import Derived.Deep.RegionHeld3
import Derived.Laws.Rows
import Derived.Lib.AppendStr
import Derived.ArgAppend
import Derived.Laws.IdiomCopy
import Derived.OrdersHeld
import Derived.Laws.BitsLemmas
import Derived.RowKit
import Derived.Lib.SliceRun
import Derived.Test.YtgnkeojclibbdaaWWords
import Derived.Test.YtgnkeojclibbdaaWLast
import Derived.Test.YtgnkeojclibbdaaWTab
import Derived.Test.YtgnkeojclibbdaaWFour
import Derived.Test.YtgnkeojclibbdaaWQPut
import Derived.Test.YtgnkeojclibbdaaWApart
import Derived.Test.YtgnkeojclibbdaaWArr
import Derived.Test.YtgnkeojclibbdaaWZeros
import Derived.Test.YtgnkeojclibbdaaWFoot
import Derived.Test.YtgnkeojclibbdaaWKept
import Derived.Test.YtgnkeojclibbdaaWShare
import Derived.Test.YtgnkeojclibbdaaWN
import Derived.Test.YtgnkeojclibbdaaWFootNe
import Derived.Test.YtgnkeojclibbdaaWAt
import Derived.Test.YtgnkeojclibbdaaWEqStruct
import Derived.Test.YtgnkeojclibbdaaWRepsOne
import Derived.Test.YtgnkeojclibbdaaWInv
import Derived.Test.YtgnkeojclibbdaaWInvWords
import Derived.Test.YtgnkeojclibbdaaWGuard
import Derived.Test.YtgnkeojclibbdaaWNEv
import Derived.Test.YtgnkeojclibbdaaWMore
namespace Go.Proofs.Ytgnkeojclibbdaa.PA
open Go.RowKit Go.Proofs.YtgnkeojclibbdaaW.PrintWords Go.Proofs.YtgnkeojclibbdaaW.PrintLast Go.Proofs.YtgnkeojclibbdaaW.PrintMore
attribute [local go_sem] max2_int min2_int max_two min_two max_three min_three max_four min_four   -- for this text's walks alone
set_option linter.unusedVariables false
set_option linter.unusedSimpArgs false



def errW : Option Int → Value
  | none => .nilIface
  | some c => .iface 0 (.int .i64 c)
theorem errW_none : errW none = .nilIface := rfl
theorem errW_some (c : Int) : errW (some c) = .iface 0 (.int .i64 c) := rfl

theorem info2 : (Try.prog.info? 2).map (fun i => (i.zero, i.size, i.bytes)) = some (some (.int .i64 0), 1, 8) := by kernel_rfl
-- the values' own types

end Go.Proofs.Ytgnkeojclibbdaa.PA
