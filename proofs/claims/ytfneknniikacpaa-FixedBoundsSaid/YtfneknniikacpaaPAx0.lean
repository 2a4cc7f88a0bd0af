-- written by myprint.py, a program of this session, over the kit's print.py
import Derived.Test.YtfneknniikacpaaProg
import Derived.Below
import Derived.Deep.Draws
import Derived.Deep.AppendLies
import Derived.Maps.AppendAt
import Derived.OwnWalk
import Derived.Laws.BytesArg
import Derived.Laws.MakeOwn
import Derived.Laws.OwnMore
import Derived.Deep.OwnRows
import Derived.Tactics
import Derived.Lib.ConvBytes
import Derived.Laws.Slices
import Derived.WalkKit
import Derived.KernelRfl
import Derived.RowKit3
import Derived.Deep.LoopGhost
import Derived.Deep.QuietTactic
import Derived.BigQuiet
import Derived.WideLaws
import Derived.Deep.DeepCutAuto
import Derived.Deep.CutBlock
import Derived.Deep.RegionHeld3
import Derived.Laws.Rows
import Derived.Lib.AppendStr
import Derived.ArgAppend
import Derived.Laws.IdiomCopy
import Derived.OrdersHeld
import Derived.Laws.BitsLemmas
import Derived.RowKit
import Derived.Lib.SliceRun
import Derived.Test.YtfneknniikacpaaWWords
import Derived.Test.YtfneknniikacpaaWLast
import Derived.Test.YtfneknniikacpaaWTab
import Derived.Test.YtfneknniikacpaaWFour
import Derived.Test.YtfneknniikacpaaWQPut
import Derived.Test.YtfneknniikacpaaWApart
import Derived.Test.YtfneknniikacpaaWArr
import Derived.Test.YtfneknniikacpaaWZeros
import Derived.Test.YtfneknniikacpaaWFoot
import Derived.Test.YtfneknniikacpaaWKept
import Derived.Test.YtfneknniikacpaaWShare
import Derived.Test.YtfneknniikacpaaWN
import Derived.Test.YtfneknniikacpaaWFootNe
import Derived.Test.YtfneknniikacpaaWAt
import Derived.Test.YtfneknniikacpaaWEqStruct
import Derived.Test.YtfneknniikacpaaWRepsOne
import Derived.Test.YtfneknniikacpaaWInv
import Derived.Test.YtfneknniikacpaaWInvWords
import Derived.Test.YtfneknniikacpaaWGuard
import Derived.Test.YtfneknniikacpaaWNEv
import Derived.Test.YtfneknniikacpaaWMore
namespace Go.Proofs.Ytfneknniikacpaa.PA
open Go.RowKit Go.Proofs.YtfneknniikacpaaW.PrintWords Go.Proofs.YtfneknniikacpaaW.PrintLast Go.Proofs.YtfneknniikacpaaW.PrintMore
attribute [local go_sem] max2_int min2_int max_two min_two max_three min_three max_four min_four   -- for this text's walks alone
set_option linter.unusedVariables false
set_option linter.unusedSimpArgs false



def errW : Option Int → Value
  | none => .nilIface
  | some c => .iface 0 (.int .i64 c)
theorem errW_none : errW none = .nilIface := rfl
theorem errW_some (c : Int) : errW (some c) = .iface 0 (.int .i64 c) := rfl

-- the values' own types

end Go.Proofs.Ytfneknniikacpaa.PA
