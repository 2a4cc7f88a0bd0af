-- written by myprint.py, a program of this session, over the kit's print.py
import Derived.Test.YtmhhklmfnhgbbaaProg
import Derived.Below
import Derived.Deep.Draws
import Derived.Deep.AppendLies
import Derived.Maps.AppendAt
import Derived.OwnWalk
import Derived.Laws.BytesArg
import Derived.Laws.MakeOwn
import Derived.Laws.OwnMore
import Derived.Deep.OwnRows
import Derived.Tactics
import Derived.Lib.ConvBytes
import Derived.Laws.Slices
import Derived.WalkKit
import Derived.KernelRfl
import Derived.RowKit3
import Derived.Deep.LoopGhost
import Derived.Deep.QuietTactic
import Derived.BigQuiet
import Derived.WideLaws
import Derived.Deep.DeepCutAuto
import Derived.Deep.CutBlock
import Derived.Deep.RegionHeld3
import Derived.Laws.Rows
import Derived.Lib.AppendStr
import Derived.ArgAppend
import Derived.Laws.IdiomCopy
import Derived.OrdersHeld
import Derived.Laws.BitsLemmas
import Derived.RowKit
import Derived.Lib.SliceRun
import Derived.Lib.SlBytesConst
import Derived.Test.YtmhhklmfnhgbbaaShelf
import Derived.Test.YtmhhklmfnhgbbaaWWords
import Derived.Test.YtmhhklmfnhgbbaaWLast
import Derived.Test.YtmhhklmfnhgbbaaWTab
import Derived.Test.YtmhhklmfnhgbbaaWFour
import Derived.Test.YtmhhklmfnhgbbaaWQPut
import Derived.Test.YtmhhklmfnhgbbaaWApart
import Derived.Test.YtmhhklmfnhgbbaaWArr
import Derived.Test.YtmhhklmfnhgbbaaWZeros
import Derived.Test.YtmhhklmfnhgbbaaWFoot
import Derived.Test.YtmhhklmfnhgbbaaWKept
import Derived.Test.YtmhhklmfnhgbbaaWShare
import Derived.Test.YtmhhklmfnhgbbaaWN
import Derived.Test.YtmhhklmfnhgbbaaWFootNe
import Derived.Test.YtmhhklmfnhgbbaaWAt
import Derived.Test.YtmhhklmfnhgbbaaWEqStruct
import Derived.Test.YtmhhklmfnhgbbaaWRepsOne
import Derived.Test.YtmhhklmfnhgbbaaWInv
import Derived.Test.YtmhhklmfnhgbbaaWInvWords
import Derived.Test.YtmhhklmfnhgbbaaWGuard
import Derived.Test.YtmhhklmfnhgbbaaWNEv
import Derived.Test.YtmhhklmfnhgbbaaWMore
namespace Go.Proofs.Ytmhhklmfnhgbbaa.PA
open Go.RowKit Go.Proofs.YtmhhklmfnhgbbaaW.PrintWords Go.Proofs.YtmhhklmfnhgbbaaW.PrintLast Go.Proofs.YtmhhklmfnhgbbaaW.PrintMore
attribute [local go_sem] max2_int min2_int max_two min_two max_three min_three max_four min_four   -- for this text's walks alone
set_option linter.unusedVariables false
set_option linter.unusedSimpArgs false



def errW : Option Int → Value
  | none => .nilIface
  | some c => .iface 0 (.int .i64 c)
theorem errW_none : errW none = .nilIface := rfl
theorem errW_some (c : Int) : errW (some c) = .iface 0 (.int .i64 c) := rfl

-- the values' own types

end Go.Proofs.Ytmhhklmfnhgbbaa.PA
