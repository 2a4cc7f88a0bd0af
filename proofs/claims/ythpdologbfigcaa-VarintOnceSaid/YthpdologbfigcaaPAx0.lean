-- written by myprint.py, a program of this session, over the kit's print.py
import Derived.Test.YthpdologbfigcaaProg
import Derived.Below
import Derived.Deep.Draws
import Derived.Deep.AppendLies
import Derived.Maps.AppendAt
import Derived.OwnWalk
import Derived.Laws.BytesArg
import Derived.Laws.MakeOwn
import Derived.Laws.OwnMore
import Derived.Deep.OwnRows
import Derived.Tactics
import Derived.Lib.ConvBytes
import Derived.Laws.Slices
import Derived.WalkKit
import Derived.KernelRfl
import Derived.RowKit3
import Derived.Deep.LoopGhost
import Derived.Deep.QuietTactic
import Derived.BigQuiet
import Derived.WideLaws
import Derived.Deep.DeepCutAuto
import Derived.Deep.CutBlock
import Derived.Deep.RegionHeld3
import Derived.Laws.Rows
import Derived.Lib.AppendStr
import Derived.ArgAppend
import Derived.Laws.IdiomCopy
import Derived.OrdersHeld
import Derived.Laws.BitsLemmas
import Derived.RowKit
import Derived.Lib.SliceRun
import Derived.Lib.SlBytesConst
import Derived.Test.YthpdologbfigcaaShelf
import Derived.Test.YthpdologbfigcaaWWords
import Derived.Test.YthpdologbfigcaaWLast
import Derived.Test.YthpdologbfigcaaWTab
import Derived.Test.YthpdologbfigcaaWFour
import Derived.Test.YthpdologbfigcaaWQPut
import Derived.Test.YthpdologbfigcaaWApart
import Derived.Test.YthpdologbfigcaaWArr
import Derived.Test.YthpdologbfigcaaWZeros
import Derived.Test.YthpdologbfigcaaWFoot
import Derived.Test.YthpdologbfigcaaWKept
import Derived.Test.YthpdologbfigcaaWShare
import Derived.Test.YthpdologbfigcaaWN
import Derived.Test.YthpdologbfigcaaWFootNe
import Derived.Test.YthpdologbfigcaaWAt
import Derived.Test.YthpdologbfigcaaWEqStruct
import Derived.Test.YthpdologbfigcaaWRepsOne
import Derived.Test.YthpdologbfigcaaWInv
import Derived.Test.YthpdologbfigcaaWInvWords
import Derived.Test.YthpdologbfigcaaWGuard
import Derived.Test.YthpdologbfigcaaWNEv
import Derived.Test.YthpdologbfigcaaWMore
namespace Go.Proofs.Ythpdologbfigcaa.PA
open Go.RowKit Go.Proofs.YthpdologbfigcaaW.PrintWords Go.Proofs.YthpdologbfigcaaW.PrintLast Go.Proofs.YthpdologbfigcaaW.PrintMore
attribute [local go_sem] max2_int min2_int max_two min_two max_three min_three max_four min_four   -- for this text's walks alone
set_option linter.unusedVariables false
set_option linter.unusedSimpArgs false



def errW : Option Int → Value
  | none => .nilIface
  | some c => .iface 0 (.int .i64 c)
theorem errW_none : errW none = .nilIface := rfl
theorem errW_some (c : Int) : errW (some c) = .iface 0 (.int .i64 c) := rfl

theorem info5 : (Try.prog.info? 5).map (fun i => (i.zero, i.size, i.bytes)) = some (some (.int .u8 0), 1, 1) := by kernel_rfl
theorem info25 : (Try.prog.info? 25).map (fun i => (i.zero, i.size, i.bytes)) = some (some (.int .u64 0), 1, 8) := by kernel_rfl
-- the values' own types

end Go.Proofs.Ythpdologbfigcaa.PA
