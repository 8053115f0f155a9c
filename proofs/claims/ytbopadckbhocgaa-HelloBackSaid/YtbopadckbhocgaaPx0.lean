-- Written by wip/inj.py (the kit's print, with contracts typed by hand beside it).
import Derived.Test.YtbopadckbhocgaaProg
import Derived.Below
import Derived.Deep.Draws
import Derived.Deep.AppendLies
import Derived.Maps.AppendAt
import Derived.OwnWalk
import Derived.Laws.BytesArg
import Derived.Laws.MakeOwn
import Derived.Laws.OwnMore
import Derived.Deep.OwnRows
import Derived.Tactics
import Derived.Lib.ConvBytes
import Derived.Laws.Slices
import Derived.WalkKit
import Derived.KernelRfl
import Derived.RowKit3
import Derived.Deep.LoopGhost
import Derived.Deep.QuietTactic
import Derived.BigQuiet
import Derived.WideLaws
import Derived.Deep.DeepCutAuto
import Derived.Deep.CutBlock
import Derived.Deep.RegionHeld3
import Derived.Laws.Rows
import Derived.Lib.AppendStr
import Derived.ArgAppend
import Derived.Laws.IdiomCopy
import Derived.OrdersHeld
import Derived.Laws.BitsLemmas
import Derived.RowKit
import Derived.Lib.Strings
import Derived.Lib.Walk
import Derived.Lib.BufferWrite
import Derived.Lib.UnsafeStr
import Derived.Lib.Hide
import Derived.IntWalk
import Derived.WalkSpells
import Derived.Outline
import Derived.Test.YtbopadckbhocgaaWWords
import Derived.Test.YtbopadckbhocgaaWLast
import Derived.Test.YtbopadckbhocgaaWTab
import Derived.Test.YtbopadckbhocgaaWFour
import Derived.Test.YtbopadckbhocgaaWQPut
import Derived.Test.YtbopadckbhocgaaWApart
import Derived.Test.YtbopadckbhocgaaWArr
import Derived.Test.YtbopadckbhocgaaWZeros
import Derived.Test.YtbopadckbhocgaaWFoot
import Derived.Test.YtbopadckbhocgaaWKept
import Derived.Test.YtbopadckbhocgaaWShare
import Derived.Test.YtbopadckbhocgaaWN
import Derived.Test.YtbopadckbhocgaaWFootNe
import Derived.Test.YtbopadckbhocgaaWAt
import Derived.Test.YtbopadckbhocgaaWEqStruct
import Derived.Test.YtbopadckbhocgaaWRepsOne
import Derived.Test.YtbopadckbhocgaaWInv
import Derived.Test.YtbopadckbhocgaaWInvWords
import Derived.Test.YtbopadckbhocgaaWGuard
import Derived.Test.YtbopadckbhocgaaWNEv
import Derived.Test.YtbopadckbhocgaaWMore
namespace Go.Proofs.Ytbopadckbhocgaa.P
open Go.RowKit Go.Proofs.YtbopadckbhocgaaW.PrintWords Go.Proofs.YtbopadckbhocgaaW.PrintLast Go.Proofs.YtbopadckbhocgaaW.PrintMore
attribute [local go_sem] max2_int min2_int max_two min_two max_three min_three max_four min_four   -- for this text's walks alone
set_option linter.unusedVariables false
set_option linter.unusedSimpArgs false



def errW : Option Int → Value
  | none => .nilIface
  | some c => .iface 0 (.int .i64 c)
theorem errW_none : errW none = .nilIface := rfl
theorem errW_some (c : Int) : errW (some c) = .iface 0 (.int .i64 c) := rfl

theorem info4 : (Try.prog.info? 4).map (fun i => (i.zero, i.size, i.bytes)) = some (some (.bool false), 1, 1) := by kernel_rfl
theorem info5 : (Try.prog.info? 5).map (fun i => (i.zero, i.size, i.bytes)) = some (some (.int .u8 0), 1, 1) := by kernel_rfl
-- the values' own types

end Go.Proofs.Ytbopadckbhocgaa.P
