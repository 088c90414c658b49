-- Written by wip/tools/print_more.py (forms of the print, over contracts of this session).
import Derived.Lib.SliceRun
import Derived.RegionTactic
import Derived.Test.YtnflmekjeehgaaaProg
import Derived.Below
import Derived.Deep.Draws
import Derived.Deep.AppendLies
import Derived.Maps.AppendAt
import Derived.OwnWalk
import Derived.Laws.BytesArg
import Derived.Laws.MakeOwn
import Derived.Laws.OwnMore
import Derived.Deep.OwnRows
import Derived.Tactics
import Derived.Lib.ConvBytes
import Derived.Laws.Slices
import Derived.WalkKit
import Derived.KernelRfl
import Derived.RowKit3
import Derived.Deep.LoopGhost
import Derived.Deep.QuietTactic
import Derived.BigQuiet
import Derived.WideLaws
import Derived.Deep.DeepCutAuto
import Derived.Deep.CutBlock
import Derived.Deep.RegionHeld3
import Derived.Laws.Rows
import Derived.Lib.AppendStr
import Derived.ArgAppend
import Derived.Laws.IdiomCopy
import Derived.OrdersHeld
import Derived.Laws.BitsLemmas
import Derived.RowKit
import Derived.Test.YtnflmekjeehgaaaWWords
import Derived.Test.YtnflmekjeehgaaaWLast
import Derived.Test.YtnflmekjeehgaaaWTab
import Derived.Test.YtnflmekjeehgaaaWFour
import Derived.Test.YtnflmekjeehgaaaWQPut
import Derived.Test.YtnflmekjeehgaaaWApart
import Derived.Test.YtnflmekjeehgaaaWArr
import Derived.Test.YtnflmekjeehgaaaWZeros
import Derived.Test.YtnflmekjeehgaaaWFoot
import Derived.Test.YtnflmekjeehgaaaWKept
import Derived.Test.YtnflmekjeehgaaaWShare
import Derived.Test.YtnflmekjeehgaaaWN
import Derived.Test.YtnflmekjeehgaaaWFootNe
import Derived.Test.YtnflmekjeehgaaaWAt
import Derived.Test.YtnflmekjeehgaaaWEqStruct
import Derived.Test.YtnflmekjeehgaaaWRepsOne
import Derived.Test.YtnflmekjeehgaaaWInv
import Derived.Test.YtnflmekjeehgaaaWInvWords
import Derived.Test.YtnflmekjeehgaaaWGuard
import Derived.Test.YtnflmekjeehgaaaWNEv
import Derived.Test.YtnflmekjeehgaaaWMore
namespace Go.Proofs.Ytnflmekjeehgaaa.PFnUnpackRuns
open Go.RowKit Go.Proofs.YtnflmekjeehgaaaW.PrintWords Go.Proofs.YtnflmekjeehgaaaW.PrintLast Go.Proofs.YtnflmekjeehgaaaW.PrintMore
attribute [local go_sem] max2_int min2_int max_two min_two max_three min_three max_four min_four   -- for this text's walks alone
set_option linter.unusedVariables false
set_option linter.unusedSimpArgs false



def errW : Option Int → Value
  | none => .nilIface
  | some c => .iface 0 (.int .i64 c)
theorem errW_none : errW none = .nilIface := rfl
theorem errW_some (c : Int) : errW (some c) = .iface 0 (.int .i64 c) := rfl

theorem info3 : (Try.prog.info? 3).map (fun i => (i.zero, i.size, i.bytes)) = some (some (.int .i64 0), 1, 8) := by kernel_rfl
theorem info5 : (Try.prog.info? 5).map (fun i => (i.zero, i.size, i.bytes)) = some (some (.int .u8 0), 1, 1) := by kernel_rfl
-- the values' own types

end Go.Proofs.Ytnflmekjeehgaaa.PFnUnpackRuns
