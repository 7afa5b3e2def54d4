-- The machine side of a law: written by a program of this session (wip/tools), a turned print.
import Derived.Test.YtagbjmhipgbglaaProg
import Derived.Below
import Derived.Deep.Draws
import Derived.Deep.AppendLies
import Derived.Maps.AppendAt
import Derived.OwnWalk
import Derived.Laws.BytesArg
import Derived.Laws.MakeOwn
import Derived.Laws.OwnMore
import Derived.Deep.OwnRows
import Derived.Tactics
import Derived.Lib.ConvBytes
import Derived.Laws.Slices
import Derived.WalkKit
import Derived.KernelRfl
import Derived.RowKit3
import Derived.Deep.LoopGhost
import Derived.Deep.QuietTactic
import Derived.BigQuiet
import Derived.WideLaws
import Derived.Deep.DeepCutAuto
import Derived.Deep.CutBlock
import Derived.Deep.RegionHeld3
import Derived.Laws.Rows
import Derived.Lib.AppendStr
import Derived.ArgAppend
import Derived.Laws.IdiomCopy
import Derived.OrdersHeld
import Derived.Laws.BitsLemmas
import Derived.RowKit
import Derived.Test.YtagbjmhipgbglaaWWords
import Derived.Test.YtagbjmhipgbglaaWLast
import Derived.Test.YtagbjmhipgbglaaWTab
import Derived.Test.YtagbjmhipgbglaaWFour
import Derived.Test.YtagbjmhipgbglaaWQPut
import Derived.Test.YtagbjmhipgbglaaWApart
import Derived.Test.YtagbjmhipgbglaaWArr
import Derived.Test.YtagbjmhipgbglaaWZeros
import Derived.Test.YtagbjmhipgbglaaWFoot
import Derived.Test.YtagbjmhipgbglaaWKept
import Derived.Test.YtagbjmhipgbglaaWShare
import Derived.Test.YtagbjmhipgbglaaWN
import Derived.Test.YtagbjmhipgbglaaWFootNe
import Derived.Test.YtagbjmhipgbglaaWAt
import Derived.Test.YtagbjmhipgbglaaWEqStruct
import Derived.Test.YtagbjmhipgbglaaWRepsOne
import Derived.Test.YtagbjmhipgbglaaWInv
import Derived.Test.YtagbjmhipgbglaaWInvWords
import Derived.Test.YtagbjmhipgbglaaWGuard
import Derived.Test.YtagbjmhipgbglaaWNEv
import Derived.Test.YtagbjmhipgbglaaWMore
import Derived.Test.YtagbjmhipgbglaaOwn
namespace Go.Proofs.Ytagbjmhipgbglaa.PFnNumbers
open Go.RowKit Go.Proofs.YtagbjmhipgbglaaW.PrintWords Go.Proofs.YtagbjmhipgbglaaW.PrintLast Go.Proofs.YtagbjmhipgbglaaW.PrintMore
attribute [local go_sem] max2_int min2_int max_two min_two max_three min_three max_four min_four   -- for this text's walks alone
set_option linter.unusedVariables false
set_option linter.unusedSimpArgs false



def errW : Option Int → Value
 | none => .nilIface
 | some c => .iface 0 (.int .i64 c)
theorem errW_none : errW none = .nilIface := rfl
theorem errW_some (c : Int) : errW (some c) = .iface 0 (.int .i64 c) := rfl

theorem info3 : (Try.prog.info? 3).map (fun i => (i.zero, i.size, i.bytes)) = some (some (.int .i64 0), 1, 8) := by kernel_rfl
theorem info5 : (Try.prog.info? 5).map (fun i => (i.zero, i.size, i.bytes)) = some (some (.int .u8 0), 1, 1) := by kernel_rfl
-- the values' own types

end Go.Proofs.Ytagbjmhipgbglaa.PFnNumbers
