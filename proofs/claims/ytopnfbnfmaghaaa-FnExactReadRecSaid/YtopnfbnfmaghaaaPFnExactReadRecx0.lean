-- The machine side of a law: written by a program of this session (wip/tools), a turned print.
import Derived.Test.YtopnfbnfmaghaaaProg
import Derived.Below
import Derived.Deep.Draws
import Derived.Deep.AppendLies
import Derived.Maps.AppendAt
import Derived.OwnWalk
import Derived.Laws.BytesArg
import Derived.Laws.MakeOwn
import Derived.Laws.OwnMore
import Derived.Deep.OwnRows
import Derived.Tactics
import Derived.Lib.ConvBytes
import Derived.Laws.Slices
import Derived.WalkKit
import Derived.KernelRfl
import Derived.RowKit3
import Derived.Deep.LoopGhost
import Derived.Deep.QuietTactic
import Derived.BigQuiet
import Derived.WideLaws
import Derived.Deep.DeepCutAuto
import Derived.Deep.CutBlock
import Derived.Deep.RegionHeld3
import Derived.Laws.Rows
import Derived.Lib.AppendStr
import Derived.ArgAppend
import Derived.Laws.IdiomCopy
import Derived.OrdersHeld
import Derived.Laws.BitsLemmas
import Derived.RowKit
import Derived.Test.YtopnfbnfmaghaaaWWords
import Derived.Test.YtopnfbnfmaghaaaWLast
import Derived.Test.YtopnfbnfmaghaaaWTab
import Derived.Test.YtopnfbnfmaghaaaWFour
import Derived.Test.YtopnfbnfmaghaaaWQPut
import Derived.Test.YtopnfbnfmaghaaaWApart
import Derived.Test.YtopnfbnfmaghaaaWArr
import Derived.Test.YtopnfbnfmaghaaaWZeros
import Derived.Test.YtopnfbnfmaghaaaWFoot
import Derived.Test.YtopnfbnfmaghaaaWKept
import Derived.Test.YtopnfbnfmaghaaaWShare
import Derived.Test.YtopnfbnfmaghaaaWN
import Derived.Test.YtopnfbnfmaghaaaWFootNe
import Derived.Test.YtopnfbnfmaghaaaWAt
import Derived.Test.YtopnfbnfmaghaaaWEqStruct
import Derived.Test.YtopnfbnfmaghaaaWRepsOne
import Derived.Test.YtopnfbnfmaghaaaWInv
import Derived.Test.YtopnfbnfmaghaaaWInvWords
import Derived.Test.YtopnfbnfmaghaaaWGuard
import Derived.Test.YtopnfbnfmaghaaaWNEv
import Derived.Test.YtopnfbnfmaghaaaWMore
import Derived.Test.YtopnfbnfmaghaaaOwn
namespace Go.Proofs.Ytopnfbnfmaghaaa.PFnExactReadRec
open Go.RowKit Go.Proofs.YtopnfbnfmaghaaaW.PrintWords Go.Proofs.YtopnfbnfmaghaaaW.PrintLast Go.Proofs.YtopnfbnfmaghaaaW.PrintMore
attribute [local go_sem] max2_int min2_int max_two min_two max_three min_three max_four min_four   -- for this text's walks alone
set_option linter.unusedVariables false
set_option linter.unusedSimpArgs false



def errW : Option Int → Value
 | none => .nilIface
 | some c => .iface 0 (.int .i64 c)
theorem errW_none : errW none = .nilIface := rfl
theorem errW_some (c : Int) : errW (some c) = .iface 0 (.int .i64 c) := rfl

theorem info5 : (Try.prog.info? 5).map (fun i => (i.zero, i.size, i.bytes)) = some (some (.int .u8 0), 1, 1) := by kernel_rfl
-- the values' own types

end Go.Proofs.Ytopnfbnfmaghaaa.PFnExactReadRec
