/- What the Go functions that this law comes to compute, each walked; written by a program of this session. -/
import Derived.Test.YteafbkfglchggaaProg
import Derived.Below
import Derived.Deep.Draws
import Derived.Deep.AppendLies
import Derived.Maps.AppendAt
import Derived.OwnWalk
import Derived.Laws.BytesArg
import Derived.Laws.MakeOwn
import Derived.Laws.OwnMore
import Derived.Deep.OwnRows
import Derived.Tactics
import Derived.Lib.ConvBytes
import Derived.Laws.Slices
import Derived.WalkKit
import Derived.KernelRfl
import Derived.RowKit3
import Derived.Deep.LoopGhost
import Derived.Deep.QuietTactic
import Derived.BigQuiet
import Derived.WideLaws
import Derived.Deep.DeepCutAuto
import Derived.Deep.CutBlock
import Derived.Deep.RegionHeld3
import Derived.Laws.Rows
import Derived.Lib.AppendStr
import Derived.ArgAppend
import Derived.Laws.IdiomCopy
import Derived.OrdersHeld
import Derived.Laws.BitsLemmas
import Derived.RowKit
import Derived.Test.YteafbkfglchggaaWWords
import Derived.Test.YteafbkfglchggaaWLast
import Derived.Test.YteafbkfglchggaaWTab
import Derived.Test.YteafbkfglchggaaWFour
import Derived.Test.YteafbkfglchggaaWQPut
import Derived.Test.YteafbkfglchggaaWApart
import Derived.Test.YteafbkfglchggaaWArr
import Derived.Test.YteafbkfglchggaaWZeros
import Derived.Test.YteafbkfglchggaaWFoot
import Derived.Test.YteafbkfglchggaaWKept
import Derived.Test.YteafbkfglchggaaWShare
import Derived.Test.YteafbkfglchggaaWN
import Derived.Test.YteafbkfglchggaaWFootNe
import Derived.Test.YteafbkfglchggaaWAt
import Derived.Test.YteafbkfglchggaaWEqStruct
import Derived.Test.YteafbkfglchggaaWRepsOne
import Derived.Test.YteafbkfglchggaaWInv
import Derived.Test.YteafbkfglchggaaWInvWords
import Derived.Test.YteafbkfglchggaaWGuard
import Derived.Test.YteafbkfglchggaaWNEv
import Derived.Test.YteafbkfglchggaaWMore
namespace Go.Proofs.Yteafbkfglchggaa.XFnExactLanguages
open Go.RowKit Go.Proofs.YteafbkfglchggaaW.PrintWords Go.Proofs.YteafbkfglchggaaW.PrintLast Go.Proofs.YteafbkfglchggaaW.PrintMore
attribute [local go_sem] max2_int min2_int max_two min_two max_three min_three max_four min_four   -- for this text's walks alone
set_option linter.unusedVariables false
set_option linter.unusedSimpArgs false



def errW : Option Int → Value
  | none => .nilIface
  | some c => .iface 0 (.int .i64 c)
theorem errW_none : errW none = .nilIface := rfl
theorem errW_some (c : Int) : errW (some c) = .iface 0 (.int .i64 c) := rfl

theorem info5 : (Try.prog.info? 5).map (fun i => (i.zero, i.size, i.bytes)) = some (some (.int .u8 0), 1, 1) := by kernel_rfl
theorem info9 : (Try.prog.info? 9).map (fun i => (i.zero, i.size, i.bytes)) = some (some (.string ⟨#[]⟩), 1, 16) := by kernel_rfl
-- the values' own types

end Go.Proofs.Yteafbkfglchggaa.XFnExactLanguages
