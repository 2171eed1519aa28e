/- What the Go functions that this law comes to compute, each walked; written by a program of this session. -/
import Derived.Test.YthcmofhlljmccaaProg
import Derived.Below
import Derived.Deep.Draws
import Derived.Deep.AppendLies
import Derived.Maps.AppendAt
import Derived.OwnWalk
import Derived.Laws.BytesArg
import Derived.Laws.MakeOwn
import Derived.Laws.OwnMore
import Derived.Deep.OwnRows
import Derived.Tactics
import Derived.Lib.ConvBytes
import Derived.Laws.Slices
import Derived.WalkKit
import Derived.KernelRfl
import Derived.RowKit3
import Derived.Deep.LoopGhost
import Derived.Deep.QuietTactic
import Derived.BigQuiet
import Derived.WideLaws
import Derived.Deep.DeepCutAuto
import Derived.Deep.CutBlock
import Derived.Deep.RegionHeld3
import Derived.Laws.Rows
import Derived.Lib.AppendStr
import Derived.ArgAppend
import Derived.Laws.IdiomCopy
import Derived.OrdersHeld
import Derived.Laws.BitsLemmas
import Derived.RowKit
import Derived.Test.YthcmofhlljmccaaXWalk
import Derived.Test.YthcmofhlljmccaaWWords
import Derived.Test.YthcmofhlljmccaaWLast
import Derived.Test.YthcmofhlljmccaaWTab
import Derived.Test.YthcmofhlljmccaaWFour
import Derived.Test.YthcmofhlljmccaaWQPut
import Derived.Test.YthcmofhlljmccaaWApart
import Derived.Test.YthcmofhlljmccaaWArr
import Derived.Test.YthcmofhlljmccaaWZeros
import Derived.Test.YthcmofhlljmccaaWFoot
import Derived.Test.YthcmofhlljmccaaWKept
import Derived.Test.YthcmofhlljmccaaWShare
import Derived.Test.YthcmofhlljmccaaWN
import Derived.Test.YthcmofhlljmccaaWFootNe
import Derived.Test.YthcmofhlljmccaaWAt
import Derived.Test.YthcmofhlljmccaaWEqStruct
import Derived.Test.YthcmofhlljmccaaWRepsOne
import Derived.Test.YthcmofhlljmccaaWInv
import Derived.Test.YthcmofhlljmccaaWInvWords
import Derived.Test.YthcmofhlljmccaaWGuard
import Derived.Test.YthcmofhlljmccaaWNEv
import Derived.Test.YthcmofhlljmccaaWMore
namespace Go.Proofs.Ythcmofhlljmccaa.XFnExactPluralOf
open Go.RowKit Go.Proofs.YthcmofhlljmccaaW.PrintWords Go.Proofs.YthcmofhlljmccaaW.PrintLast Go.Proofs.YthcmofhlljmccaaW.PrintMore
attribute [local go_sem] max2_int min2_int max_two min_two max_three min_three max_four min_four   -- for this text's walks alone
set_option linter.unusedVariables false
set_option linter.unusedSimpArgs false



def errW : Option Int → Value
  | none => .nilIface
  | some c => .iface 0 (.int .i64 c)
theorem errW_none : errW none = .nilIface := rfl
theorem errW_some (c : Int) : errW (some c) = .iface 0 (.int .i64 c) := rfl

-- the values' own types

end Go.Proofs.Ythcmofhlljmccaa.XFnExactPluralOf
