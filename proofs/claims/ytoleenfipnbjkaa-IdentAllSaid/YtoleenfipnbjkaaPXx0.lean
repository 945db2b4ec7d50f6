-- Written by a program of this session (hyb.py), which runs the print over the translation with contracts of its own added; it is not the print itself. Lean checks it.
import Derived.Test.YtoleenfipnbjkaaProg
import Derived.Below
import Derived.Deep.Draws
import Derived.Deep.AppendLies
import Derived.Maps.AppendAt
import Derived.OwnWalk
import Derived.Laws.BytesArg
import Derived.Laws.MakeOwn
import Derived.Laws.OwnMore
import Derived.Deep.OwnRows
import Derived.Tactics
import Derived.Lib.ConvBytes
import Derived.Laws.Slices
import Derived.WalkKit
import Derived.KernelRfl
import Derived.RowKit3
import Derived.Deep.LoopGhost
import Derived.Deep.QuietTactic
import Derived.BigQuiet
import Derived.WideLaws
import Derived.Deep.DeepCutAuto
import Derived.Deep.CutBlock
import Derived.Deep.RegionHeld3
import Derived.Laws.Rows
import Derived.Lib.AppendStr
import Derived.ArgAppend
import Derived.Laws.IdiomCopy
import Derived.OrdersHeld
import Derived.Laws.BitsLemmas
import Derived.RowKit
import Derived.Test.YtoleenfipnbjkaaWWords
import Derived.Test.YtoleenfipnbjkaaWLast
import Derived.Test.YtoleenfipnbjkaaWTab
import Derived.Test.YtoleenfipnbjkaaWFour
import Derived.Test.YtoleenfipnbjkaaWQPut
import Derived.Test.YtoleenfipnbjkaaWApart
import Derived.Test.YtoleenfipnbjkaaWArr
import Derived.Test.YtoleenfipnbjkaaWZeros
import Derived.Test.YtoleenfipnbjkaaWFoot
import Derived.Test.YtoleenfipnbjkaaWKept
import Derived.Test.YtoleenfipnbjkaaWShare
import Derived.Test.YtoleenfipnbjkaaWN
import Derived.Test.YtoleenfipnbjkaaWFootNe
import Derived.Test.YtoleenfipnbjkaaWAt
import Derived.Test.YtoleenfipnbjkaaWEqStruct
import Derived.Test.YtoleenfipnbjkaaWRepsOne
import Derived.Test.YtoleenfipnbjkaaWInv
import Derived.Test.YtoleenfipnbjkaaWInvWords
import Derived.Test.YtoleenfipnbjkaaWGuard
import Derived.Test.YtoleenfipnbjkaaWNEv
import Derived.Test.YtoleenfipnbjkaaWMore
namespace Go.Proofs.Ytoleenfipnbjkaa.PX
open Go.RowKit Go.Proofs.YtoleenfipnbjkaaW.PrintWords Go.Proofs.YtoleenfipnbjkaaW.PrintLast Go.Proofs.YtoleenfipnbjkaaW.PrintMore
attribute [local go_sem] max2_int min2_int max_two min_two max_three min_three max_four min_four   -- for this text's walks alone
set_option linter.unusedVariables false
set_option linter.unusedSimpArgs false



def errW : Option Int → Value
  | none => .nilIface
  | some c => .iface 0 (.int .i64 c)
theorem errW_none : errW none = .nilIface := rfl
theorem errW_some (c : Int) : errW (some c) = .iface 0 (.int .i64 c) := rfl

-- the values' own types

end Go.Proofs.Ytoleenfipnbjkaa.PX
