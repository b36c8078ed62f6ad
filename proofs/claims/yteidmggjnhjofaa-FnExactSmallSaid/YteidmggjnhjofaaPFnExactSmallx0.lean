-- Written by this session's program wip/gen (the print, with contracts of our own beside it). Lean checks it.
import Derived.Test.YteidmggjnhjofaaProg
import Derived.Below
import Derived.Deep.Draws
import Derived.Deep.AppendLies
import Derived.Maps.AppendAt
import Derived.OwnWalk
import Derived.Laws.BytesArg
import Derived.Laws.MakeOwn
import Derived.Laws.OwnMore
import Derived.Deep.OwnRows
import Derived.Tactics
import Derived.Lib.ConvBytes
import Derived.Laws.Slices
import Derived.WalkKit
import Derived.KernelRfl
import Derived.RowKit3
import Derived.Deep.LoopGhost
import Derived.Deep.QuietTactic
import Derived.BigQuiet
import Derived.WideLaws
import Derived.Deep.DeepCutAuto
import Derived.Deep.CutBlock
import Derived.Deep.RegionHeld3
import Derived.Laws.Rows
import Derived.Lib.AppendStr
import Derived.ArgAppend
import Derived.Laws.IdiomCopy
import Derived.OrdersHeld
import Derived.Laws.BitsLemmas
import Derived.RowKit
import Derived.Test.YteidmggjnhjofaaWWords
import Derived.Test.YteidmggjnhjofaaWLast
import Derived.Test.YteidmggjnhjofaaWTab
import Derived.Test.YteidmggjnhjofaaWFour
import Derived.Test.YteidmggjnhjofaaWQPut
import Derived.Test.YteidmggjnhjofaaWApart
import Derived.Test.YteidmggjnhjofaaWArr
import Derived.Test.YteidmggjnhjofaaWZeros
import Derived.Test.YteidmggjnhjofaaWFoot
import Derived.Test.YteidmggjnhjofaaWKept
import Derived.Test.YteidmggjnhjofaaWShare
import Derived.Test.YteidmggjnhjofaaWN
import Derived.Test.YteidmggjnhjofaaWFootNe
import Derived.Test.YteidmggjnhjofaaWAt
import Derived.Test.YteidmggjnhjofaaWEqStruct
import Derived.Test.YteidmggjnhjofaaWRepsOne
import Derived.Test.YteidmggjnhjofaaWInv
import Derived.Test.YteidmggjnhjofaaWInvWords
import Derived.Test.YteidmggjnhjofaaWGuard
import Derived.Test.YteidmggjnhjofaaWNEv
import Derived.Test.YteidmggjnhjofaaWMore
namespace Go.Proofs.Yteidmggjnhjofaa.PFnExactSmall
open Go.RowKit Go.Proofs.YteidmggjnhjofaaW.PrintWords Go.Proofs.YteidmggjnhjofaaW.PrintLast Go.Proofs.YteidmggjnhjofaaW.PrintMore
attribute [local go_sem] max2_int min2_int max_two min_two max_three min_three max_four min_four   -- for this text's walks alone
set_option linter.unusedVariables false
set_option linter.unusedSimpArgs false



def errW : Option Int → Value
  | none => .nilIface
  | some c => .iface 0 (.int .i64 c)
theorem errW_none : errW none = .nilIface := rfl
theorem errW_some (c : Int) : errW (some c) = .iface 0 (.int .i64 c) := rfl

-- the values' own types

end Go.Proofs.Yteidmggjnhjofaa.PFnExactSmall
