-- Written by this session's program wip/gen (the print, with contracts of our own beside it). Lean checks it.
import Derived.Test.YtoglccojipijdaaProg
import Derived.Below
import Derived.Deep.Draws
import Derived.Deep.AppendLies
import Derived.Maps.AppendAt
import Derived.OwnWalk
import Derived.Laws.BytesArg
import Derived.Laws.MakeOwn
import Derived.Laws.OwnMore
import Derived.Deep.OwnRows
import Derived.Tactics
import Derived.Lib.ConvBytes
import Derived.Laws.Slices
import Derived.WalkKit
import Derived.KernelRfl
import Derived.RowKit3
import Derived.Deep.LoopGhost
import Derived.Deep.QuietTactic
import Derived.BigQuiet
import Derived.WideLaws
import Derived.Deep.DeepCutAuto
import Derived.Deep.CutBlock
import Derived.Deep.RegionHeld3
import Derived.Laws.Rows
import Derived.Lib.AppendStr
import Derived.ArgAppend
import Derived.Laws.IdiomCopy
import Derived.OrdersHeld
import Derived.Laws.BitsLemmas
import Derived.RowKit
import Derived.Test.YtoglccojipijdaaShelf
import Derived.Lib.Builder
import Derived.Test.YtoglccojipijdaaWWords
import Derived.Test.YtoglccojipijdaaWLast
import Derived.Test.YtoglccojipijdaaWTab
import Derived.Test.YtoglccojipijdaaWFour
import Derived.Test.YtoglccojipijdaaWQPut
import Derived.Test.YtoglccojipijdaaWApart
import Derived.Test.YtoglccojipijdaaWArr
import Derived.Test.YtoglccojipijdaaWZeros
import Derived.Test.YtoglccojipijdaaWFoot
import Derived.Test.YtoglccojipijdaaWKept
import Derived.Test.YtoglccojipijdaaWShare
import Derived.Test.YtoglccojipijdaaWN
import Derived.Test.YtoglccojipijdaaWFootNe
import Derived.Test.YtoglccojipijdaaWAt
import Derived.Test.YtoglccojipijdaaWEqStruct
import Derived.Test.YtoglccojipijdaaWRepsOne
import Derived.Test.YtoglccojipijdaaWInv
import Derived.Test.YtoglccojipijdaaWInvWords
import Derived.Test.YtoglccojipijdaaWGuard
import Derived.Test.YtoglccojipijdaaWNEv
import Derived.Test.YtoglccojipijdaaWMore
namespace Go.Proofs.Ytoglccojipijdaa.PFnExactSignText
open Go.RowKit Go.Proofs.YtoglccojipijdaaW.PrintWords Go.Proofs.YtoglccojipijdaaW.PrintLast Go.Proofs.YtoglccojipijdaaW.PrintMore
attribute [local go_sem] max2_int min2_int max_two min_two max_three min_three max_four min_four   -- for this text's walks alone
set_option linter.unusedVariables false
set_option linter.unusedSimpArgs false



def errW : Option Int → Value
  | none => .nilIface
  | some c => .iface 0 (.int .i64 c)
theorem errW_none : errW none = .nilIface := rfl
theorem errW_some (c : Int) : errW (some c) = .iface 0 (.int .i64 c) := rfl

theorem info3 : (Try.prog.info? 3).map (fun i => (i.zero, i.size, i.bytes)) = some (some (.int .i64 0), 1, 8) := by kernel_rfl
theorem info5 : (Try.prog.info? 5).map (fun i => (i.zero, i.size, i.bytes)) = some (some (.int .u8 0), 1, 1) := by kernel_rfl
-- the values' own types

end Go.Proofs.Ytoglccojipijdaa.PFnExactSignText
