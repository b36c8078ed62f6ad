-- Written by this session's program wip/gen (the print, with contracts of our own beside it). Lean checks it.
import Derived.Test.YteafgjebaedjbaaProg
import Derived.Below
import Derived.Deep.Draws
import Derived.Deep.AppendLies
import Derived.Maps.AppendAt
import Derived.OwnWalk
import Derived.Laws.BytesArg
import Derived.Laws.MakeOwn
import Derived.Laws.OwnMore
import Derived.Deep.OwnRows
import Derived.Tactics
import Derived.Lib.ConvBytes
import Derived.Laws.Slices
import Derived.WalkKit
import Derived.KernelRfl
import Derived.RowKit3
import Derived.Deep.LoopGhost
import Derived.Deep.QuietTactic
import Derived.BigQuiet
import Derived.WideLaws
import Derived.Deep.DeepCutAuto
import Derived.Deep.CutBlock
import Derived.Deep.RegionHeld3
import Derived.Laws.Rows
import Derived.Lib.AppendStr
import Derived.ArgAppend
import Derived.Laws.IdiomCopy
import Derived.OrdersHeld
import Derived.Laws.BitsLemmas
import Derived.RowKit
import Derived.Test.YteafgjebaedjbaaShelf
import Derived.Lib.Builder
import Derived.Test.YteafgjebaedjbaaWWords
import Derived.Test.YteafgjebaedjbaaWLast
import Derived.Test.YteafgjebaedjbaaWTab
import Derived.Test.YteafgjebaedjbaaWFour
import Derived.Test.YteafgjebaedjbaaWQPut
import Derived.Test.YteafgjebaedjbaaWApart
import Derived.Test.YteafgjebaedjbaaWArr
import Derived.Test.YteafgjebaedjbaaWZeros
import Derived.Test.YteafgjebaedjbaaWFoot
import Derived.Test.YteafgjebaedjbaaWKept
import Derived.Test.YteafgjebaedjbaaWShare
import Derived.Test.YteafgjebaedjbaaWN
import Derived.Test.YteafgjebaedjbaaWFootNe
import Derived.Test.YteafgjebaedjbaaWAt
import Derived.Test.YteafgjebaedjbaaWEqStruct
import Derived.Test.YteafgjebaedjbaaWRepsOne
import Derived.Test.YteafgjebaedjbaaWInv
import Derived.Test.YteafgjebaedjbaaWInvWords
import Derived.Test.YteafgjebaedjbaaWGuard
import Derived.Test.YteafgjebaedjbaaWNEv
import Derived.Test.YteafgjebaedjbaaWMore
namespace Go.Proofs.Yteafgjebaedjbaa.PFnSigns
open Go.RowKit Go.Proofs.YteafgjebaedjbaaW.PrintWords Go.Proofs.YteafgjebaedjbaaW.PrintLast Go.Proofs.YteafgjebaedjbaaW.PrintMore
attribute [local go_sem] max2_int min2_int max_two min_two max_three min_three max_four min_four   -- for this text's walks alone
set_option linter.unusedVariables false
set_option linter.unusedSimpArgs false



def errW : Option Int → Value
  | none => .nilIface
  | some c => .iface 0 (.int .i64 c)
theorem errW_none : errW none = .nilIface := rfl
theorem errW_some (c : Int) : errW (some c) = .iface 0 (.int .i64 c) := rfl

theorem info3 : (Try.prog.info? 3).map (fun i => (i.zero, i.size, i.bytes)) = some (some (.int .i64 0), 1, 8) := by kernel_rfl
theorem info5 : (Try.prog.info? 5).map (fun i => (i.zero, i.size, i.bytes)) = some (some (.int .u8 0), 1, 1) := by kernel_rfl
theorem info9 : (Try.prog.info? 9).map (fun i => (i.zero, i.size, i.bytes)) = some (some (.string ⟨#[]⟩), 1, 16) := by kernel_rfl
-- the values' own types

end Go.Proofs.Yteafgjebaedjbaa.PFnSigns
