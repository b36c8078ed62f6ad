-- Written by this session's program wip/gen (the print, with contracts of our own beside it). Lean checks it.
import Derived.Test.YteafgjebaedjbaaDoorProg
import Derived.Below
import Derived.Deep.Draws
import Derived.Deep.AppendLies
import Derived.Maps.AppendAt
import Derived.OwnWalk
import Derived.Laws.BytesArg
import Derived.Laws.MakeOwn
import Derived.Laws.OwnMore
import Derived.Deep.OwnRows
import Derived.Tactics
import Derived.Lib.ConvBytes
import Derived.Laws.Slices
import Derived.WalkKit
import Derived.KernelRfl
import Derived.RowKit3
import Derived.Deep.LoopGhost
import Derived.Deep.QuietTactic
import Derived.BigQuiet
import Derived.WideLaws
import Derived.Deep.DeepCutAuto
import Derived.Deep.CutBlock
import Derived.Deep.RegionHeld3
import Derived.Laws.Rows
import Derived.Lib.AppendStr
import Derived.ArgAppend
import Derived.Laws.IdiomCopy
import Derived.OrdersHeld
import Derived.Laws.BitsLemmas
import Derived.RowKit
import Derived.Test.YteafgjebaedjbaaDoorShelf
import Derived.Lib.Builder
import Derived.Lib.LazyBuf
import Derived.Test.YteafgjebaedjbaaDoorWWords
import Derived.Test.YteafgjebaedjbaaDoorWLast
import Derived.Test.YteafgjebaedjbaaDoorWTab
import Derived.Test.YteafgjebaedjbaaDoorWFour
import Derived.Test.YteafgjebaedjbaaDoorWQPut
import Derived.Test.YteafgjebaedjbaaDoorWApart
import Derived.Test.YteafgjebaedjbaaDoorWArr
import Derived.Test.YteafgjebaedjbaaDoorWZeros
import Derived.Test.YteafgjebaedjbaaDoorWFoot
import Derived.Test.YteafgjebaedjbaaDoorWKept
import Derived.Test.YteafgjebaedjbaaDoorWShare
import Derived.Test.YteafgjebaedjbaaDoorWN
import Derived.Test.YteafgjebaedjbaaDoorWFootNe
import Derived.Test.YteafgjebaedjbaaDoorWAt
import Derived.Test.YteafgjebaedjbaaDoorWEqStruct
import Derived.Test.YteafgjebaedjbaaDoorWRepsOne
import Derived.Test.YteafgjebaedjbaaDoorWInv
import Derived.Test.YteafgjebaedjbaaDoorWInvWords
import Derived.Test.YteafgjebaedjbaaDoorWGuard
import Derived.Test.YteafgjebaedjbaaDoorWNEv
import Derived.Test.YteafgjebaedjbaaDoorWMore
namespace Go.Proofs.YteafgjebaedjbaaDoor.PFnKinds
open Go.RowKit Go.Proofs.YteafgjebaedjbaaDoorW.PrintWords Go.Proofs.YteafgjebaedjbaaDoorW.PrintLast Go.Proofs.YteafgjebaedjbaaDoorW.PrintMore
attribute [local go_sem] max2_int min2_int max_two min_two max_three min_three max_four min_four   -- for this text's walks alone
set_option linter.unusedVariables false
set_option linter.unusedSimpArgs false



def errW : Option Int → Value
  | none => .nilIface
  | some c => .iface 0 (.int .i64 c)
theorem errW_none : errW none = .nilIface := rfl
theorem errW_some (c : Int) : errW (some c) = .iface 0 (.int .i64 c) := rfl

theorem info3 : (Tryd.prog.info? 3).map (fun i => (i.zero, i.size, i.bytes)) = some (some (.int .i64 0), 1, 8) := by kernel_rfl
theorem info9 : (Tryd.prog.info? 9).map (fun i => (i.zero, i.size, i.bytes)) = some (some (.string ⟨#[]⟩), 1, 16) := by kernel_rfl
-- the values' own types

end Go.Proofs.YteafgjebaedjbaaDoor.PFnKinds
