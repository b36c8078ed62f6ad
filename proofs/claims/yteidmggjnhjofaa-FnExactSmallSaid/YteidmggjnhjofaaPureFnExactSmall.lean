/- The statement of FnExactSmall, over the printed functions: it is true for every input. No condition. -/
import Derived.Test.YteidmggjnhjofaaPFnExactSmallx1
namespace Go.Proofs.Yteidmggjnhjofaa.Pure
open Go.RowKit Go.Proofs.Yteidmggjnhjofaa.PFnExactSmall Go.Proofs.YteidmggjnhjofaaW.PrintWords Go.Proofs.YteidmggjnhjofaaW.PrintLast
set_option linter.unusedVariables false
set_option linter.unusedSimpArgs false

theorem FnExactSmall : laws_FnExactSmall.Pure := by
  intro a h
  have e1 : spec_Small.f a = some (smallOf a) := by unfold spec_Small.f; rw [if_pos h]
  have e2 : impl_Small.f a = some (smallOf a) := by unfold impl_Small.f; rw [if_pos h]
  unfold laws_FnExactSmall.f
  by_cases hb : (a.size : Int) > 1048576
  · rw [if_pos hb]
  · rw [if_neg hb, e1, e2]
    simp

end Go.Proofs.Yteidmggjnhjofaa.Pure
