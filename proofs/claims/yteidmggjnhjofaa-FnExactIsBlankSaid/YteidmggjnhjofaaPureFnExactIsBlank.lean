/- The statement of FnExactIsBlank, over the printed functions: it is true for every input. No condition. -/
import Derived.Test.YteidmggjnhjofaaPFnExactIsBlankx1
namespace Go.Proofs.Yteidmggjnhjofaa.Pure
open Go.RowKit Go.Proofs.Yteidmggjnhjofaa.PFnExactIsBlank Go.Proofs.YteidmggjnhjofaaW.PrintWords Go.Proofs.YteidmggjnhjofaaW.PrintLast
set_option linter.unusedVariables false
set_option linter.unusedSimpArgs false

theorem FnExactIsBlank : laws_FnExactIsBlank.Pure := by
  intro n _
  have e : impl_IsBlank.f n = spec_IsBlank.f n := rfl
  have s : ∃ b, spec_IsBlank.f n = some b := by
    unfold spec_IsBlank.f
    repeat' split
    all_goals exact ⟨_, rfl⟩
  obtain ⟨b, hb⟩ := s
  unfold laws_FnExactIsBlank.f
  rw [e, hb]
  simp

end Go.Proofs.Yteidmggjnhjofaa.Pure
