/- The statement of FnExactConstants, over the printed functions: it is true for every input. No condition. -/
import Derived.Test.YteidmggjnhjofaaPFnExactConstantsx1
namespace Go.Proofs.Yteidmggjnhjofaa.Pure
open Go.RowKit Go.Proofs.Yteidmggjnhjofaa.PFnExactConstants Go.Proofs.YteidmggjnhjofaaW.PrintWords Go.Proofs.YteidmggjnhjofaaW.PrintLast
set_option linter.unusedVariables false
set_option linter.unusedSimpArgs false

theorem FnExactConstants : laws_FnExactConstants.Pure := by
  unfold laws_FnExactConstants.Pure
  rfl

end Go.Proofs.Yteidmggjnhjofaa.Pure
