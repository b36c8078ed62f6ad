/- The statement of FnExactPageNew: one input, computed. -/
import Derived.Test.YtedeliggbjbngaaPFnExactPageNewx0
import Derived.Test.YtedeliggbjbngaaPFnExactPageNewx1
import Derived.Test.YtedeliggbjbngaaPFnExactPageNewx2
import Derived.Test.YtedeliggbjbngaaPFnExactPageNewx3
import Derived.Test.YtedeliggbjbngaaPFnExactPageNewx4
import Derived.Test.YtedeliggbjbngaaPFnExactPageNewx5
import Derived.Test.YtedeliggbjbngaaPFnExactPageNewx6
namespace Go.Proofs.Ytedeliggbjbngaa.Pure
open Go.RowKit Go.Proofs.Ytedeliggbjbngaa.PFnExactPageNew Go.Proofs.YtedeliggbjbngaaW.PrintWords Go.Proofs.YtedeliggbjbngaaW.PrintLast
set_option linter.unusedVariables false
set_option linter.unusedSimpArgs false

theorem FnExactPageNew : ∃ q, laws_FnExactPageNew.f q = some true := ⟨100, by kernel_rfl⟩

end Go.Proofs.Ytedeliggbjbngaa.Pure
