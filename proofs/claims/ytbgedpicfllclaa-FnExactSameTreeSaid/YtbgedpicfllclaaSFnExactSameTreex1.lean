-- Written by this session's program wip/slim.py: the print's texts (with contracts of our own), only what this row needs, shortened. Lean checks it.
import Derived.Test.YtbgedpicfllclaaSFnExactSameTreex0
namespace Go.Proofs.Ytbgedpicfllclaa.PFnExactSameTree
open Go.RowKit Go.Proofs.YtbgedpicfllclaaW.PrintWords Go.Proofs.YtbgedpicfllclaaW.PrintLast Go.Proofs.YtbgedpicfllclaaW.PrintMore
attribute [local go_sem] max2_int min2_int max_two min_two max_three min_three max_four min_four
set_option linter.unusedVariables false
set_option linter.unusedSimpArgs false
theorem eqA91 (d : Nat) (w : World) (x0 y0 : ByteArray) (x1 y1 : ByteArray) :
  (Op.equalIn (d + 2) 91 (.agg #[.string x0, .string x1]) (.agg #[.string y0, .string y1])).run Try.prog w = .ok (x0.toList == y0.toList && (x1.toList == y1.toList)) w := by
 refine eqA_of Try.underlying91 (by kernel_rfl) ?_
 refine eqf_cons (by rfl) (by go_simp; rfl) (by go_simp; rfl) (by go_simp) ?_
 exact eqf_last (by rfl) (by go_simp; rfl) (by go_simp; rfl) (by go_simp)
end Go.Proofs.Ytbgedpicfllclaa.PFnExactSameTree
