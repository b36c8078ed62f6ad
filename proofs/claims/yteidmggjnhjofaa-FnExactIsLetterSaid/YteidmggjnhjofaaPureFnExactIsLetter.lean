/- The statement of FnExactIsLetter, over the printed functions: it is true for every input. No condition. -/
import Derived.Test.YteidmggjnhjofaaPFnExactIsLetterx1
namespace Go.Proofs.Yteidmggjnhjofaa.Pure
open Go.RowKit Go.Proofs.Yteidmggjnhjofaa.PFnExactIsLetter Go.Proofs.YteidmggjnhjofaaW.PrintWords Go.Proofs.YteidmggjnhjofaaW.PrintLast
set_option linter.unusedVariables false
set_option linter.unusedSimpArgs false

theorem l1In_is (a b c : Int) : spec_l1In.f a b c = some (decide (b ≤ a ∧ a ≤ c)) := by
  unfold spec_l1In.f
  by_cases h : b ≤ a
  · rw [if_pos h]; simp [h]
  · rw [if_neg h]; simp [h]
theorem inRange_is (a b c : Int) : impl_inRange.f a b c = some (decide (b ≤ a ∧ a ≤ c)) := by
  unfold impl_inRange.f
  by_cases h : b ≤ a
  · rw [if_pos h]; simp [h]
  · rw [if_neg h]; simp [h]

/-- What a letter is. -/
def LtOk (n : Int) : Bool := decide (97 ≤ n ∧ n ≤ 122) || decide (65 ≤ n ∧ n ≤ 90)
theorem spec_IsLetter_is (n : Int) : spec_IsLetter.f n = some (LtOk n) := by
  unfold spec_IsLetter.f LtOk
  rw [l1In_is, l1In_is]
  simp only [Option.bind_some]
  by_cases h : decide (97 ≤ n ∧ n ≤ 122) = true
  · rw [if_pos h, h]; rfl
  · rw [if_neg h, Bool.eq_false_iff.mpr h]; rfl
theorem impl_IsLetter_is (n : Int) : impl_IsLetter.f n = some (LtOk n) := by
  unfold impl_IsLetter.f LtOk
  rw [inRange_is, inRange_is]
  simp only [Option.bind_some]
  by_cases h : decide (97 ≤ n ∧ n ≤ 122) = true
  · rw [if_pos h, h]; rfl
  · rw [if_neg h, Bool.eq_false_iff.mpr h]; rfl

theorem FnExactIsLetter : laws_FnExactIsLetter.Pure := by
  intro n _
  unfold laws_FnExactIsLetter.f
  rw [spec_IsLetter_is, impl_IsLetter_is]
  simp

end Go.Proofs.Yteidmggjnhjofaa.Pure
