/- The statement of FnExactIsText, over the printed functions: it is true for every input. No condition. -/
import Derived.Test.YteidmggjnhjofaaPFnExactIsTextx1
namespace Go.Proofs.Yteidmggjnhjofaa.Pure
open Go.RowKit Go.Proofs.Yteidmggjnhjofaa.PFnExactIsText Go.Proofs.YteidmggjnhjofaaW.PrintWords Go.Proofs.YteidmggjnhjofaaW.PrintLast
set_option linter.unusedVariables false
set_option linter.unusedSimpArgs false

theorem l1In_is (a b c : Int) : spec_l1In.f a b c = some (decide (b ≤ a ∧ a ≤ c)) := by
  unfold spec_l1In.f
  by_cases h : b ≤ a
  · rw [if_pos h]; simp [h]
  · rw [if_neg h]; simp [h]
theorem inRange_is (a b c : Int) : impl_inRange.f a b c = some (decide (b ≤ a ∧ a ≤ c)) := by
  unfold impl_inRange.f
  by_cases h : b ≤ a
  · rw [if_pos h]; simp [h]
  · rw [if_neg h]; simp [h]

/-- What a sign is. -/
def SgOk (n : Int) : Bool := decide (0 ≤ n ∧ n ≤ 1114111) && !decide (55296 ≤ n ∧ n ≤ 57343)
theorem spec_SignOk_is (n : Int) : spec_SignOk.f n = some (SgOk n) := by
  unfold spec_SignOk.f SgOk
  rw [l1In_is, l1In_is]
  simp only [Option.bind_some]
  by_cases h : decide (0 ≤ n ∧ n ≤ 1114111) = true
  · rw [if_pos h, h]; rfl
  · rw [if_neg h, Bool.eq_false_iff.mpr h]; rfl
theorem impl_SignOk_is (n : Int) : impl_SignOk.f n = some (SgOk n) := by
  unfold impl_SignOk.f SgOk
  rw [inRange_is, inRange_is]
  simp only [Option.bind_some]
  by_cases h : decide (0 ≤ n ∧ n ≤ 1114111) = true
  · rw [if_pos h, h]; rfl
  · rw [if_neg h, Bool.eq_false_iff.mpr h]; rfl

theorem IsText_same (n : Int) : impl_IsText.f n = spec_IsText.f n := by
  unfold impl_IsText.f spec_IsText.f
  rw [spec_SignOk_is, impl_SignOk_is]
theorem IsText_some (n : Int) : ∃ b, spec_IsText.f n = some b := by
  unfold spec_IsText.f
  rw [spec_SignOk_is]
  simp only [Option.bind_some]
  repeat' split
  all_goals exact ⟨_, rfl⟩

theorem FnExactIsText : laws_FnExactIsText.Pure := by
  intro n _
  obtain ⟨b, hb⟩ := IsText_some n
  unfold laws_FnExactIsText.f
  rw [IsText_same, hb]
  simp

end Go.Proofs.Yteidmggjnhjofaa.Pure
