/- The statement of FnExactNumbered, over the printed functions: it is true for every input. No condition. -/
import Derived.Test.YteidmggjnhjofaaPFnExactNumberedx1
namespace Go.Proofs.Yteidmggjnhjofaa.Pure
open Go.RowKit Go.Proofs.Yteidmggjnhjofaa.PFnExactNumbered Go.Proofs.YteidmggjnhjofaaW.PrintWords Go.Proofs.YteidmggjnhjofaaW.PrintLast
set_option linter.unusedVariables false
set_option linter.unusedSimpArgs false

theorem Ev.yes {α : Type} {g : Nat → Option α} {r : α} (h : ∀ k, g k = some r) : Ev g r := ⟨0, fun k _ => h k⟩
theorem Ev.at1 {α : Type} {g : Nat → Option α} {r : α} (h : ∀ k, g (k + 1) = some r) : Ev g r := Ev.step (f := fun _ => some r) h (Ev.now r)
theorem wrap_id (n : Int) (h0 : -9223372036854775808 ≤ n) (h1 : n ≤ 9223372036854775807) : wrap64 n = n := by unfold wrap64; omega

theorem l1In_is (a b c : Int) : spec_l1In.f a b c = some (decide (b ≤ a ∧ a ≤ c)) := by
  unfold spec_l1In.f
  by_cases h : b ≤ a
  · rw [if_pos h]; simp [h]
  · rw [if_neg h]; simp [h]

theorem inRange_is (a b c : Int) : impl_inRange.f a b c = some (decide (b ≤ a ∧ a ≤ c)) := by
  unfold impl_inRange.f
  by_cases h : b ≤ a
  · rw [if_pos h]; simp [h]
  · rw [if_neg h]; simp [h]

/-- Both sides' ranges. -/
theorem range_same (a b c : Int) : spec_l1In.f a b c = impl_inRange.f a b c := by rw [l1In_is, inRange_is]

/-- What a sign is. -/
def SgOk (n : Int) : Bool := decide (0 ≤ n ∧ n ≤ 1114111) && !decide (55296 ≤ n ∧ n ≤ 57343)
theorem spec_SignOk_is (n : Int) : spec_SignOk.f n = some (SgOk n) := by
  unfold spec_SignOk.f SgOk
  rw [l1In_is, l1In_is]
  simp only [Option.bind_some]
  by_cases h : decide (0 ≤ n ∧ n ≤ 1114111) = true
  · rw [if_pos h, h]; rfl
  · rw [if_neg h, Bool.eq_false_iff.mpr h]; rfl
theorem impl_SignOk_is (n : Int) : impl_SignOk.f n = some (SgOk n) := by
  unfold impl_SignOk.f SgOk
  rw [inRange_is, inRange_is]
  simp only [Option.bind_some]
  by_cases h : decide (0 ≤ n ∧ n ≤ 1114111) = true
  · rw [if_pos h, h]; rfl
  · rw [if_neg h, Bool.eq_false_iff.mpr h]; rfl

/-- The sign for a number. -/
def NB (n : Int) : Int := if 128 ≤ n ∧ n ≤ 159 then numTab.getD (n - 128).toNat 0 else if n = 0 then 65533 else if SgOk n = true then n else 65533
theorem impl_Numbered_is (n : Int) : impl_Numbered.f n = some (NB n) := by
  unfold impl_Numbered.f NB
  rw [impl_SignOk_is]
  simp only [Option.bind_some]
  by_cases h : 128 ≤ n ∧ n ≤ 159
  · rw [if_pos h, if_pos h]
  · rw [if_neg h, if_neg h]
    by_cases h0 : n = 0
    · rw [if_pos h0, if_pos h0]
    · rw [if_neg h0, if_neg h0]
      by_cases h1 : SgOk n = true
      · rw [if_pos h1, if_pos h1]
      · rw [if_neg h1, if_neg h1]
theorem spec_Numbered_j (n : Int) (b : Bool) (h0 : -9223372036854775808 ≤ n) (h1 : n ≤ 9223372036854775807) (k : Nat) : spec_Numbered.j0 (k + 1) n numTab b = some (if b = true then 65533 else if 128 ≤ n ∧ n ≤ 159 then numTab.getD (n - 128).toNat 0 else n) := by
  simp only [spec_Numbered.j0]
  cases b with
  | true => rfl
  | false =>
    simp only [Bool.false_eq_true, if_false, l1In_is, Option.bind_some]
    by_cases h : 128 ≤ n ∧ n ≤ 159
    · have hl : numTab.length = 32 := rfl
      rw [if_pos (decide_eq_true h), if_pos h, wrap_id _ (by omega) (by omega), if_pos (by omega), hl, if_pos (by omega)]
      rfl
    · rw [if_neg (by rw [decide_eq_true_eq]; exact h), if_neg h]
theorem spec_Numbered_ev (n : Int) (h0 : -9223372036854775808 ≤ n) (h1 : n ≤ 9223372036854775807) : Ev (fun k => spec_Numbered.f k n) (NB n) := by
  refine Ev.at1 fun k => ?_
  have e : spec_Numbered.f (k + 1) n = if n = 0 then spec_Numbered.j0 (k + 1) n numTab true else (spec_SignOk.f n).bind fun t => spec_Numbered.j0 (k + 1) n numTab (!t) := rfl
  rw [e, spec_SignOk_is, spec_Numbered_j n _ h0 h1]
  simp only [Option.bind_some]
  rw [spec_Numbered_j n _ h0 h1]
  unfold NB
  by_cases z : n = 0
  · subst z; rfl
  · rw [if_neg z, if_neg z]
    by_cases s : SgOk n = true
    · rw [s]; simp
    · have s' := Bool.eq_false_iff.mpr s
      have : ¬ (128 ≤ n ∧ n ≤ 159) := by
        intro h
        apply s
        unfold SgOk
        simp
        omega
      simp only [s', if_neg this, Bool.not_false, if_true, Bool.false_eq_true, if_false]
theorem wf_range (n : Int) (h : (Lit.int .i64 n).wf = true) : -9223372036854775808 ≤ n ∧ n ≤ 9223372036854775807 := by
  simpa [Lit.wf, IntKind.min, IntKind.max, IntKind.signed, IntKind.bits] using h

theorem same_ints (g : Nat → Option Int) (f : Nat → Option Int) (b : Int) (hg : Ev g b) (hf : Ev f b) : Ev (fun k => (g k).bind fun t => ((f k).bind fun u => (if u = t then (some true) else (some false)))) true := by
  refine Ev.bind hg (Ev.bind hf ?_)
  simp only [if_true]
  exact Ev.now _

theorem FnExactNumbered : laws_FnExactNumbered.Pure := by
  intro n hn
  obtain ⟨h0, h1⟩ := wf_range n hn
  refine Ev.rounds (r := true) ?_
  unfold laws_FnExactNumbered.f
  exact same_ints _ _ _ (spec_Numbered_ev n h0 h1) (Ev.yes fun _ => impl_Numbered_is n)

end Go.Proofs.Yteidmggjnhjofaa.Pure
