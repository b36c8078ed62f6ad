/- The statement of FnExactIsNext, over the printed functions: it is true for every input. No condition. -/
import Derived.Test.YteidmggjnhjofaaPFnExactIsNextx1
namespace Go.Proofs.Yteidmggjnhjofaa.Pure
open Go.RowKit Go.Proofs.Yteidmggjnhjofaa.PFnExactIsNext Go.Proofs.YteidmggjnhjofaaW.PrintWords Go.Proofs.YteidmggjnhjofaaW.PrintLast
set_option linter.unusedVariables false
set_option linter.unusedSimpArgs false

theorem Ev.yes {α : Type} {g : Nat → Option α} {r : α} (h : ∀ k, g k = some r) : Ev g r := ⟨0, fun k _ => h k⟩
theorem Ev.at1 {α : Type} {g : Nat → Option α} {r : α} (h : ∀ k, g (k + 1) = some r) : Ev g r := Ev.step (f := fun _ => some r) h (Ev.now r)
theorem wrap_id (n : Int) (h0 : -9223372036854775808 ≤ n) (h1 : n ≤ 9223372036854775807) : wrap64 n = n := by unfold wrap64; omega

theorem l1In_is (a b c : Int) : spec_l1In.f a b c = some (decide (b ≤ a ∧ a ≤ c)) := by
  unfold spec_l1In.f
  by_cases h : b ≤ a
  · rw [if_pos h]; simp [h]
  · rw [if_neg h]; simp [h]

theorem inRange_is (a b c : Int) : impl_inRange.f a b c = some (decide (b ≤ a ∧ a ≤ c)) := by
  unfold impl_inRange.f
  by_cases h : b ≤ a
  · rw [if_pos h]; simp [h]
  · rw [if_neg h]; simp [h]

/-- Both sides' ranges. -/
theorem range_same (a b c : Int) : spec_l1In.f a b c = impl_inRange.f a b c := by rw [l1In_is, inRange_is]

/-- What a letter is. -/
def LtOk (n : Int) : Bool := decide (97 ≤ n ∧ n ≤ 122) || decide (65 ≤ n ∧ n ≤ 90)
theorem spec_IsLetter_is (n : Int) : spec_IsLetter.f n = some (LtOk n) := by
  unfold spec_IsLetter.f LtOk
  rw [l1In_is, l1In_is]
  simp only [Option.bind_some]
  by_cases h : decide (97 ≤ n ∧ n ≤ 122) = true
  · rw [if_pos h, h]; rfl
  · rw [if_neg h, Bool.eq_false_iff.mpr h]; rfl
theorem impl_IsLetter_is (n : Int) : impl_IsLetter.f n = some (LtOk n) := by
  unfold impl_IsLetter.f LtOk
  rw [inRange_is, inRange_is]
  simp only [Option.bind_some]
  by_cases h : decide (97 ≤ n ∧ n ≤ 122) = true
  · rw [if_pos h, h]; rfl
  · rw [if_neg h, Bool.eq_false_iff.mpr h]; rfl

/-- Spans as one row of numbers. -/
def fl : List (Int × Int) → List Int
  | [] => []
  | p :: sp => p.1 :: p.2 :: fl sp
theorem fl_length : ∀ sp : List (Int × Int), (fl sp).length = 2 * sp.length
  | [] => rfl
  | p :: sp => by simp [fl, fl_length sp]; omega
theorem within_loop (n : Int) : ∀ (sp : List (Int × Int)) (pre : List Int), pre.length + 2 * sp.length ≤ 1000000 → sp.length ≤ 1000 → Ev (fun k => spec_l2Within.l0 k (pre ++ fl sp) n ((pre.length : Nat) : Int)) (inSp n sp)
  | [], pre, hp, hs => by
    refine Ev.at1 fun k => ?_
    simp only [spec_l2Within.l0, fl, List.append_nil]
    rw [wrap_id _ (by omega) (by omega), if_neg (by omega)]
    rfl
  | p :: sp, pre, hp, hs => by
    have hl : (pre ++ fl (p :: sp)).length = pre.length + 2 + 2 * sp.length := by rw [List.length_append, fl_length]; simp; omega
    have hc : (p :: sp).length = sp.length + 1 := rfl
    have w1 : wrap64 (((pre.length : Nat) : Int) + 1) = ((pre.length + 1 : Nat) : Int) := by rw [wrap_id _ (by omega) (by omega)]; omega
    have w2 : wrap64 (((pre.length : Nat) : Int) + 2) = ((pre.length + 2 : Nat) : Int) := by rw [wrap_id _ (by omega) (by omega)]; omega
    have r0 : rd (pre ++ fl (p :: sp)) ((pre.length : Nat) : Int) = p.1 := by unfold rd; rw [Int.toNat_natCast]; simp [fl]
    have r1 : rd (pre ++ fl (p :: sp)) ((pre.length + 1 : Nat) : Int) = p.2 := by unfold rd; rw [Int.toNat_natCast]; simp [fl]
    have e : inSp n (p :: sp) = (decide (p.1 ≤ n ∧ n ≤ p.2) || inSp n sp) := rfl
    have q1 : ((pre.length + 1 : Nat) : Int) < ((pre ++ fl (p :: sp)).length : Int) := by omega
    have q2 : (0 : Int) ≤ ((pre.length : Nat) : Int) := by omega
    have q3 : ((pre.length : Nat) : Int) < ((pre ++ fl (p :: sp)).length : Int) := by omega
    have q4 : (0 : Int) ≤ ((pre.length + 1 : Nat) : Int) := by omega
    have st : ∀ k, spec_l2Within.l0 (k + 1) (pre ++ fl (p :: sp)) n ((pre.length : Nat) : Int) = if decide (p.1 ≤ n ∧ n ≤ p.2) = true then some true else spec_l2Within.l0 k (pre ++ fl (p :: sp)) n ((pre.length + 2 : Nat) : Int) := fun k => by
      simp only [spec_l2Within.l0]
      rw [w1, w2, r0, r1, l1In_is, if_pos q1, if_pos q2, if_pos q3, if_pos q4]
      rfl
    rw [e]
    cases h : decide (p.1 ≤ n ∧ n ≤ p.2) with
    | true => exact Ev.at1 fun k => by rw [st, h]; rfl
    | false =>
      have ih := within_loop n sp (pre ++ [p.1, p.2]) (by simp at hp ⊢; omega) (by simp at hs; omega)
      have e2 : pre ++ [p.1, p.2] ++ fl sp = pre ++ fl (p :: sp) := by simp [fl]
      have e3 : (pre ++ [p.1, p.2]).length = pre.length + 2 := by simp
      rw [e2, e3] at ih
      exact Ev.step (fun k => by rw [st, h]; rfl) ih
theorem within_is (n : Int) (sp : List (Int × Int)) (hs : sp.length ≤ 1000) : Ev (fun k => spec_l2Within.f k (fl sp) n) (inSp n sp) := by
  have := within_loop n sp [] (by simp; omega) hs
  exact this

/-- What a strict name may begin with. -/
def FsOk (n : Int) : Bool := LtOk n || decide (n = 95) || inSp n spFirst
theorem impl_IsFirst_is (n : Int) : impl_IsFirst.f n = some (FsOk n) := by
  unfold impl_IsFirst.f FsOk
  rw [impl_IsLetter_is]
  simp only [Option.bind_some]
  cases LtOk n with
  | true => rfl
  | false =>
    rw [if_neg (by decide)]
    by_cases h : n = 95
    · rw [if_pos h, decide_eq_true h]; rfl
    · rw [if_neg h, decide_eq_false h]; rfl
theorem spec_IsFirst_ev (n : Int) : Ev (fun k => spec_IsFirst.f k n) (FsOk n) := by
  unfold spec_IsFirst.f FsOk
  rw [spec_IsLetter_is]
  simp only [Option.bind_some]
  cases LtOk n with
  | true => exact Ev.yes fun _ => rfl
  | false =>
    by_cases h : n = 95
    · rw [decide_eq_true h]
      exact Ev.yes fun _ => by rw [if_neg (by decide), if_pos h]; rfl
    · rw [decide_eq_false h]
      refine Ev.congr (f := fun k => (spec_l2Within.f k (fl spFirst) n).bind fun t => some t) (fun k => by rw [if_neg (by decide), if_neg h]; rfl) ?_
      refine Ev.bind (within_is n spFirst (by decide)) ?_
      exact Ev.now _

/-- What may follow. -/
def NxOk (n : Int) : Bool := FsOk n || inSp n spNext
theorem impl_IsNext_is (n : Int) : impl_IsNext.f n = some (NxOk n) := by
  unfold impl_IsNext.f NxOk
  rw [impl_IsFirst_is]
  simp only [Option.bind_some]
  cases FsOk n <;> rfl
def spNext2 : List (Int × Int) := [(48, 57), (768, 879), (8255, 8256)]
theorem inSp_next (n : Int) : inSp n spNext = (decide (n = 45) || decide (n = 46) || decide (n = 183) || inSp n spNext2) := by
  unfold inSp spNext spNext2
  simp only [List.any_cons, List.any_nil, Bool.or_false]
  rw [Bool.eq_iff_iff]
  simp only [Bool.or_eq_true, decide_eq_true_eq]
  omega
theorem spec_IsNext_ev (n : Int) : Ev (fun k => spec_IsNext.f k n) (NxOk n) := by
  unfold spec_IsNext.f NxOk
  refine Ev.bind (spec_IsFirst_ev n) ?_
  rw [inSp_next]
  cases FsOk n with
  | true => exact Ev.yes fun _ => rfl
  | false =>
    by_cases h1 : n = 45
    · subst h1; exact Ev.yes fun _ => rfl
    · by_cases h2 : n = 46
      · subst h2; exact Ev.yes fun _ => rfl
      · by_cases h3 : n = 183
        · subst h3; exact Ev.yes fun _ => rfl
        · rw [decide_eq_false h1, decide_eq_false h2, decide_eq_false h3]
          refine Ev.congr (f := fun k => (spec_l2Within.f k (fl spNext2) n).bind fun t => some t) (fun k => by rw [if_neg (by decide), if_neg h1, if_neg h2, if_neg h3]; rfl) ?_
          refine Ev.bind (within_is n spNext2 (by decide)) ?_
          exact Ev.now _

theorem same_bools (g f : Nat → Option Bool) (b : Bool) (hg : Ev g b) (hf : Ev f b) : Ev (fun k => (g k).bind fun t => ((f k).bind fun u => (if (u != t) = true then (some false) else (some true)))) true := by
  refine Ev.bind hg (Ev.bind hf ?_)
  simp only [bne_self_eq_false, Bool.false_eq_true, if_false]
  exact Ev.now _

theorem FnExactIsNext : laws_FnExactIsNext.Pure := by
  intro n _
  refine Ev.rounds (r := true) ?_
  unfold laws_FnExactIsNext.f
  exact same_bools _ _ _ (spec_IsNext_ev n) (Ev.yes fun _ => impl_IsNext_is n)

end Go.Proofs.Yteidmggjnhjofaa.Pure
