/- The statement of FnExactNameSign, over the printed functions: it is true for every input. No condition. -/
import Derived.Test.YteidmggjnhjofaaPFnExactNameSignx1
namespace Go.Proofs.Yteidmggjnhjofaa.Pure
open Go.RowKit Go.Proofs.Yteidmggjnhjofaa.PFnExactNameSign Go.Proofs.YteidmggjnhjofaaW.PrintWords Go.Proofs.YteidmggjnhjofaaW.PrintLast
set_option linter.unusedVariables false
set_option linter.unusedSimpArgs false

theorem Ev.yes {α : Type} {g : Nat → Option α} {r : α} (h : ∀ k, g k = some r) : Ev g r := ⟨0, fun k _ => h k⟩
theorem Ev.at1 {α : Type} {g : Nat → Option α} {r : α} (h : ∀ k, g (k + 1) = some r) : Ev g r := Ev.step (f := fun _ => some r) h (Ev.now r)
theorem wrap_id (n : Int) (h0 : -9223372036854775808 ≤ n) (h1 : n ≤ 9223372036854775807) : wrap64 n = n := by unfold wrap64; omega

theorem namesign_loop (a : ByteArray) (t : List ByteArray) (hl : t.length = 14) (d : Nat) : ∀ i : Nat, i + d = 14 → Ev (fun k => spec_NameSign.l0 k a nsTab t (i : Int)) (nsFrom a (t.drop i) (nsTab.drop i)) := by
  have hn : nsTab.length = 14 := rfl
  induction d with
  | zero =>
    intro i hi
    refine Ev.at1 fun k => ?_
    simp only [spec_NameSign.l0]
    rw [if_neg (by omega), List.drop_of_length_le (by omega), nsFrom_end]
  | succ d ih =>
    intro i hi
    have q1 : (i : Int) < (t.length : Int) := by omega
    have q2 : (0 : Int) ≤ (i : Int) := by omega
    have q3 : (i : Int) < (nsTab.length : Int) := by omega
    have hw : wrap64 ((i : Int) + 1) = ((i + 1 : Nat) : Int) := by rw [wrap_id _ (by omega) (by omega)]; omega
    rw [nsFrom_at a t nsTab i (by omega) (by omega)]
    by_cases c : (rdOf ByteArray.empty t (i : Int)).toList = a.toList
    · rw [if_pos c]
      refine Ev.at1 fun k => ?_
      simp only [spec_NameSign.l0]
      rw [if_pos q1, if_pos q2, if_pos c, if_pos q3]
    · rw [if_neg c]
      refine Ev.step (fun k => ?_) (ih (i + 1) (by omega))
      simp only [spec_NameSign.l0]
      rw [if_pos q1, if_pos q2, if_neg c, hw]
theorem named_same : impl_Named.f = spec_Named.f := rfl
theorem named_told : ∃ t, spec_Named.f = some t ∧ t.length = 14 := ⟨_, rfl, rfl⟩
/-- The sign of a name; -1 of others. -/
def NSg (a : ByteArray) : Int := nsFrom a (spec_Named.f.getD []) nsTab
theorem impl_NameSign_is (a : ByteArray) : impl_NameSign.f a = some (NSg a) := by
  obtain ⟨t, ht, hl⟩ := named_told
  unfold impl_NameSign.f NSg
  rw [named_same, ht]
  simp only [Option.bind_some, Option.getD_some]
  rw [if_pos hl]
theorem spec_NameSign_ev (a : ByteArray) : Ev (fun k => spec_NameSign.f k a) (NSg a) := by
  obtain ⟨t, ht, hl⟩ := named_told
  unfold spec_NameSign.f NSg
  rw [ht]
  simp only [Option.bind_some, Option.getD_some]
  exact namesign_loop a t hl 14 0 rfl

theorem same_ints (g : Nat → Option Int) (f : Nat → Option Int) (b : Int) (hg : Ev g b) (hf : Ev f b) : Ev (fun k => (g k).bind fun t => ((f k).bind fun u => (if u = t then (some true) else (some false)))) true := by
  refine Ev.bind hg (Ev.bind hf ?_)
  simp only [if_true]
  exact Ev.now _

theorem FnExactNameSign : laws_FnExactNameSign.Pure := by
  intro a _
  refine Ev.rounds (r := true) ?_
  unfold laws_FnExactNameSign.f
  by_cases h : (a.size : Int) > 1048576
  · simp only [if_pos h]; exact Ev.now _
  · simp only [if_neg h]
    exact same_ints _ _ _ (spec_NameSign_ev a) (Ev.yes fun _ => impl_NameSign_is a)

end Go.Proofs.Yteidmggjnhjofaa.Pure
