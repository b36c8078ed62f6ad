/- The statement of FnExactLines, over the printed functions: it is true for every input. No condition. -/
import Derived.Test.YteafgjebaedjbaaDoorPFnExactLinesx1
import Derived.Lib.ReplaceLaws
import Derived.Lib.CountLaws
namespace Go.Proofs.YteafgjebaedjbaaDoor.Pure
open Go.RowKit Go.Proofs.YteafgjebaedjbaaDoor.PFnExactLines Go.Proofs.YteafgjebaedjbaaDoorW.PrintWords Go.Proofs.YteafgjebaedjbaaDoorW.PrintLast
set_option linter.unusedVariables false
set_option linter.unusedSimpArgs false

/-- All instances replaced, in the library's words. -/
def RA (old new l : List UInt8) : List UInt8 := Lib.replaceK old new (Lib.count l old) l
theorem RA_is (old new l : List UInt8) (h : old ≠ new) : Lib.replaceAll l old new = RA old new l := by
  have e : (old == new) = false := beq_eq_false_iff_ne.mpr h
  unfold Lib.replaceAll Lib.replace Lib.replaceNum RA
  rw [e]
  simp
theorem RA_nil (old new : List UInt8) (h : old ≠ []) : RA old new [] = [] := by
  have hi : Lib.index [] old = -1 := by
    cases old with
    | nil => exact absurd rfl h
    | cons a t => rfl
  unfold RA
  rw [Lib.count_miss hi]
  rfl
theorem RA_hit (old new : List UInt8) (b : UInt8) (l : List UInt8) (h : old ≠ []) (hp : old.isPrefixOf (b :: l) = true) : RA old new (b :: l) = new ++ RA old new ((b :: l).drop old.length) := by
  have hi : Lib.index (b :: l) old = ((0 : Nat) : Int) := by unfold Lib.index; rw [if_pos hp]; rfl
  unfold RA
  rw [Lib.count_hit h hi, Nat.add_comm 1, Lib.replaceK_hit old new _ _ 0 hi, Nat.zero_add]
  simp
theorem RA_step (old new : List UInt8) (b : UInt8) (l : List UInt8) (h : old ≠ []) (hp : old.isPrefixOf (b :: l) = false) : RA old new (b :: l) = b :: RA old new l := by
  have hge := Lib.index_ge l old
  by_cases hm : Lib.index l old = -1
  · have hi : Lib.index (b :: l) old = -1 := by unfold Lib.index; rw [hp, hm]; rfl
    unfold RA
    rw [Lib.count_miss hi, Lib.count_miss hm]
    rfl
  · obtain ⟨j, hj⟩ : ∃ j : Nat, Lib.index l old = (j : Int) := ⟨(Lib.index l old).toNat, by omega⟩
    have hi : Lib.index (b :: l) old = ((j + 1 : Nat) : Int) := by
      unfold Lib.index
      rw [hp, hj]
      have : ((j : Int) == -1) = false := beq_eq_false_iff_ne.mpr (by omega)
      simp [this]
    unfold RA
    rw [Lib.count_hit h hi, Lib.count_hit h hj, Nat.add_comm 1, Nat.add_comm 1, Lib.replaceK_hit old new _ _ (j + 1) hi, Lib.replaceK_hit old new _ _ j hj]
    have e : (b :: l).drop (j + 1 + old.length) = l.drop (j + old.length) := by
      rw [show j + 1 + old.length = (j + old.length) + 1 by omega]
      rfl
    rw [e]
    simp
theorem RA_one (c d : UInt8) : ∀ l : List UInt8, RA [c] [d] l = l.map fun b => if b = c then d else b
  | [] => RA_nil _ _ (by simp)
  | b :: t => by
    by_cases hb : b = c
    · have hp : ([c] : List UInt8).isPrefixOf (b :: t) = true := by simp [List.isPrefixOf, hb]
      rw [RA_hit [c] [d] b t (by simp) hp]
      simp only [List.length_cons, List.length_nil, Nat.zero_add, List.drop_succ_cons, List.drop_zero, List.map_cons, if_pos hb]
      rw [RA_one c d t]
      rfl
    · have hp : ([c] : List UInt8).isPrefixOf (b :: t) = false := by
        simp [List.isPrefixOf]
        exact fun e => hb e.symm
      rw [RA_step [c] [d] b t (by simp) hp, RA_one c d t]
      simp only [List.map_cons, if_neg hb]
theorem linesG_is : ∀ (n : Nat) (l : List UInt8), l.length ≤ n → (RA [13, 10] [10] l).map (fun b => if b = 13 then 10 else b) = linesG false l
  | _, [], _ => by rw [RA_nil _ _ (by simp)]; rfl
  | 0, b :: t, h => by simp at h
  | n + 1, b :: t, h => by
    have ht : t.length ≤ n := by simpa using h
    by_cases hb : b = 13
    · subst hb
      cases t with
      | nil =>
        have hp : ([13, 10] : List UInt8).isPrefixOf [13] = false := by decide
        rw [RA_step _ _ _ _ (by simp) hp, RA_nil _ _ (by simp)]
        simp [linesG]
      | cons c t =>
        by_cases hc : c = 10
        · subst hc
          have hp : ([13, 10] : List UInt8).isPrefixOf (13 :: 10 :: t) = true := by simp [List.isPrefixOf]
          rw [RA_hit _ _ _ _ (by simp) hp]
          have ih := linesG_is n t (by simp at ht; omega)
          simp only [List.length_cons, List.length_nil, List.drop_succ_cons, List.drop_zero, List.map_append, Nat.zero_add]
          rw [ih]
          simp [linesG]
        · have hp : ([13, 10] : List UInt8).isPrefixOf (13 :: c :: t) = false := by
            simp [List.isPrefixOf]
            exact fun e => hc e.symm
          have ih := linesG_is n (c :: t) ht
          rw [RA_step _ _ _ _ (by simp) hp, List.map_cons, ih]
          simp [linesG, hc]
    · have hp : ([13, 10] : List UInt8).isPrefixOf (b :: t) = false := by
        cases t <;> simp [List.isPrefixOf] <;> (intro e; exact absurd e.symm hb)
      have ih := linesG_is n t ht
      rw [RA_step _ _ _ _ (by simp) hp, List.map_cons, ih]
      simp [linesG, hb]
theorem RA_le (old new : List UInt8) (h : old ≠ []) (hl : new.length ≤ old.length) : ∀ (n : Nat) (l : List UInt8), l.length ≤ n → (RA old new l).length ≤ l.length
  | _, [], _ => by rw [RA_nil _ _ h]; exact Nat.le_refl _
  | 0, b :: t, hn => by simp at hn
  | n + 1, b :: t, hn => by
    have ht : t.length ≤ n := by simpa using hn
    cases hp : old.isPrefixOf (b :: t) with
    | true =>
      rw [RA_hit _ _ _ _ h hp, List.length_append]
      have ho : 0 < old.length := by cases old with
        | nil => exact absurd rfl h
        | cons a s => simp
      have hd : ((b :: t).drop old.length).length = t.length + 1 - old.length := by rw [List.length_drop]; rfl
      have ih := RA_le old new h hl n ((b :: t).drop old.length) (by omega)
      have hpl : old.length ≤ (b :: t).length := (List.isPrefixOf_iff_prefix.1 hp).length_le
      simp only [List.length_cons] at hpl ⊢
      omega
    | false =>
      rw [RA_step _ _ _ _ h hp]
      have ih := RA_le old new h hl n t ht
      simp only [List.length_cons]
      omega

theorem size_of (l : List UInt8) : (⟨l.toArray⟩ : ByteArray).size = l.length := by simp [ByteArray.size]
theorem replaceAll_is (s old new : ByteArray) (h : s.size ≤ 2000000) (ho : 1 ≤ old.size) (hn : new.size ≤ 1000) : strings_ReplaceAll.f s old new = some ⟨(Lib.replaceAll s.data.toList old.data.toList new.data.toList).toArray⟩ := by
  unfold strings_ReplaceAll.f
  have hc := Lib.countB_mul_le old ho s.size s (Nat.le_refl _)
  have hc2 : Lib.countB s old ≤ s.size := Nat.le_trans (Nat.le_mul_of_pos_right _ (by omega)) hc
  have hc3 : Lib.countB s old * new.size ≤ 2000000 * 1000 := Nat.mul_le_mul (by omega) hn
  rw [if_pos ⟨by omega, ho, by omega⟩]
theorem impl_Lines_is (s : ByteArray) (h : s.size ≤ 1048576) : impl_Lines.f s = some ⟨(linesG false s.data.toList).toArray⟩ := by
  have hl : s.data.toList.length = s.size := data_length s
  have h1 := replaceAll_is s (⟨#[13, 10]⟩ : ByteArray) (⟨#[10]⟩ : ByteArray) (by omega) (by decide) (by decide)
  rw [RA_is _ _ _ (by decide)] at h1
  have hle := RA_le [13, 10] [10] (by simp) (by simp) s.data.toList.length s.data.toList (Nat.le_refl _)
  have h2 := replaceAll_is ⟨(RA [13, 10] [10] s.data.toList).toArray⟩ (⟨#[13]⟩ : ByteArray) (⟨#[10]⟩ : ByteArray) (by rw [size_of]; omega) (by decide) (by decide)
  rw [RA_is _ _ _ (by decide)] at h2
  have e1 : (⟨#[13, 10]⟩ : ByteArray).data.toList = [13, 10] := rfl
  have e2 : (⟨#[10]⟩ : ByteArray).data.toList = [10] := rfl
  have e3 : (⟨#[13]⟩ : ByteArray).data.toList = [13] := rfl
  rw [e1, e2] at h1
  rw [e3, e2, RA_one, linesG_is s.data.toList.length s.data.toList (Nat.le_refl _)] at h2
  unfold impl_Lines.f
  rw [h1, Option.bind_some, h2]
  rfl
theorem spec_Lines_is (s : ByteArray) (h : s.size ≤ 1048576) : spec_Lines.f s = some ⟨(linesG false s.data.toList).toArray⟩ := by
  unfold spec_Lines.f
  rw [if_pos (by omega)]

theorem FnExactLines : laws_FnExactLines.Pure := by
  intro s _
  unfold laws_FnExactLines.f
  by_cases h : (s.size : Int) > 1048576
  · rw [if_pos h]
  · rw [if_neg h, spec_Lines_is s (by omega), impl_Lines_is s (by omega)]
    simp

end Go.Proofs.YteafgjebaedjbaaDoor.Pure
