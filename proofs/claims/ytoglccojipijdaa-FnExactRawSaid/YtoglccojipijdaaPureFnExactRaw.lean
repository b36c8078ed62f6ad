/- The statement of FnExactRaw, over the printed functions: it is true for every input. No condition. -/
import Derived.Test.YtoglccojipijdaaPFnExactRawx1
namespace Go.Proofs.Ytoglccojipijdaa.Pure
open Go.RowKit Go.Proofs.Ytoglccojipijdaa.PFnExactRaw Go.Proofs.YtoglccojipijdaaW.PrintWords Go.Proofs.YtoglccojipijdaaW.PrintLast
set_option linter.unusedVariables false
set_option linter.unusedSimpArgs false

theorem Ev.yes {α : Type} {g : Nat → Option α} {r : α} (h : ∀ k, g k = some r) : Ev g r := ⟨0, fun k _ => h k⟩
theorem Ev.at1 {α : Type} {g : Nat → Option α} {r : α} (h : ∀ k, g (k + 1) = some r) : Ev g r := Ev.step (f := fun _ => some r) h (Ev.now r)
theorem wrap_id (n : Int) (h0 : -9223372036854775808 ≤ n) (h1 : n ≤ 9223372036854775807) : wrap64 n = n := by unfold wrap64; omega

/-- Names behind each other, a blank ahead of each and one behind all. -/
def Jn : List (List UInt8) → List UInt8
  | [] => [32]
  | w :: ws => 32 :: (w ++ Jn ws)
theorem Jn_head : ∀ ws : List (List UInt8), ∃ t, Jn ws = 32 :: t
  | [] => ⟨[], rfl⟩
  | w :: ws => ⟨_, rfl⟩
theorem contains_cons (b : UInt8) (l sub : List UInt8) : Lib.contains (b :: l) sub = (sub.isPrefixOf (b :: l) || Lib.contains l sub) := by
  have hg := Lib.index_ge l sub
  unfold Lib.contains
  rw [Lib.index]
  by_cases h : sub.isPrefixOf (b :: l) = true
  · rw [if_pos h, h]; rfl
  · rw [if_neg h, Bool.eq_false_iff.mpr h, Bool.false_or]
    by_cases h2 : Lib.index l sub = -1
    · rw [h2]; rfl
    · rw [if_neg (by simpa using h2)]
      have e : (0 ≤ Lib.index l sub + 1) = (0 ≤ Lib.index l sub) := by apply propext; omega
      rw [decide_eq_decide]
      omega
theorem contains_nil (sub : List UInt8) : Lib.contains [] sub = sub.isEmpty := by
  unfold Lib.contains
  rw [Lib.index]
  cases sub <;> rfl
theorem prefix_word (t : List UInt8) : ∀ n w : List UInt8, 32 ∉ n → 32 ∉ w → (n ++ [32]).isPrefixOf (w ++ 32 :: t) = decide (n = w)
  | [], [], _, _ => by simp
  | [], b :: w, _, hw => by
    have : b ≠ 32 := fun e => hw (by simp [e])
    have h : ((32 : UInt8) == b) = false := by simpa using Ne.symm this
    simp [List.isPrefixOf, h]
  | a :: n, [], hn, _ => by
    have : a ≠ 32 := fun e => hn (by simp [e])
    have h : (a == (32 : UInt8)) = false := by simpa using this
    simp [List.isPrefixOf, h]
  | a :: n, b :: w, hn, hw => by
    have ih := prefix_word t n w (fun h => hn (List.mem_cons_of_mem _ h)) (fun h => hw (List.mem_cons_of_mem _ h))
    by_cases e : a = b
    · subst e
      simp only [List.cons_append, List.isPrefixOf, beq_self_eq_true, Bool.true_and]
      rw [ih]
      simp
    · have : (a == b) = false := by simpa using e
      simp [List.isPrefixOf, this, e]
theorem contains_skip (L p : List UInt8) : ∀ w : List UInt8, 32 ∉ w → Lib.contains (w ++ L) (32 :: p) = Lib.contains L (32 :: p)
  | [], _ => rfl
  | b :: w, hw => by
    have : b ≠ 32 := fun e => hw (by simp [e])
    have h : ((32 : UInt8) == b) = false := by simpa using Ne.symm this
    rw [List.cons_append, contains_cons, contains_skip L p w (fun h => hw (List.mem_cons_of_mem _ h))]
    simp [List.isPrefixOf, h]
theorem contains_word (n : List UInt8) (hn : 32 ∉ n) (h0 : n ≠ []) : ∀ ws : List (List UInt8), (∀ w ∈ ws, 32 ∉ w) → Lib.contains (Jn ws) (32 :: (n ++ [32])) = decide (n ∈ ws)
  | [], _ => by
    unfold Jn
    rw [contains_cons, contains_nil]
    cases n with
    | nil => exact absurd rfl h0
    | cons a n => simp [List.isPrefixOf]
  | w :: ws, hw => by
    obtain ⟨t, ht⟩ := Jn_head ws
    have hw0 := hw w (List.mem_cons_self ..)
    unfold Jn
    rw [contains_cons, contains_skip _ _ w hw0, contains_word n hn h0 ws (fun x hx => hw x (List.mem_cons_of_mem _ hx)), ht]
    simp only [List.isPrefixOf, beq_self_eq_true, Bool.true_and]
    rw [prefix_word t n w hn hw0]
    simp
theorem contains_blank (l : List UInt8) (c : UInt8) : Lib.contains l [c] = decide (c ∈ l) := by
  induction l with
  | nil => rw [contains_nil]; rfl
  | cons b l ih =>
    rw [contains_cons, ih]
    by_cases e : c = b
    · subst e; simp [List.isPrefixOf]
    · have h : (c == b) = false := by simpa using e
      simp [List.isPrefixOf, h, e]
/-- Is a name one of some: what both sides come to. -/
def isIn (a : ByteArray) (ws : List (List UInt8)) : Bool := decide (a.data.toList ∈ ws)
/-- The words of a row of names, and that the row reads so. -/
def Row (names : ByteArray) (ws : List (List UInt8)) : Prop := 32 :: (names.data.toList ++ [32]) = Jn ws ∧ (∀ w ∈ ws, 32 ∉ w ∧ w ≠ []) ∧ names.size ≤ 1000000

theorem data_append (a b : ByteArray) : (a ++ b).data.toList = a.data.toList ++ b.data.toList := by simp
theorem isOneOf_is (a names : ByteArray) (ws : List (List UInt8)) (h : Row names ws) (ha : a.size ≤ 1048576) : impl_isOneOf.f a names = some (isIn a ws) := by
  obtain ⟨hJ, hws, hn⟩ := h
  unfold impl_isOneOf.f isIn
  rw [ByteArray.toList_eq]
  by_cases h0 : a.data.toList = []
  · rw [if_pos h0, h0]
    have : ¬ ([] : List UInt8) ∈ ws := fun hm => (hws _ hm).2 rfl
    simp [this]
  · rw [if_neg h0]
    have c1 : strings_Contains.f a (⟨#[32]⟩ : ByteArray) = some (decide (32 ∈ a.data.toList)) := by
      unfold strings_Contains.f
      rw [if_pos (by omega)]
      congr 1
      exact contains_blank _ _
    rw [c1]
    simp only [Option.bind_some]
    by_cases hb : 32 ∈ a.data.toList
    · rw [if_pos (by simpa using hb)]
      have : ¬ a.data.toList ∈ ws := fun hm => (hws _ hm).1 hb
      simp [this]
    · rw [if_neg (by simpa using hb)]
      have s1 : ((⟨#[32]⟩ : ByteArray) ++ names).size = 1 + names.size := by rw [ByteArray.size_append]; rfl
      have s2 : ((⟨#[32]⟩ : ByteArray) ++ a).size = 1 + a.size := by rw [ByteArray.size_append]; rfl
      have c2 : strings_Contains.f (((⟨#[32]⟩ : ByteArray) ++ names) ++ (⟨#[32]⟩ : ByteArray)) (((⟨#[32]⟩ : ByteArray) ++ a) ++ (⟨#[32]⟩ : ByteArray)) = some (decide (a.data.toList ∈ ws)) := by
        unfold strings_Contains.f
        have s3 : (((⟨#[32]⟩ : ByteArray) ++ names) ++ (⟨#[32]⟩ : ByteArray)).size = 1 + names.size + 1 := by rw [ByteArray.size_append, s1]; rfl
        rw [if_pos (by omega)]
        congr 1
        rw [data_append, data_append, data_append, data_append]
        have e1 : (⟨#[32]⟩ : ByteArray).data.toList ++ names.data.toList ++ (⟨#[32]⟩ : ByteArray).data.toList = 32 :: (names.data.toList ++ [32]) := rfl
        have e2 : (⟨#[32]⟩ : ByteArray).data.toList ++ a.data.toList ++ (⟨#[32]⟩ : ByteArray).data.toList = 32 :: (a.data.toList ++ [32]) := rfl
        rw [e1, e2, hJ, contains_word _ hb h0 ws (fun w hw => (hws w hw).1)]
      rw [c2]
      first
      | (simp only [s1, s2]; rw [if_pos (by omega), if_pos (by omega), if_pos (by omega), if_pos (by omega)]; rfl)
      | (rw [if_pos (by omega), if_pos (by omega), if_pos (by omega), if_pos (by omega)]; rfl)

/-- The names that are Raw. -/
def wsRaw : List (List UInt8) := [[115, 99, 114, 105, 112, 116], [115, 116, 121, 108, 101], [116, 105, 116, 108, 101], [116, 101, 120, 116, 97, 114, 101, 97]]
theorem impl_Raw_is (a : ByteArray) (ha : a.size ≤ 1048576) : impl_Raw.f a = some (isIn a wsRaw) := by
  unfold impl_Raw.f
  rw [isOneOf_is a _ wsRaw ⟨rfl, by decide, by decide⟩ ha]
  rfl
theorem spec_Raw_is (a : ByteArray) : spec_Raw.f a = some (isIn a wsRaw) := by
  unfold spec_Raw.f isIn wsRaw
  rw [ByteArray.toList_eq]
  generalize a.data.toList = l
  simp only [List.mem_cons, List.not_mem_nil, or_false]
  by_cases h1 : l = [115, 99, 114, 105, 112, 116]
  · simp [h1]
  · rw [if_neg h1]
    by_cases h2 : l = [115, 116, 121, 108, 101]
    · simp [h2]
    · rw [if_neg h2]
      by_cases h3 : l = [116, 105, 116, 108, 101]
      · simp [h3]
      · rw [if_neg h3]
        by_cases h4 : l = [116, 101, 120, 116, 97, 114, 101, 97]
        · simp [h4]
        · simp [h1, h2, h3, h4]

theorem FnExactRaw : laws_FnExactRaw.Pure := by
  intro a _
  unfold laws_FnExactRaw.f
  by_cases h : (a.size : Int) > 1048576
  · rw [if_pos h]
  · rw [if_neg h, spec_Raw_is, impl_Raw_is a (by omega)]
    simp

end Go.Proofs.Ytoglccojipijdaa.Pure
