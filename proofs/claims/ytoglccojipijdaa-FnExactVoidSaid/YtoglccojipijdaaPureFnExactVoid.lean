/- The statement of FnExactVoid, over the printed functions: it is true for every input. No condition. -/
import Derived.Test.YtoglccojipijdaaPFnExactVoidx1
namespace Go.Proofs.Ytoglccojipijdaa.Pure
open Go.RowKit Go.Proofs.Ytoglccojipijdaa.PFnExactVoid Go.Proofs.YtoglccojipijdaaW.PrintWords Go.Proofs.YtoglccojipijdaaW.PrintLast
set_option linter.unusedVariables false
set_option linter.unusedSimpArgs false

theorem Ev.yes {α : Type} {g : Nat → Option α} {r : α} (h : ∀ k, g k = some r) : Ev g r := ⟨0, fun k _ => h k⟩
theorem Ev.at1 {α : Type} {g : Nat → Option α} {r : α} (h : ∀ k, g (k + 1) = some r) : Ev g r := Ev.step (f := fun _ => some r) h (Ev.now r)
theorem wrap_id (n : Int) (h0 : -9223372036854775808 ≤ n) (h1 : n ≤ 9223372036854775807) : wrap64 n = n := by unfold wrap64; omega

/-- Names behind each other, a blank ahead of each and one behind all. -/
def Jn : List (List UInt8) → List UInt8
  | [] => [32]
  | w :: ws => 32 :: (w ++ Jn ws)
theorem Jn_head : ∀ ws : List (List UInt8), ∃ t, Jn ws = 32 :: t
  | [] => ⟨[], rfl⟩
  | w :: ws => ⟨_, rfl⟩
theorem contains_cons (b : UInt8) (l sub : List UInt8) : Lib.contains (b :: l) sub = (sub.isPrefixOf (b :: l) || Lib.contains l sub) := by
  have hg := Lib.index_ge l sub
  unfold Lib.contains
  rw [Lib.index]
  by_cases h : sub.isPrefixOf (b :: l) = true
  · rw [if_pos h, h]; rfl
  · rw [if_neg h, Bool.eq_false_iff.mpr h, Bool.false_or]
    by_cases h2 : Lib.index l sub = -1
    · rw [h2]; rfl
    · rw [if_neg (by simpa using h2)]
      have e : (0 ≤ Lib.index l sub + 1) = (0 ≤ Lib.index l sub) := by apply propext; omega
      rw [decide_eq_decide]
      omega
theorem contains_nil (sub : List UInt8) : Lib.contains [] sub = sub.isEmpty := by
  unfold Lib.contains
  rw [Lib.index]
  cases sub <;> rfl
theorem prefix_word (t : List UInt8) : ∀ n w : List UInt8, 32 ∉ n → 32 ∉ w → (n ++ [32]).isPrefixOf (w ++ 32 :: t) = decide (n = w)
  | [], [], _, _ => by simp
  | [], b :: w, _, hw => by
    have : b ≠ 32 := fun e => hw (by simp [e])
    have h : ((32 : UInt8) == b) = false := by simpa using Ne.symm this
    simp [List.isPrefixOf, h]
  | a :: n, [], hn, _ => by
    have : a ≠ 32 := fun e => hn (by simp [e])
    have h : (a == (32 : UInt8)) = false := by simpa using this
    simp [List.isPrefixOf, h]
  | a :: n, b :: w, hn, hw => by
    have ih := prefix_word t n w (fun h => hn (List.mem_cons_of_mem _ h)) (fun h => hw (List.mem_cons_of_mem _ h))
    by_cases e : a = b
    · subst e
      simp only [List.cons_append, List.isPrefixOf, beq_self_eq_true, Bool.true_and]
      rw [ih]
      simp
    · have : (a == b) = false := by simpa using e
      simp [List.isPrefixOf, this, e]
theorem contains_skip (L p : List UInt8) : ∀ w : List UInt8, 32 ∉ w → Lib.contains (w ++ L) (32 :: p) = Lib.contains L (32 :: p)
  | [], _ => rfl
  | b :: w, hw => by
    have : b ≠ 32 := fun e => hw (by simp [e])
    have h : ((32 : UInt8) == b) = false := by simpa using Ne.symm this
    rw [List.cons_append, contains_cons, contains_skip L p w (fun h => hw (List.mem_cons_of_mem _ h))]
    simp [List.isPrefixOf, h]
theorem contains_word (n : List UInt8) (hn : 32 ∉ n) (h0 : n ≠ []) : ∀ ws : List (List UInt8), (∀ w ∈ ws, 32 ∉ w) → Lib.contains (Jn ws) (32 :: (n ++ [32])) = decide (n ∈ ws)
  | [], _ => by
    unfold Jn
    rw [contains_cons, contains_nil]
    cases n with
    | nil => exact absurd rfl h0
    | cons a n => simp [List.isPrefixOf]
  | w :: ws, hw => by
    obtain ⟨t, ht⟩ := Jn_head ws
    have hw0 := hw w (List.mem_cons_self ..)
    unfold Jn
    rw [contains_cons, contains_skip _ _ w hw0, contains_word n hn h0 ws (fun x hx => hw x (List.mem_cons_of_mem _ hx)), ht]
    simp only [List.isPrefixOf, beq_self_eq_true, Bool.true_and]
    rw [prefix_word t n w hn hw0]
    simp
theorem contains_blank (l : List UInt8) (c : UInt8) : Lib.contains l [c] = decide (c ∈ l) := by
  induction l with
  | nil => rw [contains_nil]; rfl
  | cons b l ih =>
    rw [contains_cons, ih]
    by_cases e : c = b
    · subst e; simp [List.isPrefixOf]
    · have h : (c == b) = false := by simpa using e
      simp [List.isPrefixOf, h, e]
/-- Is a name one of some: what both sides come to. -/
def isIn (a : ByteArray) (ws : List (List UInt8)) : Bool := decide (a.data.toList ∈ ws)
/-- The words of a row of names, and that the row reads so. -/
def Row (names : ByteArray) (ws : List (List UInt8)) : Prop := 32 :: (names.data.toList ++ [32]) = Jn ws ∧ (∀ w ∈ ws, 32 ∉ w ∧ w ≠ []) ∧ names.size ≤ 1000000

theorem data_append (a b : ByteArray) : (a ++ b).data.toList = a.data.toList ++ b.data.toList := by simp
theorem isOneOf_is (a names : ByteArray) (ws : List (List UInt8)) (h : Row names ws) (ha : a.size ≤ 1048576) : impl_isOneOf.f a names = some (isIn a ws) := by
  obtain ⟨hJ, hws, hn⟩ := h
  unfold impl_isOneOf.f isIn
  rw [ByteArray.toList_eq]
  by_cases h0 : a.data.toList = []
  · rw [if_pos h0, h0]
    have : ¬ ([] : List UInt8) ∈ ws := fun hm => (hws _ hm).2 rfl
    simp [this]
  · rw [if_neg h0]
    have c1 : strings_Contains.f a (⟨#[32]⟩ : ByteArray) = some (decide (32 ∈ a.data.toList)) := by
      unfold strings_Contains.f
      rw [if_pos (by omega)]
      congr 1
      exact contains_blank _ _
    rw [c1]
    simp only [Option.bind_some]
    by_cases hb : 32 ∈ a.data.toList
    · rw [if_pos (by simpa using hb)]
      have : ¬ a.data.toList ∈ ws := fun hm => (hws _ hm).1 hb
      simp [this]
    · rw [if_neg (by simpa using hb)]
      have s1 : ((⟨#[32]⟩ : ByteArray) ++ names).size = 1 + names.size := by rw [ByteArray.size_append]; rfl
      have s2 : ((⟨#[32]⟩ : ByteArray) ++ a).size = 1 + a.size := by rw [ByteArray.size_append]; rfl
      have c2 : strings_Contains.f (((⟨#[32]⟩ : ByteArray) ++ names) ++ (⟨#[32]⟩ : ByteArray)) (((⟨#[32]⟩ : ByteArray) ++ a) ++ (⟨#[32]⟩ : ByteArray)) = some (decide (a.data.toList ∈ ws)) := by
        unfold strings_Contains.f
        have s3 : (((⟨#[32]⟩ : ByteArray) ++ names) ++ (⟨#[32]⟩ : ByteArray)).size = 1 + names.size + 1 := by rw [ByteArray.size_append, s1]; rfl
        rw [if_pos (by omega)]
        congr 1
        rw [data_append, data_append, data_append, data_append]
        have e1 : (⟨#[32]⟩ : ByteArray).data.toList ++ names.data.toList ++ (⟨#[32]⟩ : ByteArray).data.toList = 32 :: (names.data.toList ++ [32]) := rfl
        have e2 : (⟨#[32]⟩ : ByteArray).data.toList ++ a.data.toList ++ (⟨#[32]⟩ : ByteArray).data.toList = 32 :: (a.data.toList ++ [32]) := rfl
        rw [e1, e2, hJ, contains_word _ hb h0 ws (fun w hw => (hws w hw).1)]
      rw [c2]
      first
      | (simp only [s1, s2]; rw [if_pos (by omega), if_pos (by omega), if_pos (by omega), if_pos (by omega)]; rfl)
      | (rw [if_pos (by omega), if_pos (by omega), if_pos (by omega), if_pos (by omega)]; rfl)

theorem bytes_same (a b : ByteArray) : (a.toList = b.toList) = (a = b) := by
  apply propext
  rw [ByteArray.toList_eq, ByteArray.toList_eq]
  constructor
  · intro h
    cases a with | mk x => cases b with | mk y => simp at h; rw [h]
  · intro h; rw [h]
theorem l7Is_loop (a : ByteArray) (l : List ByteArray) (hl : l.length ≤ 1000) (d : Nat) : ∀ i : Nat, i + d = l.length → Ev (fun k => spec_l7Is.l0 k a l i) (isIn a ((l.drop i).map (·.data.toList))) := by
  induction d with
  | zero =>
    intro i hi
    refine Ev.at1 fun k => ?_
    simp only [spec_l7Is.l0]
    rw [if_neg (by omega), List.drop_of_length_le (by omega)]
    rfl
  | succ d ih =>
    intro i hi
    have hlt : i < l.length := by omega
    have hd : l.drop i = l[i] :: l.drop (i + 1) := List.drop_eq_getElem_cons hlt
    have hr : rdOf ByteArray.empty l (i : Int) = l[i] := by
      unfold rdOf
      rw [Int.toNat_natCast, List.getD_eq_getElem?_getD, List.getElem?_eq_getElem hlt]; rfl
    have hw : wrap64 ((i : Int) + 1) = ((i + 1 : Nat) : Int) := by rw [wrap_id _ (by omega) (by omega)]; omega
    by_cases e : l[i] = a
    · refine Ev.at1 fun k => ?_
      simp only [spec_l7Is.l0]
      rw [if_pos (by omega), if_pos (by omega), hr, if_pos (by rw [e]), hd]
      unfold isIn
      simp [e]
    · refine Ev.step (f := fun k => spec_l7Is.l0 k a l ((i + 1 : Nat) : Int)) (fun k => ?_) ?_
      · simp only [spec_l7Is.l0]
        rw [if_pos (by omega), if_pos (by omega), hr, if_neg (by rw [bytes_same]; exact e), hw]
      · have e2 : isIn a ((l.drop i).map (·.data.toList)) = isIn a ((l.drop (i + 1)).map (·.data.toList)) := by
          unfold isIn
          have : ¬ a.data.toList = l[i].data.toList := fun h => e (by rw [← bytes_same, ByteArray.toList_eq, ByteArray.toList_eq]; exact h.symm)
          rw [hd, List.map_cons, decide_eq_decide, List.mem_cons]
          simp only [this, false_or]
        rw [e2]
        exact ih (i + 1) (by omega)
theorem l7Is_is (a : ByteArray) (l : List ByteArray) (hl : l.length ≤ 1000) : Ev (fun k => spec_l7Is.f k a l) (isIn a (l.map (·.data.toList))) := by
  have := l7Is_loop a l hl l.length 0 (by omega)
  exact this
theorem tag_law (g f : Nat → Option Bool) (b : Bool) (hg : Ev g b) (hf : Ev f b) : Ev (fun k => (g k).bind fun t => ((f k).bind fun u => (if (u != t) = true then (some false) else (some true)))) true := by
  refine Ev.bind hg (Ev.bind hf ?_)
  simp only [bne_self_eq_false, Bool.false_eq_true, if_false]
  exact Ev.now _

/-- The names that are Void. -/
def wsVoid : List (List UInt8) := [[98, 114], [104, 114], [105, 109, 103], [105, 110, 112, 117, 116], [109, 101, 116, 97], [108, 105, 110, 107], [98, 97, 115, 101], [119, 98, 114], [99, 111, 108]]
theorem impl_Void_is (a : ByteArray) (ha : a.size ≤ 1048576) : impl_Void.f a = some (isIn a wsVoid) := by
  unfold impl_Void.f
  rw [isOneOf_is a _ wsVoid ⟨rfl, by decide, by decide⟩ ha]
  rfl
theorem spec_Void_is (a : ByteArray) : Ev (fun k => spec_Void.f k a) (isIn a wsVoid) := by
  unfold spec_Void.f
  refine Ev.bind (l7Is_is a _ (by decide)) ?_
  exact Ev.now _

theorem FnExactVoid : laws_FnExactVoid.Pure := by
  intro a _
  refine Ev.rounds (r := true) ?_
  unfold laws_FnExactVoid.f
  by_cases h : (a.size : Int) > 1048576
  · simp only [if_pos h]; exact Ev.now _
  · simp only [if_neg h]
    exact tag_law _ _ _ (spec_Void_is a) (Ev.yes fun _ => impl_Void_is a (by omega))

end Go.Proofs.Ytoglccojipijdaa.Pure
