/- The statement of FnKinds, over the printed functions: it is true for every input within memory. -/
import Derived.Test.YteafgjebaedjbaaDoorPFnKindsx4
import Derived.Lib.ReplaceLaws
import Derived.Lib.CountLaws
namespace Go.Proofs.YteafgjebaedjbaaDoor.Pure
open Go.RowKit Go.Proofs.YteafgjebaedjbaaDoor.PFnKinds Go.Proofs.YteafgjebaedjbaaDoorW.PrintWords Go.Proofs.YteafgjebaedjbaaDoorW.PrintLast
set_option linter.unusedVariables false
set_option linter.unusedSimpArgs false

theorem Ev.yes {α : Type} {g : Nat → Option α} {r : α} (h : ∀ k, g k = some r) : Ev g r := ⟨0, fun k _ => h k⟩
theorem Ev.at1 {α : Type} {g : Nat → Option α} {r : α} (h : ∀ k, g (k + 1) = some r) : Ev g r := Ev.step (f := fun _ => some r) h (Ev.now r)
theorem wrap_id (n : Int) (h0 : -9223372036854775808 ≤ n) (h1 : n ≤ 9223372036854775807) : wrap64 n = n := by unfold wrap64; omega

theorem and255 (v : Int) : 0 ≤ Go.bits .and .i64 v 255 ∧ Go.bits .and .i64 v 255 ≤ 255 := by
  have e : (BitVec.ofInt IntKind.i64.bits v &&& BitVec.ofInt IntKind.i64.bits 255).toNat ≤ 255 := by
    rw [BitVec.toNat_and]
    exact Nat.le_trans Nat.and_le_right (by decide)
  unfold Go.bits
  simp only
  rw [IntKind.wrap_i64]
  omega
/-- One byte that is drawn. -/
theorem l1Byte_ex (b : List Int) (i h : Int) (hi : 0 ≤ i) (hb : b.length ≤ 1000000000000000000) : ∃ x i' h', spec_l1Byte.f b i h = some (x, i', h') ∧ 0 ≤ x ∧ x ≤ 255 ∧ 0 ≤ i' := by
  unfold spec_l1Byte.f
  by_cases c : i < (b.length : Int)
  · rw [if_pos c, if_pos hi]
    refine ⟨_, _, _, rfl, (and255 _).1, (and255 _).2, ?_⟩
    rw [wrap_id _ (by omega) (by omega)]
    omega
  · rw [if_neg c]
    exact ⟨_, _, _, rfl, (and255 _).1, (and255 _).2, hi⟩
theorem l1Below_ex (b : List Int) (i h n : Int) (hi : 0 ≤ i) (hb : b.length ≤ 1000000000000000000) (h0 : 0 < n) (h1 : n ≤ 256) : ∃ x i' h', spec_l1Below.f b i h n = some (x, i', h') ∧ 0 ≤ x ∧ x < n ∧ 0 ≤ i' := by
  obtain ⟨x, i', h', e, x0, x1, e0⟩ := l1Byte_ex b i h hi hb
  unfold spec_l1Below.f
  rw [if_neg (by omega), if_pos h1, e]
  simp only [Option.bind_some]
  rw [if_neg (by omega)]
  refine ⟨_, _, _, rfl, ?_, ?_, e0⟩
  · rw [Int.tmod_eq_emod_of_nonneg x0]; exact Int.emod_nonneg _ (by omega)
  · rw [Int.tmod_eq_emod_of_nonneg x0]; exact Int.emod_lt_of_pos _ h0
theorem l1New_loop (b : List Int) (hb : b.length ≤ 1000000000000000000) (d : Nat) : ∀ (i : Nat) (h : Int), b.length ≤ i + d → i ≤ b.length → ∃ h', Ev (fun k => spec_l1New.l0 k b h (i : Int)) (b, 0, h') := by
  induction d with
  | zero =>
    intro i h hi hl
    refine ⟨h, Ev.at1 fun k => ?_⟩
    simp only [spec_l1New.l0]
    rw [if_neg (by omega)]
  | succ d ih =>
    intro i h hi hl
    by_cases c : (i : Int) < (b.length : Int)
    · by_cases c2 : (i : Int) < 4000
      · have q : (0 : Int) ≤ (i : Int) := by omega
        have hw : wrap64 ((i : Int) + 1) = ((i + 1 : Nat) : Int) := by rw [wrap_id _ (by omega) (by omega)]; omega
        obtain ⟨h', e⟩ := ih (i + 1) (Go.bits .and .i64 (wrap64 ((wrap64 ((wrap64 (h * 131)) + (wrap64 (rd b i)))) + 7)) 1073741823) (by omega) (by omega)
        refine ⟨h', Ev.step (fun k => ?_) e⟩
        simp only [spec_l1New.l0]
        rw [if_pos c, if_pos c2, if_pos q, hw]
      · refine ⟨h, Ev.at1 fun k => ?_⟩
        simp only [spec_l1New.l0]
        rw [if_pos c, if_neg c2]
    · refine ⟨h, Ev.at1 fun k => ?_⟩
      simp only [spec_l1New.l0]
      rw [if_neg c]
theorem l1New_ex (b : List Int) (hb : b.length ≤ 1000000000000000000) : ∃ h', Ev (fun k => spec_l1New.f k b) (b, 0, h') := by
  unfold spec_l1New.f
  exact l1New_loop b hb b.length 0 _ (by omega) (by omega)

theorem l1Pick_ex (b : List Int) (i h : Int) (l : List ByteArray) (hi : 0 ≤ i) (hb : b.length ≤ 1000000000000000000) (h0 : 0 < l.length) (h1 : l.length ≤ 256) : ∃ x i' h', spec_l1Pick.f b i h l = some (x, i', h') ∧ x ∈ l ∧ 0 ≤ i' := by
  obtain ⟨x, i', h', e, x0, x1, e0⟩ := l1Below_ex b i h (l.length : Int) hi hb (by omega) (by omega)
  unfold spec_l1Pick.f
  rw [e]
  simp only [Option.bind_some]
  rw [if_pos x0, if_pos x1]
  refine ⟨_, _, _, rfl, ?_, e0⟩
  unfold rdOf
  have hx : x.toNat < l.length := by omega
  rw [List.getD_eq_getElem?_getD, List.getElem?_eq_getElem hx]
  exact List.getElem_mem hx

theorem l1PickInt_ex (b : List Int) (i h : Int) (l : List Int) (hi : 0 ≤ i) (hb : b.length ≤ 1000000000000000000) (h0 : 0 < l.length) (h1 : l.length ≤ 256) : ∃ x i' h', spec_l1PickInt.f b i h l = some (x, i', h') ∧ 0 ≤ i' := by
  obtain ⟨x, i', h', e, x0, x1, e0⟩ := l1Below_ex b i h (l.length : Int) hi hb (by omega) (by omega)
  unfold spec_l1PickInt.f
  rw [e]
  simp only [Option.bind_some]
  rw [if_pos x0, if_pos x1]
  exact ⟨_, _, _, rfl, e0⟩

theorem l1In_is (a b c : Int) : spec_l1In.f a b c = some (decide (b ≤ a ∧ a ≤ c)) := by
  unfold spec_l1In.f
  by_cases h : b ≤ a
  · rw [if_pos h]; simp [h]
  · rw [if_neg h]; simp [h]

theorem inRange_is (a b c : Int) : impl_inRange.f a b c = some (decide (b ≤ a ∧ a ≤ c)) := by
  unfold impl_inRange.f
  by_cases h : b ≤ a
  · rw [if_pos h]; simp [h]
  · rw [if_neg h]; simp [h]

/-- Both sides' ranges. -/
theorem range_same (a b c : Int) : spec_l1In.f a b c = impl_inRange.f a b c := by rw [l1In_is, inRange_is]

/-- What a letter is. -/
def LtOk (n : Int) : Bool := decide (97 ≤ n ∧ n ≤ 122) || decide (65 ≤ n ∧ n ≤ 90)
theorem spec_IsLetter_is (n : Int) : spec_IsLetter.f n = some (LtOk n) := by
  unfold spec_IsLetter.f LtOk
  rw [l1In_is, l1In_is]
  simp only [Option.bind_some]
  by_cases h : decide (97 ≤ n ∧ n ≤ 122) = true
  · rw [if_pos h, h]; rfl
  · rw [if_neg h, Bool.eq_false_iff.mpr h]; rfl
theorem impl_IsLetter_is (n : Int) : impl_IsLetter.f n = some (LtOk n) := by
  unfold impl_IsLetter.f LtOk
  rw [inRange_is, inRange_is]
  simp only [Option.bind_some]
  by_cases h : decide (97 ≤ n ∧ n ≤ 122) = true
  · rw [if_pos h, h]; rfl
  · rw [if_neg h, Bool.eq_false_iff.mpr h]; rfl

/-- Spans as one row of numbers. -/
def fl : List (Int × Int) → List Int
  | [] => []
  | p :: sp => p.1 :: p.2 :: fl sp
theorem fl_length : ∀ sp : List (Int × Int), (fl sp).length = 2 * sp.length
  | [] => rfl
  | p :: sp => by simp [fl, fl_length sp]; omega
theorem within_loop (n : Int) : ∀ (sp : List (Int × Int)) (pre : List Int), pre.length + 2 * sp.length ≤ 1000000 → sp.length ≤ 1000 → Ev (fun k => spec_l2Within.l0 k (pre ++ fl sp) n ((pre.length : Nat) : Int)) (inSp n sp)
  | [], pre, hp, hs => by
    refine Ev.at1 fun k => ?_
    simp only [spec_l2Within.l0, fl, List.append_nil]
    rw [wrap_id _ (by omega) (by omega), if_neg (by omega)]
    rfl
  | p :: sp, pre, hp, hs => by
    have hl : (pre ++ fl (p :: sp)).length = pre.length + 2 + 2 * sp.length := by rw [List.length_append, fl_length]; simp; omega
    have hc : (p :: sp).length = sp.length + 1 := rfl
    have w1 : wrap64 (((pre.length : Nat) : Int) + 1) = ((pre.length + 1 : Nat) : Int) := by rw [wrap_id _ (by omega) (by omega)]; omega
    have w2 : wrap64 (((pre.length : Nat) : Int) + 2) = ((pre.length + 2 : Nat) : Int) := by rw [wrap_id _ (by omega) (by omega)]; omega
    have r0 : rd (pre ++ fl (p :: sp)) ((pre.length : Nat) : Int) = p.1 := by unfold rd; rw [Int.toNat_natCast]; simp [fl]
    have r1 : rd (pre ++ fl (p :: sp)) ((pre.length + 1 : Nat) : Int) = p.2 := by unfold rd; rw [Int.toNat_natCast]; simp [fl]
    have e : inSp n (p :: sp) = (decide (p.1 ≤ n ∧ n ≤ p.2) || inSp n sp) := rfl
    have q1 : ((pre.length + 1 : Nat) : Int) < ((pre ++ fl (p :: sp)).length : Int) := by omega
    have q2 : (0 : Int) ≤ ((pre.length : Nat) : Int) := by omega
    have q3 : ((pre.length : Nat) : Int) < ((pre ++ fl (p :: sp)).length : Int) := by omega
    have q4 : (0 : Int) ≤ ((pre.length + 1 : Nat) : Int) := by omega
    have st : ∀ k, spec_l2Within.l0 (k + 1) (pre ++ fl (p :: sp)) n ((pre.length : Nat) : Int) = if decide (p.1 ≤ n ∧ n ≤ p.2) = true then some true else spec_l2Within.l0 k (pre ++ fl (p :: sp)) n ((pre.length + 2 : Nat) : Int) := fun k => by
      simp only [spec_l2Within.l0]
      rw [w1, w2, r0, r1, l1In_is, if_pos q1, if_pos q2, if_pos q3, if_pos q4]
      rfl
    rw [e]
    cases h : decide (p.1 ≤ n ∧ n ≤ p.2) with
    | true => exact Ev.at1 fun k => by rw [st, h]; rfl
    | false =>
      have ih := within_loop n sp (pre ++ [p.1, p.2]) (by simp at hp ⊢; omega) (by simp at hs; omega)
      have e2 : pre ++ [p.1, p.2] ++ fl sp = pre ++ fl (p :: sp) := by simp [fl]
      have e3 : (pre ++ [p.1, p.2]).length = pre.length + 2 := by simp
      rw [e2, e3] at ih
      exact Ev.step (fun k => by rw [st, h]; rfl) ih
theorem within_is (n : Int) (sp : List (Int × Int)) (hs : sp.length ≤ 1000) : Ev (fun k => spec_l2Within.f k (fl sp) n) (inSp n sp) := by
  have := within_loop n sp [] (by simp; omega) hs
  exact this

/-- What a strict name may begin with. -/
def FsOk (n : Int) : Bool := LtOk n || decide (n = 95) || inSp n spFirst
theorem impl_IsFirst_is (n : Int) : impl_IsFirst.f n = some (FsOk n) := by
  unfold impl_IsFirst.f FsOk
  rw [impl_IsLetter_is]
  simp only [Option.bind_some]
  cases LtOk n with
  | true => rfl
  | false =>
    rw [if_neg (by decide)]
    by_cases h : n = 95
    · rw [if_pos h, decide_eq_true h]; rfl
    · rw [if_neg h, decide_eq_false h]; rfl
theorem spec_IsFirst_ev (n : Int) : Ev (fun k => spec_IsFirst.f k n) (FsOk n) := by
  unfold spec_IsFirst.f FsOk
  rw [spec_IsLetter_is]
  simp only [Option.bind_some]
  cases LtOk n with
  | true => exact Ev.yes fun _ => rfl
  | false =>
    by_cases h : n = 95
    · rw [decide_eq_true h]
      exact Ev.yes fun _ => by rw [if_neg (by decide), if_pos h]; rfl
    · rw [decide_eq_false h]
      refine Ev.congr (f := fun k => (spec_l2Within.f k (fl spFirst) n).bind fun t => some t) (fun k => by rw [if_neg (by decide), if_neg h]; rfl) ?_
      refine Ev.bind (within_is n spFirst (by decide)) ?_
      exact Ev.now _

/-- What may follow. -/
def NxOk (n : Int) : Bool := FsOk n || inSp n spNext
theorem impl_IsNext_is (n : Int) : impl_IsNext.f n = some (NxOk n) := by
  unfold impl_IsNext.f NxOk
  rw [impl_IsFirst_is]
  simp only [Option.bind_some]
  cases FsOk n <;> rfl
def spNext2 : List (Int × Int) := [(48, 57), (768, 879), (8255, 8256)]
theorem inSp_next (n : Int) : inSp n spNext = (decide (n = 45) || decide (n = 46) || decide (n = 183) || inSp n spNext2) := by
  unfold inSp spNext spNext2
  simp only [List.any_cons, List.any_nil, Bool.or_false]
  rw [Bool.eq_iff_iff]
  simp only [Bool.or_eq_true, decide_eq_true_eq]
  omega
theorem spec_IsNext_ev (n : Int) : Ev (fun k => spec_IsNext.f k n) (NxOk n) := by
  unfold spec_IsNext.f NxOk
  refine Ev.bind (spec_IsFirst_ev n) ?_
  rw [inSp_next]
  cases FsOk n with
  | true => exact Ev.yes fun _ => rfl
  | false =>
    by_cases h1 : n = 45
    · subst h1; exact Ev.yes fun _ => rfl
    · by_cases h2 : n = 46
      · subst h2; exact Ev.yes fun _ => rfl
      · by_cases h3 : n = 183
        · subst h3; exact Ev.yes fun _ => rfl
        · rw [decide_eq_false h1, decide_eq_false h2, decide_eq_false h3]
          refine Ev.congr (f := fun k => (spec_l2Within.f k (fl spNext2) n).bind fun t => some t) (fun k => by rw [if_neg (by decide), if_neg h1, if_neg h2, if_neg h3]; rfl) ?_
          refine Ev.bind (within_is n spNext2 (by decide)) ?_
          exact Ev.now _

/-- What a sign is. -/
def SgOk (n : Int) : Bool := decide (0 ≤ n ∧ n ≤ 1114111) && !decide (55296 ≤ n ∧ n ≤ 57343)
theorem spec_SignOk_is (n : Int) : spec_SignOk.f n = some (SgOk n) := by
  unfold spec_SignOk.f SgOk
  rw [l1In_is, l1In_is]
  simp only [Option.bind_some]
  by_cases h : decide (0 ≤ n ∧ n ≤ 1114111) = true
  · rw [if_pos h, h]; rfl
  · rw [if_neg h, Bool.eq_false_iff.mpr h]; rfl
theorem impl_SignOk_is (n : Int) : impl_SignOk.f n = some (SgOk n) := by
  unfold impl_SignOk.f SgOk
  rw [inRange_is, inRange_is]
  simp only [Option.bind_some]
  by_cases h : decide (0 ≤ n ∧ n ≤ 1114111) = true
  · rw [if_pos h, h]; rfl
  · rw [if_neg h, Bool.eq_false_iff.mpr h]; rfl

theorem IsText_same (n : Int) : impl_IsText.f n = spec_IsText.f n := by
  unfold impl_IsText.f spec_IsText.f
  rw [spec_SignOk_is, impl_SignOk_is]
theorem IsText_some (n : Int) : ∃ b, spec_IsText.f n = some b := by
  unfold spec_IsText.f
  rw [spec_SignOk_is]
  simp only [Option.bind_some]
  repeat' split
  all_goals exact ⟨_, rfl⟩

/-- All instances replaced, in the library's words. -/
def RA (old new l : List UInt8) : List UInt8 := Lib.replaceK old new (Lib.count l old) l
theorem RA_is (old new l : List UInt8) (h : old ≠ new) : Lib.replaceAll l old new = RA old new l := by
  have e : (old == new) = false := beq_eq_false_iff_ne.mpr h
  unfold Lib.replaceAll Lib.replace Lib.replaceNum RA
  rw [e]
  simp
theorem RA_nil (old new : List UInt8) (h : old ≠ []) : RA old new [] = [] := by
  have hi : Lib.index [] old = -1 := by
    cases old with
    | nil => exact absurd rfl h
    | cons a t => rfl
  unfold RA
  rw [Lib.count_miss hi]
  rfl
theorem RA_hit (old new : List UInt8) (b : UInt8) (l : List UInt8) (h : old ≠ []) (hp : old.isPrefixOf (b :: l) = true) : RA old new (b :: l) = new ++ RA old new ((b :: l).drop old.length) := by
  have hi : Lib.index (b :: l) old = ((0 : Nat) : Int) := by unfold Lib.index; rw [if_pos hp]; rfl
  unfold RA
  rw [Lib.count_hit h hi, Nat.add_comm 1, Lib.replaceK_hit old new _ _ 0 hi, Nat.zero_add]
  simp
theorem RA_step (old new : List UInt8) (b : UInt8) (l : List UInt8) (h : old ≠ []) (hp : old.isPrefixOf (b :: l) = false) : RA old new (b :: l) = b :: RA old new l := by
  have hge := Lib.index_ge l old
  by_cases hm : Lib.index l old = -1
  · have hi : Lib.index (b :: l) old = -1 := by unfold Lib.index; rw [hp, hm]; rfl
    unfold RA
    rw [Lib.count_miss hi, Lib.count_miss hm]
    rfl
  · obtain ⟨j, hj⟩ : ∃ j : Nat, Lib.index l old = (j : Int) := ⟨(Lib.index l old).toNat, by omega⟩
    have hi : Lib.index (b :: l) old = ((j + 1 : Nat) : Int) := by
      unfold Lib.index
      rw [hp, hj]
      have : ((j : Int) == -1) = false := beq_eq_false_iff_ne.mpr (by omega)
      simp [this]
    unfold RA
    rw [Lib.count_hit h hi, Lib.count_hit h hj, Nat.add_comm 1, Nat.add_comm 1, Lib.replaceK_hit old new _ _ (j + 1) hi, Lib.replaceK_hit old new _ _ j hj]
    have e : (b :: l).drop (j + 1 + old.length) = l.drop (j + old.length) := by
      rw [show j + 1 + old.length = (j + old.length) + 1 by omega]
      rfl
    rw [e]
    simp
theorem RA_one (c d : UInt8) : ∀ l : List UInt8, RA [c] [d] l = l.map fun b => if b = c then d else b
  | [] => RA_nil _ _ (by simp)
  | b :: t => by
    by_cases hb : b = c
    · have hp : ([c] : List UInt8).isPrefixOf (b :: t) = true := by simp [List.isPrefixOf, hb]
      rw [RA_hit [c] [d] b t (by simp) hp]
      simp only [List.length_cons, List.length_nil, Nat.zero_add, List.drop_succ_cons, List.drop_zero, List.map_cons, if_pos hb]
      rw [RA_one c d t]
      rfl
    · have hp : ([c] : List UInt8).isPrefixOf (b :: t) = false := by
        simp [List.isPrefixOf]
        exact fun e => hb e.symm
      rw [RA_step [c] [d] b t (by simp) hp, RA_one c d t]
      simp only [List.map_cons, if_neg hb]
theorem linesG_is : ∀ (n : Nat) (l : List UInt8), l.length ≤ n → (RA [13, 10] [10] l).map (fun b => if b = 13 then 10 else b) = linesG false l
  | _, [], _ => by rw [RA_nil _ _ (by simp)]; rfl
  | 0, b :: t, h => by simp at h
  | n + 1, b :: t, h => by
    have ht : t.length ≤ n := by simpa using h
    by_cases hb : b = 13
    · subst hb
      cases t with
      | nil =>
        have hp : ([13, 10] : List UInt8).isPrefixOf [13] = false := by decide
        rw [RA_step _ _ _ _ (by simp) hp, RA_nil _ _ (by simp)]
        simp [linesG]
      | cons c t =>
        by_cases hc : c = 10
        · subst hc
          have hp : ([13, 10] : List UInt8).isPrefixOf (13 :: 10 :: t) = true := by simp [List.isPrefixOf]
          rw [RA_hit _ _ _ _ (by simp) hp]
          have ih := linesG_is n t (by simp at ht; omega)
          simp only [List.length_cons, List.length_nil, List.drop_succ_cons, List.drop_zero, List.map_append, Nat.zero_add]
          rw [ih]
          simp [linesG]
        · have hp : ([13, 10] : List UInt8).isPrefixOf (13 :: c :: t) = false := by
            simp [List.isPrefixOf]
            exact fun e => hc e.symm
          have ih := linesG_is n (c :: t) ht
          rw [RA_step _ _ _ _ (by simp) hp, List.map_cons, ih]
          simp [linesG, hc]
    · have hp : ([13, 10] : List UInt8).isPrefixOf (b :: t) = false := by
        cases t <;> simp [List.isPrefixOf] <;> (intro e; exact absurd e.symm hb)
      have ih := linesG_is n t ht
      rw [RA_step _ _ _ _ (by simp) hp, List.map_cons, ih]
      simp [linesG, hb]
theorem RA_le (old new : List UInt8) (h : old ≠ []) (hl : new.length ≤ old.length) : ∀ (n : Nat) (l : List UInt8), l.length ≤ n → (RA old new l).length ≤ l.length
  | _, [], _ => by rw [RA_nil _ _ h]; exact Nat.le_refl _
  | 0, b :: t, hn => by simp at hn
  | n + 1, b :: t, hn => by
    have ht : t.length ≤ n := by simpa using hn
    cases hp : old.isPrefixOf (b :: t) with
    | true =>
      rw [RA_hit _ _ _ _ h hp, List.length_append]
      have ho : 0 < old.length := by cases old with
        | nil => exact absurd rfl h
        | cons a s => simp
      have hd : ((b :: t).drop old.length).length = t.length + 1 - old.length := by rw [List.length_drop]; rfl
      have ih := RA_le old new h hl n ((b :: t).drop old.length) (by omega)
      have hpl : old.length ≤ (b :: t).length := (List.isPrefixOf_iff_prefix.1 hp).length_le
      simp only [List.length_cons] at hpl ⊢
      omega
    | false =>
      rw [RA_step _ _ _ _ h hp]
      have ih := RA_le old new h hl n t ht
      simp only [List.length_cons]
      omega

theorem size_of (l : List UInt8) : (⟨l.toArray⟩ : ByteArray).size = l.length := by simp [ByteArray.size]
theorem replaceAll_is (s old new : ByteArray) (h : s.size ≤ 2000000) (ho : 1 ≤ old.size) (hn : new.size ≤ 1000) : strings_ReplaceAll.f s old new = some ⟨(Lib.replaceAll s.data.toList old.data.toList new.data.toList).toArray⟩ := by
  unfold strings_ReplaceAll.f
  have hc := Lib.countB_mul_le old ho s.size s (Nat.le_refl _)
  have hc2 : Lib.countB s old ≤ s.size := Nat.le_trans (Nat.le_mul_of_pos_right _ (by omega)) hc
  have hc3 : Lib.countB s old * new.size ≤ 2000000 * 1000 := Nat.mul_le_mul (by omega) hn
  rw [if_pos ⟨by omega, ho, by omega⟩]
theorem impl_Lines_is (s : ByteArray) (h : s.size ≤ 1048576) : impl_Lines.f s = some ⟨(linesG false s.data.toList).toArray⟩ := by
  have hl : s.data.toList.length = s.size := data_length s
  have h1 := replaceAll_is s (⟨#[13, 10]⟩ : ByteArray) (⟨#[10]⟩ : ByteArray) (by omega) (by decide) (by decide)
  rw [RA_is _ _ _ (by decide)] at h1
  have hle := RA_le [13, 10] [10] (by simp) (by simp) s.data.toList.length s.data.toList (Nat.le_refl _)
  have h2 := replaceAll_is ⟨(RA [13, 10] [10] s.data.toList).toArray⟩ (⟨#[13]⟩ : ByteArray) (⟨#[10]⟩ : ByteArray) (by rw [size_of]; omega) (by decide) (by decide)
  rw [RA_is _ _ _ (by decide)] at h2
  have e1 : (⟨#[13, 10]⟩ : ByteArray).data.toList = [13, 10] := rfl
  have e2 : (⟨#[10]⟩ : ByteArray).data.toList = [10] := rfl
  have e3 : (⟨#[13]⟩ : ByteArray).data.toList = [13] := rfl
  rw [e1, e2] at h1
  rw [e3, e2, RA_one, linesG_is s.data.toList.length s.data.toList (Nat.le_refl _)] at h2
  unfold impl_Lines.f
  rw [h1, Option.bind_some, h2]
  rfl
theorem spec_Lines_is (s : ByteArray) (h : s.size ≤ 1048576) : spec_Lines.f s = some ⟨(linesG false s.data.toList).toArray⟩ := by
  unfold spec_Lines.f
  rw [if_pos (by omega)]

theorem drawNum_ex (b : List Int) (i h : Int) (hi : 0 ≤ i) (hb : b.length ≤ 1000000000000000000) : ∃ x i' h', spec_l2DrawNum.f b i h = some (x, i', h') := by
  unfold spec_l2DrawNum.f
  obtain ⟨x, i', h', e, e0⟩ := l1PickInt_ex b i h [0, 9, 10, 11, 12, 13, 31, 32, 45, 46, 48, 57, 58, 64, 65, 90, 95, 97, 122, 123, 183, 192, 215, 247, 768, 893, 894, 8192, 8204, 8255, 12272, 55296, 64976, 65533, 65534, 983039, 983040, 1114112, (-1)] hi hb (by decide) (by decide)
  rw [e]
  exact ⟨_, _, _, rfl⟩
theorem drawNum_new (b : List Int) (hb : b.length ≤ 1000000000000000000) : ∃ x, Ev (fun k => (spec_l1New.f k b).bind fun p => ((spec_l2DrawNum.f p.1 p.2.1 p.2.2).bind fun q => (some q.1))) x := by
  obtain ⟨h', e⟩ := l1New_ex b hb
  obtain ⟨x, i', h2, e2⟩ := drawNum_ex b 0 h' (by omega) hb
  refine ⟨x, Ev.bind e ?_⟩
  simp only
  rw [e2]
  exact Ev.now _
def smalls : List ByteArray := [(⟨#[]⟩ : ByteArray), (⟨#[65, 98, 99]⟩ : ByteArray), (⟨#[65, 66, 90]⟩ : ByteArray), (⟨#[97, 45, 91, 64]⟩ : ByteArray), (⟨#[195, 132]⟩ : ByteArray), (⟨#[90, 13, 10]⟩ : ByteArray)]
theorem smalls_small : ∀ w ∈ smalls, w.size ≤ 4 := by decide
theorem drawSmall_ex (b : List Int) (hb : b.length ≤ 1000000000000000000) : ∃ s, s.size ≤ 4 ∧ Ev (fun k => spec_DrawSmall.f k b) s := by
  obtain ⟨h', e⟩ := l1New_ex b hb
  obtain ⟨s, i', h2, e2, hm, _⟩ := l1Pick_ex b 0 h' smalls (by omega) hb (by decide) (by decide)
  refine ⟨s, smalls_small s hm, ?_⟩
  unfold spec_DrawSmall.f
  refine Ev.bind e ?_
  unfold smalls at e2
  simp only
  rw [e2]
  exact Ev.now _
def lineBits : List ByteArray := [(⟨#[97]⟩ : ByteArray), (⟨#[13]⟩ : ByteArray), (⟨#[10]⟩ : ByteArray), (⟨#[13, 10]⟩ : ByteArray), (⟨#[13, 13]⟩ : ByteArray)]
theorem lineBits_small : ∀ w ∈ lineBits, w.size ≤ 2 := by decide
theorem drawLines_loop (b : List Int) (hb : b.length ≤ 1000000000000000000) (d : Nat) : ∀ (i : Nat) (acc : ByteArray) (ib h : Int), 7 ≤ i + d → 0 ≤ ib → acc.size ≤ 2 * i → i ≤ 7 →
    ∃ s : ByteArray, s.size ≤ 14 ∧ Ev (fun k => spec_DrawLines.l0 k acc (i : Int) b ib h) s := by
  induction d with
  | zero =>
    intro i acc ib h hi h0 ha h7
    obtain ⟨x, i1, h1, e, x0, x1, e0⟩ := l1Below_ex b ib h 7 h0 hb (by decide) (by decide)
    refine ⟨acc, by omega, Ev.at1 fun k => ?_⟩
    simp only [spec_DrawLines.l0]
    rw [e]
    simp only [Option.bind_some]
    rw [if_neg (by omega)]
  | succ d IH =>
    intro i acc ib h hi h0 ha h7
    obtain ⟨x, i1, h1, e, x0, x1, e0⟩ := l1Below_ex b ib h 7 h0 hb (by decide) (by decide)
    have hw : wrap64 ((i : Int) + 1) = ((i + 1 : Nat) : Int) := by rw [wrap_id _ (by omega) (by omega)]; omega
    by_cases c : (i : Int) < x
    · obtain ⟨w, i3, h3, e3, hm, g0⟩ := l1Pick_ex b i1 h1 lineBits e0 hb (by decide) (by decide)
      have hsz := lineBits_small w hm
      unfold lineBits at e3
      obtain ⟨s, hs, el⟩ := IH (i + 1) (acc ++ w) i3 h3 (by omega) g0 (by rw [ByteArray.size_append]; omega) (by omega)
      refine ⟨s, hs, Ev.step (fun k => ?_) el⟩
      simp only [spec_DrawLines.l0]
      rw [e]
      simp only [Option.bind_some]
      rw [if_pos c, e3]
      simp only [Option.bind_some]
      rw [if_pos (show acc.size + w.size ≤ 9223372036854775807 by omega), hw]
    · refine ⟨acc, by omega, Ev.at1 fun k => ?_⟩
      simp only [spec_DrawLines.l0]
      rw [e]
      simp only [Option.bind_some]
      rw [if_neg c]
theorem drawLines_ex (b : List Int) (hb : b.length ≤ 1000000000000000000) : ∃ s : ByteArray, s.size ≤ 14 ∧ Ev (fun k => spec_DrawLines.f k b) s := by
  obtain ⟨h', e⟩ := l1New_ex b hb
  obtain ⟨s, hs, el⟩ := drawLines_loop b hb 7 0 (⟨#[]⟩ : ByteArray) 0 h' (by omega) (by omega) (by decide) (by omega)
  exact ⟨s, hs, Ev.bind e el⟩
theorem sm1_twice (x : Int) : sm1 (sm1 x) = sm1 x := by unfold sm1; repeat' split
                                                        all_goals omega
theorem sm1_byte (x : Int) (h0 : 0 ≤ x) (h1 : x ≤ 255) : 0 ≤ sm1 x ∧ sm1 x ≤ 255 := by unfold sm1; split <;> omega
theorem smallOf_size (s : ByteArray) : (smallOf s).size = s.size := by unfold smallOf; rw [strOfNums_size, List.length_map, bytesOf_length]
theorem bytesOf_smallOf (s : ByteArray) : bytesOf (smallOf s) = (bytesOf s).map sm1 := by
  unfold smallOf
  have h : ∀ l : List UInt8, (((l.map fun b => (b.toNat : Int)).map sm1).map fun n => UInt8.ofNat n.toNat).map (fun b => (b.toNat : Int)) = (l.map fun b => (b.toNat : Int)).map sm1 := by
    intro l
    induction l with
    | nil => rfl
    | cons a l ih =>
      simp only [List.map_cons, ih]
      congr 1
      have ha : a.toNat < 256 := a.toNat_lt
      have := sm1_byte (a.toNat : Int) (by omega) (by omega)
      rw [UInt8.toNat_ofNat']
      omega
  unfold bytesOf
  rw [strOfNums_data]
  exact h _
theorem smallOf_twice (s : ByteArray) : smallOf (smallOf s) = smallOf s := by
  have e : smallOf (smallOf s) = strOfNums ((bytesOf (smallOf s)).map sm1) := rfl
  rw [e, bytesOf_smallOf, List.map_map]
  have : (sm1 ∘ sm1) = sm1 := funext sm1_twice
  rw [this]
  rfl
theorem linesG_no (l : List UInt8) : ∀ k : Bool, (13 : UInt8) ∉ linesG k l := by
  induction l with
  | nil => intro k; unfold linesG; simp
  | cons b t ih =>
    intro k
    unfold linesG
    split
    · exact ih false
    · split
      · intro h
        rcases List.mem_cons.mp h with h | h
        · exact absurd h (by decide)
        · exact ih true h
      · rename_i hb
        intro h
        rcases List.mem_cons.mp h with h | h
        · exact hb h.symm
        · exact ih false h
theorem linesG_free (l : List UInt8) (h : (13 : UInt8) ∉ l) : linesG false l = l := by
  induction l with
  | nil => unfold linesG; rfl
  | cons b t ih =>
    unfold linesG
    rw [if_neg (by simp), if_neg (fun e => h (by rw [e]; exact List.mem_cons_self)), ih (fun e => h (List.mem_cons_of_mem _ e))]
/-- Lines, as a text. -/
def LN (s : ByteArray) : ByteArray := ⟨(linesG false s.data.toList).toArray⟩
theorem LN_size (s : ByteArray) : (LN s).size ≤ s.size := by
  have := linesG_le false s.data.toList
  rw [data_length] at this
  unfold LN
  rw [size_of]
  exact this
theorem LN_twice (s : ByteArray) : LN (LN s) = LN s := by
  have e : (LN s).data.toList = linesG false s.data.toList := by unfold LN; simp
  have : LN (LN s) = ⟨(linesG false (LN s).data.toList).toArray⟩ := rfl
  rw [this, e, linesG_free _ (linesG_no _ false)]
  rfl
theorem first_next (n : Int) (h : FsOk n = true) : NxOk n = true := by unfold NxOk; rw [h]; rfl
theorem first_text (n : Int) (h : FsOk n = true) : impl_IsText.f n = some true := by
  unfold FsOk LtOk inSp spFirst at h
  simp only [List.any_cons, List.any_nil, Bool.or_false, Bool.or_eq_true, decide_eq_true_eq] at h
  unfold impl_IsText.f
  rw [impl_SignOk_is]
  simp only [Option.bind_some]
  have e : SgOk n = true := by
    unfold SgOk
    rw [decide_eq_true (by omega), decide_eq_false (by omega)]
    rfl
  rw [e, if_neg (by omega), if_neg (by omega), if_neg (by omega), if_pos rfl, if_pos (by omega), if_neg (by omega)]
  have : (n != 65535) = true := by simp; omega
  rw [this]
theorem FnKinds : laws_FnKinds.Pure := by
  intro l hl _ _
  have hb : l.length ≤ 1000000000000000000 := by unfold maxLen at hl; omega
  obtain ⟨a, ha⟩ := drawNum_new l hb
  obtain ⟨s, hs, es⟩ := drawSmall_ex l hb
  obtain ⟨t, ht, et⟩ := drawLines_ex l hb
  have b1 : impl_IsBlank.f a = spec_IsBlank.f a := rfl
  obtain ⟨q, b2⟩ : ∃ b, spec_IsBlank.f a = some b := by
    unfold spec_IsBlank.f
    repeat' split
    all_goals exact ⟨_, rfl⟩
  rw [b2] at b1
  obtain ⟨p, t2⟩ := IsText_some a
  have t1 := IsText_same a
  rw [t2] at t1
  have s1 : impl_Small.f s = some (smallOf s) := by unfold impl_Small.f; rw [if_pos (by omega)]
  have s2 : spec_Small.f s = some (smallOf s) := by unfold spec_Small.f; rw [if_pos (by omega)]
  have s3 : impl_Small.f (smallOf s) = some (smallOf s) := by unfold impl_Small.f; rw [smallOf_size, if_pos (by omega), smallOf_twice]
  have l1 : impl_Lines.f t = some (LN t) := impl_Lines_is t (by omega)
  have l2 : spec_Lines.f t = some (LN t) := spec_Lines_is t (by omega)
  have lz := LN_size t
  have l3 : impl_Lines.f (LN t) = some (LN t) := (impl_Lines_is (LN t) (by omega)).trans (congrArg some (LN_twice t))
  refine Ev.rounds (r := true) ?_
  have hj : Ev (fun k => laws_FnKinds.j0 k a s t false) true := by
    refine Ev.at1 fun k => ?_
    simp only [laws_FnKinds.j0, Bool.false_eq_true, if_false]
    rw [impl_IsFirst_is]
    simp only [Option.bind_some]
    by_cases c : FsOk a = true
    · rw [if_pos c, impl_IsNext_is, first_next a c]
      simp only [Option.bind_some, if_true]
      rw [first_text a c]
      simp only [Option.bind_some, if_true]
      rw [s1]
      simp only [Option.bind_some]
      rw [s3]
      simp only [Option.bind_some, if_true]
      rw [l1]
      simp only [Option.bind_some]
      rw [l3]
      simp only [Option.bind_some, if_true]
      rw [decide_eq_true (by omega)]
    · rw [if_neg c]
      rw [s1]
      simp only [Option.bind_some]
      rw [s3]
      simp only [Option.bind_some, if_true]
      rw [l1]
      simp only [Option.bind_some]
      rw [l3]
      simp only [Option.bind_some, if_true]
      rw [decide_eq_true (by omega)]
  unfold laws_FnKinds.f laws_big.f
  by_cases c : (l.length : Int) > 1048576
  · refine Ev.bind (Ev.now _) ?_
    rw [decide_eq_true c]
    simp only [if_true]
    exact Ev.now _
  refine Ev.bind (Ev.now _) ?_
  rw [decide_eq_false c]
  simp only [Bool.false_eq_true, if_false]
  refine Ev.bind (a := a) ha (Ev.bind (a := a) ha (Ev.bind (a := a) ha (Ev.bind (a := a) ha (Ev.bind (a := a) ha (Ev.bind es (Ev.bind et ?_))))))
  refine Ev.bind (Ev.yes fun _ => b1) (Ev.bind (Ev.yes fun _ => b2) ?_)
  simp only [bne_self_eq_false, Bool.false_eq_true, if_false]
  refine Ev.bind (Ev.yes fun _ => impl_IsLetter_is a) (Ev.bind (Ev.yes fun _ => spec_IsLetter_is a) ?_)
  simp only [bne_self_eq_false, Bool.false_eq_true, if_false]
  refine Ev.bind (Ev.yes fun _ => t1) (Ev.bind (Ev.yes fun _ => t2) ?_)
  simp only [bne_self_eq_false, Bool.false_eq_true, if_false]
  refine Ev.bind (Ev.yes fun _ => impl_IsFirst_is a) (Ev.bind (spec_IsFirst_ev a) ?_)
  simp only [bne_self_eq_false, Bool.false_eq_true, if_false]
  refine Ev.bind (Ev.yes fun _ => impl_IsNext_is a) (Ev.bind (spec_IsNext_ev a) ?_)
  simp only [bne_self_eq_false, Bool.false_eq_true, if_false]
  refine Ev.bind (Ev.yes fun _ => s1) (Ev.bind (Ev.yes fun _ => s2) ?_)
  simp only [if_true]
  refine Ev.bind (Ev.yes fun _ => l1) (Ev.bind (Ev.yes fun _ => l2) ?_)
  simp only [bne_self_eq_false]
  exact hj

end Go.Proofs.YteafgjebaedjbaaDoor.Pure
