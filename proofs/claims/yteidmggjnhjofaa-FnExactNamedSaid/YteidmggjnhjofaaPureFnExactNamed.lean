/- The statement of FnExactNamed, over the printed functions: it is true for every input. No condition. -/
import Derived.Test.YteidmggjnhjofaaPFnExactNamedx1
namespace Go.Proofs.Yteidmggjnhjofaa.Pure
open Go.RowKit Go.Proofs.Yteidmggjnhjofaa.PFnExactNamed Go.Proofs.YteidmggjnhjofaaW.PrintWords Go.Proofs.YteidmggjnhjofaaW.PrintLast
set_option linter.unusedVariables false
set_option linter.unusedSimpArgs false

theorem Ev.yes {α : Type} {g : Nat → Option α} {r : α} (h : ∀ k, g k = some r) : Ev g r := ⟨0, fun k _ => h k⟩
theorem Ev.at1 {α : Type} {g : Nat → Option α} {r : α} (h : ∀ k, g (k + 1) = some r) : Ev g r := Ev.step (f := fun _ => some r) h (Ev.now r)
theorem wrap_id (n : Int) (h0 : -9223372036854775808 ≤ n) (h1 : n ≤ 9223372036854775807) : wrap64 n = n := by unfold wrap64; omega

theorem set_mid {α : Type} (pre : List α) (x y : α) (suf : List α) : (pre ++ x :: suf).set ((pre.length : Nat) : Int).toNat y = (pre ++ [y]) ++ suf := by
  rw [Int.toNat_natCast]
  simp
theorem next_at (n : Nat) (h : n ≤ 2000000000000) : wrap64 ((n : Int) + 1) = ((n + 1 : Nat) : Int) := by
  rw [wrap_id _ (by omega) (by omega)]
  omega

/-- A mark's text from some digits on; d bounds how many there are. -/
theorem marktext_loop (d : Nat) : ∀ (n : Int) (out : ByteArray), 0 ≤ n → n < 10 ^ d → n ≤ 2000000000000 → out.size + d ≤ 1000 → ∃ r, Ev (fun k => laws_markText.l0 k n out) r := by
  induction d with
  | zero =>
    intro n out h0 h1 hb h2
    have : ¬ n > 0 := by simp at h1; omega
    refine ⟨(⟨#[109]⟩ : ByteArray) ++ out, Ev.at1 fun k => ?_⟩
    simp only [laws_markText.l0]
    rw [if_neg this, if_pos (by omega)]
  | succ d ih =>
    intro n out h0 h1 hb h2
    by_cases hn : n > 0
    · have e : Int.tdiv n 10 = n / 10 := Int.tdiv_eq_ediv_of_nonneg h0
      have hp : (10 : Int) ^ (d + 1) = 10 ^ d * 10 := Int.pow_succ 10 d
      have hd : n / 10 < 10 ^ d := by omega
      have hd0 : 0 ≤ n / 10 := by omega
      have hs : ∀ x : Int, (strOfNums [x]).size = 1 := fun x => rfl
      obtain ⟨r, hr⟩ := ih (n / 10) ((strOfNums [(wrap64 (48 + (Int.tmod n 10))) % 256]) ++ out) hd0 hd (by omega) (by rw [ByteArray.size_append, hs]; omega)
      refine ⟨r, Ev.step (fun k => ?_) hr⟩
      simp only [laws_markText.l0, Option.bind_some]
      rw [if_pos hn, hs, if_pos (by omega), e, wrap_id (n / 10) (by omega) (by omega)]
    · refine ⟨(⟨#[109]⟩ : ByteArray) ++ out, Ev.at1 fun k => ?_⟩
      simp only [laws_markText.l0]
      rw [if_neg hn, if_pos (by omega)]
theorem marktext_ex (n : Int) (h : n ≤ 2000000000000) : ∃ r, Ev (fun k => laws_markText.f k n) r := by
  unfold laws_markText.f
  by_cases h0 : n ≤ 0
  · exact ⟨_, Ev.yes fun _ => if_pos h0⟩
  · obtain ⟨r, hr⟩ := marktext_loop 13 n (⟨#[]⟩ : ByteArray) (by omega) (by omega) h (by decide)
    exact ⟨r, Ev.congr (fun k => if_neg h0) hr⟩
/-- The mark of a number. -/
noncomputable def MT (n : Int) : ByteArray := if h : n ≤ 2000000000000 then Classical.choose (marktext_ex n h) else ByteArray.empty
theorem marktext_ev (n : Int) (h : n ≤ 2000000000000) : Ev (fun k => laws_markText.f k n) (MT n) := by
  unfold MT
  rw [dif_pos h]
  exact Classical.choose_spec (marktext_ex n h)

theorem rdOf_mid (pre : List ByteArray) (x : ByteArray) (suf : List ByteArray) : rdOf ByteArray.empty (pre ++ x :: suf) ((pre.length : Nat) : Int) = x := by
  unfold rdOf
  rw [Int.toNat_natCast]
  simp
theorem eqStringS_loop : ∀ (suf pre : List ByteArray), (pre ++ suf).length ≤ 2000000000000 → Ev (fun k => laws_eqStringS.l0 k (pre ++ suf) (pre ++ suf) ((pre.length : Nat) : Int)) true
  | [], pre, h => by
    refine Ev.at1 fun k => ?_
    simp only [laws_eqStringS.l0, List.append_nil]
    rw [if_neg (by omega)]
  | x :: suf, pre, h => by
    have hl : (pre ++ x :: suf).length = pre.length + 1 + suf.length := by simp; omega
    have ih := eqStringS_loop suf (pre ++ [x]) (by simp at h ⊢; omega)
    refine Ev.step (f := fun k => laws_eqStringS.l0 k (pre ++ x :: suf) (pre ++ x :: suf) ((pre.length + 1 : Nat) : Int)) (fun k => ?_) ?_
    · simp only [laws_eqStringS.l0]
      rw [if_pos (by omega), if_pos (by omega), if_pos (by omega), if_pos trivial, next_at _ (by omega)]
    · have e : pre ++ [x] ++ suf = pre ++ x :: suf := by simp
      rw [e, List.length_append] at ih
      exact ih
theorem eqStringS_same (l : List ByteArray) (h : l.length ≤ 2000000000000) : Ev (fun k => laws_eqStringS.f k l l) true := by
  unfold laws_eqStringS.f
  simp only [if_true]
  exact eqStringS_loop l [] h
/-- The marks' texts from c on. -/
noncomputable def mts : Nat → Int → List ByteArray
  | 0, _ => []
  | n + 1, c => MT c :: mts n (c + 1)
theorem mts_length : ∀ (n : Nat) (c : Int), (mts n c).length = n
  | 0, _ => rfl
  | n + 1, c => by simp [mts, mts_length n]
theorem markStringS_loop (suf : List ByteArray) : ∀ (pre : List ByteArray) (c : Int), (pre ++ suf).length ≤ 1000000000000 → 0 ≤ c → c ≤ 2000000000000 - suf.length →
    Ev (fun k => laws_markStringS.l0 k (pre ++ suf) c ((pre.length : Nat) : Int)) (c + suf.length, pre ++ mts suf.length c) := by
  induction suf with
  | nil =>
    intro pre c h h0 h1
    refine Ev.at1 fun k => ?_
    simp only [laws_markStringS.l0, List.append_nil]
    rw [if_neg (by omega)]
    simp [mts]
  | cons x suf IH =>
    intro pre c h h0 h1
    have hl : (pre ++ x :: suf).length = pre.length + 1 + suf.length := by simp; omega
    have hl2 : (x :: suf).length = suf.length + 1 := rfl
    have ih := IH (pre ++ [MT c]) (c + 1) (by simp at h ⊢; omega) (by omega) (by omega)
    refine Ev.step (f := fun k => (laws_markText.f k c).bind fun t => laws_markStringS.l0 k ((pre ++ [t]) ++ suf) (c + 1) ((pre.length + 1 : Nat) : Int)) (fun k => ?_) (Ev.bind (marktext_ev c (by omega)) ?_)
    · simp only [laws_markStringS.l0]
      rw [if_pos (by omega), next_at _ (by omega), wrap_id (c + 1) (by omega) (by omega)]
      congr 1
      funext t
      rw [if_pos (by omega), set_mid]
    · rw [List.length_append] at ih
      have e : (c + ((x :: suf).length : Nat), pre ++ mts (x :: suf).length c) = (c + 1 + (suf.length : Nat), (pre ++ [MT c]) ++ mts suf.length (c + 1)) := by
        rw [hl2]
        simp only [mts, List.append_assoc, List.singleton_append, Prod.mk.injEq, and_true]
        omega
      rw [e]
      exact ih
theorem markStringS_ev (l : List ByteArray) (c : Int) (h : l.length ≤ 1000000000000) (h0 : 0 ≤ c) (h1 : c ≤ 2000000000000 - l.length) : Ev (fun k => laws_markStringS.f k l c) (c + l.length, mts l.length c) := by
  unfold laws_markStringS.f
  exact markStringS_loop l [] c h h0 h1
theorem heldStringS_loop (n : Nat) : ∀ (pre : List ByteArray) (c : Int), pre.length + n ≤ 1000000000000 → 0 ≤ c → c ≤ 2000000000000 - n →
    Ev (fun k => laws_heldStringS.l0 k (pre ++ mts n c) c ((pre.length : Nat) : Int)) (c + n) := by
  induction n with
  | zero =>
    intro pre c h h0 h1
    refine Ev.at1 fun k => ?_
    simp only [laws_heldStringS.l0, mts, List.append_nil]
    rw [if_neg (by omega)]
    simp
  | succ n IH =>
    intro pre c h h0 h1
    have hl : (pre ++ mts (n + 1) c).length = pre.length + 1 + n := by rw [List.length_append, mts_length]; omega
    have ih := IH (pre ++ [MT c]) (c + 1) (by simp; omega) (by omega) (by omega)
    refine Ev.step (f := fun k => (laws_markText.f k c).bind fun t => if (MT c).toList = t.toList then laws_heldStringS.l0 k (pre ++ mts (n + 1) c) (c + 1) ((pre.length + 1 : Nat) : Int) else some (-1)) (fun k => ?_) (Ev.bind (marktext_ev c (by omega)) ?_)
    · simp only [laws_heldStringS.l0]
      rw [if_pos (by omega), if_pos (by omega), next_at _ (by omega), wrap_id (c + 1) (by omega) (by omega)]
      have e : mts (n + 1) c = MT c :: mts n (c + 1) := rfl
      rw [e, rdOf_mid]
    · simp only [if_true]
      have e : pre ++ [MT c] ++ mts n (c + 1) = pre ++ mts (n + 1) c := by simp [mts]
      rw [e, List.length_append] at ih
      have e2 : c + 1 + (n : Int) = c + ((n + 1 : Nat) : Int) := by omega
      rw [e2] at ih
      exact ih
theorem heldStringS_ev (n : Nat) (c : Int) (h : n ≤ 1000000000000) (h0 : 0 ≤ c) (h1 : c ≤ 2000000000000 - n) : Ev (fun k => laws_heldStringS.f k (mts n c) c) (c + n) := by
  unfold laws_heldStringS.f
  exact heldStringS_loop n [] c (by simpa using h) h0 h1

theorem FnExactNamed : laws_FnExactNamed.Pure := by
  refine Ev.rounds (r := true) ?_
  unfold laws_FnExactNamed.f
  have hs : spec_Named.f = impl_Named.f := rfl
  obtain ⟨t, ht, hl⟩ : ∃ t, impl_Named.f = some t ∧ t.length = 14 := ⟨_, rfl, rfl⟩
  rw [hs, ht]
  simp only [Option.bind_some]
  have eq := eqStringS_same t (by omega)
  have he := heldStringS_ev t.length 1 (by omega) (by omega) (by omega)
  have q : ¬ (1 : Int) + (t.length : Nat) < 0 := by omega
  refine Ev.bind eq ?_
  simp only [if_true]
  refine Ev.bind (markStringS_ev t 1 (by omega) (by omega) (by omega)) (Ev.bind he ?_)
  simp only [if_neg q, if_true]
  refine Ev.bind eq ?_
  simp only [if_true]
  refine Ev.bind he ?_
  simp only [if_neg q, if_true]
  exact Ev.now _

end Go.Proofs.Yteidmggjnhjofaa.Pure
