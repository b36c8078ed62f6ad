/- The statement of FnExactSignText, over the printed functions: it is true for every input. No condition. -/
import Derived.Test.YtoglccojipijdaaPFnExactSignTextx2
import Derived.Lib.LazyBuf
namespace Go.Proofs.Ytoglccojipijdaa.Pure
open Go.RowKit Go.Proofs.Ytoglccojipijdaa.PFnExactSignText Go.Proofs.YtoglccojipijdaaW.PrintWords Go.Proofs.YtoglccojipijdaaW.PrintLast
set_option linter.unusedVariables false
set_option linter.unusedSimpArgs false

theorem Ev.yes {α : Type} {g : Nat → Option α} {r : α} (h : ∀ k, g k = some r) : Ev g r := ⟨0, fun k _ => h k⟩
theorem Ev.at1 {α : Type} {g : Nat → Option α} {r : α} (h : ∀ k, g (k + 1) = some r) : Ev g r := Ev.step (f := fun _ => some r) h (Ev.now r)
theorem wrap_id (n : Int) (h0 : -9223372036854775808 ≤ n) (h1 : n ≤ 9223372036854775807) : wrap64 n = n := by unfold wrap64; omega

theorem wraps63 (n : Int) (h0 : 0 ≤ n) (h1 : n < 2 ^ 63) : IntKind.i64.wrap n = n := by rw [IntKind.wrap_i64]; omega
theorem and63 (x : Int) (h0 : 0 ≤ x) (h1 : x < 9223372036854775808) : Go.bits .and .i64 x 63 = x % 64 := bits_mask .i64 63 (by decide) wraps63 6 (by decide) x h0 (by simpa using h1)
theorem or_join (i : Nat) (x y : Int) (hx0 : 0 ≤ x) (hx : x % 2 ^ i = 0) (hx1 : x < 9223372036854775808) (h0 : 0 ≤ y) (h1 : y < 2 ^ i) (h2 : y < 9223372036854775808) : Go.bits .or .i64 x y = x + y :=
  bits_join .i64 63 (by decide) wraps63 i x y hx0 hx (by simpa using hx1) h0 h1 (by simpa using h2)
theorem or128 (y : Int) (h0 : 0 ≤ y) (h1 : y < 64) : Go.bits .or .i64 128 y = 128 + y := or_join 6 128 y (by decide) (by decide) (by decide) h0 (by simpa using h1) (by omega)
theorem or192 (y : Int) (h0 : 0 ≤ y) (h1 : y < 32) : Go.bits .or .i64 192 y = 192 + y := or_join 5 192 y (by decide) (by decide) (by decide) h0 (by simpa using h1) (by omega)
theorem or224 (y : Int) (h0 : 0 ≤ y) (h1 : y < 16) : Go.bits .or .i64 224 y = 224 + y := or_join 4 224 y (by decide) (by decide) (by decide) h0 (by simpa using h1) (by omega)
theorem or240 (y : Int) (h0 : 0 ≤ y) (h1 : y < 8) : Go.bits .or .i64 240 y = 240 + y := or_join 3 240 y (by decide) (by decide) (by decide) h0 (by simpa using h1) (by omega)

theorem l1In_is (a b c : Int) : spec_l1In.f a b c = some (decide (b ≤ a ∧ a ≤ c)) := by
  unfold spec_l1In.f
  by_cases h : b ≤ a
  · rw [if_pos h]; simp [h]
  · rw [if_neg h]; simp [h]

theorem inRange_is (a b c : Int) : impl_inRange.f a b c = some (decide (b ≤ a ∧ a ≤ c)) := by
  unfold impl_inRange.f
  by_cases h : b ≤ a
  · rw [if_pos h]; simp [h]
  · rw [if_neg h]; simp [h]

/-- Both sides' ranges. -/
theorem range_same (a b c : Int) : spec_l1In.f a b c = impl_inRange.f a b c := by rw [l1In_is, inRange_is]

/-- What a sign is. -/
def SgOk (n : Int) : Bool := decide (0 ≤ n ∧ n ≤ 1114111) && !decide (55296 ≤ n ∧ n ≤ 57343)
theorem spec_SignOk_is (n : Int) : spec_SignOk.f n = some (SgOk n) := by
  unfold spec_SignOk.f SgOk
  rw [l1In_is, l1In_is]
  simp only [Option.bind_some]
  by_cases h : decide (0 ≤ n ∧ n ≤ 1114111) = true
  · rw [if_pos h, h]; rfl
  · rw [if_neg h, Bool.eq_false_iff.mpr h]; rfl
theorem impl_SignOk_is (n : Int) : impl_SignOk.f n = some (SgOk n) := by
  unfold impl_SignOk.f SgOk
  rw [inRange_is, inRange_is]
  simp only [Option.bind_some]
  by_cases h : decide (0 ≤ n ∧ n ≤ 1114111) = true
  · rw [if_pos h, h]; rfl
  · rw [if_neg h, Bool.eq_false_iff.mpr h]; rfl

/-- A sign's bytes. -/
def PSb (n : Int) : List Int :=
  if n < 128 then [n] else if n < 2048 then [192 + n / 64, 128 + n % 64]
  else if n < 65536 then [224 + n / 4096, 128 + n / 64 % 64, 128 + n % 64]
  else [240 + n / 262144, 128 + n / 4096 % 64, 128 + n / 64 % 64, 128 + n % 64]
/-- What is put for a number. -/
def PSn (n : Int) : Int := if SgOk n = true then n else 65533
def PS (n : Int) : ByteArray := strOfNums (PSb (PSn n))
theorem SgOk_range (n : Int) (h : SgOk n = true) : 0 ≤ n ∧ n ≤ 1114111 := by
  unfold SgOk at h
  simp only [Bool.and_eq_true, decide_eq_true_eq] at h
  exact h.1
theorem PSn_range (n : Int) : 0 ≤ PSn n ∧ PSn n ≤ 1114111 := by
  unfold PSn
  by_cases h : SgOk n = true
  · rw [if_pos h]; exact SgOk_range n h
  · rw [if_neg h]; omega
theorem spec_PutSign_j (n : Int) (h0 : 0 ≤ n) (h1 : n ≤ 1114111) (k : Nat) : spec_PutSign.j0 (k + 1) n = some (strOfNums (PSb n)) := by
  simp only [spec_PutSign.j0]
  unfold PSb
  by_cases a : n < 128
  · rw [if_pos a, if_pos a, Int.emod_eq_of_lt h0 (by omega)]
  · rw [if_neg a, if_neg a]
    have w0 : ∀ x : Int, 0 ≤ x → x < 256 → (wrap64 x) % 256 = x := fun x a b => by unfold wrap64; omega
    by_cases b : n < 2048
    · rw [if_pos b, if_pos b, and63 n h0 (by omega), w0 _ (by omega) (by omega), w0 _ (by omega) (by omega)]
    · rw [if_neg b, if_neg b]
      by_cases c : n < 65536
      · rw [if_pos c, if_pos c, and63 n h0 (by omega), and63 (n / 64) (by omega) (by omega), w0 _ (by omega) (by omega), w0 _ (by omega) (by omega), w0 _ (by omega) (by omega)]
      · rw [if_neg c, if_neg c, and63 n h0 (by omega), and63 (n / 64) (by omega) (by omega), and63 (n / 4096) (by omega) (by omega), w0 _ (by omega) (by omega), w0 _ (by omega) (by omega), w0 _ (by omega) (by omega), w0 _ (by omega) (by omega)]
theorem spec_PutSign_ev (n : Int) : Ev (fun k => spec_PutSign.f k n) (PS n) := by
  refine Ev.at1 fun k => ?_
  unfold spec_PutSign.f PS
  rw [spec_SignOk_is]
  simp only [Option.bind_some]
  have r := PSn_range n
  unfold PSn at r ⊢
  by_cases h : SgOk n = true
  · rw [if_pos h] at r ⊢; rw [if_pos h]; exact spec_PutSign_j n r.1 r.2 k
  · rw [if_neg h] at r ⊢; rw [if_neg h]; exact spec_PutSign_j _ r.1 r.2 k
theorem impl_follow_is (n : Int) (h0 : 0 ≤ n) (h1 : n ≤ 1114111) (j : Nat) (hj : j ≤ 12) : impl_follow.f n j = some (128 + n / 2 ^ j % 64) := by
  unfold impl_follow.f
  have e : IntKind.u64.wrap (j : Int) = j := by simp [IntKind.wrap, IntKind.bits, IntKind.signed]; omega
  have hp : (0 : Int) < 2 ^ j := Int.pow_pos (by decide)
  have d0 : 0 ≤ n / 2 ^ j := Int.ediv_nonneg h0 (Int.le_of_lt hp)
  have d1 : n / 2 ^ j ≤ n := Int.ediv_le_self _ h0
  rw [e, if_pos (by omega)]
  unfold shr
  have m : min (j : Int).toNat IntKind.i64.bits = j := by simp [IntKind.bits]; omega
  rw [m, and63 _ d0 (by omega), or128 _ (by omega) (by omega)]
  congr 1
  omega
theorem impl_PutSign_j (n : Int) (h0 : 0 ≤ n) (h1 : n ≤ 1114111) (k : Nat) : impl_PutSign.j0 (k + 1) n = some (strOfNums (PSb n)) := by
  simp only [impl_PutSign.j0]
  unfold PSb
  have f0 := impl_follow_is n h0 h1 0 (by omega)
  have f6 := impl_follow_is n h0 h1 6 (by omega)
  have f12 := impl_follow_is n h0 h1 12 (by omega)
  simp only [Int.natCast_zero, Int.pow_zero, Int.ediv_one] at f0
  have e6 : ((6 : Nat) : Int) = 6 := rfl
  have e12 : ((12 : Nat) : Int) = 12 := rfl
  have p6 : (2 : Int) ^ 6 = 64 := rfl
  have p12 : (2 : Int) ^ 12 = 4096 := rfl
  rw [e6, p6] at f6
  rw [e12, p12] at f12
  by_cases a : n < 128
  · rw [if_pos a, if_pos a, Int.emod_eq_of_lt h0 (by omega)]
  · rw [if_neg a, if_neg a]
    by_cases b : n < 2048
    · rw [if_pos b, if_pos b, f0, or192 _ (by omega) (by omega), Int.emod_eq_of_lt (a := 192 + n / 64) (b := 256) (by omega) (by omega)]; rfl
    · rw [if_neg b, if_neg b]
      by_cases c : n < 65536
      · rw [if_pos c, if_pos c, f6, f0, or224 _ (by omega) (by omega), Int.emod_eq_of_lt (a := 224 + n / 4096) (b := 256) (by omega) (by omega)]; rfl
      · rw [if_neg c, if_neg c, f12, f6, f0, or240 _ (by omega) (by omega), Int.emod_eq_of_lt (a := 240 + n / 262144) (b := 256) (by omega) (by omega)]; rfl
theorem impl_PutSign_ev (n : Int) : Ev (fun k => impl_PutSign.f k n) (PS n) := by
  refine Ev.at1 fun k => ?_
  unfold impl_PutSign.f PS
  rw [impl_SignOk_is]
  simp only [Option.bind_some]
  have r := PSn_range n
  unfold PSn at r ⊢
  by_cases h : SgOk n = true
  · rw [if_pos h] at r ⊢; rw [if_pos h]; exact impl_PutSign_j n r.1 r.2 k
  · rw [if_neg h] at r ⊢; rw [if_neg h]; exact impl_PutSign_j _ r.1 r.2 k

theorem PSb_length (n : Int) : (PSb n).length ≤ 4 := by
  unfold PSb
  split
  · simp
  · split
    · simp
    · split <;> simp
theorem PS_size (n : Int) : (PS n).size ≤ 4 := by
  unfold PS
  rw [strOfNums_size]
  exact PSb_length _
/-- The text of some signs. -/
def ST (l : List Int) : ByteArray := joinOf (l.map PS)
theorem row_join : ∀ r : List ByteArray, rowOf r = (r.flatMap (·.data.toList)).map fun b => (b.toNat : Int)
  | [] => rfl
  | s :: r => by
    have ih := row_join r
    unfold rowOf at ih ⊢
    simp only [List.flatMap_cons, List.map_append, ih]
    rfl
theorem row_text (r : List ByteArray) : strOfNums (rowOf r) = joinOf r := by
  rw [row_join, Lib.Lz.strOfNums_map]
  rfl
theorem row_len (r : List ByteArray) : (rowOf r).length = joinLen r := by
  rw [row_join]
  simp [joinLen]
theorem join_len (l : List Int) : joinLen (l.map PS) ≤ l.length * 4 := by
  induction l with
  | nil => simp [joinLen]
  | cons n l ih =>
    unfold joinLen at ih ⊢
    simp only [List.map_cons, List.flatMap_cons, List.length_append, List.length_cons]
    have := PS_size n
    have e := data_length (PS n)
    omega
theorem ST_size (l : List Int) : (ST l).size ≤ l.length * 4 := by
  have := join_len l
  unfold ST joinOf
  have e : (⟨((l.map PS).flatMap (·.data.toList)).toArray⟩ : ByteArray).size = joinLen (l.map PS) := by
    unfold joinLen
    exact List.size_toArray
  rw [e]
  exact this
theorem spec_SignText_l (l : List Int) : Ev (fun k => spec_SignText.l0 k l) (l.map PS) := by
  induction l with
  | nil => exact Ev.yes fun _ => rfl
  | cons n l ih => exact Ev.bind (spec_PutSign_ev n) (Ev.bind ih (Ev.now _))
theorem impl_SignText_l (l : List Int) : Ev (fun k => impl_SignText.l0 k l) (l.map PS) := by
  induction l with
  | nil => exact Ev.yes fun _ => rfl
  | cons n l ih => exact Ev.bind (impl_PutSign_ev n) (Ev.bind ih (Ev.now _))
theorem spec_SignText_ev (l : List Int) (h : l.length ≤ 1000000000000) : Ev (fun k => spec_SignText.f k l) (ST l) := by
  unfold spec_SignText.f
  refine Ev.bind (spec_SignText_l l) ?_
  have := join_len l
  rw [row_len, if_pos (by omega), row_text]
  exact Ev.now _
theorem impl_SignText_ev (l : List Int) (h : l.length ≤ 1000000000000) : Ev (fun k => impl_SignText.f k l) (ST l) := by
  unfold impl_SignText.f
  refine Ev.bind (impl_SignText_l l) ?_
  have := join_len l
  rw [if_pos (by omega)]
  exact Ev.now _

theorem set_mid {α : Type} (pre : List α) (x y : α) (suf : List α) : (pre ++ x :: suf).set ((pre.length : Nat) : Int).toNat y = (pre ++ [y]) ++ suf := by
  rw [Int.toNat_natCast]
  simp
theorem next_at (n : Nat) (h : n ≤ 2000000000000) : wrap64 ((n : Int) + 1) = ((n + 1 : Nat) : Int) := by
  rw [wrap_id _ (by omega) (by omega)]
  omega

theorem rd_mid (pre : List Int) (x : Int) (suf : List Int) : rd (pre ++ x :: suf) ((pre.length : Nat) : Int) = x := by
  unfold rd
  rw [Int.toNat_natCast]
  simp
theorem eqIntS_loop : ∀ (suf pre : List Int), (pre ++ suf).length ≤ 2000000000000 → Ev (fun k => laws_eqIntS.l0 k (pre ++ suf) (pre ++ suf) ((pre.length : Nat) : Int)) true
  | [], pre, h => by
    refine Ev.at1 fun k => ?_
    simp only [laws_eqIntS.l0, List.append_nil]
    rw [if_neg (by omega)]
  | x :: suf, pre, h => by
    have hl : (pre ++ x :: suf).length = pre.length + 1 + suf.length := by simp; omega
    have ih := eqIntS_loop suf (pre ++ [x]) (by simp at h ⊢; omega)
    refine Ev.step (f := fun k => laws_eqIntS.l0 k (pre ++ x :: suf) (pre ++ x :: suf) ((pre.length + 1 : Nat) : Int)) (fun k => ?_) ?_
    · simp only [laws_eqIntS.l0]
      rw [if_pos (by omega), if_pos (by omega), if_pos (by omega), if_pos trivial, next_at _ (by omega)]
    · have e : pre ++ [x] ++ suf = pre ++ x :: suf := by simp
      rw [e, List.length_append] at ih
      exact ih
theorem eqIntS_same (l : List Int) (h : l.length ≤ 2000000000000) : Ev (fun k => laws_eqIntS.f k l l) true := by
  unfold laws_eqIntS.f
  simp only [if_true]
  exact eqIntS_loop l [] h

theorem toIntS_loop (l : List Int) (suf : List Int) : ∀ (pre : List Int), l = pre ++ suf → l.length ≤ 1000000000000 →
    Ev (fun k => laws_toIntS.l0 k l (pre ++ List.replicate suf.length 0) ((pre.length : Nat) : Int)) l := by
  induction suf with
  | nil =>
    intro pre hl h
    refine Ev.at1 fun k => ?_
    simp only [laws_toIntS.l0]
    rw [if_neg (by rw [hl]; simp)]
    simp [hl]
  | cons x suf IH =>
    intro pre hl h
    have hn : l.length = pre.length + 1 + suf.length := by rw [hl]; simp; omega
    have ih := IH (pre ++ [x]) (by rw [hl]; simp) h
    refine Ev.step (f := fun k => laws_toIntS.l0 k l (pre ++ [x] ++ List.replicate suf.length 0) ((pre.length + 1 : Nat) : Int)) (fun k => ?_) ?_
    · simp only [laws_toIntS.l0]
      have e : List.replicate (x :: suf).length (0 : Int) = 0 :: List.replicate suf.length 0 := rfl
      have hx : rd l ((pre.length : Nat) : Int) = x := by rw [hl]; exact rd_mid pre x suf
      rw [if_pos (by omega), if_pos (by omega), if_pos (by simp; omega), next_at _ (by omega), hx, e, set_mid]
    · have e2 : (pre ++ [x]).length = pre.length + 1 := by simp
      rw [e2] at ih
      exact ih
theorem toIntS_ev (l : List Int) (h : l.length ≤ 1000000000000) : Ev (fun k => laws_toIntS.f k l) l := by
  unfold laws_toIntS.f
  rw [Int.toNat_natCast]
  simp only [if_pos (show (0 : Int) ≤ (l.length : Int) by omega), if_pos (show l.length ≤ 35184372088832 by omega)]
  exact toIntS_loop l l [] rfl h

theorem FnExactSignText : laws_FnExactSignText.Pure := by
  intro l _ _ _
  refine Ev.rounds (r := true) ?_
  unfold laws_FnExactSignText.f
  by_cases h : (l.length : Int) > 1048576
  · simp only [if_pos h]; exact Ev.now _
  · simp only [if_neg h]
    have ti := toIntS_ev l (by omega)
    refine Ev.bind ti (Ev.bind (spec_SignText_ev l (by omega)) (Ev.bind ti (Ev.bind (impl_SignText_ev l (by omega)) ?_)))
    simp only [if_true]
    refine Ev.bind ti (Ev.bind (eqIntS_same l (by omega)) ?_)
    simp only [if_true]
    exact Ev.now _

end Go.Proofs.Ytoglccojipijdaa.Pure
