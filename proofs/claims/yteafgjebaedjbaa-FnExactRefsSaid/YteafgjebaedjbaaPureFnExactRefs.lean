/- The statement of FnExactRefs, over the printed functions: it is true for every input. No condition. -/
import Derived.Test.YteafgjebaedjbaaPFnExactRefsx7
import Derived.Lib.IndexBytes
import Derived.Lib.LazyBuf
namespace Go.Proofs.Yteafgjebaedjbaa.Pure
open Go.RowKit Go.Proofs.Yteafgjebaedjbaa.PFnExactRefs Go.Proofs.YteafgjebaedjbaaW.PrintWords Go.Proofs.YteafgjebaedjbaaW.PrintLast
set_option linter.unusedVariables false
set_option linter.unusedSimpArgs false

theorem Ev.yes {α : Type} {g : Nat → Option α} {r : α} (h : ∀ k, g k = some r) : Ev g r := ⟨0, fun k _ => h k⟩
theorem Ev.at1 {α : Type} {g : Nat → Option α} {r : α} (h : ∀ k, g (k + 1) = some r) : Ev g r := Ev.step (f := fun _ => some r) h (Ev.now r)
theorem wrap_id (n : Int) (h0 : -9223372036854775808 ≤ n) (h1 : n ≤ 9223372036854775807) : wrap64 n = n := by unfold wrap64; omega

theorem l1In_is (a b c : Int) : spec_l1In.f a b c = some (decide (b ≤ a ∧ a ≤ c)) := by
  unfold spec_l1In.f
  by_cases h : b ≤ a
  · rw [if_pos h]; simp [h]
  · rw [if_neg h]; simp [h]

theorem inRange_is (a b c : Int) : impl_inRange.f a b c = some (decide (b ≤ a ∧ a ≤ c)) := by
  unfold impl_inRange.f
  by_cases h : b ≤ a
  · rw [if_pos h]; simp [h]
  · rw [if_neg h]; simp [h]

/-- Both sides' ranges. -/
theorem range_same (a b c : Int) : spec_l1In.f a b c = impl_inRange.f a b c := by rw [l1In_is, inRange_is]

/-- What a letter is. -/
def LtOk (n : Int) : Bool := decide (97 ≤ n ∧ n ≤ 122) || decide (65 ≤ n ∧ n ≤ 90)
theorem spec_IsLetter_is (n : Int) : spec_IsLetter.f n = some (LtOk n) := by
  unfold spec_IsLetter.f LtOk
  rw [l1In_is, l1In_is]
  simp only [Option.bind_some]
  by_cases h : decide (97 ≤ n ∧ n ≤ 122) = true
  · rw [if_pos h, h]; rfl
  · rw [if_neg h, Bool.eq_false_iff.mpr h]; rfl
theorem impl_IsLetter_is (n : Int) : impl_IsLetter.f n = some (LtOk n) := by
  unfold impl_IsLetter.f LtOk
  rw [inRange_is, inRange_is]
  simp only [Option.bind_some]
  by_cases h : decide (97 ≤ n ∧ n ≤ 122) = true
  · rw [if_pos h, h]; rfl
  · rw [if_neg h, Bool.eq_false_iff.mpr h]; rfl

theorem ite_dec {α : Type} (F : Bool → α) (P Q : Prop) [Decidable P] [Decidable Q] : (if P then F (decide Q) else F false) = F (decide (P ∧ Q)) := by
  by_cases h : P
  · rw [if_pos h]; simp [h]
  · rw [if_neg h]; simp [h]
/-- What a digit counts. -/
def dg (b : Int) (hex : Bool) : Int :=
  if 48 ≤ b ∧ b ≤ 57 then b - 48 else if hex = true ∧ 97 ≤ b ∧ b ≤ 102 then b - 87 else if hex = true ∧ 65 ≤ b ∧ b ≤ 70 then b - 55 else -1
theorem dg_range (b : Int) (hex : Bool) : -1 ≤ dg b hex ∧ dg b hex ≤ 15 := by
  unfold dg
  split
  · omega
  · split
    · omega
    · split <;> omega
theorem spec_j1 (b : Int) (hex x : Bool) (h0 : 0 ≤ b) (h1 : b ≤ 255) (k : Nat) : spec_l3Digit.j1 (k + 1) b hex x = some (if x = true then b - 87 else if hex = true ∧ 65 ≤ b ∧ b ≤ 70 then b - 55 else -1) := by
  simp only [spec_l3Digit.j1]
  rw [wrap_id b (by omega) (by omega), wrap_id (b - 87) (by omega) (by omega), wrap_id (b - 55) (by omega) (by omega)]
  cases x with
  | true => rfl
  | false =>
    cases hex with
    | false => rfl
    | true =>
      simp only [Bool.false_eq_true, if_false, if_true, true_and]
      by_cases c : 65 ≤ b
      · by_cases d : b ≤ 70
        · rw [if_pos c, if_pos d, if_pos ⟨c, d⟩]
        · rw [if_pos c, if_neg d, if_neg (fun h => d h.2)]
      · rw [if_neg c, if_neg (fun h => c h.1)]
theorem spec_l3Digit_is (b : Int) (hex : Bool) (h0 : 0 ≤ b) (h1 : b ≤ 255) (k : Nat) : spec_l3Digit.f (k + 2) b hex = some (dg b hex) := by
  unfold spec_l3Digit.f
  rw [ite_dec (spec_l3Digit.j0 (k + 2) b hex) (b ≥ 48) (b ≤ 57)]
  simp only [spec_l3Digit.j0]
  rw [ite_dec (spec_l3Digit.j1 (k + 1) b hex) (b ≥ 97) (b ≤ 102), ite_dec (spec_l3Digit.j1 (k + 1) b hex) (hex = true) (b ≥ 97 ∧ b ≤ 102), spec_j1 b hex _ h0 h1, wrap_id b (by omega) (by omega), wrap_id (b - 48) (by omega) (by omega)]
  unfold dg
  by_cases c : 48 ≤ b ∧ b ≤ 57
  · rw [if_pos (decide_eq_true c), if_pos c]
  · rw [if_neg (by rw [decide_eq_true_eq]; exact c), if_neg c]
    congr 1
    by_cases d : hex = true ∧ 97 ≤ b ∧ b ≤ 102
    · rw [if_pos (decide_eq_true d), if_pos d]
    · rw [if_neg (by rw [decide_eq_true_eq]; exact d), if_neg d]
def bs (hex : Bool) : Int := if hex = true then 16 else 10
theorem impl_j2 (b : Int) (hex x : Bool) (h0 : 0 ≤ b) (h1 : b ≤ 255) (hx : x = decide (65 ≤ b ∧ b ≤ 70)) (k : Nat) : impl_digitOf.j2 (k + 1) b (bs hex) (-1) x = some (if hex = true ∧ 65 ≤ b ∧ b ≤ 70 then b - 55 else -1) := by
  simp only [impl_digitOf.j2]
  subst hx
  unfold bs
  by_cases c : 65 ≤ b ∧ b ≤ 70
  · rw [if_pos (decide_eq_true c)]
    have e : (b - 65) % 256 + 10 = b - 55 := by omega
    rw [e]
    cases hex with
    | true => rw [if_neg (by simp; omega), if_pos ⟨rfl, c⟩]
    | false => rw [if_pos (by simp; omega), if_neg (by simp)]
  · have n2 : ¬ (hex = true ∧ 65 ≤ b ∧ b ≤ 70) := fun h => c h.2
    rw [if_neg (by rw [decide_eq_true_eq]; exact c), if_neg n2]
    cases hex <;> rfl
theorem impl_digitOf_is (b : Int) (hex : Bool) (h0 : 0 ≤ b) (h1 : b ≤ 255) (k : Nat) : impl_digitOf.f (k + 3) b (bs hex) = some (dg b hex) := by
  unfold impl_digitOf.f
  rw [ite_dec (impl_digitOf.j0 (k + 3) b (bs hex) (-1)) (b ≥ 48) (b ≤ 57)]
  simp only [impl_digitOf.j0]
  rw [ite_dec (impl_digitOf.j1 (k + 2) b (bs hex) (-1)) (b ≥ 97) (b ≤ 102)]
  simp only [impl_digitOf.j1]
  rw [ite_dec (impl_digitOf.j2 (k + 1) b (bs hex) (-1)) (b ≥ 65) (b ≤ 70), impl_j2 b hex _ h0 h1 rfl k]
  unfold dg bs
  by_cases c : 48 ≤ b ∧ b ≤ 57
  · have e : (b - 48) % 256 = b - 48 := by omega
    rw [if_pos (decide_eq_true c), if_pos c, e]
    cases hex with
    | true => rw [if_neg (by simp; omega)]
    | false => rw [if_neg (by simp; omega)]
  · rw [if_neg (by rw [decide_eq_true_eq]; exact c), if_neg c]
    by_cases d : 97 ≤ b ∧ b ≤ 102
    · have e : (b - 97) % 256 + 10 = b - 87 := by omega
      rw [if_pos (decide_eq_true d), e]
      cases hex with
      | true => rw [if_neg (by simp; omega), if_pos ⟨rfl, d⟩]
      | false => rw [if_pos (by simp; omega)]; simp
    · rw [if_neg (by rw [decide_eq_true_eq]; exact d), if_neg (c := hex = true ∧ 97 ≤ b ∧ b ≤ 102) (fun h => d h.2)]
theorem Ev.at2 {α : Type} {g : Nat → Option α} {r : α} (h : ∀ k, g (k + 2) = some r) : Ev g r := Ev.step (f := fun k => g (k + 1)) (fun _ => rfl) (Ev.at1 h)
theorem Ev.at3 {α : Type} {g : Nat → Option α} {r : α} (h : ∀ k, g (k + 3) = some r) : Ev g r := Ev.step (f := fun k => g (k + 1)) (fun _ => rfl) (Ev.at2 h)
theorem spec_l3Digit_ev (b : Int) (hex : Bool) (h0 : 0 ≤ b) (h1 : b ≤ 255) : Ev (fun k => spec_l3Digit.f k b hex) (dg b hex) := Ev.at2 (spec_l3Digit_is b hex h0 h1)
theorem impl_digitOf_ev (b : Int) (hex : Bool) (h0 : 0 ≤ b) (h1 : b ≤ 255) : Ev (fun k => impl_digitOf.f k b (bs hex)) (dg b hex) := Ev.at3 (impl_digitOf_is b hex h0 h1)

/-- What a sign is. -/
def SgOk (n : Int) : Bool := decide (0 ≤ n ∧ n ≤ 1114111) && !decide (55296 ≤ n ∧ n ≤ 57343)
theorem spec_SignOk_is (n : Int) : spec_SignOk.f n = some (SgOk n) := by
  unfold spec_SignOk.f SgOk
  rw [l1In_is, l1In_is]
  simp only [Option.bind_some]
  by_cases h : decide (0 ≤ n ∧ n ≤ 1114111) = true
  · rw [if_pos h, h]; rfl
  · rw [if_neg h, Bool.eq_false_iff.mpr h]; rfl
theorem impl_SignOk_is (n : Int) : impl_SignOk.f n = some (SgOk n) := by
  unfold impl_SignOk.f SgOk
  rw [inRange_is, inRange_is]
  simp only [Option.bind_some]
  by_cases h : decide (0 ≤ n ∧ n ≤ 1114111) = true
  · rw [if_pos h, h]; rfl
  · rw [if_neg h, Bool.eq_false_iff.mpr h]; rfl

/-- The sign for a number. -/
def NB (n : Int) : Int := if 128 ≤ n ∧ n ≤ 159 then numTab.getD (n - 128).toNat 0 else if n = 0 then 65533 else if SgOk n = true then n else 65533
theorem impl_Numbered_is (n : Int) : impl_Numbered.f n = some (NB n) := by
  unfold impl_Numbered.f NB
  rw [impl_SignOk_is]
  simp only [Option.bind_some]
  by_cases h : 128 ≤ n ∧ n ≤ 159
  · rw [if_pos h, if_pos h]
  · rw [if_neg h, if_neg h]
    by_cases h0 : n = 0
    · rw [if_pos h0, if_pos h0]
    · rw [if_neg h0, if_neg h0]
      by_cases h1 : SgOk n = true
      · rw [if_pos h1, if_pos h1]
      · rw [if_neg h1, if_neg h1]
theorem spec_Numbered_j (n : Int) (b : Bool) (h0 : -9223372036854775808 ≤ n) (h1 : n ≤ 9223372036854775807) (k : Nat) : spec_Numbered.j0 (k + 1) n numTab b = some (if b = true then 65533 else if 128 ≤ n ∧ n ≤ 159 then numTab.getD (n - 128).toNat 0 else n) := by
  simp only [spec_Numbered.j0]
  cases b with
  | true => rfl
  | false =>
    simp only [Bool.false_eq_true, if_false, l1In_is, Option.bind_some]
    by_cases h : 128 ≤ n ∧ n ≤ 159
    · have hl : numTab.length = 32 := rfl
      rw [if_pos (decide_eq_true h), if_pos h, wrap_id _ (by omega) (by omega), if_pos (by omega), hl, if_pos (by omega)]
      rfl
    · rw [if_neg (by rw [decide_eq_true_eq]; exact h), if_neg h]
theorem spec_Numbered_ev (n : Int) (h0 : -9223372036854775808 ≤ n) (h1 : n ≤ 9223372036854775807) : Ev (fun k => spec_Numbered.f k n) (NB n) := by
  refine Ev.at1 fun k => ?_
  have e : spec_Numbered.f (k + 1) n = if n = 0 then spec_Numbered.j0 (k + 1) n numTab true else (spec_SignOk.f n).bind fun t => spec_Numbered.j0 (k + 1) n numTab (!t) := rfl
  rw [e, spec_SignOk_is, spec_Numbered_j n _ h0 h1]
  simp only [Option.bind_some]
  rw [spec_Numbered_j n _ h0 h1]
  unfold NB
  by_cases z : n = 0
  · subst z; rfl
  · rw [if_neg z, if_neg z]
    by_cases s : SgOk n = true
    · rw [s]; simp
    · have s' := Bool.eq_false_iff.mpr s
      have : ¬ (128 ≤ n ∧ n ≤ 159) := by
        intro h
        apply s
        unfold SgOk
        simp
        omega
      simp only [s', if_neg this, Bool.not_false, if_true, Bool.false_eq_true, if_false]
theorem wf_range (n : Int) (h : (Lit.int .i64 n).wf = true) : -9223372036854775808 ≤ n ∧ n ≤ 9223372036854775807 := by
  simpa [Lit.wf, IntKind.min, IntKind.max, IntKind.signed, IntKind.bits] using h

theorem wraps63 (n : Int) (h0 : 0 ≤ n) (h1 : n < 2 ^ 63) : IntKind.i64.wrap n = n := by rw [IntKind.wrap_i64]; omega
theorem and63 (x : Int) (h0 : 0 ≤ x) (h1 : x < 9223372036854775808) : Go.bits .and .i64 x 63 = x % 64 := bits_mask .i64 63 (by decide) wraps63 6 (by decide) x h0 (by simpa using h1)
theorem or_join (i : Nat) (x y : Int) (hx0 : 0 ≤ x) (hx : x % 2 ^ i = 0) (hx1 : x < 9223372036854775808) (h0 : 0 ≤ y) (h1 : y < 2 ^ i) (h2 : y < 9223372036854775808) : Go.bits .or .i64 x y = x + y :=
  bits_join .i64 63 (by decide) wraps63 i x y hx0 hx (by simpa using hx1) h0 h1 (by simpa using h2)
theorem or128 (y : Int) (h0 : 0 ≤ y) (h1 : y < 64) : Go.bits .or .i64 128 y = 128 + y := or_join 6 128 y (by decide) (by decide) (by decide) h0 (by simpa using h1) (by omega)
theorem or192 (y : Int) (h0 : 0 ≤ y) (h1 : y < 32) : Go.bits .or .i64 192 y = 192 + y := or_join 5 192 y (by decide) (by decide) (by decide) h0 (by simpa using h1) (by omega)
theorem or224 (y : Int) (h0 : 0 ≤ y) (h1 : y < 16) : Go.bits .or .i64 224 y = 224 + y := or_join 4 224 y (by decide) (by decide) (by decide) h0 (by simpa using h1) (by omega)
theorem or240 (y : Int) (h0 : 0 ≤ y) (h1 : y < 8) : Go.bits .or .i64 240 y = 240 + y := or_join 3 240 y (by decide) (by decide) (by decide) h0 (by simpa using h1) (by omega)

/-- A sign's bytes. -/
def PSb (n : Int) : List Int :=
  if n < 128 then [n] else if n < 2048 then [192 + n / 64, 128 + n % 64]
  else if n < 65536 then [224 + n / 4096, 128 + n / 64 % 64, 128 + n % 64]
  else [240 + n / 262144, 128 + n / 4096 % 64, 128 + n / 64 % 64, 128 + n % 64]
/-- What is put for a number. -/
def PSn (n : Int) : Int := if SgOk n = true then n else 65533
def PS (n : Int) : ByteArray := strOfNums (PSb (PSn n))
theorem SgOk_range (n : Int) (h : SgOk n = true) : 0 ≤ n ∧ n ≤ 1114111 := by
  unfold SgOk at h
  simp only [Bool.and_eq_true, decide_eq_true_eq] at h
  exact h.1
theorem PSn_range (n : Int) : 0 ≤ PSn n ∧ PSn n ≤ 1114111 := by
  unfold PSn
  by_cases h : SgOk n = true
  · rw [if_pos h]; exact SgOk_range n h
  · rw [if_neg h]; omega
theorem spec_PutSign_j (n : Int) (h0 : 0 ≤ n) (h1 : n ≤ 1114111) (k : Nat) : spec_PutSign.j0 (k + 1) n = some (strOfNums (PSb n)) := by
  simp only [spec_PutSign.j0]
  unfold PSb
  by_cases a : n < 128
  · rw [if_pos a, if_pos a, Int.emod_eq_of_lt h0 (by omega)]
  · rw [if_neg a, if_neg a]
    have w0 : ∀ x : Int, 0 ≤ x → x < 256 → (wrap64 x) % 256 = x := fun x a b => by unfold wrap64; omega
    by_cases b : n < 2048
    · rw [if_pos b, if_pos b, and63 n h0 (by omega), w0 _ (by omega) (by omega), w0 _ (by omega) (by omega)]
    · rw [if_neg b, if_neg b]
      by_cases c : n < 65536
      · rw [if_pos c, if_pos c, and63 n h0 (by omega), and63 (n / 64) (by omega) (by omega), w0 _ (by omega) (by omega), w0 _ (by omega) (by omega), w0 _ (by omega) (by omega)]
      · rw [if_neg c, if_neg c, and63 n h0 (by omega), and63 (n / 64) (by omega) (by omega), and63 (n / 4096) (by omega) (by omega), w0 _ (by omega) (by omega), w0 _ (by omega) (by omega), w0 _ (by omega) (by omega), w0 _ (by omega) (by omega)]
theorem spec_PutSign_ev (n : Int) : Ev (fun k => spec_PutSign.f k n) (PS n) := by
  refine Ev.at1 fun k => ?_
  unfold spec_PutSign.f PS
  rw [spec_SignOk_is]
  simp only [Option.bind_some]
  have r := PSn_range n
  unfold PSn at r ⊢
  by_cases h : SgOk n = true
  · rw [if_pos h] at r ⊢; rw [if_pos h]; exact spec_PutSign_j n r.1 r.2 k
  · rw [if_neg h] at r ⊢; rw [if_neg h]; exact spec_PutSign_j _ r.1 r.2 k
theorem impl_follow_is (n : Int) (h0 : 0 ≤ n) (h1 : n ≤ 1114111) (j : Nat) (hj : j ≤ 12) : impl_follow.f n j = some (128 + n / 2 ^ j % 64) := by
  unfold impl_follow.f
  have e : IntKind.u64.wrap (j : Int) = j := by simp [IntKind.wrap, IntKind.bits, IntKind.signed]; omega
  have hp : (0 : Int) < 2 ^ j := Int.pow_pos (by decide)
  have d0 : 0 ≤ n / 2 ^ j := Int.ediv_nonneg h0 (Int.le_of_lt hp)
  have d1 : n / 2 ^ j ≤ n := Int.ediv_le_self _ h0
  rw [e, if_pos (by omega)]
  unfold shr
  have m : min (j : Int).toNat IntKind.i64.bits = j := by simp [IntKind.bits]; omega
  rw [m, and63 _ d0 (by omega), or128 _ (by omega) (by omega)]
  congr 1
  omega
theorem impl_PutSign_j (n : Int) (h0 : 0 ≤ n) (h1 : n ≤ 1114111) (k : Nat) : impl_PutSign.j0 (k + 1) n = some (strOfNums (PSb n)) := by
  simp only [impl_PutSign.j0]
  unfold PSb
  have f0 := impl_follow_is n h0 h1 0 (by omega)
  have f6 := impl_follow_is n h0 h1 6 (by omega)
  have f12 := impl_follow_is n h0 h1 12 (by omega)
  simp only [Int.natCast_zero, Int.pow_zero, Int.ediv_one] at f0
  have e6 : ((6 : Nat) : Int) = 6 := rfl
  have e12 : ((12 : Nat) : Int) = 12 := rfl
  have p6 : (2 : Int) ^ 6 = 64 := rfl
  have p12 : (2 : Int) ^ 12 = 4096 := rfl
  rw [e6, p6] at f6
  rw [e12, p12] at f12
  by_cases a : n < 128
  · rw [if_pos a, if_pos a, Int.emod_eq_of_lt h0 (by omega)]
  · rw [if_neg a, if_neg a]
    by_cases b : n < 2048
    · rw [if_pos b, if_pos b, f0, or192 _ (by omega) (by omega), Int.emod_eq_of_lt (a := 192 + n / 64) (b := 256) (by omega) (by omega)]; rfl
    · rw [if_neg b, if_neg b]
      by_cases c : n < 65536
      · rw [if_pos c, if_pos c, f6, f0, or224 _ (by omega) (by omega), Int.emod_eq_of_lt (a := 224 + n / 4096) (b := 256) (by omega) (by omega)]; rfl
      · rw [if_neg c, if_neg c, f12, f6, f0, or240 _ (by omega) (by omega), Int.emod_eq_of_lt (a := 240 + n / 262144) (b := 256) (by omega) (by omega)]; rfl
theorem impl_PutSign_ev (n : Int) : Ev (fun k => impl_PutSign.f k n) (PS n) := by
  refine Ev.at1 fun k => ?_
  unfold impl_PutSign.f PS
  rw [impl_SignOk_is]
  simp only [Option.bind_some]
  have r := PSn_range n
  unfold PSn at r ⊢
  by_cases h : SgOk n = true
  · rw [if_pos h] at r ⊢; rw [if_pos h]; exact impl_PutSign_j n r.1 r.2 k
  · rw [if_neg h] at r ⊢; rw [if_neg h]; exact impl_PutSign_j _ r.1 r.2 k

/-- Where the digits end. -/
def NRend (s : ByteArray) (at_ : Int) (fr i : Nat) (n : Int) : ByteArray × Int :=
  if i = fr then ((⟨#[]⟩ : ByteArray), 0) else (PS (NB n), if i < s.size ∧ bt s i = 59 then (i : Int) + 1 - at_ else (i : Int) - at_)
def step10 (hex : Bool) (n d : Int) : Int := if n * bs hex + d < 1114112 then n * bs hex + d else 1114112
/-- A reference by number, from a digit on. -/
def NR (s : ByteArray) (at_ : Int) (fr : Nat) (hex : Bool) : Nat → Nat → Int → ByteArray × Int
  | 0, i, n => NRend s at_ fr i n
  | d + 1, i, n => if i < s.size ∧ 0 ≤ dg (bt s i) hex then NR s at_ fr hex d (i + 1) (step10 hex n (dg (bt s i) hex)) else NRend s at_ fr i n
theorem step10_range (hex : Bool) (n d : Int) (h0 : 0 ≤ n) (h1 : n ≤ 1114112) (h2 : 0 ≤ d) (h3 : d ≤ 15) : 0 ≤ step10 hex n d ∧ step10 hex n d ≤ 1114112 := by
  unfold step10 bs
  cases hex
  · simp only [Bool.false_eq_true, if_false]; split <;> omega
  · simp only [if_true]; split <;> omega
theorem spec_j4 (s : ByteArray) (at_ : Int) (i : Nat) (n : Int) (hs : s.size ≤ 140737488351232) (hi : i ≤ s.size) (ha : 0 ≤ at_) (ha1 : at_ ≤ s.size) (h0 : 0 ≤ n) (h1 : n ≤ 1114112) (x : Bool) :
    Ev (fun k => spec_l3Number.j4 k at_ (i : Int) n x) (PS (NB n), if x = true then (i : Int) + 1 - at_ else (i : Int) - at_) := by
  refine Ev.step (f := fun k => if x = true then ((spec_Numbered.f k n).bind fun t => ((spec_PutSign.f k t).bind fun u => (some (u, wrap64 ((wrap64 ((i : Int) + 1)) - at_))))) else ((spec_Numbered.f k n).bind fun t => ((spec_PutSign.f k t).bind fun u => (some (u, wrap64 ((i : Int) - at_)))))) (fun k => ?_) ?_
  · simp only [spec_l3Number.j4]
  · rw [wrap_id ((i : Int) + 1) (by omega) (by omega), wrap_id ((i : Int) + 1 - at_) (by omega) (by omega), wrap_id ((i : Int) - at_) (by omega) (by omega)]
    cases x
    · simp only [Bool.false_eq_true, if_false]
      exact Ev.bind (spec_Numbered_ev n (by omega) (by omega)) (Ev.bind (spec_PutSign_ev _) (Ev.now _))
    · simp only [if_true]
      exact Ev.bind (spec_Numbered_ev n (by omega) (by omega)) (Ev.bind (spec_PutSign_ev _) (Ev.now _))
theorem spec_end (s : ByteArray) (at_ : Int) (fr i : Nat) (hex : Bool) (b : Int) (n : Int) (hs : s.size ≤ 140737488351232) (hi : i ≤ s.size) (ha : 0 ≤ at_) (ha1 : at_ ≤ s.size) (h0 : 0 ≤ n) (h1 : n ≤ 1114112) :
    Ev (fun k => spec_l3Number.j3 k s at_ (i : Int) hex b (fr : Int) n false) (NRend s at_ fr i n) := by
  unfold NRend
  by_cases e : i = fr
  · rw [if_pos e]
    refine Ev.at1 fun k => ?_
    simp only [spec_l3Number.j3, Bool.false_eq_true, if_false]
    rw [if_pos (by omega)]
  · rw [if_neg e]
    have ne : ¬ (i : Int) = (fr : Int) := by omega
    have q : (0 : Int) ≤ (i : Int) := by omega
    by_cases c : (i : Int) < (s.size : Int)
    · have c' : i < s.size := by omega
      have := spec_j4 s at_ i n hs hi ha ha1 h0 h1 (bt s i == 59)
      refine Ev.step (f := fun k => spec_l3Number.j4 k at_ (i : Int) n (bt s i == 59)) (fun k => ?_) ?_
      · simp only [spec_l3Number.j3, Bool.false_eq_true, if_false]
        rw [if_neg ne, if_pos c, if_pos q]
      · have e2 : (if i < s.size ∧ bt s i = 59 then (i : Int) + 1 - at_ else (i : Int) - at_) = (if (bt s i == 59) = true then (i : Int) + 1 - at_ else (i : Int) - at_) := by
          by_cases z : bt s i = 59
          · rw [if_pos ⟨c', z⟩, if_pos (by rw [z]; rfl)]
          · rw [if_neg (fun h => z h.2), if_neg (by simpa using z)]
        rw [e2]
        exact this
    · have := spec_j4 s at_ i n hs hi ha ha1 h0 h1 false
      refine Ev.step (f := fun k => spec_l3Number.j4 k at_ (i : Int) n false) (fun k => ?_) ?_
      · simp only [spec_l3Number.j3, Bool.false_eq_true, if_false]
        rw [if_neg ne, if_neg c]
      · rw [if_neg (fun h => c (by omega))]
        exact this
theorem spec_num_loop (s : ByteArray) (at_ : Int) (fr : Nat) (hex : Bool) (hs : s.size ≤ 140737488351232) (ha : 0 ≤ at_) (ha1 : at_ ≤ s.size) (d : Nat) : ∀ (i : Nat) (n : Int), s.size ≤ i + d → i ≤ s.size → 0 ≤ n → n ≤ 1114112 →
    Ev (fun k => spec_l3Number.l0 k s at_ (i : Int) hex (bs hex) (fr : Int) n) (NR s at_ fr hex d i n) := by
  induction d with
  | zero =>
    intro i n hi hl h0 h1
    refine Ev.step (f := fun k => spec_l3Number.j3 k s at_ (i : Int) hex (bs hex) (fr : Int) n false) (fun k => ?_) (spec_end s at_ fr i hex _ n hs hl ha ha1 h0 h1)
    simp only [spec_l3Number.l0]
    rw [if_neg (by omega)]
  | succ d ih =>
    intro i n hi hl h0 h1
    unfold NR
    have q : (0 : Int) ≤ (i : Int) := by omega
    by_cases c : (i : Int) < (s.size : Int)
    · have br := bt_range s i
      have hd := spec_l3Digit_ev (bt s i) hex br.1 br.2
      have hdr := dg_range (bt s i) hex
      refine Ev.step (f := fun k => (spec_l3Digit.f k (bt s i) hex).bind fun t => spec_l3Number.j3 k s at_ (i : Int) hex (bs hex) (fr : Int) n (decide (t ≥ 0))) (fun k => ?_) (Ev.bind hd ?_)
      · simp only [spec_l3Number.l0]
        rw [if_pos c, if_pos q]
      · by_cases z : 0 ≤ dg (bt s i) hex
        · rw [if_pos ⟨by omega, z⟩, decide_eq_true (show dg (bt s i) hex ≥ 0 from z)]
          have hw : wrap64 ((i : Int) + 1) = ((i + 1 : Nat) : Int) := by rw [wrap_id _ (by omega) (by omega)]; omega
          have hr := step10_range hex n _ h0 h1 z hdr.2
          have hm : wrap64 (wrap64 (n * bs hex) + dg (bt s i) hex) = n * bs hex + dg (bt s i) hex := by
            unfold bs
            cases hex
            · simp only [Bool.false_eq_true, if_false]; rw [wrap_id (n * 10) (by omega) (by omega), wrap_id _ (by omega) (by omega)]
            · simp only [if_true]; rw [wrap_id (n * 16) (by omega) (by omega), wrap_id _ (by omega) (by omega)]
          have hmin : spec_l1Min.f (n * bs hex + dg (bt s i) hex) 1114112 = some (step10 hex n (dg (bt s i) hex)) := by
            unfold spec_l1Min.f step10
            split <;> rfl
          refine Ev.step (f := fun k => (spec_l3Digit.f k (bt s i) hex).bind fun t => ((spec_l1Min.f (wrap64 ((wrap64 (n * bs hex)) + t)) 1114112).bind fun u => (spec_l3Number.l0 k s at_ ((i + 1 : Nat) : Int) hex (bs hex) (fr : Int) u))) (fun k => ?_) (Ev.bind hd ?_)
          · simp only [spec_l3Number.j3, if_true]
            rw [if_pos q, if_pos c, hw]
          · rw [hm, hmin]
            simp only [Option.bind_some]
            exact ih (i + 1) _ (by omega) (by omega) hr.1 hr.2
        · rw [if_neg (fun h => z h.2), decide_eq_false (show ¬ dg (bt s i) hex ≥ 0 from z)]
          exact spec_end s at_ fr i hex _ n hs hl ha ha1 h0 h1
    · rw [if_neg (fun h => c (by omega))]
      refine Ev.step (f := fun k => spec_l3Number.j3 k s at_ (i : Int) hex (bs hex) (fr : Int) n false) (fun k => ?_) (spec_end s at_ fr i hex _ n hs hl ha ha1 h0 h1)
      simp only [spec_l3Number.l0]
      rw [if_neg c]
theorem impl_withEnd_is (s : ByteArray) (i : Nat) (hs : s.size ≤ 140737488351232) (hi : i ≤ s.size) : impl_withEnd.f s (i : Int) = some (if i < s.size ∧ bt s i = 59 then (i : Int) + 1 else (i : Int)) := by
  unfold impl_withEnd.f
  by_cases c : (i : Int) < (s.size : Int)
  · rw [if_pos c, if_pos (by omega), wrap_id _ (by omega) (by omega)]
    by_cases z : bt s i = 59
    · rw [if_pos z, if_pos ⟨by omega, z⟩]
    · rw [if_neg z, if_neg (fun h => z h.2)]
  · rw [if_neg c, if_neg (fun h => c (by omega))]
theorem impl_end (s : ByteArray) (at_ : Int) (fr i : Nat) (n : Int) (hs : s.size ≤ 140737488351232) (hi : i ≤ s.size) (ha : 0 ≤ at_) (ha1 : at_ ≤ s.size) :
    Ev (fun k => impl_numberRef.j3 k s at_ (fr : Int) n (i : Int)) (NRend s at_ fr i n) := by
  refine Ev.step (f := fun k => if (i : Int) = (fr : Int) then (some ((⟨#[]⟩ : ByteArray), 0)) else ((impl_Numbered.f n).bind fun t => ((impl_PutSign.f k t).bind fun u => ((impl_withEnd.f s i).bind fun v => (some (u, wrap64 (v - at_))))))) (fun k => ?_) ?_
  · simp only [impl_numberRef.j3]
  · unfold NRend
    by_cases e : i = fr
    · rw [if_pos e]; simp only [if_pos (show (i : Int) = (fr : Int) by omega)]; exact Ev.now _
    · rw [if_neg e]
      simp only [if_neg (show ¬ (i : Int) = (fr : Int) by omega)]
      rw [impl_Numbered_is]
      simp only [Option.bind_some]
      refine Ev.bind (impl_PutSign_ev _) ?_
      rw [impl_withEnd_is s i hs hi]
      simp only [Option.bind_some]
      by_cases z : i < s.size ∧ bt s i = 59
      · rw [if_pos z, if_pos z, wrap_id _ (by omega) (by omega)]; exact Ev.now _
      · rw [if_neg z, if_neg z, wrap_id _ (by omega) (by omega)]; exact Ev.now _
theorem impl_num_loop (s : ByteArray) (at_ : Int) (fr : Nat) (hex : Bool) (hs : s.size ≤ 140737488351232) (ha : 0 ≤ at_) (ha1 : at_ ≤ s.size) (d : Nat) : ∀ (i : Nat) (n : Int), s.size ≤ i + d → i ≤ s.size → 0 ≤ n → n ≤ 1114112 →
    Ev (fun k => impl_numberRef.l0 k s at_ (fr : Int) (bs hex) n (i : Int)) (NR s at_ fr hex d i n) := by
  induction d with
  | zero =>
    intro i n hi hl h0 h1
    refine Ev.step (f := fun k => impl_numberRef.j3 k s at_ (fr : Int) n (i : Int)) (fun k => ?_) (impl_end s at_ fr i n hs hl ha ha1)
    simp only [impl_numberRef.l0]
    rw [if_neg (by omega)]
  | succ d ih =>
    intro i n hi hl h0 h1
    unfold NR
    have q : (0 : Int) ≤ (i : Int) := by omega
    by_cases c : (i : Int) < (s.size : Int)
    · have br := bt_range s i
      have hd := impl_digitOf_ev (bt s i) hex br.1 br.2
      have hdr := dg_range (bt s i) hex
      have hw : wrap64 ((i : Int) + 1) = ((i + 1 : Nat) : Int) := by rw [wrap_id _ (by omega) (by omega)]; omega
      refine Ev.step (f := fun k => (impl_digitOf.f k (bt s i) (bs hex)).bind fun t => (if t ≥ 0 then ((impl_digitOf.f k (bt s i) (bs hex)).bind fun u => (impl_numberRef.l0 k s at_ (fr : Int) (bs hex) (mn (wrap64 ((wrap64 (n * bs hex)) + u)) 1114112) ((i + 1 : Nat) : Int))) else (impl_numberRef.j3 k s at_ (fr : Int) n (i : Int)))) (fun k => ?_) (Ev.bind hd ?_)
      · simp only [impl_numberRef.l0]
        rw [if_pos c, if_pos q, hw]
      · by_cases z : 0 ≤ dg (bt s i) hex
        · simp only [if_pos (show dg (bt s i) hex ≥ 0 from z)]
          rw [if_pos ⟨by omega, z⟩]
          have hr := step10_range hex n _ h0 h1 z hdr.2
          have hm : wrap64 (wrap64 (n * bs hex) + dg (bt s i) hex) = n * bs hex + dg (bt s i) hex := by
            unfold bs
            cases hex
            · simp only [Bool.false_eq_true, if_false]; rw [wrap_id (n * 10) (by omega) (by omega), wrap_id _ (by omega) (by omega)]
            · simp only [if_true]; rw [wrap_id (n * 16) (by omega) (by omega), wrap_id _ (by omega) (by omega)]
          have hmin : mn (n * bs hex + dg (bt s i) hex) 1114112 = step10 hex n (dg (bt s i) hex) := by
            unfold mn step10
            generalize n * bs hex + dg (bt s i) hex = v
            by_cases p : 1114112 < v
            · rw [if_pos p, if_neg (by omega)]
            · by_cases p2 : v < 1114112
              · rw [if_neg p, if_pos p2]
              · rw [if_neg p, if_neg p2]; omega
          refine Ev.bind hd ?_
          rw [hm, hmin]
          exact ih (i + 1) _ (by omega) (by omega) hr.1 hr.2
        · simp only [if_neg (show ¬ dg (bt s i) hex ≥ 0 from z)]
          rw [if_neg (fun h => z h.2)]
          exact impl_end s at_ fr i n hs hl ha ha1
    · rw [if_neg (fun h => c (by omega))]
      refine Ev.step (f := fun k => impl_numberRef.j3 k s at_ (fr : Int) n (i : Int)) (fun k => ?_) (impl_end s at_ fr i n hs hl ha ha1)
      simp only [impl_numberRef.l0]
      rw [if_neg c]
/-- A reference by number. -/
def numR (s : ByteArray) (a : Nat) : ByteArray × Int :=
  if a + 2 < s.size ∧ (bt s ((a + 2 : Nat) : Int) = 120 ∨ bt s ((a + 2 : Nat) : Int) = 88) then NR s a (a + 3) true s.size (a + 3) 0 else NR s a (a + 2) false s.size (a + 2) 0
theorem num_shape {α : Type} (s : ByteArray) (a : Nat) (F : Bool → Option α) :
    (if ((a + 2 : Nat) : Int) < (s.size : Int) then (if 0 ≤ ((a + 2 : Nat) : Int) then (if (bt s ((a + 2 : Nat) : Int)) = 120 then F true else F ((bt s ((a + 2 : Nat) : Int)) == 88)) else none) else F false)
      = F (decide (a + 2 < s.size ∧ (bt s ((a + 2 : Nat) : Int) = 120 ∨ bt s ((a + 2 : Nat) : Int) = 88))) := by
  generalize bt s ((a + 2 : Nat) : Int) = v
  by_cases c : a + 2 < s.size
  · rw [if_pos (by omega), if_pos (by omega)]
    by_cases x : v = 120
    · rw [if_pos x, decide_eq_true ⟨c, .inl x⟩]
    · rw [if_neg x]
      by_cases y : v = 88
      · rw [decide_eq_true ⟨c, .inr y⟩, y]; rfl
      · rw [decide_eq_false (fun h => h.2.elim x y), beq_eq_false_iff_ne.mpr y]
  · rw [if_neg (by omega), decide_eq_false (fun h => c h.1)]
theorem spec_num_ev (s : ByteArray) (a : Nat) (hs : s.size ≤ 140737488351232) (ha : a + 1 < s.size) : Ev (fun k => spec_l3Number.f k s a) (numR s a) := by
  have hw : wrap64 ((a : Int) + 2) = ((a + 2 : Nat) : Int) := by rw [wrap_id _ (by omega) (by omega)]; omega
  have hw2 : wrap64 (((a + 2 : Nat) : Int) + 1) = ((a + 3 : Nat) : Int) := by rw [wrap_id _ (by omega) (by omega)]; omega
  refine Ev.congr (f := fun k => spec_l3Number.j0 k s a ((a + 2 : Nat) : Int) (decide (a + 2 < s.size ∧ (bt s ((a + 2 : Nat) : Int) = 120 ∨ bt s ((a + 2 : Nat) : Int) = 88)))) (fun k => ?_) ?_
  · unfold spec_l3Number.f
    rw [hw]
    exact num_shape s a (fun b => spec_l3Number.j0 k s a ((a + 2 : Nat) : Int) b)
  · unfold numR
    by_cases c : a + 2 < s.size ∧ (bt s ((a + 2 : Nat) : Int) = 120 ∨ bt s ((a + 2 : Nat) : Int) = 88)
    · rw [decide_eq_true c, if_pos c]
      refine Ev.step (f := fun k => spec_l3Number.j1 k s a ((a + 3 : Nat) : Int) true 16) (fun k => ?_) ?_
      · simp only [spec_l3Number.j0, if_true]
        rw [hw2]
      · refine Ev.step (f := fun k => spec_l3Number.l0 k s a ((a + 3 : Nat) : Int) true (bs true) ((a + 3 : Nat) : Int) 0) (fun k => ?_) (spec_num_loop s a (a + 3) true hs (by omega) (by omega) s.size (a + 3) 0 (by omega) (by omega) (by decide) (by decide))
        simp only [spec_l3Number.j1]
        rfl
    · rw [decide_eq_false c, if_neg c]
      refine Ev.step (f := fun k => spec_l3Number.j1 k s a ((a + 2 : Nat) : Int) false 10) (fun k => ?_) ?_
      · simp only [spec_l3Number.j0, Bool.false_eq_true, if_false]
      · refine Ev.step (f := fun k => spec_l3Number.l0 k s a ((a + 2 : Nat) : Int) false (bs false) ((a + 2 : Nat) : Int) 0) (fun k => ?_) (spec_num_loop s a (a + 2) false hs (by omega) (by omega) s.size (a + 2) 0 (by omega) (by omega) (by decide) (by decide))
        simp only [spec_l3Number.j1]
        rfl
theorem impl_num_ev (s : ByteArray) (a : Nat) (hs : s.size ≤ 140737488351232) (ha : a + 1 < s.size) : Ev (fun k => impl_numberRef.f k s a) (numR s a) := by
  have hw : wrap64 ((a : Int) + 2) = ((a + 2 : Nat) : Int) := by rw [wrap_id _ (by omega) (by omega)]; omega
  have hw2 : wrap64 (((a + 2 : Nat) : Int) + 1) = ((a + 3 : Nat) : Int) := by rw [wrap_id _ (by omega) (by omega)]; omega
  refine Ev.congr (f := fun k => impl_numberRef.j0 k s a ((a + 2 : Nat) : Int) 10 (decide (a + 2 < s.size ∧ (bt s ((a + 2 : Nat) : Int) = 120 ∨ bt s ((a + 2 : Nat) : Int) = 88)))) (fun k => ?_) ?_
  · unfold impl_numberRef.f
    rw [hw]
    exact num_shape s a (fun b => impl_numberRef.j0 k s a ((a + 2 : Nat) : Int) 10 b)
  · unfold numR
    by_cases c : a + 2 < s.size ∧ (bt s ((a + 2 : Nat) : Int) = 120 ∨ bt s ((a + 2 : Nat) : Int) = 88)
    · rw [decide_eq_true c, if_pos c]
      refine Ev.step (f := fun k => impl_numberRef.j1 k s a ((a + 3 : Nat) : Int) 16) (fun k => ?_) ?_
      · simp only [impl_numberRef.j0, if_true]
        rw [hw2]
      · refine Ev.step (f := fun k => impl_numberRef.l0 k s a ((a + 3 : Nat) : Int) (bs true) 0 ((a + 3 : Nat) : Int)) (fun k => ?_) (impl_num_loop s a (a + 3) true hs (by omega) (by omega) s.size (a + 3) 0 (by omega) (by omega) (by decide) (by decide))
        simp only [impl_numberRef.j1]
        rfl
    · rw [decide_eq_false c, if_neg c]
      refine Ev.step (f := fun k => impl_numberRef.j1 k s a ((a + 2 : Nat) : Int) 10) (fun k => ?_) ?_
      · simp only [impl_numberRef.j0, Bool.false_eq_true, if_false]
      · refine Ev.step (f := fun k => impl_numberRef.l0 k s a ((a + 2 : Nat) : Int) (bs false) 0 ((a + 2 : Nat) : Int)) (fun k => ?_) (impl_num_loop s a (a + 2) false hs (by omega) (by omega) s.size (a + 2) 0 (by omega) (by omega) (by decide) (by decide))
        simp only [impl_numberRef.j1]
        rfl

/-- Does a text stand at a place. -/
def stands (s : ByteArray) (p : Nat) (w : ByteArray) : Bool := decide (p + w.size ≤ s.size) && ((s.data.toList.drop p).take w.size == w.data.toList)
/-- The longest of some names that stands at a place, if it is longer than one. -/
def LG (s : ByteArray) (p : Nat) : List ByteArray → ByteArray → ByteArray
  | [], o => o
  | w :: ws, o => if o.size < w.size ∧ stands s p w = true then LG s p ws w else LG s p ws o
theorem LG_small (s : ByteArray) (p : Nat) : ∀ (l : List ByteArray) (o : ByteArray), (∀ w ∈ l, w.size ≤ 100) → o.size ≤ 100 → p + o.size ≤ s.size → (LG s p l o).size ≤ 100 ∧ p + (LG s p l o).size ≤ s.size
  | [], o, _, ho, hp => ⟨ho, hp⟩
  | w :: ws, o, hl, ho, hp => by
    unfold LG
    split
    · rename_i h
      refine LG_small s p ws w (fun x hx => hl x (List.mem_cons_of_mem _ hx)) (hl w (List.mem_cons_self ..)) ?_
      have := h.2
      unfold stands at this
      simp only [Bool.and_eq_true, decide_eq_true_eq] at this
      exact this.1
    · exact LG_small s p ws o (fun x hx => hl x (List.mem_cons_of_mem _ hx)) ho hp
theorem toList_same (a b : ByteArray) : (a.toList = b.toList) ↔ a.data.toList = b.data.toList := by rw [ByteArray.toList_eq, ByteArray.toList_eq]
theorem rdOf_at (l : List ByteArray) (i : Nat) (h : i < l.length) : rdOf ByteArray.empty l (i : Int) = l[i] := by
  unfold rdOf
  rw [Int.toNat_natCast, List.getD_eq_getElem?_getD, List.getElem?_eq_getElem h]
  rfl
theorem spec_long_loop (s : ByteArray) (p : Nat) (l : List ByteArray) (hl : ∀ w ∈ l, w.size ≤ 100) (hll : l.length ≤ 1000) (hs : s.size ≤ 140737488351232) (hp : p ≤ s.size) (d : Nat) : ∀ (i : Nat) (o : ByteArray), i + d = l.length →
    Ev (fun k => spec_l3Longest.l0 k s (p : Int) o l (i : Int)) (LG s p (l.drop i) o) := by
  induction d with
  | zero =>
    intro i o hi
    refine Ev.at1 fun k => ?_
    simp only [spec_l3Longest.l0]
    rw [if_neg (by omega), List.drop_of_length_le (by omega)]
    rfl
  | succ d ih =>
    intro i o hi
    have hlt : i < l.length := by omega
    have c1 : (i : Int) < (l.length : Int) := by omega
    have c2 : (0 : Int) ≤ (i : Int) := by omega
    have c3 : (0 : Int) ≤ (p : Int) := by omega
    have hw : wrap64 ((i : Int) + 1) = ((i + 1 : Nat) : Int) := by rw [wrap_id _ (by omega) (by omega)]; omega
    have hz := hl l[i] (List.getElem_mem hlt)
    rw [List.drop_eq_getElem_cons hlt]
    have hr := rdOf_at l i hlt
    generalize l[i] = w at hr hz ⊢
    have hwp : wrap64 ((p : Int) + (w.size : Int)) = ((p + w.size : Nat) : Int) := by rw [wrap_id _ (by omega) (by omega)]; omega
    have c4 : (p : Int) ≤ ((p + w.size : Nat) : Int) := by omega
    unfold LG
    refine Ev.step (f := fun k => if o.size < w.size ∧ stands s p w = true then spec_l3Longest.l0 k s (p : Int) w l ((i + 1 : Nat) : Int) else spec_l3Longest.l0 k s (p : Int) o l ((i + 1 : Nat) : Int)) (fun k => ?_) ?_
    · simp only [spec_l3Longest.l0]
      rw [if_pos c1, if_pos c2, hr, hwp, hw]
      by_cases a : o.size < w.size
      · rw [if_pos (by omega)]
        by_cases b : p + w.size ≤ s.size
        · rw [if_pos (by omega), if_pos c3, if_pos c4]
          have e : ((s.extract (p : Int).toNat ((p + w.size : Nat) : Int).toNat).toList = w.toList) ↔ stands s p w = true := by
            rw [toList_same, Int.toNat_natCast, Int.toNat_natCast, Lib.extract_data]
            unfold stands
            rw [decide_eq_true b, Bool.true_and, beq_iff_eq, show p + w.size - p = w.size by omega]
          by_cases x : stands s p w = true
          · rw [if_pos (e.2 x), if_pos ⟨a, x⟩]
          · rw [if_neg (fun h => x (e.1 h)), if_neg (fun h => x h.2)]
        · have n : ¬ (o.size < w.size ∧ stands s p w = true) := fun h => by
            have := h.2
            unfold stands at this
            simp only [Bool.and_eq_true, decide_eq_true_eq] at this
            exact b this.1
          rw [if_neg (by omega), if_neg n]
      · rw [if_neg (by omega), if_neg (fun h => a h.1)]
    · by_cases x : o.size < w.size ∧ stands s p w = true
      · simp only [if_pos x]; exact ih (i + 1) w (by omega)
      · simp only [if_neg x]; exact ih (i + 1) o (by omega)
theorem hasPrefix_is (s w : ByteArray) (hs : s.size ≤ 140737488351232) : strings_HasPrefix.f s w = some (decide (w.size ≤ s.size) && (s.data.toList.take w.size == w.data.toList)) := by
  unfold strings_HasPrefix.f stringslite_HasPrefix.f
  by_cases c : w.size ≤ s.size
  · rw [if_pos (by omega), if_pos (by omega), if_pos (by omega)]
    simp only [Option.bind_some]
    rw [decide_eq_true c, Bool.true_and, Int.toNat_natCast, ByteArray.toList_eq, ByteArray.toList_eq, Lib.extract_data, List.drop_zero, Nat.sub_zero]
  · rw [if_neg (by omega), decide_eq_false c]
    rfl
theorem hasPrefix_stands (s w : ByteArray) (p : Nat) (hs : s.size ≤ 140737488351232) (hp : p ≤ s.size) : strings_HasPrefix.f (s.extract p s.size) w = some (stands s p w) := by
  have e : (s.extract p s.size).size = s.size - p := by simp
  rw [hasPrefix_is _ _ (by omega), Lib.extract_to_end, e]
  unfold stands
  congr 2
  rw [decide_eq_decide]
  omega

theorem namesign_loop (a : ByteArray) (t : List ByteArray) (hl : t.length = 14) (d : Nat) : ∀ i : Nat, i + d = 14 → Ev (fun k => spec_NameSign.l0 k a nsTab t (i : Int)) (nsFrom a (t.drop i) (nsTab.drop i)) := by
  have hn : nsTab.length = 14 := rfl
  induction d with
  | zero =>
    intro i hi
    refine Ev.at1 fun k => ?_
    simp only [spec_NameSign.l0]
    rw [if_neg (by omega), List.drop_of_length_le (by omega), nsFrom_end]
  | succ d ih =>
    intro i hi
    have q1 : (i : Int) < (t.length : Int) := by omega
    have q2 : (0 : Int) ≤ (i : Int) := by omega
    have q3 : (i : Int) < (nsTab.length : Int) := by omega
    have hw : wrap64 ((i : Int) + 1) = ((i + 1 : Nat) : Int) := by rw [wrap_id _ (by omega) (by omega)]; omega
    rw [nsFrom_at a t nsTab i (by omega) (by omega)]
    by_cases c : (rdOf ByteArray.empty t (i : Int)).toList = a.toList
    · rw [if_pos c]
      refine Ev.at1 fun k => ?_
      simp only [spec_NameSign.l0]
      rw [if_pos q1, if_pos q2, if_pos c, if_pos q3]
    · rw [if_neg c]
      refine Ev.step (fun k => ?_) (ih (i + 1) (by omega))
      simp only [spec_NameSign.l0]
      rw [if_pos q1, if_pos q2, if_neg c, hw]
theorem named_same : impl_Named.f = spec_Named.f := rfl
theorem named_told : ∃ t, spec_Named.f = some t ∧ t.length = 14 := ⟨_, rfl, rfl⟩
/-- The sign of a name; -1 of others. -/
def NSg (a : ByteArray) : Int := nsFrom a (spec_Named.f.getD []) nsTab
theorem impl_NameSign_is (a : ByteArray) : impl_NameSign.f a = some (NSg a) := by
  obtain ⟨t, ht, hl⟩ := named_told
  unfold impl_NameSign.f NSg
  rw [named_same, ht]
  simp only [Option.bind_some, Option.getD_some]
  rw [if_pos hl]
theorem spec_NameSign_ev (a : ByteArray) : Ev (fun k => spec_NameSign.f k a) (NSg a) := by
  obtain ⟨t, ht, hl⟩ := named_told
  unfold spec_NameSign.f NSg
  rw [ht]
  simp only [Option.bind_some, Option.getD_some]
  exact namesign_loop a t hl 14 0 rfl

theorem empty_iff (w : ByteArray) : w.toList = ([] : List UInt8) ↔ w.size = 0 := by
  rw [ByteArray.toList_eq]
  constructor
  · intro h
    have := congrArg List.length h
    rw [data_length] at this
    simpa using this
  · intro h
    exact List.length_eq_zero_iff.1 (by rw [data_length]; exact h)
theorem named_small : ∀ w ∈ spec_Named.f.getD [], w.size ≤ 100 := by decide
theorem spec_after (s : ByteArray) (at_ : Int) (w : ByteArray) (t : Int) (hs : s.size ≤ 140737488351232) (h0 : 0 ≤ at_) (h1 : at_ ≤ t) (h2 : t ≤ s.size) (x : Bool) :
    Ev (fun k => spec_Ref.j3 k at_ w t x) (if x = true then ((⟨#[]⟩ : ByteArray), 0) else (PS (NSg w), t - at_)) := by
  refine Ev.step (f := fun k => if x = true then (some ((⟨#[]⟩ : ByteArray), 0)) else ((spec_NameSign.f k w).bind fun t155 => ((spec_PutSign.f k t155).bind fun t156 => (some (t156, wrap64 (t - at_)))))) (fun k => ?_) ?_
  · simp only [spec_Ref.j3]
  · rw [wrap_id (t - at_) (by omega) (by omega)]
    cases x
    · simp only [Bool.false_eq_true, if_false]
      exact Ev.bind (spec_NameSign_ev w) (Ev.bind (spec_PutSign_ev _) (Ev.now _))
    · simp only [if_true]
      exact Ev.now _
/-- What stands behind a name bars it in a value. -/
def aft (s : ByteArray) (t : Nat) : Bool := decide (t < s.size) && (decide (bt s (t : Int) = 61) || LtOk (bt s (t : Int)) || decide (0 ≤ dg (bt s (t : Int)) false))
theorem spec_name_end (s : ByteArray) (at_ : Int) (w : ByteArray) (t : Nat) (value : Bool) (hs : s.size ≤ 140737488351232) (h0 : 0 ≤ at_) (h1 : at_ ≤ t) (h2 : t ≤ s.size) (x : Bool) :
    Ev (fun k => spec_Ref.j2 k s at_ value w (t : Int) x) (if x = true then (PS (NSg w), (t : Int) + 1 - at_) else if (value && aft s t) = true then ((⟨#[]⟩ : ByteArray), 0) else (PS (NSg w), (t : Int) - at_)) := by
  have q : (0 : Int) ≤ (t : Int) := by omega
  cases x with
  | true =>
    refine Ev.step (f := fun k => (spec_NameSign.f k w).bind fun t151 => ((spec_PutSign.f k t151).bind fun t152 => (some (t152, wrap64 ((wrap64 ((t : Int) + 1)) - at_))))) (fun k => ?_) ?_
    · simp only [spec_Ref.j2, if_true]
    · rw [wrap_id ((t : Int) + 1) (by omega) (by omega), wrap_id ((t : Int) + 1 - at_) (by omega) (by omega)]
      simp only [if_true]
      exact Ev.bind (spec_NameSign_ev w) (Ev.bind (spec_PutSign_ev _) (Ev.now _))
  | false =>
    simp only [Bool.false_eq_true, if_false]
    have A := fun b => spec_after s at_ w (t : Int) hs h0 h1 (by omega) b
    cases value with
    | false =>
      refine Ev.step (f := fun k => spec_Ref.j3 k at_ w (t : Int) false) (fun k => ?_) (A false)
      simp only [spec_Ref.j2, Bool.false_eq_true, if_false]
    | true =>
      simp only [Bool.true_and]
      by_cases c : (t : Int) < (s.size : Int)
      · have br := bt_range s (t : Int)
        have ha : aft s t = (decide (bt s (t : Int) = 61) || LtOk (bt s (t : Int)) || decide (0 ≤ dg (bt s (t : Int)) false)) := by
          unfold aft
          rw [decide_eq_true (show t < s.size by omega), Bool.true_and]
        have st : ∀ k, spec_Ref.j2 (k + 1) s at_ true w (t : Int) false = if (bt s (t : Int)) = 61 then (spec_Ref.j3 k at_ w (t : Int) true) else ((spec_IsLetter.f (wrap64 (bt s (t : Int)))).bind fun t153 => (if t153 = true then (spec_Ref.j3 k at_ w (t : Int) true) else ((spec_l3Digit.f k (bt s (t : Int)) false).bind fun t154 => (spec_Ref.j3 k at_ w (t : Int) (decide (t154 ≥ 0)))))) := fun k => by
          simp only [spec_Ref.j2, Bool.false_eq_true, if_false, if_true]
          rw [if_pos c, if_pos q]
        refine Ev.step st ?_
        rw [wrap_id (bt s (t : Int)) (by omega) (by omega), spec_IsLetter_is]
        simp only [Option.bind_some]
        by_cases z1 : bt s (t : Int) = 61
        · rw [ha, decide_eq_true z1]
          simp only [if_pos z1, Bool.true_or, if_true]
          exact A true
        · simp only [if_neg z1]
          rw [ha, decide_eq_false z1, Bool.false_or]
          cases hL : LtOk (bt s (t : Int)) with
          | true =>
            simp only [if_true, Bool.true_or]
            exact A true
          | false =>
            simp only [Bool.false_eq_true, if_false, Bool.false_or]
            refine Ev.bind (spec_l3Digit_ev (bt s (t : Int)) false br.1 br.2) ?_
            exact A (decide (dg (bt s (t : Int)) false ≥ 0))
      · have ha : aft s t = false := by
          unfold aft
          rw [decide_eq_false (show ¬ t < s.size by omega), Bool.false_and]
        rw [ha]
        refine Ev.step (f := fun k => spec_Ref.j3 k at_ w (t : Int) false) (fun k => ?_) (A false)
        simp only [spec_Ref.j2, Bool.false_eq_true, if_false, if_true]
        rw [if_neg c]
/-- What is told of a name that stands behind the byte 38. -/
def nameR (s : ByteArray) (a : Nat) (value : Bool) (w : ByteArray) : ByteArray × Int :=
  if w.size = 0 then ((⟨#[]⟩ : ByteArray), 0)
  else if a + 1 + w.size < s.size ∧ bt s ((a + 1 + w.size : Nat) : Int) = 59 then (PS (NSg w), ((a + 1 + w.size : Nat) : Int) + 1 - a)
  else if (value && aft s (a + 1 + w.size)) = true then ((⟨#[]⟩ : ByteArray), 0) else (PS (NSg w), ((a + 1 + w.size : Nat) : Int) - a)
def refR (s : ByteArray) (a : Nat) (value : Bool) : ByteArray × Int :=
  if a + 1 < s.size ∧ bt s ((a + 1 : Nat) : Int) = 35 then numR s a else nameR s a value (LG s (a + 1) (spec_Named.f.getD []) (⟨#[]⟩ : ByteArray))
theorem spec_ref_in (s : ByteArray) (a : Nat) (value : Bool) (hs : s.size ≤ 140737488351232) (ha : a < s.size) (h38 : bt s (a : Int) = 38) : Ev (fun k => spec_Ref.f k s (a : Int) value) (refR s a value) := by
  have hw : wrap64 ((a : Int) + 1) = ((a + 1 : Nat) : Int) := by rw [wrap_id _ (by omega) (by omega)]; omega
  have f0 : ∀ k, spec_Ref.f k s (a : Int) value = spec_Ref.j0 k s (a : Int) value false := fun k => by
    unfold spec_Ref.f
    rw [if_neg (by omega), if_neg (by omega), if_pos (by omega), if_pos (by omega), h38]
    rfl
  refine Ev.congr f0 ?_
  have st0 : ∀ k, spec_Ref.j0 (k + 1) s (a : Int) value false = spec_Ref.j1 k s (a : Int) value (decide (a + 1 < s.size ∧ bt s ((a + 1 : Nat) : Int) = 35)) := fun k => by
    simp only [spec_Ref.j0, Bool.false_eq_true, if_false]
    rw [hw]
    generalize bt s ((a + 1 : Nat) : Int) = v
    by_cases c : a + 1 < s.size
    · rw [if_pos (by omega), if_pos (by omega)]
      by_cases y : v = 35
      · rw [decide_eq_true ⟨c, y⟩, y]; rfl
      · rw [decide_eq_false (fun h => y h.2), beq_eq_false_iff_ne.mpr y]
    · rw [if_neg (by omega), decide_eq_false (fun h => c h.1)]
  refine Ev.step st0 ?_
  unfold refR
  by_cases c : a + 1 < s.size ∧ bt s ((a + 1 : Nat) : Int) = 35
  · rw [decide_eq_true c, if_pos c]
    refine Ev.step (f := fun k => (spec_l3Number.f k s a).bind fun b => (some (b.1, b.2))) (fun k => ?_) (Ev.bind (spec_num_ev s a hs c.1) (Ev.now _))
    simp only [spec_Ref.j1, if_true]
  · rw [decide_eq_false c, if_neg c]
    obtain ⟨t, ht, hl⟩ := named_told
    have hsm : ∀ w ∈ t, w.size ≤ 100 := by have := named_small; rw [ht] at this; exact this
    have hlong : Ev (fun k => spec_l3Longest.f k s ((a + 1 : Nat) : Int)) (LG s (a + 1) (spec_Named.f.getD []) (⟨#[]⟩ : ByteArray)) := by
      unfold spec_l3Longest.f
      rw [ht]
      simp only [Option.bind_some, Option.getD_some]
      exact spec_long_loop s (a + 1) t hsm (by omega) hs (by omega) 14 0 _ (by omega)
    have hb := LG_small s (a + 1) (spec_Named.f.getD []) (⟨#[]⟩ : ByteArray) named_small (by decide) (by show a + 1 + 0 ≤ s.size; omega)
    generalize LG s (a + 1) (spec_Named.f.getD []) (⟨#[]⟩ : ByteArray) = w at hlong hb ⊢
    have hto : wrap64 (((a + 1 : Nat) : Int) + (w.size : Int)) = ((a + 1 + w.size : Nat) : Int) := by rw [wrap_id _ (by omega) (by omega)]; omega
    refine Ev.step (f := fun k => (spec_l3Longest.f k s ((a + 1 : Nat) : Int)).bind fun u => (if u.toList = ([] : List UInt8) then (some ((⟨#[]⟩ : ByteArray), 0)) else (if (wrap64 (((a + 1 : Nat) : Int) + (u.size : Int))) < (s.size : Int) then (if 0 ≤ (wrap64 (((a + 1 : Nat) : Int) + (u.size : Int))) then (spec_Ref.j2 k s a value u (wrap64 (((a + 1 : Nat) : Int) + (u.size : Int))) ((bt s (wrap64 (((a + 1 : Nat) : Int) + (u.size : Int)))) == 59)) else (none)) else (spec_Ref.j2 k s a value u (wrap64 (((a + 1 : Nat) : Int) + (u.size : Int))) false)))) (fun k => ?_) (Ev.bind hlong ?_)
    · simp only [spec_Ref.j1, Bool.false_eq_true, if_false]
      rw [hw]
    · rw [hto]
      unfold nameR
      by_cases z : w.size = 0
      · simp only [if_pos ((empty_iff w).2 z), if_pos z]; exact Ev.now _
      · simp only [if_neg (fun h => z ((empty_iff w).1 h)), if_neg z]
        have q : (0 : Int) ≤ ((a + 1 + w.size : Nat) : Int) := by omega
        by_cases c2 : a + 1 + w.size < s.size
        · simp only [if_pos (show ((a + 1 + w.size : Nat) : Int) < (s.size : Int) by omega), if_pos q]
          have := spec_name_end s a w (a + 1 + w.size) value hs (by omega) (by omega) hb.2 (bt s ((a + 1 + w.size : Nat) : Int) == 59)
          by_cases y : bt s ((a + 1 + w.size : Nat) : Int) = 59
          · rw [if_pos ⟨c2, y⟩]
            rw [beq_iff_eq.mpr y] at this ⊢
            exact this
          · rw [if_neg (fun h => y h.2)]
            rw [beq_eq_false_iff_ne.mpr y] at this ⊢
            exact this
        · simp only [if_neg (show ¬ ((a + 1 + w.size : Nat) : Int) < (s.size : Int) by omega)]
          rw [if_neg (fun h => c2 h.1)]
          exact spec_name_end s a w (a + 1 + w.size) value hs (by omega) (by omega) hb.2 false
theorem spec_ref_out (s : ByteArray) (i : Int) (value : Bool) (h : ¬ (0 ≤ i ∧ i < s.size ∧ bt s i = 38)) : Ev (fun k => spec_Ref.f k s i value) ((⟨#[]⟩ : ByteArray), 0) := by
  refine Ev.at1 fun k => ?_
  have j : spec_Ref.j0 (k + 1) s i value true = some ((⟨#[]⟩ : ByteArray), 0) := by simp only [spec_Ref.j0, if_true]
  unfold spec_Ref.f
  by_cases a : i < 0
  · rw [if_pos a, j]
  · by_cases b : i ≥ (s.size : Int)
    · rw [if_neg a, if_pos b, j]
    · rw [if_neg a, if_neg b, if_pos (by omega), if_pos (by omega)]
      have : (bt s i != 38) = true := by
        rw [bne_iff_ne]
        exact fun e => h ⟨by omega, by omega, e⟩
      rw [this, j]
theorem impl_isAfter_ev (s : ByteArray) (t : Nat) (hs : s.size ≤ 140737488351232) : Ev (fun k => impl_isAfter.f k s (t : Int)) (aft s t) := by
  unfold impl_isAfter.f aft
  by_cases c : t < s.size
  · have br := bt_range s (t : Int)
    simp only [if_pos (show (t : Int) < (s.size : Int) by omega), if_pos (show (0 : Int) ≤ (t : Int) by omega)]
    rw [decide_eq_true c, Bool.true_and, wrap_id (bt s (t : Int)) (by omega) (by omega), impl_IsLetter_is]
    simp only [Option.bind_some]
    by_cases z1 : bt s (t : Int) = 61
    · rw [decide_eq_true z1]; simp only [if_pos z1, Bool.true_or]; exact Ev.now _
    · simp only [if_neg z1]
      rw [decide_eq_false z1, Bool.false_or]
      cases hL : LtOk (bt s (t : Int)) with
      | true => simp only [if_true, Bool.true_or]; exact Ev.now _
      | false =>
        simp only [Bool.false_eq_true, if_false, Bool.false_or]
        refine Ev.bind (impl_digitOf_ev (bt s (t : Int)) false br.1 br.2) ?_
        exact Ev.now _
  · simp only [if_neg (show ¬ (t : Int) < (s.size : Int) by omega)]
    rw [decide_eq_false c, Bool.false_and]
    exact Ev.now _
theorem impl_name_end (s : ByteArray) (at_ : Int) (w : ByteArray) (t : Nat) (hs : s.size ≤ 140737488351232) (h0 : 0 ≤ at_) (h1 : at_ ≤ t) (h2 : t ≤ s.size) (x : Bool) :
    Ev (fun k => impl_Ref.j2 k s at_ w (t : Int) x) (if x = true then ((⟨#[]⟩ : ByteArray), 0) else (PS (NSg w), (if t < s.size ∧ bt s (t : Int) = 59 then (t : Int) + 1 else (t : Int)) - at_)) := by
  cases x with
  | true => exact Ev.at1 fun k => by simp only [impl_Ref.j2, if_true]
  | false =>
    refine Ev.step (f := fun k => (impl_NameSign.f w).bind fun t202 => ((impl_PutSign.f k t202).bind fun t203 => ((impl_withEnd.f s (t : Int)).bind fun t204 => (some (t203, wrap64 (t204 - at_)))))) (fun k => ?_) ?_
    · simp only [impl_Ref.j2, Bool.false_eq_true, if_false]
    · rw [impl_NameSign_is]
      simp only [Option.bind_some, Bool.false_eq_true, if_false]
      refine Ev.bind (impl_PutSign_ev _) ?_
      rw [impl_withEnd_is s t hs h2]
      simp only [Option.bind_some]
      by_cases z : t < s.size ∧ bt s (t : Int) = 59
      · rw [if_pos z, wrap_id _ (by omega) (by omega)]; exact Ev.now _
      · rw [if_neg z, wrap_id _ (by omega) (by omega)]; exact Ev.now _
theorem impl_ref_loop (s : ByteArray) (a : Nat) (value : Bool) (l : List ByteArray) (hl : ∀ w ∈ l, w.size ≤ 100) (hll : l.length ≤ 1000) (hs : s.size ≤ 140737488351232) (ha : a < s.size) (d : Nat) : ∀ (i : Nat) (o : ByteArray), i + d = l.length → o.size ≤ 100 → a + 1 + o.size ≤ s.size →
    Ev (fun k => impl_Ref.l0 k s (a : Int) value (s.extract (a + 1) s.size) o l (l.length : Int) (i : Int)) (nameR s a value (LG s (a + 1) (l.drop i) o)) := by
  have hw1 : wrap64 ((a : Int) + 1) = ((a + 1 : Nat) : Int) := by rw [wrap_id _ (by omega) (by omega)]; omega
  induction d with
  | zero =>
    intro i o hi ho hp
    rw [List.drop_of_length_le (show l.length ≤ i by omega)]
    unfold LG nameR
    have hto : wrap64 (((a + 1 : Nat) : Int) + (o.size : Int)) = ((a + 1 + o.size : Nat) : Int) := by rw [wrap_id _ (by omega) (by omega)]; omega
    have st : ∀ k, impl_Ref.l0 (k + 1) s (a : Int) value (s.extract (a + 1) s.size) o l (l.length : Int) (i : Int) = if o.toList = ([] : List UInt8) then (some ((⟨#[]⟩ : ByteArray), 0)) else ((impl_withEnd.f s ((a + 1 + o.size : Nat) : Int)).bind fun t200 => (if t200 = ((a + 1 + o.size : Nat) : Int) then (if value = true then ((impl_isAfter.f k s ((a + 1 + o.size : Nat) : Int)).bind fun t201 => (impl_Ref.j2 k s a o ((a + 1 + o.size : Nat) : Int) t201)) else (impl_Ref.j2 k s a o ((a + 1 + o.size : Nat) : Int) false)) else (impl_Ref.j2 k s a o ((a + 1 + o.size : Nat) : Int) false))) := fun k => by
      simp only [impl_Ref.l0]
      rw [if_neg (by omega), hw1, hto]
    refine Ev.step st ?_
    by_cases z : o.size = 0
    · simp only [if_pos ((empty_iff o).2 z), if_pos z]; exact Ev.now _
    · simp only [if_neg (fun h => z ((empty_iff o).1 h)), if_neg z]
      rw [impl_withEnd_is s _ hs hp]
      simp only [Option.bind_some]
      have J := fun b => impl_name_end s (a : Int) o (a + 1 + o.size) hs (by omega) (by omega) hp b
      by_cases y : a + 1 + o.size < s.size ∧ bt s ((a + 1 + o.size : Nat) : Int) = 59
      · simp only [if_pos y, if_neg (show ¬ ((a + 1 + o.size : Nat) : Int) + 1 = ((a + 1 + o.size : Nat) : Int) by omega)]
        have j := J false
        simp only [Bool.false_eq_true, if_false, if_pos y] at j
        exact j
      · simp only [if_neg y, if_true]
        cases value with
        | false =>
          simp only [Bool.false_eq_true, if_false, Bool.false_and]
          have j := J false
          simp only [Bool.false_eq_true, if_false, if_neg y] at j
          exact j
        | true =>
          simp only [if_true, Bool.true_and]
          refine Ev.bind (impl_isAfter_ev s (a + 1 + o.size) hs) ?_
          have j := J (aft s (a + 1 + o.size))
          simp only [if_neg y] at j
          exact j
  | succ d ih =>
    intro i o hi ho hp
    have hlt : i < l.length := by omega
    have c1 : (i : Int) < (l.length : Int) := by omega
    have c2 : (0 : Int) ≤ (i : Int) := by omega
    have hw : wrap64 ((i : Int) + 1) = ((i + 1 : Nat) : Int) := by rw [wrap_id _ (by omega) (by omega)]; omega
    have hz := hl l[i] (List.getElem_mem hlt)
    rw [List.drop_eq_getElem_cons hlt]
    have hr := rdOf_at l i hlt
    generalize l[i] = w at hr hz ⊢
    unfold LG
    refine Ev.step (f := fun k => if o.size < w.size ∧ stands s (a + 1) w = true then impl_Ref.l0 k s (a : Int) value (s.extract (a + 1) s.size) w l (l.length : Int) ((i + 1 : Nat) : Int) else impl_Ref.l0 k s (a : Int) value (s.extract (a + 1) s.size) o l (l.length : Int) ((i + 1 : Nat) : Int)) (fun k => ?_) ?_
    · simp only [impl_Ref.l0]
      rw [if_pos c1, if_pos c2, hr, hw]
      by_cases b : o.size < w.size
      · rw [if_pos (by omega), if_pos (by omega), hasPrefix_stands s w (a + 1) hs (by omega)]
        simp only [Option.bind_some]
        by_cases x : stands s (a + 1) w = true
        · rw [if_pos x, if_pos ⟨b, x⟩]
        · rw [if_neg x, if_neg (fun h => x h.2)]
      · rw [if_pos (by omega), if_neg (by omega), if_neg (fun h => b h.1)]
    · by_cases x : o.size < w.size ∧ stands s (a + 1) w = true
      · have hx := x.2
        unfold stands at hx
        simp only [Bool.and_eq_true, decide_eq_true_eq] at hx
        simp only [if_pos x]
        exact ih (i + 1) w (by omega) hz hx.1
      · simp only [if_neg x]
        exact ih (i + 1) o (by omega) ho hp
theorem impl_ref_in (s : ByteArray) (a : Nat) (value : Bool) (hs : s.size ≤ 140737488351232) (ha : a < s.size) (h38 : bt s (a : Int) = 38) : Ev (fun k => impl_Ref.f k s (a : Int) value) (refR s a value) := by
  have hw : wrap64 ((a : Int) + 1) = ((a + 1 : Nat) : Int) := by rw [wrap_id _ (by omega) (by omega)]; omega
  have f0 : ∀ k, impl_Ref.f k s (a : Int) value = impl_Ref.j0 k s (a : Int) value false := fun k => by
    unfold impl_Ref.f
    rw [wrap_id ((s.size : Int) - 1) (by omega) (by omega), inRange_is, decide_eq_true (show 0 ≤ (a : Int) ∧ (a : Int) ≤ (s.size : Int) - 1 by omega)]
    simp only [Option.bind_some, if_true]
    rw [if_pos (by omega), if_pos (by omega), h38]
    rfl
  refine Ev.congr f0 ?_
  have hh : strings_HasPrefix.f (s.extract (a + 1) s.size) (⟨#[35]⟩ : ByteArray) = some (decide (a + 1 < s.size ∧ bt s ((a + 1 : Nat) : Int) = 35)) := by
    rw [hasPrefix_stands s _ (a + 1) hs (by omega)]
    congr 1
    unfold stands
    show (decide (a + 1 + 1 ≤ s.size) && ((s.data.toList.drop (a + 1)).take 1 == [35])) = _
    by_cases c : a + 1 < s.size
    · have hn : a + 1 < s.data.toList.length := by rw [data_length]; exact c
      rw [decide_eq_true (show a + 1 + 1 ≤ s.size by omega), Bool.true_and, List.drop_eq_getElem_cons hn]
      have eb : bt s ((a + 1 : Nat) : Int) = ((s.data.toList[a + 1]'hn).toNat : Int) := by
        rw [← bt_at s ((a + 1 : Nat) : Int) (by simpa using c)]
        rfl
      have e35 : (s.data.toList[a + 1]'hn = 35) ↔ bt s ((a + 1 : Nat) : Int) = 35 := by
        rw [eb]
        constructor
        · intro h; rw [h]; rfl
        · intro h
          have h2 : (s.data.toList[a + 1]'hn).toNat = 35 := by omega
          exact UInt8.toNat.inj h2
      by_cases y : bt s ((a + 1 : Nat) : Int) = 35
      · rw [decide_eq_true ⟨c, y⟩, e35.2 y]; rfl
      · rw [decide_eq_false (fun h => y h.2)]
        have : ¬ s.data.toList[a + 1]'hn = 35 := fun h => y (e35.1 h)
        simpa using this
    · rw [decide_eq_false (show ¬ a + 1 + 1 ≤ s.size by omega), Bool.false_and, decide_eq_false (fun h => c h.1)]
  have st0 : ∀ k, impl_Ref.j0 (k + 1) s (a : Int) value false = (if decide (a + 1 < s.size ∧ bt s ((a + 1 : Nat) : Int) = 35) = true then ((impl_numberRef.f k s a).bind fun b => (some (b.1, b.2))) else ((impl_Named.f).bind fun t195 => (impl_Ref.l0 k s a value (s.extract (a + 1) s.size) (⟨#[]⟩ : ByteArray) t195 (t195.length : Int) 0))) := fun k => by
    simp only [impl_Ref.j0, Bool.false_eq_true, if_false]
    rw [hw, if_pos (by omega), if_pos (by omega), Int.toNat_natCast, hh]
    rfl
  refine Ev.step st0 ?_
  unfold refR
  by_cases c : a + 1 < s.size ∧ bt s ((a + 1 : Nat) : Int) = 35
  · rw [decide_eq_true c, if_pos c]
    simp only [if_true]
    exact Ev.bind (impl_num_ev s a hs c.1) (Ev.now _)
  · rw [decide_eq_false c, if_neg c]
    simp only [Bool.false_eq_true, if_false]
    obtain ⟨t, ht, hl⟩ := named_told
    have hsm : ∀ w ∈ t, w.size ≤ 100 := by have := named_small; rw [ht] at this; exact this
    rw [named_same, ht]
    simp only [Option.bind_some, Option.getD_some]
    exact impl_ref_loop s a value t hsm (by omega) hs ha 14 0 (⟨#[]⟩ : ByteArray) (by omega) (by decide) (by show a + 1 + 0 ≤ s.size; omega)
theorem impl_ref_out (s : ByteArray) (i : Int) (value : Bool) (hs : s.size ≤ 140737488351232) (h : ¬ (0 ≤ i ∧ i < s.size ∧ bt s i = 38)) : Ev (fun k => impl_Ref.f k s i value) ((⟨#[]⟩ : ByteArray), 0) := by
  refine Ev.at1 fun k => ?_
  have j : impl_Ref.j0 (k + 1) s i value true = some ((⟨#[]⟩ : ByteArray), 0) := by simp only [impl_Ref.j0, if_true]
  unfold impl_Ref.f
  rw [wrap_id ((s.size : Int) - 1) (by omega) (by omega), inRange_is]
  simp only [Option.bind_some]
  by_cases a : 0 ≤ i ∧ i ≤ (s.size : Int) - 1
  · rw [if_pos (decide_eq_true a), if_pos a.1, if_pos (by omega)]
    have : (bt s i != 38) = true := by
      rw [bne_iff_ne]
      exact fun e => h ⟨by omega, by omega, e⟩
    rw [this, j]
  · rw [if_neg (by rw [decide_eq_true_eq]; exact a), j]
/-- What a reference tells, at any place. -/
def refAt (s : ByteArray) (i : Int) (value : Bool) : ByteArray × Int := if 0 ≤ i ∧ i < s.size ∧ bt s i = 38 then refR s i.toNat value else ((⟨#[]⟩ : ByteArray), 0)
theorem spec_Ref_ev (s : ByteArray) (i : Int) (value : Bool) (hs : s.size ≤ 140737488351232) : Ev (fun k => spec_Ref.f k s i value) (refAt s i value) := by
  unfold refAt
  by_cases h : 0 ≤ i ∧ i < s.size ∧ bt s i = 38
  · rw [if_pos h]
    obtain ⟨n, rfl⟩ := Int.eq_ofNat_of_zero_le h.1
    exact spec_ref_in s n value hs (by omega) h.2.2
  · rw [if_neg h]; exact spec_ref_out s i value h
theorem impl_Ref_ev (s : ByteArray) (i : Int) (value : Bool) (hs : s.size ≤ 140737488351232) : Ev (fun k => impl_Ref.f k s i value) (refAt s i value) := by
  unfold refAt
  by_cases h : 0 ≤ i ∧ i < s.size ∧ bt s i = 38
  · rw [if_pos h]
    obtain ⟨n, rfl⟩ := Int.eq_ofNat_of_zero_le h.1
    exact impl_ref_in s n value hs (by omega) h.2.2
  · rw [if_neg h]; exact impl_ref_out s i value hs h

theorem PSb_length (n : Int) : (PSb n).length ≤ 4 := by
  unfold PSb
  split
  · simp
  · split
    · simp
    · split <;> simp
theorem PS_size (n : Int) : (PS n).size ≤ 4 := by
  unfold PS
  rw [strOfNums_size]
  exact PSb_length _

theorem NRend_good (s : ByteArray) (a fr i : Nat) (n : Int) (h0 : a < fr) (h1 : fr ≤ i) (h2 : i ≤ s.size) : (NRend s a fr i n).1.size ≤ 4 ∧ 0 ≤ (NRend s a fr i n).2 ∧ (a : Int) + (NRend s a fr i n).2 ≤ s.size := by
  unfold NRend
  by_cases c : i = fr
  · rw [if_pos c]
    exact ⟨by show 0 ≤ 4; omega, by omega, by show (a : Int) + 0 ≤ _; omega⟩
  · rw [if_neg c]
    dsimp only
    by_cases y : i < s.size ∧ bt s (i : Int) = 59
    · rw [if_pos y]
      obtain ⟨y, _⟩ := y
      exact ⟨PS_size _, by omega, by omega⟩
    · rw [if_neg y]
      exact ⟨PS_size _, by omega, by omega⟩
theorem NR_good (s : ByteArray) (a fr : Nat) (hex : Bool) (h0 : a < fr) : ∀ (d i : Nat) (n : Int), fr ≤ i → i ≤ s.size → (NR s a fr hex d i n).1.size ≤ 4 ∧ 0 ≤ (NR s a fr hex d i n).2 ∧ (a : Int) + (NR s a fr hex d i n).2 ≤ s.size
  | 0, i, n, h1, h2 => by unfold NR; exact NRend_good s a fr i n h0 h1 h2
  | d + 1, i, n, h1, h2 => by
    unfold NR
    split
    · rename_i c
      exact NR_good s a fr hex h0 d (i + 1) _ (by omega) (by omega)
    · exact NRend_good s a fr i n h0 h1 h2
theorem refR_good (s : ByteArray) (a : Nat) (v : Bool) (ha : a < s.size) : (refR s a v).1.size ≤ 4 ∧ 0 ≤ (refR s a v).2 ∧ (a : Int) + (refR s a v).2 ≤ s.size := by
  unfold refR
  split
  · rename_i c
    unfold numR
    split
    · rename_i c2
      exact NR_good s a (a + 3) true (by omega) _ _ _ (by omega) (by omega)
    · exact NR_good s a (a + 2) false (by omega) _ _ _ (by omega) (by omega)
  · have hl := LG_small s (a + 1) (spec_Named.f.getD []) (⟨#[]⟩ : ByteArray) named_small (by decide) (by show a + 1 + 0 ≤ s.size; omega)
    generalize LG s (a + 1) (spec_Named.f.getD []) (⟨#[]⟩ : ByteArray) = w at hl
    obtain ⟨_, hl⟩ := hl
    unfold nameR
    split
    · exact ⟨by show 0 ≤ 4; omega, by omega, by show (a : Int) + 0 ≤ _; omega⟩
    · split
      · rename_i c
        obtain ⟨c, _⟩ := c
        exact ⟨PS_size _, by show 0 ≤ ((a + 1 + w.size : Nat) : Int) + 1 - a; omega, by show (a : Int) + (((a + 1 + w.size : Nat) : Int) + 1 - a) ≤ _; omega⟩
      · split
        · exact ⟨by show 0 ≤ 4; omega, by omega, by show (a : Int) + 0 ≤ _; omega⟩
        · exact ⟨PS_size _, by show 0 ≤ ((a + 1 + w.size : Nat) : Int) - a; omega, by show (a : Int) + (((a + 1 + w.size : Nat) : Int) - a) ≤ _; omega⟩
theorem refAt_good (s : ByteArray) (a : Nat) (v : Bool) (ha : a < s.size) : (refAt s (a : Int) v).1.size ≤ 4 ∧ 0 ≤ (refAt s (a : Int) v).2 ∧ (a : Int) + (refAt s (a : Int) v).2 ≤ s.size := by
  unfold refAt
  split
  · rw [Int.toNat_natCast]; exact refR_good s a v ha
  · exact ⟨by show 0 ≤ 4; omega, by omega, by show (a : Int) + 0 ≤ _; omega⟩
/-- A text with its references turned. -/
def RF (s : ByteArray) (v : Bool) : Nat → List UInt8 → Nat → ByteArray
  | 0, acc, _ => ⟨acc.toArray⟩
  | d + 1, acc, i => if i < s.size then (if (refAt s (i : Int) v).2 = 0 then RF s v d (acc ++ [byteAt s (i : Int)]) (i + 1) else RF s v d (acc ++ (refAt s (i : Int) v).1.data.toList) (i + (refAt s (i : Int) v).2.toNat)) else ⟨acc.toArray⟩
theorem refs_out (s : ByteArray) (v : Bool) (d : Nat) (acc : List UInt8) (i : Nat) (h : ¬ i < s.size) : RF s v d acc i = ⟨acc.toArray⟩ := by
  cases d with
  | zero => rfl
  | succ d => unfold RF; rw [if_neg h]
theorem spec_Refs_loop (s : ByteArray) (v : Bool) (hs : s.size ≤ 1000000000000) (d : Nat) : ∀ (i : Nat) (acc : List UInt8), s.size ≤ i + d → i ≤ s.size → acc.length ≤ 4 * i →
    Ev (fun k => spec_Refs.l0 k s v acc (i : Int)) (RF s v d acc i) := by
  induction d with
  | zero =>
    intro i acc h h1 h2
    rw [refs_out s v 0 acc i (by omega)]
    refine Ev.at1 fun k => ?_
    simp only [spec_Refs.l0]
    rw [if_neg (by omega)]
  | succ d IH =>
    intro i acc h h1 h2
    by_cases c : i < s.size
    · obtain ⟨g1, g2, g3⟩ := refAt_good s i v c
      unfold RF
      rw [if_pos c]
      refine Ev.step (f := fun k => (spec_Ref.f k s i v).bind fun b => (if b.2 > 0 then (if acc.length + b.1.size ≤ 140737488355328 then (spec_Refs.l0 k s v (acc ++ b.1.data.toList) (wrap64 ((i : Int) + b.2))) else none) else (if 0 ≤ (i : Int) then (if acc.length + 1 ≤ 140737488355328 then (spec_Refs.l0 k s v (acc ++ [byteAt s i]) (wrap64 ((i : Int) + 1))) else none) else none))) (fun k => ?_) (Ev.bind (spec_Ref_ev s i v (by omega)) ?_)
      · simp only [spec_Refs.l0]
        rw [if_pos (show (i : Int) < (s.size : Int) by omega)]
      · generalize refAt s (i : Int) v = x at g1 g2 g3 ⊢
        obtain ⟨t, u⟩ := x
        dsimp only at g1 g2 g3 ⊢
        by_cases z : u = 0
        · have hw : wrap64 ((i : Int) + 1) = ((i + 1 : Nat) : Int) := by rw [wrap_id _ (by omega) (by omega)]; omega
          simp only [if_pos z, if_neg (show ¬ u > 0 by omega), if_pos (show (0 : Int) ≤ (i : Int) by omega), if_pos (show acc.length + 1 ≤ 140737488355328 by omega), hw]
          exact IH (i + 1) _ (by omega) (by omega) (by simp; omega)
        · have hw : wrap64 ((i : Int) + u) = ((i + u.toNat : Nat) : Int) := by rw [wrap_id _ (by omega) (by omega)]; omega
          simp only [if_neg z, if_pos (show u > 0 by omega), if_pos (show acc.length + t.size ≤ 140737488355328 by omega), hw]
          exact IH (i + u.toNat) _ (by omega) (by omega) (by rw [List.length_append, data_length]; omega)
    · rw [refs_out s v (d + 1) acc i c]
      refine Ev.at1 fun k => ?_
      simp only [spec_Refs.l0]
      rw [if_neg (by omega)]
theorem impl_Refs_loop (s : ByteArray) (v : Bool) (hs : s.size ≤ 1000000000000) (d : Nat) : ∀ (i : Nat) (acc : List UInt8), s.size ≤ i + d → i ≤ s.size → acc.length ≤ 4 * i →
    Ev (fun k => impl_Refs.l0 k s v acc (i : Int)) (RF s v d acc i) := by
  induction d with
  | zero =>
    intro i acc h h1 h2
    rw [refs_out s v 0 acc i (by omega)]
    refine Ev.at1 fun k => ?_
    simp only [impl_Refs.l0]
    rw [if_neg (by omega)]
  | succ d IH =>
    intro i acc h h1 h2
    by_cases c : i < s.size
    · obtain ⟨g1, g2, g3⟩ := refAt_good s i v c
      unfold RF
      rw [if_pos c]
      refine Ev.step (f := fun k => (impl_Ref.f k s i v).bind fun b => (if b.2 = 0 then (if 0 ≤ (i : Int) then (if acc.length + 1 ≤ 140737488355328 then (impl_Refs.l0 k s v (acc ++ [byteAt s i]) (wrap64 ((i : Int) + 1))) else none) else none) else (if acc.length + b.1.size ≤ 140737488355328 then (impl_Refs.l0 k s v (acc ++ b.1.data.toList) (wrap64 ((i : Int) + b.2))) else none))) (fun k => ?_) (Ev.bind (impl_Ref_ev s i v (by omega)) ?_)
      · simp only [impl_Refs.l0]
        rw [if_pos (show (i : Int) < (s.size : Int) by omega)]
      · generalize refAt s (i : Int) v = x at g1 g2 g3 ⊢
        obtain ⟨t, u⟩ := x
        dsimp only at g1 g2 g3 ⊢
        by_cases z : u = 0
        · have hw : wrap64 ((i : Int) + 1) = ((i + 1 : Nat) : Int) := by rw [wrap_id _ (by omega) (by omega)]; omega
          simp only [if_pos z, if_pos (show (0 : Int) ≤ (i : Int) by omega), if_pos (show acc.length + 1 ≤ 140737488355328 by omega), hw]
          exact IH (i + 1) _ (by omega) (by omega) (by simp; omega)
        · have hw : wrap64 ((i : Int) + u) = ((i + u.toNat : Nat) : Int) := by rw [wrap_id _ (by omega) (by omega)]; omega
          simp only [if_neg z, if_pos (show acc.length + t.size ≤ 140737488355328 by omega), hw]
          exact IH (i + u.toNat) _ (by omega) (by omega) (by rw [List.length_append, data_length]; omega)
    · rw [refs_out s v (d + 1) acc i c]
      refine Ev.at1 fun k => ?_
      simp only [impl_Refs.l0]
      rw [if_neg (by omega)]

theorem FnExactRefs : laws_FnExactRefs.Pure := by
  intro s v _
  refine Ev.rounds (r := true) ?_
  unfold laws_FnExactRefs.f
  by_cases h : (s.size : Int) > 1048576
  · simp only [if_pos h]; exact Ev.now _
  · simp only [if_neg h]
    refine Ev.bind (spec_Refs_loop s v (by omega) s.size 0 [] (by omega) (by omega) (by simp)) (Ev.bind (impl_Refs_loop s v (by omega) s.size 0 [] (by omega) (by omega) (by simp)) ?_)
    simp only [if_true]
    exact Ev.now _

end Go.Proofs.Yteafgjebaedjbaa.Pure
