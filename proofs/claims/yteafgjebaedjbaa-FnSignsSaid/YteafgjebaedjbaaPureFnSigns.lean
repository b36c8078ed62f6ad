/- The statement of FnSigns, over the printed functions: it is true for every input. No condition. -/
import Derived.Test.YteafgjebaedjbaaPFnSignsx6
import Derived.Lib.LazyBuf
namespace Go.Proofs.Yteafgjebaedjbaa.Pure
open Go.RowKit Go.Proofs.Yteafgjebaedjbaa.PFnSigns Go.Proofs.YteafgjebaedjbaaW.PrintWords Go.Proofs.YteafgjebaedjbaaW.PrintLast
set_option linter.unusedVariables false
set_option linter.unusedSimpArgs false

theorem Ev.yes {α : Type} {g : Nat → Option α} {r : α} (h : ∀ k, g k = some r) : Ev g r := ⟨0, fun k _ => h k⟩
theorem Ev.at1 {α : Type} {g : Nat → Option α} {r : α} (h : ∀ k, g (k + 1) = some r) : Ev g r := Ev.step (f := fun _ => some r) h (Ev.now r)
theorem wrap_id (n : Int) (h0 : -9223372036854775808 ≤ n) (h1 : n ≤ 9223372036854775807) : wrap64 n = n := by unfold wrap64; omega

theorem wraps63 (n : Int) (h0 : 0 ≤ n) (h1 : n < 2 ^ 63) : IntKind.i64.wrap n = n := by rw [IntKind.wrap_i64]; omega
theorem and63 (x : Int) (h0 : 0 ≤ x) (h1 : x < 9223372036854775808) : Go.bits .and .i64 x 63 = x % 64 := bits_mask .i64 63 (by decide) wraps63 6 (by decide) x h0 (by simpa using h1)
theorem or_join (i : Nat) (x y : Int) (hx0 : 0 ≤ x) (hx : x % 2 ^ i = 0) (hx1 : x < 9223372036854775808) (h0 : 0 ≤ y) (h1 : y < 2 ^ i) (h2 : y < 9223372036854775808) : Go.bits .or .i64 x y = x + y :=
  bits_join .i64 63 (by decide) wraps63 i x y hx0 hx (by simpa using hx1) h0 h1 (by simpa using h2)
theorem or128 (y : Int) (h0 : 0 ≤ y) (h1 : y < 64) : Go.bits .or .i64 128 y = 128 + y := or_join 6 128 y (by decide) (by decide) (by decide) h0 (by simpa using h1) (by omega)
theorem or192 (y : Int) (h0 : 0 ≤ y) (h1 : y < 32) : Go.bits .or .i64 192 y = 192 + y := or_join 5 192 y (by decide) (by decide) (by decide) h0 (by simpa using h1) (by omega)
theorem or224 (y : Int) (h0 : 0 ≤ y) (h1 : y < 16) : Go.bits .or .i64 224 y = 224 + y := or_join 4 224 y (by decide) (by decide) (by decide) h0 (by simpa using h1) (by omega)
theorem or240 (y : Int) (h0 : 0 ≤ y) (h1 : y < 8) : Go.bits .or .i64 240 y = 240 + y := or_join 3 240 y (by decide) (by decide) (by decide) h0 (by simpa using h1) (by omega)

theorem l1In_is (a b c : Int) : spec_l1In.f a b c = some (decide (b ≤ a ∧ a ≤ c)) := by
  unfold spec_l1In.f
  by_cases h : b ≤ a
  · rw [if_pos h]; simp [h]
  · rw [if_neg h]; simp [h]

theorem l1Many_is (b : Int) (h0 : 0 ≤ b) (h1 : b ≤ 255) : spec_l1Many.f b = some (if b < 128 then 1 else if b < 194 then 0 else if b < 224 then 2 else if b < 240 then 3 else if b < 245 then 4 else 0) := by
  unfold spec_l1Many.f
  simp only [l1In_is, Option.bind_some]
  by_cases a : b < 128
  · rw [if_pos a, if_pos a]
  · rw [if_neg a, if_neg a]
    by_cases c : b < 194
    · rw [if_neg (by rw [decide_eq_true_eq]; omega), if_neg (by rw [decide_eq_true_eq]; omega), if_neg (by rw [decide_eq_true_eq]; omega), if_pos c]
    · rw [if_neg c]
      by_cases d : b < 224
      · rw [if_pos (decide_eq_true (by omega)), if_pos d]
      · rw [if_neg (by rw [decide_eq_true_eq]; omega), if_neg d]
        by_cases e : b < 240
        · rw [if_pos (decide_eq_true (by omega)), if_pos e]
        · rw [if_neg (by rw [decide_eq_true_eq]; omega), if_neg e]
          by_cases f : b < 245
          · rw [if_pos (decide_eq_true (by omega)), if_pos f]
          · rw [if_neg (by rw [decide_eq_true_eq]; omega), if_neg f]
def sLo (b : Int) : Int := if b = 224 then 160 else if b = 240 then 144 else 128
def sHi (b : Int) : Int := if b = 237 then 159 else if b = 244 then 143 else 191
theorem l1Second_is (a b : Int) : spec_l1Second.f a b = some (decide (sLo a ≤ b ∧ b ≤ sHi a)) := by
  unfold spec_l1Second.f sLo sHi
  simp only [l1In_is, Option.bind_some]
  by_cases h1 : a = 224
  · subst h1; rfl
  · rw [if_neg h1, if_neg h1]
    by_cases h2 : a = 237
    · subst h2; rfl
    · rw [if_neg h2, if_neg h2]
      by_cases h3 : a = 240
      · subst h3; rfl
      · rw [if_neg h3, if_neg h3]
        by_cases h4 : a = 244
        · subst h4; rfl
        · rw [if_neg h4, if_neg h4]
/-- The bytes that follow a first one, from the j-th on: d of them are still wanted. -/
def cont (s : ByteArray) (i : Nat) : Nat → Nat → Int → Int → Int → Int × Int
  | 0, j, acc, _, _ => (acc, j)
  | d + 1, j, acc, lo, hi => if s.size ≤ i + j then (65533, j) else if bt s ((i + j : Nat) : Int) < lo ∨ hi < bt s ((i + j : Nat) : Int) then (65533, j) else cont s i d (j + 1) (acc * 64 + bt s ((i + j : Nat) : Int) % 64) 128 191
/-- The sign at a place, and how many bytes it takes. -/
def GSat (s : ByteArray) (i : Nat) : Int × Int :=
  if bt s i < 128 then (bt s i, 1) else if bt s i < 194 ∨ 244 < bt s i then (65533, 1)
  else if bt s i < 224 then cont s i 1 1 (bt s i % 32) (sLo (bt s i)) (sHi (bt s i))
  else if bt s i < 240 then cont s i 2 1 (bt s i % 16) (sLo (bt s i)) (sHi (bt s i))
  else cont s i 3 1 (bt s i % 8) (sLo (bt s i)) (sHi (bt s i))
theorem cont_two (s : ByteArray) (i : Nat) : ∀ (d j : Nat) (acc lo hi : Int), 1 ≤ j → 1 ≤ (cont s i d j acc lo hi).2 ∧ (cont s i d j acc lo hi).2 ≤ j + d
  | 0, j, acc, lo, hi, h => by unfold cont; simp; omega
  | d + 1, j, acc, lo, hi, h => by
    have ih := cont_two s i d (j + 1) (acc * 64 + bt s ((i + j : Nat) : Int) % 64) 128 191 (by omega)
    unfold cont
    split
    · simp; omega
    · split
      · simp; omega
      · omega
theorem GSat_two (s : ByteArray) (i : Nat) : 1 ≤ (GSat s i).2 ∧ (GSat s i).2 ≤ 4 := by
  unfold GSat
  have h1 := cont_two s i 1 1 (bt s i % 32) (sLo (bt s i)) (sHi (bt s i)) (by omega)
  have h2 := cont_two s i 2 1 (bt s i % 16) (sLo (bt s i)) (sHi (bt s i)) (by omega)
  have h3 := cont_two s i 3 1 (bt s i % 8) (sLo (bt s i)) (sHi (bt s i)) (by omega)
  split
  · simp
  · split
    · simp
    · split
      · omega
      · split <;> omega
theorem bt_wrap (s : ByteArray) (i : Int) : wrap64 (bt s i) = bt s i := by have := bt_range s i; exact wrap_id _ (by omega) (by omega)
theorem sLo_in (a : Int) : 128 ≤ sLo a := by unfold sLo; split <;> (try split) <;> omega
theorem sHi_in (a : Int) : sHi a ≤ 191 := by unfold sHi; split <;> (try split) <;> omega
theorem spec_over (s : ByteArray) (i x6 x7 x8 x9 : Int) (k : Nat) (h9 : x9 < x7) (hp : (s.size : Int) ≤ wrap64 (i + x9)) : spec_GetSign.l0 (k + 1) s i x6 x7 x8 x9 = some (65533, x9) := by
  simp only [spec_GetSign.l0]
  rw [if_pos h9, if_pos hp]
theorem spec_one (s : ByteArray) (i x6 x7 x8 p b : Int) (k : Nat) (h9 : 1 < x7) (hp : wrap64 (i + 1) = p) (h0 : 0 ≤ p) (h1 : p < s.size) (hb : bt s p = b) (hw : wrap64 b = b) (ha : Go.bits .and .i64 b 63 = b % 64) :
    spec_GetSign.l0 (k + 1) s i x6 x7 x8 1 = if (sLo x6 ≤ b ∧ b ≤ sHi x6) then (if 128 ≤ b ∧ b ≤ 191 then spec_GetSign.l0 k s i x6 x7 (wrap64 (wrap64 (x8 * 64) + b % 64)) (wrap64 (1 + 1)) else some (65533, 1)) else some (65533, 1) := by
  have n1 : ¬ p ≥ (s.size : Int) := by omega
  simp only [spec_GetSign.l0]
  rw [if_pos h9, hp, if_neg n1, if_pos trivial, if_pos h0, if_pos h1, l1Second_is, l1In_is, hb, hw, ha]
  simp only [Option.bind_some, decide_eq_true_eq, if_pos h0, if_pos h1]
theorem spec_more (s : ByteArray) (i x6 x7 x8 x9 p b : Int) (k : Nat) (h9 : x9 < x7) (hn : ¬ x9 = 1) (hp : wrap64 (i + x9) = p) (h0 : 0 ≤ p) (h1 : p < s.size) (hb : bt s p = b) (hw : wrap64 b = b) (ha : Go.bits .and .i64 b 63 = b % 64) :
    spec_GetSign.l0 (k + 1) s i x6 x7 x8 x9 = if 128 ≤ b ∧ b ≤ 191 then spec_GetSign.l0 k s i x6 x7 (wrap64 (wrap64 (x8 * 64) + b % 64)) (wrap64 (x9 + 1)) else some (65533, x9) := by
  have n1 : ¬ p ≥ (s.size : Int) := by omega
  simp only [spec_GetSign.l0]
  rw [if_pos h9, hp, if_neg n1, if_neg hn, if_pos h0, if_pos h1, l1In_is, hb, hw, ha]
  simp only [Option.bind_some, decide_eq_true_eq]
theorem spec_cont (s : ByteArray) (i : Nat) (hs : s.size ≤ 140737488351232) (hi : i < s.size) (a : Int) : ∀ (d j : Nat) (acc : Int), 1 ≤ j → j + d ≤ 4 → 0 ≤ acc → acc < 64 ^ j →
    Ev (fun k => spec_GetSign.l0 k s i a ((j + d : Nat) : Int) acc (j : Int)) (cont s i d j acc (if j = 1 then sLo a else 128) (if j = 1 then sHi a else 191)) := by
  intro d
  induction d with
  | zero =>
    intro j acc h1 h4 h0 hb
    refine Ev.at1 fun k => ?_
    simp only [spec_GetSign.l0]
    rw [if_neg (by omega)]
    rfl
  | succ d ih =>
    intro j acc h1 h4 h0 hb
    have hp : (64 : Int) ^ j ≤ 262144 := by
      have : j = 1 ∨ j = 2 ∨ j = 3 := by omega
      rcases this with rfl | rfl | rfl <;> decide
    have hp2 : (64 : Int) ^ (j + 1) = 64 ^ j * 64 := Int.pow_succ 64 j
    have h9 : (j : Int) < ((j + (d + 1) : Nat) : Int) := by omega
    have IH := ih (j + 1)
    rw [if_neg (by omega), if_neg (by omega), show j + 1 + d = j + (d + 1) by omega] at IH
    clear ih
    have pw : ((i + j : Nat) : Int) = (i : Int) + j := by omega
    have pj : ((j + 1 : Nat) : Int) = (j : Int) + 1 := by omega
    have lw : -9223372036854775808 ≤ (i : Int) + j ∧ (i : Int) + j ≤ 9223372036854775807 := by omega
    have lj : -9223372036854775808 ≤ (j : Int) + 1 ∧ (j : Int) + 1 ≤ 9223372036854775807 := by omega
    have hw : wrap64 ((i : Int) + (j : Int)) = ((i + j : Nat) : Int) := by rw [wrap_id _ lw.1 lw.2, pw]
    have hj : wrap64 ((j : Int) + 1) = ((j + 1 : Nat) : Int) := by rw [wrap_id _ lj.1 lj.2, pj]
    unfold cont
    by_cases hz : s.size ≤ i + j
    · rw [if_pos hz]
      have z1 : (s.size : Int) ≤ ((i + j : Nat) : Int) := by omega
      exact Ev.at1 fun k => spec_over s i a _ acc j k h9 (by rw [hw]; exact z1)
    · rw [if_neg hz]
      have q1 : (0 : Int) ≤ ((i + j : Nat) : Int) := by clear hw hj; omega
      have q2 : ((i + j : Nat) : Int) < s.size := by clear hw hj; omega
      have br := bt_range s ((i + j : Nat) : Int)
      have bw := bt_wrap s ((i + j : Nat) : Int)
      have hl := sLo_in a
      have hh := sHi_in a
      generalize hb' : bt s ((i + j : Nat) : Int) = b at br bw ⊢
      have ha : Go.bits .and .i64 b 63 = b % 64 := and63 _ br.1 (by clear hw hj bw; omega)
      have nx : 0 ≤ acc * 64 + b % 64 ∧ acc * 64 + b % 64 < 64 ^ (j + 1) := by clear hw hj bw ha; omega
      have hacc : wrap64 (wrap64 (acc * 64) + b % 64) = acc * 64 + b % 64 := by rw [wrap_id (acc * 64) (by clear hw hj bw ha; omega) (by clear hw hj bw ha; omega), wrap_id _ (by clear hw hj bw ha; omega) (by clear hw hj bw ha; omega)]
      by_cases hj1 : j = 1
      · subst hj1
        rw [if_pos rfl, if_pos rfl]
        have c1 : ((1 : Nat) : Int) = 1 := rfl
        rw [c1] at hw h9 hj ⊢
        have st : ∀ k, spec_GetSign.l0 (k + 1) s i a ((1 + (d + 1) : Nat) : Int) acc 1 = _ := fun k => spec_one s i a ((1 + (d + 1) : Nat) : Int) acc ((i + 1 : Nat) : Int) b k h9 hw q1 q2 hb' bw ha
        by_cases hc : b < sLo a ∨ sHi a < b
        · rw [if_pos hc]
          refine Ev.at1 fun k => ?_
          rw [st, if_neg (by clear hw hj bw ha hacc st; omega)]
        · rw [if_neg hc]
          refine Ev.step (fun k => ?_) (IH (acc * 64 + b % 64) (by clear hw hj bw ha hacc st; omega) (by clear hw hj bw ha hacc st; omega) nx.1 nx.2)
          rw [st, if_pos (by clear hw hj bw ha hacc st; omega), if_pos (by clear hw hj bw ha hacc st; omega), hacc, hj]
      · rw [if_neg hj1, if_neg hj1]
        have nj : ¬ (j : Int) = 1 := by clear hw hj bw ha hacc; omega
        have st : ∀ k, spec_GetSign.l0 (k + 1) s i a ((j + (d + 1) : Nat) : Int) acc (j : Int) = _ := fun k => spec_more s i a ((j + (d + 1) : Nat) : Int) acc j ((i + j : Nat) : Int) b k h9 nj hw q1 q2 hb' bw ha
        by_cases hc : b < 128 ∨ 191 < b
        · rw [if_pos hc]
          refine Ev.at1 fun k => ?_
          rw [st, if_neg (by clear hw hj bw ha hacc st; omega)]
        · rw [if_neg hc]
          refine Ev.step (fun k => ?_) (IH (acc * 64 + b % 64) (by clear hw hj bw ha hacc st; omega) (by clear hw hj bw ha hacc st; omega) nx.1 nx.2)
          rw [st, if_pos (by clear hw hj bw ha hacc st; omega), hacc, hj]
theorem lead_mask (b : Int) (h0 : 0 ≤ b) (h1 : b ≤ 255) (m : Nat) (hm : m ≤ 7) : Go.bits .and .i64 b (2 ^ m - 1) = b % 2 ^ m := bits_mask .i64 63 (by decide) wraps63 m (by omega) b h0 (by omega)
theorem spec_GetSign_in (s : ByteArray) (i : Nat) (hs : s.size ≤ 140737488351232) (hi : i < s.size) : Ev (fun k => spec_GetSign.f k s i) (GSat s i) := by
  have br := bt_range s i
  have b1 : (i : Int) < s.size := by omega
  have f : ∀ k, spec_GetSign.f k s i = spec_GetSign.j0 k s i false := fun k => by
    unfold spec_GetSign.f
    rw [if_neg (by omega), decide_eq_false (by omega)]
  refine Ev.congr f ?_
  have go : ∀ (m : Int) (r : Int × Int), spec_l1Many.f (bt s i) = some m → Ev (fun k => if m < 2 then (if m = 1 then (some (wrap64 (bt s i), 1)) else (some (65533, 1))) else (if 0 ≤ m then (spec_GetSign.l0 k s i (wrap64 (bt s i)) m (Go.bits .and .i64 (wrap64 (bt s i)) (shr .i64 127 m)) 1) else (none))) r → Ev (fun k => spec_GetSign.j0 k s i false) r := by
    intro m r hm he
    refine Ev.step ?_ he
    intro k
    simp only [spec_GetSign.j0]
    rw [if_neg (by decide), if_pos (by omega), if_pos b1, bt_wrap, hm]
    rfl
  refine go _ _ (l1Many_is _ br.1 br.2) ?_
  rw [bt_wrap]
  unfold GSat
  by_cases a : bt s i < 128
  · simp only [if_pos a]
    exact Ev.yes fun k => by rw [if_pos (by omega), if_pos trivial]
  · simp only [if_neg a]
    by_cases c : bt s i < 194
    · simp only [if_pos c, if_pos (show bt s i < 194 ∨ 244 < bt s i from .inl c)]
      exact Ev.yes fun k => by rw [if_pos (by omega), if_neg (by omega)]
    · by_cases z : 244 < bt s i
      · simp only [if_neg c, if_neg (show ¬ bt s i < 224 by omega), if_neg (show ¬ bt s i < 240 by omega), if_neg (show ¬ bt s i < 245 by omega), if_pos (show bt s i < 194 ∨ 244 < bt s i from .inr z)]
        exact Ev.yes fun k => by rw [if_pos (by omega), if_neg (by omega)]
      · simp only [if_neg c, if_neg (show ¬ (bt s i < 194 ∨ 244 < bt s i) by omega)]
        have s1 : shr .i64 127 2 = 2 ^ 5 - 1 := by decide
        have s2 : shr .i64 127 3 = 2 ^ 4 - 1 := by decide
        have s3 : shr .i64 127 4 = 2 ^ 3 - 1 := by decide
        have p5 : (2 : Int) ^ 5 = 32 := rfl
        have p4 : (2 : Int) ^ 4 = 16 := rfl
        have p3 : (2 : Int) ^ 3 = 8 := rfl
        by_cases d : bt s i < 224
        · simp only [if_pos d]
          have m := lead_mask _ br.1 br.2 5 (by omega)
          have := spec_cont s i hs hi (bt s i) 1 1 (bt s i % 32) (by omega) (by omega) (by omega) (by omega)
          refine Ev.congr (fun k => ?_) this
          rw [if_neg (by omega), if_pos (by omega), s1, m, p5]
          rfl
        · simp only [if_neg d]
          by_cases e : bt s i < 240
          · simp only [if_pos e]
            have m := lead_mask _ br.1 br.2 4 (by omega)
            have := spec_cont s i hs hi (bt s i) 2 1 (bt s i % 16) (by omega) (by omega) (by omega) (by omega)
            refine Ev.congr (fun k => ?_) this
            rw [if_neg (by omega), if_pos (by omega), s2, m, p4]
            rfl
          · simp only [if_neg e, if_pos (show bt s i < 245 by omega)]
            have m := lead_mask _ br.1 br.2 3 (by omega)
            have := spec_cont s i hs hi (bt s i) 3 1 (bt s i % 8) (by omega) (by omega) (by omega) (by omega)
            refine Ev.congr (fun k => ?_) this
            rw [if_neg (by omega), if_pos (by omega), s3, m, p3]
            rfl
theorem spec_GetSign_out (s : ByteArray) (i : Int) (h : i < 0 ∨ (s.size : Int) ≤ i) : Ev (fun k => spec_GetSign.f k s i) (0, 0) := by
  refine Ev.at1 fun k => ?_
  unfold spec_GetSign.f
  by_cases a : i < 0
  · rw [if_pos a]; simp only [spec_GetSign.j0]; rw [if_pos trivial]
  · rw [if_neg a, decide_eq_true (by omega)]; simp only [spec_GetSign.j0]; rw [if_pos trivial]
/-- What a first byte tells. -/
def bgn (b : Int) : Int × Int × Int × Int :=
  if b < 128 then (0, b, 0, 0) else if b < 194 ∨ 244 < b then (-1, 0, 0, 0)
  else if b < 224 then (1, b % 32, sLo b, sHi b) else if b < 240 then (2, b % 16, sLo b, sHi b) else (3, b % 8, sLo b, sHi b)
theorem impl_beginning_is (b : Int) (h0 : 0 ≤ b) (h1 : b ≤ 255) (k : Nat) : impl_beginning.f (k + 1) b = some (bgn b) := by
  unfold impl_beginning.f bgn
  have m31 := u8_and31 b h0 (by omega)
  have m15 := u8_and15 b h0 (by omega)
  have m7 := u8_and7 b h0 (by omega)
  by_cases a : b < 128
  · rw [if_pos a, if_pos a, wrap_id b (by omega) (by omega)]
  · rw [if_neg a, if_neg a]
    by_cases c : b < 194
    · rw [if_pos c, if_pos (.inl c)]; simp only [impl_beginning.j0]; rw [if_pos trivial]
    · rw [if_neg c]
      by_cases z : 244 < b
      · rw [decide_eq_true z, if_pos (.inr z)]; simp only [impl_beginning.j0]; rw [if_pos trivial]
      · rw [decide_eq_false z, if_neg (by omega)]
        simp only [impl_beginning.j0]
        rw [if_neg (by decide), m31, m15, m7, wrap_id (b % 32) (by omega) (by omega), wrap_id (b % 16) (by omega) (by omega), wrap_id (b % 8) (by omega) (by omega)]
        unfold sLo sHi
        by_cases d : b < 224
        · rw [if_pos d, if_pos d, if_neg (show ¬ b = 224 by omega), if_neg (show ¬ b = 240 by omega), if_neg (show ¬ b = 237 by omega), if_neg (show ¬ b = 244 by omega)]
        · rw [if_neg d, if_neg d]
          by_cases e1 : b = 224
          · subst e1; rfl
          · rw [if_neg e1]
            by_cases e2 : b = 237
            · subst e2; rfl
            · rw [if_neg e2]
              by_cases e : b < 240
              · rw [if_pos e, if_pos e, if_neg e1, if_neg (show ¬ b = 240 by omega), if_neg e2, if_neg (show ¬ b = 244 by omega)]
              · rw [if_neg e, if_neg e]
                by_cases e3 : b = 240
                · subst e3; rfl
                · rw [if_neg e3]
                  by_cases e4 : b = 244
                  · subst e4; rfl
                  · rw [if_neg e4, if_neg e1, if_neg e3, if_neg e2, if_neg e4]
theorem impl_over (s : ByteArray) (i x6 x7 x8 x9 x10 : Int) (k : Nat) (h9 : x10 ≤ x6) (hp : (s.size : Int) ≤ wrap64 (i + x10)) : impl_getSign.l0 (k + 1) s i x6 x7 x8 x9 x10 = some (65533, x10) := by
  simp only [impl_getSign.l0]
  rw [if_pos h9, if_pos hp]
theorem impl_step (s : ByteArray) (i x6 x7 x8 x9 x10 p b : Int) (k : Nat) (h9 : x10 ≤ x6) (hp : wrap64 (i + x10) = p) (h0 : 0 ≤ p) (h1 : p < s.size) (hb : bt s p = b) (ha : Go.bits .and .u8 b 63 = b % 64) :
    impl_getSign.l0 (k + 1) s i x6 x7 x8 x9 x10 = if b < x8 ∨ b > x9 then some (65533, x10) else impl_getSign.l0 k s i x6 (Go.bits .or .i64 (wrap64 (x7 * 64)) (wrap64 (b % 64))) 128 191 (wrap64 (x10 + 1)) := by
  have n1 : ¬ p ≥ (s.size : Int) := by omega
  simp only [impl_getSign.l0]
  rw [if_pos h9, hp, if_neg n1, if_pos h0, if_pos h1, hb, ha]
  by_cases c : b < x8
  · rw [if_pos c, if_pos (.inl c)]
  · rw [if_neg c]
    by_cases c2 : b > x9
    · rw [if_pos c2, if_pos (.inr c2)]
    · rw [if_neg c2, if_neg (by omega)]
theorem impl_cont (s : ByteArray) (i : Nat) (hs : s.size ≤ 140737488351232) (hi : i < s.size) : ∀ (d j : Nat) (acc lo hi : Int), 1 ≤ j → j + d ≤ 4 → 0 ≤ acc → acc < 64 ^ j →
    Ev (fun k => impl_getSign.l0 k s i (((j + d : Nat) : Int) - 1) acc lo hi (j : Int)) (cont s i d j acc lo hi) := by
  intro d
  induction d with
  | zero =>
    intro j acc lo hi' h1 h4 h0 hb
    refine Ev.at1 fun k => ?_
    simp only [impl_getSign.l0]
    rw [if_neg (by omega), wrap_id _ (by omega) (by omega)]
    unfold cont
    congr 2
    omega
  | succ d ih =>
    intro j acc lo hi' h1 h4 h0 hb
    have hp : (64 : Int) ^ j ≤ 262144 := by
      have : j = 1 ∨ j = 2 ∨ j = 3 := by omega
      rcases this with rfl | rfl | rfl <;> decide
    have hp2 : (64 : Int) ^ (j + 1) = 64 ^ j * 64 := Int.pow_succ 64 j
    have h9 : (j : Int) ≤ ((j + (d + 1) : Nat) : Int) - 1 := by omega
    have IH := ih (j + 1)
    rw [show j + 1 + d = j + (d + 1) by omega] at IH
    clear ih
    have pw : ((i + j : Nat) : Int) = (i : Int) + j := by omega
    have pj : ((j + 1 : Nat) : Int) = (j : Int) + 1 := by omega
    have lw : -9223372036854775808 ≤ (i : Int) + j ∧ (i : Int) + j ≤ 9223372036854775807 := by omega
    have lj : -9223372036854775808 ≤ (j : Int) + 1 ∧ (j : Int) + 1 ≤ 9223372036854775807 := by omega
    have hw : wrap64 ((i : Int) + (j : Int)) = ((i + j : Nat) : Int) := by rw [wrap_id _ lw.1 lw.2, pw]
    have hj : wrap64 ((j : Int) + 1) = ((j + 1 : Nat) : Int) := by rw [wrap_id _ lj.1 lj.2, pj]
    unfold cont
    by_cases hz : s.size ≤ i + j
    · rw [if_pos hz]
      have z1 : (s.size : Int) ≤ ((i + j : Nat) : Int) := by omega
      exact Ev.at1 fun k => impl_over s i _ acc lo hi' j k h9 (by rw [hw]; exact z1)
    · rw [if_neg hz]
      have q1 : (0 : Int) ≤ ((i + j : Nat) : Int) := by clear hw hj; omega
      have q2 : ((i + j : Nat) : Int) < s.size := by clear hw hj; omega
      have br := bt_range s ((i + j : Nat) : Int)
      generalize hb' : bt s ((i + j : Nat) : Int) = b at br ⊢
      have nx : 0 ≤ acc * 64 + b % 64 ∧ acc * 64 + b % 64 < 64 ^ (j + 1) := by clear hw hj; omega
      have ha := u8_and63 b br.1 (by clear hw hj; omega)
      have hacc : Go.bits .or .i64 (wrap64 (acc * 64)) (wrap64 (b % 64)) = acc * 64 + b % 64 := by
        clear hw hj ha
        rw [wrap_id (acc * 64) (by omega) (by omega), wrap_id (b % 64) (by omega) (by omega)]
        exact or_join 6 (acc * 64) (b % 64) (by omega) (by omega) (by omega) (by omega) (by omega) (by omega)
      have st : ∀ k, impl_getSign.l0 (k + 1) s i (((j + (d + 1) : Nat) : Int) - 1) acc lo hi' (j : Int) = _ := fun k => impl_step s i (((j + (d + 1) : Nat) : Int) - 1) acc lo hi' j ((i + j : Nat) : Int) b k h9 hw q1 q2 hb' ha
      by_cases hc : b < lo ∨ hi' < b
      · rw [if_pos hc]
        refine Ev.at1 fun k => ?_
        rw [st, if_pos (by clear hw hj ha hacc st; omega)]
      · rw [if_neg hc]
        refine Ev.step (fun k => ?_) (IH (acc * 64 + b % 64) 128 191 (by clear hw hj ha hacc st; omega) (by clear hw hj ha hacc st; omega) nx.1 nx.2)
        rw [st, if_neg (by clear hw hj ha hacc st; omega), hacc, hj]
theorem impl_getSign_in (s : ByteArray) (i : Nat) (hs : s.size ≤ 140737488351232) (hi : i < s.size) : Ev (fun k => impl_getSign.f k s i) (GSat s i) := by
  have br := bt_range s i
  unfold impl_getSign.f
  simp only [if_pos (show (0 : Int) ≤ i by omega), if_pos (show (i : Int) < s.size by omega)]
  refine Ev.bind (a := bgn (bt s i)) (Ev.at1 fun k => impl_beginning_is _ br.1 br.2 k) ?_
  unfold bgn GSat
  by_cases a : bt s i < 128
  · simp only [if_pos a, if_neg (show ¬ (0 : Int) < 0 by decide)]
    refine Ev.at1 fun k => ?_
    simp only [impl_getSign.l0]
    rw [if_neg (by omega), wrap_id _ (by omega) (by omega)]
    rfl
  · simp only [if_neg a]
    by_cases c : bt s i < 194 ∨ 244 < bt s i
    · simp only [if_pos c, if_pos (show (-1 : Int) < 0 by decide)]
      exact Ev.now _
    · simp only [if_neg c]
      by_cases d : bt s i < 224
      · simp only [if_pos d]
        exact impl_cont s i hs hi 1 1 (bt s i % 32) _ _ (by omega) (by omega) (by omega) (by omega)
      · simp only [if_neg d]
        by_cases e : bt s i < 240
        · simp only [if_pos e]
          exact impl_cont s i hs hi 2 1 (bt s i % 16) _ _ (by omega) (by omega) (by omega) (by omega)
        · simp only [if_neg e]
          exact impl_cont s i hs hi 3 1 (bt s i % 8) _ _ (by omega) (by omega) (by omega) (by omega)

/-- The signs from a place on. -/
def SGs (s : ByteArray) : Nat → Nat → List Int
  | 0, _ => []
  | d + 1, i => if i < s.size then (GSat s i).1 :: SGs s d (i + (GSat s i).2.toNat) else []
/-- All signs. -/
def SG (s : ByteArray) : List Int := SGs s s.size 0
theorem SGs_length (s : ByteArray) : ∀ (d i : Nat), (SGs s d i).length ≤ s.size - i
  | 0, _ => by simp [SGs]
  | d + 1, i => by
    have h2 := GSat_two s i
    have ih := SGs_length s d (i + (GSat s i).2.toNat)
    unfold SGs
    split
    · simp; omega
    · simp
theorem SG_length (s : ByteArray) : (SG s).length ≤ s.size := SGs_length s s.size 0
theorem signs_wrap (s : ByteArray) (i : Nat) (hs : s.size ≤ 140737488351232) (hi : i < s.size) : wrap64 ((i : Int) + (GSat s i).2) = ((i + (GSat s i).2.toNat : Nat) : Int) := by
  have h2 := GSat_two s i
  rw [wrap_id _ (by omega) (by omega)]
  omega
theorem spec_Signs_loop (s : ByteArray) (hs : s.size ≤ 1000000000000) : ∀ (d i : Nat) (acc : List Int), s.size ≤ i + d → acc.length ≤ i → i ≤ 1000000000010 →
    Ev (fun k => spec_Signs.l0 k s acc (i : Int)) (acc ++ SGs s d i)
  | 0, i, acc, h, ha, hb => by
    refine Ev.at1 fun k => ?_
    simp only [spec_Signs.l0]
    rw [if_neg (by omega)]
    simp [SGs]
  | d + 1, i, acc, h, ha, hb => by
    unfold SGs
    by_cases hi : i < s.size
    · rw [if_pos hi]
      have h2 := GSat_two s i
      have ih := spec_Signs_loop s hs d (i + (GSat s i).2.toNat) (acc ++ [(GSat s i).1]) (by omega) (by simp; omega) (by omega)
      have hw := signs_wrap s i (by omega) hi
      refine Ev.step (f := fun k => (spec_GetSign.f k s i).bind fun b => (if acc.length < 17592186044416 then (spec_Signs.l0 k s (acc ++ [b.1]) (wrap64 ((i : Int) + b.2))) else (none))) (fun k => ?_) (Ev.bind (spec_GetSign_in s i (by omega) hi) ?_)
      · simp only [spec_Signs.l0]
        rw [if_pos (by omega)]
      · simp only [if_pos (show acc.length < 17592186044416 by omega)]
        rw [hw]
        have e : acc ++ (GSat s i).1 :: SGs s d (i + (GSat s i).2.toNat) = acc ++ [(GSat s i).1] ++ SGs s d (i + (GSat s i).2.toNat) := by simp
        rw [e]
        exact ih
    · rw [if_neg hi]
      refine Ev.at1 fun k => ?_
      simp only [spec_Signs.l0]
      rw [if_neg (by omega)]
      simp
theorem spec_Signs_ev (s : ByteArray) (hs : s.size ≤ 1000000000000) : Ev (fun k => spec_Signs.f k s) (SG s) := by
  have := spec_Signs_loop s hs s.size 0 [] (by omega) (by simp) (by omega)
  simpa [spec_Signs.f, SG] using this
theorem impl_Signs_loop (s : ByteArray) (hs : s.size ≤ 1000000000000) : ∀ (d i : Nat) (acc : List Int), s.size ≤ i + d → acc.length ≤ i → i ≤ 1000000000010 →
    Ev (fun k => impl_Signs.l0 k s acc (i : Int)) (acc ++ SGs s d i)
  | 0, i, acc, h, ha, hb => by
    refine Ev.at1 fun k => ?_
    simp only [impl_Signs.l0]
    rw [if_neg (by omega)]
    simp [SGs]
  | d + 1, i, acc, h, ha, hb => by
    unfold SGs
    by_cases hi : i < s.size
    · rw [if_pos hi]
      have h2 := GSat_two s i
      have ih := impl_Signs_loop s hs d (i + (GSat s i).2.toNat) (acc ++ [(GSat s i).1]) (by omega) (by simp; omega) (by omega)
      have hw := signs_wrap s i (by omega) hi
      refine Ev.step (f := fun k => (impl_getSign.f k s i).bind fun b => (if acc.length < 17592186044416 then (impl_Signs.l0 k s (acc ++ [b.1]) (wrap64 ((i : Int) + b.2))) else (none))) (fun k => ?_) (Ev.bind (impl_getSign_in s i (by omega) hi) ?_)
      · simp only [impl_Signs.l0]
        rw [if_pos (by omega)]
      · simp only [if_pos (show acc.length < 17592186044416 by omega)]
        rw [hw]
        have e : acc ++ (GSat s i).1 :: SGs s d (i + (GSat s i).2.toNat) = acc ++ [(GSat s i).1] ++ SGs s d (i + (GSat s i).2.toNat) := by simp
        rw [e]
        exact ih
    · rw [if_neg hi]
      refine Ev.at1 fun k => ?_
      simp only [impl_Signs.l0]
      rw [if_neg (by omega)]
      simp
theorem impl_Signs_ev (s : ByteArray) (hs : s.size ≤ 1000000000000) : Ev (fun k => impl_Signs.f k s) (SG s) := by
  have := impl_Signs_loop s hs s.size 0 [] (by omega) (by simp) (by omega)
  simpa [impl_Signs.f, SG] using this

theorem inRange_is (a b c : Int) : impl_inRange.f a b c = some (decide (b ≤ a ∧ a ≤ c)) := by
  unfold impl_inRange.f
  by_cases h : b ≤ a
  · rw [if_pos h]; simp [h]
  · rw [if_neg h]; simp [h]

/-- Both sides' ranges. -/
theorem range_same (a b c : Int) : spec_l1In.f a b c = impl_inRange.f a b c := by rw [l1In_is, inRange_is]

/-- What a sign is. -/
def SgOk (n : Int) : Bool := decide (0 ≤ n ∧ n ≤ 1114111) && !decide (55296 ≤ n ∧ n ≤ 57343)
theorem spec_SignOk_is (n : Int) : spec_SignOk.f n = some (SgOk n) := by
  unfold spec_SignOk.f SgOk
  rw [l1In_is, l1In_is]
  simp only [Option.bind_some]
  by_cases h : decide (0 ≤ n ∧ n ≤ 1114111) = true
  · rw [if_pos h, h]; rfl
  · rw [if_neg h, Bool.eq_false_iff.mpr h]; rfl
theorem impl_SignOk_is (n : Int) : impl_SignOk.f n = some (SgOk n) := by
  unfold impl_SignOk.f SgOk
  rw [inRange_is, inRange_is]
  simp only [Option.bind_some]
  by_cases h : decide (0 ≤ n ∧ n ≤ 1114111) = true
  · rw [if_pos h, h]; rfl
  · rw [if_neg h, Bool.eq_false_iff.mpr h]; rfl

/-- A sign's bytes. -/
def PSb (n : Int) : List Int :=
  if n < 128 then [n] else if n < 2048 then [192 + n / 64, 128 + n % 64]
  else if n < 65536 then [224 + n / 4096, 128 + n / 64 % 64, 128 + n % 64]
  else [240 + n / 262144, 128 + n / 4096 % 64, 128 + n / 64 % 64, 128 + n % 64]
/-- What is put for a number. -/
def PSn (n : Int) : Int := if SgOk n = true then n else 65533
def PS (n : Int) : ByteArray := strOfNums (PSb (PSn n))
theorem SgOk_range (n : Int) (h : SgOk n = true) : 0 ≤ n ∧ n ≤ 1114111 := by
  unfold SgOk at h
  simp only [Bool.and_eq_true, decide_eq_true_eq] at h
  exact h.1
theorem PSn_range (n : Int) : 0 ≤ PSn n ∧ PSn n ≤ 1114111 := by
  unfold PSn
  by_cases h : SgOk n = true
  · rw [if_pos h]; exact SgOk_range n h
  · rw [if_neg h]; omega
theorem spec_PutSign_j (n : Int) (h0 : 0 ≤ n) (h1 : n ≤ 1114111) (k : Nat) : spec_PutSign.j0 (k + 1) n = some (strOfNums (PSb n)) := by
  simp only [spec_PutSign.j0]
  unfold PSb
  by_cases a : n < 128
  · rw [if_pos a, if_pos a, Int.emod_eq_of_lt h0 (by omega)]
  · rw [if_neg a, if_neg a]
    have w0 : ∀ x : Int, 0 ≤ x → x < 256 → (wrap64 x) % 256 = x := fun x a b => by unfold wrap64; omega
    by_cases b : n < 2048
    · rw [if_pos b, if_pos b, and63 n h0 (by omega), w0 _ (by omega) (by omega), w0 _ (by omega) (by omega)]
    · rw [if_neg b, if_neg b]
      by_cases c : n < 65536
      · rw [if_pos c, if_pos c, and63 n h0 (by omega), and63 (n / 64) (by omega) (by omega), w0 _ (by omega) (by omega), w0 _ (by omega) (by omega), w0 _ (by omega) (by omega)]
      · rw [if_neg c, if_neg c, and63 n h0 (by omega), and63 (n / 64) (by omega) (by omega), and63 (n / 4096) (by omega) (by omega), w0 _ (by omega) (by omega), w0 _ (by omega) (by omega), w0 _ (by omega) (by omega), w0 _ (by omega) (by omega)]
theorem spec_PutSign_ev (n : Int) : Ev (fun k => spec_PutSign.f k n) (PS n) := by
  refine Ev.at1 fun k => ?_
  unfold spec_PutSign.f PS
  rw [spec_SignOk_is]
  simp only [Option.bind_some]
  have r := PSn_range n
  unfold PSn at r ⊢
  by_cases h : SgOk n = true
  · rw [if_pos h] at r ⊢; rw [if_pos h]; exact spec_PutSign_j n r.1 r.2 k
  · rw [if_neg h] at r ⊢; rw [if_neg h]; exact spec_PutSign_j _ r.1 r.2 k
theorem impl_follow_is (n : Int) (h0 : 0 ≤ n) (h1 : n ≤ 1114111) (j : Nat) (hj : j ≤ 12) : impl_follow.f n j = some (128 + n / 2 ^ j % 64) := by
  unfold impl_follow.f
  have e : IntKind.u64.wrap (j : Int) = j := by simp [IntKind.wrap, IntKind.bits, IntKind.signed]; omega
  have hp : (0 : Int) < 2 ^ j := Int.pow_pos (by decide)
  have d0 : 0 ≤ n / 2 ^ j := Int.ediv_nonneg h0 (Int.le_of_lt hp)
  have d1 : n / 2 ^ j ≤ n := Int.ediv_le_self _ h0
  rw [e, if_pos (by omega)]
  unfold shr
  have m : min (j : Int).toNat IntKind.i64.bits = j := by simp [IntKind.bits]; omega
  rw [m, and63 _ d0 (by omega), or128 _ (by omega) (by omega)]
  congr 1
  omega
theorem impl_PutSign_j (n : Int) (h0 : 0 ≤ n) (h1 : n ≤ 1114111) (k : Nat) : impl_PutSign.j0 (k + 1) n = some (strOfNums (PSb n)) := by
  simp only [impl_PutSign.j0]
  unfold PSb
  have f0 := impl_follow_is n h0 h1 0 (by omega)
  have f6 := impl_follow_is n h0 h1 6 (by omega)
  have f12 := impl_follow_is n h0 h1 12 (by omega)
  simp only [Int.natCast_zero, Int.pow_zero, Int.ediv_one] at f0
  have e6 : ((6 : Nat) : Int) = 6 := rfl
  have e12 : ((12 : Nat) : Int) = 12 := rfl
  have p6 : (2 : Int) ^ 6 = 64 := rfl
  have p12 : (2 : Int) ^ 12 = 4096 := rfl
  rw [e6, p6] at f6
  rw [e12, p12] at f12
  by_cases a : n < 128
  · rw [if_pos a, if_pos a, Int.emod_eq_of_lt h0 (by omega)]
  · rw [if_neg a, if_neg a]
    by_cases b : n < 2048
    · rw [if_pos b, if_pos b, f0, or192 _ (by omega) (by omega), Int.emod_eq_of_lt (a := 192 + n / 64) (b := 256) (by omega) (by omega)]; rfl
    · rw [if_neg b, if_neg b]
      by_cases c : n < 65536
      · rw [if_pos c, if_pos c, f6, f0, or224 _ (by omega) (by omega), Int.emod_eq_of_lt (a := 224 + n / 4096) (b := 256) (by omega) (by omega)]; rfl
      · rw [if_neg c, if_neg c, f12, f6, f0, or240 _ (by omega) (by omega), Int.emod_eq_of_lt (a := 240 + n / 262144) (b := 256) (by omega) (by omega)]; rfl
theorem impl_PutSign_ev (n : Int) : Ev (fun k => impl_PutSign.f k n) (PS n) := by
  refine Ev.at1 fun k => ?_
  unfold impl_PutSign.f PS
  rw [impl_SignOk_is]
  simp only [Option.bind_some]
  have r := PSn_range n
  unfold PSn at r ⊢
  by_cases h : SgOk n = true
  · rw [if_pos h] at r ⊢; rw [if_pos h]; exact impl_PutSign_j n r.1 r.2 k
  · rw [if_neg h] at r ⊢; rw [if_neg h]; exact impl_PutSign_j _ r.1 r.2 k

theorem PSb_length (n : Int) : (PSb n).length ≤ 4 := by
  unfold PSb
  split
  · simp
  · split
    · simp
    · split <;> simp
theorem PS_size (n : Int) : (PS n).size ≤ 4 := by
  unfold PS
  rw [strOfNums_size]
  exact PSb_length _

/-- The text of some signs. -/
def ST (l : List Int) : ByteArray := joinOf (l.map PS)
theorem row_join : ∀ r : List ByteArray, rowOf r = (r.flatMap (·.data.toList)).map fun b => (b.toNat : Int)
  | [] => rfl
  | s :: r => by
    have ih := row_join r
    unfold rowOf at ih ⊢
    simp only [List.flatMap_cons, List.map_append, ih]
    rfl
theorem row_text (r : List ByteArray) : strOfNums (rowOf r) = joinOf r := by
  rw [row_join, Lib.Lz.strOfNums_map]
  rfl
theorem row_len (r : List ByteArray) : (rowOf r).length = joinLen r := by
  rw [row_join]
  simp [joinLen]
theorem join_len (l : List Int) : joinLen (l.map PS) ≤ l.length * 4 := by
  induction l with
  | nil => simp [joinLen]
  | cons n l ih =>
    unfold joinLen at ih ⊢
    simp only [List.map_cons, List.flatMap_cons, List.length_append, List.length_cons]
    have := PS_size n
    have e := data_length (PS n)
    omega
theorem ST_size (l : List Int) : (ST l).size ≤ l.length * 4 := by
  have := join_len l
  unfold ST joinOf
  have e : (⟨((l.map PS).flatMap (·.data.toList)).toArray⟩ : ByteArray).size = joinLen (l.map PS) := by
    unfold joinLen
    exact List.size_toArray
  rw [e]
  exact this
theorem spec_SignText_l (l : List Int) : Ev (fun k => spec_SignText.l0 k l) (l.map PS) := by
  induction l with
  | nil => exact Ev.yes fun _ => rfl
  | cons n l ih => exact Ev.bind (spec_PutSign_ev n) (Ev.bind ih (Ev.now _))
theorem impl_SignText_l (l : List Int) : Ev (fun k => impl_SignText.l0 k l) (l.map PS) := by
  induction l with
  | nil => exact Ev.yes fun _ => rfl
  | cons n l ih => exact Ev.bind (impl_PutSign_ev n) (Ev.bind ih (Ev.now _))
theorem spec_SignText_ev (l : List Int) (h : l.length ≤ 1000000000000) : Ev (fun k => spec_SignText.f k l) (ST l) := by
  unfold spec_SignText.f
  refine Ev.bind (spec_SignText_l l) ?_
  have := join_len l
  rw [row_len, if_pos (by omega), row_text]
  exact Ev.now _
theorem impl_SignText_ev (l : List Int) (h : l.length ≤ 1000000000000) : Ev (fun k => impl_SignText.f k l) (ST l) := by
  unfold impl_SignText.f
  refine Ev.bind (impl_SignText_l l) ?_
  have := join_len l
  rw [if_pos (by omega)]
  exact Ev.now _

/-- Numbers as bytes. -/
def u8s (l : List Int) : List UInt8 := l.map fun n => UInt8.ofNat n.toNat
theorem u8s_length (l : List Int) : (u8s l).length = l.length := List.length_map _
theorem PS_bytes (n : Int) : (PS n).data.toList = u8s (PSb (PSn n)) := rfl
theorem bt_getD (s : ByteArray) (i : Nat) : bt s (i : Int) = ((s.data.toList.getD i 0).toNat : Int) := by
  unfold bt
  rw [Int.toNat_natCast]
  by_cases h : i < s.size
  · rw [dif_pos h]
    have h2 : i < s.data.toList.length := by rw [data_length]; exact h
    rw [List.getD_eq_getElem?_getD, List.getElem?_eq_getElem h2]
    rfl
  · rw [dif_neg h]
    have h2 : s.data.toList.length ≤ i := by rw [data_length]; omega
    rw [List.getD_eq_getElem?_getD, List.getElem?_eq_none h2]
    rfl
theorem bt_in (s : ByteArray) (P R : List UInt8) (Q : List Int) (hs : s.data.toList = P ++ (u8s Q ++ R)) (j : Nat) (hj : j < Q.length) (h0 : 0 ≤ Q.getD j 0) (h1 : Q.getD j 0 < 256) : bt s ((P.length + j : Nat) : Int) = Q.getD j 0 := by
  rw [bt_getD, hs, List.getD_eq_getElem?_getD, List.getElem?_append_right (by omega), Nat.add_sub_cancel_left, List.getElem?_append_left (by rw [u8s_length]; exact hj)]
  unfold u8s
  rw [List.getElem?_map, List.getElem?_eq_getElem hj]
  have e : Q.getD j 0 = Q[j] := by rw [List.getD_eq_getElem?_getD, List.getElem?_eq_getElem hj]; rfl
  rw [e] at h0 h1 ⊢
  show ((UInt8.ofNat (Q[j]).toNat).toNat : Int) = _
  rw [UInt8.toNat_ofNat']
  omega
theorem GSat_one (s : ByteArray) (P R : List UInt8) (n : Int) (hn : SgOk n = true) (hs : s.data.toList = P ++ (u8s (PSb n) ++ R)) : GSat s P.length = (n, ((PSb n).length : Int)) := by
  have hr := SgOk_range n hn
  have hsur : ¬ (55296 ≤ n ∧ n ≤ 57343) := by
    unfold SgOk at hn
    simp only [Bool.and_eq_true, Bool.not_eq_true', decide_eq_true_eq, decide_eq_false_iff_not] at hn
    exact hn.2
  have hsz : P.length + ((PSb n).length + R.length) = s.size := by
    have := congrArg List.length hs
    rw [data_length, List.length_append, List.length_append, u8s_length] at this
    omega
  have B := bt_in s P R (PSb n) hs
  clear hs hn
  unfold PSb at B hsz ⊢
  by_cases c1 : n < 128
  · simp only [if_pos c1] at B hsz ⊢
    have b0 : bt s (P.length : Int) = n := B 0 (by simp) (by show 0 ≤ n; omega) (by show n < 256; omega)
    unfold GSat
    rw [b0, if_pos c1]
    rfl
  · simp only [if_neg c1] at B hsz ⊢
    by_cases c2 : n < 2048
    · simp only [if_pos c2] at B hsz ⊢
      have b0 : bt s (P.length : Int) = 192 + n / 64 := B 0 (by simp) (by show 0 ≤ 192 + n / 64; omega) (by show 192 + n / 64 < 256; omega)
      have b1 : bt s ((P.length + 1 : Nat) : Int) = 128 + n % 64 := B 1 (by simp) (by show 0 ≤ 128 + n % 64; omega) (by show 128 + n % 64 < 256; omega)
      simp only [List.length_cons, List.length_nil] at hsz ⊢
      clear B
      have hlo : sLo (192 + n / 64) = 128 := by unfold sLo; rw [if_neg (by omega), if_neg (by omega)]
      have hhi : sHi (192 + n / 64) = 191 := by unfold sHi; rw [if_neg (by omega), if_neg (by omega)]
      unfold GSat
      rw [b0, if_neg (by omega), if_neg (by omega), if_pos (by omega), hlo, hhi]
      unfold cont
      rw [b1, if_neg (by omega), if_neg (by omega)]
      unfold cont
      refine Prod.ext ?_ rfl
      show (192 + n / 64) % 32 * 64 + (128 + n % 64) % 64 = n
      omega
    · simp only [if_neg c2] at B hsz ⊢
      by_cases c3 : n < 65536
      · simp only [if_pos c3] at B hsz ⊢
        have b0 : bt s (P.length : Int) = 224 + n / 4096 := B 0 (by simp) (by show 0 ≤ 224 + n / 4096; omega) (by show 224 + n / 4096 < 256; omega)
        have b1 : bt s ((P.length + 1 : Nat) : Int) = 128 + n / 64 % 64 := B 1 (by simp) (by show 0 ≤ 128 + n / 64 % 64; omega) (by show 128 + n / 64 % 64 < 256; omega)
        have b2 : bt s ((P.length + 2 : Nat) : Int) = 128 + n % 64 := B 2 (by simp) (by show 0 ≤ 128 + n % 64; omega) (by show 128 + n % 64 < 256; omega)
        simp only [List.length_cons, List.length_nil] at hsz ⊢
        clear B
        have hlo : sLo (224 + n / 4096) ≤ 128 + n / 64 % 64 := by unfold sLo; split <;> (try split) <;> omega
        have hhi : 128 + n / 64 % 64 ≤ sHi (224 + n / 4096) := by unfold sHi; split <;> (try split) <;> omega
        unfold GSat
        rw [b0, if_neg (by omega), if_neg (by omega), if_neg (by omega), if_pos (by omega)]
        unfold cont
        rw [b1, if_neg (by omega), if_neg (by omega)]
        unfold cont
        rw [show P.length + (1 + 1) = P.length + 2 from rfl, b2, if_neg (by omega), if_neg (by omega)]
        unfold cont
        refine Prod.ext ?_ rfl
        show ((224 + n / 4096) % 16 * 64 + (128 + n / 64 % 64) % 64) * 64 + (128 + n % 64) % 64 = n
        omega
      · simp only [if_neg c3] at B hsz ⊢
        have b0 : bt s (P.length : Int) = 240 + n / 262144 := B 0 (by simp) (by show 0 ≤ 240 + n / 262144; omega) (by show 240 + n / 262144 < 256; omega)
        have b1 : bt s ((P.length + 1 : Nat) : Int) = 128 + n / 4096 % 64 := B 1 (by simp) (by show 0 ≤ 128 + n / 4096 % 64; omega) (by show 128 + n / 4096 % 64 < 256; omega)
        have b2 : bt s ((P.length + 2 : Nat) : Int) = 128 + n / 64 % 64 := B 2 (by simp) (by show 0 ≤ 128 + n / 64 % 64; omega) (by show 128 + n / 64 % 64 < 256; omega)
        have b3 : bt s ((P.length + 3 : Nat) : Int) = 128 + n % 64 := B 3 (by simp) (by show 0 ≤ 128 + n % 64; omega) (by show 128 + n % 64 < 256; omega)
        simp only [List.length_cons, List.length_nil] at hsz ⊢
        clear B
        have hlo : sLo (240 + n / 262144) ≤ 128 + n / 4096 % 64 := by unfold sLo; split <;> (try split) <;> omega
        have hhi : 128 + n / 4096 % 64 ≤ sHi (240 + n / 262144) := by unfold sHi; split <;> (try split) <;> omega
        unfold GSat
        rw [b0, if_neg (by omega), if_neg (by omega), if_neg (by omega), if_neg (by omega)]
        unfold cont
        rw [b1, if_neg (by omega), if_neg (by omega)]
        unfold cont
        rw [show P.length + (1 + 1) = P.length + 2 from rfl, b2, if_neg (by omega), if_neg (by omega)]
        unfold cont
        rw [show P.length + (1 + 1 + 1) = P.length + 3 from rfl, b3, if_neg (by omega), if_neg (by omega)]
        unfold cont
        refine Prod.ext ?_ rfl
        show (((240 + n / 262144) % 8 * 64 + (128 + n / 4096 % 64) % 64) * 64 + (128 + n / 64 % 64) % 64) * 64 + (128 + n % 64) % 64 = n
        omega
theorem PSn_ok (n : Int) : SgOk (PSn n) = true := by
  unfold PSn
  by_cases h : SgOk n = true
  · rw [if_pos h]; exact h
  · rw [if_neg h]; decide
theorem PSn_twice (n : Int) : PSn (PSn n) = PSn n := by
  have h := PSn_ok n
  generalize PSn n = m at h
  unfold PSn
  rw [if_pos h]
theorem PS_twice (n : Int) : PS (PSn n) = PS n := by unfold PS; rw [PSn_twice]
theorem PSb_one (n : Int) : 1 ≤ (PSb n).length := by
  unfold PSb
  split
  · simp
  · split
    · simp
    · split <;> simp
/-- The bytes of the text of some signs. -/
def stb (l : List Int) : List UInt8 := l.flatMap fun n => u8s (PSb (PSn n))
theorem ST_bytes (l : List Int) : (ST l).data.toList = stb l := by
  unfold ST joinOf stb
  show ((l.map PS).flatMap (·.data.toList)) = _
  rw [List.flatMap_map]
  rfl
theorem SGs_text (s : ByteArray) (suf : List Int) : ∀ (pre : List Int) (d : Nat), s.data.toList = stb (pre ++ suf) → s.size ≤ (stb pre).length + d → SGs s d (stb pre).length = suf.map PSn := by
  induction suf with
  | nil =>
    intro pre d hs hd
    have hz : s.size = (stb pre).length := by
      have := congrArg List.length hs
      rw [data_length, List.append_nil] at this
      exact this
    cases d with
    | zero => rfl
    | succ d => unfold SGs; rw [if_neg (by omega)]; rfl
  | cons n suf IH =>
    intro pre d hs hd
    have e1 : stb (pre ++ n :: suf) = stb pre ++ (u8s (PSb (PSn n)) ++ stb suf) := by simp [stb]
    have e2 : stb (pre ++ [n]) = stb pre ++ u8s (PSb (PSn n)) := by simp [stb]
    have g := GSat_one s (stb pre) (stb suf) (PSn n) (PSn_ok n) (by rw [hs, e1])
    have p1 := PSb_one (PSn n)
    have hz : s.size = (stb pre).length + ((PSb (PSn n)).length + (stb suf).length) := by
      have := congrArg List.length hs
      rw [data_length, e1, List.length_append, List.length_append, u8s_length] at this
      exact this
    cases d with
    | zero => omega
    | succ d =>
      unfold SGs
      have hl : (stb (pre ++ [n])).length = (stb pre).length + (PSb (PSn n)).length := by rw [e2, List.length_append, u8s_length]
      have ih := IH (pre ++ [n]) d (by rw [hs]; simp) (by omega)
      rw [if_pos (by omega), g]
      dsimp only
      rw [Int.toNat_natCast, ← hl, ih]
      rfl
theorem SG_ST (l : List Int) : SG (ST l) = l.map PSn := by
  unfold SG
  have h := SGs_text (ST l) l [] (ST l).size (ST_bytes l) (by simp [stb])
  exact h
theorem ST_again (l : List Int) : ST (l.map PSn) = ST l := by
  unfold ST
  rw [List.map_map]
  congr 1
  exact List.map_congr_left fun n _ => PS_twice n
theorem clean_again (l : List Int) : ST (SG (ST l)) = ST l := by rw [SG_ST, ST_again]

theorem and255 (v : Int) : 0 ≤ Go.bits .and .i64 v 255 ∧ Go.bits .and .i64 v 255 ≤ 255 := by
  have e : (BitVec.ofInt IntKind.i64.bits v &&& BitVec.ofInt IntKind.i64.bits 255).toNat ≤ 255 := by
    rw [BitVec.toNat_and]
    exact Nat.le_trans Nat.and_le_right (by decide)
  unfold Go.bits
  simp only
  rw [IntKind.wrap_i64]
  omega
/-- One byte that is drawn. -/
theorem l1Byte_ex (b : List Int) (i h : Int) (hi : 0 ≤ i) (hb : b.length ≤ 1000000000000000000) : ∃ x i' h', spec_l1Byte.f b i h = some (x, i', h') ∧ 0 ≤ x ∧ x ≤ 255 ∧ 0 ≤ i' := by
  unfold spec_l1Byte.f
  by_cases c : i < (b.length : Int)
  · rw [if_pos c, if_pos hi]
    refine ⟨_, _, _, rfl, (and255 _).1, (and255 _).2, ?_⟩
    rw [wrap_id _ (by omega) (by omega)]
    omega
  · rw [if_neg c]
    exact ⟨_, _, _, rfl, (and255 _).1, (and255 _).2, hi⟩
theorem l1Below_ex (b : List Int) (i h n : Int) (hi : 0 ≤ i) (hb : b.length ≤ 1000000000000000000) (h0 : 0 < n) (h1 : n ≤ 256) : ∃ x i' h', spec_l1Below.f b i h n = some (x, i', h') ∧ 0 ≤ x ∧ x < n ∧ 0 ≤ i' := by
  obtain ⟨x, i', h', e, x0, x1, e0⟩ := l1Byte_ex b i h hi hb
  unfold spec_l1Below.f
  rw [if_neg (by omega), if_pos h1, e]
  simp only [Option.bind_some]
  rw [if_neg (by omega)]
  refine ⟨_, _, _, rfl, ?_, ?_, e0⟩
  · rw [Int.tmod_eq_emod_of_nonneg x0]; exact Int.emod_nonneg _ (by omega)
  · rw [Int.tmod_eq_emod_of_nonneg x0]; exact Int.emod_lt_of_pos _ h0
theorem l1New_loop (b : List Int) (hb : b.length ≤ 1000000000000000000) (d : Nat) : ∀ (i : Nat) (h : Int), b.length ≤ i + d → i ≤ b.length → ∃ h', Ev (fun k => spec_l1New.l0 k b h (i : Int)) (b, 0, h') := by
  induction d with
  | zero =>
    intro i h hi hl
    refine ⟨h, Ev.at1 fun k => ?_⟩
    simp only [spec_l1New.l0]
    rw [if_neg (by omega)]
  | succ d ih =>
    intro i h hi hl
    by_cases c : (i : Int) < (b.length : Int)
    · by_cases c2 : (i : Int) < 4000
      · have q : (0 : Int) ≤ (i : Int) := by omega
        have hw : wrap64 ((i : Int) + 1) = ((i + 1 : Nat) : Int) := by rw [wrap_id _ (by omega) (by omega)]; omega
        obtain ⟨h', e⟩ := ih (i + 1) (Go.bits .and .i64 (wrap64 ((wrap64 ((wrap64 (h * 131)) + (wrap64 (rd b i)))) + 7)) 1073741823) (by omega) (by omega)
        refine ⟨h', Ev.step (fun k => ?_) e⟩
        simp only [spec_l1New.l0]
        rw [if_pos c, if_pos c2, if_pos q, hw]
      · refine ⟨h, Ev.at1 fun k => ?_⟩
        simp only [spec_l1New.l0]
        rw [if_pos c, if_neg c2]
    · refine ⟨h, Ev.at1 fun k => ?_⟩
      simp only [spec_l1New.l0]
      rw [if_neg c]
theorem l1New_ex (b : List Int) (hb : b.length ≤ 1000000000000000000) : ∃ h', Ev (fun k => spec_l1New.f k b) (b, 0, h') := by
  unfold spec_l1New.f
  exact l1New_loop b hb b.length 0 _ (by omega) (by omega)

theorem l1Pick_ex (b : List Int) (i h : Int) (l : List ByteArray) (hi : 0 ≤ i) (hb : b.length ≤ 1000000000000000000) (h0 : 0 < l.length) (h1 : l.length ≤ 256) : ∃ x i' h', spec_l1Pick.f b i h l = some (x, i', h') ∧ x ∈ l ∧ 0 ≤ i' := by
  obtain ⟨x, i', h', e, x0, x1, e0⟩ := l1Below_ex b i h (l.length : Int) hi hb (by omega) (by omega)
  unfold spec_l1Pick.f
  rw [e]
  simp only [Option.bind_some]
  rw [if_pos x0, if_pos x1]
  refine ⟨_, _, _, rfl, ?_, e0⟩
  unfold rdOf
  have hx : x.toNat < l.length := by omega
  rw [List.getD_eq_getElem?_getD, List.getElem?_eq_getElem hx]
  exact List.getElem_mem hx

theorem l1PickInt_ex (b : List Int) (i h : Int) (l : List Int) (hi : 0 ≤ i) (hb : b.length ≤ 1000000000000000000) (h0 : 0 < l.length) (h1 : l.length ≤ 256) : ∃ x i' h', spec_l1PickInt.f b i h l = some (x, i', h') ∧ 0 ≤ i' := by
  obtain ⟨x, i', h', e, x0, x1, e0⟩ := l1Below_ex b i h (l.length : Int) hi hb (by omega) (by omega)
  unfold spec_l1PickInt.f
  rw [e]
  simp only [Option.bind_some]
  rw [if_pos x0, if_pos x1]
  exact ⟨_, _, _, rfl, e0⟩
theorem l1Once_ex (b : List Int) (i h n : Int) (hi : 0 ≤ i) (hb : b.length ≤ 1000000000000000000) (h0 : 0 < n) (h1 : n ≤ 256) : ∃ x i' h', spec_l1Once.f b i h n = some (x, i', h') ∧ 0 ≤ i' := by
  obtain ⟨x, i', h', e, x0, x1, e0⟩ := l1Below_ex b i h n hi hb h0 h1
  unfold spec_l1Once.f
  rw [e]
  exact ⟨_, _, _, rfl, e0⟩
theorem l1DrawSign_ex (b : List Int) (i h : Int) (hi : 0 ≤ i) (hb : b.length ≤ 1000000000000000000) : ∃ x i' h', spec_l1DrawSign.f b i h = some (x, i', h') ∧ 0 ≤ i' := by
  unfold spec_l1DrawSign.f
  obtain ⟨x, i', h', e, e0⟩ := l1PickInt_ex b i h [0, 9, 13, 65, 97, 127, 128, 160, 2047, 2048, 8364, 55295, 57344, 65533, 65534, 65535, 65536, 1114111] hi hb (by decide) (by decide)
  rw [e]
  exact ⟨_, _, _, rfl, e0⟩
theorem l1DrawAny_ex (b : List Int) (i h : Int) (hi : 0 ≤ i) (hb : b.length ≤ 1000000000000000000) : ∃ x i' h', spec_l1DrawAny.f b i h = some (x, i', h') ∧ 0 ≤ i' := by
  unfold spec_l1DrawAny.f
  obtain ⟨x, i1, h1, e, e0⟩ := l1Once_ex b i h 4 hi hb (by decide) (by decide)
  rw [e]
  simp only [Option.bind_some]
  cases x
  · simp only [Bool.false_eq_true, if_false]
    obtain ⟨x, i', h', e, e1⟩ := l1DrawSign_ex b i1 h1 e0 hb
    rw [e]
    exact ⟨_, _, _, rfl, e1⟩
  · simp only [if_true]
    obtain ⟨x, i', h', e, e1⟩ := l1PickInt_ex b i1 h1 [(-1), 55296, 57343, 1114112, 9223372036854775807, (-9223372036854775808)] e0 hb (by decide) (by decide)
    rw [e]
    exact ⟨_, _, _, rfl, e1⟩
theorem drawAny_new (b : List Int) (hb : b.length ≤ 1000000000000000000) : ∃ x, Ev (fun k => (spec_l1New.f k b).bind fun p => ((spec_l1DrawAny.f p.1 p.2.1 p.2.2).bind fun q => (some q.1))) x := by
  obtain ⟨h', e⟩ := l1New_ex b hb
  obtain ⟨x, i', h2, e2, _⟩ := l1DrawAny_ex b 0 h' (by omega) hb
  refine ⟨x, Ev.bind e ?_⟩
  simp only
  rw [e2]
  exact Ev.now _
theorem drawSigns_loop (b : List Int) (hb : b.length ≤ 1000000000000000000) (d : Nat) : ∀ (i : Nat) (acc : List Int) (ib h : Int), 6 ≤ i + d → 0 ≤ ib → acc.length ≤ i → i ≤ 6 →
    ∃ l, l.length ≤ 6 ∧ Ev (fun k => spec_DrawSignText.l0 k acc (i : Int) b ib h) l := by
  induction d with
  | zero =>
    intro i acc ib h hi h0 ha h6
    obtain ⟨x, i1, h1, e, x0, x1, e0⟩ := l1Below_ex b ib h 6 h0 hb (by decide) (by decide)
    refine ⟨acc, by omega, Ev.at1 fun k => ?_⟩
    simp only [spec_DrawSignText.l0]
    rw [e]
    simp only [Option.bind_some]
    rw [if_neg (by omega)]
  | succ d IH =>
    intro i acc ib h hi h0 ha h6
    obtain ⟨x, i1, h1, e, x0, x1, e0⟩ := l1Below_ex b ib h 6 h0 hb (by decide) (by decide)
    by_cases c : (i : Int) < x
    · obtain ⟨y, i2, h2, e2, f0⟩ := l1DrawAny_ex b i1 h1 e0 hb
      obtain ⟨l, hl, el⟩ := IH (i + 1) (acc ++ [y]) i2 h2 (by omega) f0 (by simp; omega) (by omega)
      refine ⟨l, hl, Ev.step (fun k => ?_) el⟩
      simp only [spec_DrawSignText.l0]
      rw [e]
      simp only [Option.bind_some]
      rw [if_pos c, e2]
      simp only [Option.bind_some]
      have hw : wrap64 ((i : Int) + 1) = ((i + 1 : Nat) : Int) := by rw [wrap_id _ (by omega) (by omega)]; omega
      rw [if_pos (show acc.length < 17592186044416 by omega), hw]
    · refine ⟨acc, by omega, Ev.at1 fun k => ?_⟩
      simp only [spec_DrawSignText.l0]
      rw [e]
      simp only [Option.bind_some]
      rw [if_neg c]
theorem drawSignText_ex (b : List Int) (hb : b.length ≤ 1000000000000000000) : ∃ l, l.length ≤ 6 ∧ Ev (fun k => spec_DrawSignText.f k b) l := by
  obtain ⟨h', e⟩ := l1New_ex b hb
  obtain ⟨l, hl, el⟩ := drawSigns_loop b hb 6 0 [] 0 h' (by omega) (by omega) (by simp) (by omega)
  exact ⟨l, hl, Ev.bind e el⟩
def oddTexts : List ByteArray := [(⟨#[255]⟩ : ByteArray), (⟨#[192]⟩ : ByteArray), (⟨#[226]⟩ : ByteArray), (⟨#[226, 130]⟩ : ByteArray), (⟨#[240, 144]⟩ : ByteArray), (⟨#[237, 160]⟩ : ByteArray), (⟨#[128]⟩ : ByteArray), (⟨#[244, 144]⟩ : ByteArray), (⟨#[194]⟩ : ByteArray)]
theorem odd_small : ∀ w ∈ oddTexts, w.size ≤ 4 := by decide
theorem drawText_loop (b : List Int) (hb : b.length ≤ 1000000000000000000) (d : Nat) : ∀ (i : Nat) (acc : ByteArray) (ib h : Int), 6 ≤ i + d → 0 ≤ ib → acc.size ≤ 4 * i → i ≤ 6 →
    ∃ s i' h', s.size ≤ 24 ∧ 0 ≤ i' ∧ Ev (fun k => spec_l1DrawText.l0 k acc (i : Int) b ib h) (s, i', h') := by
  induction d with
  | zero =>
    intro i acc ib h hi h0 ha h6
    obtain ⟨x, i1, h1, e, x0, x1, e0⟩ := l1Below_ex b ib h 6 h0 hb (by decide) (by decide)
    refine ⟨acc, i1, h1, by omega, e0, Ev.at1 fun k => ?_⟩
    simp only [spec_l1DrawText.l0]
    rw [e]
    simp only [Option.bind_some]
    rw [if_neg (by omega)]
  | succ d IH =>
    intro i acc ib h hi h0 ha h6
    obtain ⟨x, i1, h1, e, x0, x1, e0⟩ := l1Below_ex b ib h 6 h0 hb (by decide) (by decide)
    have hw : wrap64 ((i : Int) + 1) = ((i + 1 : Nat) : Int) := by rw [wrap_id _ (by omega) (by omega)]; omega
    by_cases c : (i : Int) < x
    · obtain ⟨y, i2, h2, e2, f0⟩ := l1Once_ex b i1 h1 3 e0 hb (by decide) (by decide)
      cases y with
      | true =>
        obtain ⟨w, i3, h3, e3, hm, g0⟩ := l1Pick_ex b i2 h2 oddTexts f0 hb (by decide) (by decide)
        have hsz := odd_small w hm
        have e4 : spec_l1Pick.f b i2 h2 oddTexts = _ := e3
        unfold oddTexts at e4
        obtain ⟨s, i', h', hs, hi', el⟩ := IH (i + 1) (acc ++ w) i3 h3 (by omega) g0 (by rw [ByteArray.size_append]; omega) (by omega)
        refine ⟨s, i', h', hs, hi', Ev.step (fun k => ?_) el⟩
        simp only [spec_l1DrawText.l0]
        rw [e]
        simp only [Option.bind_some]
        rw [if_pos c, e2]
        simp only [Option.bind_some, if_true]
        rw [e4]
        simp only [Option.bind_some]
        rw [if_pos (show acc.size + w.size ≤ 9223372036854775807 by omega), hw]
      | false =>
        obtain ⟨n, i3, h3, e3, g0⟩ := l1DrawSign_ex b i2 h2 f0 hb
        have hsz := PS_size n
        obtain ⟨s, i', h', hs, hi', el⟩ := IH (i + 1) (acc ++ PS n) i3 h3 (by omega) g0 (by rw [ByteArray.size_append]; omega) (by omega)
        refine ⟨s, i', h', hs, hi', Ev.step (f := fun k => (spec_PutSign.f k n).bind fun t => (if acc.size + t.size ≤ 9223372036854775807 then (spec_l1DrawText.l0 k (acc ++ t) (wrap64 ((i : Int) + 1)) b i3 h3) else (none))) (fun k => ?_) (Ev.bind (spec_PutSign_ev n) ?_)⟩
        · simp only [spec_l1DrawText.l0]
          rw [e]
          simp only [Option.bind_some]
          rw [if_pos c, e2]
          simp only [Option.bind_some, Bool.false_eq_true, if_false]
          rw [e3]
          simp only [Option.bind_some]
        · simp only [if_pos (show acc.size + (PS n).size ≤ 9223372036854775807 by omega), hw]
          exact el
    · refine ⟨acc, i1, h1, by omega, e0, Ev.at1 fun k => ?_⟩
      simp only [spec_l1DrawText.l0]
      rw [e]
      simp only [Option.bind_some]
      rw [if_neg c]
theorem drawText_ex (b : List Int) (i h : Int) (hi : 0 ≤ i) (hb : b.length ≤ 1000000000000000000) : ∃ s i' h', s.size ≤ 24 ∧ 0 ≤ i' ∧ Ev (fun k => spec_l1DrawText.f k b i h) (s, i', h') :=
  drawText_loop b hb 6 0 (⟨#[]⟩ : ByteArray) i h (by omega) hi (by decide) (by omega)
theorem drawText_new (b : List Int) (hb : b.length ≤ 1000000000000000000) : ∃ s, s.size ≤ 24 ∧ Ev (fun k => (spec_l1New.f k b).bind fun p => ((spec_l1DrawText.f k p.1 p.2.1 p.2.2).bind fun q => (some q.1))) s := by
  obtain ⟨h', e⟩ := l1New_ex b hb
  obtain ⟨s, i', h2, hs, _, e2⟩ := drawText_ex b 0 h' (by omega) hb
  exact ⟨s, hs, Ev.bind e (Ev.bind e2 (Ev.now _))⟩
theorem drawGetSign_ex (b : List Int) (hb : b.length ≤ 1000000000000000000) : ∃ s x, s.size ≤ 24 ∧ Ev (fun k => spec_DrawGetSign.f k b) (s, x) := by
  obtain ⟨h', e⟩ := l1New_ex b hb
  obtain ⟨s, i', h2, hs, hi, e2⟩ := drawText_ex b 0 h' (by omega) hb
  obtain ⟨x, i3, h3, e3, _⟩ := l1PickInt_ex b i' h2 [0, 0, 1, 2, (s.size : Int), (-1), 9223372036854775807] hi hb (by simp) (by simp)
  refine ⟨s, x, hs, ?_⟩
  unfold spec_DrawGetSign.f
  refine Ev.bind e (Ev.bind e2 ?_)
  simp only
  rw [e3]
  exact Ev.now _
theorem sameInts_loop (suf : List Int) : ∀ (pre : List Int), (pre ++ suf).length ≤ 1000000000000 → Ev (fun k => laws_sameInts.l0 k (pre ++ suf) (pre ++ suf) ((pre.length : Nat) : Int)) true := by
  induction suf with
  | nil =>
    intro pre h
    refine Ev.at1 fun k => ?_
    simp only [laws_sameInts.l0, List.append_nil]
    rw [if_neg (by omega)]
  | cons x suf IH =>
    intro pre h
    have hl : (pre ++ x :: suf).length = pre.length + 1 + suf.length := by simp; omega
    have ih := IH (pre ++ [x]) (by simp at h ⊢; omega)
    refine Ev.step (f := fun k => laws_sameInts.l0 k (pre ++ x :: suf) (pre ++ x :: suf) ((pre.length + 1 : Nat) : Int)) (fun k => ?_) ?_
    · simp only [laws_sameInts.l0]
      rw [if_pos (by omega), if_pos (by omega), if_pos (by omega), if_pos trivial, wrap_id _ (by omega) (by omega)]
      rfl
    · have e : pre ++ [x] ++ suf = pre ++ x :: suf := by simp
      rw [e, List.length_append] at ih
      exact ih
theorem sameInts_self (l : List Int) (h : l.length ≤ 1000000000000) : Ev (fun k => laws_sameInts.f k l l) true := by
  unfold laws_sameInts.f
  simp only [if_true]
  exact sameInts_loop l [] h

theorem spec_Clean_ev (s : ByteArray) (h : s.size ≤ 1000000000000) : Ev (fun k => spec_Clean.f k s) (ST (SG s)) := by
  unfold spec_Clean.f
  have := SG_length s
  exact Ev.bind (spec_Signs_ev s h) (Ev.bind (spec_SignText_ev (SG s) (by omega)) (Ev.now _))
theorem impl_Clean_ev (s : ByteArray) (h : s.size ≤ 1000000000000) : Ev (fun k => impl_Clean.f k s) (ST (SG s)) := by
  unfold impl_Clean.f
  have := SG_length s
  exact Ev.bind (impl_Signs_ev s h) (Ev.bind (impl_SignText_ev (SG s) (by omega)) (Ev.now _))

theorem impl_GetSign_ev (s : ByteArray) (i : Int) (hs : s.size ≤ 140737488351232) : Ev (fun k => impl_GetSign.f k s i) (if 0 ≤ i ∧ i < s.size then GSat s i.toNat else (0, 0)) := by
  unfold impl_GetSign.f
  rw [wrap_id _ (by omega) (by omega), inRange_is]
  simp only [Option.bind_some]
  by_cases h : 0 ≤ i ∧ i < s.size
  · simp only [if_pos (show decide (0 ≤ i ∧ i ≤ (s.size : Int) - 1) = true from decide_eq_true (by omega))]
    rw [if_pos h]
    obtain ⟨n, rfl⟩ := Int.eq_ofNat_of_zero_le h.1
    refine Ev.bind (impl_getSign_in s n hs (by omega)) ?_
    exact Ev.now _
  · simp only [if_neg (show ¬ decide (0 ≤ i ∧ i ≤ (s.size : Int) - 1) = true by rw [decide_eq_true_eq]; omega)]
    rw [if_neg h]
    exact Ev.now _
theorem spec_GetSign_ev (s : ByteArray) (i : Int) (hs : s.size ≤ 140737488351232) : Ev (fun k => spec_GetSign.f k s i) (if 0 ≤ i ∧ i < s.size then GSat s i.toNat else (0, 0)) := by
  by_cases h : 0 ≤ i ∧ i < s.size
  · rw [if_pos h]
    obtain ⟨n, rfl⟩ := Int.eq_ofNat_of_zero_le h.1
    exact spec_GetSign_in s n hs (by omega)
  · rw [if_neg h]
    exact spec_GetSign_out s i (by omega)

theorem impl_CleanOk_ev (s : ByteArray) (h : s.size ≤ 1000000000000) : Ev (fun k => impl_CleanOk.f k s) ((ST (SG s)).toList == s.toList) := by
  unfold impl_CleanOk.f
  exact Ev.bind (impl_Clean_ev s h) (Ev.now _)
theorem spec_CleanOk_ev (s : ByteArray) (h : s.size ≤ 1000000000000) : Ev (fun k => spec_CleanOk.f k s) ((ST (SG s)).toList == s.toList) := by
  unfold spec_CleanOk.f
  exact Ev.bind (spec_Clean_ev s h) (Ev.now _)
theorem signs_end (l q : List Int) (hl : (ST l).size ≤ 1000000000000) (hq : (ST q).size ≤ 1000000000000) (y : ByteArray) (kk m : Int) (hm : 0 ≤ kk ∧ kk < y.size → 1 ≤ m) :
    Ev (fun k => (impl_CleanOk.f k (ST l)).bind fun t344 => (if t344 = true then ((impl_CleanOk.f k (ST q)).bind fun t345 => (if t345 = true then ((impl_Clean.f k (ST q)).bind fun t346 => (if t346.toList = (ST q).toList then (if kk < 0 then (some true) else (if kk ≥ (y.size : Int) then (some true) else (some (decide (m ≥ 1))))) else (some false))) else (some false))) else (some false))) true := by
  have e1 := impl_CleanOk_ev (ST l) hl
  have e2 := impl_CleanOk_ev (ST q) hq
  have e3 := impl_Clean_ev (ST q) hq
  rw [clean_again, beq_self_eq_true] at e1 e2
  rw [clean_again] at e3
  refine Ev.bind e1 ?_
  simp only [if_true]
  refine Ev.bind e2 ?_
  simp only [if_true]
  refine Ev.bind e3 ?_
  simp only [if_true]
  by_cases c1 : kk < 0
  · simp only [if_pos c1]; exact Ev.now _
  · simp only [if_neg c1]
    by_cases c2 : kk ≥ (y.size : Int)
    · simp only [if_pos c2]; exact Ev.now _
    · simp only [if_neg c2]
      rw [decide_eq_true (show m ≥ 1 from hm ⟨by omega, by omega⟩)]
      exact Ev.now _
theorem rd_map (l : List Int) (i : Nat) (h : i < l.length) : rd (l.map PSn) (i : Int) = PSn (rd l (i : Int)) := by
  unfold rd
  rw [Int.toNat_natCast, List.getD_eq_getElem?_getD, List.getD_eq_getElem?_getD, List.getElem?_map, List.getElem?_eq_getElem h]
  rfl
theorem signs_loop (l q : List Int) (hl6 : l.length ≤ 6) (hl : (ST l).size ≤ 1000000000000) (hq : (ST q).size ≤ 1000000000000) (y : ByteArray) (kk m : Int) (hm : 0 ≤ kk ∧ kk < y.size → 1 ≤ m) (d : Nat) :
    ∀ i : Nat, i + d = l.length → Ev (fun k => laws_FnSigns.l0 k l (ST l) y kk m (ST q) (l.map PSn) (i : Int)) true := by
  induction d with
  | zero =>
    intro i hi
    refine Ev.step (fun k => ?_) (signs_end l q hl hq y kk m hm)
    simp only [laws_FnSigns.l0]
    rw [if_neg (by omega)]
  | succ d IH =>
    intro i hi
    have ih := IH (i + 1) (by omega)
    refine Ev.step (fun k => ?_) ih
    have hw : wrap64 ((i : Int) + 1) = ((i + 1 : Nat) : Int) := by rw [wrap_id _ (by omega) (by omega)]; omega
    have hm2 : ((l.map PSn).length : Int) = (l.length : Int) := by rw [List.length_map]
    simp only [laws_FnSigns.l0]
    rw [if_pos (show (i : Int) < (l.length : Int) by omega), if_pos (show (0 : Int) ≤ (i : Int) by omega), rd_map l i (by omega), hm2, if_pos (show (i : Int) < (l.length : Int) by omega), hw]
    generalize rd l (i : Int) = n
    simp only [impl_SignOk_is, Option.bind_some]
    have hlt : (i : Int) < (l.length : Int) := by omega
    by_cases c : SgOk n = true
    · have e : PSn n = n := by unfold PSn; rw [if_pos c]
      simp only [if_pos c, e, if_pos hlt, if_true]
    · have e : PSn n = 65533 := by unfold PSn; rw [if_neg c]
      simp only [if_neg c, e, if_pos hlt, if_true]
theorem FnSigns : laws_FnSigns.Pure := by
  intro b _ hb _
  have hb2 : b.length ≤ 1000000000000000000 := by omega
  refine Ev.rounds (r := true) ?_
  unfold laws_FnSigns.f laws_big.f
  simp only [Option.bind_some]
  by_cases hbig : (b.length : Int) > 1048576
  · simp only [decide_eq_true hbig, if_true]; exact Ev.now _
  · simp only [decide_eq_false hbig, Bool.false_eq_true, if_false]
    obtain ⟨l, hl, el⟩ := drawSignText_ex b hb2
    obtain ⟨x, ex⟩ := drawAny_new b hb2
    obtain ⟨y, kk, hy, ey⟩ := drawGetSign_ex b hb2
    obtain ⟨t, ht, et⟩ := drawText_new b hb2
    obtain ⟨o, eo⟩ := drawAny_new b hb2
    obtain ⟨z, hz, ez⟩ := drawText_new b hb2
    obtain ⟨u, hu, eu⟩ := drawText_new b hb2
    have hsl := ST_size l
    have hst := ST_size (SG t)
    have hgt := SG_length t
    have hgu := SG_length u
    refine Ev.bind el (Ev.bind (impl_SignText_ev l (by omega)) (Ev.bind ex (Ev.bind ey (Ev.bind (impl_GetSign_ev y kk (by omega)) (Ev.bind (spec_GetSign_ev y kk (by omega)) (Ev.bind et (Ev.bind (impl_Clean_ev t (by omega)) (Ev.bind eo (Ev.bind ez (Ev.bind eu (Ev.bind (spec_SignText_ev l (by omega)) ?_)))))))))))
    simp only [if_true]
    refine Ev.bind (impl_PutSign_ev x) (Ev.bind (spec_PutSign_ev x) ?_)
    simp only [if_true]
    refine Ev.bind (spec_Clean_ev t (by omega)) ?_
    simp only [if_true, impl_SignOk_is, spec_SignOk_is, Option.bind_some, bne_self_eq_false, Bool.false_eq_true, if_false]
    refine Ev.bind (impl_CleanOk_ev z (by omega)) (Ev.bind (spec_CleanOk_ev z (by omega)) ?_)
    simp only [bne_self_eq_false, Bool.false_eq_true, if_false]
    refine Ev.bind (impl_Signs_ev u (by omega)) (Ev.bind (spec_Signs_ev u (by omega)) (Ev.bind (sameInts_self (SG u) (by omega)) ?_))
    simp only [Bool.not_true]
    have eb := impl_Signs_ev (ST l) (by omega)
    rw [SG_ST] at eb
    have hm : 0 ≤ kk ∧ kk < y.size → 1 ≤ (if 0 ≤ kk ∧ kk < y.size then GSat y kk.toNat else (0, 0)).2 := by
      intro h
      rw [if_pos h]
      exact (GSat_two y kk.toNat).1
    generalize (if 0 ≤ kk ∧ kk < y.size then GSat y kk.toNat else (0, 0)).2 = m at hm ⊢
    have lp := signs_loop l (SG t) hl (by omega) (by omega) y kk m hm l.length 0 (by omega)
    refine Ev.step (f := fun k => (impl_Signs.f k (ST l)).bind fun t341 => (if (t341.length : Int) = (l.length : Int) then (laws_FnSigns.l0 k l (ST l) y kk m (ST (SG t)) t341 0) else (some false))) (fun k => ?_) (Ev.bind eb ?_)
    · simp only [laws_FnSigns.j0, Bool.false_eq_true, if_false]
    · have hm2 : ((l.map PSn).length : Int) = (l.length : Int) := by rw [List.length_map]
      simp only [hm2, if_true]
      exact lp

end Go.Proofs.Yteafgjebaedjbaa.Pure
