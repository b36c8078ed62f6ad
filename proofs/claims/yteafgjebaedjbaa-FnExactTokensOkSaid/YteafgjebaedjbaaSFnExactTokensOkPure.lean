/- The statement of FnExactTokensOk, over the printed functions: it is true for every input within memory. -/
import Derived.Test.YteafgjebaedjbaaSFnExactTokensOkx0
import Derived.Test.YteafgjebaedjbaaSFnExactTokensOkx1
import Derived.Test.YteafgjebaedjbaaSFnExactTokensOkx2
import Derived.Test.YteafgjebaedjbaaSFnExactTokensOkx3
import Derived.Test.YteafgjebaedjbaaSFnExactTokensOkx4
import Derived.Test.YteafgjebaedjbaaSFnExactTokensOkx5
import Derived.Test.YteafgjebaedjbaaSFnExactTokensOkx6
import Derived.Test.YteafgjebaedjbaaSFnExactTokensOkx7
import Derived.Test.YteafgjebaedjbaaSFnExactTokensOkx8
import Derived.Test.YteafgjebaedjbaaSFnExactTokensOkx9
import Derived.Test.YteafgjebaedjbaaSFnExactTokensOkx10
import Derived.Test.YteafgjebaedjbaaSFnExactTokensOkx11
import Derived.Test.YteafgjebaedjbaaSFnExactTokensOkx12
import Derived.Test.YteafgjebaedjbaaSFnExactTokensOkx13
import Derived.Test.YteafgjebaedjbaaSFnExactTokensOkx14
import Derived.Test.YteafgjebaedjbaaSFnExactTokensOkx15
import Derived.Test.YteafgjebaedjbaaSFnExactTokensOkx16
import Derived.Test.YteafgjebaedjbaaSFnExactTokensOkx17
import Derived.Test.YteafgjebaedjbaaSFnExactTokensOkx18
import Derived.Lib.LazyBuf
import Derived.Lib.IndexAny
namespace Go.Proofs.Yteafgjebaedjbaa.Pure
open Go.RowKit Go.Proofs.Yteafgjebaedjbaa.PFnExactTokensOk Go.Proofs.YteafgjebaedjbaaW.PrintWords Go.Proofs.YteafgjebaedjbaaW.PrintLast
set_option linter.unusedVariables false
set_option linter.unusedSimpArgs false
theorem Ev.yes {α : Type} {g : Nat → Option α} {r : α} (h : ∀ k, g k = some r) : Ev g r := ⟨0, fun k _ => h k⟩
theorem Ev.at1 {α : Type} {g : Nat → Option α} {r : α} (h : ∀ k, g (k + 1) = some r) : Ev g r := Ev.step (f := fun _ => some r) h (Ev.now r)
theorem wrap_id (n : Int) (h0 : -9223372036854775808 ≤ n) (h1 : n ≤ 9223372036854775807) : wrap64 n = n := by unfold wrap64; omega
theorem set_mid {α : Type} (pre : List α) (x y : α) (suf : List α) : (pre ++ x :: suf).set ((pre.length : Nat) : Int).toNat y = (pre ++ [y]) ++ suf := by
 rw [Int.toNat_natCast]
 simp
theorem next_at (n : Nat) (h : n ≤ 2000000000000) : wrap64 ((n : Int) + 1) = ((n + 1 : Nat) : Int) := by
 rw [wrap_id _ (by omega) (by omega)]
 omega
def EvB (g : Nat → Option Bool) (P : Prop) : Prop := (P ∧ Ev g true) ∨ (¬ P ∧ Ev g false)
theorem EvB.iff {g : Nat → Option Bool} {P Q : Prop} (h : EvB g P) (e : P ↔ Q) : EvB g Q := by
 rcases h with ⟨p, h⟩ | ⟨p, h⟩
 ·exact .inl ⟨e.1 p, h⟩
 ·exact .inr ⟨fun q => p (e.2 q), h⟩
theorem EvB.step {g f : Nat → Option Bool} {P : Prop} (h : ∀ k, g (k + 1) = f k) (k : EvB f P) : EvB g P := by
 rcases k with ⟨p, k⟩ | ⟨p, k⟩
 ·exact .inl ⟨p, Ev.step h k⟩
 ·exact .inr ⟨p, Ev.step h k⟩
theorem EvB.now {b : Bool} {P : Prop} (h : b = true ↔ P) : EvB (fun _ => some b) P := by
 cases b with
 | true => exact .inl ⟨h.1 rfl, Ev.now _⟩
 | false => exact .inr ⟨fun p => (by simpa using h.2 p), Ev.now _⟩
theorem EvB.bind {g : Nat → Option Bool} {f : Nat → Bool → Option Bool} {P Q : Prop} (h : EvB g P) (h1 : P → EvB (fun n => f n true) Q) (h2 : ¬ P → EvB (fun n => f n false) Q) : EvB (fun n => (g n).bind (f n)) Q := by
 rcases h with ⟨p, h⟩ | ⟨p, h⟩
 ·rcases h1 p with ⟨q, k⟩ | ⟨q, k⟩
  ·exact .inl ⟨q, Ev.bind h k⟩
  ·exact .inr ⟨q, Ev.bind h k⟩
 ·rcases h2 p with ⟨q, k⟩ | ⟨q, k⟩
  ·exact .inl ⟨q, Ev.bind h k⟩
  ·exact .inr ⟨q, Ev.bind h k⟩
theorem EvB.yes {g : Nat → Option Bool} {P : Prop} (p : P) (h : Ev g true) : EvB g P := .inl ⟨p, h⟩
theorem EvB.both {g h : Nat → Option Bool} {P Q : Prop} (a : EvB g P) (b : EvB h Q) (e : P ↔ Q) : ∃ x, Ev g x ∧ Ev h x := by
 rcases a with ⟨p, a⟩ | ⟨p, a⟩ <;> rcases b with ⟨q, b⟩ | ⟨q, b⟩
 ·exact ⟨_, a, b⟩
 ·exact absurd (e.1 p) q
 ·exact absurd (e.2 q) p
 ·exact ⟨_, a, b⟩
theorem loop_go {β : Type} (F : Nat → Int → Option β) (len : Nat) (good : Nat → Prop) (r : β)
  (step : ∀ n, n < len → good n → ∀ r, Ev (fun k => F k ((n + 1 : Nat) : Int)) r → Ev (fun k => F k (n : Int)) r) (fin : Ev (fun k => F k (len : Int)) r) :
  ∀ (d s : Nat), s + d = len → (∀ n, s ≤ n → n < len → good n) → Ev (fun k => F k (s : Int)) r := by
 intro d
 induction d with
 | zero =>
  intro s hs _
  have : s = len := by omega
  subst this
  exact fin
 | succ d ih =>
  intro s hs h
  exact step s (by omega) (h s (by omega) (by omega)) r (ih (s + 1) (by omega) (fun n h1 h2 => h n (by omega) h2))
theorem loop_stop {β : Type} (F : Nat → Int → Option β) (len : Nat) (good : Nat → Prop) (bad : β)
  (step : ∀ n, n < len → good n → ∀ r, Ev (fun k => F k ((n + 1 : Nat) : Int)) r → Ev (fun k => F k (n : Int)) r) (stop : ∀ n, n < len → ¬ good n → Ev (fun k => F k (n : Int)) bad) :
  ∀ (d s : Nat), s + d = len → (¬ ∀ n, s ≤ n → n < len → good n) → Ev (fun k => F k (s : Int)) bad := by
 intro d
 induction d with
 | zero => intro s hs h; exact absurd (fun n h1 h2 => absurd h2 (by omega)) h
 | succ d ih =>
  intro s hs h
  by_cases c : good s
  ·refine step s (by omega) c bad (ih (s + 1) (by omega) (fun h2 => h (fun n h1 h3 => ?_)))
   by_cases e : n = s
   ·subst e; exact c
   ·exact h2 n (by omega) h3
  ·exact stop s (by omega) c
theorem EvB.loop (F : Nat → Int → Option Bool) (s len : Nat) (hs : s ≤ len) (good : Nat → Prop) (Q : Prop)
  (step : ∀ n, n < len → good n → ∀ r, Ev (fun k => F k ((n + 1 : Nat) : Int)) r → Ev (fun k => F k (n : Int)) r) (stop : ∀ n, n < len → ¬ good n → Ev (fun k => F k (n : Int)) false)
  (fin : (∀ n, s ≤ n → n < len → good n) → EvB (fun k => F k (len : Int)) Q) : EvB (fun k => F k (s : Int)) ((∀ n, s ≤ n → n < len → good n) ∧ Q) := by
 by_cases h : ∀ n, s ≤ n → n < len → good n
 ·rcases fin h with ⟨q, k⟩ | ⟨q, k⟩
  ·exact .inl ⟨⟨h, q⟩, loop_go F len good true step k (len - s) s (by omega) h⟩
  ·exact .inr ⟨fun x => q x.2, loop_go F len good false step k (len - s) s (by omega) h⟩
 ·exact .inr ⟨fun x => h x.1, loop_stop F len good false step stop (len - s) s (by omega) h⟩
theorem wraps63 (n : Int) (h0 : 0 ≤ n) (h1 : n < 2 ^ 63) : IntKind.i64.wrap n = n := by rw [IntKind.wrap_i64]; omega
theorem and63 (x : Int) (h0 : 0 ≤ x) (h1 : x < 9223372036854775808) : Go.bits .and .i64 x 63 = x % 64 := bits_mask .i64 63 (by decide) wraps63 6 (by decide) x h0 (by simpa using h1)
theorem or_join (i : Nat) (x y : Int) (hx0 : 0 ≤ x) (hx : x % 2 ^ i = 0) (hx1 : x < 9223372036854775808) (h0 : 0 ≤ y) (h1 : y < 2 ^ i) (h2 : y < 9223372036854775808) : Go.bits .or .i64 x y = x + y :=
 bits_join .i64 63 (by decide) wraps63 i x y hx0 hx (by simpa using hx1) h0 h1 (by simpa using h2)
theorem or128 (y : Int) (h0 : 0 ≤ y) (h1 : y < 64) : Go.bits .or .i64 128 y = 128 + y := or_join 6 128 y (by decide) (by decide) (by decide) h0 (by simpa using h1) (by omega)
theorem or192 (y : Int) (h0 : 0 ≤ y) (h1 : y < 32) : Go.bits .or .i64 192 y = 192 + y := or_join 5 192 y (by decide) (by decide) (by decide) h0 (by simpa using h1) (by omega)
theorem or224 (y : Int) (h0 : 0 ≤ y) (h1 : y < 16) : Go.bits .or .i64 224 y = 224 + y := or_join 4 224 y (by decide) (by decide) (by decide) h0 (by simpa using h1) (by omega)
theorem or240 (y : Int) (h0 : 0 ≤ y) (h1 : y < 8) : Go.bits .or .i64 240 y = 240 + y := or_join 3 240 y (by decide) (by decide) (by decide) h0 (by simpa using h1) (by omega)
theorem l1In_is (a b c : Int) : spec_l1In.f a b c = some (decide (b ≤ a ∧ a ≤ c)) := by
 unfold spec_l1In.f
 by_cases h : b ≤ a
 ·rw [if_pos h]; simp [h]
 ·rw [if_neg h]; simp [h]
theorem l1Many_is (b : Int) (h0 : 0 ≤ b) (h1 : b ≤ 255) : spec_l1Many.f b = some (if b < 128 then 1 else if b < 194 then 0 else if b < 224 then 2 else if b < 240 then 3 else if b < 245 then 4 else 0) := by
 unfold spec_l1Many.f
 simp only [l1In_is, Option.bind_some]
 by_cases a : b < 128
 ·rw [if_pos a, if_pos a]
 ·rw [if_neg a, if_neg a]
  by_cases c : b < 194
  ·rw [if_neg (by rw [decide_eq_true_eq]; omega), if_neg (by rw [decide_eq_true_eq]; omega), if_neg (by rw [decide_eq_true_eq]; omega), if_pos c]
  ·rw [if_neg c]
   by_cases d : b < 224
   ·rw [if_pos (decide_eq_true (by omega)), if_pos d]
   ·rw [if_neg (by rw [decide_eq_true_eq]; omega), if_neg d]
    by_cases e : b < 240
    ·rw [if_pos (decide_eq_true (by omega)), if_pos e]
    ·rw [if_neg (by rw [decide_eq_true_eq]; omega), if_neg e]
     by_cases f : b < 245
     ·rw [if_pos (decide_eq_true (by omega)), if_pos f]
     ·rw [if_neg (by rw [decide_eq_true_eq]; omega), if_neg f]
def sLo (b : Int) : Int := if b = 224 then 160 else if b = 240 then 144 else 128
def sHi (b : Int) : Int := if b = 237 then 159 else if b = 244 then 143 else 191
theorem l1Second_is (a b : Int) : spec_l1Second.f a b = some (decide (sLo a ≤ b ∧ b ≤ sHi a)) := by
 unfold spec_l1Second.f sLo sHi
 simp only [l1In_is, Option.bind_some]
 by_cases h1 : a = 224
 ·subst h1; rfl
 ·rw [if_neg h1, if_neg h1]
  by_cases h2 : a = 237
  ·subst h2; rfl
  ·rw [if_neg h2, if_neg h2]
   by_cases h3 : a = 240
   ·subst h3; rfl
   ·rw [if_neg h3, if_neg h3]
    by_cases h4 : a = 244
    ·subst h4; rfl
    ·rw [if_neg h4, if_neg h4]
def cont (s : ByteArray) (i : Nat) : Nat → Nat → Int → Int → Int → Int × Int
 | 0, j, acc, _, _ => (acc, j)
 | d + 1, j, acc, lo, hi => if s.size ≤ i + j then (65533, j) else if bt s ((i + j : Nat) : Int) < lo ∨ hi < bt s ((i + j : Nat) : Int) then (65533, j) else cont s i d (j + 1) (acc * 64 + bt s ((i + j : Nat) : Int) % 64) 128 191
def GSat (s : ByteArray) (i : Nat) : Int × Int :=
 if bt s i < 128 then (bt s i, 1) else if bt s i < 194 ∨ 244 < bt s i then (65533, 1)
 else if bt s i < 224 then cont s i 1 1 (bt s i % 32) (sLo (bt s i)) (sHi (bt s i))
 else if bt s i < 240 then cont s i 2 1 (bt s i % 16) (sLo (bt s i)) (sHi (bt s i))
 else cont s i 3 1 (bt s i % 8) (sLo (bt s i)) (sHi (bt s i))
theorem cont_two (s : ByteArray) (i : Nat) : ∀ (d j : Nat) (acc lo hi : Int), 1 ≤ j → 1 ≤ (cont s i d j acc lo hi).2 ∧ (cont s i d j acc lo hi).2 ≤ j + d
 | 0, j, acc, lo, hi, h => by unfold cont; simp; omega
 | d + 1, j, acc, lo, hi, h => by
  have ih := cont_two s i d (j + 1) (acc * 64 + bt s ((i + j : Nat) : Int) % 64) 128 191 (by omega)
  unfold cont
  split
  ·simp; omega
  ·split
   ·simp; omega
   ·omega
theorem GSat_two (s : ByteArray) (i : Nat) : 1 ≤ (GSat s i).2 ∧ (GSat s i).2 ≤ 4 := by
 unfold GSat
 have h1 := cont_two s i 1 1 (bt s i % 32) (sLo (bt s i)) (sHi (bt s i)) (by omega)
 have h2 := cont_two s i 2 1 (bt s i % 16) (sLo (bt s i)) (sHi (bt s i)) (by omega)
 have h3 := cont_two s i 3 1 (bt s i % 8) (sLo (bt s i)) (sHi (bt s i)) (by omega)
 split
 ·simp
 ·split
  ·simp
  ·split
   ·omega
   ·split <;> omega
theorem bt_wrap (s : ByteArray) (i : Int) : wrap64 (bt s i) = bt s i := by have := bt_range s i; exact wrap_id _ (by omega) (by omega)
theorem sLo_in (a : Int) : 128 ≤ sLo a := by unfold sLo; split <;> (try split) <;> omega
theorem sHi_in (a : Int) : sHi a ≤ 191 := by unfold sHi; split <;> (try split) <;> omega
theorem spec_over (s : ByteArray) (i x6 x7 x8 x9 : Int) (k : Nat) (h9 : x9 < x7) (hp : (s.size : Int) ≤ wrap64 (i + x9)) : spec_GetSign.l0 (k + 1) s i x6 x7 x8 x9 = some (65533, x9) := by
 simp only [spec_GetSign.l0]
 rw [if_pos h9, if_pos hp]
theorem spec_one (s : ByteArray) (i x6 x7 x8 p b : Int) (k : Nat) (h9 : 1 < x7) (hp : wrap64 (i + 1) = p) (h0 : 0 ≤ p) (h1 : p < s.size) (hb : bt s p = b) (hw : wrap64 b = b) (ha : Go.bits .and .i64 b 63 = b % 64) :
  spec_GetSign.l0 (k + 1) s i x6 x7 x8 1 = if (sLo x6 ≤ b ∧ b ≤ sHi x6) then (if 128 ≤ b ∧ b ≤ 191 then spec_GetSign.l0 k s i x6 x7 (wrap64 (wrap64 (x8 * 64) + b % 64)) (wrap64 (1 + 1)) else some (65533, 1)) else some (65533, 1) := by
 have n1 : ¬ p ≥ (s.size : Int) := by omega
 simp only [spec_GetSign.l0]
 rw [if_pos h9, hp, if_neg n1, if_pos trivial, if_pos h0, if_pos h1, l1Second_is, l1In_is, hb, hw, ha]
 simp only [Option.bind_some, decide_eq_true_eq, if_pos h0, if_pos h1]
theorem spec_more (s : ByteArray) (i x6 x7 x8 x9 p b : Int) (k : Nat) (h9 : x9 < x7) (hn : ¬ x9 = 1) (hp : wrap64 (i + x9) = p) (h0 : 0 ≤ p) (h1 : p < s.size) (hb : bt s p = b) (hw : wrap64 b = b) (ha : Go.bits .and .i64 b 63 = b % 64) :
  spec_GetSign.l0 (k + 1) s i x6 x7 x8 x9 = if 128 ≤ b ∧ b ≤ 191 then spec_GetSign.l0 k s i x6 x7 (wrap64 (wrap64 (x8 * 64) + b % 64)) (wrap64 (x9 + 1)) else some (65533, x9) := by
 have n1 : ¬ p ≥ (s.size : Int) := by omega
 simp only [spec_GetSign.l0]
 rw [if_pos h9, hp, if_neg n1, if_neg hn, if_pos h0, if_pos h1, l1In_is, hb, hw, ha]
 simp only [Option.bind_some, decide_eq_true_eq]
theorem spec_cont (s : ByteArray) (i : Nat) (hs : s.size ≤ 140737488351232) (hi : i < s.size) (a : Int) : ∀ (d j : Nat) (acc : Int), 1 ≤ j → j + d ≤ 4 → 0 ≤ acc → acc < 64 ^ j →
  Ev (fun k => spec_GetSign.l0 k s i a ((j + d : Nat) : Int) acc (j : Int)) (cont s i d j acc (if j = 1 then sLo a else 128) (if j = 1 then sHi a else 191)) := by
 intro d
 induction d with
 | zero =>
  intro j acc h1 h4 h0 hb
  refine Ev.at1 fun k => ?_
  simp only [spec_GetSign.l0]
  rw [if_neg (by omega)]
  rfl
 | succ d ih =>
  intro j acc h1 h4 h0 hb
  have hp : (64 : Int) ^ j ≤ 262144 := by
   have : j = 1 ∨ j = 2 ∨ j = 3 := by omega
   rcases this with rfl | rfl | rfl <;> decide
  have hp2 : (64 : Int) ^ (j + 1) = 64 ^ j * 64 := Int.pow_succ 64 j
  have h9 : (j : Int) < ((j + (d + 1) : Nat) : Int) := by omega
  have IH := ih (j + 1)
  rw [if_neg (by omega), if_neg (by omega), show j + 1 + d = j + (d + 1) by omega] at IH
  clear ih
  have pw : ((i + j : Nat) : Int) = (i : Int) + j := by omega
  have pj : ((j + 1 : Nat) : Int) = (j : Int) + 1 := by omega
  have lw : -9223372036854775808 ≤ (i : Int) + j ∧ (i : Int) + j ≤ 9223372036854775807 := by omega
  have lj : -9223372036854775808 ≤ (j : Int) + 1 ∧ (j : Int) + 1 ≤ 9223372036854775807 := by omega
  have hw : wrap64 ((i : Int) + (j : Int)) = ((i + j : Nat) : Int) := by rw [wrap_id _ lw.1 lw.2, pw]
  have hj : wrap64 ((j : Int) + 1) = ((j + 1 : Nat) : Int) := by rw [wrap_id _ lj.1 lj.2, pj]
  unfold cont
  by_cases hz : s.size ≤ i + j
  ·rw [if_pos hz]
   have z1 : (s.size : Int) ≤ ((i + j : Nat) : Int) := by omega
   exact Ev.at1 fun k => spec_over s i a _ acc j k h9 (by rw [hw]; exact z1)
  ·rw [if_neg hz]
   have q1 : (0 : Int) ≤ ((i + j : Nat) : Int) := by clear hw hj; omega
   have q2 : ((i + j : Nat) : Int) < s.size := by clear hw hj; omega
   have br := bt_range s ((i + j : Nat) : Int)
   have bw := bt_wrap s ((i + j : Nat) : Int)
   have hl := sLo_in a
   have hh := sHi_in a
   generalize hb' : bt s ((i + j : Nat) : Int) = b at br bw ⊢
   have ha : Go.bits .and .i64 b 63 = b % 64 := and63 _ br.1 (by clear hw hj bw; omega)
   have nx : 0 ≤ acc * 64 + b % 64 ∧ acc * 64 + b % 64 < 64 ^ (j + 1) := by clear hw hj bw ha; omega
   have hacc : wrap64 (wrap64 (acc * 64) + b % 64) = acc * 64 + b % 64 := by rw [wrap_id (acc * 64) (by clear hw hj bw ha; omega) (by clear hw hj bw ha; omega), wrap_id _ (by clear hw hj bw ha; omega) (by clear hw hj bw ha; omega)]
   by_cases hj1 : j = 1
   ·subst hj1
    rw [if_pos rfl, if_pos rfl]
    have c1 : ((1 : Nat) : Int) = 1 := rfl
    rw [c1] at hw h9 hj ⊢
    have st : ∀ k, spec_GetSign.l0 (k + 1) s i a ((1 + (d + 1) : Nat) : Int) acc 1 = _ := fun k => spec_one s i a ((1 + (d + 1) : Nat) : Int) acc ((i + 1 : Nat) : Int) b k h9 hw q1 q2 hb' bw ha
    by_cases hc : b < sLo a ∨ sHi a < b
    ·rw [if_pos hc]
     refine Ev.at1 fun k => ?_
     rw [st, if_neg (by clear hw hj bw ha hacc st; omega)]
    ·rw [if_neg hc]
     refine Ev.step (fun k => ?_) (IH (acc * 64 + b % 64) (by clear hw hj bw ha hacc st; omega) (by clear hw hj bw ha hacc st; omega) nx.1 nx.2)
     rw [st, if_pos (by clear hw hj bw ha hacc st; omega), if_pos (by clear hw hj bw ha hacc st; omega), hacc, hj]
   ·rw [if_neg hj1, if_neg hj1]
    have nj : ¬ (j : Int) = 1 := by clear hw hj bw ha hacc; omega
    have st : ∀ k, spec_GetSign.l0 (k + 1) s i a ((j + (d + 1) : Nat) : Int) acc (j : Int) = _ := fun k => spec_more s i a ((j + (d + 1) : Nat) : Int) acc j ((i + j : Nat) : Int) b k h9 nj hw q1 q2 hb' bw ha
    by_cases hc : b < 128 ∨ 191 < b
    ·rw [if_pos hc]
     refine Ev.at1 fun k => ?_
     rw [st, if_neg (by clear hw hj bw ha hacc st; omega)]
    ·rw [if_neg hc]
     refine Ev.step (fun k => ?_) (IH (acc * 64 + b % 64) (by clear hw hj bw ha hacc st; omega) (by clear hw hj bw ha hacc st; omega) nx.1 nx.2)
     rw [st, if_pos (by clear hw hj bw ha hacc st; omega), hacc, hj]
theorem lead_mask (b : Int) (h0 : 0 ≤ b) (h1 : b ≤ 255) (m : Nat) (hm : m ≤ 7) : Go.bits .and .i64 b (2 ^ m - 1) = b % 2 ^ m := bits_mask .i64 63 (by decide) wraps63 m (by omega) b h0 (by omega)
theorem spec_GetSign_in (s : ByteArray) (i : Nat) (hs : s.size ≤ 140737488351232) (hi : i < s.size) : Ev (fun k => spec_GetSign.f k s i) (GSat s i) := by
 have br := bt_range s i
 have b1 : (i : Int) < s.size := by omega
 have f : ∀ k, spec_GetSign.f k s i = spec_GetSign.j0 k s i false := fun k => by
  unfold spec_GetSign.f
  rw [if_neg (by omega), decide_eq_false (by omega)]
 refine Ev.congr f ?_
 have go : ∀ (m : Int) (r : Int × Int), spec_l1Many.f (bt s i) = some m → Ev (fun k => if m < 2 then (if m = 1 then (some (wrap64 (bt s i), 1)) else (some (65533, 1))) else (if 0 ≤ m then (spec_GetSign.l0 k s i (wrap64 (bt s i)) m (Go.bits .and .i64 (wrap64 (bt s i)) (shr .i64 127 m)) 1) else (none))) r → Ev (fun k => spec_GetSign.j0 k s i false) r := by
  intro m r hm he
  refine Ev.step ?_ he
  intro k
  simp only [spec_GetSign.j0]
  rw [if_neg (by decide), if_pos (by omega), if_pos b1, bt_wrap, hm]
  rfl
 refine go _ _ (l1Many_is _ br.1 br.2) ?_
 rw [bt_wrap]
 unfold GSat
 by_cases a : bt s i < 128
 ·simp only [if_pos a]
  exact Ev.yes fun k => by rw [if_pos (by omega), if_pos trivial]
 ·simp only [if_neg a]
  by_cases c : bt s i < 194
  ·simp only [if_pos c, if_pos (show bt s i < 194 ∨ 244 < bt s i from .inl c)]
   exact Ev.yes fun k => by rw [if_pos (by omega), if_neg (by omega)]
  ·by_cases z : 244 < bt s i
   ·simp only [if_neg c, if_neg (show ¬ bt s i < 224 by omega), if_neg (show ¬ bt s i < 240 by omega), if_neg (show ¬ bt s i < 245 by omega), if_pos (show bt s i < 194 ∨ 244 < bt s i from .inr z)]
    exact Ev.yes fun k => by rw [if_pos (by omega), if_neg (by omega)]
   ·simp only [if_neg c, if_neg (show ¬ (bt s i < 194 ∨ 244 < bt s i) by omega)]
    have s1 : shr .i64 127 2 = 2 ^ 5 - 1 := by decide
    have s2 : shr .i64 127 3 = 2 ^ 4 - 1 := by decide
    have s3 : shr .i64 127 4 = 2 ^ 3 - 1 := by decide
    have p5 : (2 : Int) ^ 5 = 32 := rfl
    have p4 : (2 : Int) ^ 4 = 16 := rfl
    have p3 : (2 : Int) ^ 3 = 8 := rfl
    by_cases d : bt s i < 224
    ·simp only [if_pos d]
     have m := lead_mask _ br.1 br.2 5 (by omega)
     have := spec_cont s i hs hi (bt s i) 1 1 (bt s i % 32) (by omega) (by omega) (by omega) (by omega)
     refine Ev.congr (fun k => ?_) this
     rw [if_neg (by omega), if_pos (by omega), s1, m, p5]
     rfl
    ·simp only [if_neg d]
     by_cases e : bt s i < 240
     ·simp only [if_pos e]
      have m := lead_mask _ br.1 br.2 4 (by omega)
      have := spec_cont s i hs hi (bt s i) 2 1 (bt s i % 16) (by omega) (by omega) (by omega) (by omega)
      refine Ev.congr (fun k => ?_) this
      rw [if_neg (by omega), if_pos (by omega), s2, m, p4]
      rfl
     ·simp only [if_neg e, if_pos (show bt s i < 245 by omega)]
      have m := lead_mask _ br.1 br.2 3 (by omega)
      have := spec_cont s i hs hi (bt s i) 3 1 (bt s i % 8) (by omega) (by omega) (by omega) (by omega)
      refine Ev.congr (fun k => ?_) this
      rw [if_neg (by omega), if_pos (by omega), s3, m, p3]
      rfl
def bgn (b : Int) : Int × Int × Int × Int :=
 if b < 128 then (0, b, 0, 0) else if b < 194 ∨ 244 < b then (-1, 0, 0, 0)
 else if b < 224 then (1, b % 32, sLo b, sHi b) else if b < 240 then (2, b % 16, sLo b, sHi b) else (3, b % 8, sLo b, sHi b)
theorem impl_beginning_is (b : Int) (h0 : 0 ≤ b) (h1 : b ≤ 255) (k : Nat) : impl_beginning.f (k + 1) b = some (bgn b) := by
 unfold impl_beginning.f bgn
 have m31 := u8_and31 b h0 (by omega)
 have m15 := u8_and15 b h0 (by omega)
 have m7 := u8_and7 b h0 (by omega)
 by_cases a : b < 128
 ·rw [if_pos a, if_pos a, wrap_id b (by omega) (by omega)]
 ·rw [if_neg a, if_neg a]
  by_cases c : b < 194
  ·rw [if_pos c, if_pos (.inl c)]; simp only [impl_beginning.j0]; rw [if_pos trivial]
  ·rw [if_neg c]
   by_cases z : 244 < b
   ·rw [decide_eq_true z, if_pos (.inr z)]; simp only [impl_beginning.j0]; rw [if_pos trivial]
   ·rw [decide_eq_false z, if_neg (by omega)]
    simp only [impl_beginning.j0]
    rw [if_neg (by decide), m31, m15, m7, wrap_id (b % 32) (by omega) (by omega), wrap_id (b % 16) (by omega) (by omega), wrap_id (b % 8) (by omega) (by omega)]
    unfold sLo sHi
    by_cases d : b < 224
    ·rw [if_pos d, if_pos d, if_neg (show ¬ b = 224 by omega), if_neg (show ¬ b = 240 by omega), if_neg (show ¬ b = 237 by omega), if_neg (show ¬ b = 244 by omega)]
    ·rw [if_neg d, if_neg d]
     by_cases e1 : b = 224
     ·subst e1; rfl
     ·rw [if_neg e1]
      by_cases e2 : b = 237
      ·subst e2; rfl
      ·rw [if_neg e2]
       by_cases e : b < 240
       ·rw [if_pos e, if_pos e, if_neg e1, if_neg (show ¬ b = 240 by omega), if_neg e2, if_neg (show ¬ b = 244 by omega)]
       ·rw [if_neg e, if_neg e]
        by_cases e3 : b = 240
        ·subst e3; rfl
        ·rw [if_neg e3]
         by_cases e4 : b = 244
         ·subst e4; rfl
         ·rw [if_neg e4, if_neg e1, if_neg e3, if_neg e2, if_neg e4]
theorem impl_over (s : ByteArray) (i x6 x7 x8 x9 x10 : Int) (k : Nat) (h9 : x10 ≤ x6) (hp : (s.size : Int) ≤ wrap64 (i + x10)) : impl_getSign.l0 (k + 1) s i x6 x7 x8 x9 x10 = some (65533, x10) := by
 simp only [impl_getSign.l0]
 rw [if_pos h9, if_pos hp]
theorem impl_step (s : ByteArray) (i x6 x7 x8 x9 x10 p b : Int) (k : Nat) (h9 : x10 ≤ x6) (hp : wrap64 (i + x10) = p) (h0 : 0 ≤ p) (h1 : p < s.size) (hb : bt s p = b) (ha : Go.bits .and .u8 b 63 = b % 64) :
  impl_getSign.l0 (k + 1) s i x6 x7 x8 x9 x10 = if b < x8 ∨ b > x9 then some (65533, x10) else impl_getSign.l0 k s i x6 (Go.bits .or .i64 (wrap64 (x7 * 64)) (wrap64 (b % 64))) 128 191 (wrap64 (x10 + 1)) := by
 have n1 : ¬ p ≥ (s.size : Int) := by omega
 simp only [impl_getSign.l0]
 rw [if_pos h9, hp, if_neg n1, if_pos h0, if_pos h1, hb, ha]
 by_cases c : b < x8
 ·rw [if_pos c, if_pos (.inl c)]
 ·rw [if_neg c]
  by_cases c2 : b > x9
  ·rw [if_pos c2, if_pos (.inr c2)]
  ·rw [if_neg c2, if_neg (by omega)]
theorem impl_cont (s : ByteArray) (i : Nat) (hs : s.size ≤ 140737488351232) (hi : i < s.size) : ∀ (d j : Nat) (acc lo hi : Int), 1 ≤ j → j + d ≤ 4 → 0 ≤ acc → acc < 64 ^ j →
  Ev (fun k => impl_getSign.l0 k s i (((j + d : Nat) : Int) - 1) acc lo hi (j : Int)) (cont s i d j acc lo hi) := by
 intro d
 induction d with
 | zero =>
  intro j acc lo hi' h1 h4 h0 hb
  refine Ev.at1 fun k => ?_
  simp only [impl_getSign.l0]
  rw [if_neg (by omega), wrap_id _ (by omega) (by omega)]
  unfold cont
  congr 2
  omega
 | succ d ih =>
  intro j acc lo hi' h1 h4 h0 hb
  have hp : (64 : Int) ^ j ≤ 262144 := by
   have : j = 1 ∨ j = 2 ∨ j = 3 := by omega
   rcases this with rfl | rfl | rfl <;> decide
  have hp2 : (64 : Int) ^ (j + 1) = 64 ^ j * 64 := Int.pow_succ 64 j
  have h9 : (j : Int) ≤ ((j + (d + 1) : Nat) : Int) - 1 := by omega
  have IH := ih (j + 1)
  rw [show j + 1 + d = j + (d + 1) by omega] at IH
  clear ih
  have pw : ((i + j : Nat) : Int) = (i : Int) + j := by omega
  have pj : ((j + 1 : Nat) : Int) = (j : Int) + 1 := by omega
  have lw : -9223372036854775808 ≤ (i : Int) + j ∧ (i : Int) + j ≤ 9223372036854775807 := by omega
  have lj : -9223372036854775808 ≤ (j : Int) + 1 ∧ (j : Int) + 1 ≤ 9223372036854775807 := by omega
  have hw : wrap64 ((i : Int) + (j : Int)) = ((i + j : Nat) : Int) := by rw [wrap_id _ lw.1 lw.2, pw]
  have hj : wrap64 ((j : Int) + 1) = ((j + 1 : Nat) : Int) := by rw [wrap_id _ lj.1 lj.2, pj]
  unfold cont
  by_cases hz : s.size ≤ i + j
  ·rw [if_pos hz]
   have z1 : (s.size : Int) ≤ ((i + j : Nat) : Int) := by omega
   exact Ev.at1 fun k => impl_over s i _ acc lo hi' j k h9 (by rw [hw]; exact z1)
  ·rw [if_neg hz]
   have q1 : (0 : Int) ≤ ((i + j : Nat) : Int) := by clear hw hj; omega
   have q2 : ((i + j : Nat) : Int) < s.size := by clear hw hj; omega
   have br := bt_range s ((i + j : Nat) : Int)
   generalize hb' : bt s ((i + j : Nat) : Int) = b at br ⊢
   have nx : 0 ≤ acc * 64 + b % 64 ∧ acc * 64 + b % 64 < 64 ^ (j + 1) := by clear hw hj; omega
   have ha := u8_and63 b br.1 (by clear hw hj; omega)
   have hacc : Go.bits .or .i64 (wrap64 (acc * 64)) (wrap64 (b % 64)) = acc * 64 + b % 64 := by
    clear hw hj ha
    rw [wrap_id (acc * 64) (by omega) (by omega), wrap_id (b % 64) (by omega) (by omega)]
    exact or_join 6 (acc * 64) (b % 64) (by omega) (by omega) (by omega) (by omega) (by omega) (by omega)
   have st : ∀ k, impl_getSign.l0 (k + 1) s i (((j + (d + 1) : Nat) : Int) - 1) acc lo hi' (j : Int) = _ := fun k => impl_step s i (((j + (d + 1) : Nat) : Int) - 1) acc lo hi' j ((i + j : Nat) : Int) b k h9 hw q1 q2 hb' ha
   by_cases hc : b < lo ∨ hi' < b
   ·rw [if_pos hc]
    refine Ev.at1 fun k => ?_
    rw [st, if_pos (by clear hw hj ha hacc st; omega)]
   ·rw [if_neg hc]
    refine Ev.step (fun k => ?_) (IH (acc * 64 + b % 64) 128 191 (by clear hw hj ha hacc st; omega) (by clear hw hj ha hacc st; omega) nx.1 nx.2)
    rw [st, if_neg (by clear hw hj ha hacc st; omega), hacc, hj]
theorem impl_getSign_in (s : ByteArray) (i : Nat) (hs : s.size ≤ 140737488351232) (hi : i < s.size) : Ev (fun k => impl_getSign.f k s i) (GSat s i) := by
 have br := bt_range s i
 unfold impl_getSign.f
 simp only [if_pos (show (0 : Int) ≤ i by omega), if_pos (show (i : Int) < s.size by omega)]
 refine Ev.bind (a := bgn (bt s i)) (Ev.at1 fun k => impl_beginning_is _ br.1 br.2 k) ?_
 unfold bgn GSat
 by_cases a : bt s i < 128
 ·simp only [if_pos a, if_neg (show ¬ (0 : Int) < 0 by decide)]
  refine Ev.at1 fun k => ?_
  simp only [impl_getSign.l0]
  rw [if_neg (by omega), wrap_id _ (by omega) (by omega)]
  rfl
 ·simp only [if_neg a]
  by_cases c : bt s i < 194 ∨ 244 < bt s i
  ·simp only [if_pos c, if_pos (show (-1 : Int) < 0 by decide)]
   exact Ev.now _
  ·simp only [if_neg c]
   by_cases d : bt s i < 224
   ·simp only [if_pos d]
    exact impl_cont s i hs hi 1 1 (bt s i % 32) _ _ (by omega) (by omega) (by omega) (by omega)
   ·simp only [if_neg d]
    by_cases e : bt s i < 240
    ·simp only [if_pos e]
     exact impl_cont s i hs hi 2 1 (bt s i % 16) _ _ (by omega) (by omega) (by omega) (by omega)
    ·simp only [if_neg e]
     exact impl_cont s i hs hi 3 1 (bt s i % 8) _ _ (by omega) (by omega) (by omega) (by omega)
def SGs (s : ByteArray) : Nat → Nat → List Int
 | 0, _ => []
 | d + 1, i => if i < s.size then (GSat s i).1 :: SGs s d (i + (GSat s i).2.toNat) else []
def SG (s : ByteArray) : List Int := SGs s s.size 0
theorem SGs_length (s : ByteArray) : ∀ (d i : Nat), (SGs s d i).length ≤ s.size - i
 | 0, _ => by simp [SGs]
 | d + 1, i => by
  have h2 := GSat_two s i
  have ih := SGs_length s d (i + (GSat s i).2.toNat)
  unfold SGs
  split
  ·simp; omega
  ·simp
theorem SG_length (s : ByteArray) : (SG s).length ≤ s.size := SGs_length s s.size 0
theorem signs_wrap (s : ByteArray) (i : Nat) (hs : s.size ≤ 140737488351232) (hi : i < s.size) : wrap64 ((i : Int) + (GSat s i).2) = ((i + (GSat s i).2.toNat : Nat) : Int) := by
 have h2 := GSat_two s i
 rw [wrap_id _ (by omega) (by omega)]
 omega
theorem spec_Signs_loop (s : ByteArray) (hs : s.size ≤ 1000000000000) : ∀ (d i : Nat) (acc : List Int), s.size ≤ i + d → acc.length ≤ i → i ≤ 1000000000010 →
  Ev (fun k => spec_Signs.l0 k s acc (i : Int)) (acc ++ SGs s d i)
 | 0, i, acc, h, ha, hb => by
  refine Ev.at1 fun k => ?_
  simp only [spec_Signs.l0]
  rw [if_neg (by omega)]
  simp [SGs]
 | d + 1, i, acc, h, ha, hb => by
  unfold SGs
  by_cases hi : i < s.size
  ·rw [if_pos hi]
   have h2 := GSat_two s i
   have ih := spec_Signs_loop s hs d (i + (GSat s i).2.toNat) (acc ++ [(GSat s i).1]) (by omega) (by simp; omega) (by omega)
   have hw := signs_wrap s i (by omega) hi
   refine Ev.step (f := fun k => (spec_GetSign.f k s i).bind fun b => (if acc.length < 17592186044416 then (spec_Signs.l0 k s (acc ++ [b.1]) (wrap64 ((i : Int) + b.2))) else (none))) (fun k => ?_) (Ev.bind (spec_GetSign_in s i (by omega) hi) ?_)
   ·simp only [spec_Signs.l0]
    rw [if_pos (by omega)]
   ·simp only [if_pos (show acc.length < 17592186044416 by omega)]
    rw [hw]
    have e : acc ++ (GSat s i).1 :: SGs s d (i + (GSat s i).2.toNat) = acc ++ [(GSat s i).1] ++ SGs s d (i + (GSat s i).2.toNat) := by simp
    rw [e]
    exact ih
  ·rw [if_neg hi]
   refine Ev.at1 fun k => ?_
   simp only [spec_Signs.l0]
   rw [if_neg (by omega)]
   simp
theorem spec_Signs_ev (s : ByteArray) (hs : s.size ≤ 1000000000000) : Ev (fun k => spec_Signs.f k s) (SG s) := by
 have := spec_Signs_loop s hs s.size 0 [] (by omega) (by simp) (by omega)
 simpa [spec_Signs.f, SG] using this
theorem impl_Signs_loop (s : ByteArray) (hs : s.size ≤ 1000000000000) : ∀ (d i : Nat) (acc : List Int), s.size ≤ i + d → acc.length ≤ i → i ≤ 1000000000010 →
  Ev (fun k => impl_Signs.l0 k s acc (i : Int)) (acc ++ SGs s d i)
 | 0, i, acc, h, ha, hb => by
  refine Ev.at1 fun k => ?_
  simp only [impl_Signs.l0]
  rw [if_neg (by omega)]
  simp [SGs]
 | d + 1, i, acc, h, ha, hb => by
  unfold SGs
  by_cases hi : i < s.size
  ·rw [if_pos hi]
   have h2 := GSat_two s i
   have ih := impl_Signs_loop s hs d (i + (GSat s i).2.toNat) (acc ++ [(GSat s i).1]) (by omega) (by simp; omega) (by omega)
   have hw := signs_wrap s i (by omega) hi
   refine Ev.step (f := fun k => (impl_getSign.f k s i).bind fun b => (if acc.length < 17592186044416 then (impl_Signs.l0 k s (acc ++ [b.1]) (wrap64 ((i : Int) + b.2))) else (none))) (fun k => ?_) (Ev.bind (impl_getSign_in s i (by omega) hi) ?_)
   ·simp only [impl_Signs.l0]
    rw [if_pos (by omega)]
   ·simp only [if_pos (show acc.length < 17592186044416 by omega)]
    rw [hw]
    have e : acc ++ (GSat s i).1 :: SGs s d (i + (GSat s i).2.toNat) = acc ++ [(GSat s i).1] ++ SGs s d (i + (GSat s i).2.toNat) := by simp
    rw [e]
    exact ih
  ·rw [if_neg hi]
   refine Ev.at1 fun k => ?_
   simp only [impl_Signs.l0]
   rw [if_neg (by omega)]
   simp
theorem impl_Signs_ev (s : ByteArray) (hs : s.size ≤ 1000000000000) : Ev (fun k => impl_Signs.f k s) (SG s) := by
 have := impl_Signs_loop s hs s.size 0 [] (by omega) (by simp) (by omega)
 simpa [impl_Signs.f, SG] using this
theorem inRange_is (a b c : Int) : impl_inRange.f a b c = some (decide (b ≤ a ∧ a ≤ c)) := by
 unfold impl_inRange.f
 by_cases h : b ≤ a
 ·rw [if_pos h]; simp [h]
 ·rw [if_neg h]; simp [h]
def SgOk (n : Int) : Bool := decide (0 ≤ n ∧ n ≤ 1114111) && !decide (55296 ≤ n ∧ n ≤ 57343)
theorem spec_SignOk_is (n : Int) : spec_SignOk.f n = some (SgOk n) := by
 unfold spec_SignOk.f SgOk
 rw [l1In_is, l1In_is]
 simp only [Option.bind_some]
 by_cases h : decide (0 ≤ n ∧ n ≤ 1114111) = true
 ·rw [if_pos h, h]; rfl
 ·rw [if_neg h, Bool.eq_false_iff.mpr h]; rfl
theorem impl_SignOk_is (n : Int) : impl_SignOk.f n = some (SgOk n) := by
 unfold impl_SignOk.f SgOk
 rw [inRange_is, inRange_is]
 simp only [Option.bind_some]
 by_cases h : decide (0 ≤ n ∧ n ≤ 1114111) = true
 ·rw [if_pos h, h]; rfl
 ·rw [if_neg h, Bool.eq_false_iff.mpr h]; rfl
def PSb (n : Int) : List Int :=
 if n < 128 then [n] else if n < 2048 then [192 + n / 64, 128 + n % 64]
 else if n < 65536 then [224 + n / 4096, 128 + n / 64 % 64, 128 + n % 64]
 else [240 + n / 262144, 128 + n / 4096 % 64, 128 + n / 64 % 64, 128 + n % 64]
def PSn (n : Int) : Int := if SgOk n = true then n else 65533
def PS (n : Int) : ByteArray := strOfNums (PSb (PSn n))
theorem SgOk_range (n : Int) (h : SgOk n = true) : 0 ≤ n ∧ n ≤ 1114111 := by
 unfold SgOk at h
 simp only [Bool.and_eq_true, decide_eq_true_eq] at h
 exact h.1
theorem PSn_range (n : Int) : 0 ≤ PSn n ∧ PSn n ≤ 1114111 := by
 unfold PSn
 by_cases h : SgOk n = true
 ·rw [if_pos h]; exact SgOk_range n h
 ·rw [if_neg h]; omega
theorem spec_PutSign_j (n : Int) (h0 : 0 ≤ n) (h1 : n ≤ 1114111) (k : Nat) : spec_PutSign.j0 (k + 1) n = some (strOfNums (PSb n)) := by
 simp only [spec_PutSign.j0]
 unfold PSb
 by_cases a : n < 128
 ·rw [if_pos a, if_pos a, Int.emod_eq_of_lt h0 (by omega)]
 ·rw [if_neg a, if_neg a]
  have w0 : ∀ x : Int, 0 ≤ x → x < 256 → (wrap64 x) % 256 = x := fun x a b => by unfold wrap64; omega
  by_cases b : n < 2048
  ·rw [if_pos b, if_pos b, and63 n h0 (by omega), w0 _ (by omega) (by omega), w0 _ (by omega) (by omega)]
  ·rw [if_neg b, if_neg b]
   by_cases c : n < 65536
   ·rw [if_pos c, if_pos c, and63 n h0 (by omega), and63 (n / 64) (by omega) (by omega), w0 _ (by omega) (by omega), w0 _ (by omega) (by omega), w0 _ (by omega) (by omega)]
   ·rw [if_neg c, if_neg c, and63 n h0 (by omega), and63 (n / 64) (by omega) (by omega), and63 (n / 4096) (by omega) (by omega), w0 _ (by omega) (by omega), w0 _ (by omega) (by omega), w0 _ (by omega) (by omega), w0 _ (by omega) (by omega)]
theorem spec_PutSign_ev (n : Int) : Ev (fun k => spec_PutSign.f k n) (PS n) := by
 refine Ev.at1 fun k => ?_
 unfold spec_PutSign.f PS
 rw [spec_SignOk_is]
 simp only [Option.bind_some]
 have r := PSn_range n
 unfold PSn at r ⊢
 by_cases h : SgOk n = true
 ·rw [if_pos h] at r ⊢; rw [if_pos h]; exact spec_PutSign_j n r.1 r.2 k
 ·rw [if_neg h] at r ⊢; rw [if_neg h]; exact spec_PutSign_j _ r.1 r.2 k
theorem impl_follow_is (n : Int) (h0 : 0 ≤ n) (h1 : n ≤ 1114111) (j : Nat) (hj : j ≤ 12) : impl_follow.f n j = some (128 + n / 2 ^ j % 64) := by
 unfold impl_follow.f
 have e : IntKind.u64.wrap (j : Int) = j := by simp [IntKind.wrap, IntKind.bits, IntKind.signed]; omega
 have hp : (0 : Int) < 2 ^ j := Int.pow_pos (by decide)
 have d0 : 0 ≤ n / 2 ^ j := Int.ediv_nonneg h0 (Int.le_of_lt hp)
 have d1 : n / 2 ^ j ≤ n := Int.ediv_le_self _ h0
 rw [e, if_pos (by omega)]
 unfold shr
 have m : min (j : Int).toNat IntKind.i64.bits = j := by simp [IntKind.bits]; omega
 rw [m, and63 _ d0 (by omega), or128 _ (by omega) (by omega)]
 congr 1
 omega
theorem impl_PutSign_j (n : Int) (h0 : 0 ≤ n) (h1 : n ≤ 1114111) (k : Nat) : impl_PutSign.j0 (k + 1) n = some (strOfNums (PSb n)) := by
 simp only [impl_PutSign.j0]
 unfold PSb
 have f0 := impl_follow_is n h0 h1 0 (by omega)
 have f6 := impl_follow_is n h0 h1 6 (by omega)
 have f12 := impl_follow_is n h0 h1 12 (by omega)
 simp only [Int.natCast_zero, Int.pow_zero, Int.ediv_one] at f0
 have e6 : ((6 : Nat) : Int) = 6 := rfl
 have e12 : ((12 : Nat) : Int) = 12 := rfl
 have p6 : (2 : Int) ^ 6 = 64 := rfl
 have p12 : (2 : Int) ^ 12 = 4096 := rfl
 rw [e6, p6] at f6
 rw [e12, p12] at f12
 by_cases a : n < 128
 ·rw [if_pos a, if_pos a, Int.emod_eq_of_lt h0 (by omega)]
 ·rw [if_neg a, if_neg a]
  by_cases b : n < 2048
  ·rw [if_pos b, if_pos b, f0, or192 _ (by omega) (by omega), Int.emod_eq_of_lt (a := 192 + n / 64) (b := 256) (by omega) (by omega)]; rfl
  ·rw [if_neg b, if_neg b]
   by_cases c : n < 65536
   ·rw [if_pos c, if_pos c, f6, f0, or224 _ (by omega) (by omega), Int.emod_eq_of_lt (a := 224 + n / 4096) (b := 256) (by omega) (by omega)]; rfl
   ·rw [if_neg c, if_neg c, f12, f6, f0, or240 _ (by omega) (by omega), Int.emod_eq_of_lt (a := 240 + n / 262144) (b := 256) (by omega) (by omega)]; rfl
theorem impl_PutSign_ev (n : Int) : Ev (fun k => impl_PutSign.f k n) (PS n) := by
 refine Ev.at1 fun k => ?_
 unfold impl_PutSign.f PS
 rw [impl_SignOk_is]
 simp only [Option.bind_some]
 have r := PSn_range n
 unfold PSn at r ⊢
 by_cases h : SgOk n = true
 ·rw [if_pos h] at r ⊢; rw [if_pos h]; exact impl_PutSign_j n r.1 r.2 k
 ·rw [if_neg h] at r ⊢; rw [if_neg h]; exact impl_PutSign_j _ r.1 r.2 k
theorem PSb_length (n : Int) : (PSb n).length ≤ 4 := by
 unfold PSb
 split
 ·simp
 ·split
  ·simp
  ·split <;> simp
theorem PS_size (n : Int) : (PS n).size ≤ 4 := by
 unfold PS
 rw [strOfNums_size]
 exact PSb_length _
def ST (l : List Int) : ByteArray := joinOf (l.map PS)
theorem row_join : ∀ r : List ByteArray, rowOf r = (r.flatMap (·.data.toList)).map fun b => (b.toNat : Int)
 | [] => rfl
 | s :: r => by
  have ih := row_join r
  unfold rowOf at ih ⊢
  simp only [List.flatMap_cons, List.map_append, ih]
  rfl
theorem row_text (r : List ByteArray) : strOfNums (rowOf r) = joinOf r := by
 rw [row_join, Lib.Lz.strOfNums_map]
 rfl
theorem row_len (r : List ByteArray) : (rowOf r).length = joinLen r := by
 rw [row_join]
 simp [joinLen]
theorem join_len (l : List Int) : joinLen (l.map PS) ≤ l.length * 4 := by
 induction l with
 | nil => simp [joinLen]
 | cons n l ih =>
  unfold joinLen at ih ⊢
  simp only [List.map_cons, List.flatMap_cons, List.length_append, List.length_cons]
  have := PS_size n
  have e := data_length (PS n)
  omega
theorem spec_SignText_l (l : List Int) : Ev (fun k => spec_SignText.l0 k l) (l.map PS) := by
 induction l with
 | nil => exact Ev.yes fun _ => rfl
 | cons n l ih => exact Ev.bind (spec_PutSign_ev n) (Ev.bind ih (Ev.now _))
theorem impl_SignText_l (l : List Int) : Ev (fun k => impl_SignText.l0 k l) (l.map PS) := by
 induction l with
 | nil => exact Ev.yes fun _ => rfl
 | cons n l ih => exact Ev.bind (impl_PutSign_ev n) (Ev.bind ih (Ev.now _))
theorem spec_SignText_ev (l : List Int) (h : l.length ≤ 1000000000000) : Ev (fun k => spec_SignText.f k l) (ST l) := by
 unfold spec_SignText.f
 refine Ev.bind (spec_SignText_l l) ?_
 have := join_len l
 rw [row_len, if_pos (by omega), row_text]
 exact Ev.now _
theorem impl_SignText_ev (l : List Int) (h : l.length ≤ 1000000000000) : Ev (fun k => impl_SignText.f k l) (ST l) := by
 unfold impl_SignText.f
 refine Ev.bind (impl_SignText_l l) ?_
 have := join_len l
 rw [if_pos (by omega)]
 exact Ev.now _
theorem spec_Clean_ev (s : ByteArray) (h : s.size ≤ 1000000000000) : Ev (fun k => spec_Clean.f k s) (ST (SG s)) := by
 unfold spec_Clean.f
 have := SG_length s
 exact Ev.bind (spec_Signs_ev s h) (Ev.bind (spec_SignText_ev (SG s) (by omega)) (Ev.now _))
theorem impl_Clean_ev (s : ByteArray) (h : s.size ≤ 1000000000000) : Ev (fun k => impl_Clean.f k s) (ST (SG s)) := by
 unfold impl_Clean.f
 have := SG_length s
 exact Ev.bind (impl_Signs_ev s h) (Ev.bind (impl_SignText_ev (SG s) (by omega)) (Ev.now _))
def Jn : List (List UInt8) → List UInt8
 | [] => [32]
 | w :: ws => 32 :: (w ++ Jn ws)
theorem Jn_head : ∀ ws : List (List UInt8), ∃ t, Jn ws = 32 :: t
 | [] => ⟨[], rfl⟩
 | w :: ws => ⟨_, rfl⟩
theorem contains_cons (b : UInt8) (l sub : List UInt8) : Lib.contains (b :: l) sub = (sub.isPrefixOf (b :: l) || Lib.contains l sub) := by
 have hg := Lib.index_ge l sub
 unfold Lib.contains
 rw [Lib.index]
 by_cases h : sub.isPrefixOf (b :: l) = true
 ·rw [if_pos h, h]; rfl
 ·rw [if_neg h, Bool.eq_false_iff.mpr h, Bool.false_or]
  by_cases h2 : Lib.index l sub = -1
  ·rw [h2]; rfl
  ·rw [if_neg (by simpa using h2)]
   have e : (0 ≤ Lib.index l sub + 1) = (0 ≤ Lib.index l sub) := by apply propext; omega
   rw [decide_eq_decide]
   omega
theorem contains_nil (sub : List UInt8) : Lib.contains [] sub = sub.isEmpty := by
 unfold Lib.contains
 rw [Lib.index]
 cases sub <;> rfl
theorem prefix_word (t : List UInt8) : ∀ n w : List UInt8, 32 ∉ n → 32 ∉ w → (n ++ [32]).isPrefixOf (w ++ 32 :: t) = decide (n = w)
 | [], [], _, _ => by simp
 | [], b :: w, _, hw => by
  have : b ≠ 32 := fun e => hw (by simp [e])
  have h : ((32 : UInt8) == b) = false := by simpa using Ne.symm this
  simp [List.isPrefixOf, h]
 | a :: n, [], hn, _ => by
  have : a ≠ 32 := fun e => hn (by simp [e])
  have h : (a == (32 : UInt8)) = false := by simpa using this
  simp [List.isPrefixOf, h]
 | a :: n, b :: w, hn, hw => by
  have ih := prefix_word t n w (fun h => hn (List.mem_cons_of_mem _ h)) (fun h => hw (List.mem_cons_of_mem _ h))
  by_cases e : a = b
  ·subst e
   simp only [List.cons_append, List.isPrefixOf, beq_self_eq_true, Bool.true_and]
   rw [ih]
   simp
  ·have : (a == b) = false := by simpa using e
   simp [List.isPrefixOf, this, e]
theorem contains_skip (L p : List UInt8) : ∀ w : List UInt8, 32 ∉ w → Lib.contains (w ++ L) (32 :: p) = Lib.contains L (32 :: p)
 | [], _ => rfl
 | b :: w, hw => by
  have : b ≠ 32 := fun e => hw (by simp [e])
  have h : ((32 : UInt8) == b) = false := by simpa using Ne.symm this
  rw [List.cons_append, contains_cons, contains_skip L p w (fun h => hw (List.mem_cons_of_mem _ h))]
  simp [List.isPrefixOf, h]
theorem contains_word (n : List UInt8) (hn : 32 ∉ n) (h0 : n ≠ []) : ∀ ws : List (List UInt8), (∀ w ∈ ws, 32 ∉ w) → Lib.contains (Jn ws) (32 :: (n ++ [32])) = decide (n ∈ ws)
 | [], _ => by
  unfold Jn
  rw [contains_cons, contains_nil]
  cases n with
  | nil => exact absurd rfl h0
  | cons a n => simp [List.isPrefixOf]
 | w :: ws, hw => by
  obtain ⟨t, ht⟩ := Jn_head ws
  have hw0 := hw w (List.mem_cons_self ..)
  unfold Jn
  rw [contains_cons, contains_skip _ _ w hw0, contains_word n hn h0 ws (fun x hx => hw x (List.mem_cons_of_mem _ hx)), ht]
  simp only [List.isPrefixOf, beq_self_eq_true, Bool.true_and]
  rw [prefix_word t n w hn hw0]
  simp
theorem contains_blank (l : List UInt8) (c : UInt8) : Lib.contains l [c] = decide (c ∈ l) := by
 induction l with
 | nil => rw [contains_nil]; rfl
 | cons b l ih =>
  rw [contains_cons, ih]
  by_cases e : c = b
  ·subst e; simp [List.isPrefixOf]
  ·have h : (c == b) = false := by simpa using e
   simp [List.isPrefixOf, h, e]
def isIn (a : ByteArray) (ws : List (List UInt8)) : Bool := decide (a.data.toList ∈ ws)
def Row (names : ByteArray) (ws : List (List UInt8)) : Prop := 32 :: (names.data.toList ++ [32]) = Jn ws ∧ (∀ w ∈ ws, 32 ∉ w ∧ w ≠ []) ∧ names.size ≤ 1000000
theorem data_append (a b : ByteArray) : (a ++ b).data.toList = a.data.toList ++ b.data.toList := by simp
theorem isOneOf_is (a names : ByteArray) (ws : List (List UInt8)) (h : Row names ws) (ha : a.size ≤ 1048576) : impl_isOneOf.f a names = some (isIn a ws) := by
 obtain ⟨hJ, hws, hn⟩ := h
 unfold impl_isOneOf.f isIn
 rw [ByteArray.toList_eq]
 by_cases h0 : a.data.toList = []
 ·rw [if_pos h0, h0]
  have : ¬ ([] : List UInt8) ∈ ws := fun hm => (hws _ hm).2 rfl
  simp [this]
 ·rw [if_neg h0]
  have c1 : strings_Contains.f a (⟨#[32]⟩ : ByteArray) = some (decide (32 ∈ a.data.toList)) := by
   unfold strings_Contains.f
   rw [if_pos (by omega)]
   congr 1
   exact contains_blank _ _
  rw [c1]
  simp only [Option.bind_some]
  by_cases hb : 32 ∈ a.data.toList
  ·rw [if_pos (by simpa using hb)]
   have : ¬ a.data.toList ∈ ws := fun hm => (hws _ hm).1 hb
   simp [this]
  ·rw [if_neg (by simpa using hb)]
   have s1 : ((⟨#[32]⟩ : ByteArray) ++ names).size = 1 + names.size := by rw [ByteArray.size_append]; rfl
   have s2 : ((⟨#[32]⟩ : ByteArray) ++ a).size = 1 + a.size := by rw [ByteArray.size_append]; rfl
   have c2 : strings_Contains.f (((⟨#[32]⟩ : ByteArray) ++ names) ++ (⟨#[32]⟩ : ByteArray)) (((⟨#[32]⟩ : ByteArray) ++ a) ++ (⟨#[32]⟩ : ByteArray)) = some (decide (a.data.toList ∈ ws)) := by
    unfold strings_Contains.f
    have s3 : (((⟨#[32]⟩ : ByteArray) ++ names) ++ (⟨#[32]⟩ : ByteArray)).size = 1 + names.size + 1 := by rw [ByteArray.size_append, s1]; rfl
    rw [if_pos (by omega)]
    congr 1
    rw [data_append, data_append, data_append, data_append]
    have e1 : (⟨#[32]⟩ : ByteArray).data.toList ++ names.data.toList ++ (⟨#[32]⟩ : ByteArray).data.toList = 32 :: (names.data.toList ++ [32]) := rfl
    have e2 : (⟨#[32]⟩ : ByteArray).data.toList ++ a.data.toList ++ (⟨#[32]⟩ : ByteArray).data.toList = 32 :: (a.data.toList ++ [32]) := rfl
    rw [e1, e2, hJ, contains_word _ hb h0 ws (fun w hw => (hws w hw).1)]
   rw [c2]
   first
   | (simp only [s1, s2]; rw [if_pos (by omega), if_pos (by omega), if_pos (by omega), if_pos (by omega)]; rfl)
   | (rw [if_pos (by omega), if_pos (by omega), if_pos (by omega), if_pos (by omega)]; rfl)
def wsRaw : List (List UInt8) := [[115, 99, 114, 105, 112, 116], [115, 116, 121, 108, 101], [116, 105, 116, 108, 101], [116, 101, 120, 116, 97, 114, 101, 97]]
theorem impl_Raw_is (a : ByteArray) (ha : a.size ≤ 1048576) : impl_Raw.f a = some (isIn a wsRaw) := by
 unfold impl_Raw.f
 rw [isOneOf_is a _ wsRaw ⟨rfl, by decide, by decide⟩ ha]
 rfl
theorem spec_Raw_is (a : ByteArray) : spec_Raw.f a = some (isIn a wsRaw) := by
 unfold spec_Raw.f isIn wsRaw
 rw [ByteArray.toList_eq]
 generalize a.data.toList = l
 simp only [List.mem_cons, List.not_mem_nil, or_false]
 by_cases h1 : l = [115, 99, 114, 105, 112, 116]
 ·simp [h1]
 ·rw [if_neg h1]
  by_cases h2 : l = [115, 116, 121, 108, 101]
  ·simp [h2]
  ·rw [if_neg h2]
   by_cases h3 : l = [116, 105, 116, 108, 101]
   ·simp [h3]
   ·rw [if_neg h3]
    by_cases h4 : l = [116, 101, 120, 116, 97, 114, 101, 97]
    ·simp [h4]
    ·simp [h1, h2, h3, h4]
def LtOk (n : Int) : Bool := decide (97 ≤ n ∧ n ≤ 122) || decide (65 ≤ n ∧ n ≤ 90)
theorem spec_IsLetter_is (n : Int) : spec_IsLetter.f n = some (LtOk n) := by
 unfold spec_IsLetter.f LtOk
 rw [l1In_is, l1In_is]
 simp only [Option.bind_some]
 by_cases h : decide (97 ≤ n ∧ n ≤ 122) = true
 ·rw [if_pos h, h]; rfl
 ·rw [if_neg h, Bool.eq_false_iff.mpr h]; rfl
theorem impl_IsLetter_is (n : Int) : impl_IsLetter.f n = some (LtOk n) := by
 unfold impl_IsLetter.f LtOk
 rw [inRange_is, inRange_is]
 simp only [Option.bind_some]
 by_cases h : decide (97 ≤ n ∧ n ≤ 122) = true
 ·rw [if_pos h, h]; rfl
 ·rw [if_neg h, Bool.eq_false_iff.mpr h]; rfl
theorem bt_rng (s : ByteArray) (i : Int) : 0 ≤ bt s i ∧ bt s i < 256 := by
 unfold bt
 split
 ·exact ⟨by omega, by have := (s[i.toNat]).toNat_lt; omega⟩
 ·exact ⟨by omega, by omega⟩
theorem bt_list (s : ByteArray) (n : Nat) (h : n < s.data.toList.length) : bt s (n : Int) = ((s.data.toList[n]).toNat : Int) := by
 have h2 : n < s.size := by rw [← data_length]; exact h
 have e : s.data.toList[n] = s[n]'h2 := by rw [Array.getElem_toList]; rfl
 unfold bt
 rw [dif_pos (by rw [Int.toNat_natCast]; exact h2), e]
 simp only [Int.toNat_natCast]
theorem mem_bt (s : ByteArray) (c : UInt8) : c ∈ s.data.toList ↔ ∃ n, n < s.size ∧ bt s (n : Int) = (c.toNat : Int) := by
 rw [List.mem_iff_getElem]
 constructor
 ·rintro ⟨n, h, rfl⟩
  exact ⟨n, by rw [← data_length]; exact h, bt_list s n h⟩
 ·rintro ⟨n, h, e⟩
  have h2 : n < s.data.toList.length := by rw [data_length]; exact h
  rw [bt_list s n h2] at e
  exact ⟨n, h2, UInt8.toNat_inj.1 (by omega)⟩
theorem contains_one_mem (c : UInt8) : ∀ l : List UInt8, Lib.contains l [c] = decide (c ∈ l)
 | [] => by rw [contains_nil]; simp
 | b :: l => by
  rw [contains_cons, contains_one_mem c l]
  by_cases h : c = b
  ·subst h; simp [List.isPrefixOf]
  ·have : (c == b) = false := by simpa using h
   simp [List.isPrefixOf, this, h]
theorem find_ev (s : ByteArray) (c : Int) (hs : s.size ≤ 4000000) (d : Nat) : ∀ a : Nat, a + d = s.size → ∃ v, Ev (fun k => spec_l4Find.f k s (a : Int) c) v ∧ ((v < 0 ∧ ∀ n, a ≤ n → n < s.size → bt s (n : Int) ≠ c) ∨ (∃ n : Nat, a ≤ n ∧ n < s.size ∧ bt s (n : Int) = c ∧ v = (n : Int))) := by
 unfold spec_l4Find.f
 induction d with
 | zero =>
  intro a h
  refine ⟨-1, Ev.at1 fun k => ?_, .inl ⟨by omega, fun n h1 h2 => by omega⟩⟩
  simp only [spec_l4Find.l0]
  rw [if_neg (by omega)]
 | succ d ih =>
  intro a h
  by_cases e : bt s (a : Int) = c
  ·refine ⟨(a : Int), Ev.at1 fun k => ?_, .inr ⟨a, Nat.le_refl _, by omega, e, rfl⟩⟩
   simp only [spec_l4Find.l0]
   rw [if_pos (by omega), if_pos (by omega), if_pos e]
  ·obtain ⟨v, ev, hv⟩ := ih (a + 1) (by omega)
   refine ⟨v, Ev.step (fun k => ?_) ev, ?_⟩
   ·simp only [spec_l4Find.l0]
    rw [if_pos (by omega), if_pos (by omega), if_neg e, next_at _ (by omega)]
   ·rcases hv with ⟨h1, h2⟩ | ⟨n, h1, h2, h3, h4⟩
    ·refine .inl ⟨h1, fun n a1 a2 => ?_⟩
     by_cases q : n = a
     ·subst q; exact e
     ·exact h2 n (by omega) a2
    ·exact .inr ⟨n, by omega, h2, h3, h4⟩
def CK (s : ByteArray) : Prop := (ST (SG s)).toList = s.toList
def PT (s : ByteArray) : Prop := CK s ∧ ∀ n, n < s.size → bt s (n : Int) ≠ 13
theorem sCleanOk (s : ByteArray) (h : s.size ≤ 1048576) : EvB (fun k => spec_CleanOk.f k s) (CK s) := by
 unfold spec_CleanOk.f
 by_cases c : CK s
 ·exact .inl ⟨c, Ev.bind (spec_Clean_ev s (by omega)) (by rw [beq_iff_eq.mpr c]; exact Ev.now _)⟩
 ·exact .inr ⟨c, Ev.bind (spec_Clean_ev s (by omega)) (by rw [beq_eq_false_iff_ne.mpr c]; exact Ev.now _)⟩
theorem iCleanOk (s : ByteArray) (h : s.size ≤ 1048576) : EvB (fun k => impl_CleanOk.f k s) (CK s) := by
 unfold impl_CleanOk.f
 by_cases c : CK s
 ·exact .inl ⟨c, Ev.bind (impl_Clean_ev s (by omega)) (by rw [beq_iff_eq.mpr c]; exact Ev.now _)⟩
 ·exact .inr ⟨c, Ev.bind (impl_Clean_ev s (by omega)) (by rw [beq_eq_false_iff_ne.mpr c]; exact Ev.now _)⟩
theorem sLine (s : ByteArray) (h : s.size ≤ 1048576) : EvB (fun k => spec_l5Line.f k s) (PT s) := by
 unfold spec_l5Line.f
 refine EvB.bind (sCleanOk s h) (fun p => ?_) (fun p => ?_)
 ·simp only [if_true]
  obtain ⟨v, ev, hv⟩ := find_ev s 13 (by omega) s.size 0 (by omega)
  rcases hv with ⟨h1, h2⟩ | ⟨n, h1, h2, h3, h4⟩
  ·refine .inl ⟨⟨p, fun n hn => h2 n (by omega) hn⟩, Ev.bind ev ?_⟩
   rw [decide_eq_true h1]; exact Ev.now _
  ·refine .inr ⟨fun q => q.2 n h2 h3, Ev.bind ev ?_⟩
   rw [decide_eq_false (by omega)]; exact Ev.now _
 ·simp only [Bool.false_eq_true, if_false]
  exact .inr ⟨fun q => p q.1, Ev.now _⟩
theorem has_one (s : ByteArray) (c : UInt8) (h : s.size ≤ 4000000) : strings_Contains.f s (⟨#[c]⟩ : ByteArray) = some (decide (c ∈ s.data.toList)) := by
 unfold strings_Contains.f
 rw [if_pos (by omega)]
 have e : (⟨#[c]⟩ : ByteArray).data.toList = [c] := rfl
 rw [e, contains_one_mem]
theorem iPlain (s : ByteArray) (h : s.size ≤ 1048576) : EvB (fun k => impl_plainText.f k s) (PT s) := by
 unfold impl_plainText.f
 refine EvB.bind (iCleanOk s h) (fun p => ?_) (fun p => ?_)
 ·simp only [if_true]
  rw [has_one s 13 (by omega)]
  refine EvB.now ?_
  rw [Bool.not_eq_true', decide_eq_false_iff_not, mem_bt]
  exact ⟨fun q => ⟨p, fun n h1 h2 => q ⟨n, h1, h2⟩⟩, fun q ⟨n, h1, h2⟩ => q.2 n h1 h2⟩
 ·simp only [Bool.false_eq_true, if_false]
  exact .inr ⟨fun q => p q.1, Ev.now _⟩
def BLi (x : Int) : Bool := decide (x = 9 ∨ x = 10 ∨ x = 12 ∨ x = 13 ∨ x = 32)
theorem isBlank_is (x : Int) : spec_IsBlank.f x = some (BLi x) := by
 unfold spec_IsBlank.f BLi
 repeat' split
 all_goals (congr 1; symm)
 all_goals first
  | (rw [decide_eq_true_eq]; omega)
  | (rw [Bool.eq_iff_iff, decide_eq_true_eq, beq_iff_eq]; omega)
theorem sBlank (s : ByteArray) (i : Int) : spec_l4Blank.f (bt s i) = some (BLi (bt s i)) := by
 have := bt_rng s i
 unfold spec_l4Blank.f
 rw [wrap_id _ (by omega) (by omega), isBlank_is]
 rfl
theorem iBlank (s : ByteArray) (i : Int) : impl_isBlankByte.f (bt s i) = some (BLi (bt s i)) := by
 have := bt_rng s i
 unfold impl_isBlankByte.f
 have e : impl_IsBlank.f (bt s i) = spec_IsBlank.f (bt s i) := rfl
 rw [wrap_id _ (by omega) (by omega), e, isBlank_is]
 rfl
def nb (s : ByteArray) (n : Nat) : Prop := BLi (bt s (n : Int)) = false ∧ bt s (n : Int) ≠ 47 ∧ bt s (n : Int) ≠ 62
def NB (s : ByteArray) : Prop := ∀ n, n < s.size → nb s n
def SMq (s : ByteArray) : Prop := (smallOf s).toList = s.toList
theorem sSmall (s : ByteArray) (h : s.size ≤ 4000000) : spec_Small.f s = some (smallOf s) := by unfold spec_Small.f; rw [if_pos (by omega)]
theorem iSmall (s : ByteArray) (h : s.size ≤ 4000000) : impl_Small.f s = some (smallOf s) := by unfold impl_Small.f; rw [if_pos (by omega)]
theorem find_sl (c : Int) : ∃ v, Ev (fun k => spec_l4Find.f k (⟨#[47, 62]⟩ : ByteArray) 0 c) v ∧ ((v < 0 ∧ c ≠ 47 ∧ c ≠ 62) ∨ (0 ≤ v ∧ (c = 47 ∨ c = 62))) := by
 obtain ⟨v, ev, hv⟩ := find_ev (⟨#[47, 62]⟩ : ByteArray) c (by decide) 2 0 rfl
 have b0 : bt (⟨#[47, 62]⟩ : ByteArray) ((0 : Nat) : Int) = 47 := rfl
 have b1 : bt (⟨#[47, 62]⟩ : ByteArray) ((1 : Nat) : Int) = 62 := rfl
 have hz : (⟨#[47, 62]⟩ : ByteArray).size = 2 := rfl
 refine ⟨v, ev, ?_⟩
 rcases hv with ⟨h1, h2⟩ | ⟨n, h1, h2, h3, h4⟩
 ·have q0 := h2 0 (by omega) (by omega)
  have q1 := h2 1 (by omega) (by omega)
  rw [b0] at q0
  rw [b1] at q1
  exact .inl ⟨h1, fun e => q0 e.symm, fun e => q1 e.symm⟩
 ·refine .inr ⟨by omega, ?_⟩
  rw [hz] at h2
  rcases (show n = 0 ∨ n = 1 by omega) with rfl | rfl
  ·rw [b0] at h3; exact .inl h3.symm
  ·rw [b1] at h3; exact .inr h3.symm
theorem idx_sl (c : Int) (h0 : 0 ≤ c) (h1 : c < 256) : ∃ v, strings_IndexByte.f (⟨#[47, 62]⟩ : ByteArray) c = some v ∧ ((v < 0 ∧ c ≠ 47 ∧ c ≠ 62) ∨ (0 ≤ v ∧ (c = 47 ∨ c = 62))) := by
 unfold strings_IndexByte.f
 have e : (⟨#[47, 62]⟩ : ByteArray).data.toList = [47, 62] := rfl
 rw [e]
 refine ⟨_, rfl, ?_⟩
 have k := Lib.contains_iff_indexByte [47, 62] c.toNat.toUInt8
 have hc : c.toNat.toUInt8.toNat = c.toNat := by
  show (UInt8.ofNat c.toNat).toNat = _
  rw [UInt8.toNat_ofNat']
  omega
 by_cases c1 : c = 47
 ·subst c1; exact .inr ⟨by decide, .inl rfl⟩
 ·by_cases c2 : c = 62
  ·subst c2; exact .inr ⟨by decide, .inr rfl⟩
  ·have n1 : c.toNat.toUInt8 ≠ 47 := fun q => by
    have := congrArg UInt8.toNat q
    rw [hc] at this
    have : c.toNat = 47 := this
    omega
   have n2 : c.toNat.toUInt8 ≠ 62 := fun q => by
    have := congrArg UInt8.toNat q
    rw [hc] at this
    have : c.toNat = 62 := this
    omega
   have hn : ([47, 62] : List UInt8).contains c.toNat.toUInt8 = false := by
    rw [List.contains_eq_mem, decide_eq_false_iff_not]
    simp only [List.mem_cons, List.not_mem_nil, or_false, not_or]
    exact ⟨n1, n2⟩
   rw [hn] at k
   have k2 := of_decide_eq_false k.symm
   exact .inl ⟨by omega, c1, c2⟩
theorem sName (s : ByteArray) (h : s.size ≤ 1048576) : EvB (fun k => spec_l5Name.f k s (⟨#[47, 62]⟩ : ByteArray)) (NB s ∧ s.toList ≠ [] ∧ CK s ∧ SMq s) := by
 unfold spec_l5Name.f
 have := EvB.loop (fun k n => spec_l5Name.l0 k s (⟨#[47, 62]⟩ : ByteArray) n) 0 s.size (Nat.zero_le _) (nb s) (s.toList ≠ [] ∧ CK s ∧ SMq s)
  (fun n hn g r e => by
   obtain ⟨v, ev, hv⟩ := find_sl (bt s (n : Int))
   have hv2 : v < 0 := by rcases hv with hv | ⟨_, hv | hv⟩; exact hv.1; exact absurd hv g.2.1; exact absurd hv g.2.2
   refine Ev.step (f := fun k => (spec_l4Find.f k (⟨#[47, 62]⟩ : ByteArray) 0 (bt s (n : Int))).bind fun t => if t ≥ 0 then (some false) else (spec_l5Name.l0 k s (⟨#[47, 62]⟩ : ByteArray) ((n + 1 : Nat) : Int))) (fun k => ?_) (Ev.bind ev ?_)
   ·simp only [spec_l5Name.l0]
    rw [if_pos (by omega), if_pos (by omega), sBlank, g.1, Option.bind_some, if_neg (by decide), next_at _ (by omega)]
   ·simp only [if_neg (show ¬ v ≥ 0 by omega)]
    exact e)
  (fun n hn g => by
   by_cases b : BLi (bt s (n : Int)) = true
   ·refine Ev.at1 fun k => ?_
    simp only [spec_l5Name.l0]
    rw [if_pos (by omega), if_pos (by omega), sBlank, b, Option.bind_some, if_pos rfl]
   ·have b' := Bool.eq_false_iff.mpr b
    obtain ⟨v, ev, hv⟩ := find_sl (bt s (n : Int))
    have hv2 : 0 ≤ v := by rcases hv with hv | hv; exact absurd ⟨b', hv.2.1, hv.2.2⟩ g; exact hv.1
    refine Ev.step (f := fun k => (spec_l4Find.f k (⟨#[47, 62]⟩ : ByteArray) 0 (bt s (n : Int))).bind fun t => if t ≥ 0 then (some false) else (spec_l5Name.l0 k s (⟨#[47, 62]⟩ : ByteArray) ((n + 1 : Nat) : Int))) (fun k => ?_) (Ev.bind ev ?_)
    ·simp only [spec_l5Name.l0]
     rw [if_pos (by omega), if_pos (by omega), sBlank, b', Option.bind_some, if_neg (by decide), next_at _ (by omega)]
    ·simp only [if_pos (show v ≥ 0 by omega)]
     exact Ev.now _)
  (fun _ => by
   by_cases c : s.toList = ([] : List UInt8)
   ·exact .inr ⟨fun q => q.1 c, Ev.at1 fun k => by simp only [spec_l5Name.l0]; rw [if_neg (by omega), if_pos c]⟩
   ·refine EvB.step (f := fun k => (spec_CleanOk.f k s).bind fun t => if t = true then ((spec_Small.f s).bind fun u => some (u.toList == s.toList)) else some false) (fun k => by simp only [spec_l5Name.l0]; rw [if_neg (by omega), if_neg c]) (EvB.bind (sCleanOk s h) (fun p => ?_) (fun p => ?_))
    ·simp only [if_true]
     rw [sSmall s (by omega)]
     exact EvB.now (by rw [beq_iff_eq]; exact ⟨fun q => ⟨c, p, q⟩, fun q => q.2.2⟩)
    ·simp only [Bool.false_eq_true, if_false]
     exact .inr ⟨fun q => p q.2.1, Ev.now _⟩)
 exact this.iff ⟨fun q => ⟨fun n hn => q.1 n (Nat.zero_le _) hn, q.2⟩, fun q => ⟨fun n _ hn => q.1 n hn, q.2⟩⟩
theorem iNone (s : ByteArray) (h : s.size ≤ 1048576) : EvB (fun k => impl_hasNone.f k s (⟨#[47, 62]⟩ : ByteArray)) (NB s ∧ CK s ∧ SMq s) := by
 unfold impl_hasNone.f
 have st : ∀ (n : Nat), n < s.size → ∃ v : Int, ((v < 0 ∧ bt s (n : Int) ≠ 47 ∧ bt s (n : Int) ≠ 62) ∨ (0 ≤ v ∧ (bt s (n : Int) = 47 ∨ bt s (n : Int) = 62))) ∧ ∀ k, impl_hasNone.l0 (k + 1) s (⟨#[47, 62]⟩ : ByteArray) (n : Int) = if BLi (bt s (n : Int)) = true then some false else if v ≥ 0 then some false else impl_hasNone.l0 k s (⟨#[47, 62]⟩ : ByteArray) ((n + 1 : Nat) : Int) := fun n hn => by
  obtain ⟨v, e, hv⟩ := idx_sl (bt s (n : Int)) (bt_rng s _).1 (bt_rng s _).2
  refine ⟨v, hv, fun k => ?_⟩
  simp only [impl_hasNone.l0]
  rw [if_pos (by omega), if_pos (by omega), iBlank, Option.bind_some, e, next_at _ (by omega)]
  rfl
 have := EvB.loop (fun k n => impl_hasNone.l0 k s (⟨#[47, 62]⟩ : ByteArray) n) 0 s.size (Nat.zero_le _) (nb s) (CK s ∧ SMq s)
  (fun n hn g r e => by
   obtain ⟨v, hv, sv⟩ := st n hn
   have hv2 : v < 0 := by rcases hv with hv | ⟨_, hv | hv⟩; exact hv.1; exact absurd hv g.2.1; exact absurd hv g.2.2
   exact Ev.step (fun k => by rw [sv, if_neg (by rw [g.1]; decide), if_neg (by omega)]) e)
  (fun n hn g => by
   obtain ⟨v, hv, sv⟩ := st n hn
   refine Ev.at1 fun k => ?_
   rw [sv]
   by_cases b : BLi (bt s (n : Int)) = true
   ·rw [if_pos b]
   ·have b' := Bool.eq_false_iff.mpr b
    have hv2 : 0 ≤ v := by rcases hv with hv | hv; exact absurd ⟨b', hv.2.1, hv.2.2⟩ g; exact hv.1
    rw [if_neg b, if_pos (by omega)])
  (fun _ => by
   refine EvB.step (f := fun k => (impl_CleanOk.f k s).bind fun t => if t = true then ((impl_Small.f s).bind fun u => some (u.toList == s.toList)) else some false) (fun k => by simp only [impl_hasNone.l0]; rw [if_neg (by omega)]) (EvB.bind (iCleanOk s h) (fun p => ?_) (fun p => ?_))
   ·simp only [if_true]
    rw [iSmall s (by omega)]
    exact EvB.now (by rw [beq_iff_eq]; exact ⟨fun q => ⟨p, q⟩, fun q => q.2⟩)
   ·simp only [Bool.false_eq_true, if_false]
    exact .inr ⟨fun q => p q.1, Ev.now _⟩)
 exact this.iff ⟨fun q => ⟨fun n hn => q.1 n (Nat.zero_le _) hn, q.2⟩, fun q => ⟨fun n _ hn => q.1 n hn, q.2⟩⟩
def TN (s : ByteArray) : Prop := 0 < s.size ∧ LtOk (bt s 0) = true ∧ NB s ∧ CK s ∧ SMq s
theorem iTagName (s : ByteArray) (h : s.size ≤ 1048576) : EvB (fun k => impl_tagNameOk.f k s) (TN s) := by
 unfold impl_tagNameOk.f impl_isLetterAt.f
 have := bt_rng s 0
 by_cases c : (0 : Int) < (s.size : Int)
 ·rw [if_pos c, if_pos (by omega), wrap_id _ (by omega) (by omega), impl_IsLetter_is]
  simp only [Option.bind_some]
  by_cases l : LtOk (bt s 0) = true
  ·simp only [if_pos l]
   refine EvB.bind (iNone s h) (fun p => EvB.now ⟨fun _ => ⟨by omega, l, p⟩, fun _ => rfl⟩) (fun p => EvB.now ⟨fun q => by simp at q, fun q => absurd q.2.2 p⟩)
  ·simp only [if_neg l]
   exact .inr ⟨fun q => l q.2.1, Ev.now _⟩
 ·rw [if_neg c]
  simp only [Option.bind_some, Bool.false_eq_true, if_false]
  exact .inr ⟨fun q => by have := q.1; omega, Ev.now _⟩
theorem toList_nil (s : ByteArray) : s.toList = [] ↔ s.size = 0 := by
 rw [ByteArray.toList_eq, ← data_length]
 exact List.length_eq_zero_iff.symm
theorem has_ev (l : List S117) (s : ByteArray) (hl : l.length ≤ 1048576) (m : Nat) (hm : m ≤ l.length) : ∀ (d a : Nat), a + d = m → EvB (fun k => spec_l4Has.l0 k (l.take m) s (a : Int)) (∃ n, a ≤ n ∧ n < m ∧ (rd_T117 l (n : Int)).f0.toList = s.toList) := by
 have hlen : (l.take m).length = m := by rw [List.length_take]; omega
 have hrd : ∀ n : Nat, n < m → rd_T117 (l.take m) (n : Int) = rd_T117 l (n : Int) := fun n hn => by
  unfold rd_T117
  rw [Int.toNat_natCast]
  simp only [List.getD_eq_getElem?_getD, List.getElem?_take, if_pos hn]
 intro d
 induction d with
 | zero =>
  intro a h
  exact .inr ⟨fun ⟨n, h1, h2, _⟩ => by omega, Ev.at1 fun k => by simp only [spec_l4Has.l0]; rw [if_neg (by omega)]⟩
 | succ d ih =>
  intro a h
  have hr := hrd a (by omega)
  by_cases c : (rd_T117 l (a : Int)).f0.toList = s.toList
  ·exact .inl ⟨⟨a, Nat.le_refl _, by omega, c⟩, Ev.at1 fun k => by simp only [spec_l4Has.l0]; rw [if_pos (by omega), if_pos (by omega), hr, if_pos c]⟩
  ·refine EvB.iff (EvB.step (fun k => ?_) (ih (a + 1) (by omega))) ⟨fun ⟨n, h1, h2, h3⟩ => ⟨n, by omega, h2, h3⟩, fun ⟨n, h1, h2, h3⟩ => ⟨n, ?_, h2, h3⟩⟩
   ·simp only [spec_l4Has.l0]
    rw [if_pos (by omega), if_pos (by omega), hr, if_neg c, next_at _ (by omega)]
   ·rcases Nat.lt_or_ge a n with q | q
    ·exact q
    ·have : n = a := by omega
     subst this
     exact absurd h3 c
theorem iHas (l : List S117) (s : ByteArray) (hl : l.length ≤ 1048576) (m : Nat) (hm : m ≤ l.length) : ∃ b, impl_hasAttr.f (l.take m) s = some b ∧ (b = true ↔ ∃ n, n < m ∧ (rd_T117 l (n : Int)).f0.toList = s.toList) := by
 unfold impl_hasAttr.f
 have hlen : (l.take m).length = m := by rw [List.length_take]; omega
 rw [if_pos (by omega)]
 refine ⟨_, rfl, ?_⟩
 rw [List.any_eq_true]
 constructor
 ·rintro ⟨x, hx, e⟩
  obtain ⟨n, hn, rfl⟩ := List.mem_iff_getElem.1 hx
  refine ⟨n, by omega, ?_⟩
  have : rd_T117 l (n : Int) = (l.take m)[n] := by
   unfold rd_T117
   rw [Int.toNat_natCast, List.getElem_take, List.getD_eq_getElem?_getD, List.getElem?_eq_getElem (by omega)]
   rfl
  rw [this]
  simpa using e
 ·rintro ⟨n, hn, e⟩
  refine ⟨(l.take m)[n]'(by omega), List.getElem_mem _, ?_⟩
  have : rd_T117 l (n : Int) = (l.take m)[n]'(by omega) := by
   unfold rd_T117
   rw [Int.toNat_natCast, List.getElem_take, List.getD_eq_getElem?_getD, List.getElem?_eq_getElem (by omega)]
   rfl
  rw [this] at e
  simpa using e
def at_ok (l : List S117) (n : Nat) : Prop := (NB (rd_T117 l (n : Int)).f0 ∧ (rd_T117 l (n : Int)).f0.toList ≠ [] ∧ CK (rd_T117 l (n : Int)).f0 ∧ SMq (rd_T117 l (n : Int)).f0) ∧ (∀ m, 1 ≤ m → m < (rd_T117 l (n : Int)).f0.size → bt (rd_T117 l (n : Int)).f0 (m : Int) ≠ 61) ∧ PT (rd_T117 l (n : Int)).f1 ∧ ¬ ∃ j, j < n ∧ (rd_T117 l (j : Int)).f0.toList = (rd_T117 l (n : Int)).f0.toList
def AT (l : List S117) : Prop := ∀ n, n < l.length → at_ok l n
def SA (l : List S117) : Prop := l.length ≤ 1048576 ∧ ∀ n, n < l.length → (rd_T117 l (n : Int)).f0.size ≤ 1048576 ∧ (rd_T117 l (n : Int)).f1.size ≤ 1048576
theorem sAttrs (l : List S117) (h : SA l) : EvB (fun k => spec_l5Attrs.f k l) (AT l) := by
 obtain ⟨hl, hs⟩ := h
 unfold spec_l5Attrs.f
 have key : ∀ n, n < l.length → ∃ g : Nat → Option Bool, EvB g (at_ok l n) ∧ ∀ k, spec_l5Attrs.l0 (k + 1) l (n : Int) = (g k).bind fun t => if t = true then spec_l5Attrs.l0 k l ((n + 1 : Nat) : Int) else some false := fun n hn => by
  obtain ⟨h0, h1⟩ := hs n hn
  refine ⟨fun k => (spec_l5Name.f k (rd_T117 l (n : Int)).f0 (⟨#[47, 62]⟩ : ByteArray)).bind fun t => if t = true then ((spec_l4Find.f k (rd_T117 l (n : Int)).f0 1 61).bind fun t => if t ≥ 0 then some false else ((spec_l5Line.f k (rd_T117 l (n : Int)).f1).bind fun t => if t = true then ((spec_l4Has.f k (l.take n) (rd_T117 l (n : Int)).f0).bind fun t => some (!t)) else some false)) else some false, ?_, fun k => ?_⟩
  ·refine EvB.bind (sName _ h0) (fun p => ?_) (fun p => ?_)
   ·simp only [if_true]
    have hp : 0 < (rd_T117 l (n : Int)).f0.size := by
     have := p.2.1
     rw [Ne, toList_nil] at this
     omega
    obtain ⟨v, ev, hv⟩ := find_ev (rd_T117 l (n : Int)).f0 61 (by omega) ((rd_T117 l (n : Int)).f0.size - 1) 1 (by omega)
    rcases hv with ⟨a1, a2⟩ | ⟨m, a1, a2, a3, a4⟩
    ·have body : EvB (fun k => (spec_l5Line.f k (rd_T117 l (n : Int)).f1).bind fun t => if t = true then ((spec_l4Has.f k (l.take n) (rd_T117 l (n : Int)).f0).bind fun t => some (!t)) else some false) (at_ok l n) := by
      refine EvB.bind (sLine _ h1) (fun q => ?_) (fun q => ?_)
      ·simp only [if_true]
       refine EvB.bind (has_ev l _ hl n (by omega) n 0 (by omega)) (fun z => ?_) (fun z => ?_)
       ·exact .inr ⟨fun w => w.2.2.2 (by obtain ⟨j, _, b, c⟩ := z; exact ⟨j, b, c⟩), Ev.now _⟩
       ·exact .inl ⟨⟨p, a2, q, fun ⟨j, b, c⟩ => z ⟨j, Nat.zero_le _, b, c⟩⟩, Ev.now _⟩
      ·simp only [Bool.false_eq_true, if_false]
       exact .inr ⟨fun w => q w.2.2.1, Ev.now _⟩
     rcases body with ⟨b1, b2⟩ | ⟨b1, b2⟩
     ·exact .inl ⟨b1, Ev.bind ev (by simp only [if_neg (show ¬ v ≥ 0 by omega)]; exact b2)⟩
     ·exact .inr ⟨b1, Ev.bind ev (by simp only [if_neg (show ¬ v ≥ 0 by omega)]; exact b2)⟩
    ·exact .inr ⟨fun w => w.2.1 m a1 a2 a3, Ev.bind ev (by simp only [if_pos (show v ≥ 0 by omega)]; exact Ev.now _)⟩
   ·simp only [Bool.false_eq_true, if_false]
    exact .inr ⟨fun w => p w.1, Ev.now _⟩
  ·simp only [spec_l5Attrs.l0]
   rw [if_pos (by omega), if_pos (by omega), next_at _ (by omega)]
   cases spec_l5Name.f k (rd_T117 l (n : Int)).f0 (⟨#[47, 62]⟩ : ByteArray) with
   | none => rfl
   | some t =>
    simp only [Option.bind_some]
    cases t
    ·rfl
    ·simp only [if_true]
     cases spec_l4Find.f k (rd_T117 l (n : Int)).f0 1 61 with
     | none => rfl
     | some v =>
      simp only [Option.bind_some]
      by_cases c : v ≥ 0
      ·rw [if_pos c, if_pos c]; rfl
      ·rw [if_neg c, if_neg c]
       cases spec_l5Line.f k (rd_T117 l (n : Int)).f1 with
       | none => rfl
       | some t =>
        simp only [Option.bind_some]
        cases t
        ·rfl
        ·simp only [if_true]
         rw [if_pos (by omega), Int.toNat_natCast]
         cases spec_l4Has.f k (l.take n) (rd_T117 l (n : Int)).f0 with
         | none => rfl
         | some t => cases t <;> rfl
 have := EvB.loop (fun k n => spec_l5Attrs.l0 k l n) 0 l.length (Nat.zero_le _) (at_ok l) True
  (fun n hn g r e => by
   obtain ⟨f, hf, st⟩ := key n hn
   rcases hf with ⟨_, hf⟩ | ⟨p, _⟩
   ·exact Ev.step st (Ev.bind hf (by simp only [if_true]; exact e))
   ·exact absurd g p)
  (fun n hn g => by
   obtain ⟨f, hf, st⟩ := key n hn
   rcases hf with ⟨p, _⟩ | ⟨_, hf⟩
   ·exact absurd p g
   ·exact Ev.step st (Ev.bind hf (by simp only [Bool.false_eq_true, if_false]; exact Ev.now _)))
  (fun _ => .inl ⟨trivial, Ev.at1 fun k => by simp only [spec_l5Attrs.l0]; rw [if_neg (by omega)]⟩)
 exact this.iff ⟨fun q n hn => q.1 n (Nat.zero_le _) hn, fun q => ⟨fun n _ hn => q n hn, trivial⟩⟩
theorem tail_mem (s : ByteArray) (c : UInt8) (h : 1 ≤ s.size) : c ∈ (s.extract 1 s.size).data.toList ↔ ∃ m, 1 ≤ m ∧ m < s.size ∧ bt s (m : Int) = (c.toNat : Int) := by
 have e : (s.extract 1 s.size).data.toList = s.data.toList.drop 1 := by
  rw [ByteArray.data_extract, Array.toList_extract]
  rw [List.extract_eq_take_drop]
  rw [List.take_of_length_le]
  rw [List.length_drop, data_length]
  omega
 rw [e, List.mem_iff_getElem]
 constructor
 ·rintro ⟨n, hn, rfl⟩
  rw [List.length_drop, data_length] at hn
  refine ⟨n + 1, by omega, by omega, ?_⟩
  have hb := bt_list s (n + 1) (by rw [data_length]; omega)
  rw [hb, List.getElem_drop]
  congr 3
  omega
 ·rintro ⟨m, h1, h2, e2⟩
  have h3 : m < s.data.toList.length := by rw [data_length]; exact h2
  rw [bt_list s m h3] at e2
  refine ⟨m - 1, by rw [List.length_drop]; omega, ?_⟩
  rw [List.getElem_drop]
  have : s.data.toList[1 + (m - 1)]'(by omega) = s.data.toList[m] := by congr 1; omega
  rw [this]
  exact UInt8.toNat_inj.1 (by omega)
theorem ext_size (s : ByteArray) (a b : Nat) (h : b ≤ s.size) (h2 : a ≤ b) : (s.extract a b).size = b - a := by
 rw [ByteArray.size_extract]
 omega
theorem iAttrs (l : List S117) (h : SA l) : EvB (fun k => impl_attrsOk.f k l) (AT l) := by
 obtain ⟨hl, hs⟩ := h
 unfold impl_attrsOk.f
 have key : ∀ n, n < l.length → ∃ g : Nat → Option Bool, EvB g (at_ok l n) ∧ ∀ k, impl_attrsOk.l0 (k + 1) l l (l.length : Int) (n : Int) = (g k).bind fun t => if t = true then impl_attrsOk.l0 k l l (l.length : Int) ((n + 1 : Nat) : Int) else some false := fun n hn => by
  obtain ⟨h0, h1⟩ := hs n hn
  obtain ⟨b, eb, hb⟩ := iHas l (rd_T117 l (n : Int)).f0 hl n (by omega)
  by_cases c0 : (rd_T117 l (n : Int)).f0.toList = ([] : List UInt8)
  ·refine ⟨fun _ => some false, .inr ⟨fun w => w.1.2.1 c0, Ev.now _⟩, fun k => ?_⟩
   simp only [impl_attrsOk.l0]
   rw [if_pos (by omega), if_pos (by omega), if_pos (by omega), if_pos c0]
   rfl
  ·have hp : 0 < (rd_T117 l (n : Int)).f0.size := by
    have := c0
    rw [toList_nil] at this
    omega
   have he : ((rd_T117 l (n : Int)).f0.extract 1 (rd_T117 l (n : Int)).f0.size).size ≤ 4000000 := by rw [ext_size _ _ _ (Nat.le_refl _) (by omega)]; omega
   have hc := has_one ((rd_T117 l (n : Int)).f0.extract 1 (rd_T117 l (n : Int)).f0.size) 61 he
   refine ⟨fun k => (impl_hasNone.f k (rd_T117 l (n : Int)).f0 (⟨#[47, 62]⟩ : ByteArray)).bind fun t => if t = true then (if decide ((61 : UInt8) ∈ ((rd_T117 l (n : Int)).f0.extract 1 (rd_T117 l (n : Int)).f0.size).data.toList) = true then some false else if b = true then some false else impl_plainText.f k (rd_T117 l (n : Int)).f1) else some false, ?_, fun k => ?_⟩
   ·refine EvB.bind (iNone _ h0) (fun p => ?_) (fun p => ?_)
    ·simp only [if_true]
     by_cases c1 : (61 : UInt8) ∈ ((rd_T117 l (n : Int)).f0.extract 1 (rd_T117 l (n : Int)).f0.size).data.toList
     ·rw [decide_eq_true c1]
      simp only [if_true]
      rw [tail_mem _ _ hp] at c1
      obtain ⟨m, a1, a2, a3⟩ := c1
      exact .inr ⟨fun w => w.2.1 m a1 a2 a3, Ev.now _⟩
     ·rw [decide_eq_false c1]
      simp only [Bool.false_eq_true, if_false]
      rw [tail_mem _ _ hp] at c1
      by_cases c2 : b = true
      ·simp only [if_pos c2]
       exact .inr ⟨fun w => w.2.2.2 (hb.1 c2), Ev.now _⟩
      ·simp only [if_neg c2]
       refine (iPlain _ h1).iff ⟨fun q => ⟨⟨p.1, c0, p.2.1, p.2.2⟩, fun m a1 a2 a3 => c1 ⟨m, a1, a2, a3⟩, q, fun w => c2 (hb.2 w)⟩, fun w => w.2.2.1⟩
    ·simp only [Bool.false_eq_true, if_false]
     exact .inr ⟨fun w => p ⟨w.1.1, w.1.2.2.1, w.1.2.2.2⟩, Ev.now _⟩
   ·simp only [impl_attrsOk.l0]
    rw [if_pos (by omega), if_pos (by omega), if_pos (by omega), if_neg c0, next_at _ (by omega)]
    cases impl_hasNone.f k (rd_T117 l (n : Int)).f0 (⟨#[47, 62]⟩ : ByteArray) with
    | none => rfl
    | some t =>
     simp only [Option.bind_some]
     cases t
     ·rfl
     ·simp only [if_true]
      rw [if_pos (by omega), hc, Option.bind_some]
      by_cases c1 : (61 : UInt8) ∈ ((rd_T117 l (n : Int)).f0.extract 1 (rd_T117 l (n : Int)).f0.size).data.toList
      ·rw [decide_eq_true c1]; rfl
      ·rw [decide_eq_false c1]
       simp only [Bool.false_eq_true, if_false]
       rw [if_pos (by omega), Int.toNat_natCast, eb, Option.bind_some]
       cases b
       ·simp only [Bool.false_eq_true, if_false]
       ·rfl
 have := EvB.loop (fun k n => impl_attrsOk.l0 k l l (l.length : Int) n) 0 l.length (Nat.zero_le _) (at_ok l) True
  (fun n hn g r e => by
   obtain ⟨f, hf, st⟩ := key n hn
   rcases hf with ⟨_, hf⟩ | ⟨p, _⟩
   ·exact Ev.step st (Ev.bind hf (by simp only [if_true]; exact e))
   ·exact absurd g p)
  (fun n hn g => by
   obtain ⟨f, hf, st⟩ := key n hn
   rcases hf with ⟨p, _⟩ | ⟨_, hf⟩
   ·exact absurd p g
   ·exact Ev.step st (Ev.bind hf (by simp only [Bool.false_eq_true, if_false]; exact Ev.now _)))
  (fun _ => .inl ⟨trivial, Ev.at1 fun k => by simp only [impl_attrsOk.l0]; rw [if_neg (by omega)]⟩)
 exact this.iff ⟨fun q n hn => q.1 n (Nat.zero_le _) hn, fun q => ⟨fun n _ hn => q n hn, trivial⟩⟩
theorem sub_list (s : ByteArray) (a b : Nat) : (s.extract a b).data.toList = (s.data.toList.drop a).take (b - a) := by
 rw [ByteArray.data_extract, Array.toList_extract]
def HT (s p : ByteArray) (i : Nat) : Bool := p.data.toList.isPrefixOf (s.data.toList.drop i)
theorem HT_is (s p : ByteArray) (i : Nat) (h : i + p.size ≤ s.size) : ((s.extract i (i + p.size)).toList == p.toList) = HT s p i := by
 unfold HT
 rw [ByteArray.toList_eq, ByteArray.toList_eq, sub_list, Nat.add_sub_cancel_left, Bool.eq_iff_iff, beq_iff_eq, List.isPrefixOf_iff_prefix, List.prefix_iff_eq_take, data_length]
 exact eq_comm
theorem HT_short (s p : ByteArray) (i : Nat) (h : ¬ i + p.size ≤ s.size) (hp : 0 < p.size) : HT s p i = false := by
 unfold HT
 rw [Bool.eq_false_iff]
 intro q
 have := (List.isPrefixOf_iff_prefix.1 q).length_le
 rw [List.length_drop, data_length, data_length] at this
 omega
theorem stands_is (s p : ByteArray) (i : Nat) (hs : s.size ≤ 4000000) (hp : 0 < p.size) (hp2 : p.size ≤ 1000) (hi : i ≤ s.size) : spec_l5Stands.f s (i : Int) p = some (HT s p i) := by
 unfold spec_l5Stands.f
 have hw : wrap64 ((i : Int) + (p.size : Int)) = ((i + p.size : Nat) : Int) := by rw [wrap_id _ (by omega) (by omega)]; omega
 rw [hw]
 by_cases c : i + p.size ≤ s.size
 ·rw [if_pos (by omega), if_pos (by omega), if_pos (by omega), Int.toNat_natCast, Int.toNat_natCast, HT_is s p i c]
 ·rw [if_neg (by omega), HT_short s p i c hp]
theorem prefix_is (s p : ByteArray) (hs : s.size ≤ 4000000) (hp : 0 < p.size) (hp2 : p.size ≤ 1000) : strings_HasPrefix.f s p = some (HT s p 0) := by
 unfold strings_HasPrefix.f stringslite_HasPrefix.f
 by_cases c : 0 + p.size ≤ s.size
 ·have e := HT_is s p 0 c
  rw [Nat.zero_add] at e
  rw [if_pos (by omega), if_pos (by omega), if_pos (by omega), Int.toNat_natCast, e]
  rfl
 ·rw [if_neg (by omega), HT_short s p 0 c hp]
  rfl
theorem contains_drop (s p : ByteArray) (hp : 0 < p.size) (i : Nat) (h : i < s.size) : Lib.contains (s.data.toList.drop i) p.data.toList = (HT s p i || Lib.contains (s.data.toList.drop (i + 1)) p.data.toList) := by
 have h2 : i < s.data.toList.length := by rw [data_length]; exact h
 unfold HT
 rw [List.drop_eq_getElem_cons h2, contains_cons]
theorem search_ev (s p : ByteArray) (hs : s.size ≤ 4000000) (hp : 0 < p.size) (hp2 : p.size ≤ 1000) (d : Nat) : ∀ i : Nat, i + d = s.size → ∃ v, Ev (fun k => spec_l5Search.l0 k s (i : Int) p) v ∧ ((v < 0 ∧ Lib.contains (s.data.toList.drop i) p.data.toList = false) ∨ (0 ≤ v ∧ Lib.contains (s.data.toList.drop i) p.data.toList = true)) := by
 have fin : ∀ i : Nat, i ≤ s.size → ¬ i + p.size ≤ s.size → ∃ v, Ev (fun k => spec_l5Search.l0 k s (i : Int) p) v ∧ ((v < 0 ∧ Lib.contains (s.data.toList.drop i) p.data.toList = false) ∨ (0 ≤ v ∧ Lib.contains (s.data.toList.drop i) p.data.toList = true)) := fun i hi c => by
  refine ⟨-1, Ev.at1 fun k => ?_, .inl ⟨by omega, ?_⟩⟩
  ·simp only [spec_l5Search.l0]
   have hw : wrap64 ((i : Int) + (p.size : Int)) = ((i + p.size : Nat) : Int) := by rw [wrap_id _ (by omega) (by omega)]; omega
   rw [hw, if_neg (by omega)]
  ·unfold Lib.contains
   rw [decide_eq_false_iff_not]
   intro q
   have := Lib.index_room _ _ q
   rw [List.length_drop, data_length, data_length] at this
   omega
 induction d with
 | zero => intro i h; exact fin i (by omega) (by omega)
 | succ d ih =>
  intro i h
  by_cases c : i + p.size ≤ s.size
  ·have hw : wrap64 ((i : Int) + (p.size : Int)) = ((i + p.size : Nat) : Int) := by rw [wrap_id _ (by omega) (by omega)]; omega
   rw [contains_drop s p hp i (by omega)]
   cases e : HT s p i with
   | true =>
    refine ⟨(i : Int), Ev.at1 fun k => ?_, .inr ⟨by omega, by simp⟩⟩
    simp only [spec_l5Search.l0]
    rw [hw, if_pos (by omega), stands_is s p i hs hp hp2 (by omega), e]
    rfl
   | false =>
    obtain ⟨v, ev, hv⟩ := ih (i + 1) (by omega)
    refine ⟨v, Ev.step (fun k => ?_) ev, by simpa using hv⟩
    simp only [spec_l5Search.l0]
    rw [hw, if_pos (by omega), stands_is s p i hs hp hp2 (by omega), e, next_at _ (by omega)]
    rfl
  ·exact fin i (by omega) c
theorem blanks_ev (s : ByteArray) (hs : s.size ≤ 4000000) (d : Nat) : ∀ i : Nat, i + d = s.size → ∃ v, Ev (fun k => spec_l4Blanks.l0 k s (i : Int)) v ∧ (i : Int) ≤ v ∧ (v = (i : Int) ↔ (i = s.size ∨ BLi (bt s (i : Int)) = false)) := by
 induction d with
 | zero =>
  intro i h
  refine ⟨(i : Int), Ev.at1 fun k => ?_, by omega, ⟨fun _ => .inl (by omega), fun _ => rfl⟩⟩
  simp only [spec_l4Blanks.l0]
  rw [if_neg (by omega)]
 | succ d ih =>
  intro i h
  cases e : BLi (bt s (i : Int)) with
  | true =>
   obtain ⟨v, ev, h1, _⟩ := ih (i + 1) (by omega)
   refine ⟨v, Ev.step (fun k => ?_) ev, by omega, ⟨fun q => by omega, fun q => by rcases q with q | q; omega; exact absurd q (by simp)⟩⟩
   simp only [spec_l4Blanks.l0]
   rw [if_pos (by omega), if_pos (by omega), sBlank, e, Option.bind_some, if_pos rfl, next_at _ (by omega)]
  | false =>
   refine ⟨(i : Int), Ev.at1 fun k => ?_, by omega, ⟨fun _ => .inr rfl, fun _ => rfl⟩⟩
   simp only [spec_l4Blanks.l0]
   rw [if_pos (by omega), if_pos (by omega), sBlank, e, Option.bind_some, if_neg (by decide)]
def BR (x : S87) : Prop := x.f1.toList = [] ∧ x.f2.length = 0 ∧ x.f4 = false
def NO (s : ByteArray) : Prop := Lib.contains s.data.toList [45, 45, 62] = false ∧ HT s (⟨#[62]⟩ : ByteArray) 0 = false ∧ HT s (⟨#[45, 62]⟩ : ByteArray) 0 = false
def KO (s : ByteArray) : Prop := SMq s ∧ (62 : UInt8) ∉ s.data.toList ∧ (s.size = 0 ∨ BLi (bt s 0) = false)
def TOK (x : S87) : Prop := (x.f0 = 1 ∧ BR x ∧ x.f3.toList ≠ [] ∧ PT x.f3) ∨ (x.f0 = 2 ∧ x.f3.toList = [] ∧ TN x.f1 ∧ AT x.f2) ∨ (x.f0 = 3 ∧ x.f3.toList = [] ∧ x.f2.length = 0 ∧ x.f4 = false ∧ TN x.f1) ∨ (x.f0 = 4 ∧ BR x ∧ PT x.f3 ∧ NO x.f3) ∨ (x.f0 = 5 ∧ BR x ∧ PT x.f3 ∧ KO x.f3)
def SK (x : S87) : Prop := x.f1.size ≤ 1048576 ∧ x.f3.size ≤ 1048576 ∧ SA x.f2
theorem TOK_of {x : S87} {n : Int} (h : x.f0 = n) {Q : Prop} (e : (n = 1 ∧ BR x ∧ x.f3.toList ≠ [] ∧ PT x.f3) ∨ (n = 2 ∧ x.f3.toList = [] ∧ TN x.f1 ∧ AT x.f2) ∨ (n = 3 ∧ x.f3.toList = [] ∧ x.f2.length = 0 ∧ x.f4 = false ∧ TN x.f1) ∨ (n = 4 ∧ BR x ∧ PT x.f3 ∧ NO x.f3) ∨ (n = 5 ∧ BR x ∧ PT x.f3 ∧ KO x.f3) ↔ Q) : TOK x ↔ Q := by
 unfold TOK
 rw [h]
 exact e
theorem iNote (s : ByteArray) (h : s.size ≤ 1048576) : EvB (fun k => impl_noteOk.f k s) (PT s ∧ NO s) := by
 unfold impl_noteOk.f
 refine EvB.bind (iPlain s h) (fun p => ?_) (fun p => ?_)
 ·simp only [if_true]
  have c0 : strings_Contains.f s (⟨#[45, 45, 62]⟩ : ByteArray) = some (Lib.contains s.data.toList [45, 45, 62]) := by
   unfold strings_Contains.f
   rw [if_pos (by omega)]
  rw [c0, prefix_is s (⟨#[62]⟩ : ByteArray) (by omega) (by decide) (by decide), prefix_is s (⟨#[45, 62]⟩ : ByteArray) (by omega) (by decide) (by decide)]
  simp only [Option.bind_some]
  unfold NO
  cases Lib.contains s.data.toList [45, 45, 62] <;> cases HT s (⟨#[62]⟩ : ByteArray) 0 <;> cases HT s (⟨#[45, 62]⟩ : ByteArray) 0 <;> simp only [if_true, Bool.false_eq_true, if_false, Bool.not_true, Bool.not_false]
  all_goals first
   | exact .inl ⟨by simp [p], Ev.now _⟩
   | exact .inr ⟨fun q => by simp at q, Ev.now _⟩
 ·simp only [Bool.false_eq_true, if_false]
  exact .inr ⟨fun q => p q.1, Ev.now _⟩
theorem iKind (s : ByteArray) (h : s.size ≤ 1048576) : EvB (fun k => impl_kindOk.f k s) (PT s ∧ KO s) := by
 unfold impl_kindOk.f
 refine EvB.bind (iPlain s h) (fun p => ?_) (fun p => ?_)
 ·simp only [if_true]
  rw [iSmall s (by omega), has_one s 62 (by omega)]
  simp only [Option.bind_some]
  by_cases c1 : (smallOf s).toList = s.toList
  ·simp only [if_pos c1]
   by_cases c2 : (62 : UInt8) ∈ s.data.toList
   ·simp only [decide_eq_true c2, if_true]
    exact .inr ⟨fun q => q.2.2.1 c2, Ev.now _⟩
   ·simp only [decide_eq_false c2, Bool.false_eq_true, if_false]
    by_cases c3 : s.toList = ([] : List UInt8)
    ·simp only [if_pos c3]
     exact .inl ⟨⟨p, c1, c2, .inl ((toList_nil s).1 c3)⟩, Ev.now _⟩
    ·have c4 : s.size ≠ 0 := fun q => c3 ((toList_nil s).2 q)
     simp only [if_neg c3, if_pos (show (0 : Int) < (s.size : Int) by omega), iBlank, Option.bind_some]
     refine EvB.now ?_
     rw [Bool.not_eq_true']
     exact ⟨fun q => ⟨p, c1, c2, .inr q⟩, fun q => by rcases q.2.2.2 with q | q; exact absurd q c4; exact q⟩
  ·simp only [if_neg c1]
   exact .inr ⟨fun q => c1 q.2.1, Ev.now _⟩
 ·simp only [Bool.false_eq_true, if_false]
  exact .inr ⟨fun q => p q.1, Ev.now _⟩
theorem iToken (x : S87) (h : SK x) : EvB (fun k => impl_tokenOk.f k x.f0 x.f1 x.f2 x.f3 x.f4) (TOK x) := by
 obtain ⟨h1, h3, h2⟩ := h
 have hb : ∃ b : Bool, (b = true ↔ BR x) ∧ ∀ k, impl_tokenOk.f k x.f0 x.f1 x.f2 x.f3 x.f4 = impl_tokenOk.j0 k b x.f0 x.f1 x.f2 x.f3 x.f4 := by
  unfold impl_tokenOk.f BR
  by_cases c1 : x.f1.toList = ([] : List UInt8)
  ·by_cases c2 : (x.f2.length : Int) = 0
   ·refine ⟨!x.f4, ?_, fun k => by rw [if_pos c1, if_pos c2]⟩
    rw [Bool.not_eq_true']
    exact ⟨fun q => ⟨c1, by omega, q⟩, fun q => q.2.2⟩
   ·exact ⟨false, ⟨fun q => by simp at q, fun q => absurd (show (x.f2.length : Int) = 0 by have := q.2.1; omega) c2⟩, fun k => by rw [if_pos c1, if_neg c2]⟩
  ·exact ⟨false, ⟨fun q => by simp at q, fun q => absurd q.1 c1⟩, fun k => by rw [if_neg c1]⟩
 obtain ⟨b, hb, e⟩ := hb
 have e2 : (fun k => impl_tokenOk.f k x.f0 x.f1 x.f2 x.f3 x.f4) = fun k => impl_tokenOk.j0 k b x.f0 x.f1 x.f2 x.f3 x.f4 := funext e
 rw [e2]
 by_cases k1 : x.f0 = 1
 ·refine EvB.iff ?_ (TOK_of k1 (Q := BR x ∧ x.f3.toList ≠ [] ∧ PT x.f3) (by simp)).symm
  by_cases cb : b = true
  ·by_cases c3 : x.f3.toList = ([] : List UInt8)
   ·exact .inr ⟨fun q => q.2.1 c3, Ev.at1 fun k => by simp only [impl_tokenOk.j0]; rw [if_pos k1, if_pos cb, if_pos c3]⟩
   ·exact EvB.iff (EvB.step (f := fun k => (impl_plainText.f k x.f3).bind fun t => some t) (fun k => by simp only [impl_tokenOk.j0]; rw [if_pos k1, if_pos cb, if_neg c3]) (EvB.bind (iPlain _ h3) (fun p => EvB.now ⟨fun _ => p, fun _ => rfl⟩) (fun p => EvB.now ⟨fun q => by simp at q, fun q => absurd q p⟩))) ⟨fun q => ⟨hb.1 cb, c3, q⟩, fun q => q.2.2⟩
  ·exact .inr ⟨fun q => cb (hb.2 q.1), Ev.at1 fun k => by simp only [impl_tokenOk.j0]; rw [if_pos k1, if_neg cb]⟩
 by_cases k2 : x.f0 = 2
 ·refine EvB.iff ?_ (TOK_of k2 (Q := x.f3.toList = [] ∧ TN x.f1 ∧ AT x.f2) (by simp)).symm
  by_cases c3 : x.f3.toList = ([] : List UInt8)
  ·exact EvB.iff (EvB.step (f := fun k => (impl_tagNameOk.f k x.f1).bind fun t => if t = true then ((impl_attrsOk.f k x.f2).bind fun t => some t) else some false) (fun k => by simp only [impl_tokenOk.j0]; rw [if_neg k1, if_pos k2, if_pos c3]) (EvB.bind (Q := TN x.f1 ∧ AT x.f2) (iTagName _ h1) (fun p => by
    simp only [if_true]
    exact EvB.bind (iAttrs _ h2) (fun q => EvB.now ⟨fun _ => ⟨p, q⟩, fun _ => rfl⟩) (fun q => EvB.now ⟨fun w => by simp at w, fun w => absurd w.2 q⟩)) (fun p => by
    simp only [Bool.false_eq_true, if_false]
    exact .inr ⟨fun w => p w.1, Ev.now _⟩))) ⟨fun q => ⟨c3, q⟩, fun q => q.2⟩
  ·exact .inr ⟨fun q => c3 q.1, Ev.at1 fun k => by simp only [impl_tokenOk.j0]; rw [if_neg k1, if_pos k2, if_neg c3]⟩
 by_cases k3 : x.f0 = 3
 ·refine EvB.iff ?_ (TOK_of k3 (Q := x.f3.toList = [] ∧ x.f2.length = 0 ∧ x.f4 = false ∧ TN x.f1) (by simp)).symm
  by_cases c3 : x.f3.toList = ([] : List UInt8)
  ·by_cases c2 : (x.f2.length : Int) = 0
   ·by_cases c4 : x.f4 = true
    ·exact .inr ⟨fun q => by rw [c4] at q; exact absurd q.2.2.1 (by simp), Ev.at1 fun k => by simp only [impl_tokenOk.j0]; rw [if_neg k1, if_neg k2, if_pos k3, if_pos c3, if_pos c2, if_pos c4]⟩
    ·exact EvB.iff (EvB.step (f := fun k => (impl_tagNameOk.f k x.f1).bind fun t => some t) (fun k => by simp only [impl_tokenOk.j0]; rw [if_neg k1, if_neg k2, if_pos k3, if_pos c3, if_pos c2, if_neg c4]) (EvB.bind (iTagName _ h1) (fun p => EvB.now ⟨fun _ => p, fun _ => rfl⟩) (fun p => EvB.now ⟨fun q => by simp at q, fun q => absurd q p⟩))) ⟨fun q => ⟨c3, by omega, Bool.eq_false_iff.mpr c4, q⟩, fun q => q.2.2.2⟩
   ·exact .inr ⟨fun q => c2 (by have := q.2.1; omega), Ev.at1 fun k => by simp only [impl_tokenOk.j0]; rw [if_neg k1, if_neg k2, if_pos k3, if_pos c3, if_neg c2]⟩
  ·exact .inr ⟨fun q => c3 q.1, Ev.at1 fun k => by simp only [impl_tokenOk.j0]; rw [if_neg k1, if_neg k2, if_pos k3, if_neg c3]⟩
 by_cases k4 : x.f0 = 4
 ·refine EvB.iff ?_ (TOK_of k4 (Q := BR x ∧ PT x.f3 ∧ NO x.f3) (by simp)).symm
  by_cases cb : b = true
  ·exact EvB.iff (EvB.step (f := fun k => (impl_noteOk.f k x.f3).bind fun t => some t) (fun k => by simp only [impl_tokenOk.j0]; rw [if_neg k1, if_neg k2, if_neg k3, if_pos k4, if_pos cb]) (EvB.bind (iNote _ h3) (fun p => EvB.now ⟨fun _ => p, fun _ => rfl⟩) (fun p => EvB.now ⟨fun q => by simp at q, fun q => absurd q p⟩))) ⟨fun q => ⟨hb.1 cb, q⟩, fun q => q.2⟩
  ·exact .inr ⟨fun q => cb (hb.2 q.1), Ev.at1 fun k => by simp only [impl_tokenOk.j0]; rw [if_neg k1, if_neg k2, if_neg k3, if_pos k4, if_neg cb]⟩
 by_cases k5 : x.f0 = 5
 ·refine EvB.iff ?_ (TOK_of k5 (Q := BR x ∧ PT x.f3 ∧ KO x.f3) (by simp)).symm
  by_cases cb : b = true
  ·exact EvB.iff (EvB.step (f := fun k => (impl_kindOk.f k x.f3).bind fun t => some t) (fun k => by simp only [impl_tokenOk.j0]; rw [if_neg k1, if_neg k2, if_neg k3, if_neg k4, if_pos k5, if_pos cb]) (EvB.bind (iKind _ h3) (fun p => EvB.now ⟨fun _ => p, fun _ => rfl⟩) (fun p => EvB.now ⟨fun q => by simp at q, fun q => absurd q p⟩))) ⟨fun q => ⟨hb.1 cb, q⟩, fun q => q.2⟩
  ·exact .inr ⟨fun q => cb (hb.2 q.1), Ev.at1 fun k => by simp only [impl_tokenOk.j0]; rw [if_neg k1, if_neg k2, if_neg k3, if_neg k4, if_pos k5, if_neg cb]⟩
 ·exact .inr ⟨fun q => by rcases q with q | q | q | q | q; exact k1 q.1; exact k2 q.1; exact k3 q.1; exact k4 q.1; exact k5 q.1, Ev.at1 fun k => by simp only [impl_tokenOk.j0]; rw [if_neg k1, if_neg k2, if_neg k3, if_neg k4, if_neg k5]⟩
theorem CK_nil (s : ByteArray) (h : s.toList = []) : PT s := by
 have hz := (toList_nil s).1 h
 have h1 := SG_length s
 have h2 : SG s = [] := List.length_eq_zero_iff.1 (by omega)
 refine ⟨?_, fun n hn => by omega⟩
 unfold CK
 rw [h2, h, ByteArray.toList_eq]
 rfl
def Q0 (x : S87) : Prop := (x.f0 = 1 ∧ x.f1.toList = [] ∧ x.f3.toList ≠ []) ∨ ((x.f0 = 2 ∨ x.f0 = 3) ∧ x.f3.toList = [] ∧ TN x.f1 ∧ AT x.f2) ∨ (x.f0 = 4 ∧ x.f1.toList = [] ∧ NO x.f3) ∨ (x.f0 = 5 ∧ x.f1.toList = [] ∧ KO x.f3)
theorem sj1 (x : S87) (h : SK x) (k1 : x.f0 ≠ 1) (b : Bool) (hb : b = true ↔ (x.f0 = 2 ∨ x.f0 = 3)) : EvB (fun k => spec_l5Token.j1 k x.f0 b x.f0 x.f1 x.f2 x.f3 x.f4) (Q0 x) := by
 obtain ⟨h1, h3, h2⟩ := h
 by_cases cb : b = true
 ·have k := hb.1 cb
  have e : Q0 x ↔ (x.f3.toList = [] ∧ TN x.f1 ∧ AT x.f2) := by
   unfold Q0
   rcases k with k | k <;> rw [k] <;> simp
  refine EvB.iff ?_ e.symm
  by_cases c3 : x.f3.toList = ([] : List UInt8)
  ·refine EvB.iff (P := TN x.f1 ∧ AT x.f2) ?_ ⟨fun q => ⟨c3, q⟩, fun q => q.2⟩
   refine EvB.step (f := fun k => (spec_l5Name.f k x.f1 (⟨#[47, 62]⟩ : ByteArray)).bind fun t => if t = true then (if 0 < (x.f1.size : Int) then ((spec_IsLetter.f (wrap64 (bt x.f1 0))).bind fun t => if t = true then ((spec_l5Attrs.f k x.f2).bind fun t => some t) else some false) else none) else some false) (fun k => by simp only [spec_l5Token.j1]; rw [if_pos cb, if_pos c3]) (EvB.bind (sName _ h1) (fun p => ?_) (fun p => ?_))
   ·have hp : 0 < x.f1.size := by
     have := p.2.1
     rw [Ne, toList_nil] at this
     omega
    have hr := bt_rng x.f1 0
    simp only [if_true, if_pos (show (0 : Int) < (x.f1.size : Int) by omega), wrap_id (bt x.f1 0) (by omega) (by omega), spec_IsLetter_is, Option.bind_some]
    by_cases l : LtOk (bt x.f1 0) = true
    ·simp only [if_pos l]
     exact EvB.bind (sAttrs _ h2) (fun q => EvB.now ⟨fun _ => ⟨⟨hp, l, p.1, p.2.2.1, p.2.2.2⟩, q⟩, fun _ => rfl⟩) (fun q => EvB.now ⟨fun w => by simp at w, fun w => absurd w.2 q⟩)
    ·simp only [if_neg l]
     exact .inr ⟨fun w => l w.1.2.1, Ev.now _⟩
   ·simp only [Bool.false_eq_true, if_false]
    exact .inr ⟨fun w => p ⟨w.1.2.2.1, fun q => by have := w.1.1; have := (toList_nil x.f1).1 q; omega, w.1.2.2.2.1, w.1.2.2.2.2⟩, Ev.now _⟩
  ·exact .inr ⟨fun q => c3 q.1, Ev.at1 fun k => by simp only [spec_l5Token.j1]; rw [if_pos cb, if_neg c3]⟩
 ·have k2 : ¬ x.f0 = 2 := fun q => cb (hb.2 (.inl q))
  have k3 : ¬ x.f0 = 3 := fun q => cb (hb.2 (.inr q))
  by_cases k4 : x.f0 = 4
  ·have e : Q0 x ↔ (x.f1.toList = [] ∧ NO x.f3) := by
    unfold Q0
    rw [k4]
    simp
   refine EvB.iff ?_ e.symm
   by_cases c1 : x.f1.toList = ([] : List UInt8)
   ·obtain ⟨v, ev, hv⟩ := search_ev x.f3 (⟨#[45, 45, 62]⟩ : ByteArray) (by omega) (by decide) (by decide) x.f3.size 0 (by omega)
    have hd : (⟨#[45, 45, 62]⟩ : ByteArray).data.toList = [45, 45, 62] := rfl
    rw [hd, List.drop_zero] at hv
    have g1 := stands_is x.f3 (⟨#[62]⟩ : ByteArray) 0 (by omega) (by decide) (by decide) (by omega)
    have g2 := stands_is x.f3 (⟨#[45, 62]⟩ : ByteArray) 0 (by omega) (by decide) (by decide) (by omega)
    have body : EvB (fun _ => if v < 0 then ((some (HT x.f3 (⟨#[62]⟩ : ByteArray) 0)).bind fun t => if t = true then some false else ((some (HT x.f3 (⟨#[45, 62]⟩ : ByteArray) 0)).bind fun t => some (!t))) else some false) (x.f1.toList = [] ∧ NO x.f3) := by
     unfold NO
     rcases hv with ⟨a, a2⟩ | ⟨a, a2⟩
     ·simp only [if_pos a, Option.bind_some, a2]
      cases HT x.f3 (⟨#[62]⟩ : ByteArray) 0 <;> cases HT x.f3 (⟨#[45, 62]⟩ : ByteArray) 0 <;> simp only [if_true, Bool.false_eq_true, if_false, Bool.not_true, Bool.not_false]
      all_goals first
       | exact .inl ⟨by simp [c1], Ev.now _⟩
       | exact .inr ⟨fun q => by simp at q, Ev.now _⟩
     ·simp only [if_neg (show ¬ v < 0 by omega), a2]
      exact .inr ⟨fun q => by simp at q, Ev.now _⟩
    have st : ∀ k, spec_l5Token.j1 (k + 1) x.f0 b x.f0 x.f1 x.f2 x.f3 x.f4 = (spec_l5Search.f k x.f3 0 (⟨#[45, 45, 62]⟩ : ByteArray)).bind fun v => if v < 0 then ((some (HT x.f3 (⟨#[62]⟩ : ByteArray) 0)).bind fun t => if t = true then some false else ((some (HT x.f3 (⟨#[45, 62]⟩ : ByteArray) 0)).bind fun t => some (!t))) else some false := fun k => by
     simp only [spec_l5Token.j1]
     rw [if_neg cb, if_pos k4, if_pos c1]
     have g1' : spec_l5Stands.f x.f3 0 (⟨#[62]⟩ : ByteArray) = some (HT x.f3 (⟨#[62]⟩ : ByteArray) 0) := g1
     have g2' : spec_l5Stands.f x.f3 0 (⟨#[45, 62]⟩ : ByteArray) = some (HT x.f3 (⟨#[45, 62]⟩ : ByteArray) 0) := g2
     rw [g1', g2']
    rcases body with ⟨b1, b2⟩ | ⟨b1, b2⟩
    ·exact .inl ⟨b1, Ev.step st (Ev.bind ev b2)⟩
    ·exact .inr ⟨b1, Ev.step st (Ev.bind ev b2)⟩
   ·exact .inr ⟨fun q => c1 q.1, Ev.at1 fun k => by simp only [spec_l5Token.j1]; rw [if_neg cb, if_pos k4, if_neg c1]⟩
  by_cases k5 : x.f0 = 5
  ·have e : Q0 x ↔ (x.f1.toList = [] ∧ KO x.f3) := by
    unfold Q0
    rw [k5]
    simp
   refine EvB.iff ?_ e.symm
   by_cases c1 : x.f1.toList = ([] : List UInt8)
   ·by_cases c2 : (smallOf x.f3).toList = x.f3.toList
    ·obtain ⟨v, ev, hv⟩ := find_ev x.f3 62 (by omega) x.f3.size 0 (by omega)
     obtain ⟨u, eu, hu0, hu⟩ := blanks_ev x.f3 (by omega) x.f3.size 0 (by omega)
     have st : ∀ k, spec_l5Token.j1 (k + 1) x.f0 b x.f0 x.f1 x.f2 x.f3 x.f4 = (spec_l4Find.f k x.f3 0 62).bind fun v => if v < 0 then ((spec_l4Blanks.f k x.f3 0).bind fun t => some (t == 0)) else some false := fun k => by
      simp only [spec_l5Token.j1]
      rw [if_neg cb, if_neg k4, if_pos k5, if_pos c1, sSmall _ (by omega), Option.bind_some, if_pos c2]
     have hm : (62 : UInt8) ∈ x.f3.data.toList ↔ ∃ n, n < x.f3.size ∧ bt x.f3 (n : Int) = 62 := mem_bt x.f3 62
     rcases hv with ⟨a1, a2⟩ | ⟨n, a1, a2, a3, a4⟩
     ·have eu' : Ev (fun k => spec_l4Blanks.f k x.f3 0) u := eu
      by_cases c3 : u = 0
      ·refine .inl ⟨⟨c1, c2, fun q => by obtain ⟨n, q1, q2⟩ := hm.1 q; exact a2 n (by omega) q1 q2, ?_⟩, Ev.step st (Ev.bind ev ?_)⟩
       ·rcases hu.1 c3 with q | q
        ·exact .inl q.symm
        ·exact .inr q
       ·simp only [if_pos a1]
        exact Ev.bind eu' (by rw [beq_iff_eq.mpr c3]; exact Ev.now _)
      ·refine .inr ⟨fun q => c3 (hu.2 (by rcases q.2.2.2 with q | q; exact .inl q.symm; exact .inr q)), Ev.step st (Ev.bind ev ?_)⟩
       simp only [if_pos a1]
       exact Ev.bind eu' (by rw [beq_eq_false_iff_ne.mpr c3]; exact Ev.now _)
     ·refine .inr ⟨fun q => q.2.2.1 (hm.2 ⟨n, a2, a3⟩), Ev.step st (Ev.bind ev ?_)⟩
      simp only [if_neg (show ¬ v < 0 by omega)]
      exact Ev.now _
    ·exact .inr ⟨fun q => c2 q.2.1, Ev.at1 fun k => by simp only [spec_l5Token.j1]; rw [if_neg cb, if_neg k4, if_pos k5, if_pos c1, sSmall _ (by omega), Option.bind_some, if_neg c2]⟩
   ·exact .inr ⟨fun q => c1 q.1, Ev.at1 fun k => by simp only [spec_l5Token.j1]; rw [if_neg cb, if_neg k4, if_pos k5, if_neg c1]⟩
  ·exact .inr ⟨fun q => by rcases q with q | q | q | q; exact k1 q.1; exact cb (hb.2 q.1); exact k4 q.1; exact k5 q.1, Ev.at1 fun k => by simp only [spec_l5Token.j1]; rw [if_neg cb, if_neg k4, if_neg k5]⟩
theorem sj0 (x : S87) (h : SK x) : EvB (fun k => spec_l5Token.j0 k false x.f0 x.f1 x.f2 x.f3 x.f4) (Q0 x) := by
 by_cases k1 : x.f0 = 1
 ·have e : Q0 x ↔ (x.f1.toList = [] ∧ x.f3.toList ≠ []) := by
   unfold Q0
   rw [k1]
   simp
  refine EvB.iff ?_ e.symm
  by_cases c1 : x.f1.toList = ([] : List UInt8)
  ·refine EvB.step (f := fun _ => some (x.f3.toList != ([] : List UInt8))) (fun k => by simp only [spec_l5Token.j0]; rw [if_neg (by decide), if_pos k1, if_pos c1]) (EvB.now ?_)
   rw [bne_iff_ne]
   exact ⟨fun q => ⟨c1, q⟩, fun q => q.2⟩
  ·exact .inr ⟨fun q => c1 q.1, Ev.at1 fun k => by simp only [spec_l5Token.j0]; rw [if_neg (by decide), if_pos k1, if_neg c1]⟩
 by_cases k2 : x.f0 = 2
 ·refine EvB.step (fun k => ?_) (sj1 x h k1 (x.f0 == 2) ⟨fun q => .inl (by simpa using q), fun q => by rcases q with q | q; simpa using q; omega⟩)
  simp only [spec_l5Token.j0]
  rw [if_neg (by decide), if_neg k1, if_pos k2]
 ·refine EvB.step (fun k => ?_) (sj1 x h k1 (x.f0 == 3) ⟨fun q => .inr (by simpa using q), fun q => by rcases q with q | q; omega; simpa using q⟩)
  simp only [spec_l5Token.j0]
  rw [if_neg (by decide), if_neg k1, if_neg k2]
theorem sToken (x : S87) (h : SK x) : EvB (fun k => spec_l5Token.f k x.f0 x.f1 x.f2 x.f3 x.f4) (TOK x) := by
 have hx := h
 obtain ⟨h1, h3, h2⟩ := h
 have out : Ev (fun k => spec_l5Token.j0 k true x.f0 x.f1 x.f2 x.f3 x.f4) false := Ev.at1 fun k => by simp only [spec_l5Token.j0]; rw [if_pos trivial]
 have line : EvB (fun k => (spec_l5Line.f k x.f3).bind fun t => spec_l5Token.j0 k (!t) x.f0 x.f1 x.f2 x.f3 x.f4) (PT x.f3 ∧ Q0 x) :=
  EvB.bind (sLine _ h3) (fun p => (sj0 x hx).iff ⟨fun q => ⟨p, q⟩, fun q => q.2⟩) (fun p => .inr ⟨fun q => p q.1, out⟩)
 unfold spec_l5Token.f
 by_cases k2 : x.f0 = 2
 ·simp only [if_pos k2]
  refine line.iff ?_
  unfold Q0 TOK
  rw [k2]
  simp only [Int.reduceEq, false_and, true_or, true_and, or_false, false_or]
  exact ⟨fun q => q.2, fun q => ⟨CK_nil _ q.1, q⟩⟩
 ·simp only [if_neg k2]
  by_cases c2 : (x.f2.length : Int) > 0
  ·simp only [if_pos c2]
   refine .inr ⟨fun q => ?_, out⟩
   unfold TOK BR at q
   rcases q with q | q | q | q | q
   ·have := q.2.1.2.1; omega
   ·exact k2 q.1
   ·have := q.2.2.1; omega
   ·have := q.2.1.2.1; omega
   ·have := q.2.1.2.1; omega
  ·simp only [if_neg c2]
   have c2' : x.f2.length = 0 := by omega
   by_cases c4 : x.f4 = true
   ·simp only [if_pos c4]
    refine .inr ⟨fun q => ?_, out⟩
    unfold TOK BR at q
    rw [c4] at q
    rcases q with q | q | q | q | q
    ·exact absurd q.2.1.2.2 (by simp)
    ·exact k2 q.1
    ·exact absurd q.2.2.2.1 (by simp)
    ·exact absurd q.2.1.2.2 (by simp)
    ·exact absurd q.2.1.2.2 (by simp)
   ·simp only [if_neg c4]
    have c4' := Bool.eq_false_iff.mpr c4
    have hAT : AT x.f2 := fun n hn => by omega
    refine line.iff ?_
    unfold Q0 TOK BR
    constructor
    ·rintro ⟨p, q | q | q | q⟩
     ·exact .inl ⟨q.1, ⟨q.2.1, c2', c4'⟩, q.2.2, p⟩
     ·rcases q with ⟨q | q, q2⟩
      ·exact absurd q k2
      ·exact .inr (.inr (.inl ⟨q, q2.1, c2', c4', q2.2.1⟩))
     ·exact .inr (.inr (.inr (.inl ⟨q.1, ⟨q.2.1, c2', c4'⟩, p, q.2.2⟩)))
     ·exact .inr (.inr (.inr (.inr ⟨q.1, ⟨q.2.1, c2', c4'⟩, p, q.2.2⟩)))
    ·rintro (q | q | q | q | q)
     ·exact ⟨q.2.2.2, .inl ⟨q.1, q.2.1.1, q.2.2.1⟩⟩
     ·exact absurd q.1 k2
     ·exact ⟨CK_nil _ q.2.1, .inr (.inl ⟨.inr q.1, q.2.1, q.2.2.2.2, hAT⟩)⟩
     ·exact ⟨q.2.2.1, .inr (.inr (.inl ⟨q.1, q.2.1.1, q.2.2.2⟩))⟩
     ·exact ⟨q.2.2.1, .inr (.inr (.inr ⟨q.1, q.2.1.1, q.2.2.2⟩))⟩
theorem sm1_byte (x : Int) (h0 : 0 ≤ x) (h1 : x ≤ 255) : 0 ≤ sm1 x ∧ sm1 x ≤ 255 := by unfold sm1; split <;> omega
theorem smallOf_size (s : ByteArray) : (smallOf s).size = s.size := by unfold smallOf; rw [strOfNums_size, List.length_map, bytesOf_length]
theorem bytesOf_smallOf (s : ByteArray) : bytesOf (smallOf s) = (bytesOf s).map sm1 := by
 unfold smallOf
 have h : ∀ l : List UInt8, (((l.map fun b => (b.toNat : Int)).map sm1).map fun n => UInt8.ofNat n.toNat).map (fun b => (b.toNat : Int)) = (l.map fun b => (b.toNat : Int)).map sm1 := by
  intro l
  induction l with
  | nil => rfl
  | cons a l ih =>
   simp only [List.map_cons, ih]
   congr 1
   have ha : a.toNat < 256 := a.toNat_lt
   have := sm1_byte (a.toNat : Int) (by omega) (by omega)
   rw [UInt8.toNat_ofNat']
   omega
 unfold bytesOf
 rw [strOfNums_data]
 exact h _
theorem eqS (a b : ByteArray) : a.toList = b.toList ↔ (a.size = b.size ∧ ∀ j, j < a.size → bt a (j : Int) = bt b (j : Int)) := by
 rw [ByteArray.toList_eq, ByteArray.toList_eq]
 constructor
 ·intro h
  have hl : a.size = b.size := by rw [← data_length, ← data_length, h]
  refine ⟨hl, fun j hj => ?_⟩
  rw [bt_list a j (by rw [data_length]; exact hj), bt_list b j (by rw [data_length]; omega)]
  congr 2
  simp only [h]
 ·rintro ⟨hl, h⟩
  refine List.ext_getElem (by rw [data_length, data_length]; exact hl) (fun j h1 h2 => ?_)
  have e := h j (by rw [← data_length]; exact h1)
  rw [bt_list a j h1, bt_list b j h2] at e
  exact UInt8.toNat_inj.1 (by omega)
theorem bt_small (s : ByteArray) (j : Nat) (h : j < s.size) : bt (smallOf s) (j : Int) = sm1 (bt s (j : Int)) := by
 rw [← rd_bytesOf, ← rd_bytesOf, bytesOf_smallOf]
 unfold rd
 rw [Int.toNat_natCast]
 have h2 : j < (bytesOf s).length := by rw [bytesOf_length]; exact h
 simp [List.getD_eq_getElem?_getD, List.getElem?_eq_getElem h2]
theorem bt_ext (s : ByteArray) (a b j : Nat) (hb : b ≤ s.size) (hj : a + j < b) : bt (s.extract a b) (j : Int) = bt s ((a + j : Nat) : Int) := by
 have h1 : j < (s.extract a b).data.toList.length := by rw [data_length, ext_size s a b hb (by omega)]; omega
 rw [bt_list _ j h1, bt_list s (a + j) (by rw [data_length]; omega)]
 congr 2
 simp only [sub_list, List.getElem_take, List.getElem_drop]
theorem bt_app1 (a b : ByteArray) (j : Nat) (h : j < a.size) : bt (a ++ b) (j : Int) = bt a (j : Int) := by
 rw [bt_list _ j (by rw [data_length, ByteArray.size_append]; omega), bt_list a j (by rw [data_length]; exact h)]
 congr 2
 simp only [data_append]
 rw [List.getElem_append_left]
theorem bt_app2 (a b : ByteArray) (j : Nat) (h : j < b.size) : bt (a ++ b) ((a.size + j : Nat) : Int) = bt b (j : Int) := by
 rw [bt_list _ (a.size + j) (by rw [data_length, ByteArray.size_append]; omega), bt_list b j (by rw [data_length]; exact h)]
 congr 2
 simp only [data_append]
 rw [List.getElem_append_right (by rw [data_length]; omega)]
 congr 1
 rw [data_length]
 omega
def MT (s nm : ByteArray) (i : Nat) : Prop := i + 2 + nm.size < s.size ∧ bt s (i : Int) = 60 ∧ bt s ((i + 1 : Nat) : Int) = 47 ∧ (∀ j, j < nm.size → sm1 (bt s ((i + 2 + j : Nat) : Int)) = sm1 (bt nm (j : Int))) ∧ (BLi (bt s ((i + 2 + nm.size : Nat) : Int)) = true ∨ bt s ((i + 2 + nm.size : Nat) : Int) = 47 ∨ bt s ((i + 2 + nm.size : Nat) : Int) = 62)
theorem raw_gen (s nm : ByteArray) (F : Nat → Nat → Option Int) (h1 : ∀ i, MT s nm i → ∀ k, F (k + 1) i = some (i : Int)) (h2 : ∀ i, i + 2 + nm.size < s.size → ¬ MT s nm i → ∀ k, F (k + 1) i = F k (i + 1)) (h3 : ∀ i, i ≤ s.size → ¬ i + 2 + nm.size < s.size → ∀ k, F (k + 1) i = some (s.size : Int)) (d : Nat) :
  ∀ i, i + d = s.size → ∃ v, Ev (fun k => F k i) v ∧ ((v = (s.size : Int) ∧ ∀ j, i ≤ j → ¬ MT s nm j) ∨ (∃ j : Nat, i ≤ j ∧ MT s nm j ∧ v = (j : Int) ∧ ∀ m, i ≤ m → m < j → ¬ MT s nm m)) := by
 induction d with
 | zero =>
  intro i h
  exact ⟨_, Ev.at1 (h3 i (by omega) (by omega)), .inl ⟨rfl, fun j hj q => by have := q.1; omega⟩⟩
 | succ d ih =>
  intro i h
  by_cases c : i + 2 + nm.size < s.size
  ·by_cases m : MT s nm i
   ·exact ⟨_, Ev.at1 (h1 i m), .inr ⟨i, Nat.le_refl _, m, rfl, fun q a b => by omega⟩⟩
   ·obtain ⟨v, ev, hv⟩ := ih (i + 1) (by omega)
    refine ⟨v, Ev.step (h2 i c m) ev, ?_⟩
    rcases hv with ⟨a, b⟩ | ⟨j, a, b, e, f⟩
    ·refine .inl ⟨a, fun j hj => ?_⟩
     by_cases q : j = i
     ·subst q; exact m
     ·exact b j (by omega)
    ·refine .inr ⟨j, by omega, b, e, fun q q1 q2 => ?_⟩
     by_cases z : q = i
     ·subst z; exact m
     ·exact f q (by omega) q2
  ·exact ⟨_, Ev.at1 (h3 i (by omega) c), .inl ⟨rfl, fun j hj q => by have := q.1; omega⟩⟩
theorem small_size (s : ByteArray) : (smallOf s).size = s.size := smallOf_size s
theorem sEq (s nm : ByteArray) (i : Nat) (h : i + 2 + nm.size ≤ s.size) : (smallOf (s.extract (i + 2) (i + 2 + nm.size))).toList = (smallOf nm).toList ↔ ∀ j, j < nm.size → sm1 (bt s ((i + 2 + j : Nat) : Int)) = sm1 (bt nm (j : Int)) := by
 have hz : (s.extract (i + 2) (i + 2 + nm.size)).size = nm.size := by rw [ext_size _ _ _ h (by omega)]; omega
 rw [eqS, small_size, small_size, hz]
 constructor
 ·intro q j hj
  have := q.2 j hj
  rw [bt_small _ j (by omega), bt_small _ j hj, bt_ext s _ _ j h (by omega)] at this
  exact this
 ·intro q
  refine ⟨rfl, fun j hj => ?_⟩
  rw [bt_small _ j (by omega), bt_small _ j hj, bt_ext s _ _ j h (by omega)]
  exact q j hj
theorem sm47 (x : Int) : sm1 x = 47 ↔ x = 47 := by unfold sm1; split <;> omega
theorem sm60 (x : Int) : sm1 x = 60 ↔ x = 60 := by unfold sm1; split <;> omega
theorem iEq (s nm : ByteArray) (i : Nat) (h : i + (2 + nm.size) ≤ s.size) : (smallOf (s.extract i (i + (2 + nm.size)))).toList = ((⟨#[60, 47]⟩ : ByteArray) ++ smallOf nm).toList ↔ (bt s (i : Int) = 60 ∧ bt s ((i + 1 : Nat) : Int) = 47 ∧ ∀ j, j < nm.size → sm1 (bt s ((i + 2 + j : Nat) : Int)) = sm1 (bt nm (j : Int))) := by
 have hz : (s.extract i (i + (2 + nm.size))).size = 2 + nm.size := by rw [ext_size _ _ _ h (by omega)]; omega
 have h2 : (⟨#[60, 47]⟩ : ByteArray).size = 2 := rfl
 have hb : ((⟨#[60, 47]⟩ : ByteArray) ++ smallOf nm).size = 2 + nm.size := by rw [ByteArray.size_append, small_size, h2]
 have b0 : bt ((⟨#[60, 47]⟩ : ByteArray) ++ smallOf nm) ((0 : Nat) : Int) = 60 := by rw [bt_app1 _ _ 0 (by decide)]; rfl
 have b1 : bt ((⟨#[60, 47]⟩ : ByteArray) ++ smallOf nm) ((1 : Nat) : Int) = 47 := by rw [bt_app1 _ _ 1 (by decide)]; rfl
 have b2 : ∀ j, j < nm.size → bt ((⟨#[60, 47]⟩ : ByteArray) ++ smallOf nm) ((2 + j : Nat) : Int) = sm1 (bt nm (j : Int)) := fun j hj => by
  have := bt_app2 (⟨#[60, 47]⟩ : ByteArray) (smallOf nm) j (by rw [small_size]; exact hj)
  rw [h2] at this
  rw [this, bt_small nm j hj]
 have e : ∀ j, j < 2 + nm.size → bt (smallOf (s.extract i (i + (2 + nm.size)))) (j : Int) = sm1 (bt s ((i + j : Nat) : Int)) := fun j hj => by
  rw [bt_small _ j (by omega), bt_ext s _ _ j h (by omega)]
 rw [eqS, small_size, hz, hb]
 constructor
 ·rintro ⟨_, q⟩
  refine ⟨?_, ?_, fun j hj => ?_⟩
  ·have := q 0 (by omega)
   rw [e 0 (by omega), b0] at this
   exact (sm60 _).1 this
  ·have := q 1 (by omega)
   rw [e 1 (by omega), b1] at this
   exact (sm47 _).1 this
  ·have := q (2 + j) (by omega)
   rw [e (2 + j) (by omega), b2 j hj] at this
   rw [← this]
   congr 2
   omega
 ·rintro ⟨q0, q1, q⟩
  refine ⟨rfl, fun j hj => ?_⟩
  rw [e j hj]
  rcases (show j = 0 ∨ j = 1 ∨ ∃ m, j = 2 + m from by
   rcases j with _ | _ | m
   ·exact .inl rfl
   ·exact .inr (.inl rfl)
   ·exact .inr (.inr ⟨m, by omega⟩)) with rfl | rfl | ⟨m, rfl⟩
  ·rw [b0]; exact (sm60 _).2 q0
  ·rw [b1]; exact (sm47 _).2 q1
  ·rw [b2 m (by omega), ← q m (by omega)]
   congr 2
   omega
theorem sRaw (s nm : ByteArray) (hs : s.size ≤ 4000000) (hn : nm.size ≤ 1048576) : ∃ v, Ev (fun k => spec_RawEnd.l0 k s nm (nm.size : Int) ((0 : Nat) : Int)) v ∧ ((v = (s.size : Int) ∧ ∀ j, 0 ≤ j → ¬ MT s nm j) ∨ (∃ j : Nat, 0 ≤ j ∧ MT s nm j ∧ v = (j : Int) ∧ ∀ m, 0 ≤ m → m < j → ¬ MT s nm m)) := by
 have w2 : ∀ i : Nat, i + 2 ≤ 2000000000 → wrap64 ((i : Int) + 2) = ((i + 2 : Nat) : Int) := fun i h => by rw [wrap_id _ (by omega) (by omega)]; omega
 have w3 : ∀ i : Nat, i ≤ 2000000000 → wrap64 (((i + 2 : Nat) : Int) + (nm.size : Int)) = ((i + 2 + nm.size : Nat) : Int) := fun i h => by rw [wrap_id _ (by omega) (by omega)]; omega
 refine raw_gen s nm (fun k i => spec_RawEnd.l0 k s nm (nm.size : Int) (i : Int)) ?_ ?_ ?_ s.size 0 (by omega)
 ·rintro i ⟨c, c60, c47, q, b⟩ k
  have he := (sEq s nm i (by omega)).2 q
  simp only [spec_RawEnd.l0]
  rw [w2 i (by omega), w3 i (by omega), next_at _ (by omega), if_pos (by omega), if_pos (by omega), if_pos (by omega), if_pos c60, if_pos (by omega), if_pos (by omega), if_pos c47, if_pos (by omega), if_pos (by omega), if_pos (by omega), Int.toNat_natCast, Int.toNat_natCast, sSmall _ (by rw [ext_size _ _ _ (by omega) (by omega)]; omega), Option.bind_some, sSmall _ (by omega), Option.bind_some, if_pos he, if_pos (by omega), sBlank, Option.bind_some]
  by_cases d : BLi (bt s ((i + 2 + nm.size : Nat) : Int)) = true
  ·rw [if_pos d]
  ·rw [if_neg d]
   by_cases d2 : bt s ((i + 2 + nm.size : Nat) : Int) = 47
   ·rw [if_pos d2]
   ·rw [if_neg d2]
    rcases b with b | b | b
    ·exact absurd b d
    ·exact absurd b d2
    ·rw [if_pos b]
 ·intro i c m k
  simp only [spec_RawEnd.l0]
  rw [w2 i (by omega), w3 i (by omega), next_at _ (by omega), if_pos (by omega), if_pos (by omega), if_pos (by omega)]
  by_cases c60 : bt s (i : Int) = 60
  ·rw [if_pos c60, if_pos (by omega), if_pos (by omega)]
   by_cases c47 : bt s ((i + 1 : Nat) : Int) = 47
   ·rw [if_pos c47, if_pos (by omega), if_pos (by omega), if_pos (by omega), Int.toNat_natCast, Int.toNat_natCast, sSmall _ (by rw [ext_size _ _ _ (by omega) (by omega)]; omega), Option.bind_some, sSmall _ (by omega), Option.bind_some]
    by_cases he : (smallOf (s.extract (i + 2) (i + 2 + nm.size))).toList = (smallOf nm).toList
    ·rw [if_pos he, if_pos (by omega), sBlank, Option.bind_some]
     have q := (sEq s nm i (by omega)).1 he
     by_cases d : BLi (bt s ((i + 2 + nm.size : Nat) : Int)) = true
     ·exact absurd ⟨c, c60, c47, q, .inl d⟩ m
     ·by_cases d2 : bt s ((i + 2 + nm.size : Nat) : Int) = 47
      ·exact absurd ⟨c, c60, c47, q, .inr (.inl d2)⟩ m
      ·by_cases d3 : bt s ((i + 2 + nm.size : Nat) : Int) = 62
       ·exact absurd ⟨c, c60, c47, q, .inr (.inr d3)⟩ m
       ·rw [if_neg d, if_neg d2, if_neg d3]
    ·rw [if_neg he]
   ·rw [if_neg c47]
  ·rw [if_neg c60]
 ·intro i hi c k
  simp only [spec_RawEnd.l0]
  rw [w2 i (by omega), w3 i (by omega), if_neg (by omega)]
theorem iRaw (s nm : ByteArray) (hs : s.size ≤ 4000000) (hn : nm.size ≤ 1048576) : ∃ v, Ev (fun k => impl_RawEnd.l0 k s ((⟨#[60, 47]⟩ : ByteArray) ++ smallOf nm) ((0 : Nat) : Int)) v ∧ ((v = (s.size : Int) ∧ ∀ j, 0 ≤ j → ¬ MT s nm j) ∨ (∃ j : Nat, 0 ≤ j ∧ MT s nm j ∧ v = (j : Int) ∧ ∀ m, 0 ≤ m → m < j → ¬ MT s nm m)) := by
 have hb : ((⟨#[60, 47]⟩ : ByteArray) ++ smallOf nm).size = 2 + nm.size := by rw [ByteArray.size_append, small_size]; rfl
 have w : ∀ i : Nat, i ≤ 2000000000 → wrap64 ((i : Int) + (((⟨#[60, 47]⟩ : ByteArray) ++ smallOf nm).size : Int)) = ((i + (2 + nm.size) : Nat) : Int) := fun i h => by rw [hb, wrap_id _ (by omega) (by omega)]; omega
 refine raw_gen s nm (fun k i => impl_RawEnd.l0 k s ((⟨#[60, 47]⟩ : ByteArray) ++ smallOf nm) (i : Int)) ?_ ?_ ?_ s.size 0 (by omega)
 ·rintro i ⟨c, c60, c47, q, b⟩ k
  have he := (iEq s nm i (by omega)).2 ⟨c60, c47, q⟩
  have hix : i + (2 + nm.size) = i + 2 + nm.size := by omega
  simp only [impl_RawEnd.l0]
  rw [w i (by omega), next_at _ (by omega), if_pos (by omega), if_pos (by omega), if_pos (by omega), if_pos (by omega), if_pos c60, if_pos (by omega), if_pos (by omega), Int.toNat_natCast, Int.toNat_natCast, iSmall _ (by rw [ext_size _ _ _ (by omega) (by omega)]; omega), Option.bind_some, if_pos he, iBlank, Option.bind_some, hix]
  by_cases d : BLi (bt s ((i + 2 + nm.size : Nat) : Int)) = true
  ·rw [if_pos d]
  ·rw [if_neg d]
   by_cases d2 : bt s ((i + 2 + nm.size : Nat) : Int) = 47
   ·rw [if_pos d2]
   ·rw [if_neg d2]
    rcases b with b | b | b
    ·exact absurd b d
    ·exact absurd b d2
    ·rw [if_pos b]
 ·intro i c m k
  have hix : i + (2 + nm.size) = i + 2 + nm.size := by omega
  simp only [impl_RawEnd.l0]
  rw [w i (by omega), next_at _ (by omega), if_pos (by omega), if_pos (by omega), if_pos (by omega), if_pos (by omega)]
  by_cases c60 : bt s (i : Int) = 60
  ·rw [if_pos c60, if_pos (by omega), if_pos (by omega), Int.toNat_natCast, Int.toNat_natCast, iSmall _ (by rw [ext_size _ _ _ (by omega) (by omega)]; omega), Option.bind_some]
   by_cases he : (smallOf (s.extract i (i + (2 + nm.size)))).toList = ((⟨#[60, 47]⟩ : ByteArray) ++ smallOf nm).toList
   ·rw [if_pos he, iBlank, Option.bind_some, hix]
    obtain ⟨_, c47, q⟩ := (iEq s nm i (by omega)).1 he
    by_cases d : BLi (bt s ((i + 2 + nm.size : Nat) : Int)) = true
    ·exact absurd ⟨c, c60, c47, q, .inl d⟩ m
    ·by_cases d2 : bt s ((i + 2 + nm.size : Nat) : Int) = 47
     ·exact absurd ⟨c, c60, c47, q, .inr (.inl d2)⟩ m
     ·by_cases d3 : bt s ((i + 2 + nm.size : Nat) : Int) = 62
      ·exact absurd ⟨c, c60, c47, q, .inr (.inr d3)⟩ m
      ·rw [if_neg d, if_neg d2, if_neg d3]
   ·rw [if_neg he]
  ·rw [if_neg c60]
 ·intro i hi c k
  simp only [impl_RawEnd.l0]
  rw [w i (by omega), if_neg (by omega)]
def PL (s : ByteArray) : Prop := s.toList = [115, 99, 114, 105, 112, 116] ∨ s.toList = [115, 116, 121, 108, 101]
instance (s : ByteArray) : Decidable (PL s) := by unfold PL; infer_instance
theorem PL_bt (s : ByteArray) (h : PL s) (j : Nat) (hj : j < s.size) : sm1 (bt s (j : Int)) ≠ 60 := by
 have hm : ∀ b ∈ s.data.toList, b ≠ 60 := by
  unfold PL at h
  rw [ByteArray.toList_eq] at h
  rcases h with h | h <;> rw [h] <;> decide
 have h2 : j < s.data.toList.length := by rw [data_length]; exact hj
 rw [Ne, sm60, bt_list s j h2]
 intro q
 exact hm _ (List.getElem_mem h2) (UInt8.toNat_inj.1 (show (s.data.toList[j]).toNat = 60 by omega))
def XT (t nm : ByteArray) : ByteArray := ((t ++ (⟨#[60, 47]⟩ : ByteArray)) ++ nm) ++ (⟨#[62]⟩ : ByteArray)
theorem XT_size (t nm : ByteArray) : (XT t nm).size = t.size + 2 + nm.size + 1 := by unfold XT; rw [ByteArray.size_append, ByteArray.size_append, ByteArray.size_append]; rfl
theorem XT_0 (t nm : ByteArray) (j : Nat) (h : j < t.size) : bt (XT t nm) (j : Int) = bt t (j : Int) := by
 unfold XT
 rw [bt_app1 _ _ j (by rw [ByteArray.size_append, ByteArray.size_append]; omega), bt_app1 _ _ j (by rw [ByteArray.size_append]; omega), bt_app1 _ _ j h]
theorem XT_1 (t nm : ByteArray) (j : Nat) (h : j < 2) : bt (XT t nm) ((t.size + j : Nat) : Int) = bt (⟨#[60, 47]⟩ : ByteArray) (j : Int) := by
 have h2 : (⟨#[60, 47]⟩ : ByteArray).size = 2 := rfl
 unfold XT
 rw [bt_app1 _ _ _ (by rw [ByteArray.size_append, ByteArray.size_append]; omega), bt_app1 _ _ _ (by rw [ByteArray.size_append]; omega), bt_app2 _ _ j (by omega)]
theorem XT_2 (t nm : ByteArray) (j : Nat) (h : j < nm.size) : bt (XT t nm) ((t.size + 2 + j : Nat) : Int) = bt nm (j : Int) := by
 have h2 : (t ++ (⟨#[60, 47]⟩ : ByteArray)).size = t.size + 2 := by rw [ByteArray.size_append]; rfl
 unfold XT
 rw [bt_app1 _ _ _ (by rw [ByteArray.size_append]; omega), ← h2, bt_app2 _ _ j h]
theorem XT_3 (t nm : ByteArray) : bt (XT t nm) ((t.size + 2 + nm.size : Nat) : Int) = 62 := by
 have h2 : ((t ++ (⟨#[60, 47]⟩ : ByteArray)) ++ nm).size = t.size + 2 + nm.size := by rw [ByteArray.size_append, ByteArray.size_append]; rfl
 have := bt_app2 ((t ++ (⟨#[60, 47]⟩ : ByteArray)) ++ nm) (⟨#[62]⟩ : ByteArray) 0 (by decide)
 rw [h2, Nat.add_zero] at this
 unfold XT
 rw [this]
 rfl
theorem MT_in (t nm : ByteArray) (i : Nat) (h : i + 2 + nm.size < t.size) : MT (XT t nm) nm i ↔ MT t nm i := by
 unfold MT
 rw [XT_size, XT_0 _ _ i (by omega), XT_0 _ _ (i + 1) (by omega), XT_0 _ _ (i + 2 + nm.size) h]
 have e : (∀ j, j < nm.size → sm1 (bt (XT t nm) ((i + 2 + j : Nat) : Int)) = sm1 (bt nm (j : Int))) ↔ (∀ j, j < nm.size → sm1 (bt t ((i + 2 + j : Nat) : Int)) = sm1 (bt nm (j : Int))) :=
  ⟨fun q j hj => by rw [← XT_0 t nm _ (by omega)]; exact q j hj, fun q j hj => by rw [XT_0 t nm _ (by omega)]; exact q j hj⟩
 rw [e]
 exact ⟨fun q => ⟨h, q.2⟩, fun q => ⟨by omega, q.2⟩⟩
theorem MT_end (t nm : ByteArray) : MT (XT t nm) nm t.size := by
 refine ⟨by rw [XT_size]; omega, XT_1 t nm 0 (by omega), XT_1 t nm 1 (by omega), fun j hj => by rw [XT_2 t nm j hj], .inr (.inr (XT_3 t nm))⟩
theorem MT_cross (t nm : ByteArray) (hp : PL nm) (i : Nat) (h : ¬ i + 2 + nm.size < t.size) (hi : i < t.size) : ¬ MT (XT t nm) nm i := by
 rintro ⟨_, _, c47, q, b⟩
 have e60 : bt (XT t nm) ((t.size : Nat) : Int) = 60 := XT_1 t nm 0 (by omega)
 by_cases c1 : t.size = i + 1
 ·rw [← c1, e60] at c47
  exact absurd c47 (by decide)
 ·by_cases c2 : t.size = i + 2 + nm.size
  ·rw [← c2, e60] at b
   rcases b with b | b | b
   ·exact absurd b (by decide)
   ·exact absurd b (by decide)
   ·exact absurd b (by decide)
  ·have := q (t.size - (i + 2)) (by omega)
   rw [show i + 2 + (t.size - (i + 2)) = t.size by omega, e60] at this
   exact PL_bt nm hp (t.size - (i + 2)) (by omega) (by rw [← this]; rfl)
theorem raw_both (t nm : ByteArray) (ht : t.size ≤ 1048576) (hn : nm.size ≤ 1048576) (hp : PL nm) : ∃ u v, Ev (fun k => impl_RawEnd.f k t 0 nm) u ∧ Ev (fun k => spec_RawEnd.f k (XT t nm) 0 nm) v ∧ ((u < (t.size : Int) ∧ v ≠ (t.size : Int) ∧ ∃ m, MT t nm m) ∨ (¬ u < (t.size : Int) ∧ v = (t.size : Int) ∧ ¬ ∃ m, MT t nm m)) := by
 obtain ⟨u, eu, hu⟩ := iRaw t nm (by omega) hn
 have hz := XT_size t nm
 obtain ⟨v, ev, hv⟩ := sRaw (XT t nm) nm (by omega) hn
 refine ⟨u, v, ?_, ?_, ?_⟩
 ·unfold impl_RawEnd.f
  rw [iSmall nm (by omega)]
  simp only [Option.bind_some, small_size, if_pos (show 2 + nm.size ≤ 9223372036854775807 by omega)]
  exact eu
 ·unfold spec_RawEnd.f spec_l1Max.f
  simp only [if_neg (show ¬ (0 : Int) ≥ ((XT t nm).size : Int) by omega), if_neg (show ¬ (0 : Int) > 0 by decide), Option.bind_some]
  exact ev
 ·have key : (∃ m, MT t nm m) ∨ ¬ ∃ m, MT t nm m := Classical.em _
  have vlt : ∃ j : Nat, MT (XT t nm) nm j ∧ v = (j : Int) ∧ ∀ m, m < j → ¬ MT (XT t nm) nm m := by
   rcases hv with ⟨_, b⟩ | ⟨j, _, b, c, d⟩
   ·exact absurd (MT_end t nm) (b _ (Nat.zero_le _))
   ·exact ⟨j, b, c, fun m hm => d m (Nat.zero_le _) hm⟩
  obtain ⟨j, b, c, d⟩ := vlt
  rcases key with ⟨m, hm⟩ | hno
  ·refine .inl ⟨?_, ?_, m, hm⟩
   ·rcases hu with ⟨_, b⟩ | ⟨q, _, b, c, _⟩
    ·exact absurd hm (b m (Nat.zero_le _))
    ·have := b.1; omega
   ·have hj : j ≤ m := by
     rcases Nat.lt_or_ge m j with q | q
     ·exact absurd ((MT_in t nm m hm.1).2 hm) (d m q)
     ·exact q
    have := hm.1
    omega
  ·refine .inr ⟨?_, ?_, hno⟩
   ·rcases hu with ⟨a, _⟩ | ⟨q, _, b, _, _⟩
    ·omega
    ·exact absurd ⟨q, b⟩ hno
   ·have h1 : j ≤ t.size := by
     rcases Nat.lt_or_ge t.size j with q | q
     ·exact absurd (MT_end t nm) (d _ q)
     ·exact q
    rcases Nat.lt_or_ge j t.size with q | q
    ·by_cases r : j + 2 + nm.size < t.size
     ·exact absurd ⟨j, (MT_in t nm j r).1 b⟩ hno
     ·exact absurd b (MT_cross t nm hp j r q)
    ·omega
theorem rdA_mid (pre : List S115) (x : S115) (suf : List S115) : rd_T115 (pre ++ x :: suf) ((pre.length : Nat) : Int) = x := by
 unfold rd_T115
 rw [Int.toNat_natCast]
 simp
theorem rdI_mid (pre : List S83) (x : S83) (suf : List S83) : rd_T83 (pre ++ x :: suf) ((pre.length : Nat) : Int) = x := by
 unfold rd_T83
 rw [Int.toNat_natCast]
 simp
theorem rdA2_mid (pre : List S117) (x : S117) (suf : List S117) : rd_T117 (pre ++ x :: suf) ((pre.length : Nat) : Int) = x := by
 unfold rd_T117
 rw [Int.toNat_natCast]
 simp
theorem rdI2_mid (pre : List S87) (x : S87) (suf : List S87) : rd_T87 (pre ++ x :: suf) ((pre.length : Nat) : Int) = x := by
 unfold rd_T87
 rw [Int.toNat_natCast]
 simp
def cA (x : S115) : S117 := ⟨x.f0, x.f1⟩
def cI (x : S83) : S87 := ⟨x.f0, x.f1, x.f2.map cA, x.f3, x.f4⟩
def vA (x : S117) : Nat := 1 + x.f0.size + x.f1.size
def vAs : List S117 → Nat
 | [] => 0
 | x :: l => vA x + vAs l
def vT (x : S87) : Nat := 1 + x.f1.size + vAs x.f2 + x.f3.size
def vTs : List S87 → Nat
 | [] => 0
 | x :: l => vT x + vTs l
theorem vAs_len : ∀ l : List S117, l.length ≤ vAs l
 | [] => Nat.le_refl _
 | x :: l => by have := vAs_len l; simp only [List.length_cons, vAs, vA]; omega
theorem vTs_len : ∀ l : List S87, l.length ≤ vTs l
 | [] => Nat.le_refl _
 | x :: l => by have := vTs_len l; simp only [List.length_cons, vTs, vT]; omega
theorem vTs_mem : ∀ (l : List S87) (x : S87), x ∈ l → vT x ≤ vTs l
 | [], x, h => by simp at h
 | y :: l, x, h => by
  rcases List.mem_cons.1 h with rfl | h
  ·simp only [vTs]; omega
  ·have := vTs_mem l x h; simp only [vTs]; omega
def GA (a : S115) : Prop := a.f0.size ≤ 9223372036854775807 ∧ a.f1.size ≤ 9223372036854775807
def GK (x : S83) : Prop := x.f1.size ≤ 9223372036854775807 ∧ (x.f2.length ≤ 9223372036854775807 ∧ ∀ a ∈ x.f2, GA a) ∧ x.f3.size ≤ 9223372036854775807
theorem szAttr_is (x y : ByteArray) (a : Int) (hx : x.size ≤ 9223372036854775807) (hy : y.size ≤ 9223372036854775807) (h0 : 0 ≤ a) (h1 : a ≤ 1048576) : ∃ t, laws_szAttr.f x y a = some t ∧ (t < 0 ∨ (0 ≤ t ∧ t + (x.size : Int) + (y.size : Int) = a)) := by
 unfold laws_szAttr.f
 rw [wrap_id (a - (x.size : Int)) (by omega) (by omega)]
 by_cases c : a - (x.size : Int) < 0
 ·rw [if_pos c]; exact ⟨_, rfl, .inl (by omega)⟩
 ·rw [if_neg c, wrap_id (a - (x.size : Int) - (y.size : Int)) (by omega) (by omega)]
  by_cases c2 : a - (x.size : Int) - (y.size : Int) < 0
  ·rw [if_pos c2]; exact ⟨_, rfl, .inl (by omega)⟩
  ·rw [if_neg c2]; exact ⟨_, rfl, .inr ⟨by omega, by omega⟩⟩
theorem szAttrS_loop (suf : List S115) : ∀ (pre : List S115) (a : Int), (pre ++ suf).length ≤ 1048576 → (∀ x ∈ suf, GA x) → 0 ≤ a → a ≤ 1048576 →
  ∃ t, Ev (fun k => laws_szAttrS.l0 k (pre ++ suf) a ((pre.length : Nat) : Int)) t ∧ (t < 0 ∨ (0 ≤ t ∧ t + (vAs (suf.map cA) : Int) = a + (suf.length : Int))) := by
 induction suf with
 | nil =>
  intro pre a h hg h0 h1
  refine ⟨a, Ev.at1 fun k => ?_, .inr ⟨h0, by simp [vAs]⟩⟩
  simp only [laws_szAttrS.l0, List.append_nil]
  rw [if_neg (by omega)]
 | cons x suf IH =>
  intro pre a h hg h0 h1
  have hl : (pre ++ x :: suf).length = pre.length + 1 + suf.length := by simp; omega
  have hx := hg x (List.mem_cons_self ..)
  obtain ⟨t, ht, hr⟩ := szAttr_is x.f0 x.f1 a hx.1 hx.2 h0 h1
  have st : ∀ k, laws_szAttrS.l0 (k + 1) (pre ++ x :: suf) a ((pre.length : Nat) : Int) = if t < 0 then some (-1) else laws_szAttrS.l0 k (pre ++ x :: suf) t ((pre.length + 1 : Nat) : Int) := fun k => by
   simp only [laws_szAttrS.l0]
   rw [if_pos (by omega), if_pos (by omega), rdA_mid, ht, next_at _ (by omega)]
   rfl
  by_cases c : t < 0
  ·exact ⟨-1, Ev.at1 fun k => by rw [st, if_pos c], .inl (by omega)⟩
  ·obtain ⟨t2, e2, hr2⟩ := IH (pre ++ [x]) t (by simp at h ⊢; omega) (fun y hy => hg y (List.mem_cons_of_mem _ hy)) (by omega) (by omega)
   have e : pre ++ [x] ++ suf = pre ++ x :: suf := by simp
   rw [e, List.length_append] at e2
   refine ⟨t2, Ev.step (fun k => ?_) e2, ?_⟩
   ·rw [st, if_neg c]; rfl
   ·rcases hr2 with hr2 | ⟨a1, a2⟩
    ·exact .inl hr2
    ·refine .inr ⟨a1, ?_⟩
     have hv : vAs ((x :: suf).map cA) = (1 + x.f0.size + x.f1.size) + vAs (suf.map cA) := rfl
     rw [hv, List.length_cons]
     omega
theorem szAttrS_ex (l : List S115) (a : Int) (h : l.length ≤ 9223372036854775807) (hg : ∀ x ∈ l, GA x) (h0 : 0 ≤ a) (h1 : a ≤ 1048576) : ∃ t, Ev (fun k => laws_szAttrS.f k l a) t ∧ (t < 0 ∨ (0 ≤ t ∧ t + (vAs (l.map cA) : Int) = a)) := by
 unfold laws_szAttrS.f
 rw [wrap_id (a - (l.length : Int)) (by omega) (by omega)]
 by_cases c : a - (l.length : Int) < 0
 ·simp only [if_pos c]; exact ⟨_, Ev.now _, .inl (by omega)⟩
 ·simp only [if_neg c]
  obtain ⟨t, e, hr⟩ := szAttrS_loop l [] (a - (l.length : Int)) (by simp; omega) hg (by omega) (by omega)
  refine ⟨t, e, ?_⟩
  rcases hr with hr | ⟨a1, a2⟩
  ·exact .inl hr
  ·exact .inr ⟨a1, by omega⟩
theorem szToken_ex (x : S83) (hg : GK x) (a : Int) (h0 : 0 ≤ a) (h1 : a ≤ 1048576) : ∃ t, Ev (fun k => laws_szToken.f k x.f0 x.f1 x.f2 x.f3 x.f4 a) t ∧ (t < 0 ∨ (0 ≤ t ∧ t + (vT (cI x) : Int) = a + 1)) := by
 obtain ⟨g1, ⟨g2, g2a⟩, g3⟩ := hg
 unfold laws_szToken.f
 rw [wrap_id (a - (x.f1.size : Int)) (by omega) (by omega)]
 by_cases c : a - (x.f1.size : Int) < 0
 ·simp only [if_pos c]; exact ⟨_, Ev.now _, .inl (by omega)⟩
 ·simp only [if_neg c]
  obtain ⟨t, e, hr⟩ := szAttrS_ex x.f2 (a - (x.f1.size : Int)) g2 g2a (by omega) (by omega)
  by_cases c2 : t < 0
  ·refine ⟨-1, Ev.bind e ?_, .inl (by omega)⟩
   simp only [if_pos c2]; exact Ev.now _
  ·have hw : wrap64 (t - (x.f3.size : Int)) = t - (x.f3.size : Int) := wrap_id _ (by omega) (by omega)
   by_cases c3 : t - (x.f3.size : Int) < 0
   ·refine ⟨-1, Ev.bind e ?_, .inl (by omega)⟩
    simp only [if_neg c2, hw, if_pos c3]; exact Ev.now _
   ·have hv : vT (cI x) = 1 + x.f1.size + vAs (x.f2.map cA) + x.f3.size := rfl
    refine ⟨t - (x.f3.size : Int), Ev.bind e ?_, .inr ⟨by omega, by rw [hv]; omega⟩⟩
    simp only [if_neg c2, hw, if_neg c3]; exact Ev.now _
theorem szTokenS_loop (suf : List S83) : ∀ (pre : List S83) (a : Int), (pre ++ suf).length ≤ 1048576 → (∀ x ∈ suf, GK x) → 0 ≤ a → a ≤ 1048576 →
  ∃ t, Ev (fun k => laws_szTokenS.l0 k (pre ++ suf) a ((pre.length : Nat) : Int)) t ∧ (t < 0 ∨ (0 ≤ t ∧ t + (vTs (suf.map cI) : Int) = a + (suf.length : Int))) := by
 induction suf with
 | nil =>
  intro pre a h hg h0 h1
  refine ⟨a, Ev.at1 fun k => ?_, .inr ⟨h0, by simp [vTs]⟩⟩
  simp only [laws_szTokenS.l0, List.append_nil]
  rw [if_neg (by omega)]
 | cons x suf IH =>
  intro pre a h hg h0 h1
  have hl : (pre ++ x :: suf).length = pre.length + 1 + suf.length := by simp; omega
  obtain ⟨t, et, hr⟩ := szToken_ex x (hg x (List.mem_cons_self ..)) a h0 h1
  have hv1 : 1 ≤ vT (cI x) := by unfold vT; omega
  have st : ∀ k, laws_szTokenS.l0 (k + 1) (pre ++ x :: suf) a ((pre.length : Nat) : Int) = (laws_szToken.f k x.f0 x.f1 x.f2 x.f3 x.f4 a).bind fun t => if t < 0 then some (-1) else laws_szTokenS.l0 k (pre ++ x :: suf) t ((pre.length + 1 : Nat) : Int) := fun k => by
   simp only [laws_szTokenS.l0]
   rw [if_pos (by omega), if_pos (by omega), rdI_mid, next_at _ (by omega)]
  by_cases c : t < 0
  ·refine ⟨-1, Ev.step st (Ev.bind et ?_), .inl (by omega)⟩
   simp only [if_pos c]; exact Ev.now _
  ·obtain ⟨t2, e2, hr2⟩ := IH (pre ++ [x]) t (by simp at h ⊢; omega) (fun y hy => hg y (List.mem_cons_of_mem _ hy)) (by omega) (by omega)
   have e : pre ++ [x] ++ suf = pre ++ x :: suf := by simp
   rw [e, List.length_append] at e2
   refine ⟨t2, Ev.step st (Ev.bind et ?_), ?_⟩
   ·simp only [if_neg c]; exact e2
   ·rcases hr2 with hr2 | ⟨a1, a2⟩
    ·exact .inl hr2
    ·refine .inr ⟨a1, ?_⟩
     have hv : vTs ((x :: suf).map cI) = vT (cI x) + vTs (suf.map cI) := rfl
     rw [hv, List.length_cons]
     omega
theorem szTokenS_ex (l : List S83) (h : l.length ≤ 9223372036854775807) (hg : ∀ x ∈ l, GK x) : ∃ t, Ev (fun k => laws_szTokenS.f k l 1048576) t ∧ (t < 0 ∨ (0 ≤ t ∧ vTs (l.map cI) ≤ 1048576)) := by
 unfold laws_szTokenS.f
 rw [wrap_id (1048576 - (l.length : Int)) (by omega) (by omega)]
 by_cases c : 1048576 - (l.length : Int) < 0
 ·simp only [if_pos c]; exact ⟨_, Ev.now _, .inl (by omega)⟩
 ·simp only [if_neg c]
  obtain ⟨t, e, hr⟩ := szTokenS_loop l [] (1048576 - (l.length : Int)) (by simp; omega) hg (by omega) (by omega)
  refine ⟨t, e, ?_⟩
  rcases hr with hr | ⟨a1, a2⟩
  ·exact .inl hr
  ·exact .inr ⟨a1, by omega⟩
theorem toAttrS_loop (l : List S115) (suf : List S115) : ∀ (pre : List S115), l = pre ++ suf → l.length ≤ 1048576 →
  Ev (fun k => laws_toAttrS.l0 k l (pre.map cA ++ List.replicate suf.length z117) ((pre.length : Nat) : Int)) (l.map cA) := by
 induction suf with
 | nil =>
  intro pre hl h
  refine Ev.at1 fun k => ?_
  simp only [laws_toAttrS.l0]
  rw [if_neg (by rw [hl]; simp)]
  simp [hl]
 | cons x suf IH =>
  intro pre hl h
  have hn : l.length = pre.length + 1 + suf.length := by rw [hl]; simp; omega
  have ih := IH (pre ++ [x]) (by rw [hl]; simp) h
  refine Ev.step (f := fun k => laws_toAttrS.l0 k l (pre.map cA ++ [cA x] ++ List.replicate suf.length z117) ((pre.length + 1 : Nat) : Int)) (fun k => ?_) ?_
  ·simp only [laws_toAttrS.l0]
   have e : List.replicate (x :: suf).length z117 = z117 :: List.replicate suf.length z117 := rfl
   have hx : rd_T115 l ((pre.length : Nat) : Int) = x := by rw [hl]; exact rdA_mid pre x suf
   have hs := set_mid (pre.map cA) z117 (cA x) (List.replicate suf.length z117)
   rw [List.length_map] at hs
   rw [if_pos (by omega), if_pos (by omega), hx, e]
   unfold laws_toAttr.f
   simp only [Option.bind_some]
   rw [if_pos (by simp; omega), next_at _ (by omega)]
   show laws_toAttrS.l0 k l ((pre.map cA ++ z117 :: List.replicate suf.length z117).set _ (cA x)) _ = _
   rw [hs]
  ·have e2 : (pre ++ [x]).length = pre.length + 1 := by simp
   rw [e2, List.map_append] at ih
   exact ih
theorem toAttrS_ev (l : List S115) (h : l.length ≤ 1048576) : Ev (fun k => laws_toAttrS.f k l) (l.map cA) := by
 unfold laws_toAttrS.f
 rw [Int.toNat_natCast]
 simp only [if_pos (show (0 : Int) ≤ (l.length : Int) by omega), if_pos (show l.length ≤ 8796093022208 by omega)]
 exact toAttrS_loop l l [] rfl h
theorem toToken_ev (x : S83) (h : x.f2.length ≤ 1048576) : Ev (fun k => laws_toToken.f k x.f0 x.f1 x.f2 x.f3 x.f4) (x.f0, x.f1, x.f2.map cA, x.f3, x.f4) := by
 unfold laws_toToken.f
 exact Ev.bind (toAttrS_ev x.f2 h) (Ev.now _)
theorem toTokenS_loop (l : List S83) (suf : List S83) : ∀ (pre : List S83), l = pre ++ suf → l.length ≤ 1048576 → (∀ x ∈ suf, x.f2.length ≤ 1048576) →
  Ev (fun k => laws_toTokenS.l0 k l (pre.map cI ++ List.replicate suf.length z87) ((pre.length : Nat) : Int)) (l.map cI) := by
 induction suf with
 | nil =>
  intro pre hl h hg
  refine Ev.at1 fun k => ?_
  simp only [laws_toTokenS.l0]
  rw [if_neg (by rw [hl]; simp)]
  simp [hl]
 | cons x suf IH =>
  intro pre hl h hg
  have hn : l.length = pre.length + 1 + suf.length := by rw [hl]; simp; omega
  have ih := IH (pre ++ [x]) (by rw [hl]; simp) h (fun y hy => hg y (List.mem_cons_of_mem _ hy))
  have hx : rd_T83 l ((pre.length : Nat) : Int) = x := by rw [hl]; exact rdI_mid pre x suf
  refine Ev.step (f := fun k => (laws_toToken.f k x.f0 x.f1 x.f2 x.f3 x.f4).bind fun b => laws_toTokenS.l0 k l (pre.map cI ++ [(⟨b.1, b.2.1, b.2.2.1, b.2.2.2.1, b.2.2.2.2⟩ : S87)] ++ List.replicate suf.length z87) ((pre.length + 1 : Nat) : Int)) (fun k => ?_) (Ev.bind (toToken_ev x (hg x (List.mem_cons_self ..))) ?_)
  ·simp only [laws_toTokenS.l0]
   have e : List.replicate (x :: suf).length z87 = z87 :: List.replicate suf.length z87 := rfl
   rw [if_pos (by omega), if_pos (by omega), hx, e]
   congr 1
   funext b
   have hs := set_mid (pre.map cI) z87 (⟨b.1, b.2.1, b.2.2.1, b.2.2.2.1, b.2.2.2.2⟩ : S87) (List.replicate suf.length z87)
   rw [List.length_map] at hs
   rw [if_pos (by simp; omega), next_at _ (by omega), hs]
  ·have e2 : (pre ++ [x]).length = pre.length + 1 := by simp
   rw [e2, List.map_append] at ih
   exact ih
theorem toTokenS_ev (l : List S83) (h : l.length ≤ 1048576) (hg : ∀ x ∈ l, x.f2.length ≤ 1048576) : Ev (fun k => laws_toTokenS.f k l) (l.map cI) := by
 unfold laws_toTokenS.f
 rw [Int.toNat_natCast]
 simp only [if_pos (show (0 : Int) ≤ (l.length : Int) by omega), if_pos (show l.length ≤ 3909374676536 by omega)]
 exact toTokenS_loop l l [] rfl h hg
theorem eqAttrS_loop (suf : List S117) : ∀ (pre : List S117), (pre ++ suf).length ≤ 2000000000000 → Ev (fun k => laws_eqAttrS.l0 k (pre ++ suf) (pre ++ suf) ((pre.length : Nat) : Int)) true := by
 induction suf with
 | nil =>
  intro pre h
  refine Ev.at1 fun k => ?_
  simp only [laws_eqAttrS.l0, List.append_nil]
  rw [if_neg (by omega)]
 | cons x suf IH =>
  intro pre h
  have hl : (pre ++ x :: suf).length = pre.length + 1 + suf.length := by simp; omega
  have ih := IH (pre ++ [x]) (by simp at h ⊢; omega)
  refine Ev.step (f := fun k => laws_eqAttrS.l0 k (pre ++ x :: suf) (pre ++ x :: suf) ((pre.length + 1 : Nat) : Int)) (fun k => ?_) ?_
  ·simp only [laws_eqAttrS.l0]
   rw [if_pos (by omega), if_pos (by omega), if_pos (by omega), rdA2_mid, next_at _ (by omega)]
   unfold laws_eqAttr.f
   simp only [if_true, Option.bind_some]
  ·have e : pre ++ [x] ++ suf = pre ++ x :: suf := by simp
   rw [e, List.length_append] at ih
   exact ih
theorem eqAttrS_same (l : List S117) (h : l.length ≤ 2000000000000) : Ev (fun k => laws_eqAttrS.f k l l) true := by
 unfold laws_eqAttrS.f
 simp only [if_true]
 exact eqAttrS_loop l [] h
theorem eqToken_same (x : S87) (h : x.f2.length ≤ 2000000000000) : Ev (fun k => laws_eqToken.f k x.f0 x.f1 x.f2 x.f3 x.f4 x.f0 x.f1 x.f2 x.f3 x.f4) true := by
 unfold laws_eqToken.f
 simp only [if_true]
 refine Ev.bind (eqAttrS_same x.f2 h) ?_
 simp only [if_true, bne_self_eq_false, Bool.false_eq_true, if_false]
 exact Ev.now _
theorem eqTokenS_loop (suf : List S87) : ∀ (pre : List S87), (pre ++ suf).length ≤ 2000000000000 → (∀ x ∈ suf, x.f2.length ≤ 2000000000000) → Ev (fun k => laws_eqTokenS.l0 k (pre ++ suf) (pre ++ suf) ((pre.length : Nat) : Int)) true := by
 induction suf with
 | nil =>
  intro pre h hg
  refine Ev.at1 fun k => ?_
  simp only [laws_eqTokenS.l0, List.append_nil]
  rw [if_neg (by omega)]
 | cons x suf IH =>
  intro pre h hg
  have hl : (pre ++ x :: suf).length = pre.length + 1 + suf.length := by simp; omega
  have ih := IH (pre ++ [x]) (by simp at h ⊢; omega) (fun y hy => hg y (List.mem_cons_of_mem _ hy))
  have hx := hg x (List.mem_cons_self ..)
  refine Ev.step (f := fun k => (laws_eqToken.f k x.f0 x.f1 x.f2 x.f3 x.f4 x.f0 x.f1 x.f2 x.f3 x.f4).bind fun t => (if t = true then laws_eqTokenS.l0 k (pre ++ x :: suf) (pre ++ x :: suf) ((pre.length + 1 : Nat) : Int) else some false)) (fun k => ?_) (Ev.bind (eqToken_same x hx) ?_)
  ·simp only [laws_eqTokenS.l0]
   rw [if_pos (by omega), if_pos (by omega), if_pos (by omega), rdI2_mid, next_at _ (by omega)]
  ·simp only [if_true]
   have e : pre ++ [x] ++ suf = pre ++ x :: suf := by simp
   rw [e, List.length_append] at ih
   exact ih
theorem eqTokenS_same (l : List S87) (h : l.length ≤ 2000000000000) (hg : ∀ x ∈ l, x.f2.length ≤ 2000000000000) : Ev (fun k => laws_eqTokenS.f k l l) true := by
 unfold laws_eqTokenS.f
 simp only [if_true]
 exact eqTokenS_loop l [] h hg
def E3 (l : List S87) (i : Nat) (nm : ByteArray) : Prop := (rd_T87 l (i : Int)).f0 = 3 ∧ (rd_T87 l (i : Int)).f1.toList = nm.toList
def HD (l : List S87) (i : Nat) (nm : ByteArray) : Prop := i + 1 = l.length ∨ (i + 1 < l.length ∧ (((rd_T87 l ((i + 1 : Nat) : Int)).f0 = 1 ∧ (PL nm → ¬ ∃ m, MT (rd_T87 l ((i + 1 : Nat) : Int)).f3 nm m) ∧ (i + 2 = l.length ∨ E3 l (i + 2) nm)) ∨ ((rd_T87 l ((i + 1 : Nat) : Int)).f0 ≠ 1 ∧ E3 l (i + 1) nm)))
def RW (s : ByteArray) : Prop := isIn s wsRaw = true
def OKp (l : List S87) (n : Nat) : Prop := TOK (rd_T87 l (n : Int)) ∧ ¬ (0 < n ∧ (rd_T87 l (n : Int)).f0 = 1 ∧ (rd_T87 l ((n - 1 : Nat) : Int)).f0 = 1) ∧ ((rd_T87 l (n : Int)).f0 = 2 → (rd_T87 l (n : Int)).f4 = false → RW (rd_T87 l (n : Int)).f1 → HD l n (rd_T87 l (n : Int)).f1)
def SL (l : List S87) : Prop := l.length ≤ 1048576 ∧ ∀ n, n < l.length → SK (rd_T87 l (n : Int))
theorem end_is (l : List S87) (i : Nat) (nm : ByteArray) : EvB (fun _ => if (rd_T87 l (i : Int)).f0 = 3 then some ((rd_T87 l (i : Int)).f1.toList == nm.toList) else some false) (E3 l i nm) := by
 unfold E3
 by_cases c : (rd_T87 l (i : Int)).f0 = 3
 ·simp only [if_pos c]
  exact EvB.now (by rw [beq_iff_eq]; exact ⟨fun q => ⟨c, q⟩, fun q => q.2⟩)
 ·simp only [if_neg c]
  exact .inr ⟨fun q => c q.1, Ev.now _⟩
theorem sHeld (l : List S87) (h : SL l) (n : Nat) (hn : n < l.length) : EvB (fun k => spec_l5Held.f k l (n : Int)) ((rd_T87 l (n : Int)).f0 = 2 → (rd_T87 l (n : Int)).f4 = false → RW (rd_T87 l (n : Int)).f1 → HD l n (rd_T87 l (n : Int)).f1) := by
 obtain ⟨hl, hs⟩ := h
 obtain ⟨hn1, hn3, _⟩ := hs n hn
 obtain ⟨x, hx⟩ : ∃ x, rd_T87 l (n : Int) = x := ⟨_, rfl⟩
 have out : Ev (fun k => spec_l5Held.j0 k l (n : Int) true x.f0 x.f1 x.f2 x.f3 x.f4) true := Ev.at1 fun k => by simp only [spec_l5Held.j0]; rw [if_pos trivial]
 unfold spec_l5Held.f
 simp only [if_pos (show (0 : Int) ≤ (n : Int) by omega), if_pos (show (n : Int) < (l.length : Int) by omega), hx]
 rw [hx] at hn1 hn3
 by_cases c2 : x.f0 = 2
 ·simp only [if_pos c2]
  by_cases c4 : x.f4 = true
  ·simp only [if_pos c4]
   exact .inl ⟨fun _ q => by rw [c4] at q; exact absurd q (by simp), out⟩
  ·have c4' := Bool.eq_false_iff.mpr c4
   simp only [if_neg c4, spec_Raw_is, Option.bind_some]
   by_cases cr : isIn x.f1 wsRaw = true
   ·simp only [if_pos cr]
    refine EvB.iff (P := HD l n x.f1) ?_ ⟨fun q _ _ _ => q, fun q => q c2 c4' cr⟩
    have w1 := next_at n (by omega)
    by_cases ce : n + 1 = l.length
    ·have e : (wrap64 ((n : Int) + 1) == (l.length : Int)) = true := by rw [w1]; exact beq_iff_eq.mpr (by omega)
     rw [e]
     exact .inl ⟨.inl ce, out⟩
    ·have e : (wrap64 ((n : Int) + 1) == (l.length : Int)) = false := by rw [w1]; exact beq_eq_false_iff_ne.mpr (by omega)
     rw [e]
     have w2 : wrap64 (((n + 1 : Nat) : Int) + 1) = ((n + 2 : Nat) : Int) := next_at (n + 1) (by omega)
     have hy := hs (n + 1) (by omega)
     obtain ⟨y, ey⟩ : ∃ y, rd_T87 l ((n + 1 : Nat) : Int) = y := ⟨_, rfl⟩
     rw [ey] at hy
     have tail : EvB (fun _ => if ((n + 2 : Nat) : Int) = (l.length : Int) then some true else (if 0 ≤ ((n + 2 : Nat) : Int) then (if ((n + 2 : Nat) : Int) < (l.length : Int) then (if (rd_T87 l ((n + 2 : Nat) : Int)).f0 = 3 then some ((rd_T87 l ((n + 2 : Nat) : Int)).f1.toList == x.f1.toList) else some false) else none) else none)) (n + 2 = l.length ∨ E3 l (n + 2) x.f1) := by
      by_cases c : n + 2 = l.length
      ·simp only [if_pos (show ((n + 2 : Nat) : Int) = (l.length : Int) by omega)]
       exact .inl ⟨.inl c, Ev.now _⟩
      ·simp only [if_neg (show ¬ ((n + 2 : Nat) : Int) = (l.length : Int) by omega), if_pos (show (0 : Int) ≤ ((n + 2 : Nat) : Int) by omega), if_pos (show ((n + 2 : Nat) : Int) < (l.length : Int) by omega)]
       exact (end_is l (n + 2) x.f1).iff ⟨fun q => .inr q, fun q => by rcases q with q | q; exact absurd q c; exact q⟩
     by_cases c1 : y.f0 = 1
     ·have hd : HD l n x.f1 ↔ ((PL x.f1 → ¬ ∃ m, MT y.f3 x.f1 m) ∧ (n + 2 = l.length ∨ E3 l (n + 2) x.f1)) := by
       unfold HD
       rw [ey]
       exact ⟨fun q => by
        rcases q with q | ⟨_, q | q⟩
        ·exact absurd q ce
        ·exact q.2
        ·exact absurd c1 q.1, fun q => .inr ⟨by omega, .inl ⟨c1, q⟩⟩⟩
      refine EvB.iff ?_ hd.symm
      have hbare : spec_l5Bare.f l ((n + 1 : Nat) : Int) = some (decide (PL x.f1)) := by
       unfold spec_l5Bare.f
       have w3 : wrap64 (((n + 1 : Nat) : Int) - 1) = (n : Int) := by rw [wrap_id _ (by omega) (by omega)]; omega
       rw [if_pos (by omega), w3, if_pos (by omega), if_pos (by omega), hx, if_pos c2, if_neg c4]
       by_cases q : x.f1.toList = ([115, 99, 114, 105, 112, 116] : List UInt8)
       ·rw [if_pos q, decide_eq_true (show PL x.f1 from .inl q)]
       ·rw [if_neg q]
        congr 1
        rw [Bool.eq_iff_iff, beq_iff_eq, decide_eq_true_eq]
        exact ⟨fun z => .inr z, fun z => by rcases z with z | z; exact absurd z q; exact z⟩
      by_cases cp : PL x.f1
      ·obtain ⟨u, v, _, ev, huv⟩ := raw_both y.f3 x.f1 hy.2.1 hn1 cp
       have st : ∀ k, spec_l5Held.j0 (k + 1) l (n : Int) false x.f0 x.f1 x.f2 x.f3 x.f4 = (spec_RawEnd.f k (XT y.f3 x.f1) 0 x.f1).bind fun t => if t = (y.f3.size : Int) then (if ((n + 2 : Nat) : Int) = (l.length : Int) then some true else (if 0 ≤ ((n + 2 : Nat) : Int) then (if ((n + 2 : Nat) : Int) < (l.length : Int) then (if (rd_T87 l ((n + 2 : Nat) : Int)).f0 = 3 then some ((rd_T87 l ((n + 2 : Nat) : Int)).f1.toList == x.f1.toList) else some false) else none) else none)) else some false := fun k => by
        have hy1 := hy.2.1
        simp only [spec_l5Held.j0]
        rw [if_neg (by decide), w1, if_pos (by omega), if_pos (by omega), ey, if_pos c1, hbare, Option.bind_some, decide_eq_true cp, if_pos rfl, if_pos (by omega), if_pos (by omega), if_pos (by omega), w2]
        rfl
       rcases huv with ⟨_, hv, hm⟩ | ⟨_, hv, hm⟩
       ·refine .inr ⟨fun q => q.1 cp hm, Ev.step st (Ev.bind ev ?_)⟩
        simp only [if_neg hv]
        exact Ev.now _
       ·rcases tail with ⟨p, t⟩ | ⟨p, t⟩
        ·exact .inl ⟨⟨fun _ => hm, p⟩, Ev.step st (Ev.bind ev (by simp only [if_pos hv]; exact t))⟩
        ·exact .inr ⟨fun q => p q.2, Ev.step st (Ev.bind ev (by simp only [if_pos hv]; exact t))⟩
      ·refine EvB.iff (EvB.step (fun k => ?_) tail) ⟨fun q => ⟨fun z => absurd z cp, q⟩, fun q => q.2⟩
       simp only [spec_l5Held.j0]
       rw [if_neg (by decide), w1, if_pos (by omega), if_pos (by omega), ey, if_pos c1, hbare, Option.bind_some, decide_eq_false cp, if_neg (by decide), w2]
     ·have hd : HD l n x.f1 ↔ E3 l (n + 1) x.f1 := by
       unfold HD
       rw [ey]
       exact ⟨fun q => by
        rcases q with q | ⟨_, q | q⟩
        ·exact absurd q ce
        ·exact absurd q.1 c1
        ·exact q.2, fun q => .inr ⟨by omega, .inr ⟨c1, q⟩⟩⟩
      refine EvB.iff (EvB.step (fun k => ?_) (end_is l (n + 1) x.f1)) hd.symm
      simp only [spec_l5Held.j0]
      rw [if_neg (by decide), w1, if_pos (by omega), if_pos (by omega), ey, if_neg c1, if_neg (by omega)]
   ·simp only [if_neg cr]
    exact .inl ⟨fun _ _ q => absurd q cr, out⟩
 ·simp only [if_neg c2]
  exact .inl ⟨fun q => absurd q c2, out⟩
theorem rd_drop (l : List S87) (a j : Nat) : rd_T87 (l.drop a) (j : Int) = rd_T87 l ((a + j : Nat) : Int) := by
 unfold rd_T87
 rw [Int.toNat_natCast, Int.toNat_natCast]
 simp only [List.getD_eq_getElem?_getD, List.getElem?_drop]
theorem iHeld (l : List S87) (h : SL l) (n : Nat) (hn : n < l.length) (nm : ByteArray) (hnm : nm.size ≤ 1048576) : EvB (fun k => impl_rawOk.f k nm (l.drop (n + 1))) (HD l n nm) := by
 obtain ⟨hl, hs⟩ := h
 have hlen : (l.drop (n + 1)).length = l.length - (n + 1) := List.length_drop
 have r0 : rd_T87 (l.drop (n + 1)) 0 = rd_T87 l ((n + 1 : Nat) : Int) := rd_drop l (n + 1) 0
 have r1 : rd_T87 ((l.drop (n + 1)).drop 1) 0 = rd_T87 l ((n + 2 : Nat) : Int) := by
  rw [List.drop_drop]
  exact rd_drop l (n + 2) 0
 have hlen1 : ((l.drop (n + 1)).drop 1).length = l.length - (n + 2) := by rw [List.length_drop, hlen]; omega
 unfold impl_rawOk.f
 by_cases ce : n + 1 = l.length
 ·simp only [if_neg (show ¬ ((l.drop (n + 1)).length : Int) > 0 by omega)]
  refine .inl ⟨.inl ce, Ev.at1 fun k => ?_⟩
  simp only [impl_rawOk.j0]
  rw [if_neg (by decide), if_pos (by omega)]
 ·simp only [if_pos (show ((l.drop (n + 1)).length : Int) > 0 by omega), if_pos (show (0 : Int) < ((l.drop (n + 1)).length : Int) by omega), r0]
  have hy := hs (n + 1) (by omega)
  obtain ⟨y, ey⟩ : ∃ y, rd_T87 l ((n + 1 : Nat) : Int) = y := ⟨_, rfl⟩
  rw [ey] at hy r0
  rw [ey]
  have tail : EvB (fun _ => if (((l.drop (n + 1)).drop 1).length : Int) = 0 then some true else (if 0 < (((l.drop (n + 1)).drop 1).length : Int) then (if (rd_T87 ((l.drop (n + 1)).drop 1) 0).f0 = 3 then some ((rd_T87 ((l.drop (n + 1)).drop 1) 0).f1.toList == nm.toList) else some false) else none)) (n + 2 = l.length ∨ E3 l (n + 2) nm) := by
   rw [r1, hlen1]
   by_cases c : n + 2 = l.length
   ·simp only [if_pos (show ((l.length - (n + 2) : Nat) : Int) = 0 by omega)]
    exact .inl ⟨.inl c, Ev.now _⟩
   ·simp only [if_neg (show ¬ ((l.length - (n + 2) : Nat) : Int) = 0 by omega), if_pos (show (0 : Int) < ((l.length - (n + 2) : Nat) : Int) by omega)]
    exact (end_is l (n + 2) nm).iff ⟨fun q => .inr q, fun q => by rcases q with q | q; exact absurd q c; exact q⟩
  by_cases c1 : y.f0 = 1
  ·have hd : HD l n nm ↔ ((PL nm → ¬ ∃ m, MT y.f3 nm m) ∧ (n + 2 = l.length ∨ E3 l (n + 2) nm)) := by
    unfold HD
    rw [ey]
    exact ⟨fun q => by
     rcases q with q | ⟨_, q | q⟩
     ·exact absurd q ce
     ·exact q.2
     ·exact absurd c1 q.1, fun q => .inr ⟨by omega, .inl ⟨c1, q⟩⟩⟩
   refine EvB.iff ?_ hd.symm
   have hpl : impl_isPlainRaw.f nm = some (decide (PL nm)) := by
    unfold impl_isPlainRaw.f
    by_cases q : nm.toList = ([115, 99, 114, 105, 112, 116] : List UInt8)
    ·rw [if_pos q, decide_eq_true (show PL nm from .inl q)]
    ·rw [if_neg q]
     congr 1
     rw [Bool.eq_iff_iff, beq_iff_eq, decide_eq_true_eq]
     exact ⟨fun z => .inr z, fun z => by rcases z with z | z; exact absurd z q; exact z⟩
   have b1 : (y.f0 == 1) = true := beq_iff_eq.mpr c1
   rw [b1]
   by_cases cp : PL nm
   ·obtain ⟨u, v, eu, _, huv⟩ := raw_both y.f3 nm hy.2.1 hnm cp
    have st : ∀ k, impl_rawOk.j0 (k + 1) nm (l.drop (n + 1)) true = (impl_RawEnd.f k y.f3 0 nm).bind fun t => if t < (y.f3.size : Int) then some false else (if (((l.drop (n + 1)).drop 1).length : Int) = 0 then some true else (if 0 < (((l.drop (n + 1)).drop 1).length : Int) then (if (rd_T87 ((l.drop (n + 1)).drop 1) 0).f0 = 3 then some ((rd_T87 ((l.drop (n + 1)).drop 1) 0).f1.toList == nm.toList) else some false) else none)) := fun k => by
     simp only [impl_rawOk.j0]
     rw [if_pos trivial, if_pos (by omega), hpl, Option.bind_some, decide_eq_true cp, if_pos rfl, r0]
     simp only [if_pos (show (1 : Int) ≤ ((l.drop (n + 1)).length : Int) by omega), Option.bind_some]
    rcases huv with ⟨hu, _, hm⟩ | ⟨hu, _, hm⟩
    ·refine .inr ⟨fun q => q.1 cp hm, Ev.step st (Ev.bind eu ?_)⟩
     simp only [if_pos hu]
     exact Ev.now _
    ·rcases tail with ⟨p, t⟩ | ⟨p, t⟩
     ·exact .inl ⟨⟨fun _ => hm, p⟩, Ev.step st (Ev.bind eu (by simp only [if_neg hu]; exact t))⟩
     ·exact .inr ⟨fun q => p q.2, Ev.step st (Ev.bind eu (by simp only [if_neg hu]; exact t))⟩
   ·refine EvB.iff (EvB.step (fun k => ?_) tail) ⟨fun q => ⟨fun z => absurd z cp, q⟩, fun q => q.2⟩
    simp only [impl_rawOk.j0]
    rw [if_pos trivial, if_pos (by omega), hpl, Option.bind_some, decide_eq_false cp, if_neg (by decide)]
    simp only [if_pos (show (1 : Int) ≤ ((l.drop (n + 1)).length : Int) by omega), Option.bind_some]
  ·have hd : HD l n nm ↔ E3 l (n + 1) nm := by
    unfold HD
    rw [ey]
    exact ⟨fun q => by
     rcases q with q | ⟨_, q | q⟩
     ·exact absurd q ce
     ·exact absurd q.1 c1
     ·exact q.2, fun q => .inr ⟨by omega, .inr ⟨c1, q⟩⟩⟩
   have b1 : (y.f0 == 1) = false := beq_eq_false_iff_ne.mpr c1
   rw [b1]
   have e1 := end_is l (n + 1) nm
   rw [ey] at e1
   refine EvB.iff (EvB.step (fun k => ?_) e1) hd.symm
   simp only [impl_rawOk.j0]
   rw [if_neg (by decide), if_neg (by omega), if_pos (by omega), r0]
theorem sOk (l : List S87) (h : SL l) : EvB (fun k => spec_TokensOk.f k l) (∀ n, n < l.length → OKp l n) := by
 have hh := h
 obtain ⟨hl, hs⟩ := h
 unfold spec_TokensOk.f
 have key : ∀ n, n < l.length → ∃ g : Nat → Option Bool, EvB g (OKp l n) ∧ ∀ k, spec_TokensOk.l0 (k + 1) l (n : Int) = (g k).bind fun t => if t = true then spec_TokensOk.l0 k l ((n + 1 : Nat) : Int) else some false := fun n hn => by
  obtain ⟨x, hx⟩ : ∃ x, rd_T87 l (n : Int) = x := ⟨_, rfl⟩
  have hk := hs n hn
  have hHeld := sHeld l hh n hn
  rw [hx] at hk hHeld
  have hb : ∃ b : Bool, (b = true ↔ (0 < n ∧ x.f0 = 1 ∧ (rd_T87 l ((n - 1 : Nat) : Int)).f0 = 1)) ∧ ∀ (r : Option Bool), (if (n : Int) > 0 then (if x.f0 = 1 then (if 0 ≤ (wrap64 ((n : Int) - 1)) then (if (wrap64 ((n : Int) - 1)) < (l.length : Int) then (if ((rd_T87 l (wrap64 ((n : Int) - 1))).f0) = 1 then (some false) else r) else (none)) else (none)) else r) else r) = if b = true then some false else r := by
   by_cases c0 : 0 < n
   ·by_cases c1 : x.f0 = 1
    ·have w : wrap64 ((n : Int) - 1) = ((n - 1 : Nat) : Int) := by rw [wrap_id _ (by omega) (by omega)]; omega
     by_cases c3 : (rd_T87 l ((n - 1 : Nat) : Int)).f0 = 1
     ·exact ⟨true, ⟨fun _ => ⟨c0, c1, c3⟩, fun _ => rfl⟩, fun r => by rw [w, if_pos (by omega), if_pos c1, if_pos (by omega), if_pos (by omega), if_pos c3, if_pos rfl]⟩
     ·exact ⟨false, ⟨fun q => by simp at q, fun q => absurd q.2.2 c3⟩, fun r => by rw [w, if_pos (by omega), if_pos c1, if_pos (by omega), if_pos (by omega), if_neg c3, if_neg (by decide)]⟩
    ·exact ⟨false, ⟨fun q => by simp at q, fun q => absurd q.2.1 c1⟩, fun r => by rw [if_pos (by omega), if_neg c1, if_neg (by decide)]⟩
   ·exact ⟨false, ⟨fun q => by simp at q, fun q => absurd q.1 c0⟩, fun r => by rw [if_neg (by omega), if_neg (by decide)]⟩
  obtain ⟨b, hb, he⟩ := hb
  refine ⟨fun k => (spec_l5Token.f k x.f0 x.f1 x.f2 x.f3 x.f4).bind fun t => if t = true then ((spec_l5Held.f k l (n : Int)).bind fun t => if t = true then some (!b) else some false) else some false, ?_, fun k => ?_⟩
  ·unfold OKp
   rw [hx]
   refine EvB.bind (sToken x hk) (fun p => ?_) (fun p => ?_)
   ·simp only [if_true]
    refine EvB.bind hHeld (fun q => ?_) (fun q => ?_)
    ·simp only [if_true]
     refine EvB.now ?_
     rw [Bool.not_eq_true']
     exact ⟨fun z => ⟨p, fun w => by rw [hb.2 w] at z; exact absurd z (by simp), q⟩, fun z => Bool.eq_false_iff.mpr (fun w => z.2.1 (hb.1 w))⟩
    ·simp only [Bool.false_eq_true, if_false]
     exact .inr ⟨fun z => q z.2.2, Ev.now _⟩
   ·simp only [Bool.false_eq_true, if_false]
    exact .inr ⟨fun z => p z.1, Ev.now _⟩
  ·simp only [spec_TokensOk.l0]
   rw [if_pos (by omega), if_pos (by omega), hx, next_at _ (by omega)]
   cases spec_l5Token.f k x.f0 x.f1 x.f2 x.f3 x.f4 with
   | none => rfl
   | some t =>
    simp only [Option.bind_some]
    cases t
    ·rfl
    ·simp only [if_true]
     cases spec_l5Held.f k l (n : Int) with
     | none => rfl
     | some t =>
      simp only [Option.bind_some]
      cases t
      ·rfl
      ·simp only [if_true]
       rw [he]
       cases b <;> rfl
 have := EvB.loop (fun k n => spec_TokensOk.l0 k l n) 0 l.length (Nat.zero_le _) (OKp l) True
  (fun n hn g r e => by
   obtain ⟨f, hf, st⟩ := key n hn
   rcases hf with ⟨_, hf⟩ | ⟨p, _⟩
   ·exact Ev.step st (Ev.bind hf (by simp only [if_true]; exact e))
   ·exact absurd g p)
  (fun n hn g => by
   obtain ⟨f, hf, st⟩ := key n hn
   rcases hf with ⟨p, _⟩ | ⟨_, hf⟩
   ·exact absurd p g
   ·exact Ev.step st (Ev.bind hf (by simp only [Bool.false_eq_true, if_false]; exact Ev.now _)))
  (fun _ => .inl ⟨trivial, Ev.at1 fun k => by simp only [spec_TokensOk.l0]; rw [if_neg (by omega)]⟩)
 exact this.iff ⟨fun q n hn => q.1 n (Nat.zero_le _) hn, fun q => ⟨fun n _ hn => q n hn, trivial⟩⟩
theorem iOk (l : List S87) (h : SL l) : EvB (fun k => impl_TokensOk.f k l) (∀ n, n < l.length → OKp l n) := by
 have hh := h
 obtain ⟨hl, hs⟩ := h
 unfold impl_TokensOk.f
 have key : ∀ n, n < l.length → (OKp l n → ∀ r, Ev (fun k => impl_TokensOk.l0 k l l (l.length : Int) ((n + 1 : Nat) : Int)) r → Ev (fun k => impl_TokensOk.l0 k l l (l.length : Int) (n : Int)) r) ∧ (¬ OKp l n → Ev (fun k => impl_TokensOk.l0 k l l (l.length : Int) (n : Int)) false) := fun n hn => by
  obtain ⟨x, hx⟩ : ∃ x, rd_T87 l (n : Int) = x := ⟨_, rfl⟩
  have hk := hs n hn
  rw [hx] at hk
  have hHeld := iHeld l hh n hn x.f1 hk.1
  have hb : ∃ b : Bool, (b = true ↔ (0 < n ∧ x.f0 = 1 ∧ (rd_T87 l ((n - 1 : Nat) : Int)).f0 = 1)) ∧ ∀ k, impl_TokensOk.l0 (k + 1) l l (l.length : Int) (n : Int) = (impl_tokenOk.f k x.f0 x.f1 x.f2 x.f3 x.f4).bind fun t => if t = true then impl_TokensOk.j1 k l (n : Int) l (l.length : Int) (n : Int) b x.f0 x.f1 x.f2 x.f3 x.f4 else impl_TokensOk.j1 k l (n : Int) l (l.length : Int) (n : Int) true x.f0 x.f1 x.f2 x.f3 x.f4 := by
   by_cases c0 : 0 < n
   ·by_cases c1 : x.f0 = 1
    ·have w : wrap64 ((n : Int) - 1) = ((n - 1 : Nat) : Int) := by rw [wrap_id _ (by omega) (by omega)]; omega
     refine ⟨(rd_T87 l ((n - 1 : Nat) : Int)).f0 == 1, by rw [beq_iff_eq]; exact ⟨fun q => ⟨c0, c1, q⟩, fun q => q.2.2⟩, fun k => ?_⟩
     simp only [impl_TokensOk.l0]
     rw [if_pos (by omega), if_pos (by omega), if_pos (by omega), hx, w]
     simp only [if_pos (show (n : Int) > 0 by omega), if_pos c1, if_pos (show (0 : Int) ≤ ((n - 1 : Nat) : Int) by omega), if_pos (show ((n - 1 : Nat) : Int) < (l.length : Int) by omega)]
    ·refine ⟨false, ⟨fun q => by simp at q, fun q => absurd q.2.1 c1⟩, fun k => ?_⟩
     simp only [impl_TokensOk.l0]
     rw [if_pos (by omega), if_pos (by omega), if_pos (by omega), hx]
     simp only [if_pos (show (n : Int) > 0 by omega), if_neg c1]
   ·refine ⟨false, ⟨fun q => by simp at q, fun q => absurd q.1 c0⟩, fun k => ?_⟩
    simp only [impl_TokensOk.l0]
    rw [if_pos (by omega), if_pos (by omega), if_pos (by omega), hx]
    simp only [if_neg (show ¬ (n : Int) > 0 by omega)]
  obtain ⟨b, hb, st⟩ := hb
  have jout : Ev (fun k => impl_TokensOk.j1 k l (n : Int) l (l.length : Int) (n : Int) true x.f0 x.f1 x.f2 x.f3 x.f4) false := Ev.at1 fun k => by simp only [impl_TokensOk.j1]; rw [if_pos trivial]
  have w1 := next_at n (by omega)
  have jgo : ∀ r, Ev (fun k => impl_TokensOk.l0 k l l (l.length : Int) ((n + 1 : Nat) : Int)) r → (x.f0 = 2 → x.f4 = false → RW x.f1 → HD l n x.f1) → Ev (fun k => impl_TokensOk.j1 k l (n : Int) l (l.length : Int) (n : Int) false x.f0 x.f1 x.f2 x.f3 x.f4) r := fun r e g => by
   by_cases c2 : x.f0 = 2
   ·by_cases c4 : x.f4 = true
    ·exact Ev.step (fun k => by simp only [impl_TokensOk.j1]; rw [if_neg (by decide), if_pos c2, if_pos c4, w1]) e
    ·by_cases cr : isIn x.f1 wsRaw = true
     ·rcases hHeld with ⟨_, hh⟩ | ⟨p, _⟩
      ·refine Ev.step (f := fun k => (impl_rawOk.f k x.f1 (l.drop (n + 1))).bind fun t => if t = true then impl_TokensOk.l0 k l l (l.length : Int) ((n + 1 : Nat) : Int) else some false) (fun k => ?_) (Ev.bind hh (by simp only [if_true]; exact e))
       simp only [impl_TokensOk.j1]
       rw [if_neg (by decide), if_pos c2, if_neg c4, impl_Raw_is _ hk.1, Option.bind_some, cr, if_pos rfl, w1, if_pos (by omega), if_pos (by omega), Int.toNat_natCast]
      ·exact absurd (g c2 (Bool.eq_false_iff.mpr c4) cr) p
     ·exact Ev.step (fun k => by simp only [impl_TokensOk.j1]; rw [if_neg (by decide), if_pos c2, if_neg c4, impl_Raw_is _ hk.1, Option.bind_some, if_neg cr, w1]) e
   ·exact Ev.step (fun k => by simp only [impl_TokensOk.j1]; rw [if_neg (by decide), if_neg c2, w1]) e
  have jno : ¬ (x.f0 = 2 → x.f4 = false → RW x.f1 → HD l n x.f1) → Ev (fun k => impl_TokensOk.j1 k l (n : Int) l (l.length : Int) (n : Int) false x.f0 x.f1 x.f2 x.f3 x.f4) false := fun g => by
   have c2 : x.f0 = 2 := Classical.byContradiction fun q => g fun a => absurd a q
   have c4 : x.f4 = false := Classical.byContradiction fun q => g fun _ a => absurd a q
   have cr : isIn x.f1 wsRaw = true := Classical.byContradiction fun q => g fun _ _ a => absurd a q
   have hno : ¬ HD l n x.f1 := fun q => g fun _ _ _ => q
   rcases hHeld with ⟨p, _⟩ | ⟨_, hh⟩
   ·exact absurd p hno
   ·refine Ev.step (f := fun k => (impl_rawOk.f k x.f1 (l.drop (n + 1))).bind fun t => if t = true then impl_TokensOk.l0 k l l (l.length : Int) ((n + 1 : Nat) : Int) else some false) (fun k => ?_) (Ev.bind hh (by simp only [Bool.false_eq_true, if_false]; exact Ev.now _))
    simp only [impl_TokensOk.j1]
    rw [if_neg (by decide), if_pos c2, if_neg (by rw [c4]; decide), impl_Raw_is _ hk.1, Option.bind_some, cr, if_pos rfl, w1, if_pos (by omega), if_pos (by omega), Int.toNat_natCast]
  unfold OKp
  rw [hx]
  constructor
  ·rintro ⟨p, q, g⟩ r e
   have hbf : b = false := Bool.eq_false_iff.mpr fun z => q (hb.1 z)
   subst hbf
   rcases iToken x hk with ⟨_, t⟩ | ⟨z, _⟩
   ·exact Ev.step st (Ev.bind t (by simp only [if_true]; exact jgo r e g))
   ·exact absurd p z
  ·intro g
   rcases iToken x hk with ⟨p, t⟩ | ⟨z, t⟩
   ·cases b with
    | true => exact Ev.step st (Ev.bind t (by simp only [if_true]; exact jout))
    | false =>
     refine Ev.step st (Ev.bind t (by simp only [if_true]; exact jno fun w => g ⟨p, fun q => absurd (hb.2 q) (by simp), w⟩))
   ·exact Ev.step st (Ev.bind t (by simp only [Bool.false_eq_true, if_false]; exact jout))
 have := EvB.loop (fun k n => impl_TokensOk.l0 k l l (l.length : Int) n) 0 l.length (Nat.zero_le _) (OKp l) True (fun n hn g => (key n hn).1 g) (fun n hn g => (key n hn).2 g)
  (fun _ => .inl ⟨trivial, Ev.at1 fun k => by simp only [impl_TokensOk.l0]; rw [if_neg (by omega)]⟩)
 exact this.iff ⟨fun q n hn => q.1 n (Nat.zero_le _) hn, fun q => ⟨fun n _ hn => q n hn, trivial⟩⟩
theorem vAs_mem : ∀ (l : List S117) (x : S117), x ∈ l → vA x ≤ vAs l
 | [], x, h => by simp at h
 | y :: l, x, h => by
  rcases List.mem_cons.1 h with rfl | h
  ·simp only [vAs]; omega
  ·have := vAs_mem l x h; simp only [vAs]; omega
theorem small_SL (l : List S87) (h : vTs l ≤ 1048576) : SL l := by
 have hlen := vTs_len l
 refine ⟨by omega, fun n hn => ?_⟩
 have hm : rd_T87 l (n : Int) ∈ l := by
  have : rd_T87 l (n : Int) = l[n] := by
   unfold rd_T87
   rw [Int.toNat_natCast, List.getD_eq_getElem?_getD, List.getElem?_eq_getElem hn]
   rfl
  rw [this]
  exact List.getElem_mem hn
 generalize rd_T87 l (n : Int) = x at hm ⊢
 have a := vTs_mem l x hm
 have d : vT x = 1 + x.f1.size + vAs x.f2 + x.f3.size := rfl
 have e := vAs_len x.f2
 refine ⟨by omega, by omega, by omega, fun m hm2 => ?_⟩
 have hm3 : rd_T117 x.f2 (m : Int) ∈ x.f2 := by
  have : rd_T117 x.f2 (m : Int) = x.f2[m] := by
   unfold rd_T117
   rw [Int.toNat_natCast, List.getD_eq_getElem?_getD, List.getElem?_eq_getElem hm2]
   rfl
  rw [this]
  exact List.getElem_mem hm2
 have f := vAs_mem x.f2 _ hm3
 have g : vA (rd_T117 x.f2 (m : Int)) = 1 + (rd_T117 x.f2 (m : Int)).f0.size + (rd_T117 x.f2 (m : Int)).f1.size := rfl
 exact ⟨by omega, by omega⟩
theorem FnExactTokensOk (l : List S83) (h : l.length ≤ 9223372036854775807) (hg : ∀ x ∈ l, GK x) : ∃ k, laws_FnExactTokensOk.f k l = some true := by
 refine Ev.rounds (r := true) ?_
 unfold laws_FnExactTokensOk.f
 obtain ⟨t, et, hr⟩ := szTokenS_ex l h hg
 refine Ev.bind et ?_
 by_cases c : t < 0
 ·simp only [if_pos c]; exact Ev.now _
 ·simp only [if_neg c]
  obtain ⟨t0, hW⟩ : 0 ≤ t ∧ vTs (l.map cI) ≤ 1048576 := by
   rcases hr with hr | hr
   ·exact absurd hr c
   ·exact hr
  have hlen := vTs_len (l.map cI)
  have hl : l.length ≤ 1048576 := by rw [List.length_map] at hlen; omega
  have hsm : ∀ x ∈ l.map cI, x.f2.length ≤ 1048576 := fun x hx => by
   have a := vTs_mem _ x hx
   have b := vAs_len x.f2
   have d : vT x = 1 + x.f1.size + vAs x.f2 + x.f3.size := rfl
   omega
  have hat : ∀ x ∈ l, x.f2.length ≤ 1048576 := fun x hx => by
   have := hsm (cI x) (List.mem_map_of_mem hx)
   have e : (cI x).f2.length = x.f2.length := List.length_map _
   omega
  have ta := toTokenS_ev l hl hat
  have hS := small_SL (l.map cI) hW
  obtain ⟨r, e1, e2⟩ := (sOk (l.map cI) hS).both (iOk (l.map cI) hS) Iff.rfl
  refine Ev.bind ta (Ev.bind e1 (Ev.bind ta (Ev.bind e2 ?_)))
  simp only [bne_self_eq_false, Bool.false_eq_true, if_false]
  refine Ev.bind ta (Ev.bind (eqTokenS_same (l.map cI) (by omega) (fun x hx => by have := hsm x hx; omega)) ?_)
  simp only [if_true]
  exact Ev.now _
end Go.Proofs.Yteafgjebaedjbaa.Pure
