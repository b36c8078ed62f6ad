/- The statement of FnExactPopName, over the printed functions: it is true for every input within memory. -/
import Derived.Test.YtedeliggbjbngaaSFnExactPopNamex0
import Derived.Test.YtedeliggbjbngaaSFnExactPopNamex1
import Derived.Test.YtedeliggbjbngaaSFnExactPopNamex2
import Derived.Test.YtedeliggbjbngaaSFnExactPopNamex3
import Derived.Test.YtedeliggbjbngaaSFnExactPopNamex4
import Derived.Test.YtedeliggbjbngaaSFnExactPopNamex5
import Derived.Test.YtedeliggbjbngaaSFnExactPopNamex6
import Derived.Test.YtedeliggbjbngaaSFnExactPopNamex7
import Derived.Test.YtedeliggbjbngaaSFnExactPopNamex8
import Derived.Test.YtedeliggbjbngaaSFnExactPopNamex9
import Derived.Test.YtedeliggbjbngaaSFnExactPopNamex10
import Derived.Test.YtedeliggbjbngaaSFnExactPopNamex11
namespace Go.Proofs.Ytedeliggbjbngaa.Pure
open Go.RowKit Go.Proofs.Ytedeliggbjbngaa.PFnExactPopName Go.Proofs.YtedeliggbjbngaaW.PrintWords Go.Proofs.YtedeliggbjbngaaW.PrintLast
set_option linter.unusedVariables false
set_option linter.unusedSimpArgs false
theorem Ev.yes {α : Type} {g : Nat → Option α} {r : α} (h : ∀ k, g k = some r) : Ev g r := ⟨0, fun k _ => h k⟩
theorem Ev.at1 {α : Type} {g : Nat → Option α} {r : α} (h : ∀ k, g (k + 1) = some r) : Ev g r := Ev.step (f := fun _ => some r) h (Ev.now r)
theorem wrap_id (n : Int) (h0 : -9223372036854775808 ≤ n) (h1 : n ≤ 9223372036854775807) : wrap64 n = n := by unfold wrap64; omega
theorem set_mid {α : Type} (pre : List α) (x y : α) (suf : List α) : (pre ++ x :: suf).set ((pre.length : Nat) : Int).toNat y = (pre ++ [y]) ++ suf := by
 rw [Int.toNat_natCast]
 simp
theorem next_at (n : Nat) (h : n ≤ 2000000000000) : wrap64 ((n : Int) + 1) = ((n + 1 : Nat) : Int) := by
 rw [wrap_id _ (by omega) (by omega)]
 omega
theorem rd_mid (pre : List Int) (x : Int) (suf : List Int) : rd (pre ++ x :: suf) ((pre.length : Nat) : Int) = x := by
 unfold rd
 rw [Int.toNat_natCast]
 simp
theorem eqIntS_loop : ∀ (suf pre : List Int), (pre ++ suf).length ≤ 2000000000000 → Ev (fun k => laws_eqIntS.l0 k (pre ++ suf) (pre ++ suf) ((pre.length : Nat) : Int)) true
 | [], pre, h => by
  refine Ev.at1 fun k => ?_
  simp only [laws_eqIntS.l0, List.append_nil]
  rw [if_neg (by omega)]
 | x :: suf, pre, h => by
  have hl : (pre ++ x :: suf).length = pre.length + 1 + suf.length := by simp; omega
  have ih := eqIntS_loop suf (pre ++ [x]) (by simp at h ⊢; omega)
  refine Ev.step (f := fun k => laws_eqIntS.l0 k (pre ++ x :: suf) (pre ++ x :: suf) ((pre.length + 1 : Nat) : Int)) (fun k => ?_) ?_
  ·simp only [laws_eqIntS.l0]
   rw [if_pos (by omega), if_pos (by omega), if_pos (by omega), if_pos trivial, next_at _ (by omega)]
  ·have e : pre ++ [x] ++ suf = pre ++ x :: suf := by simp
   rw [e, List.length_append] at ih
   exact ih
theorem eqIntS_same (l : List Int) (h : l.length ≤ 2000000000000) : Ev (fun k => laws_eqIntS.f k l l) true := by
 unfold laws_eqIntS.f
 simp only [if_true]
 exact eqIntS_loop l [] h
theorem toIntS_loop (l : List Int) (suf : List Int) : ∀ (pre : List Int), l = pre ++ suf → l.length ≤ 1000000000000 →
  Ev (fun k => laws_toIntS.l0 k l (pre ++ List.replicate suf.length 0) ((pre.length : Nat) : Int)) l := by
 induction suf with
 | nil =>
  intro pre hl h
  refine Ev.at1 fun k => ?_
  simp only [laws_toIntS.l0]
  rw [if_neg (by rw [hl]; simp)]
  simp [hl]
 | cons x suf IH =>
  intro pre hl h
  have hn : l.length = pre.length + 1 + suf.length := by rw [hl]; simp; omega
  have ih := IH (pre ++ [x]) (by rw [hl]; simp) h
  refine Ev.step (f := fun k => laws_toIntS.l0 k l (pre ++ [x] ++ List.replicate suf.length 0) ((pre.length + 1 : Nat) : Int)) (fun k => ?_) ?_
  ·simp only [laws_toIntS.l0]
   have e : List.replicate (x :: suf).length (0 : Int) = 0 :: List.replicate suf.length 0 := rfl
   have hx : rd l ((pre.length : Nat) : Int) = x := by rw [hl]; exact rd_mid pre x suf
   rw [if_pos (by omega), if_pos (by omega), if_pos (by simp; omega), next_at _ (by omega), hx, e, set_mid]
  ·have e2 : (pre ++ [x]).length = pre.length + 1 := by simp
   rw [e2] at ih
   exact ih
theorem toIntS_ev (l : List Int) (h : l.length ≤ 1000000000000) : Ev (fun k => laws_toIntS.f k l) l := by
 unfold laws_toIntS.f
 rw [Int.toNat_natCast]
 simp only [if_pos (show (0 : Int) ≤ (l.length : Int) by omega), if_pos (show l.length ≤ 35184372088832 by omega)]
 exact toIntS_loop l l [] rfl h
theorem rdA_mid (pre : List S86) (x : S86) (suf : List S86) : rd_T86 (pre ++ x :: suf) ((pre.length : Nat) : Int) = x := by
 unfold rd_T86
 rw [Int.toNat_natCast]
 simp
theorem rdI_mid (pre : List S64) (x : S64) (suf : List S64) : rd_T64 (pre ++ x :: suf) ((pre.length : Nat) : Int) = x := by
 unfold rd_T64
 rw [Int.toNat_natCast]
 simp
theorem rdA2_mid (pre : List S79) (x : S79) (suf : List S79) : rd_T79 (pre ++ x :: suf) ((pre.length : Nat) : Int) = x := by
 unfold rd_T79
 rw [Int.toNat_natCast]
 simp
theorem rdI2_mid (pre : List S45) (x : S45) (suf : List S45) : rd_T45 (pre ++ x :: suf) ((pre.length : Nat) : Int) = x := by
 unfold rd_T45
 rw [Int.toNat_natCast]
 simp
def GA (a : S86) : Prop := a.f0.size ≤ 9223372036854775807 ∧ a.f1.size ≤ 9223372036854775807
def GI (x : S64) : Prop := x.f2.size ≤ 9223372036854775807 ∧ (x.f3.length ≤ 9223372036854775807 ∧ ∀ a ∈ x.f3, GA a) ∧ x.f4.size ≤ 9223372036854775807 ∧ x.f6.length ≤ 9223372036854775807
theorem szIntS_is (l : List Int) (a : Int) (h : l.length ≤ 9223372036854775807) (h0 : 0 ≤ a) (h1 : a ≤ 1048576) : ∃ t, laws_szIntS.f l a = some t ∧ (t < 0 ∨ (0 ≤ t ∧ t ≤ a ∧ l.length ≤ 1048576)) := by
 unfold laws_szIntS.f
 rw [wrap_id (a - (l.length : Int)) (by omega) (by omega)]
 by_cases c : a - (l.length : Int) < 0
 ·rw [if_pos c]; exact ⟨_, rfl, .inl (by omega)⟩
 ·rw [if_neg c]; exact ⟨_, rfl, .inr ⟨by omega, by omega, by omega⟩⟩
theorem szAttr_is (x y : ByteArray) (a : Int) (hx : x.size ≤ 9223372036854775807) (hy : y.size ≤ 9223372036854775807) (h0 : 0 ≤ a) (h1 : a ≤ 1048576) : ∃ t, laws_szAttr.f x y a = some t ∧ (t < 0 ∨ (0 ≤ t ∧ t ≤ a)) := by
 unfold laws_szAttr.f
 rw [wrap_id (a - (x.size : Int)) (by omega) (by omega)]
 by_cases c : a - (x.size : Int) < 0
 ·rw [if_pos c]; exact ⟨_, rfl, .inl (by omega)⟩
 ·rw [if_neg c, wrap_id (a - (x.size : Int) - (y.size : Int)) (by omega) (by omega)]
  by_cases c2 : a - (x.size : Int) - (y.size : Int) < 0
  ·rw [if_pos c2]; exact ⟨_, rfl, .inl (by omega)⟩
  ·rw [if_neg c2]; exact ⟨_, rfl, .inr ⟨by omega, by omega⟩⟩
theorem szAttrS_loop (suf : List S86) : ∀ (pre : List S86) (a : Int), (pre ++ suf).length ≤ 1048576 → (∀ x ∈ suf, GA x) → 0 ≤ a → a ≤ 1048576 →
  ∃ t, Ev (fun k => laws_szAttrS.l0 k (pre ++ suf) a ((pre.length : Nat) : Int)) t ∧ (t < 0 ∨ (0 ≤ t ∧ t ≤ a)) := by
 induction suf with
 | nil =>
  intro pre a h hg h0 h1
  refine ⟨a, Ev.at1 fun k => ?_, .inr ⟨h0, by omega⟩⟩
  simp only [laws_szAttrS.l0, List.append_nil]
  rw [if_neg (by omega)]
 | cons x suf IH =>
  intro pre a h hg h0 h1
  have hl : (pre ++ x :: suf).length = pre.length + 1 + suf.length := by simp; omega
  have hx := hg x (List.mem_cons_self ..)
  obtain ⟨t, ht, hr⟩ := szAttr_is x.f0 x.f1 a hx.1 hx.2 h0 h1
  have st : ∀ k, laws_szAttrS.l0 (k + 1) (pre ++ x :: suf) a ((pre.length : Nat) : Int) = if t < 0 then some (-1) else laws_szAttrS.l0 k (pre ++ x :: suf) t ((pre.length + 1 : Nat) : Int) := fun k => by
   simp only [laws_szAttrS.l0]
   rw [if_pos (by omega), if_pos (by omega), rdA_mid, ht, next_at _ (by omega)]
   rfl
  by_cases c : t < 0
  ·exact ⟨-1, Ev.at1 fun k => by rw [st, if_pos c], .inl (by omega)⟩
  ·obtain ⟨t2, e2, hr2⟩ := IH (pre ++ [x]) t (by simp at h ⊢; omega) (fun y hy => hg y (List.mem_cons_of_mem _ hy)) (by omega) (by omega)
   have e : pre ++ [x] ++ suf = pre ++ x :: suf := by simp
   rw [e, List.length_append] at e2
   refine ⟨t2, Ev.step (fun k => ?_) e2, ?_⟩
   ·rw [st, if_neg c]; rfl
   ·rcases hr2 with hr2 | ⟨a1, a2⟩
    ·exact .inl hr2
    ·exact .inr ⟨a1, by omega⟩
theorem szAttrS_ex (l : List S86) (a : Int) (h : l.length ≤ 9223372036854775807) (hg : ∀ x ∈ l, GA x) (h0 : 0 ≤ a) (h1 : a ≤ 1048576) : ∃ t, Ev (fun k => laws_szAttrS.f k l a) t ∧ (t < 0 ∨ (0 ≤ t ∧ t ≤ a ∧ l.length ≤ 1048576)) := by
 unfold laws_szAttrS.f
 rw [wrap_id (a - (l.length : Int)) (by omega) (by omega)]
 by_cases c : a - (l.length : Int) < 0
 ·simp only [if_pos c]; exact ⟨_, Ev.now _, .inl (by omega)⟩
 ·simp only [if_neg c]
  obtain ⟨t, e, hr⟩ := szAttrS_loop l [] (a - (l.length : Int)) (by simp; omega) hg (by omega) (by omega)
  refine ⟨t, e, ?_⟩
  rcases hr with hr | ⟨a1, a2⟩
  ·exact .inl hr
  ·exact .inr ⟨a1, by omega, by omega⟩
def LI (x : S64) : Prop := x.f3.length ≤ 1048576 ∧ x.f6.length ≤ 1048576 ∧ x.f2.size ≤ 1048576 ∧ x.f4.size ≤ 1048576
theorem szItem_ex (x : S64) (hg : GI x) (a : Int) (h0 : 0 ≤ a) (h1 : a ≤ 1048576) : ∃ t, Ev (fun k => laws_szItem.f k x.f0 x.f1 x.f2 x.f3 x.f4 x.f5 x.f6 a) t ∧ (t < 0 ∨ (0 ≤ t ∧ t ≤ a ∧ LI x)) := by
 obtain ⟨g2, ⟨g3, g3a⟩, g4, g6⟩ := hg
 unfold laws_szItem.f
 rw [wrap_id (a - (x.f2.size : Int)) (by omega) (by omega)]
 by_cases c : a - (x.f2.size : Int) < 0
 ·simp only [if_pos c]; exact ⟨_, Ev.now _, .inl (by omega)⟩
 ·simp only [if_neg c]
  obtain ⟨t, e, hr⟩ := szAttrS_ex x.f3 (a - (x.f2.size : Int)) g3 g3a (by omega) (by omega)
  by_cases c2 : t < 0
  ·refine ⟨-1, Ev.bind e ?_, .inl (by omega)⟩
   simp only [if_pos c2]; exact Ev.now _
  ·have hw : wrap64 (t - (x.f4.size : Int)) = t - (x.f4.size : Int) := wrap_id _ (by omega) (by omega)
   by_cases c3 : t - (x.f4.size : Int) < 0
   ·refine ⟨-1, Ev.bind e ?_, .inl (by omega)⟩
    simp only [if_neg c2, hw, if_pos c3]; exact Ev.now _
   ·obtain ⟨t2, e2, hr2⟩ := szIntS_is x.f6 (t - (x.f4.size : Int)) g6 (by omega) (by omega)
    by_cases c4 : t2 < 0
    ·refine ⟨-1, Ev.bind e ?_, .inl (by omega)⟩
     simp only [if_neg c2, hw, if_neg c3, e2, Option.bind_some, if_pos c4]; exact Ev.now _
    ·refine ⟨t2, Ev.bind e ?_, .inr ⟨by omega, by omega, by omega, by omega, by omega, by omega⟩⟩
     simp only [if_neg c2, hw, if_neg c3, e2, Option.bind_some, if_neg c4]; exact Ev.now _
theorem szItemS_loop (suf : List S64) : ∀ (pre : List S64) (a : Int), (pre ++ suf).length ≤ 1048576 → (∀ x ∈ suf, GI x) → 0 ≤ a → a ≤ 1048576 →
  ∃ t, Ev (fun k => laws_szItemS.l0 k (pre ++ suf) a ((pre.length : Nat) : Int)) t ∧ (t < 0 ∨ (0 ≤ t ∧ t ≤ a ∧ ∀ x ∈ suf, LI x)) := by
 induction suf with
 | nil =>
  intro pre a h hg h0 h1
  refine ⟨a, Ev.at1 fun k => ?_, .inr ⟨h0, by omega, by simp⟩⟩
  simp only [laws_szItemS.l0, List.append_nil]
  rw [if_neg (by omega)]
 | cons x suf IH =>
  intro pre a h hg h0 h1
  have hl : (pre ++ x :: suf).length = pre.length + 1 + suf.length := by simp; omega
  obtain ⟨t, et, hr⟩ := szItem_ex x (hg x (List.mem_cons_self ..)) a h0 h1
  have st : ∀ k, laws_szItemS.l0 (k + 1) (pre ++ x :: suf) a ((pre.length : Nat) : Int) = (laws_szItem.f k x.f0 x.f1 x.f2 x.f3 x.f4 x.f5 x.f6 a).bind fun t => if t < 0 then some (-1) else laws_szItemS.l0 k (pre ++ x :: suf) t ((pre.length + 1 : Nat) : Int) := fun k => by
   simp only [laws_szItemS.l0]
   rw [if_pos (by omega), if_pos (by omega), rdI_mid, next_at _ (by omega)]
  by_cases c : t < 0
  ·refine ⟨-1, Ev.step st (Ev.bind et ?_), .inl (by omega)⟩
   simp only [if_pos c]; exact Ev.now _
  ·obtain ⟨t2, e2, hr2⟩ := IH (pre ++ [x]) t (by simp at h ⊢; omega) (fun y hy => hg y (List.mem_cons_of_mem _ hy)) (by omega) (by omega)
   have e : pre ++ [x] ++ suf = pre ++ x :: suf := by simp
   rw [e, List.length_append] at e2
   refine ⟨t2, Ev.step st (Ev.bind et ?_), ?_⟩
   ·simp only [if_neg c]; exact e2
   ·rcases hr2 with hr2 | ⟨a1, a2, a3⟩
    ·exact .inl hr2
    ·refine .inr ⟨a1, by omega, fun y hy => ?_⟩
     rcases List.mem_cons.1 hy with rfl | hy
     ·rcases hr with hr | hr
      ·exact absurd hr c
      ·exact hr.2.2
     ·exact a3 y hy
theorem szItemS_ex (l : List S64) (h : l.length ≤ 9223372036854775807) (hg : ∀ x ∈ l, GI x) : ∃ t, Ev (fun k => laws_szItemS.f k l 1048576) t ∧ (t < 0 ∨ (0 ≤ t ∧ t ≤ 1048576 ∧ l.length ≤ 1048576 ∧ ∀ x ∈ l, LI x)) := by
 unfold laws_szItemS.f
 rw [wrap_id (1048576 - (l.length : Int)) (by omega) (by omega)]
 by_cases c : 1048576 - (l.length : Int) < 0
 ·simp only [if_pos c]; exact ⟨_, Ev.now _, .inl (by omega)⟩
 ·simp only [if_neg c]
  obtain ⟨t, e, hr⟩ := szItemS_loop l [] (1048576 - (l.length : Int)) (by simp; omega) hg (by omega) (by omega)
  refine ⟨t, e, ?_⟩
  rcases hr with hr | ⟨a1, a2, a3⟩
  ·exact .inl hr
  ·exact .inr ⟨a1, by omega, by omega, a3⟩
def cA (x : S86) : S79 := ⟨x.f0, x.f1⟩
def cI (x : S64) : S45 := ⟨x.f0, x.f1, x.f2, x.f3.map cA, x.f4, x.f5, x.f6⟩
theorem toAttrS_loop (l : List S86) (suf : List S86) : ∀ (pre : List S86), l = pre ++ suf → l.length ≤ 1048576 →
  Ev (fun k => laws_toAttrS.l0 k l (pre.map cA ++ List.replicate suf.length z79) ((pre.length : Nat) : Int)) (l.map cA) := by
 induction suf with
 | nil =>
  intro pre hl h
  refine Ev.at1 fun k => ?_
  simp only [laws_toAttrS.l0]
  rw [if_neg (by rw [hl]; simp)]
  simp [hl]
 | cons x suf IH =>
  intro pre hl h
  have hn : l.length = pre.length + 1 + suf.length := by rw [hl]; simp; omega
  have ih := IH (pre ++ [x]) (by rw [hl]; simp) h
  refine Ev.step (f := fun k => laws_toAttrS.l0 k l (pre.map cA ++ [cA x] ++ List.replicate suf.length z79) ((pre.length + 1 : Nat) : Int)) (fun k => ?_) ?_
  ·simp only [laws_toAttrS.l0]
   have e : List.replicate (x :: suf).length z79 = z79 :: List.replicate suf.length z79 := rfl
   have hx : rd_T86 l ((pre.length : Nat) : Int) = x := by rw [hl]; exact rdA_mid pre x suf
   have hs := set_mid (pre.map cA) z79 (cA x) (List.replicate suf.length z79)
   rw [List.length_map] at hs
   rw [if_pos (by omega), if_pos (by omega), hx, e]
   unfold laws_toAttr.f
   simp only [Option.bind_some]
   rw [if_pos (by simp; omega), next_at _ (by omega)]
   show laws_toAttrS.l0 k l ((pre.map cA ++ z79 :: List.replicate suf.length z79).set _ (cA x)) _ = _
   rw [hs]
  ·have e2 : (pre ++ [x]).length = pre.length + 1 := by simp
   rw [e2, List.map_append] at ih
   exact ih
theorem toAttrS_ev (l : List S86) (h : l.length ≤ 1048576) : Ev (fun k => laws_toAttrS.f k l) (l.map cA) := by
 unfold laws_toAttrS.f
 rw [Int.toNat_natCast]
 simp only [if_pos (show (0 : Int) ≤ (l.length : Int) by omega), if_pos (show l.length ≤ 8796093022208 by omega)]
 exact toAttrS_loop l l [] rfl h
theorem toItem_ev (x : S64) (h : LI x) : Ev (fun k => laws_toItem.f k x.f0 x.f1 x.f2 x.f3 x.f4 x.f5 x.f6) (x.f0, x.f1, x.f2, x.f3.map cA, x.f4, x.f5, x.f6) := by
 unfold laws_toItem.f
 exact Ev.bind (toAttrS_ev x.f3 h.1) (Ev.bind (toIntS_ev x.f6 (by have := h.2; omega)) (Ev.now _))
theorem toItemS_loop (l : List S64) (suf : List S64) : ∀ (pre : List S64), l = pre ++ suf → l.length ≤ 1048576 → (∀ x ∈ suf, LI x) →
  Ev (fun k => laws_toItemS.l0 k l (pre.map cI ++ List.replicate suf.length z45) ((pre.length : Nat) : Int)) (l.map cI) := by
 induction suf with
 | nil =>
  intro pre hl h hg
  refine Ev.at1 fun k => ?_
  simp only [laws_toItemS.l0]
  rw [if_neg (by rw [hl]; simp)]
  simp [hl]
 | cons x suf IH =>
  intro pre hl h hg
  have hn : l.length = pre.length + 1 + suf.length := by rw [hl]; simp; omega
  have ih := IH (pre ++ [x]) (by rw [hl]; simp) h (fun y hy => hg y (List.mem_cons_of_mem _ hy))
  have hx : rd_T64 l ((pre.length : Nat) : Int) = x := by rw [hl]; exact rdI_mid pre x suf
  refine Ev.step (f := fun k => (laws_toItem.f k x.f0 x.f1 x.f2 x.f3 x.f4 x.f5 x.f6).bind fun b => laws_toItemS.l0 k l (pre.map cI ++ [(⟨b.1, b.2.1, b.2.2.1, b.2.2.2.1, b.2.2.2.2.1, b.2.2.2.2.2.1, b.2.2.2.2.2.2⟩ : S45)] ++ List.replicate suf.length z45) ((pre.length + 1 : Nat) : Int)) (fun k => ?_) (Ev.bind (toItem_ev x (hg x (List.mem_cons_self ..))) ?_)
  ·simp only [laws_toItemS.l0]
   have e : List.replicate (x :: suf).length z45 = z45 :: List.replicate suf.length z45 := rfl
   rw [if_pos (by omega), if_pos (by omega), hx, e]
   congr 1
   funext b
   have hs := set_mid (pre.map cI) z45 (⟨b.1, b.2.1, b.2.2.1, b.2.2.2.1, b.2.2.2.2.1, b.2.2.2.2.2.1, b.2.2.2.2.2.2⟩ : S45) (List.replicate suf.length z45)
   rw [List.length_map] at hs
   rw [if_pos (by simp; omega), next_at _ (by omega), hs]
  ·have e2 : (pre ++ [x]).length = pre.length + 1 := by simp
   rw [e2, List.map_append] at ih
   exact ih
theorem toItemS_ev (l : List S64) (h : l.length ≤ 1048576) (hg : ∀ x ∈ l, LI x) : Ev (fun k => laws_toItemS.f k l) (l.map cI) := by
 unfold laws_toItemS.f
 rw [Int.toNat_natCast]
 simp only [if_pos (show (0 : Int) ≤ (l.length : Int) by omega), if_pos (show l.length ≤ 2706490160679 by omega)]
 exact toItemS_loop l l [] rfl h hg
theorem eqAttrS_loop (suf : List S79) : ∀ (pre : List S79), (pre ++ suf).length ≤ 2000000000000 → Ev (fun k => laws_eqAttrS.l0 k (pre ++ suf) (pre ++ suf) ((pre.length : Nat) : Int)) true := by
 induction suf with
 | nil =>
  intro pre h
  refine Ev.at1 fun k => ?_
  simp only [laws_eqAttrS.l0, List.append_nil]
  rw [if_neg (by omega)]
 | cons x suf IH =>
  intro pre h
  have hl : (pre ++ x :: suf).length = pre.length + 1 + suf.length := by simp; omega
  have ih := IH (pre ++ [x]) (by simp at h ⊢; omega)
  refine Ev.step (f := fun k => laws_eqAttrS.l0 k (pre ++ x :: suf) (pre ++ x :: suf) ((pre.length + 1 : Nat) : Int)) (fun k => ?_) ?_
  ·simp only [laws_eqAttrS.l0]
   rw [if_pos (by omega), if_pos (by omega), if_pos (by omega), rdA2_mid, next_at _ (by omega)]
   unfold laws_eqAttr.f
   simp only [if_true, Option.bind_some]
  ·have e : pre ++ [x] ++ suf = pre ++ x :: suf := by simp
   rw [e, List.length_append] at ih
   exact ih
theorem eqAttrS_same (l : List S79) (h : l.length ≤ 2000000000000) : Ev (fun k => laws_eqAttrS.f k l l) true := by
 unfold laws_eqAttrS.f
 simp only [if_true]
 exact eqAttrS_loop l [] h
theorem eqItem_same (x : S45) (h3 : x.f3.length ≤ 2000000000000) (h6 : x.f6.length ≤ 2000000000000) : Ev (fun k => laws_eqItem.f k x.f0 x.f1 x.f2 x.f3 x.f4 x.f5 x.f6 x.f0 x.f1 x.f2 x.f3 x.f4 x.f5 x.f6) true := by
 unfold laws_eqItem.f
 simp only [if_true]
 refine Ev.bind (eqAttrS_same x.f3 h3) ?_
 simp only [if_true]
 refine Ev.bind (eqIntS_same x.f6 h6) ?_
 simp only [if_true]
 exact Ev.now _
theorem eqItemS_loop (suf : List S45) : ∀ (pre : List S45), (pre ++ suf).length ≤ 2000000000000 → (∀ x ∈ suf, x.f3.length ≤ 2000000000000 ∧ x.f6.length ≤ 2000000000000) → Ev (fun k => laws_eqItemS.l0 k (pre ++ suf) (pre ++ suf) ((pre.length : Nat) : Int)) true := by
 induction suf with
 | nil =>
  intro pre h hg
  refine Ev.at1 fun k => ?_
  simp only [laws_eqItemS.l0, List.append_nil]
  rw [if_neg (by omega)]
 | cons x suf IH =>
  intro pre h hg
  have hl : (pre ++ x :: suf).length = pre.length + 1 + suf.length := by simp; omega
  have ih := IH (pre ++ [x]) (by simp at h ⊢; omega) (fun y hy => hg y (List.mem_cons_of_mem _ hy))
  have hx := hg x (List.mem_cons_self ..)
  refine Ev.step (f := fun k => (laws_eqItem.f k x.f0 x.f1 x.f2 x.f3 x.f4 x.f5 x.f6 x.f0 x.f1 x.f2 x.f3 x.f4 x.f5 x.f6).bind fun t => (if t = true then laws_eqItemS.l0 k (pre ++ x :: suf) (pre ++ x :: suf) ((pre.length + 1 : Nat) : Int) else some false)) (fun k => ?_) (Ev.bind (eqItem_same x hx.1 hx.2) ?_)
  ·simp only [laws_eqItemS.l0]
   rw [if_pos (by omega), if_pos (by omega), if_pos (by omega), rdI2_mid, next_at _ (by omega)]
  ·simp only [if_true]
   have e : pre ++ [x] ++ suf = pre ++ x :: suf := by simp
   rw [e, List.length_append] at ih
   exact ih
theorem eqItemS_same (l : List S45) (h : l.length ≤ 2000000000000) (hg : ∀ x ∈ l, x.f3.length ≤ 2000000000000 ∧ x.f6.length ≤ 2000000000000) : Ev (fun k => laws_eqItemS.f k l l) true := by
 unfold laws_eqItemS.f
 simp only [if_true]
 exact eqItemS_loop l [] h hg
def mks : Nat → Int → List Int
 | 0, _ => []
 | n + 1, c => c :: mks n (c + 1)
theorem mks_length : ∀ (n : Nat) (c : Int), (mks n c).length = n
 | 0, _ => rfl
 | n + 1, c => by simp [mks, mks_length n]
theorem markIntS_loop (suf : List Int) : ∀ (pre : List Int) (c : Int), (pre ++ suf).length ≤ 1000000000000 → 0 ≤ c → c ≤ 8000000000000 - suf.length →
  Ev (fun k => laws_markIntS.l0 k (pre ++ suf) c ((pre.length : Nat) : Int)) (c + suf.length, pre ++ mks suf.length c) := by
 induction suf with
 | nil =>
  intro pre c h h0 h1
  refine Ev.at1 fun k => ?_
  simp only [laws_markIntS.l0, List.append_nil]
  rw [if_neg (by omega)]
  simp [mks]
 | cons x suf IH =>
  intro pre c h h0 h1
  have hl : (pre ++ x :: suf).length = pre.length + 1 + suf.length := by simp; omega
  have hl2 : (x :: suf).length = suf.length + 1 := rfl
  have ih := IH (pre ++ [c]) (c + 1) (by simp at h ⊢; omega) (by omega) (by omega)
  refine Ev.step (f := fun k => laws_markIntS.l0 k ((pre ++ [c]) ++ suf) (c + 1) ((pre.length + 1 : Nat) : Int)) (fun k => ?_) ?_
  ·simp only [laws_markIntS.l0]
   rw [if_pos (by omega), if_pos (by omega), next_at _ (by omega), set_mid, wrap_id (c + 1) (by omega) (by omega)]
  ·rw [List.length_append] at ih
   have e : (c + ((x :: suf).length : Nat), pre ++ mks (x :: suf).length c) = (c + 1 + (suf.length : Nat), (pre ++ [c]) ++ mks suf.length (c + 1)) := by
    rw [hl2]
    simp only [mks, List.append_assoc, List.singleton_append, Prod.mk.injEq, and_true]
    omega
   rw [e]
   exact ih
theorem markIntS_ev (l : List Int) (c : Int) (h : l.length ≤ 1000000000000) (h0 : 0 ≤ c) (h1 : c ≤ 8000000000000 - l.length) : Ev (fun k => laws_markIntS.f k l c) (c + l.length, mks l.length c) := by
 unfold laws_markIntS.f
 exact markIntS_loop l [] c h h0 h1
theorem heldIntS_loop (n : Nat) : ∀ (pre : List Int) (c : Int), pre.length + n ≤ 1000000000000 → 0 ≤ c → c ≤ 8000000000000 - n →
  Ev (fun k => laws_heldIntS.l0 k (pre ++ mks n c) c ((pre.length : Nat) : Int)) (c + n) := by
 induction n with
 | zero =>
  intro pre c h h0 h1
  refine Ev.at1 fun k => ?_
  simp only [laws_heldIntS.l0, mks, List.append_nil]
  rw [if_neg (by omega)]
  simp
 | succ n IH =>
  intro pre c h h0 h1
  have hl : (pre ++ mks (n + 1) c).length = pre.length + 1 + n := by rw [List.length_append, mks_length]; omega
  have ih := IH (pre ++ [c]) (c + 1) (by simp; omega) (by omega) (by omega)
  refine Ev.step (f := fun k => laws_heldIntS.l0 k (pre ++ mks (n + 1) c) (c + 1) ((pre.length + 1 : Nat) : Int)) (fun k => ?_) ?_
  ·simp only [laws_heldIntS.l0]
   rw [if_pos (by omega), if_pos (by omega), next_at _ (by omega), wrap_id (c + 1) (by omega) (by omega)]
   have e : mks (n + 1) c = c :: mks n (c + 1) := rfl
   rw [e, rd_mid, if_pos rfl]
  ·have e : pre ++ [c] ++ mks n (c + 1) = pre ++ mks (n + 1) c := by simp [mks]
   rw [e, List.length_append] at ih
   have e2 : c + 1 + (n : Int) = c + ((n + 1 : Nat) : Int) := by omega
   rw [e2] at ih
   exact ih
theorem heldIntS_ev (n : Nat) (c : Int) (h : n ≤ 1000000000000) (h0 : 0 ≤ c) (h1 : c ≤ 8000000000000 - n) : Ev (fun k => laws_heldIntS.f k (mks n c) c) (c + n) := by
 unfold laws_heldIntS.f
 exact heldIntS_loop n [] c (by simpa using h) h0 h1
theorem marktext_loop (d : Nat) : ∀ (n : Int) (out : ByteArray), 0 ≤ n → n < 10 ^ d → n ≤ 8000000000000 → out.size + d ≤ 1000 → ∃ r, Ev (fun k => laws_markText.l0 k n out) r := by
 induction d with
 | zero =>
  intro n out h0 h1 hb h2
  have : ¬ n > 0 := by simp at h1; omega
  refine ⟨(⟨#[109]⟩ : ByteArray) ++ out, Ev.at1 fun k => ?_⟩
  simp only [laws_markText.l0]
  rw [if_neg this, if_pos (by omega)]
 | succ d ih =>
  intro n out h0 h1 hb h2
  by_cases hn : n > 0
  ·have e : Int.tdiv n 10 = n / 10 := Int.tdiv_eq_ediv_of_nonneg h0
   have hp : (10 : Int) ^ (d + 1) = 10 ^ d * 10 := Int.pow_succ 10 d
   have hd : n / 10 < 10 ^ d := by omega
   have hd0 : 0 ≤ n / 10 := by omega
   have hs : ∀ x : Int, (strOfNums [x]).size = 1 := fun x => rfl
   obtain ⟨r, hr⟩ := ih (n / 10) ((strOfNums [(wrap64 (48 + (Int.tmod n 10))) % 256]) ++ out) hd0 hd (by omega) (by rw [ByteArray.size_append, hs]; omega)
   refine ⟨r, Ev.step (fun k => ?_) hr⟩
   simp only [laws_markText.l0, Option.bind_some]
   rw [if_pos hn, hs, if_pos (by omega), e, wrap_id (n / 10) (by omega) (by omega)]
  ·refine ⟨(⟨#[109]⟩ : ByteArray) ++ out, Ev.at1 fun k => ?_⟩
   simp only [laws_markText.l0]
   rw [if_neg hn, if_pos (by omega)]
theorem marktext_ex (n : Int) (h : n ≤ 8000000000000) : ∃ r, Ev (fun k => laws_markText.f k n) r := by
 unfold laws_markText.f
 by_cases h0 : n ≤ 0
 ·exact ⟨_, Ev.yes fun _ => if_pos h0⟩
 ·obtain ⟨r, hr⟩ := marktext_loop 13 n (⟨#[]⟩ : ByteArray) (by omega) (by omega) h (by decide)
  exact ⟨r, Ev.congr (fun k => if_neg h0) hr⟩
noncomputable def MT (n : Int) : ByteArray := if h : n ≤ 8000000000000 then Classical.choose (marktext_ex n h) else ByteArray.empty
theorem marktext_ev (n : Int) (h : n ≤ 8000000000000) : Ev (fun k => laws_markText.f k n) (MT n) := by
 unfold MT
 rw [dif_pos h]
 exact Classical.choose_spec (marktext_ex n h)
theorem Ev.shift {α : Type} {g : Nat → Option α} {r : α} (h : Ev (fun k => g (k + 1)) r) : Ev g r := Ev.step (f := fun k => g (k + 1)) (fun _ => rfl) h
noncomputable def MA : Nat → Int → List S79
 | 0, _ => []
 | n + 1, c => ⟨MT c, MT (c + 1)⟩ :: MA n (c + 1 + 1)
theorem MA_length : ∀ (n : Nat) (c : Int), (MA n c).length = n
 | 0, _ => rfl
 | n + 1, c => by simp [MA, MA_length n]
theorem markAttrS_loop (suf : List S79) : ∀ (pre : List S79) (c : Int), (pre ++ suf).length ≤ 1048576 → 0 ≤ c → c + 2 * suf.length ≤ 8000000000000 →
  Ev (fun k => laws_markAttrS.l0 k (pre ++ suf) c ((pre.length : Nat) : Int)) (c + 2 * suf.length, pre ++ MA suf.length c) := by
 induction suf with
 | nil =>
  intro pre c h h0 h1
  refine Ev.shift ?_
  simp only [laws_markAttrS.l0, List.append_nil]
  simp only [if_neg (show ¬ ((pre.length : Nat) : Int) < (pre.length : Int) by omega), MA, List.length_nil, List.append_nil]
  rw [show c + 2 * ((0 : Nat) : Int) = c by omega]
  exact Ev.now _
 | cons x suf IH =>
  intro pre c h h0 h1
  have hl : (pre ++ x :: suf).length = pre.length + 1 + suf.length := by simp; omega
  have hl2 : (x :: suf).length = suf.length + 1 := rfl
  have ih := IH (pre ++ [⟨MT c, MT (c + 1)⟩]) (c + 1 + 1) (by simp at h ⊢; omega) (by omega) (by omega)
  refine Ev.shift ?_
  simp only [laws_markAttrS.l0]
  simp only [if_pos (show ((pre.length : Nat) : Int) < ((pre ++ x :: suf).length : Int) by omega), if_pos (show 0 ≤ ((pre.length : Nat) : Int) by omega), wrap_id (c + 1) (by omega) (by omega), wrap_id (c + 1 + 1) (by omega) (by omega), next_at pre.length (by omega), Option.bind_some]
  refine Ev.bind (marktext_ev c (by omega)) ?_
  simp only [set_mid, List.append_assoc, List.singleton_append, rdA2_mid]
  refine Ev.bind (marktext_ev (c + 1) (by omega)) ?_
  try simp only [set_mid, List.append_assoc, List.singleton_append]
  rw [List.length_append] at ih
  have e : (c + 2 * ((x :: suf).length : Nat), pre ++ MA (x :: suf).length c) = (c + 1 + 1 + 2 * (suf.length : Nat), (pre ++ [⟨MT c, MT (c + 1)⟩]) ++ MA suf.length (c + 1 + 1)) := by
   rw [hl2]
   simp only [MA, List.append_assoc, List.singleton_append, Prod.mk.injEq, and_true]
   omega
  rw [e]
  simp only [List.append_assoc, List.singleton_append] at ih ⊢
  exact ih
theorem markAttrS_ev (l : List S79) (c : Int) (h : l.length ≤ 1048576) (h0 : 0 ≤ c) (h1 : c + 2 * l.length ≤ 8000000000000) : Ev (fun k => laws_markAttrS.f k l c) (c + 2 * l.length, MA l.length c) := by
 unfold laws_markAttrS.f
 exact markAttrS_loop l [] c h h0 h1
theorem heldAttrS_loop (n : Nat) : ∀ (pre : List S79) (c : Int), pre.length + n ≤ 1048576 → 0 ≤ c → c + 2 * n ≤ 8000000000000 →
  Ev (fun k => laws_heldAttrS.l0 k (pre ++ MA n c) c ((pre.length : Nat) : Int)) (c + 2 * n) := by
 induction n with
 | zero =>
  intro pre c h h0 h1
  refine Ev.shift ?_
  simp only [laws_heldAttrS.l0, MA, List.append_nil]
  simp only [if_neg (show ¬ ((pre.length : Nat) : Int) < (pre.length : Int) by omega)]
  rw [show c + 2 * ((0 : Nat) : Int) = c by omega]
  exact Ev.now _
 | succ n IH =>
  intro pre c h h0 h1
  have hl : (pre ++ MA (n + 1) c).length = pre.length + 1 + n := by rw [List.length_append, MA_length]; omega
  have ih := IH (pre ++ [⟨MT c, MT (c + 1)⟩]) (c + 1 + 1) (by simp; omega) (by omega) (by omega)
  have e : MA (n + 1) c = ⟨MT c, MT (c + 1)⟩ :: MA n (c + 1 + 1) := rfl
  refine Ev.shift ?_
  simp only [laws_heldAttrS.l0]
  simp only [if_pos (show ((pre.length : Nat) : Int) < ((pre ++ MA (n + 1) c).length : Int) by omega), if_pos (show 0 ≤ ((pre.length : Nat) : Int) by omega), wrap_id (c + 1) (by omega) (by omega), wrap_id (c + 1 + 1) (by omega) (by omega), next_at pre.length (by omega)]
  rw [e]
  simp only [rdA2_mid]
  refine Ev.bind (marktext_ev c (by omega)) ?_
  simp only [if_true]
  refine Ev.bind (marktext_ev (c + 1) (by omega)) ?_
  simp only [if_true]
  rw [List.length_append] at ih
  have e2 : pre ++ [⟨MT c, MT (c + 1)⟩] ++ MA n (c + 1 + 1) = pre ++ ⟨MT c, MT (c + 1)⟩ :: MA n (c + 1 + 1) := by simp
  rw [e2] at ih
  rw [show c + 2 * ((n + 1 : Nat) : Int) = c + 1 + 1 + 2 * (n : Int) by omega]
  exact ih
theorem heldAttrS_ev (n : Nat) (c : Int) (h : n ≤ 1048576) (h0 : 0 ≤ c) (h1 : c + 2 * n ≤ 8000000000000) : Ev (fun k => laws_heldAttrS.f k (MA n c) c) (c + 2 * n) := by
 unfold laws_heldAttrS.f
 exact heldAttrS_loop n [] c (by simpa using h) h0 h1
def nx (x : S45) (c : Int) : Int := c + 1 + 1 + 1 + 2 * (x.f3.length : Int) + 1 + 1 + (x.f6.length : Int)
noncomputable def MX (x : S45) (c : Int) : S45 := ⟨c, c + 1, MT (c + 1 + 1), MA x.f3.length (c + 1 + 1 + 1), MT (c + 1 + 1 + 1 + 2 * (x.f3.length : Int)), c + 1 + 1 + 1 + 2 * (x.f3.length : Int) + 1, mks x.f6.length (c + 1 + 1 + 1 + 2 * (x.f3.length : Int) + 1 + 1)⟩
noncomputable def MIl : List S45 → Int → List S45
 | [], _ => []
 | x :: t, c => MX x c :: MIl t (nx x c)
def MIc : List S45 → Int → Int
 | [], c => c
 | x :: t, c => MIc t (nx x c)
theorem MIl_length : ∀ (l : List S45) (c : Int), (MIl l c).length = l.length
 | [], _ => rfl
 | x :: t, c => by simp [MIl, MIl_length t]
def SMx (x : S45) : Prop := x.f3.length ≤ 1048576 ∧ x.f6.length ≤ 1048576
theorem MIc_le : ∀ (l : List S45) (c : Int), (∀ x ∈ l, SMx x) → 0 ≤ c → c ≤ MIc l c ∧ MIc l c ≤ c + l.length * 4000000
 | [], c, _, _ => by simp [MIc]
 | x :: t, c, h, h0 => by
  have hx := h x (List.mem_cons_self ..)
  unfold SMx at hx
  have e : nx x c = c + 1 + 1 + 1 + 2 * (x.f3.length : Int) + 1 + 1 + (x.f6.length : Int) := rfl
  have ih := MIc_le t (nx x c) (fun y hy => h y (List.mem_cons_of_mem _ hy)) (by omega)
  have e2 : MIc (x :: t) c = MIc t (nx x c) := rfl
  rw [e2]
  simp only [List.length_cons]
  omega
theorem markItemS_loop (suf : List S45) : ∀ (pre M : List S45) (c : Int), (pre ++ suf).length ≤ 1048576 → (∀ x ∈ suf, SMx x) → 0 ≤ c → c + suf.length * 4000000 ≤ 7000000000000 →
  Ev (fun k => laws_markItemS.l0 k (pre ++ suf) M c ((pre.length : Nat) : Int)) (MIc suf c, M ++ MIl suf c) := by
 induction suf with
 | nil =>
  intro pre M c h hs h0 h1
  refine Ev.shift ?_
  simp only [laws_markItemS.l0, List.append_nil]
  simp only [if_neg (show ¬ ((pre.length : Nat) : Int) < (pre.length : Int) by omega), MIc, MIl, List.append_nil]
  exact Ev.now _
 | cons x suf IH =>
  intro pre M c h hs h0 h1
  have hl : (pre ++ x :: suf).length = pre.length + 1 + suf.length := by simp; omega
  have hl2 : (x :: suf).length = suf.length + 1 := rfl
  have hx := hs x (List.mem_cons_self ..)
  unfold SMx at hx
  have en : nx x c = c + 1 + 1 + 1 + 2 * (x.f3.length : Int) + 1 + 1 + (x.f6.length : Int) := rfl
  have ih := IH (pre ++ [x]) (M ++ [MX x c]) (nx x c) (by simp at h ⊢; omega) (fun y hy => hs y (List.mem_cons_of_mem _ hy)) (by omega) (by omega)
  refine Ev.shift ?_
  simp only [laws_markItemS.l0]
  simp only [if_pos (show ((pre.length : Nat) : Int) < ((pre ++ x :: suf).length : Int) by omega), if_pos (show 0 ≤ ((pre.length : Nat) : Int) by omega), wrap_id (c + 1) (by omega) (by omega), wrap_id (c + 1 + 1) (by omega) (by omega), wrap_id (c + 1 + 1 + 1) (by omega) (by omega), next_at pre.length (by omega), rdI2_mid]
  refine Ev.bind (marktext_ev (c + 1 + 1) (by omega)) ?_
  refine Ev.bind (markAttrS_ev x.f3 (c + 1 + 1 + 1) hx.1 (by omega) (by omega)) ?_
  refine Ev.bind (marktext_ev (c + 1 + 1 + 1 + 2 * (x.f3.length : Int)) (by omega)) ?_
  simp only [wrap_id (c + 1 + 1 + 1 + 2 * (x.f3.length : Int) + 1) (by omega) (by omega), wrap_id (c + 1 + 1 + 1 + 2 * (x.f3.length : Int) + 1 + 1) (by omega) (by omega)]
  refine Ev.bind (markIntS_ev x.f6 (c + 1 + 1 + 1 + 2 * (x.f3.length : Int) + 1 + 1) (by omega) (by omega) (by omega)) ?_
  rw [List.length_append] at ih
  have e1 : pre ++ [x] ++ suf = pre ++ x :: suf := by simp
  have e2 : M ++ [MX x c] ++ MIl suf (nx x c) = M ++ MIl (x :: suf) c := by simp [MIl]
  rw [e1, e2] at ih
  exact ih
theorem markItemS_ev (l : List S45) (c : Int) (h : l.length ≤ 1048576) (hs : ∀ x ∈ l, SMx x) (h0 : 0 ≤ c) (h1 : c + l.length * 4000000 ≤ 7000000000000) : Ev (fun k => laws_markItemS.f k l c) (MIc l c, MIl l c) := by
 unfold laws_markItemS.f
 simp only [if_pos (show l.length ≤ 4611686018427387903 by omega)]
 exact markItemS_loop l [] [] c h hs h0 h1
theorem heldItemS_loop (suf : List S45) : ∀ (pre : List S45) (c : Int), (pre ++ suf).length ≤ 1048576 → (∀ x ∈ suf, SMx x) → 0 ≤ c → c + suf.length * 4000000 ≤ 7000000000000 →
  Ev (fun k => laws_heldItemS.l0 k (pre ++ MIl suf c) c ((pre.length : Nat) : Int)) (MIc suf c) := by
 induction suf with
 | nil =>
  intro pre c h hs h0 h1
  refine Ev.shift ?_
  simp only [laws_heldItemS.l0, MIl, List.append_nil]
  simp only [if_neg (show ¬ ((pre.length : Nat) : Int) < (pre.length : Int) by omega), MIc]
  exact Ev.now _
 | cons x suf IH =>
  intro pre c h hs h0 h1
  have hl0 : (pre ++ x :: suf).length = pre.length + 1 + suf.length := by simp; omega
  have hl : (pre ++ MIl (x :: suf) c).length = pre.length + 1 + suf.length := by rw [List.length_append, MIl_length]; simp; omega
  have hl2 : (x :: suf).length = suf.length + 1 := rfl
  have hx := hs x (List.mem_cons_self ..)
  unfold SMx at hx
  have en : nx x c = c + 1 + 1 + 1 + 2 * (x.f3.length : Int) + 1 + 1 + (x.f6.length : Int) := rfl
  have ih := IH (pre ++ [MX x c]) (nx x c) (by simp at h ⊢; omega) (fun y hy => hs y (List.mem_cons_of_mem _ hy)) (by omega) (by omega)
  have e : MIl (x :: suf) c = MX x c :: MIl suf (nx x c) := rfl
  refine Ev.shift ?_
  simp only [laws_heldItemS.l0]
  simp only [if_pos (show ((pre.length : Nat) : Int) < ((pre ++ MIl (x :: suf) c).length : Int) by omega), if_pos (show 0 ≤ ((pre.length : Nat) : Int) by omega), wrap_id (c + 1) (by omega) (by omega), wrap_id (c + 1 + 1) (by omega) (by omega), wrap_id (c + 1 + 1 + 1) (by omega) (by omega), next_at pre.length (by omega)]
  rw [e]
  simp only [rdI2_mid]
  simp only [MX, if_true]
  refine Ev.bind (marktext_ev (c + 1 + 1) (by omega)) ?_
  simp only [if_true]
  refine Ev.bind (heldAttrS_ev x.f3.length (c + 1 + 1 + 1) hx.1 (by omega) (by omega)) ?_
  simp only [if_neg (show ¬ c + 1 + 1 + 1 + 2 * (x.f3.length : Int) < 0 by omega)]
  refine Ev.bind (marktext_ev (c + 1 + 1 + 1 + 2 * (x.f3.length : Int)) (by omega)) ?_
  simp only [if_true, wrap_id (c + 1 + 1 + 1 + 2 * (x.f3.length : Int) + 1) (by omega) (by omega), wrap_id (c + 1 + 1 + 1 + 2 * (x.f3.length : Int) + 1 + 1) (by omega) (by omega)]
  refine Ev.bind (heldIntS_ev x.f6.length (c + 1 + 1 + 1 + 2 * (x.f3.length : Int) + 1 + 1) (by omega) (by omega) (by omega)) ?_
  simp only [if_neg (show ¬ c + 1 + 1 + 1 + 2 * (x.f3.length : Int) + 1 + 1 + (x.f6.length : Int) < 0 by omega)]
  rw [List.length_append] at ih
  have e1 : pre ++ [MX x c] ++ MIl suf (nx x c) = pre ++ MX x c :: MIl suf (nx x c) := by simp
  rw [e1] at ih
  exact ih
theorem heldItemS_ev (l : List S45) (c : Int) (h : l.length ≤ 1048576) (hs : ∀ x ∈ l, SMx x) (h0 : 0 ≤ c) (h1 : c + l.length * 4000000 ≤ 7000000000000) : Ev (fun k => laws_heldItemS.f k (MIl l c) c) (MIc l c) := by
 unfold laws_heldItemS.f
 exact heldItemS_loop l [] c h hs h0 h1
theorem szPage_ex (l : List S64) (o f : List Int) (a b : Int) (hl : l.length ≤ 9223372036854775807) (ho : o.length ≤ 9223372036854775807) (hf : f.length ≤ 9223372036854775807) (hg : ∀ x ∈ l, GI x) :
  ∃ t, Ev (fun k => laws_szPage.f k l o f a b 1048576) t ∧ (t < 0 ∨ (0 ≤ t ∧ l.length ≤ 1048576 ∧ o.length ≤ 1048576 ∧ f.length ≤ 1048576 ∧ ∀ x ∈ l, LI x)) := by
 unfold laws_szPage.f
 obtain ⟨t, e, hr⟩ := szItemS_ex l hl hg
 by_cases c : t < 0
 ·refine ⟨-1, Ev.bind e ?_, .inl (by omega)⟩
  simp only [if_pos c]; exact Ev.now _
 ·obtain ⟨h0, h1, h2, h3⟩ : 0 ≤ t ∧ t ≤ 1048576 ∧ l.length ≤ 1048576 ∧ ∀ x ∈ l, LI x := by
   rcases hr with hr | hr
   ·exact absurd hr c
   ·exact hr
  obtain ⟨t2, e2, hr2⟩ := szIntS_is o t ho h0 h1
  by_cases c2 : t2 < 0
  ·refine ⟨-1, Ev.bind e ?_, .inl (by omega)⟩
   simp only [if_neg c, e2, Option.bind_some, if_pos c2]; exact Ev.now _
  ·obtain ⟨t3, e3, hr3⟩ := szIntS_is f t2 hf (by omega) (by omega)
   by_cases c3 : t3 < 0
   ·refine ⟨-1, Ev.bind e ?_, .inl (by omega)⟩
    simp only [if_neg c, e2, Option.bind_some, if_neg c2, e3, if_pos c3]; exact Ev.now _
   ·refine ⟨t3, Ev.bind e ?_, .inr ⟨by omega, h2, by omega, by omega, h3⟩⟩
    simp only [if_neg c, e2, Option.bind_some, if_neg c2, e3, if_neg c3]; exact Ev.now _
theorem toPage_ev (l : List S64) (o f : List Int) (a b : Int) (hl : l.length ≤ 1048576) (ho : o.length ≤ 1048576) (hf : f.length ≤ 1048576) (hg : ∀ x ∈ l, LI x) :
  Ev (fun k => laws_toPage.f k l o f a b) (l.map cI, o, f, a, b) := by
 unfold laws_toPage.f
 exact Ev.bind (toItemS_ev l hl hg) (Ev.bind (toIntS_ev o (by omega)) (Ev.bind (toIntS_ev f (by omega)) (Ev.now _)))
theorem markPage_ev (l : List S45) (o f : List Int) (a b : Int) (hl : l.length ≤ 1048576) (hs : ∀ x ∈ l, SMx x) (ho : o.length ≤ 2000000) (hf : f.length ≤ 2000000) :
  ∃ m M o2 f2, Ev (fun k => laws_markPage.f k l o f 1) (m, M, o2, f2) ∧ 0 ≤ m ∧ Ev (fun k => laws_heldPage.f k M o2 f2 a b 1) m := by
 have hb := MIc_le l 1 hs (by omega)
 refine ⟨(MIc l 1 + o.length) + f.length, MIl l 1, mks o.length (MIc l 1), mks f.length (MIc l 1 + o.length), ?_, ?_, ?_⟩
 ·unfold laws_markPage.f
  exact Ev.bind (markItemS_ev l 1 hl hs (by omega) (by omega)) (Ev.bind (markIntS_ev o (MIc l 1) (by omega) (by omega) (by omega)) (Ev.bind (markIntS_ev f (MIc l 1 + o.length) (by omega) (by omega) (by omega)) (Ev.now _)))
 ·omega
 ·unfold laws_heldPage.f
  refine Ev.bind (heldItemS_ev l 1 hl hs (by omega) (by omega)) ?_
  simp only [if_neg (show ¬ MIc l 1 < 0 by omega)]
  refine Ev.bind (heldIntS_ev o.length (MIc l 1) (by omega) (by omega) (by omega)) ?_
  simp only [if_neg (show ¬ MIc l 1 + (o.length : Int) < 0 by omega)]
  refine Ev.bind (heldIntS_ev f.length (MIc l 1 + o.length) (by omega) (by omega) (by omega)) ?_
  simp only [if_neg (show ¬ MIc l 1 + (o.length : Int) + (f.length : Int) < 0 by omega)]
  exact Ev.now _
theorem copied_SMx (l : List S64) (h : ∀ x ∈ l, LI x) : ∀ x ∈ l.map cI, SMx x := by
 intro y hy
 obtain ⟨x, hx, rfl⟩ := List.mem_map.1 hy
 have := h x hx
 exact ⟨by show (x.f3.map cA).length ≤ _; rw [List.length_map]; exact this.1, this.2.1⟩
theorem l6Copy_loop (suf : List S45) : ∀ (pre : List S45), (pre ++ suf).length ≤ 1048576 → (∀ x ∈ suf, SMx x) → Ev (fun k => spec_l6Copy.l0 k (pre ++ suf) pre ((pre.length : Nat) : Int)) (pre ++ suf) := by
 induction suf with
 | nil =>
  intro pre h hs
  refine Ev.shift ?_
  simp only [spec_l6Copy.l0, List.append_nil]
  simp only [if_neg (show ¬ ((pre.length : Nat) : Int) < (pre.length : Int) by omega)]
  exact Ev.now _
 | cons x suf IH =>
  intro pre h hs
  have hl : (pre ++ x :: suf).length = pre.length + 1 + suf.length := by simp; omega
  have hx := hs x (List.mem_cons_self ..)
  unfold SMx at hx
  have ih := IH (pre ++ [x]) (by simp at h ⊢; omega) (fun y hy => hs y (List.mem_cons_of_mem _ hy))
  refine Ev.shift ?_
  simp only [spec_l6Copy.l0]
  have e6 : spec_l6Item.f x.f0 x.f1 x.f2 x.f3 x.f4 x.f5 x.f6 = some (x.f0, x.f1, x.f2, x.f3, x.f4, x.f5, x.f6) := by
   unfold spec_l6Item.f
   simp only [Option.bind_some, List.length_nil, List.nil_append, if_pos (show 0 + x.f3.length < 4398046511104 by omega), if_pos (show 0 + x.f6.length < 17592186044416 by omega)]
  simp only [if_pos (show ((pre.length : Nat) : Int) < ((pre ++ x :: suf).length : Int) by omega), if_pos (show 0 ≤ ((pre.length : Nat) : Int) by omega), rdI2_mid, e6, Option.bind_some, next_at pre.length (by omega), if_pos (show pre.length < 1353245080339 by omega)]
  rw [List.length_append] at ih
  have e1 : pre ++ [x] ++ suf = pre ++ x :: suf := by simp
  rw [e1] at ih
  exact ih
theorem l8Copy_ev (l : List S45) (o f : List Int) (a b : Int) (hl : l.length ≤ 1048576) (hs : ∀ x ∈ l, SMx x) (ho : o.length ≤ 2000000) (hf : f.length ≤ 2000000) : Ev (fun k => spec_l8Copy.f k l o f a b) (l, o, f, a, b) := by
 unfold spec_l8Copy.f
 have e : Ev (fun k => spec_l6Copy.f k l) l := by
  unfold spec_l6Copy.f
  exact l6Copy_loop l [] hl hs
 refine Ev.bind e ?_
 simp only [Option.bind_some, List.length_nil, List.nil_append, if_pos (show 0 + o.length < 17592186044416 by omega), if_pos (show 0 + f.length < 17592186044416 by omega)]
 exact Ev.now _
theorem copyPage_is (l : List S45) (o f : List Int) (a b : Int) (hl : l.length ≤ 1048576) (hs : ∀ x ∈ l, SMx x) (ho : o.length ≤ 2000000) (hf : f.length ≤ 2000000) : impl_copyPage.f l o f a b = some (l, o, f, a, b) := by
 unfold impl_copyPage.f impl_copyItems.f slices_Clone_int_int.f
 rw [if_pos ⟨by omega, fun x hx => ⟨by have := (hs x hx).1; omega, by have := (hs x hx).2; omega⟩⟩]
 simp only [Option.bind_some, if_pos (show o.length < 17592186044416 by omega), if_pos (show f.length < 17592186044416 by omega)]
theorem eqPage_refl (l : List S45) (o f : List Int) (a b : Int) (hl : l.length ≤ 1048576) (hs : ∀ x ∈ l, SMx x) (ho : o.length ≤ 2000000) (hf : f.length ≤ 2000000) : Ev (fun k => laws_eqPage.f k l o f a b l o f a b) true := by
 unfold laws_eqPage.f
 refine Ev.bind (eqItemS_same l (by omega) (fun x hx => ⟨by have := (hs x hx).1; omega, by have := (hs x hx).2; omega⟩)) ?_
 simp only [if_true]
 refine Ev.bind (eqIntS_same o (by omega)) ?_
 simp only [if_true]
 refine Ev.bind (eqIntS_same f (by omega)) ?_
 simp only [if_true]
 exact Ev.now _
def NM (l : List S45) (o : List Int) (k : Int) : ByteArray := if 0 ≤ k ∧ k < o.length ∧ 0 ≤ rd o k ∧ rd o k < l.length then (rd_T45 l (rd o k)).f2 else (⟨#[]⟩ : ByteArray)
theorem spec_name_is (l : List S45) (o f : List Int) (a b k : Int) : spec_l8Name.f l o f a b k = some (NM l o k) := by
 unfold spec_l8Name.f NM
 by_cases c1 : k < 0
 ·rw [if_pos c1, if_neg (by omega)]
 ·rw [if_neg c1]
  by_cases c2 : k ≥ (o.length : Int)
  ·rw [if_pos c2, if_neg (by omega)]
  ·rw [if_neg c2, if_pos (by omega), if_pos (by omega)]
   by_cases c3 : rd o k < 0
   ·rw [if_pos c3, if_neg (by omega)]
   ·rw [if_neg c3]
    by_cases c4 : rd o k ≥ (l.length : Int)
    ·rw [if_pos c4, if_neg (by omega)]
    ·rw [if_neg c4, if_pos (by omega), if_pos (by omega), if_pos (by omega)]
theorem NM_at (l : List S45) (o : List Int) (n : Nat) (h : n < o.length) : NM l o (n : Int) = nameAt l o (n : Int) := by
 unfold NM nameAt
 by_cases c : 0 ≤ rd o (n : Int) ∧ rd o (n : Int) < (l.length : Int)
 ·rw [if_pos c, if_pos ⟨by omega, by omega, c.1, c.2⟩]
 ·rw [if_neg c, if_neg (fun x => c ⟨x.2.2.1, x.2.2.2⟩)]
theorem l8Unmark_is (f : List Int) (hf : f.length ≤ 2000000) : spec_l8Unmark.f f = some (f.take (if lastMk f f.length < 0 then (0 : Int) else lastMk f f.length).toNat) := by
 unfold spec_l8Unmark.f
 rw [if_pos (by omega)]
theorem cutF_le (u : ByteArray) (f : List Int) : (cutF u f).length ≤ f.length := by
 unfold cutF
 split
 ·rw [List.length_take]; omega
 ·exact Nat.le_refl _
theorem popTo_loop (l : List S45) (o : List Int) (a b : Int) (u : Int) (hu : 0 ≤ u) (ho : o.length ≤ 2000000) : ∀ (n : Nat) (f : List Int), n ≤ o.length → u.toNat ≤ n → f.length ≤ 2000000 →
  Ev (fun k => spec_PopTo.l0 k u l (o.take n) f a b) (l, o.take u.toNat, popL l o u.toNat n f, a, b) := by
 intro n
 induction n with
 | zero =>
  intro f h1 h2 h3
  refine Ev.shift ?_
  simp only [spec_PopTo.l0]
  rw [show u.toNat = 0 by omega]
  have e0 : ¬ ((([] : List Int).length : Nat) : Int) > u := by simp; omega
  simp only [List.take_zero, popL]
  exact Ev.congr (fun k => if_neg e0) (Ev.now _)
 | succ m ih =>
  intro f h1 h2 h3
  have hlen : (o.take (m + 1)).length = m + 1 := by rw [List.length_take]; omega
  have htk : (o.take (m + 1)).take m = o.take m := by rw [List.take_take, Nat.min_eq_left (Nat.le_succ m)]
  have hlm : (o.take m).length = m := by rw [List.length_take]; omega
  by_cases c : u.toNat = m + 1
  ·refine Ev.shift ?_
   simp only [spec_PopTo.l0]
   rw [← c, popL_end]
   have hl : (o.take u.toNat).length = u.toNat := by rw [c]; exact hlen
   simp only [hl, if_neg (show ¬ ((u.toNat : Nat) : Int) > u by omega)]
   exact Ev.now _
  ·have hp : popL l o u.toNat (m + 1) f = popL l o u.toNat m (cutF (nameAt l (o.take (m + 1)) (m : Int)) f) := if_pos (by omega)
   rw [hp]
   have hc := cutF_le (nameAt l (o.take (m + 1)) (m : Int)) f
   have ih2 := ih (cutF (nameAt l (o.take (m + 1)) (m : Int)) f) (by omega) (by omega) (by omega)
   have hN : spec_l8Last.f l (o.take (m + 1)) f a b = some (nameAt l (o.take (m + 1)) (m : Int)) := by
    unfold spec_l8Last.f
    rw [hlen, wrap_id (((m + 1 : Nat) : Int) - 1) (by omega) (by omega), show ((m + 1 : Nat) : Int) - 1 = (m : Int) by omega, spec_name_is, Option.bind_some, NM_at l _ m (by omega)]
   refine Ev.shift ?_
   simp only [spec_PopTo.l0]
   simp only [hlen, if_pos (show ((m + 1 : Nat) : Int) > u by omega), hN, Option.bind_some, wrap_id (((m + 1 : Nat) : Int) - 1) (by omega) (by omega), if_pos (show 0 ≤ ((m + 1 : Nat) : Int) - 1 by omega), if_pos (show ((m + 1 : Nat) : Int) - 1 ≤ ((m + 1 : Nat) : Int) by omega), show (((m + 1 : Nat) : Int) - 1).toNat = m by omega, htk, hlm, List.nil_append, List.length_nil, if_pos (show 0 + m < 17592186044416 by omega)]
   generalize nameAt l (o.take (m + 1)) (m : Int) = s at ih2 ⊢
   by_cases c1 : s.toList = ([116, 100] : List UInt8)
   ·simp only [if_pos c1]
    have e : cutF s f = f.take (if lastMk f f.length < 0 then (0 : Int) else lastMk f f.length).toNat := if_pos (.inl c1)
    simp only [l8Unmark_is f h3, Option.bind_some]
    rw [e] at ih2 ⊢
    exact ih2
   ·simp only [if_neg c1]
    by_cases c2 : s.toList = ([116, 104] : List UInt8)
    ·simp only [if_pos c2]
     have e : cutF s f = f.take (if lastMk f f.length < 0 then (0 : Int) else lastMk f f.length).toNat := if_pos (.inr c2)
     simp only [l8Unmark_is f h3, Option.bind_some]
     rw [e] at ih2 ⊢
     exact ih2
    ·simp only [if_neg c2]
     have e : cutF s f = f := if_neg (fun h => h.elim c1 c2)
     rw [e] at ih2 ⊢
     exact ih2
theorem popL_le (l : List S45) (o : List Int) (k : Nat) : ∀ (n : Nat) (f : List Int), (popL l o k n f).length ≤ f.length
 | 0, f => Nat.le_refl _
 | n + 1, f => by
  show (if k < n + 1 then popL l o k n (cutF (nameAt l (o.take (n + 1)) (n : Int)) f) else f).length ≤ _
  split
  ·exact Nat.le_trans (popL_le l o k n _) (cutF_le _ _)
  ·exact Nat.le_refl _
theorem spec_PopTo_ev (l : List S45) (o f : List Int) (a b : Int) (u : Int) (hl : l.length ≤ 1048576) (hs : ∀ x ∈ l, SMx x) (ho : o.length ≤ 2000000) (hf : f.length ≤ 2000000) : Ev (fun k => spec_PopTo.f k l o f a b u) (l, popO o u, popF l o f u, a, b) := by
 unfold spec_PopTo.f
 refine Ev.bind (l8Copy_ev l o f a b hl hs ho hf) ?_
 by_cases c : u < 0
 ·simp only [if_pos c]
  rw [show popO o u = o from if_neg (by omega), show popF l o f u = f from if_neg (by omega)]
  exact Ev.now _
 ·simp only [if_neg c]
  by_cases c2 : u < (o.length : Int)
  ·rw [show popO o u = o.take u.toNat from if_pos ⟨by omega, c2⟩, show popF l o f u = popL l o u.toNat o.length f from if_pos ⟨by omega, c2⟩]
   have h := popTo_loop l o a b u (by omega) ho o.length f (Nat.le_refl _) (by omega) hf
   rw [List.take_length] at h
   exact h
  ·rw [show popO o u = o from if_neg (by omega), show popF l o f u = f from if_neg (by omega)]
   refine Ev.shift ?_
   simp only [spec_PopTo.l0, if_neg (show ¬ (o.length : Int) > u by omega)]
   exact Ev.now _
theorem popO_le (o : List Int) (u : Int) : (popO o u).length ≤ o.length := by
 unfold popO
 split
 ·rw [List.length_take]; omega
 ·exact Nat.le_refl _
theorem popF_le (l : List S45) (o f : List Int) (u : Int) : (popF l o f u).length ≤ f.length := by
 unfold popF
 split
 ·exact popL_le _ _ _ _ _
 ·exact Nat.le_refl _
theorem l8Find_loop (l : List S45) (o f : List Int) (a b : Int) (u : ByteArray) (ho : o.length ≤ 1048576) : ∀ n : Nat, n ≤ o.length → Ev (fun k => spec_l8Find.l0 k u ((n : Int) - 1) l o f a b) (lastName l o u n) := by
 intro n
 induction n with
 | zero =>
  intro _
  refine Ev.at1 fun k => ?_
  simp only [spec_l8Find.l0]
  rw [if_neg (by omega)]
  rfl
 | succ n ih =>
  intro hn
  have st : ∀ k, spec_l8Find.l0 (k + 1) u (((n + 1 : Nat) : Int) - 1) l o f a b = if (nameAt l o (n : Int)).toList = u.toList then some (n : Int) else spec_l8Find.l0 k u ((n : Int) - 1) l o f a b := fun k => by
   simp only [spec_l8Find.l0]
   rw [show ((n + 1 : Nat) : Int) - 1 = (n : Int) by omega, if_pos (by omega), spec_name_is, Option.bind_some, NM_at l o n (by omega), wrap_id ((n : Int) - 1) (by omega) (by omega)]
  show Ev _ (if ((nameAt l o (n : Int)).toList == u.toList) = true then (n : Int) else lastName l o u n)
  by_cases c : (nameAt l o (n : Int)).toList = u.toList
  ·rw [if_pos (beq_iff_eq.mpr c)]
   exact Ev.at1 fun k => by rw [st, if_pos c]
  ·rw [if_neg (by rw [beq_iff_eq]; exact c)]
   exact Ev.step (fun k => by rw [st, if_neg c]) (ih (by omega))
theorem l8Find_is (l : List S45) (o f : List Int) (a b : Int) (u : ByteArray) (ho : o.length ≤ 1048576) : Ev (fun k => spec_l8Find.f k l o f a b u) (lastName l o u o.length) := by
 unfold spec_l8Find.f
 rw [wrap_id ((o.length : Int) - 1) (by omega) (by omega)]
 exact l8Find_loop l o f a b u ho o.length (Nat.le_refl _)
theorem FnExactPopName (l : List S64) (o f : List Int) (a b : Int) (u : ByteArray) (hl : l.length ≤ 9223372036854775807) (ho : o.length ≤ 9223372036854775807) (hf : f.length ≤ 9223372036854775807) (hg : ∀ x ∈ l, GI x) (_hu : u.size ≤ 9223372036854775807) : ∃ q, laws_FnExactPopName.f q l o f a b u = some true := by
 refine Ev.rounds (r := true) ?_
 by_cases cu : (u.size : Int) > 1048576
 ·unfold laws_FnExactPopName.f
  simp only [if_pos cu]; exact Ev.now _
 obtain ⟨t, et, hr⟩ := szPage_ex l o f a b hl ho hf hg
 by_cases c : t < 0
 ·unfold laws_FnExactPopName.f
  simp only [if_neg cu]
  refine Ev.bind et ?_
  simp only [if_pos c]; exact Ev.now _
 ·obtain ⟨_, hl, ho, hf, hL⟩ : 0 ≤ t ∧ l.length ≤ 1048576 ∧ o.length ≤ 1048576 ∧ f.length ≤ 1048576 ∧ ∀ x ∈ l, LI x := by
   rcases hr with hr | hr
   ·exact absurd hr c
   ·exact hr
  have hl2 : (l.map cI).length ≤ 1048576 := by rw [List.length_map]; exact hl
  have hsx := copied_SMx l hL
  have tp := toPage_ev l o f a b hl ho hf hL
  have h2 := popO_le o (lastName (l.map cI) o u o.length : Int)
  have h3 := popF_le (l.map cI) o f (lastName (l.map cI) o u o.length : Int)
  have e1 : Ev (fun k => spec_PopName.f k (l.map cI) o f a b u) (l.map cI, popO o (lastName (l.map cI) o u o.length : Int), popF (l.map cI) o f (lastName (l.map cI) o u o.length : Int), a, b) := by
   unfold spec_PopName.f
   exact Ev.bind (l8Find_is (l.map cI) o f a b u ho) (Ev.bind (spec_PopTo_ev (l.map cI) o f a b _ hl2 hsx (by omega) (by omega)) (Ev.now _))
  have e2 : impl_PopName.f (l.map cI) o f a b u = some (l.map cI, popO o (lastName (l.map cI) o u o.length : Int), popF (l.map cI) o f (lastName (l.map cI) o u o.length : Int), a, b) := by
   unfold impl_PopName.f
   rw [copyPage_is (l.map cI) o f a b hl2 hsx (by omega) (by omega)]
   simp only [Option.bind_some]
   rw [if_pos ⟨by omega, by omega, by omega⟩]
  obtain ⟨m0, M0, o0, f0, k0, m00, _⟩ := markPage_ev (l.map cI) o f a b hl2 hsx (by omega) (by omega)
  obtain ⟨m, M, o2, f2, k1, m10, k2⟩ := markPage_ev (l.map cI) (popO o (lastName (l.map cI) o u o.length : Int)) (popF (l.map cI) o f (lastName (l.map cI) o u o.length : Int)) a b hl2 hsx (by omega) (by omega)
  have q1 := eqPage_refl (l.map cI) o f a b hl2 hsx (by omega) (by omega)
  have q2 := eqPage_refl (l.map cI) (popO o (lastName (l.map cI) o u o.length : Int)) (popF (l.map cI) o f (lastName (l.map cI) o u o.length : Int)) a b hl2 hsx (by omega) (by omega)
  obtain ⟨K0, e0⟩ := et
  obtain ⟨K1, tp⟩ := tp
  obtain ⟨K2, e1⟩ := e1
  obtain ⟨K3, e3⟩ := k0
  obtain ⟨K4, e4⟩ := k1
  obtain ⟨K5, e5⟩ := k2
  obtain ⟨K6, e6⟩ := q1
  obtain ⟨K7, e7⟩ := q2
  refine ⟨K0 + K1 + K2 + K3 + K4 + K5 + K6 + K7, fun k hk => ?_⟩
  replace e0 := e0 k (by omega)
  replace tp := tp k (by omega)
  replace e1 := e1 k (by omega)
  replace e3 := e3 k (by omega)
  replace e4 := e4 k (by omega)
  replace e5 := e5 k (by omega)
  replace e6 := e6 k (by omega)
  replace e7 := e7 k (by omega)
  dsimp only at e0 tp e1 e3 e4 e5 e6 e7 ⊢
  unfold laws_FnExactPopName.f
  rw [if_neg cu, e0, Option.bind_some, if_neg c, tp, Option.bind_some, e1, Option.bind_some, e2, Option.bind_some, if_pos ⟨e7, e6⟩, e3, Option.bind_some, if_pos m00, e4, Option.bind_some, if_pos ⟨e5, m10⟩]
end Go.Proofs.Ytedeliggbjbngaa.Pure
