/- The statement of FnExactAdd, over the printed functions: it is true for every input within memory. -/
import Derived.Test.YtbgedpicfllclaaSFnExactAddx0
import Derived.Test.YtbgedpicfllclaaSFnExactAddx1
import Derived.Test.YtbgedpicfllclaaSFnExactAddx2
import Derived.Test.YtbgedpicfllclaaSFnExactAddx3
import Derived.Test.YtbgedpicfllclaaSFnExactAddx4
import Derived.Test.YtbgedpicfllclaaSFnExactAddx5
import Derived.Test.YtbgedpicfllclaaSFnExactAddx6
import Derived.Test.YtbgedpicfllclaaSFnExactAddx7
import Derived.Test.YtbgedpicfllclaaSFnExactAddx8
import Derived.Test.YtbgedpicfllclaaSFnExactAddx9
import Derived.Test.YtbgedpicfllclaaSFnExactAddx10
import Derived.Test.YtbgedpicfllclaaSFnExactAddx11
import Derived.Test.YtbgedpicfllclaaSFnExactAddx12
import Derived.Test.YtbgedpicfllclaaSFnExactAddx13
import Derived.Test.YtbgedpicfllclaaSFnExactAddx14
import Derived.Test.YtbgedpicfllclaaSFnExactAddx15
namespace Go.Proofs.Ytbgedpicfllclaa.Pure
open Go.RowKit Go.Proofs.Ytbgedpicfllclaa.PFnExactAdd Go.Proofs.YtbgedpicfllclaaW.PrintWords Go.Proofs.YtbgedpicfllclaaW.PrintLast
set_option linter.unusedVariables false
set_option linter.unusedSimpArgs false
theorem Ev.yes {α : Type} {g : Nat → Option α} {r : α} (h : ∀ k, g k = some r) : Ev g r := ⟨0, fun k _ => h k⟩
theorem Ev.at1 {α : Type} {g : Nat → Option α} {r : α} (h : ∀ k, g (k + 1) = some r) : Ev g r := Ev.step (f := fun _ => some r) h (Ev.now r)
theorem wrap_id (n : Int) (h0 : -9223372036854775808 ≤ n) (h1 : n ≤ 9223372036854775807) : wrap64 n = n := by unfold wrap64; omega
theorem set_mid {α : Type} (pre : List α) (x y : α) (suf : List α) : (pre ++ x :: suf).set ((pre.length : Nat) : Int).toNat y = (pre ++ [y]) ++ suf := by
 rw [Int.toNat_natCast]
 simp
theorem next_at (n : Nat) (h : n ≤ 2000000000000) : wrap64 ((n : Int) + 1) = ((n + 1 : Nat) : Int) := by
 rw [wrap_id _ (by omega) (by omega)]
 omega
theorem rd_mid (pre : List Int) (x : Int) (suf : List Int) : rd (pre ++ x :: suf) ((pre.length : Nat) : Int) = x := by
 unfold rd
 rw [Int.toNat_natCast]
 simp
theorem eqIntS_loop : ∀ (suf pre : List Int), (pre ++ suf).length ≤ 2000000000000 → Ev (fun k => laws_eqIntS.l0 k (pre ++ suf) (pre ++ suf) ((pre.length : Nat) : Int)) true
 | [], pre, h => by
  refine Ev.at1 fun k => ?_
  simp only [laws_eqIntS.l0, List.append_nil]
  rw [if_neg (by omega)]
 | x :: suf, pre, h => by
  have hl : (pre ++ x :: suf).length = pre.length + 1 + suf.length := by simp; omega
  have ih := eqIntS_loop suf (pre ++ [x]) (by simp at h ⊢; omega)
  refine Ev.step (f := fun k => laws_eqIntS.l0 k (pre ++ x :: suf) (pre ++ x :: suf) ((pre.length + 1 : Nat) : Int)) (fun k => ?_) ?_
  ·simp only [laws_eqIntS.l0]
   rw [if_pos (by omega), if_pos (by omega), if_pos (by omega), if_pos trivial, next_at _ (by omega)]
  ·have e : pre ++ [x] ++ suf = pre ++ x :: suf := by simp
   rw [e, List.length_append] at ih
   exact ih
theorem eqIntS_same (l : List Int) (h : l.length ≤ 2000000000000) : Ev (fun k => laws_eqIntS.f k l l) true := by
 unfold laws_eqIntS.f
 simp only [if_true]
 exact eqIntS_loop l [] h
theorem toIntS_loop (l : List Int) (suf : List Int) : ∀ (pre : List Int), l = pre ++ suf → l.length ≤ 1000000000000 →
  Ev (fun k => laws_toIntS.l0 k l (pre ++ List.replicate suf.length 0) ((pre.length : Nat) : Int)) l := by
 induction suf with
 | nil =>
  intro pre hl h
  refine Ev.at1 fun k => ?_
  simp only [laws_toIntS.l0]
  rw [if_neg (by rw [hl]; simp)]
  simp [hl]
 | cons x suf IH =>
  intro pre hl h
  have hn : l.length = pre.length + 1 + suf.length := by rw [hl]; simp; omega
  have ih := IH (pre ++ [x]) (by rw [hl]; simp) h
  refine Ev.step (f := fun k => laws_toIntS.l0 k l (pre ++ [x] ++ List.replicate suf.length 0) ((pre.length + 1 : Nat) : Int)) (fun k => ?_) ?_
  ·simp only [laws_toIntS.l0]
   have e : List.replicate (x :: suf).length (0 : Int) = 0 :: List.replicate suf.length 0 := rfl
   have hx : rd l ((pre.length : Nat) : Int) = x := by rw [hl]; exact rd_mid pre x suf
   rw [if_pos (by omega), if_pos (by omega), if_pos (by simp; omega), next_at _ (by omega), hx, e, set_mid]
  ·have e2 : (pre ++ [x]).length = pre.length + 1 := by simp
   rw [e2] at ih
   exact ih
theorem toIntS_ev (l : List Int) (h : l.length ≤ 1000000000000) : Ev (fun k => laws_toIntS.f k l) l := by
 unfold laws_toIntS.f
 rw [Int.toNat_natCast]
 simp only [if_pos (show (0 : Int) ≤ (l.length : Int) by omega), if_pos (show l.length ≤ 35184372088832 by omega)]
 exact toIntS_loop l l [] rfl h
theorem rdA_mid (pre : List S89) (x : S89) (suf : List S89) : rd_T89 (pre ++ x :: suf) ((pre.length : Nat) : Int) = x := by
 unfold rd_T89
 rw [Int.toNat_natCast]
 simp
theorem rdI_mid (pre : List S36) (x : S36) (suf : List S36) : rd_T36 (pre ++ x :: suf) ((pre.length : Nat) : Int) = x := by
 unfold rd_T36
 rw [Int.toNat_natCast]
 simp
theorem rdA2_mid (pre : List S91) (x : S91) (suf : List S91) : rd_T91 (pre ++ x :: suf) ((pre.length : Nat) : Int) = x := by
 unfold rd_T91
 rw [Int.toNat_natCast]
 simp
theorem rdI2_mid (pre : List S44) (x : S44) (suf : List S44) : rd_T44 (pre ++ x :: suf) ((pre.length : Nat) : Int) = x := by
 unfold rd_T44
 rw [Int.toNat_natCast]
 simp
def GA (a : S89) : Prop := a.f0.size ≤ 9223372036854775807 ∧ a.f1.size ≤ 9223372036854775807
def GI (x : S36) : Prop := x.f2.size ≤ 9223372036854775807 ∧ (x.f3.length ≤ 9223372036854775807 ∧ ∀ a ∈ x.f3, GA a) ∧ x.f4.size ≤ 9223372036854775807 ∧ x.f6.length ≤ 9223372036854775807
theorem szIntS_is (l : List Int) (a : Int) (h : l.length ≤ 9223372036854775807) (h0 : 0 ≤ a) (h1 : a ≤ 1048576) : ∃ t, laws_szIntS.f l a = some t ∧ (t < 0 ∨ (0 ≤ t ∧ t ≤ a ∧ l.length ≤ 1048576)) := by
 unfold laws_szIntS.f
 rw [wrap_id (a - (l.length : Int)) (by omega) (by omega)]
 by_cases c : a - (l.length : Int) < 0
 ·rw [if_pos c]; exact ⟨_, rfl, .inl (by omega)⟩
 ·rw [if_neg c]; exact ⟨_, rfl, .inr ⟨by omega, by omega, by omega⟩⟩
theorem szAttr_is (x y : ByteArray) (a : Int) (hx : x.size ≤ 9223372036854775807) (hy : y.size ≤ 9223372036854775807) (h0 : 0 ≤ a) (h1 : a ≤ 1048576) : ∃ t, laws_szAttr.f x y a = some t ∧ (t < 0 ∨ (0 ≤ t ∧ t ≤ a)) := by
 unfold laws_szAttr.f
 rw [wrap_id (a - (x.size : Int)) (by omega) (by omega)]
 by_cases c : a - (x.size : Int) < 0
 ·rw [if_pos c]; exact ⟨_, rfl, .inl (by omega)⟩
 ·rw [if_neg c, wrap_id (a - (x.size : Int) - (y.size : Int)) (by omega) (by omega)]
  by_cases c2 : a - (x.size : Int) - (y.size : Int) < 0
  ·rw [if_pos c2]; exact ⟨_, rfl, .inl (by omega)⟩
  ·rw [if_neg c2]; exact ⟨_, rfl, .inr ⟨by omega, by omega⟩⟩
theorem szAttrS_loop (suf : List S89) : ∀ (pre : List S89) (a : Int), (pre ++ suf).length ≤ 1048576 → (∀ x ∈ suf, GA x) → 0 ≤ a → a ≤ 1048576 →
  ∃ t, Ev (fun k => laws_szAttrS.l0 k (pre ++ suf) a ((pre.length : Nat) : Int)) t ∧ (t < 0 ∨ (0 ≤ t ∧ t ≤ a)) := by
 induction suf with
 | nil =>
  intro pre a h hg h0 h1
  refine ⟨a, Ev.at1 fun k => ?_, .inr ⟨h0, by omega⟩⟩
  simp only [laws_szAttrS.l0, List.append_nil]
  rw [if_neg (by omega)]
 | cons x suf IH =>
  intro pre a h hg h0 h1
  have hl : (pre ++ x :: suf).length = pre.length + 1 + suf.length := by simp; omega
  have hx := hg x (List.mem_cons_self ..)
  obtain ⟨t, ht, hr⟩ := szAttr_is x.f0 x.f1 a hx.1 hx.2 h0 h1
  have st : ∀ k, laws_szAttrS.l0 (k + 1) (pre ++ x :: suf) a ((pre.length : Nat) : Int) = if t < 0 then some (-1) else laws_szAttrS.l0 k (pre ++ x :: suf) t ((pre.length + 1 : Nat) : Int) := fun k => by
   simp only [laws_szAttrS.l0]
   rw [if_pos (by omega), if_pos (by omega), rdA_mid, ht, next_at _ (by omega)]
   rfl
  by_cases c : t < 0
  ·exact ⟨-1, Ev.at1 fun k => by rw [st, if_pos c], .inl (by omega)⟩
  ·obtain ⟨t2, e2, hr2⟩ := IH (pre ++ [x]) t (by simp at h ⊢; omega) (fun y hy => hg y (List.mem_cons_of_mem _ hy)) (by omega) (by omega)
   have e : pre ++ [x] ++ suf = pre ++ x :: suf := by simp
   rw [e, List.length_append] at e2
   refine ⟨t2, Ev.step (fun k => ?_) e2, ?_⟩
   ·rw [st, if_neg c]; rfl
   ·rcases hr2 with hr2 | ⟨a1, a2⟩
    ·exact .inl hr2
    ·exact .inr ⟨a1, by omega⟩
theorem szAttrS_ex (l : List S89) (a : Int) (h : l.length ≤ 9223372036854775807) (hg : ∀ x ∈ l, GA x) (h0 : 0 ≤ a) (h1 : a ≤ 1048576) : ∃ t, Ev (fun k => laws_szAttrS.f k l a) t ∧ (t < 0 ∨ (0 ≤ t ∧ t ≤ a ∧ l.length ≤ 1048576)) := by
 unfold laws_szAttrS.f
 rw [wrap_id (a - (l.length : Int)) (by omega) (by omega)]
 by_cases c : a - (l.length : Int) < 0
 ·simp only [if_pos c]; exact ⟨_, Ev.now _, .inl (by omega)⟩
 ·simp only [if_neg c]
  obtain ⟨t, e, hr⟩ := szAttrS_loop l [] (a - (l.length : Int)) (by simp; omega) hg (by omega) (by omega)
  refine ⟨t, e, ?_⟩
  rcases hr with hr | ⟨a1, a2⟩
  ·exact .inl hr
  ·exact .inr ⟨a1, by omega, by omega⟩
def LI (x : S36) : Prop := x.f3.length ≤ 1048576 ∧ x.f6.length ≤ 1048576 ∧ x.f2.size ≤ 1048576 ∧ x.f4.size ≤ 1048576
theorem szItem_ex (x : S36) (hg : GI x) (a : Int) (h0 : 0 ≤ a) (h1 : a ≤ 1048576) : ∃ t, Ev (fun k => laws_szItem.f k x.f0 x.f1 x.f2 x.f3 x.f4 x.f5 x.f6 a) t ∧ (t < 0 ∨ (0 ≤ t ∧ t ≤ a ∧ LI x)) := by
 obtain ⟨g2, ⟨g3, g3a⟩, g4, g6⟩ := hg
 unfold laws_szItem.f
 rw [wrap_id (a - (x.f2.size : Int)) (by omega) (by omega)]
 by_cases c : a - (x.f2.size : Int) < 0
 ·simp only [if_pos c]; exact ⟨_, Ev.now _, .inl (by omega)⟩
 ·simp only [if_neg c]
  obtain ⟨t, e, hr⟩ := szAttrS_ex x.f3 (a - (x.f2.size : Int)) g3 g3a (by omega) (by omega)
  by_cases c2 : t < 0
  ·refine ⟨-1, Ev.bind e ?_, .inl (by omega)⟩
   simp only [if_pos c2]; exact Ev.now _
  ·have hw : wrap64 (t - (x.f4.size : Int)) = t - (x.f4.size : Int) := wrap_id _ (by omega) (by omega)
   by_cases c3 : t - (x.f4.size : Int) < 0
   ·refine ⟨-1, Ev.bind e ?_, .inl (by omega)⟩
    simp only [if_neg c2, hw, if_pos c3]; exact Ev.now _
   ·obtain ⟨t2, e2, hr2⟩ := szIntS_is x.f6 (t - (x.f4.size : Int)) g6 (by omega) (by omega)
    by_cases c4 : t2 < 0
    ·refine ⟨-1, Ev.bind e ?_, .inl (by omega)⟩
     simp only [if_neg c2, hw, if_neg c3, e2, Option.bind_some, if_pos c4]; exact Ev.now _
    ·refine ⟨t2, Ev.bind e ?_, .inr ⟨by omega, by omega, by omega, by omega, by omega, by omega⟩⟩
     simp only [if_neg c2, hw, if_neg c3, e2, Option.bind_some, if_neg c4]; exact Ev.now _
theorem szItemS_loop (suf : List S36) : ∀ (pre : List S36) (a : Int), (pre ++ suf).length ≤ 1048576 → (∀ x ∈ suf, GI x) → 0 ≤ a → a ≤ 1048576 →
  ∃ t, Ev (fun k => laws_szItemS.l0 k (pre ++ suf) a ((pre.length : Nat) : Int)) t ∧ (t < 0 ∨ (0 ≤ t ∧ t ≤ a ∧ ∀ x ∈ suf, LI x)) := by
 induction suf with
 | nil =>
  intro pre a h hg h0 h1
  refine ⟨a, Ev.at1 fun k => ?_, .inr ⟨h0, by omega, by simp⟩⟩
  simp only [laws_szItemS.l0, List.append_nil]
  rw [if_neg (by omega)]
 | cons x suf IH =>
  intro pre a h hg h0 h1
  have hl : (pre ++ x :: suf).length = pre.length + 1 + suf.length := by simp; omega
  obtain ⟨t, et, hr⟩ := szItem_ex x (hg x (List.mem_cons_self ..)) a h0 h1
  have st : ∀ k, laws_szItemS.l0 (k + 1) (pre ++ x :: suf) a ((pre.length : Nat) : Int) = (laws_szItem.f k x.f0 x.f1 x.f2 x.f3 x.f4 x.f5 x.f6 a).bind fun t => if t < 0 then some (-1) else laws_szItemS.l0 k (pre ++ x :: suf) t ((pre.length + 1 : Nat) : Int) := fun k => by
   simp only [laws_szItemS.l0]
   rw [if_pos (by omega), if_pos (by omega), rdI_mid, next_at _ (by omega)]
  by_cases c : t < 0
  ·refine ⟨-1, Ev.step st (Ev.bind et ?_), .inl (by omega)⟩
   simp only [if_pos c]; exact Ev.now _
  ·obtain ⟨t2, e2, hr2⟩ := IH (pre ++ [x]) t (by simp at h ⊢; omega) (fun y hy => hg y (List.mem_cons_of_mem _ hy)) (by omega) (by omega)
   have e : pre ++ [x] ++ suf = pre ++ x :: suf := by simp
   rw [e, List.length_append] at e2
   refine ⟨t2, Ev.step st (Ev.bind et ?_), ?_⟩
   ·simp only [if_neg c]; exact e2
   ·rcases hr2 with hr2 | ⟨a1, a2, a3⟩
    ·exact .inl hr2
    ·refine .inr ⟨a1, by omega, fun y hy => ?_⟩
     rcases List.mem_cons.1 hy with rfl | hy
     ·rcases hr with hr | hr
      ·exact absurd hr c
      ·exact hr.2.2
     ·exact a3 y hy
theorem szItemS_ex (l : List S36) (h : l.length ≤ 9223372036854775807) (hg : ∀ x ∈ l, GI x) : ∃ t, Ev (fun k => laws_szItemS.f k l 1048576) t ∧ (t < 0 ∨ (0 ≤ t ∧ t ≤ 1048576 ∧ l.length ≤ 1048576 ∧ ∀ x ∈ l, LI x)) := by
 unfold laws_szItemS.f
 rw [wrap_id (1048576 - (l.length : Int)) (by omega) (by omega)]
 by_cases c : 1048576 - (l.length : Int) < 0
 ·simp only [if_pos c]; exact ⟨_, Ev.now _, .inl (by omega)⟩
 ·simp only [if_neg c]
  obtain ⟨t, e, hr⟩ := szItemS_loop l [] (1048576 - (l.length : Int)) (by simp; omega) hg (by omega) (by omega)
  refine ⟨t, e, ?_⟩
  rcases hr with hr | ⟨a1, a2, a3⟩
  ·exact .inl hr
  ·exact .inr ⟨a1, by omega, by omega, a3⟩
def cA (x : S89) : S91 := ⟨x.f0, x.f1⟩
def cI (x : S36) : S44 := ⟨x.f0, x.f1, x.f2, x.f3.map cA, x.f4, x.f5, x.f6⟩
theorem toAttrS_loop (l : List S89) (suf : List S89) : ∀ (pre : List S89), l = pre ++ suf → l.length ≤ 1048576 →
  Ev (fun k => laws_toAttrS.l0 k l (pre.map cA ++ List.replicate suf.length z91) ((pre.length : Nat) : Int)) (l.map cA) := by
 induction suf with
 | nil =>
  intro pre hl h
  refine Ev.at1 fun k => ?_
  simp only [laws_toAttrS.l0]
  rw [if_neg (by rw [hl]; simp)]
  simp [hl]
 | cons x suf IH =>
  intro pre hl h
  have hn : l.length = pre.length + 1 + suf.length := by rw [hl]; simp; omega
  have ih := IH (pre ++ [x]) (by rw [hl]; simp) h
  refine Ev.step (f := fun k => laws_toAttrS.l0 k l (pre.map cA ++ [cA x] ++ List.replicate suf.length z91) ((pre.length + 1 : Nat) : Int)) (fun k => ?_) ?_
  ·simp only [laws_toAttrS.l0]
   have e : List.replicate (x :: suf).length z91 = z91 :: List.replicate suf.length z91 := rfl
   have hx : rd_T89 l ((pre.length : Nat) : Int) = x := by rw [hl]; exact rdA_mid pre x suf
   have hs := set_mid (pre.map cA) z91 (cA x) (List.replicate suf.length z91)
   rw [List.length_map] at hs
   rw [if_pos (by omega), if_pos (by omega), hx, e]
   unfold laws_toAttr.f
   simp only [Option.bind_some]
   rw [if_pos (by simp; omega), next_at _ (by omega)]
   show laws_toAttrS.l0 k l ((pre.map cA ++ z91 :: List.replicate suf.length z91).set _ (cA x)) _ = _
   rw [hs]
  ·have e2 : (pre ++ [x]).length = pre.length + 1 := by simp
   rw [e2, List.map_append] at ih
   exact ih
theorem toAttrS_ev (l : List S89) (h : l.length ≤ 1048576) : Ev (fun k => laws_toAttrS.f k l) (l.map cA) := by
 unfold laws_toAttrS.f
 rw [Int.toNat_natCast]
 simp only [if_pos (show (0 : Int) ≤ (l.length : Int) by omega), if_pos (show l.length ≤ 8796093022208 by omega)]
 exact toAttrS_loop l l [] rfl h
theorem toItem_ev (x : S36) (h : LI x) : Ev (fun k => laws_toItem.f k x.f0 x.f1 x.f2 x.f3 x.f4 x.f5 x.f6) (x.f0, x.f1, x.f2, x.f3.map cA, x.f4, x.f5, x.f6) := by
 unfold laws_toItem.f
 exact Ev.bind (toAttrS_ev x.f3 h.1) (Ev.bind (toIntS_ev x.f6 (by have := h.2; omega)) (Ev.now _))
theorem toItemS_loop (l : List S36) (suf : List S36) : ∀ (pre : List S36), l = pre ++ suf → l.length ≤ 1048576 → (∀ x ∈ suf, LI x) →
  Ev (fun k => laws_toItemS.l0 k l (pre.map cI ++ List.replicate suf.length z44) ((pre.length : Nat) : Int)) (l.map cI) := by
 induction suf with
 | nil =>
  intro pre hl h hg
  refine Ev.at1 fun k => ?_
  simp only [laws_toItemS.l0]
  rw [if_neg (by rw [hl]; simp)]
  simp [hl]
 | cons x suf IH =>
  intro pre hl h hg
  have hn : l.length = pre.length + 1 + suf.length := by rw [hl]; simp; omega
  have ih := IH (pre ++ [x]) (by rw [hl]; simp) h (fun y hy => hg y (List.mem_cons_of_mem _ hy))
  have hx : rd_T36 l ((pre.length : Nat) : Int) = x := by rw [hl]; exact rdI_mid pre x suf
  refine Ev.step (f := fun k => (laws_toItem.f k x.f0 x.f1 x.f2 x.f3 x.f4 x.f5 x.f6).bind fun b => laws_toItemS.l0 k l (pre.map cI ++ [(⟨b.1, b.2.1, b.2.2.1, b.2.2.2.1, b.2.2.2.2.1, b.2.2.2.2.2.1, b.2.2.2.2.2.2⟩ : S44)] ++ List.replicate suf.length z44) ((pre.length + 1 : Nat) : Int)) (fun k => ?_) (Ev.bind (toItem_ev x (hg x (List.mem_cons_self ..))) ?_)
  ·simp only [laws_toItemS.l0]
   have e : List.replicate (x :: suf).length z44 = z44 :: List.replicate suf.length z44 := rfl
   rw [if_pos (by omega), if_pos (by omega), hx, e]
   congr 1
   funext b
   have hs := set_mid (pre.map cI) z44 (⟨b.1, b.2.1, b.2.2.1, b.2.2.2.1, b.2.2.2.2.1, b.2.2.2.2.2.1, b.2.2.2.2.2.2⟩ : S44) (List.replicate suf.length z44)
   rw [List.length_map] at hs
   rw [if_pos (by simp; omega), next_at _ (by omega), hs]
  ·have e2 : (pre ++ [x]).length = pre.length + 1 := by simp
   rw [e2, List.map_append] at ih
   exact ih
theorem toItemS_ev (l : List S36) (h : l.length ≤ 1048576) (hg : ∀ x ∈ l, LI x) : Ev (fun k => laws_toItemS.f k l) (l.map cI) := by
 unfold laws_toItemS.f
 rw [Int.toNat_natCast]
 simp only [if_pos (show (0 : Int) ≤ (l.length : Int) by omega), if_pos (show l.length ≤ 2706490160679 by omega)]
 exact toItemS_loop l l [] rfl h hg
theorem eqAttrS_loop (suf : List S91) : ∀ (pre : List S91), (pre ++ suf).length ≤ 2000000000000 → Ev (fun k => laws_eqAttrS.l0 k (pre ++ suf) (pre ++ suf) ((pre.length : Nat) : Int)) true := by
 induction suf with
 | nil =>
  intro pre h
  refine Ev.at1 fun k => ?_
  simp only [laws_eqAttrS.l0, List.append_nil]
  rw [if_neg (by omega)]
 | cons x suf IH =>
  intro pre h
  have hl : (pre ++ x :: suf).length = pre.length + 1 + suf.length := by simp; omega
  have ih := IH (pre ++ [x]) (by simp at h ⊢; omega)
  refine Ev.step (f := fun k => laws_eqAttrS.l0 k (pre ++ x :: suf) (pre ++ x :: suf) ((pre.length + 1 : Nat) : Int)) (fun k => ?_) ?_
  ·simp only [laws_eqAttrS.l0]
   rw [if_pos (by omega), if_pos (by omega), if_pos (by omega), rdA2_mid, next_at _ (by omega)]
   unfold laws_eqAttr.f
   simp only [if_true, Option.bind_some]
  ·have e : pre ++ [x] ++ suf = pre ++ x :: suf := by simp
   rw [e, List.length_append] at ih
   exact ih
theorem eqAttrS_same (l : List S91) (h : l.length ≤ 2000000000000) : Ev (fun k => laws_eqAttrS.f k l l) true := by
 unfold laws_eqAttrS.f
 simp only [if_true]
 exact eqAttrS_loop l [] h
theorem eqItem_same (x : S44) (h3 : x.f3.length ≤ 2000000000000) (h6 : x.f6.length ≤ 2000000000000) : Ev (fun k => laws_eqItem.f k x.f0 x.f1 x.f2 x.f3 x.f4 x.f5 x.f6 x.f0 x.f1 x.f2 x.f3 x.f4 x.f5 x.f6) true := by
 unfold laws_eqItem.f
 simp only [if_true]
 refine Ev.bind (eqAttrS_same x.f3 h3) ?_
 simp only [if_true]
 refine Ev.bind (eqIntS_same x.f6 h6) ?_
 simp only [if_true]
 exact Ev.now _
theorem eqItemS_loop (suf : List S44) : ∀ (pre : List S44), (pre ++ suf).length ≤ 2000000000000 → (∀ x ∈ suf, x.f3.length ≤ 2000000000000 ∧ x.f6.length ≤ 2000000000000) → Ev (fun k => laws_eqItemS.l0 k (pre ++ suf) (pre ++ suf) ((pre.length : Nat) : Int)) true := by
 induction suf with
 | nil =>
  intro pre h hg
  refine Ev.at1 fun k => ?_
  simp only [laws_eqItemS.l0, List.append_nil]
  rw [if_neg (by omega)]
 | cons x suf IH =>
  intro pre h hg
  have hl : (pre ++ x :: suf).length = pre.length + 1 + suf.length := by simp; omega
  have ih := IH (pre ++ [x]) (by simp at h ⊢; omega) (fun y hy => hg y (List.mem_cons_of_mem _ hy))
  have hx := hg x (List.mem_cons_self ..)
  refine Ev.step (f := fun k => (laws_eqItem.f k x.f0 x.f1 x.f2 x.f3 x.f4 x.f5 x.f6 x.f0 x.f1 x.f2 x.f3 x.f4 x.f5 x.f6).bind fun t => (if t = true then laws_eqItemS.l0 k (pre ++ x :: suf) (pre ++ x :: suf) ((pre.length + 1 : Nat) : Int) else some false)) (fun k => ?_) (Ev.bind (eqItem_same x hx.1 hx.2) ?_)
  ·simp only [laws_eqItemS.l0]
   rw [if_pos (by omega), if_pos (by omega), if_pos (by omega), rdI2_mid, next_at _ (by omega)]
  ·simp only [if_true]
   have e : pre ++ [x] ++ suf = pre ++ x :: suf := by simp
   rw [e, List.length_append] at ih
   exact ih
theorem eqItemS_same (l : List S44) (h : l.length ≤ 2000000000000) (hg : ∀ x ∈ l, x.f3.length ≤ 2000000000000 ∧ x.f6.length ≤ 2000000000000) : Ev (fun k => laws_eqItemS.f k l l) true := by
 unfold laws_eqItemS.f
 simp only [if_true]
 exact eqItemS_loop l [] h hg
theorem copied_small (l : List S36) (h : ∀ x ∈ l, LI x) : ∀ x ∈ l.map cI, x.f3.length ≤ 2000000000000 ∧ x.f6.length ≤ 2000000000000 := by
 intro x hx
 obtain ⟨y, hy, rfl⟩ := List.mem_map.1 hx
 have := h y hy
 obtain ⟨h1, h2⟩ := this
 refine ⟨?_, ?_⟩
 ·show (y.f3.map cA).length ≤ _
  rw [List.length_map]; omega
 ·show y.f6.length ≤ _
  omega
structure Tr (n : Nat) (U : Int → Int) (K : Int → List Int) : Prop where
 kid : ∀ i, 0 ≤ i → i < (n : Int) → ∀ x ∈ K i, 1 ≤ x ∧ x < (n : Int) ∧ U x = i
 nd : ∀ i, 0 ≤ i → i < (n : Int) → (K i).Nodup
structure TInv (n : Nat) (U : Int → Int) (out st : List Int) : Prop where
 nodup : (out ++ st).Nodup
 range : ∀ x ∈ out ++ st, 0 ≤ x ∧ x < (n : Int)
 up : ∀ x ∈ out ++ st, x ≠ 0 → U x ∈ out
theorem nd_len : ∀ (m : Nat) (l : List Int), l.Nodup → (∀ x ∈ l, 0 ≤ x ∧ x < (m : Int)) → l.length ≤ m
 | 0, l, _, h => by
  cases l with
  | nil => simp
  | cons a t => have := h a (by simp); omega
 | m + 1, l, hn, h => by
  by_cases c : (m : Int) ∈ l
  ·have h1 := nd_len m (l.erase (m : Int)) (hn.erase _) (fun x hx => by
    rw [hn.mem_erase_iff] at hx
    have := h x hx.2
    have := hx.1
    omega)
   rw [List.length_erase_of_mem c] at h1
   omega
  ·have h1 := nd_len m l hn (fun x hx => by
    have h2 := h x hx
    have : x ≠ (m : Int) := fun e => c (e ▸ hx)
    omega)
   omega
theorem TInv.len {n : Nat} {U : Int → Int} {out st : List Int} (h : TInv n U out st) : out.length + st.length ≤ n := by
 have := nd_len n _ h.nodup h.range
 rwa [List.length_append] at this
theorem TInv.step {n : Nat} {U : Int → Int} {K : Int → List Int} {out st : List Int} {i : Int} (T : Tr n U K) (h : TInv n U out (i :: st)) : TInv n U (out ++ [i]) (K i ++ st) := by
 have hi := h.range i (by simp)
 have hnd := h.nodup
 have hio : i ∉ out := fun hm => by
  rw [List.nodup_append] at hnd
  exact hnd.2.2 i hm i (by simp) rfl
 have hdis : ∀ x ∈ K i, x ∉ out ++ i :: st := fun x hx hm => by
  have hk := T.kid i hi.1 hi.2 x hx
  have := h.up x hm (by omega)
  rw [hk.2.2] at this
  exact hio this
 have hK := T.nd i hi.1 hi.2
 refine ⟨?_, ?_, ?_⟩
 ·rw [List.nodup_append] at hnd ⊢
  obtain ⟨h1, h2, h3⟩ := hnd
  rw [List.nodup_cons] at h2
  refine ⟨?_, ?_, ?_⟩
  ·rw [List.nodup_append]
   refine ⟨h1, by simp, fun a ha b hb e => ?_⟩
   rw [List.mem_singleton] at hb
   subst hb; subst e
   exact hio ha
  ·rw [List.nodup_append]
   refine ⟨hK, h2.2, fun a ha b hb e => ?_⟩
   subst e
   exact hdis a ha (by simp [hb])
  ·intro a ha b hb e
   subst e
   rw [List.mem_append, List.mem_singleton] at ha
   rw [List.mem_append] at hb
   rcases hb with hb | hb
   ·rcases ha with ha | ha
    ·exact hdis a hb (by simp [ha])
    ·exact hdis a hb (by simp [ha])
   ·rcases ha with ha | ha
    ·exact h3 a ha a (by simp [hb]) rfl
    ·subst ha
     exact h2.1 hb
 ·intro x hx
  simp only [List.mem_append, List.mem_singleton] at hx
  rcases hx with (hx | hx) | (hx | hx)
  ·exact h.range x (by simp [hx])
  ·subst hx; exact hi
  ·have := T.kid i hi.1 hi.2 x hx; omega
  ·exact h.range x (by simp [hx])
 ·intro x hx h0
  simp only [List.mem_append, List.mem_singleton] at hx ⊢
  rcases hx with (hx | hx) | (hx | hx)
  ·exact .inl (h.up x (by simp [hx]) h0)
  ·subst hx; exact .inl (h.up x (by simp) h0)
  ·exact .inr (T.kid i hi.1 hi.2 x hx).2.2
  ·exact .inl (h.up x (by simp [hx]) h0)
inductive OrdL (n : Nat) (K : Int → List Int) : List Int → List Int → List Int → Prop
 | nil (out : List Int) : OrdL n K [] out out
 | cons {i : Int} {is out o1 o2 : List Int} : 0 ≤ i → i < (n : Int) → out.length < n → OrdL n K (K i) (out ++ [i]) o1 → OrdL n K is o1 o2 → OrdL n K (i :: is) out o2
inductive Stp (n : Nat) (K : Int → List Int) : Nat → List Int → List Int → List Int → List Int → Prop
 | refl (out st : List Int) : Stp n K 0 out st out st
 | step {i : Int} {m : Nat} {out st o2 s2 : List Int} : 0 ≤ i → i < (n : Int) → out.length + st.length < n → out.length + (K i).length + st.length < n → Stp n K m (out ++ [i]) (K i ++ st) o2 s2 → Stp n K (m + 1) out (i :: st) o2 s2
theorem Stp.trans {n : Nat} {K : Int → List Int} {m m' : Nat} {a s b t c u : List Int} (h1 : Stp n K m a s b t) : Stp n K m' b t c u → ∃ m2, Stp n K m2 a s c u := by
 induction h1 with
 | refl out st => exact fun h => ⟨_, h⟩
 | step h0 hn hl hl2 _ ih =>
  intro h
  obtain ⟨m2, h⟩ := ih h
  exact ⟨_, .step h0 hn hl hl2 h⟩
theorem order_run {n : Nat} {U : Int → Int} {K : Int → List Int} (T : Tr n U K) : ∀ (m : Nat) (ks out st : List Int), TInv n U out (ks ++ st) → n - out.length ≤ m → ∃ r o2, Stp n K r out (ks ++ st) o2 st ∧ OrdL n K ks out o2 ∧ TInv n U o2 st ∧ out.length ≤ o2.length := by
 intro m
 induction m with
 | zero =>
  intro ks out st h hm
  cases ks with
  | nil => exact ⟨_, out, .refl _ _, .nil _, h, Nat.le_refl _⟩
  | cons i is =>
   have := h.len
   simp only [List.cons_append, List.length_cons] at this
   omega
 | succ m ih =>
  intro ks
  induction ks with
  | nil => intro out st h _; exact ⟨_, out, .refl _ _, .nil _, h, Nat.le_refl _⟩
  | cons i is ihl =>
   intro out st h hm
   have hlen := h.len
   simp only [List.cons_append, List.length_cons] at hlen
   have h1 : TInv n U (out ++ [i]) (K i ++ (is ++ st)) := TInv.step T h
   have hlen2 := h1.len
   simp only [List.length_append, List.length_cons, List.length_nil] at hlen2 hlen
   have hi := h.range i (by simp)
   obtain ⟨r1, o1, s1, d1, v1, l1⟩ := ih (K i) (out ++ [i]) (is ++ st) h1 (by rw [List.length_append]; simp only [List.length_cons, List.length_nil]; omega)
   rw [List.length_append] at l1
   simp only [List.length_cons, List.length_nil] at l1
   obtain ⟨r2, o2, s2, d2, v2, l2⟩ := ihl o1 st v1 (by omega)
   obtain ⟨r3, s3⟩ := s1.trans s2
   exact ⟨_, o2, .step hi.1 hi.2 (by show out.length + (is ++ st).length < n; rw [List.length_append]; omega) (by show out.length + (K i).length + (is ++ st).length < n; rw [List.length_append]; omega) s3, .cons hi.1 hi.2 (by omega) d1 d2, v2, by omega⟩
theorem order_all {n : Nat} {U : Int → Int} {K : Int → List Int} (T : Tr n U K) (hn : 1 ≤ n) : ∃ r o2, Stp n K r [] [0] o2 [] ∧ OrdL n K [0] [] o2 ∧ o2.Nodup ∧ (∀ x ∈ o2, 0 ≤ x ∧ x < (n : Int)) ∧ o2.length ≤ n := by
 have h0 : TInv n U [] ([0] ++ []) := ⟨by simp, fun x hx => by simp at hx; omega, fun x hx h => by simp at hx; exact absurd hx h⟩
 obtain ⟨r, o2, s, d, v, _⟩ := order_run T n [0] [] [] h0 (by simp)
 have hl := v.len
 have h1 := v.nodup
 have h2 := v.range
 rw [List.append_nil] at h1 h2
 exact ⟨r, o2, s, d, h1, h2, by simp at hl; omega⟩
def EvB (g : Nat → Option Bool) (P : Prop) : Prop := (P ∧ Ev g true) ∨ (¬ P ∧ Ev g false)
theorem EvB.iff {g : Nat → Option Bool} {P Q : Prop} (h : EvB g P) (e : P ↔ Q) : EvB g Q := by
 rcases h with ⟨p, h⟩ | ⟨p, h⟩
 ·exact .inl ⟨e.1 p, h⟩
 ·exact .inr ⟨fun q => p (e.2 q), h⟩
theorem EvB.step {g f : Nat → Option Bool} {P : Prop} (h : ∀ k, g (k + 1) = f k) (k : EvB f P) : EvB g P := by
 rcases k with ⟨p, k⟩ | ⟨p, k⟩
 ·exact .inl ⟨p, Ev.step h k⟩
 ·exact .inr ⟨p, Ev.step h k⟩
theorem EvB.now {b : Bool} {P : Prop} (h : b = true ↔ P) : EvB (fun _ => some b) P := by
 cases b with
 | true => exact .inl ⟨h.1 rfl, Ev.now _⟩
 | false => exact .inr ⟨fun p => (by simpa using h.2 p), Ev.now _⟩
theorem EvB.bind {g : Nat → Option Bool} {f : Nat → Bool → Option Bool} {P Q : Prop} (h : EvB g P) (h1 : P → EvB (fun n => f n true) Q) (h2 : ¬ P → EvB (fun n => f n false) Q) : EvB (fun n => (g n).bind (f n)) Q := by
 rcases h with ⟨p, h⟩ | ⟨p, h⟩
 ·rcases h1 p with ⟨q, k⟩ | ⟨q, k⟩
  ·exact .inl ⟨q, Ev.bind h k⟩
  ·exact .inr ⟨q, Ev.bind h k⟩
 ·rcases h2 p with ⟨q, k⟩ | ⟨q, k⟩
  ·exact .inl ⟨q, Ev.bind h k⟩
  ·exact .inr ⟨q, Ev.bind h k⟩
theorem EvB.yes {g : Nat → Option Bool} {P : Prop} (p : P) (h : Ev g true) : EvB g P := .inl ⟨p, h⟩
theorem loop_go {β : Type} (F : Nat → Int → Option β) (len : Nat) (good : Nat → Prop) (r : β)
  (step : ∀ n, n < len → good n → ∀ r, Ev (fun k => F k ((n + 1 : Nat) : Int)) r → Ev (fun k => F k (n : Int)) r) (fin : Ev (fun k => F k (len : Int)) r) :
  ∀ (d s : Nat), s + d = len → (∀ n, s ≤ n → n < len → good n) → Ev (fun k => F k (s : Int)) r := by
 intro d
 induction d with
 | zero =>
  intro s hs _
  have : s = len := by omega
  subst this
  exact fin
 | succ d ih =>
  intro s hs h
  exact step s (by omega) (h s (by omega) (by omega)) r (ih (s + 1) (by omega) (fun n h1 h2 => h n (by omega) h2))
theorem loop_stop {β : Type} (F : Nat → Int → Option β) (len : Nat) (good : Nat → Prop) (bad : β)
  (step : ∀ n, n < len → good n → ∀ r, Ev (fun k => F k ((n + 1 : Nat) : Int)) r → Ev (fun k => F k (n : Int)) r) (stop : ∀ n, n < len → ¬ good n → Ev (fun k => F k (n : Int)) bad) :
  ∀ (d s : Nat), s + d = len → (¬ ∀ n, s ≤ n → n < len → good n) → Ev (fun k => F k (s : Int)) bad := by
 intro d
 induction d with
 | zero => intro s hs h; exact absurd (fun n h1 h2 => absurd h2 (by omega)) h
 | succ d ih =>
  intro s hs h
  by_cases c : good s
  ·refine step s (by omega) c bad (ih (s + 1) (by omega) (fun h2 => h (fun n h1 h3 => ?_)))
   by_cases e : n = s
   ·subst e; exact c
   ·exact h2 n (by omega) h3
  ·exact stop s (by omega) c
theorem EvB.loop (F : Nat → Int → Option Bool) (s len : Nat) (hs : s ≤ len) (good : Nat → Prop) (Q : Prop)
  (step : ∀ n, n < len → good n → ∀ r, Ev (fun k => F k ((n + 1 : Nat) : Int)) r → Ev (fun k => F k (n : Int)) r) (stop : ∀ n, n < len → ¬ good n → Ev (fun k => F k (n : Int)) false)
  (fin : (∀ n, s ≤ n → n < len → good n) → EvB (fun k => F k (len : Int)) Q) : EvB (fun k => F k (s : Int)) ((∀ n, s ≤ n → n < len → good n) ∧ Q) := by
 by_cases h : ∀ n, s ≤ n → n < len → good n
 ·rcases fin h with ⟨q, k⟩ | ⟨q, k⟩
  ·exact .inl ⟨⟨h, q⟩, loop_go F len good true step k (len - s) s (by omega) h⟩
  ·exact .inr ⟨fun x => q x.2, loop_go F len good false step k (len - s) s (by omega) h⟩
 ·exact .inr ⟨fun x => h x.1, loop_stop F len good false step stop (len - s) s (by omega) h⟩
theorem in_is (a b c : Int) : (if a ≥ b then (some (decide (a ≤ c))) else (some false)) = some (decide (b ≤ a ∧ a ≤ c)) := by
 by_cases h : a ≥ b
 ·rw [if_pos h]; congr 1; exact decide_eq_decide.2 ⟨fun k => ⟨h, k⟩, fun k => k.2⟩
 ·rw [if_neg h, decide_eq_false (fun k => h k.1)]
def UU (l : List S44) (i : Int) : Int := (rd_T44 l i).f5
def KK (l : List S44) (i : Int) : List Int := (rd_T44 l i).f6
def SM (l : List S44) : Prop := ∀ n : Nat, n < l.length → (rd_T44 l (n : Int)).f3.length ≤ 1048576 ∧ (rd_T44 l (n : Int)).f6.length ≤ 1048576
theorem SM.at {l : List S44} (h : SM l) (i : Int) (h0 : 0 ≤ i) (h1 : i < (l.length : Int)) : (rd_T44 l i).f3.length ≤ 1048576 ∧ (rd_T44 l i).f6.length ≤ 1048576 := by
 have := h i.toNat (by omega)
 rwa [show ((i.toNat : Nat) : Int) = i by omega] at this
theorem rd_ex (l : List Int) (n : Nat) (h : n < l.length) : rd l (n : Int) = l[n] := by
 unfold rd
 rw [Int.toNat_natCast, List.getD_eq_getElem?_getD, List.getElem?_eq_getElem h]
 rfl
theorem l4Has_loop (u : ByteArray) (suf : List S91) : ∀ (pre : List S91), (pre ++ suf).length ≤ 1048576 → Ev (fun k => spec_l4Has.l0 k (pre ++ suf) u ((pre.length : Nat) : Int)) (suf.any fun x => x.f0.toList == u.toList) := by
 induction suf with
 | nil =>
  intro pre h
  refine Ev.at1 fun k => ?_
  simp only [spec_l4Has.l0, List.append_nil]
  rw [if_neg (by omega)]
  rfl
 | cons x suf IH =>
  intro pre h
  have hl : (pre ++ x :: suf).length = pre.length + 1 + suf.length := by simp; omega
  by_cases c : x.f0.toList = u.toList
  ·refine Ev.at1 fun k => ?_
   simp only [spec_l4Has.l0]
   rw [if_pos (by omega), if_pos (by omega), rdA2_mid, if_pos c, List.any_cons, c, beq_self_eq_true, Bool.true_or]
  ·have ih := IH (pre ++ [x]) (by simp at h ⊢; omega)
   have e : pre ++ [x] ++ suf = pre ++ x :: suf := by simp
   rw [e, List.length_append] at ih
   refine Ev.step (fun k => ?_) (f := fun k => spec_l4Has.l0 k (pre ++ x :: suf) u ((pre.length + 1 : Nat) : Int)) ?_
   ·simp only [spec_l4Has.l0]
    rw [if_pos (by omega), if_pos (by omega), rdA2_mid, if_neg c, next_at _ (by omega)]
   ·rw [List.any_cons, beq_eq_false_iff_ne.mpr c, Bool.false_or]
    exact ih
theorem l4Has_ev (l : List S91) (u : ByteArray) (h : l.length ≤ 1048576) : Ev (fun k => spec_l4Has.f k l u) (l.any fun x => x.f0.toList == u.toList) := by
 unfold spec_l4Has.f
 exact l4Has_loop u l [] h
def ON (l : List S91) : Prop := ∀ n : Nat, 0 ≤ n → n < l.length → ((l.take n).any fun x => x.f0.toList == (rd_T91 l (n : Int)).f0.toList) = false
theorem namesOnce_is (l : List S91) (h : l.length ≤ 1048576) : EvB (fun k => impl_namesOnce.f k l) (ON l) := by
 unfold impl_namesOnce.f
 have hs : ∀ n : Nat, n < l.length → ∀ k, impl_namesOnce.l0 (k + 1) l l (l.length : Int) (n : Int) = if ((l.take n).any fun x => x.f0.toList == (rd_T91 l (n : Int)).f0.toList) = true then some false else impl_namesOnce.l0 k l l (l.length : Int) ((n + 1 : Nat) : Int) := fun n hn k => by
  simp only [impl_namesOnce.l0]
  rw [if_pos (by omega), if_pos (by omega), if_pos (by omega), if_pos (by omega), next_at _ (by omega), Int.toNat_natCast]
  unfold impl_hasAttr.f
  rw [if_pos (by rw [List.length_take]; omega)]
  rfl
 have := EvB.loop (fun k n => impl_namesOnce.l0 k l l (l.length : Int) n) 0 l.length (Nat.zero_le _) (fun n => ((l.take n).any fun x => x.f0.toList == (rd_T91 l (n : Int)).f0.toList) = false) True
  (fun n hn g r e => Ev.step (fun k => by rw [hs n hn, if_neg (by rw [g]; decide)]) e)
  (fun n hn g => Ev.at1 fun k => by rw [hs n hn, if_pos (by simpa using g)])
  (fun _ => .inl ⟨trivial, Ev.at1 fun k => by simp only [impl_namesOnce.l0]; rw [if_neg (by omega)]⟩)
 exact this.iff ⟨fun h => h.1, fun h => ⟨h, trivial⟩⟩
def PL (x : S44) : Prop := (x.f0 = 2 ∧ x.f2.toList ≠ [] ∧ x.f4.toList = [] ∧ (0 ≤ x.f1 ∧ x.f1 ≤ 2) ∧ ON x.f3) ∨ (x.f0 ≠ 2 ∧ x.f2.toList = [] ∧ x.f3.length = 0 ∧ x.f1 = 0 ∧ ((x.f0 = 1 ∧ x.f4.toList = []) ∨ ((x.f0 = 3 ∨ x.f0 = 4 ∨ x.f0 = 5) ∧ x.f6.length = 0)))
theorem plain_out (b : Bool) (x : S44) : Ev (fun k => spec_l6Plain.j0 k b true x.f0 x.f1 x.f2 x.f3 x.f4 x.f5 x.f6) false := Ev.at1 (fun k => by simp only [spec_l6Plain.j0, if_true])
theorem plain_in (b : Bool) (x : S44) (h : x.f3.length ≤ 1048576) (Q : Prop) (hQ : (if x.f0 = 1 then (x.f4.toList == ([] : List UInt8)) else (if x.f0 = 3 ∨ x.f0 = 4 ∨ x.f0 = 5 then ((x.f6.length : Int) == 0) else b)) = true ↔ Q) :
  EvB (fun k => spec_l6Plain.j0 k b false x.f0 x.f1 x.f2 x.f3 x.f4 x.f5 x.f6) (ON x.f3 ∧ Q) := by
 refine EvB.step (f := fun k => spec_l6Plain.l0 k b 0 x.f0 x.f1 x.f2 x.f3 x.f4 x.f5 x.f6) (fun k => by simp only [spec_l6Plain.j0, Bool.false_eq_true, if_false]) ?_
 have hs : ∀ n : Nat, n < x.f3.length → ∀ k, spec_l6Plain.l0 (k + 1) b (n : Int) x.f0 x.f1 x.f2 x.f3 x.f4 x.f5 x.f6 = (spec_l4Has.f k (x.f3.take n) (rd_T91 x.f3 (n : Int)).f0).bind fun t => if t = true then some false else spec_l6Plain.l0 k b ((n + 1 : Nat) : Int) x.f0 x.f1 x.f2 x.f3 x.f4 x.f5 x.f6 := fun n hn k => by
  simp only [spec_l6Plain.l0]
  rw [if_pos (by omega), if_pos (by omega), if_pos (by omega), next_at _ (by omega), Int.toNat_natCast]
 have he : ∀ n, n < x.f3.length → Ev (fun k => spec_l4Has.f k (x.f3.take n) (rd_T91 x.f3 (n : Int)).f0) ((x.f3.take n).any fun y => y.f0.toList == (rd_T91 x.f3 (n : Int)).f0.toList) := fun n hn => l4Has_ev _ _ (by rw [List.length_take]; omega)
 refine EvB.loop (fun k n => spec_l6Plain.l0 k b n x.f0 x.f1 x.f2 x.f3 x.f4 x.f5 x.f6) 0 x.f3.length (Nat.zero_le _) (fun n => ((x.f3.take n).any fun y => y.f0.toList == (rd_T91 x.f3 (n : Int)).f0.toList) = false) Q ?_ ?_ ?_
 ·intro n hn g r e
  have h1 := he n hn
  rw [g] at h1
  refine Ev.step (hs n hn) (Ev.bind h1 ?_)
  simp only [Bool.false_eq_true, if_false]
  exact e
 ·intro n hn g
  have h1 := he n hn
  rw [show ((x.f3.take n).any fun y => y.f0.toList == (rd_T91 x.f3 (n : Int)).f0.toList) = true by simpa using g] at h1
  refine Ev.step (hs n hn) (Ev.bind h1 ?_)
  simp only [if_true]
  exact Ev.now _
 ·intro _
  refine EvB.step (f := fun _ => some (if x.f0 = 1 then (x.f4.toList == ([] : List UInt8)) else (if x.f0 = 3 ∨ x.f0 = 4 ∨ x.f0 = 5 then ((x.f6.length : Int) == 0) else b))) (fun k => ?_) (EvB.now hQ)
  simp only [spec_l6Plain.l0]
  rw [if_neg (by omega)]
  by_cases c1 : x.f0 = 1
  ·rw [if_pos c1, if_pos c1]
  ·rw [if_neg c1, if_neg c1]
   by_cases c3 : x.f0 = 3
   ·rw [if_pos c3, if_pos (.inl c3)]
   ·rw [if_neg c3]
    by_cases c4 : x.f0 = 4
    ·rw [if_pos c4, if_pos (.inr (.inl c4))]
    ·rw [if_neg c4]
     by_cases c5 : x.f0 = 5
     ·rw [if_pos c5, if_pos (.inr (.inr c5))]
     ·rw [if_neg c5, if_neg (by omega)]
theorem spec_plain (x : S44) (h : x.f3.length ≤ 1048576) : EvB (fun k => spec_l6Plain.f k x.f0 x.f1 x.f2 x.f3 x.f4 x.f5 x.f6) (PL x) := by
 unfold spec_l6Plain.f
 by_cases c : x.f0 = 2
 ·simp only [if_pos c]
  by_cases c2 : x.f2.toList = []
  ·simp only [if_pos c2]
   exact .inr ⟨fun p => by rcases p with p | p <;> simp_all, plain_out _ x⟩
  ·simp only [if_neg c2]
   by_cases c4 : x.f4.toList = []
   ·simp only [if_pos c4]
    unfold spec_l1In.f
    simp only [in_is, Option.bind_some]
    by_cases c1 : 0 ≤ x.f1 ∧ x.f1 ≤ 2
    ·simp only [decide_eq_true c1, Bool.not_true]
     exact (plain_in (x.f0 == 2) x h True (by simp [c])).iff ⟨fun p => .inl ⟨c, c2, c4, c1, p.1⟩, fun p => by rcases p with p | p <;> simp_all⟩
    ·simp only [decide_eq_false c1, Bool.not_false]
     exact .inr ⟨fun p => by rcases p with p | p <;> simp_all, plain_out _ x⟩
   ·simp only [if_neg c4]
    exact .inr ⟨fun p => by rcases p with p | p <;> simp_all, plain_out _ x⟩
 ·simp only [if_neg c]
  by_cases c2 : x.f2.toList = []
  ·simp only [if_pos c2]
   by_cases c3 : (x.f3.length : Int) > 0
   ·simp only [if_pos c3]
    exact .inr ⟨fun p => by rcases p with p | p; { exact c p.1 }; { have := p.2.2.1; omega }, plain_out _ x⟩
   ·simp only [if_neg c3]
    have c3' : x.f3.length = 0 := by omega
    by_cases c1 : x.f1 = 0
    ·simp only [if_pos c1]
     have hb : (x.f0 == 2) = false := beq_eq_false_iff_ne.mpr c
     refine (plain_in (x.f0 == 2) x h ((x.f0 = 1 ∧ x.f4.toList = []) ∨ ((x.f0 = 3 ∨ x.f0 = 4 ∨ x.f0 = 5) ∧ x.f6.length = 0)) ?_).iff ⟨fun p => .inr ⟨c, c2, c3', c1, p.2⟩, fun p => ?_⟩
     ·rw [hb]
      by_cases d1 : x.f0 = 1
      ·rw [if_pos d1, beq_iff_eq]
       exact ⟨fun p => .inl ⟨d1, p⟩, fun p => by rcases p with p | p; { exact p.2 }; { omega }⟩
      ·rw [if_neg d1]
       by_cases d2 : x.f0 = 3 ∨ x.f0 = 4 ∨ x.f0 = 5
       ·rw [if_pos d2, beq_iff_eq]
        exact ⟨fun p => .inr ⟨d2, by omega⟩, fun p => by rcases p with p | p; { exact absurd p.1 d1 }; { have := p.2; omega }⟩
       ·rw [if_neg d2]
        exact ⟨fun p => (by simp at p), fun p => by rcases p with p | p; { exact absurd p.1 d1 }; { exact absurd p.1 d2 }⟩
     ·rcases p with p | p
      ·exact absurd p.1 c
      ·exact ⟨fun n _ hn => absurd hn (by omega), p.2.2.2.2⟩
    ·simp only [if_neg c1]
     exact .inr ⟨fun p => by rcases p with p | p; { exact c p.1 }; { exact c1 p.2.2.2.1 }, plain_out _ x⟩
  ·simp only [if_neg c2]
   exact .inr ⟨fun p => by rcases p with p | p; { exact c p.1 }; { exact c2 p.2.1 }, plain_out _ x⟩
theorem impl_itemOk_is (x : S44) (h : x.f3.length ≤ 1048576) : EvB (fun k => impl_itemOk.f k x.f0 x.f1 x.f2 x.f3 x.f4 x.f5 x.f6) (PL x ∧ x.f0 ≠ 1) := by
 unfold impl_itemOk.f
 by_cases c : x.f0 = 2
 ·simp only [if_pos c]
  by_cases c4 : x.f4.toList = []
  ·simp only [if_pos c4]
   by_cases c2 : x.f2.toList = []
   ·simp only [if_pos c2]
    exact .inr ⟨fun p => by rcases p.1 with p | p <;> simp_all, Ev.now _⟩
   ·simp only [if_neg c2]
    unfold impl_inRange.f
    simp only [in_is, Option.bind_some]
    by_cases c1 : 0 ≤ x.f1 ∧ x.f1 ≤ 2
    ·simp only [decide_eq_true c1, if_true]
     refine (EvB.bind (f := fun _ t => some t) (Q := ON x.f3) (namesOnce_is x.f3 h) (fun p => EvB.now ⟨fun _ => p, fun _ => rfl⟩) (fun p => EvB.now ⟨fun q => by simp at q, fun q => absurd q p⟩)).iff ⟨fun p => ⟨.inl ⟨c, c2, c4, c1, p⟩, by omega⟩, fun p => by rcases p.1 with p | p <;> simp_all⟩
    ·simp only [decide_eq_false c1, Bool.false_eq_true, if_false]
     exact .inr ⟨fun p => by rcases p.1 with p | p <;> simp_all, Ev.now _⟩
  ·simp only [if_neg c4]
   exact .inr ⟨fun p => by rcases p.1 with p | p <;> simp_all, Ev.now _⟩
 ·simp only [if_neg c]
  have key : ∀ (d : x.f0 = 3 ∨ x.f0 = 4 ∨ x.f0 = 5), EvB (fun _ => (if x.f2.toList = ([] : List UInt8) then (if x.f1 = 0 then (if (x.f3.length : Int) = 0 then (some ((x.f6.length : Int) == 0)) else (some false)) else (some false)) else (some false))) (PL x ∧ x.f0 ≠ 1) := fun d => by
   by_cases c2 : x.f2.toList = []
   ·simp only [if_pos c2]
    by_cases c1 : x.f1 = 0
    ·simp only [if_pos c1]
     by_cases c3 : (x.f3.length : Int) = 0
     ·simp only [if_pos c3]
      refine EvB.now ?_
      rw [beq_iff_eq]
      exact ⟨fun p => ⟨.inr ⟨c, c2, by omega, c1, .inr ⟨d, by omega⟩⟩, by omega⟩, fun p => by rcases p.1 with q | q; { exact absurd q.1 c }; { rcases q.2.2.2.2 with q | q; { exact absurd q.1 p.2 }; { have := q.2; omega } }⟩
     ·simp only [if_neg c3]
      exact .inr ⟨fun p => by rcases p.1 with p | p; { exact c p.1 }; { have := p.2.2.1; omega }, Ev.now _⟩
    ·simp only [if_neg c1]
     exact .inr ⟨fun p => by rcases p.1 with p | p; { exact c p.1 }; { exact c1 p.2.2.2.1 }, Ev.now _⟩
   ·simp only [if_neg c2]
    exact .inr ⟨fun p => by rcases p.1 with p | p; { exact c p.1 }; { exact c2 p.2.1 }, Ev.now _⟩
  by_cases c3 : x.f0 = 3
  ·simp only [if_pos c3]; exact key (.inl c3)
  ·simp only [if_neg c3]
   by_cases c4 : x.f0 = 4
   ·simp only [if_pos c4]; exact key (.inr (.inl c4))
   ·simp only [if_neg c4]
    by_cases c5 : x.f0 = 5
    ·simp only [if_pos c5]; exact key (.inr (.inr c5))
    ·simp only [if_neg c5]
     exact .inr ⟨fun p => by rcases p.1 with q | q; { exact c q.1 }; { rcases q.2.2.2.2 with q | q; { exact p.2 q.1 }; { omega } }, Ev.now _⟩
theorem impl_pageOk_is (x : S44) : impl_pageOk.f x.f0 x.f1 x.f2 x.f3 x.f4 x.f5 x.f6 = some (@decide (x.f0 = 1 ∧ x.f5 = -1 ∧ PL x) (Classical.propDecidable _)) := by
 unfold impl_pageOk.f
 have hN : ∀ (h : ¬ (x.f0 = 1 ∧ x.f5 = -1 ∧ PL x)), (some false : Option Bool) = some (@decide (x.f0 = 1 ∧ x.f5 = -1 ∧ PL x) (Classical.propDecidable _)) := fun h => by rw [@decide_eq_false _ (Classical.propDecidable _) h]
 by_cases c0 : x.f0 = 1
 ·rw [if_pos c0]
  have hp : ∀ (p : PL x), x.f2.toList = [] ∧ x.f3.length = 0 ∧ x.f1 = 0 ∧ x.f4.toList = [] := fun p => by
   rcases p with p | p
   ·have := p.1; omega
   ·rcases p.2.2.2.2 with q | q
    ·exact ⟨p.2.1, p.2.2.1, p.2.2.2.1, q.2⟩
    ·omega
  by_cases c5 : x.f5 = -1
  ·rw [if_pos c5]
   by_cases c2 : x.f2.toList = []
   ·rw [if_pos c2]
    by_cases c3 : (x.f3.length : Int) = 0
    ·rw [if_pos c3]
     by_cases c1 : x.f1 = 0
     ·rw [if_pos c1]
      by_cases c4 : x.f4.toList = []
      ·rw [@decide_eq_true _ (Classical.propDecidable _) ⟨c0, c5, .inr ⟨by omega, c2, by omega, c1, .inl ⟨c0, c4⟩⟩⟩, c4]; rfl
      ·rw [beq_eq_false_iff_ne.mpr c4]
       exact hN fun h => c4 (hp h.2.2).2.2.2
     ·rw [if_neg c1]; exact hN fun h => c1 (hp h.2.2).2.2.1
    ·rw [if_neg c3]; exact hN fun h => by have := (hp h.2.2).2.1; omega
   ·rw [if_neg c2]; exact hN fun h => c2 (hp h.2.2).1
  ·rw [if_neg c5]; exact hN fun h => c5 h.2.1
 ·rw [if_neg c0]; exact hN fun h => c0 h.1
def KG (l : List S44) (i : Int) : Prop := ∀ m : Nat, 0 ≤ m → m < (KK l i).length → (1 ≤ rd (KK l i) (m : Int) ∧ rd (KK l i) (m : Int) < (l.length : Int)) ∧ UU l (rd (KK l i) (m : Int)) = i
theorem KG_mem (l : List S44) (i : Int) (h : KG l i) : ∀ x ∈ KK l i, 1 ≤ x ∧ x < (l.length : Int) ∧ UU l x = i := by
 intro x hx
 obtain ⟨m, hm, rfl⟩ := List.mem_iff_getElem.1 hx
 have := h m (Nat.zero_le _) hm
 rw [rd_ex _ _ hm] at this
 exact ⟨this.1.1, this.1.2, this.2⟩
theorem count_loop (x : Int) (suf : List Int) : ∀ (pre : List Int) (c : Nat), (pre ++ suf).length ≤ 1048576 → c + suf.length ≤ 1048576 → Ev (fun k => spec_l6Count.l0 k (pre ++ suf) x (c : Int) ((pre.length : Nat) : Int)) ((c + suf.count x : Nat) : Int) := by
 induction suf with
 | nil =>
  intro pre c h _
  refine Ev.at1 fun k => ?_
  simp only [spec_l6Count.l0, List.append_nil]
  rw [if_neg (by omega)]
  simp
 | cons y suf IH =>
  intro pre c h hc
  have hl : (pre ++ y :: suf).length = pre.length + 1 + suf.length := by simp; omega
  have hc2 : (y :: suf).length = suf.length + 1 := rfl
  have hr : rd (pre ++ y :: suf) ((pre.length : Nat) : Int) = y := by rw [rd_ex _ _ (by omega)]; simp
  have e : pre ++ [y] ++ suf = pre ++ y :: suf := by simp
  by_cases d : y = x
  ·have ih := IH (pre ++ [y]) (c + 1) (by simp at h ⊢; omega) (by omega)
   rw [e, List.length_append] at ih
   refine Ev.step (f := fun k => spec_l6Count.l0 k (pre ++ y :: suf) x ((c + 1 : Nat) : Int) ((pre.length + 1 : Nat) : Int)) (fun k => ?_) ?_
   ·simp only [spec_l6Count.l0]
    rw [if_pos (by omega), if_pos (by omega), hr, d, beq_self_eq_true]
    unfold spec_l1Bit.f
    rw [if_pos rfl, Option.bind_some, next_at _ (by omega), next_at _ (by omega)]
   ·rw [d, List.count_cons_self, show c + (suf.count x + 1) = c + 1 + suf.count x by omega, ← d]
    rw [d] at ih ⊢
    exact ih
  ·have ih := IH (pre ++ [y]) c (by simp at h ⊢; omega) (by omega)
   rw [e, List.length_append] at ih
   refine Ev.step (f := fun k => spec_l6Count.l0 k (pre ++ y :: suf) x (c : Int) ((pre.length + 1 : Nat) : Int)) (fun k => ?_) ?_
   ·simp only [spec_l6Count.l0]
    rw [if_pos (by omega), if_pos (by omega), hr, beq_eq_false_iff_ne.mpr d]
    unfold spec_l1Bit.f
    rw [if_neg (by decide), Option.bind_some, next_at _ (by omega), Int.add_zero, wrap_id _ (by omega) (by omega)]
   ·rw [List.count_cons_of_ne d]
    exact ih
theorem count_ev (l : List Int) (x : Int) (h : l.length ≤ 1048576) : Ev (fun k => spec_l6Count.f k l x) ((l.count x : Nat) : Int) := by
 unfold spec_l6Count.f
 have := count_loop x l [] 0 h (by omega)
 rwa [Nat.zero_add] at this
def LG (l : List S44) (n : Nat) : Prop := ((n = 0 → UU l 0 = -1) ∧ (0 < n → (0 ≤ UU l n ∧ UU l n < (l.length : Int)) ∧ (KK l (UU l n)).count (n : Int) = 1)) ∧ KG l n
theorem links_inner (l : List S44) (hl : l.length ≤ 1048576) (hs : SM l) (i : Nat) (hi : i < l.length) :
  (∀ n, n < (KK l i).length → ((1 ≤ rd (KK l i) (n : Int) ∧ rd (KK l i) (n : Int) < (l.length : Int)) ∧ UU l (rd (KK l i) (n : Int)) = (i : Int)) → ∀ r, Ev (fun k => spec_l6Links.l1 k l (i : Int) ((n + 1 : Nat) : Int)) r → Ev (fun k => spec_l6Links.l1 k l (i : Int) (n : Int)) r) ∧
  (∀ n, n < (KK l i).length → ¬ ((1 ≤ rd (KK l i) (n : Int) ∧ rd (KK l i) (n : Int) < (l.length : Int)) ∧ UU l (rd (KK l i) (n : Int)) = (i : Int)) → Ev (fun k => spec_l6Links.l1 k l (i : Int) (n : Int)) false) ∧
  (∀ r, Ev (fun k => spec_l6Links.l0 k l ((i + 1 : Nat) : Int)) r → Ev (fun k => spec_l6Links.l1 k l (i : Int) ((KK l i).length : Int)) r) := by
 have hK := (hs i hi).2
 have hst : ∀ n, n < (KK l i).length → ∀ k, spec_l6Links.l1 (k + 1) l (i : Int) (n : Int) = (some (decide (1 ≤ rd (KK l i) (n : Int) ∧ rd (KK l i) (n : Int) ≤ (l.length : Int) - 1))).bind fun t184 => (if t184 = true then (if 0 ≤ rd (KK l i) (n : Int) then (if rd (KK l i) (n : Int) < (l.length : Int) then (if UU l (rd (KK l i) (n : Int)) = (i : Int) then (spec_l6Links.l1 k l (i : Int) ((n + 1 : Nat) : Int)) else (some false)) else (none)) else (none)) else (some false)) := fun n hn k => by
  have hn' : n < ((rd_T44 l (i : Int)).f6).length := hn
  have hnk : (rd_T44 l (i : Int)).f6.length ≤ 1048576 := hK
  simp only [spec_l6Links.l1]
  rw [if_pos (by omega), if_pos (by omega), if_pos (by omega), if_pos (by omega), wrap_id ((l.length : Int) - 1) (by omega) (by omega), next_at _ (by omega)]
  unfold spec_l1In.f
  rw [in_is]
  rfl
 refine ⟨?_, ?_, ?_⟩
 ·intro n hn g r e
  refine Ev.step (f := fun k => spec_l6Links.l1 k l (i : Int) ((n + 1 : Nat) : Int)) (fun k => ?_) e
  rw [hst n hn, decide_eq_true (by omega), Option.bind_some, if_pos rfl, if_pos (by omega), if_pos (by omega), if_pos g.2]
 ·intro n hn g
  refine Ev.at1 fun k => ?_
  rw [hst n hn]
  by_cases c : 1 ≤ rd (KK l i) (n : Int) ∧ rd (KK l i) (n : Int) ≤ (l.length : Int) - 1
  ·rw [decide_eq_true c, Option.bind_some, if_pos rfl, if_pos (by omega), if_pos (by omega), if_neg (fun h => g ⟨⟨c.1, by omega⟩, h⟩)]
  ·rw [decide_eq_false c, Option.bind_some, if_neg (by decide)]
 ·intro r e
  refine Ev.step (f := fun k => spec_l6Links.l0 k l ((i + 1 : Nat) : Int)) (fun k => ?_) e
  simp only [spec_l6Links.l1]
  rw [if_pos (by omega), if_pos (by omega), if_neg (by show ¬ ((KK l i).length : Int) < ((KK l i).length : Int); omega), next_at _ (by omega)]
theorem links_at (l : List S44) (hl : l.length ≤ 1048576) (hs : SM l) (i : Nat) (hi : i < l.length) :
  (LG l i → ∀ r, Ev (fun k => spec_l6Links.l0 k l ((i + 1 : Nat) : Int)) r → Ev (fun k => spec_l6Links.l0 k l (i : Int)) r) ∧ (¬ LG l i → Ev (fun k => spec_l6Links.l0 k l (i : Int)) false) := by
 obtain ⟨hg, hb, hf⟩ := links_inner l hl hs i hi
 have j1 : ∀ r, KG l i → Ev (fun k => spec_l6Links.l0 k l ((i + 1 : Nat) : Int)) r → Ev (fun k => spec_l6Links.j1 k l (i : Int) false) r := fun r g e => by
  refine Ev.step (f := fun k => spec_l6Links.l1 k l (i : Int) ((0 : Nat) : Int)) (fun k => by simp only [spec_l6Links.j1, Bool.false_eq_true, if_false]; rfl) ?_
  exact loop_go (fun k n => spec_l6Links.l1 k l (i : Int) n) (KK l i).length (fun n => (1 ≤ rd (KK l i) (n : Int) ∧ rd (KK l i) (n : Int) < (l.length : Int)) ∧ UU l (rd (KK l i) (n : Int)) = (i : Int)) r hg (hf r e) (KK l i).length 0 (by omega) g
 have j2 : ¬ KG l i → Ev (fun k => spec_l6Links.j1 k l (i : Int) false) false := fun g => by
  refine Ev.step (f := fun k => spec_l6Links.l1 k l (i : Int) ((0 : Nat) : Int)) (fun k => by simp only [spec_l6Links.j1, Bool.false_eq_true, if_false]; rfl) ?_
  exact loop_stop (fun k n => spec_l6Links.l1 k l (i : Int) n) (KK l i).length (fun n => (1 ≤ rd (KK l i) (n : Int) ∧ rd (KK l i) (n : Int) < (l.length : Int)) ∧ UU l (rd (KK l i) (n : Int)) = (i : Int)) false hg hb (KK l i).length 0 (by omega) g
 have j3 : Ev (fun k => spec_l6Links.j1 k l (i : Int) true) false := Ev.at1 fun k => by simp only [spec_l6Links.j1, if_true]
 by_cases c0 : i = 0
 ·subst c0
  by_cases cu : UU l 0 = -1
  ·have st : ∀ k, spec_l6Links.l0 (k + 1) l ((0 : Nat) : Int) = spec_l6Links.j1 k l ((0 : Nat) : Int) false := fun k => by
    simp only [spec_l6Links.l0]
    rw [if_pos (by omega), if_pos (by omega), if_pos (by omega), if_pos (show ((rd_T44 l ((0 : Nat) : Int)).f5) = -1 from cu), if_neg (by omega)]
   refine ⟨fun g r e => Ev.step st (j1 r g.2 e), fun g => Ev.step st (j2 fun h => g ⟨⟨fun _ => cu, fun h => absurd h (by omega)⟩, h⟩)⟩
  ·have st : ∀ k, spec_l6Links.l0 (k + 1) l ((0 : Nat) : Int) = spec_l6Links.j1 k l ((0 : Nat) : Int) true := fun k => by
    simp only [spec_l6Links.l0]
    rw [if_pos (by omega), if_pos (by omega), if_pos (by omega), if_neg (show ¬ ((rd_T44 l ((0 : Nat) : Int)).f5) = -1 from cu)]
   exact ⟨fun g => absurd (g.1.1 rfl) cu, fun _ => Ev.step st j3⟩
 ·have st : ∀ k, spec_l6Links.l0 (k + 1) l (i : Int) = (some (decide (0 ≤ UU l i ∧ UU l i ≤ (l.length : Int) - 1))).bind fun t178 => (if t178 = true then (if 0 ≤ UU l i then (if UU l i < (l.length : Int) then ((spec_l6Count.f k (KK l (UU l i)) (i : Int)).bind fun t180 => (spec_l6Links.j1 k l (i : Int) (t180 != 1))) else (none)) else (none)) else (spec_l6Links.j1 k l (i : Int) true)) := fun k => by
   simp only [spec_l6Links.l0]
   rw [if_pos (by omega), if_pos (by omega), if_neg (by omega), if_pos (by omega), wrap_id ((l.length : Int) - 1) (by omega) (by omega)]
   unfold spec_l1In.f
   rw [in_is]
   rfl
  by_cases cu : 0 ≤ UU l i ∧ UU l i ≤ (l.length : Int) - 1
  ·have st2 : ∀ k, spec_l6Links.l0 (k + 1) l (i : Int) = (spec_l6Count.f k (KK l (UU l i)) (i : Int)).bind fun t180 => (spec_l6Links.j1 k l (i : Int) (t180 != 1)) := fun k => by
    rw [st, decide_eq_true cu, Option.bind_some, if_pos rfl, if_pos (by omega), if_pos (by omega)]
   have ce := count_ev (KK l (UU l i)) (i : Int) (hs.at (UU l i) (by omega) (by omega)).2
   by_cases cc : (KK l (UU l i)).count (i : Int) = 1
   ·have hb0 : ((((KK l (UU l i)).count (i : Int) : Nat) : Int) != 1) = false := by rw [cc]; rfl
    refine ⟨fun g r e => Ev.step st2 (Ev.bind ce ?_), fun g => Ev.step st2 (Ev.bind ce ?_)⟩
    ·rw [hb0]; exact j1 r g.2 e
    ·rw [hb0]; exact j2 fun h => g ⟨⟨fun h => absurd h c0, fun _ => ⟨by omega, cc⟩⟩, h⟩
   ·have hb0 : ((((KK l (UU l i)).count (i : Int) : Nat) : Int) != 1) = true := bne_iff_ne.mpr (by omega)
    refine ⟨fun g => absurd (g.1.2 (by omega)).2 cc, fun g => Ev.step st2 (Ev.bind ce ?_)⟩
    rw [hb0]; exact j3
  ·have st2 : ∀ k, spec_l6Links.l0 (k + 1) l (i : Int) = spec_l6Links.j1 k l (i : Int) true := fun k => by
    rw [st, decide_eq_false cu, Option.bind_some, if_neg (by decide)]
   exact ⟨fun g => absurd (g.1.2 (by omega)).1 (by omega), fun _ => Ev.step st2 j3⟩
theorem links_is (l : List S44) (hl : l.length ≤ 1048576) (hs : SM l) : EvB (fun k => spec_l6Links.f k l) (∀ n : Nat, 0 ≤ n → n < l.length → LG l n) := by
 unfold spec_l6Links.f
 have := EvB.loop (fun k n => spec_l6Links.l0 k l n) 0 l.length (Nat.zero_le _) (LG l) True (fun n hn => (links_at l hl hs n hn).1) (fun n hn => (links_at l hl hs n hn).2)
  (fun _ => .inl ⟨trivial, Ev.at1 fun k => by simp only [spec_l6Links.l0]; rw [if_neg (by omega)]⟩)
 exact this.iff ⟨fun h => h.1, fun h => ⟨h, trivial⟩⟩
theorem order_spec_loop (l : List S44) (hl : l.length ≤ 1048576) (hs : SM l) {ks out o2 : List Int} (h : OrdL l.length (KK l) ks out o2) :
  ∀ (j : Int) (m : Nat), 0 ≤ j → j < (l.length : Int) → m ≤ (KK l j).length → (KK l j).drop m = ks → Ev (fun k => spec_l6Order.l0 k l j out (m : Int)) o2 := by
 induction h with
 | nil out =>
  intro j m h0 h1 hm he
  have hlen : (KK l j).length ≤ m := List.drop_eq_nil_iff.1 he
  refine Ev.at1 fun k => ?_
  simp only [spec_l6Order.l0]
  rw [if_pos h0, if_pos h1, if_neg (by show ¬ (m : Int) < ((KK l j).length : Int); omega)]
 | @cons i is out o1 o2 hi0 hi1 hlt _ _ ih1 ih2 =>
  intro j m h0 h1 hm he
  have hm2 : m < (KK l j).length := by
   have := congrArg List.length he
   rw [List.length_drop] at this
   simp only [List.length_cons] at this
   omega
  have hK := (hs.at j h0 h1).2
  have hK' : (KK l j).length ≤ 1048576 := hK
  rw [List.drop_eq_getElem_cons hm2] at he
  have hi : rd (KK l j) (m : Int) = i := by rw [rd_ex _ _ hm2]; exact (List.cons.inj he).1
  have e1 : Ev (fun k => spec_l6Order.f k l i out) o1 := by
   refine Ev.step (f := fun k => spec_l6Order.l0 k l i (out ++ [i]) ((0 : Nat) : Int)) (fun k => ?_) (ih1 i 0 hi0 hi1 (Nat.zero_le _) rfl)
   simp only [spec_l6Order.f]
   rw [if_neg (by omega), if_pos (by omega)]
   rfl
  refine Ev.step (f := fun k => (spec_l6Order.f k l i out).bind fun t => spec_l6Order.l0 k l j t ((m + 1 : Nat) : Int)) (fun k => ?_) (Ev.bind e1 (ih2 j (m + 1) h0 h1 (by omega) (List.cons.inj he).2))
  simp only [spec_l6Order.l0]
  have hr : rd ((rd_T44 l j).f6) (m : Int) = i := hi
  rw [if_pos h0, if_pos h1, if_pos (by show (m : Int) < ((KK l j).length : Int); omega), if_pos (by omega), hr, next_at _ (by omega)]
theorem order_spec (l : List S44) (hl : l.length ≤ 1048576) (hs : SM l) {o2 : List Int} (h : OrdL l.length (KK l) [0] [] o2) : Ev (fun k => spec_l6Order.f k l 0 []) o2 := by
 cases h with
 | cons h0 h1 hlt ha hb =>
  cases hb
  have e1 := order_spec_loop l hl hs ha 0 0 h0 h1 (Nat.zero_le _) rfl
  refine Ev.step (f := fun k => spec_l6Order.l0 k l 0 ([] ++ [0]) ((0 : Nat) : Int)) (fun k => ?_) e1
  simp only [spec_l6Order.f]
  have hh : 0 < l.length := hlt
  rw [if_neg (by simp only [List.length_nil]; omega), if_pos (by simp)]
  rfl
theorem order_impl_kids (l : List S44) (hl : l.length ≤ 1048576) (i : Int) (h0 : 0 ≤ i) (h1 : i < (l.length : Int)) (hK : (KK l i).length ≤ 1048576) (out r : List Int) : ∀ (m : Nat) (x4 : List Int), m ≤ (KK l i).length → x4.length + m ≤ 10000000 →
  Ev (fun k => impl_order.l0 k l out (x4 ++ ((KK l i).take m).reverse)) r → Ev (fun k => impl_order.l1 k l out x4 i ((m : Int) - 1)) r := by
 intro m
 induction m with
 | zero =>
  intro x4 _ _ h
  refine Ev.step (fun k => ?_) h
  simp only [impl_order.l1]
  rw [if_neg (by omega)]
  simp
 | succ m ih =>
  intro x4 hm hb h
  have h2 := ih (x4 ++ [rd (KK l i) (m : Int)]) (by omega) (by rw [List.length_append]; simp only [List.length_cons, List.length_nil]; omega) (by
   have e : (KK l i).take (m + 1) = (KK l i).take m ++ [rd (KK l i) (m : Int)] := by rw [List.take_succ_eq_append_getElem (by omega), rd_ex _ _ (by omega)]
   rw [e] at h
   simp only [List.reverse_append, List.reverse_cons, List.reverse_nil, List.nil_append] at h
   rw [List.append_assoc]
   exact h)
  refine Ev.step (f := fun k => impl_order.l1 k l out (x4 ++ [rd (KK l i) (m : Int)]) i ((m : Int) - 1)) (fun k => ?_) h2
  simp only [impl_order.l1]
  have hm' : m < ((rd_T44 l i).f6).length := hm
  rw [if_pos (by omega), if_pos h0, if_pos h1, if_pos (by omega), if_pos (by omega), if_pos (by omega), show ((m + 1 : Nat) : Int) - 1 = (m : Int) by omega, wrap_id ((m : Int) - 1) (by omega) (by omega)]
  rfl
theorem order_impl_steps (l : List S44) (hl : l.length ≤ 1048576) (hs : SM l) {q : Nat} {out st o2 s2 : List Int} (h : Stp l.length (KK l) q out st o2 s2) : s2 = [] → Ev (fun k => impl_order.l0 k l out st.reverse) o2 := by
 induction h with
 | refl out st =>
  intro e
  subst e
  refine Ev.at1 fun k => ?_
  simp only [impl_order.l0]
  rw [if_neg (by simp)]
 | @step i m out st o2 s2 hi0 hi1 hl1 hl2 _ ih =>
  intro e
  have hK := (hs.at i hi0 hi1).2
  have hx : ((i :: st).reverse).length = st.length + 1 := by simp
  have ih := ih e
  rw [List.reverse_append] at ih
  refine Ev.step (f := fun k => impl_order.l1 k l (out ++ [i]) st.reverse i (((KK l i).length : Int) - 1)) (fun k => ?_) (order_impl_kids l hl i hi0 hi1 hK (out ++ [i]) o2 (KK l i).length st.reverse (Nat.le_refl _) (by have : (KK l i).length ≤ 1048576 := hK; rw [List.length_reverse]; omega) (by rw [List.take_length]; exact ih))
  simp only [impl_order.l0]
  rw [wrap_id ((((i :: st).reverse).length : Int) - 1) (by omega) (by omega)]
  have hr : rd ((i :: st).reverse) ((((i :: st).reverse).length : Int) - 1) = i := by
   rw [show (((i :: st).reverse).length : Int) - 1 = ((st.length : Nat) : Int) by omega, rd_ex _ _ (by omega)]
   simp
  have ht : ((i :: st).reverse).take (((((i :: st).reverse).length : Int) - 1)).toNat = st.reverse := by
   rw [show ((((i :: st).reverse).length : Int) - 1).toNat = st.length by omega]
   simp
  have hk : (((rd_T44 l i).f6).length : Int) = ((KK l i).length : Int) := rfl
  rw [if_pos (by omega), if_pos (by omega), if_pos (by omega), if_pos (by omega), if_pos (by omega), hr, if_pos hi0, if_pos hi1, ht, hk, wrap_id (((KK l i).length : Int) - 1) (by have : (KK l i).length ≤ 1048576 := hK; omega) (by have : (KK l i).length ≤ 1048576 := hK; omega)]
theorem order_impl (l : List S44) (hl : l.length ≤ 1048576) (hs : SM l) {q : Nat} {o2 : List Int} (h : Stp l.length (KK l) q [] [0] o2 []) : Ev (fun k => impl_order.f k l) o2 := order_impl_steps l hl hs h rfl
def CN (n : Nat) (P : List Int) : List Int := (List.range n).map fun j => ((P.count ((j : Nat) : Int) : Nat) : Int)
theorem CN_length (n : Nat) (P : List Int) : (CN n P).length = n := by unfold CN; rw [List.length_map, List.length_range]
theorem CN_get (n : Nat) (P : List Int) (j : Nat) (h : j < (CN n P).length) : (CN n P)[j] = ((P.count ((j : Nat) : Int) : Nat) : Int) := by simp only [CN, List.getElem_map, List.getElem_range]
theorem CN_rd (n : Nat) (P : List Int) (x : Int) (h0 : 0 ≤ x) (h1 : x < (n : Int)) : rd (CN n P) x = ((P.count x : Nat) : Int) := by
 obtain ⟨m, rfl⟩ : ∃ m : Nat, x = (m : Int) := ⟨x.toNat, by omega⟩
 rw [rd_ex _ _ (by rw [CN_length]; omega)]
 unfold CN
 rw [List.getElem_map, List.getElem_range]
theorem CN_set (n : Nat) (P : List Int) (x : Int) (h0 : 0 ≤ x) (h1 : x < (n : Int)) : (CN n P).set x.toNat (((P.count x : Nat) : Int) + 1) = CN n (P ++ [x]) := by
 refine List.ext_getElem (by rw [List.length_set, CN_length, CN_length]) (fun j hj _ => ?_)
 rw [List.length_set, CN_length] at hj
 rw [List.getElem_set, CN_get, CN_get, List.count_append]
 by_cases c : x.toNat = j
 ·rw [if_pos c, show ((j : Nat) : Int) = x by omega, List.count_singleton_self]
  omega
 ·rw [if_neg c, List.count_singleton, if_neg (by simp; omega)]
  omega
theorem CN_nil (n : Nat) : List.replicate n (0 : Int) = CN n [] := by
 refine List.ext_getElem (by rw [List.length_replicate, CN_length]) (fun j hj _ => ?_)
 rw [List.getElem_replicate, CN_get]
 rfl
theorem kids_inner (l : List S44) (hl : l.length ≤ 1048576) (hs : SM l) (i : Nat) (hi : i < l.length) (d : Nat) : ∀ (m : Nat) (P : List Int), m + d = (KK l i).length → P.length ≤ i * 1048576 + m →
  ((∀ n : Nat, m ≤ n → n < (KK l i).length → (1 ≤ rd (KK l i) (n : Int) ∧ rd (KK l i) (n : Int) < (l.length : Int)) ∧ UU l (rd (KK l i) (n : Int)) = (i : Int)) → ∀ r, Ev (fun k => impl_kidsOk.l0 k l (CN l.length (P ++ (KK l i).drop m)) l (l.length : Int) ((i + 1 : Nat) : Int)) r → Ev (fun k => impl_kidsOk.l1 k l (CN l.length P) (i : Int) l (l.length : Int) (i : Int) (KK l i) ((KK l i).length : Int) (m : Int)) r) ∧
  ((¬ ∀ n : Nat, m ≤ n → n < (KK l i).length → (1 ≤ rd (KK l i) (n : Int) ∧ rd (KK l i) (n : Int) < (l.length : Int)) ∧ UU l (rd (KK l i) (n : Int)) = (i : Int)) → Ev (fun k => impl_kidsOk.l1 k l (CN l.length P) (i : Int) l (l.length : Int) (i : Int) (KK l i) ((KK l i).length : Int) (m : Int)) false) := by
 have hK : (KK l i).length ≤ 1048576 := (hs i hi).2
 induction d with
 | zero =>
  intro m P hm hP
  have hm' : m = (KK l i).length := by omega
  refine ⟨fun _ r e => ?_, fun h => absurd (fun n h1 h2 => absurd h2 (by omega)) h⟩
  rw [List.drop_eq_nil_of_le (by omega), List.append_nil] at e
  refine Ev.step (fun k => ?_) e
  simp only [impl_kidsOk.l1]
  rw [if_neg (by omega), next_at _ (by omega)]
 | succ d ih =>
  intro m P hm hP
  have hm2 : m < (KK l i).length := by omega
  have st : ∀ k, impl_kidsOk.l1 (k + 1) l (CN l.length P) (i : Int) l (l.length : Int) (i : Int) (KK l i) ((KK l i).length : Int) (m : Int) = (some (decide (1 ≤ rd (KK l i) (m : Int) ∧ rd (KK l i) (m : Int) ≤ (l.length : Int) - 1))).bind fun t222 => (if t222 = true then (if 0 ≤ (rd (KK l i) (m : Int)) then (if (rd (KK l i) (m : Int)) < (l.length : Int) then (if UU l (rd (KK l i) (m : Int)) = (i : Int) then (if (rd (KK l i) (m : Int)) < ((CN l.length P).length : Int) then (impl_kidsOk.l1 k l ((CN l.length P).set ((rd (KK l i) (m : Int)) : Int).toNat (wrap64 ((rd (CN l.length P) (rd (KK l i) (m : Int))) + 1))) (i : Int) l (l.length : Int) (i : Int) (KK l i) ((KK l i).length : Int) ((m + 1 : Nat) : Int)) else (none)) else (some false)) else (none)) else (none)) else (some false)) := fun k => by
   simp only [impl_kidsOk.l1]
   rw [if_pos (by omega), if_pos (by omega), if_pos (by omega), wrap_id ((l.length : Int) - 1) (by omega) (by omega), next_at m (by omega)]
   unfold impl_inRange.f
   rw [in_is]
   rfl
  have hrd : rd (KK l i) (m : Int) = (KK l i)[m] := rd_ex _ _ hm2
  by_cases c : (1 ≤ rd (KK l i) (m : Int) ∧ rd (KK l i) (m : Int) < (l.length : Int)) ∧ UU l (rd (KK l i) (m : Int)) = (i : Int)
  ·have hc1 := c.1
   have hcnt : P.count (rd (KK l i) (m : Int)) ≤ P.length := List.count_le_length
   have hb : i * 1048576 ≤ 1099511627776 := by omega
   have st2 : ∀ k, impl_kidsOk.l1 (k + 1) l (CN l.length P) (i : Int) l (l.length : Int) (i : Int) (KK l i) ((KK l i).length : Int) (m : Int) = impl_kidsOk.l1 k l (CN l.length (P ++ [rd (KK l i) (m : Int)])) (i : Int) l (l.length : Int) (i : Int) (KK l i) ((KK l i).length : Int) ((m + 1 : Nat) : Int) := fun k => by
    rw [st, decide_eq_true (by omega), Option.bind_some, if_pos rfl, if_pos (by omega), if_pos (by omega), if_pos c.2, if_pos (by rw [CN_length]; omega), CN_rd _ _ _ (by omega) (by omega), wrap_id _ (by omega) (by omega), CN_set _ _ _ (by omega) (by omega)]
   obtain ⟨ih1, ih2⟩ := ih (m + 1) (P ++ [rd (KK l i) (m : Int)]) (by omega) (by rw [List.length_append]; simp only [List.length_cons, List.length_nil]; omega)
   refine ⟨fun h r e => Ev.step st2 (ih1 (fun n h1 h2 => h n (by omega) h2) r ?_), fun h => Ev.step st2 (ih2 fun h2 => h fun n h1 h3 => ?_)⟩
   ·rw [List.drop_eq_getElem_cons hm2, ← hrd] at e
    rw [List.append_assoc]
    exact e
   ·by_cases e : n = m
    ·subst e; exact c
    ·exact h2 n (by omega) h3
  ·refine ⟨fun h => absurd (h m (Nat.le_refl _) hm2) c, fun _ => Ev.at1 fun k => ?_⟩
   rw [st]
   by_cases c1 : 1 ≤ rd (KK l i) (m : Int) ∧ rd (KK l i) (m : Int) ≤ (l.length : Int) - 1
   ·rw [decide_eq_true c1, Option.bind_some, if_pos rfl, if_pos (by omega), if_pos (by omega), if_neg (fun h => c ⟨⟨c1.1, by omega⟩, h⟩)]
   ·rw [decide_eq_false c1, Option.bind_some, if_neg (by decide)]
def AK (l : List S44) : Nat → Nat → List Int
 | 0, _ => []
 | d + 1, n => KK l (n : Int) ++ AK l d (n + 1)
theorem kids_outer (l : List S44) (hl : l.length ≤ 1048576) (hs : SM l) (d : Nat) : ∀ (n : Nat) (P : List Int), n + d = l.length → P.length ≤ n * 1048576 →
  ((∀ i : Nat, n ≤ i → i < l.length → KG l i) → ∀ r, Ev (fun k => impl_kidsOk.l2 k l (CN l.length (P ++ AK l d n)) 1) r → Ev (fun k => impl_kidsOk.l0 k l (CN l.length P) l (l.length : Int) (n : Int)) r) ∧
  ((¬ ∀ i : Nat, n ≤ i → i < l.length → KG l i) → Ev (fun k => impl_kidsOk.l0 k l (CN l.length P) l (l.length : Int) (n : Int)) false) := by
 induction d with
 | zero =>
  intro n P hn hP
  refine ⟨fun _ r e => ?_, fun h => absurd (fun n h1 h2 => absurd h2 (by omega)) h⟩
  unfold AK at e
  rw [List.append_nil] at e
  refine Ev.step (fun k => ?_) e
  simp only [impl_kidsOk.l0]
  rw [if_neg (by omega)]
 | succ d ih =>
  intro n P hn hP
  have hn2 : n < l.length := by omega
  have hK : (KK l n).length ≤ 1048576 := (hs n hn2).2
  have st : ∀ k, impl_kidsOk.l0 (k + 1) l (CN l.length P) l (l.length : Int) (n : Int) = impl_kidsOk.l1 k l (CN l.length P) (n : Int) l (l.length : Int) (n : Int) (KK l n) ((KK l n).length : Int) ((0 : Nat) : Int) := fun k => by
   simp only [impl_kidsOk.l0]
   rw [if_pos (by omega), if_pos (by omega), if_pos (by omega)]
   rfl
  obtain ⟨k1, k2⟩ := kids_inner l hl hs n hn2 (KK l n).length 0 P (Nat.zero_add _) (by rw [Nat.add_zero]; exact hP)
  obtain ⟨ih1, ih2⟩ := ih (n + 1) (P ++ KK l n) (by omega) (by rw [List.length_append, Nat.add_mul]; omega)
  rw [List.drop_zero] at k1
  by_cases c : KG l n
  ·refine ⟨fun h r e => Ev.step st (k1 c r (ih1 (fun i h1 h2 => h i (by omega) h2) r ?_)), fun h => Ev.step st (k1 c false (ih2 fun h2 => h fun i h1 h3 => ?_))⟩
   ·unfold AK at e
    rw [List.append_assoc]
    exact e
   ·by_cases e : i = n
    ·subst e; exact c
    ·exact h2 i (by omega) h3
  ·exact ⟨fun h => absurd (h n (Nat.le_refl _) hn2) c, fun _ => Ev.step st (k2 c)⟩
theorem kidsOk_is (l : List S44) (hl : l.length ≤ 1048576) (h1 : 1 ≤ l.length) (hs : SM l) : EvB (fun k => impl_kidsOk.f k l) ((∀ i : Nat, 0 ≤ i → i < l.length → KG l i) ∧ ∀ k : Nat, 1 ≤ k → k < l.length → (AK l l.length 0).count (k : Int) = 1) := by
 unfold impl_kidsOk.f
 rw [Int.toNat_natCast]
 simp only [if_pos (show (0 : Int) ≤ (l.length : Int) by omega), if_pos (show l.length ≤ 35184372088832 by omega)]
 rw [CN_nil]
 obtain ⟨k1, k2⟩ := kids_outer l hl hs l.length 0 [] (by omega) (by simp)
 rw [List.nil_append] at k1
 have hlen : ∀ d n, n + d = l.length → (AK l d n).length ≤ d * 1048576 := by
  intro d
  induction d with
  | zero => intro n _; simp [AK]
  | succ d ih =>
   intro n hn
   have := ih (n + 1) (by omega)
   have hK : (KK l n).length ≤ 1048576 := (hs n (by omega)).2
   unfold AK
   rw [List.length_append, Nat.add_mul]
   omega
 have hA := hlen l.length 0 (by omega)
 by_cases c : ∀ i : Nat, 0 ≤ i → i < l.length → KG l i
 ·have h2 := EvB.loop (fun k n => impl_kidsOk.l2 k l (CN l.length (AK l l.length 0)) n) 1 l.length h1 (fun n => ((AK l l.length 0).count (n : Int) : Nat) = 1) True
   (fun n hn g r e => Ev.step (fun k => by simp only [impl_kidsOk.l2]; rw [if_pos (by omega), if_pos (by omega), if_pos (by rw [CN_length]; omega), CN_rd _ _ _ (by omega) (by omega), if_pos (by omega), next_at _ (by omega)]) e)
   (fun n hn g => Ev.at1 fun k => by simp only [impl_kidsOk.l2]; rw [if_pos (by omega), if_pos (by omega), if_pos (by rw [CN_length]; omega), CN_rd _ _ _ (by omega) (by omega), if_neg (by omega)])
   (fun _ => .inl ⟨trivial, Ev.at1 fun k => by simp only [impl_kidsOk.l2]; rw [if_neg (by omega)]⟩)
  rcases h2 with ⟨p, e⟩ | ⟨p, e⟩
  ·exact .inl ⟨⟨c, p.1⟩, k1 c true e⟩
  ·exact .inr ⟨fun q => p ⟨q.2, trivial⟩, k1 c false e⟩
 ·exact .inr ⟨fun q => c q.1, k2 c⟩
theorem AK_count (l : List S44) (k : Int) (d : Nat) : ∀ n : Nat, (∀ i : Nat, n ≤ i → i < n + d → ∀ x ∈ KK l (i : Int), UU l x = (i : Int)) → (AK l d n).count k = if (n : Int) ≤ UU l k ∧ UU l k < ((n + d : Nat) : Int) then (KK l (UU l k)).count k else 0 := by
 induction d with
 | zero =>
  intro n _
  unfold AK
  rw [if_neg (by omega)]
  simp
 | succ d ih =>
  intro n h
  unfold AK
  rw [List.count_append, ih (n + 1) (fun i h1 h2 => h i (by omega) (by omega))]
  by_cases c : UU l k = (n : Int)
  ·rw [if_neg (by omega), if_pos (by omega), c]
   rfl
  ·have h0 : (KK l (n : Int)).count k = 0 := List.count_eq_zero.2 fun hm => c (h n (Nat.le_refl _) (by omega) k hm)
   rw [h0, Nat.zero_add]
   by_cases c2 : ((n + 1 : Nat) : Int) ≤ UU l k ∧ UU l k < ((n + 1 + d : Nat) : Int)
   ·rw [if_pos c2, if_pos (by omega)]
   ·rw [if_neg c2, if_neg (by omega)]
def TS (l : List S44) : Prop := (rd_T44 l 0).f0 = 1 ∧ (∀ n : Nat, 0 ≤ n → n < l.length → PL (rd_T44 l (n : Int)) ∧ (0 < n → (rd_T44 l (n : Int)).f0 ≠ 1)) ∧ (∀ n : Nat, 0 ≤ n → n < l.length → LG l n)
def TI (l : List S44) : Prop := ((rd_T44 l 0).f0 = 1 ∧ (rd_T44 l 0).f5 = -1 ∧ PL (rd_T44 l 0)) ∧ (∀ n : Nat, 0 ≤ n → n < l.length - 1 → ((PL (rd_T44 l ((n + 1 : Nat) : Int)) ∧ (rd_T44 l ((n + 1 : Nat) : Int)).f0 ≠ 1) ∧ (0 ≤ UU l ((n + 1 : Nat) : Int) ∧ UU l ((n + 1 : Nat) : Int) < (l.length : Int)) ∧ ((rd_T44 l (UU l ((n + 1 : Nat) : Int))).f0 = 1 ∨ (rd_T44 l (UU l ((n + 1 : Nat) : Int))).f0 = 2))) ∧ (∀ i : Nat, 0 ≤ i → i < l.length → KG l i) ∧ ∀ k : Nat, 1 ≤ k → k < l.length → (AK l l.length 0).count (k : Int) = 1
theorem TS_TI (l : List S44) (h1 : 1 ≤ l.length) : TS l ↔ TI l := by
 constructor
 ·rintro ⟨a, b, c⟩
  have hkg : ∀ i : Nat, 0 ≤ i → i < l.length → KG l i := fun i _ h => (c i (Nat.zero_le _) h).2
  have hmem : ∀ i : Nat, 0 ≤ i → i < 0 + l.length → ∀ x ∈ KK l (i : Int), UU l x = (i : Int) := fun i _ h x hx => (KG_mem l i (hkg i (Nat.zero_le _) (by omega)) x hx).2.2
  refine ⟨⟨a, (c 0 (Nat.le_refl _) (by omega)).1.1 rfl, (b 0 (Nat.le_refl _) (by omega)).1⟩, fun n _ hn => ?_, hkg, fun k hk hk2 => ?_⟩
  ·have hb := b (n + 1) (Nat.zero_le _) (by omega)
   have hc := (c (n + 1) (Nat.zero_le _) (by omega)).1.2 (by omega)
   refine ⟨⟨hb.1, hb.2 (by omega)⟩, hc.1, ?_⟩
   have hu := b (UU l ((n + 1 : Nat) : Int)).toNat (Nat.zero_le _) (by omega)
   rw [show (((UU l ((n + 1 : Nat) : Int)).toNat : Nat) : Int) = UU l ((n + 1 : Nat) : Int) by omega] at hu
   rcases hu.1 with p | p
   ·exact .inr p.1
   ·rcases p.2.2.2.2 with q | q
    ·exact .inl q.1
    ·exfalso
     have h2 := hc.2
     have h3 : KK l (UU l ((n + 1 : Nat) : Int)) = [] := List.length_eq_zero_iff.1 q.2
     rw [h3] at h2
     simp at h2
  ·rw [AK_count l k l.length 0 hmem]
   have hc := (c k (Nat.zero_le _) hk2).1.2 (by omega)
   rw [if_pos (by omega)]
   exact hc.2
 ·rintro ⟨a, b, c, d⟩
  have hmem : ∀ i : Nat, 0 ≤ i → i < 0 + l.length → ∀ x ∈ KK l (i : Int), UU l x = (i : Int) := fun i _ h x hx => (KG_mem l i (c i (Nat.zero_le _) (by omega)) x hx).2.2
  refine ⟨a.1, fun n _ hn => ?_, fun n _ hn => ?_⟩
  ·by_cases e : n = 0
   ·subst e; exact ⟨a.2.2, fun h => absurd h (by omega)⟩
   ·have := b (n - 1) (Nat.zero_le _) (by omega)
    rw [show n - 1 + 1 = n by omega] at this
    exact ⟨this.1.1, fun _ => this.1.2⟩
  ·refine ⟨⟨fun e => by subst e; exact a.2.1, fun e => ?_⟩, c n (Nat.zero_le _) hn⟩
   have h2 := b (n - 1) (Nat.zero_le _) (by omega)
   rw [show n - 1 + 1 = n by omega] at h2
   have h3 := d n (by omega) hn
   rw [AK_count l n l.length 0 hmem, if_pos (by omega)] at h3
   exact ⟨h2.2.1, h3⟩
theorem TS_Tr (l : List S44) (h : TS l) : Tr l.length (UU l) (KK l) := by
 have hkg : ∀ i : Int, 0 ≤ i → i < (l.length : Int) → ∀ x ∈ KK l i, 1 ≤ x ∧ x < (l.length : Int) ∧ UU l x = i := fun i h0 h1 => by
  have := KG_mem l ((i.toNat : Nat) : Int) (h.2.2 i.toNat (Nat.zero_le _) (by omega)).2
  rwa [show ((i.toNat : Nat) : Int) = i by omega] at this
 refine ⟨hkg, fun i h0 h1 => List.nodup_iff_count.2 fun a => ?_⟩
 by_cases c : a ∈ KK l i
 ·have hx := hkg i h0 h1 a c
  have hg := (h.2.2 a.toNat (Nat.zero_le _) (by omega)).1.2 (by omega)
  rw [show ((a.toNat : Nat) : Int) = a by omega, hx.2.2] at hg
  omega
 ·rw [List.count_eq_zero.2 c]; omega
theorem drop_rd (l : List S44) (n : Nat) (h : n + 1 < l.length) : rd_T44 (l.drop 1) (n : Int) = rd_T44 l ((n + 1 : Nat) : Int) := by
 unfold rd_T44
 rw [Int.toNat_natCast, Int.toNat_natCast, List.getD_eq_getElem?_getD, List.getD_eq_getElem?_getD, List.getElem?_drop, Nat.add_comm 1 n]
theorem hasKids_is (a : Int) : impl_hasKids.f a = some (decide (a = 1 ∨ a = 2)) := by
 unfold impl_hasKids.f
 by_cases c : a = 1
 ·rw [if_pos c, decide_eq_true (.inl c)]
 ·rw [if_neg c]
  congr 1
  by_cases d : a = 2
  ·rw [decide_eq_true (.inr d), d]; rfl
  ·rw [decide_eq_false (by omega), beq_eq_false_iff_ne.mpr d]
theorem spec_TreeOk_is (l : List S44) (hl : l.length ≤ 1048576) (hs : SM l) (Q : Prop) (hQ : 1 ≤ l.length → TS l → EvB (fun k => (spec_l6Order.f k l 0 (([] : List Int))).bind fun t204 => (some ((t204.length : Int) == (l.length : Int)))) Q) :
  EvB (fun k => spec_TreeOk.f k l) (((1 ≤ l.length ∧ l.length ≤ 3000) ∧ TS l) ∧ Q) := by
 unfold spec_TreeOk.f spec_l1In.f
 simp only [in_is, Option.bind_some]
 have hout : Ev (fun k => spec_TreeOk.j0 k l true) false := Ev.at1 fun k => by simp only [spec_TreeOk.j0, if_true]
 by_cases c : (1 : Int) ≤ (l.length : Int) ∧ (l.length : Int) ≤ 3000
 ·simp only [decide_eq_true c, if_true, if_pos (show (0 : Int) < (l.length : Int) by omega)]
  by_cases c1 : (rd_T44 l 0).f0 = 1
  ·rw [show ((rd_T44 l 0).f0 != 1) = false by rw [c1]; rfl]
   refine EvB.step (f := fun k => spec_TreeOk.l0 k l ((0 : Nat) : Int)) (fun k => by simp only [spec_TreeOk.j0, Bool.false_eq_true, if_false]; rfl) ?_
   have hp : ∀ n : Nat, n < l.length → EvB (fun k => spec_l6Plain.f k ((rd_T44 l n).f0) ((rd_T44 l n).f1) ((rd_T44 l n).f2) ((rd_T44 l n).f3) ((rd_T44 l n).f4) ((rd_T44 l n).f5) ((rd_T44 l n).f6)) (PL (rd_T44 l n)) := fun n hn => spec_plain _ (hs n hn).1
   have st : ∀ n : Nat, n < l.length → ∀ k, spec_TreeOk.l0 (k + 1) l (n : Int) = (spec_l6Plain.f k ((rd_T44 l n).f0) ((rd_T44 l n).f1) ((rd_T44 l n).f2) ((rd_T44 l n).f3) ((rd_T44 l n).f4) ((rd_T44 l n).f5) ((rd_T44 l n).f6)).bind fun t198 => (if t198 = true then (if 0 < n ∧ (rd_T44 l n).f0 = 1 then some false else spec_TreeOk.l0 k l ((n + 1 : Nat) : Int)) else (some false)) := fun n hn k => by
    simp only [spec_TreeOk.l0]
    rw [if_pos (by omega), if_pos (by omega), next_at _ (by omega)]
    congr 1
    funext t
    by_cases ht : t = true
    rotate_left
    ·rw [if_neg ht, if_neg ht]
    rw [if_pos ht, if_pos ht]
    by_cases d : (n : Int) > 0
    ·rw [if_pos d]
     by_cases e : (rd_T44 l n).f0 = 1
     ·rw [if_pos e, if_pos ⟨by omega, e⟩]
     ·rw [if_neg e, if_neg (fun h => e h.2)]
    ·rw [if_neg d, if_neg (fun h => d (by omega))]
   refine (EvB.loop (fun k n => spec_TreeOk.l0 k l n) 0 l.length (Nat.zero_le _) (fun n => PL (rd_T44 l (n : Int)) ∧ (0 < n → (rd_T44 l (n : Int)).f0 ≠ 1)) ((∀ n : Nat, 0 ≤ n → n < l.length → LG l n) ∧ Q) ?_ ?_ ?_).iff ⟨fun h => ⟨⟨by omega, c1, h.1, h.2.1⟩, h.2.2⟩, fun h => ⟨h.1.2.2.1, h.1.2.2.2, h.2⟩⟩
   ·intro n hn g r e
    rcases hp n hn with ⟨_, h⟩ | ⟨p, _⟩
    ·refine Ev.step (st n hn) (Ev.bind h ?_)
     simp only [if_true, if_neg (fun h : 0 < n ∧ (rd_T44 l (n : Int)).f0 = 1 => g.2 h.1 h.2)]
     exact e
    ·exact absurd g.1 p
   ·intro n hn g
    rcases hp n hn with ⟨p, h⟩ | ⟨_, h⟩
    ·refine Ev.step (st n hn) (Ev.bind h ?_)
     have hh : 0 < n ∧ (rd_T44 l (n : Int)).f0 = 1 := Classical.byContradiction fun hc => g ⟨p, fun a b => hc ⟨a, b⟩⟩
     simp only [if_true, if_pos hh]
     exact Ev.now _
    ·refine Ev.step (st n hn) (Ev.bind h ?_)
     simp only [Bool.false_eq_true, if_false]
     exact Ev.now _
   ·intro hg
    refine EvB.step (f := fun k => (spec_l6Links.f k l).bind fun t200 => (if t200 = true then ((spec_l6Order.f k l 0 (([] : List Int))).bind fun t204 => (some ((t204.length : Int) == (l.length : Int)))) else (some false))) (fun k => by simp only [spec_TreeOk.l0]; rw [if_neg (by omega)]) ?_
    refine EvB.bind (links_is l hl hs) (fun p => ?_) (fun p => ?_)
    ·simp only [if_true]
     exact (hQ (by omega) ⟨c1, hg, p⟩).iff ⟨fun q => ⟨p, q⟩, fun q => q.2⟩
    ·simp only [Bool.false_eq_true, if_false]
     exact .inr ⟨fun q => p q.1, Ev.now _⟩
  ·rw [bne_iff_ne.mpr c1]
   exact .inr ⟨fun h => c1 h.1.2.1, hout⟩
 ·simp only [decide_eq_false c, Bool.false_eq_true, if_false]
  exact .inr ⟨fun h => c (by have := h.1.1; omega), hout⟩
theorem impl_TreeOk_is (l : List S44) (hl : l.length ≤ 1048576) (hs : SM l) (Q : Prop) (hQ : 1 ≤ l.length → TI l → EvB (fun k => (impl_order.f k l).bind fun t253 => (some ((t253.length : Int) == (l.length : Int)))) Q) :
  EvB (fun k => impl_TreeOk.f k l) (((1 ≤ l.length ∧ l.length ≤ 3000) ∧ TI l) ∧ Q) := by
 unfold impl_TreeOk.f impl_inRange.f
 simp only [in_is, Option.bind_some]
 have hout : Ev (fun k => impl_TreeOk.j0 k l true) false := Ev.at1 fun k => by simp only [impl_TreeOk.j0, if_true]
 by_cases c : (1 : Int) ≤ (l.length : Int) ∧ (l.length : Int) ≤ 3000
 ·simp only [decide_eq_true c, if_true, if_pos (show (0 : Int) < (l.length : Int) by omega)]
  rw [impl_pageOk_is]
  simp only [Option.bind_some]
  by_cases c1 : (rd_T44 l 0).f0 = 1 ∧ (rd_T44 l 0).f5 = -1 ∧ PL (rd_T44 l 0)
  ·rw [@decide_eq_true _ (Classical.propDecidable _) c1]
   simp only [Bool.not_true]
   have hd : (l.drop 1).length = l.length - 1 := by rw [List.length_drop]
   refine EvB.step (f := fun k => impl_TreeOk.l0 k l (l.drop 1) ((l.drop 1).length : Int) ((0 : Nat) : Int)) (fun k => by simp only [impl_TreeOk.j0, Bool.false_eq_true, if_false]; rw [if_pos c.1]; rfl) ?_
   have hp : ∀ n : Nat, n < (l.drop 1).length → EvB (fun k => impl_itemOk.f k ((rd_T44 (l.drop 1) n).f0) ((rd_T44 (l.drop 1) n).f1) ((rd_T44 (l.drop 1) n).f2) ((rd_T44 (l.drop 1) n).f3) ((rd_T44 (l.drop 1) n).f4) ((rd_T44 (l.drop 1) n).f5) ((rd_T44 (l.drop 1) n).f6)) (PL (rd_T44 l ((n + 1 : Nat) : Int)) ∧ (rd_T44 l ((n + 1 : Nat) : Int)).f0 ≠ 1) := fun n hn => by
    rw [drop_rd l n (by omega)]
    exact impl_itemOk_is _ (hs (n + 1) (by omega)).1
   have st : ∀ n : Nat, n < (l.drop 1).length → ∀ k, impl_TreeOk.l0 (k + 1) l (l.drop 1) ((l.drop 1).length : Int) (n : Int) = (impl_itemOk.f k ((rd_T44 (l.drop 1) n).f0) ((rd_T44 (l.drop 1) n).f1) ((rd_T44 (l.drop 1) n).f2) ((rd_T44 (l.drop 1) n).f3) ((rd_T44 (l.drop 1) n).f4) ((rd_T44 (l.drop 1) n).f5) ((rd_T44 (l.drop 1) n).f6)).bind fun t258 => (if t258 = true then (if (0 ≤ UU l ((n + 1 : Nat) : Int) ∧ UU l ((n + 1 : Nat) : Int) < (l.length : Int)) ∧ ((rd_T44 l (UU l ((n + 1 : Nat) : Int))).f0 = 1 ∨ (rd_T44 l (UU l ((n + 1 : Nat) : Int))).f0 = 2) then impl_TreeOk.l0 k l (l.drop 1) ((l.drop 1).length : Int) ((n + 1 : Nat) : Int) else some false) else (some false)) := fun n hn k => by
    simp only [impl_TreeOk.l0]
    rw [if_pos (by omega), if_pos (by omega), if_pos (by omega), wrap_id ((l.length : Int) - 1) (by omega) (by omega), next_at _ (by omega)]
    unfold impl_inRange.f
    rw [in_is]
    congr 1
    funext t
    have hu : (rd_T44 (l.drop 1) (n : Int)).f5 = UU l ((n + 1 : Nat) : Int) := by rw [drop_rd l n (by omega)]; rfl
    by_cases ht : t = true
    rotate_left
    ·rw [if_neg ht, if_neg ht]
    rw [if_pos ht, if_pos ht, hu, Option.bind_some, hasKids_is, Option.bind_some]
    by_cases d : 0 ≤ UU l ((n + 1 : Nat) : Int) ∧ UU l ((n + 1 : Nat) : Int) ≤ (l.length : Int) - 1
    ·rw [decide_eq_true d, if_pos rfl, if_pos d.1, if_pos (by omega)]
     by_cases e : (rd_T44 l (UU l ((n + 1 : Nat) : Int))).f0 = 1 ∨ (rd_T44 l (UU l ((n + 1 : Nat) : Int))).f0 = 2
     ·rw [decide_eq_true e, if_pos rfl, if_pos ⟨by omega, e⟩]
     ·rw [decide_eq_false e, if_neg (by decide), if_neg (fun h => e h.2)]
    ·rw [decide_eq_false d, if_neg (by decide), if_neg (fun h => d (by omega))]
   refine (EvB.loop (fun k n => impl_TreeOk.l0 k l (l.drop 1) ((l.drop 1).length : Int) n) 0 (l.drop 1).length (Nat.zero_le _) (fun n => ((PL (rd_T44 l ((n + 1 : Nat) : Int)) ∧ (rd_T44 l ((n + 1 : Nat) : Int)).f0 ≠ 1) ∧ (0 ≤ UU l ((n + 1 : Nat) : Int) ∧ UU l ((n + 1 : Nat) : Int) < (l.length : Int)) ∧ ((rd_T44 l (UU l ((n + 1 : Nat) : Int))).f0 = 1 ∨ (rd_T44 l (UU l ((n + 1 : Nat) : Int))).f0 = 2))) (((∀ i : Nat, 0 ≤ i → i < l.length → KG l i) ∧ ∀ k : Nat, 1 ≤ k → k < l.length → (AK l l.length 0).count (k : Int) = 1) ∧ Q) ?_ ?_ ?_).iff ⟨fun h => ⟨⟨by omega, c1, fun n a b => h.1 n a (by omega), h.2.1⟩, h.2.2⟩, fun h => ⟨fun n a b => h.1.2.2.1 n a (by omega), h.1.2.2.2, h.2⟩⟩
   ·intro n hn g r e
    rcases hp n hn with ⟨_, h⟩ | ⟨p, _⟩
    ·refine Ev.step (st n hn) (Ev.bind h ?_)
     simp only [if_true, if_pos g.2]
     exact e
    ·exact absurd g.1 p
   ·intro n hn g
    rcases hp n hn with ⟨p, h⟩ | ⟨_, h⟩
    ·refine Ev.step (st n hn) (Ev.bind h ?_)
     simp only [if_true, if_neg (fun q => g ⟨p, q⟩)]
     exact Ev.now _
    ·refine Ev.step (st n hn) (Ev.bind h ?_)
     simp only [Bool.false_eq_true, if_false]
     exact Ev.now _
   ·intro hg
    refine EvB.step (f := fun k => (impl_kidsOk.f k l).bind fun t252 => (if t252 = true then ((impl_order.f k l).bind fun t253 => (some ((t253.length : Int) == (l.length : Int)))) else (some false))) (fun k => by simp only [impl_TreeOk.l0]; rw [if_neg (by omega)]) ?_
    refine EvB.bind (kidsOk_is l hl (by omega) hs) (fun p => ?_) (fun p => ?_)
    ·simp only [if_true]
     exact (hQ (by omega) ⟨c1, fun n a b => hg n a (by omega), p⟩).iff ⟨fun q => ⟨p, q⟩, fun q => q.2⟩
    ·simp only [Bool.false_eq_true, if_false]
     exact .inr ⟨fun q => p q.1, Ev.now _⟩
  ·rw [@decide_eq_false _ (Classical.propDecidable _) c1]
   simp only [Bool.not_false]
   exact .inr ⟨fun h => c1 h.1.2.1, hout⟩
 ·simp only [decide_eq_false c, Bool.false_eq_true, if_false]
  exact .inr ⟨fun h => c (by have := h.1.1; omega), hout⟩
def mks : Nat → Int → List Int
 | 0, _ => []
 | n + 1, c => c :: mks n (c + 1)
theorem mks_length : ∀ (n : Nat) (c : Int), (mks n c).length = n
 | 0, _ => rfl
 | n + 1, c => by simp [mks, mks_length n]
theorem markIntS_loop (suf : List Int) : ∀ (pre : List Int) (c : Int), (pre ++ suf).length ≤ 1000000000000 → 0 ≤ c → c ≤ 8000000000000 - suf.length →
  Ev (fun k => laws_markIntS.l0 k (pre ++ suf) c ((pre.length : Nat) : Int)) (c + suf.length, pre ++ mks suf.length c) := by
 induction suf with
 | nil =>
  intro pre c h h0 h1
  refine Ev.at1 fun k => ?_
  simp only [laws_markIntS.l0, List.append_nil]
  rw [if_neg (by omega)]
  simp [mks]
 | cons x suf IH =>
  intro pre c h h0 h1
  have hl : (pre ++ x :: suf).length = pre.length + 1 + suf.length := by simp; omega
  have hl2 : (x :: suf).length = suf.length + 1 := rfl
  have ih := IH (pre ++ [c]) (c + 1) (by simp at h ⊢; omega) (by omega) (by omega)
  refine Ev.step (f := fun k => laws_markIntS.l0 k ((pre ++ [c]) ++ suf) (c + 1) ((pre.length + 1 : Nat) : Int)) (fun k => ?_) ?_
  ·simp only [laws_markIntS.l0]
   rw [if_pos (by omega), if_pos (by omega), next_at _ (by omega), set_mid, wrap_id (c + 1) (by omega) (by omega)]
  ·rw [List.length_append] at ih
   have e : (c + ((x :: suf).length : Nat), pre ++ mks (x :: suf).length c) = (c + 1 + (suf.length : Nat), (pre ++ [c]) ++ mks suf.length (c + 1)) := by
    rw [hl2]
    simp only [mks, List.append_assoc, List.singleton_append, Prod.mk.injEq, and_true]
    omega
   rw [e]
   exact ih
theorem markIntS_ev (l : List Int) (c : Int) (h : l.length ≤ 1000000000000) (h0 : 0 ≤ c) (h1 : c ≤ 8000000000000 - l.length) : Ev (fun k => laws_markIntS.f k l c) (c + l.length, mks l.length c) := by
 unfold laws_markIntS.f
 exact markIntS_loop l [] c h h0 h1
theorem heldIntS_loop (n : Nat) : ∀ (pre : List Int) (c : Int), pre.length + n ≤ 1000000000000 → 0 ≤ c → c ≤ 8000000000000 - n →
  Ev (fun k => laws_heldIntS.l0 k (pre ++ mks n c) c ((pre.length : Nat) : Int)) (c + n) := by
 induction n with
 | zero =>
  intro pre c h h0 h1
  refine Ev.at1 fun k => ?_
  simp only [laws_heldIntS.l0, mks, List.append_nil]
  rw [if_neg (by omega)]
  simp
 | succ n IH =>
  intro pre c h h0 h1
  have hl : (pre ++ mks (n + 1) c).length = pre.length + 1 + n := by rw [List.length_append, mks_length]; omega
  have ih := IH (pre ++ [c]) (c + 1) (by simp; omega) (by omega) (by omega)
  refine Ev.step (f := fun k => laws_heldIntS.l0 k (pre ++ mks (n + 1) c) (c + 1) ((pre.length + 1 : Nat) : Int)) (fun k => ?_) ?_
  ·simp only [laws_heldIntS.l0]
   rw [if_pos (by omega), if_pos (by omega), next_at _ (by omega), wrap_id (c + 1) (by omega) (by omega)]
   have e : mks (n + 1) c = c :: mks n (c + 1) := rfl
   rw [e, rd_mid, if_pos rfl]
  ·have e : pre ++ [c] ++ mks n (c + 1) = pre ++ mks (n + 1) c := by simp [mks]
   rw [e, List.length_append] at ih
   have e2 : c + 1 + (n : Int) = c + ((n + 1 : Nat) : Int) := by omega
   rw [e2] at ih
   exact ih
theorem heldIntS_ev (n : Nat) (c : Int) (h : n ≤ 1000000000000) (h0 : 0 ≤ c) (h1 : c ≤ 8000000000000 - n) : Ev (fun k => laws_heldIntS.f k (mks n c) c) (c + n) := by
 unfold laws_heldIntS.f
 exact heldIntS_loop n [] c (by simpa using h) h0 h1
theorem marktext_loop (d : Nat) : ∀ (n : Int) (out : ByteArray), 0 ≤ n → n < 10 ^ d → n ≤ 8000000000000 → out.size + d ≤ 1000 → ∃ r, Ev (fun k => laws_markText.l0 k n out) r := by
 induction d with
 | zero =>
  intro n out h0 h1 hb h2
  have : ¬ n > 0 := by simp at h1; omega
  refine ⟨(⟨#[109]⟩ : ByteArray) ++ out, Ev.at1 fun k => ?_⟩
  simp only [laws_markText.l0]
  rw [if_neg this, if_pos (by omega)]
 | succ d ih =>
  intro n out h0 h1 hb h2
  by_cases hn : n > 0
  ·have e : Int.tdiv n 10 = n / 10 := Int.tdiv_eq_ediv_of_nonneg h0
   have hp : (10 : Int) ^ (d + 1) = 10 ^ d * 10 := Int.pow_succ 10 d
   have hd : n / 10 < 10 ^ d := by omega
   have hd0 : 0 ≤ n / 10 := by omega
   have hs : ∀ x : Int, (strOfNums [x]).size = 1 := fun x => rfl
   obtain ⟨r, hr⟩ := ih (n / 10) ((strOfNums [(wrap64 (48 + (Int.tmod n 10))) % 256]) ++ out) hd0 hd (by omega) (by rw [ByteArray.size_append, hs]; omega)
   refine ⟨r, Ev.step (fun k => ?_) hr⟩
   simp only [laws_markText.l0, Option.bind_some]
   rw [if_pos hn, hs, if_pos (by omega), e, wrap_id (n / 10) (by omega) (by omega)]
  ·refine ⟨(⟨#[109]⟩ : ByteArray) ++ out, Ev.at1 fun k => ?_⟩
   simp only [laws_markText.l0]
   rw [if_neg hn, if_pos (by omega)]
theorem marktext_ex (n : Int) (h : n ≤ 8000000000000) : ∃ r, Ev (fun k => laws_markText.f k n) r := by
 unfold laws_markText.f
 by_cases h0 : n ≤ 0
 ·exact ⟨_, Ev.yes fun _ => if_pos h0⟩
 ·obtain ⟨r, hr⟩ := marktext_loop 13 n (⟨#[]⟩ : ByteArray) (by omega) (by omega) h (by decide)
  exact ⟨r, Ev.congr (fun k => if_neg h0) hr⟩
noncomputable def MT (n : Int) : ByteArray := if h : n ≤ 8000000000000 then Classical.choose (marktext_ex n h) else ByteArray.empty
theorem marktext_ev (n : Int) (h : n ≤ 8000000000000) : Ev (fun k => laws_markText.f k n) (MT n) := by
 unfold MT
 rw [dif_pos h]
 exact Classical.choose_spec (marktext_ex n h)
theorem Ev.shift {α : Type} {g : Nat → Option α} {r : α} (h : Ev (fun k => g (k + 1)) r) : Ev g r := Ev.step (f := fun k => g (k + 1)) (fun _ => rfl) h
noncomputable def MA : Nat → Int → List S91
 | 0, _ => []
 | n + 1, c => ⟨MT c, MT (c + 1)⟩ :: MA n (c + 1 + 1)
theorem MA_length : ∀ (n : Nat) (c : Int), (MA n c).length = n
 | 0, _ => rfl
 | n + 1, c => by simp [MA, MA_length n]
theorem markAttrS_loop (suf : List S91) : ∀ (pre : List S91) (c : Int), (pre ++ suf).length ≤ 1048576 → 0 ≤ c → c + 2 * suf.length ≤ 8000000000000 →
  Ev (fun k => laws_markAttrS.l0 k (pre ++ suf) c ((pre.length : Nat) : Int)) (c + 2 * suf.length, pre ++ MA suf.length c) := by
 induction suf with
 | nil =>
  intro pre c h h0 h1
  refine Ev.shift ?_
  simp only [laws_markAttrS.l0, List.append_nil]
  simp only [if_neg (show ¬ ((pre.length : Nat) : Int) < (pre.length : Int) by omega), MA, List.length_nil, List.append_nil]
  rw [show c + 2 * ((0 : Nat) : Int) = c by omega]
  exact Ev.now _
 | cons x suf IH =>
  intro pre c h h0 h1
  have hl : (pre ++ x :: suf).length = pre.length + 1 + suf.length := by simp; omega
  have hl2 : (x :: suf).length = suf.length + 1 := rfl
  have ih := IH (pre ++ [⟨MT c, MT (c + 1)⟩]) (c + 1 + 1) (by simp at h ⊢; omega) (by omega) (by omega)
  refine Ev.shift ?_
  simp only [laws_markAttrS.l0]
  simp only [if_pos (show ((pre.length : Nat) : Int) < ((pre ++ x :: suf).length : Int) by omega), if_pos (show 0 ≤ ((pre.length : Nat) : Int) by omega), wrap_id (c + 1) (by omega) (by omega), wrap_id (c + 1 + 1) (by omega) (by omega), next_at pre.length (by omega), Option.bind_some]
  refine Ev.bind (marktext_ev c (by omega)) ?_
  simp only [set_mid, List.append_assoc, List.singleton_append, rdA2_mid]
  refine Ev.bind (marktext_ev (c + 1) (by omega)) ?_
  try simp only [set_mid, List.append_assoc, List.singleton_append]
  rw [List.length_append] at ih
  have e : (c + 2 * ((x :: suf).length : Nat), pre ++ MA (x :: suf).length c) = (c + 1 + 1 + 2 * (suf.length : Nat), (pre ++ [⟨MT c, MT (c + 1)⟩]) ++ MA suf.length (c + 1 + 1)) := by
   rw [hl2]
   simp only [MA, List.append_assoc, List.singleton_append, Prod.mk.injEq, and_true]
   omega
  rw [e]
  simp only [List.append_assoc, List.singleton_append] at ih ⊢
  exact ih
theorem markAttrS_ev (l : List S91) (c : Int) (h : l.length ≤ 1048576) (h0 : 0 ≤ c) (h1 : c + 2 * l.length ≤ 8000000000000) : Ev (fun k => laws_markAttrS.f k l c) (c + 2 * l.length, MA l.length c) := by
 unfold laws_markAttrS.f
 exact markAttrS_loop l [] c h h0 h1
theorem heldAttrS_loop (n : Nat) : ∀ (pre : List S91) (c : Int), pre.length + n ≤ 1048576 → 0 ≤ c → c + 2 * n ≤ 8000000000000 →
  Ev (fun k => laws_heldAttrS.l0 k (pre ++ MA n c) c ((pre.length : Nat) : Int)) (c + 2 * n) := by
 induction n with
 | zero =>
  intro pre c h h0 h1
  refine Ev.shift ?_
  simp only [laws_heldAttrS.l0, MA, List.append_nil]
  simp only [if_neg (show ¬ ((pre.length : Nat) : Int) < (pre.length : Int) by omega)]
  rw [show c + 2 * ((0 : Nat) : Int) = c by omega]
  exact Ev.now _
 | succ n IH =>
  intro pre c h h0 h1
  have hl : (pre ++ MA (n + 1) c).length = pre.length + 1 + n := by rw [List.length_append, MA_length]; omega
  have ih := IH (pre ++ [⟨MT c, MT (c + 1)⟩]) (c + 1 + 1) (by simp; omega) (by omega) (by omega)
  have e : MA (n + 1) c = ⟨MT c, MT (c + 1)⟩ :: MA n (c + 1 + 1) := rfl
  refine Ev.shift ?_
  simp only [laws_heldAttrS.l0]
  simp only [if_pos (show ((pre.length : Nat) : Int) < ((pre ++ MA (n + 1) c).length : Int) by omega), if_pos (show 0 ≤ ((pre.length : Nat) : Int) by omega), wrap_id (c + 1) (by omega) (by omega), wrap_id (c + 1 + 1) (by omega) (by omega), next_at pre.length (by omega)]
  rw [e]
  simp only [rdA2_mid]
  refine Ev.bind (marktext_ev c (by omega)) ?_
  simp only [if_true]
  refine Ev.bind (marktext_ev (c + 1) (by omega)) ?_
  simp only [if_true]
  rw [List.length_append] at ih
  have e2 : pre ++ [⟨MT c, MT (c + 1)⟩] ++ MA n (c + 1 + 1) = pre ++ ⟨MT c, MT (c + 1)⟩ :: MA n (c + 1 + 1) := by simp
  rw [e2] at ih
  rw [show c + 2 * ((n + 1 : Nat) : Int) = c + 1 + 1 + 2 * (n : Int) by omega]
  exact ih
theorem heldAttrS_ev (n : Nat) (c : Int) (h : n ≤ 1048576) (h0 : 0 ≤ c) (h1 : c + 2 * n ≤ 8000000000000) : Ev (fun k => laws_heldAttrS.f k (MA n c) c) (c + 2 * n) := by
 unfold laws_heldAttrS.f
 exact heldAttrS_loop n [] c (by simpa using h) h0 h1
def nx (x : S44) (c : Int) : Int := c + 1 + 1 + 1 + 2 * (x.f3.length : Int) + 1 + 1 + (x.f6.length : Int)
noncomputable def MX (x : S44) (c : Int) : S44 := ⟨c, c + 1, MT (c + 1 + 1), MA x.f3.length (c + 1 + 1 + 1), MT (c + 1 + 1 + 1 + 2 * (x.f3.length : Int)), c + 1 + 1 + 1 + 2 * (x.f3.length : Int) + 1, mks x.f6.length (c + 1 + 1 + 1 + 2 * (x.f3.length : Int) + 1 + 1)⟩
noncomputable def MIl : List S44 → Int → List S44
 | [], _ => []
 | x :: t, c => MX x c :: MIl t (nx x c)
def MIc : List S44 → Int → Int
 | [], c => c
 | x :: t, c => MIc t (nx x c)
theorem MIl_length : ∀ (l : List S44) (c : Int), (MIl l c).length = l.length
 | [], _ => rfl
 | x :: t, c => by simp [MIl, MIl_length t]
def SMx (x : S44) : Prop := x.f3.length ≤ 1048576 ∧ x.f6.length ≤ 1048576
theorem MIc_le : ∀ (l : List S44) (c : Int), (∀ x ∈ l, SMx x) → 0 ≤ c → c ≤ MIc l c ∧ MIc l c ≤ c + l.length * 4000000
 | [], c, _, _ => by simp [MIc]
 | x :: t, c, h, h0 => by
  have hx := h x (List.mem_cons_self ..)
  unfold SMx at hx
  have e : nx x c = c + 1 + 1 + 1 + 2 * (x.f3.length : Int) + 1 + 1 + (x.f6.length : Int) := rfl
  have ih := MIc_le t (nx x c) (fun y hy => h y (List.mem_cons_of_mem _ hy)) (by omega)
  have e2 : MIc (x :: t) c = MIc t (nx x c) := rfl
  rw [e2]
  simp only [List.length_cons]
  omega
theorem markItemS_loop (suf : List S44) : ∀ (pre M : List S44) (c : Int), (pre ++ suf).length ≤ 1048576 → (∀ x ∈ suf, SMx x) → 0 ≤ c → c + suf.length * 4000000 ≤ 7000000000000 →
  Ev (fun k => laws_markItemS.l0 k (pre ++ suf) M c ((pre.length : Nat) : Int)) (MIc suf c, M ++ MIl suf c) := by
 induction suf with
 | nil =>
  intro pre M c h hs h0 h1
  refine Ev.shift ?_
  simp only [laws_markItemS.l0, List.append_nil]
  simp only [if_neg (show ¬ ((pre.length : Nat) : Int) < (pre.length : Int) by omega), MIc, MIl, List.append_nil]
  exact Ev.now _
 | cons x suf IH =>
  intro pre M c h hs h0 h1
  have hl : (pre ++ x :: suf).length = pre.length + 1 + suf.length := by simp; omega
  have hl2 : (x :: suf).length = suf.length + 1 := rfl
  have hx := hs x (List.mem_cons_self ..)
  unfold SMx at hx
  have en : nx x c = c + 1 + 1 + 1 + 2 * (x.f3.length : Int) + 1 + 1 + (x.f6.length : Int) := rfl
  have ih := IH (pre ++ [x]) (M ++ [MX x c]) (nx x c) (by simp at h ⊢; omega) (fun y hy => hs y (List.mem_cons_of_mem _ hy)) (by omega) (by omega)
  refine Ev.shift ?_
  simp only [laws_markItemS.l0]
  simp only [if_pos (show ((pre.length : Nat) : Int) < ((pre ++ x :: suf).length : Int) by omega), if_pos (show 0 ≤ ((pre.length : Nat) : Int) by omega), wrap_id (c + 1) (by omega) (by omega), wrap_id (c + 1 + 1) (by omega) (by omega), wrap_id (c + 1 + 1 + 1) (by omega) (by omega), next_at pre.length (by omega), rdI2_mid]
  refine Ev.bind (marktext_ev (c + 1 + 1) (by omega)) ?_
  refine Ev.bind (markAttrS_ev x.f3 (c + 1 + 1 + 1) hx.1 (by omega) (by omega)) ?_
  refine Ev.bind (marktext_ev (c + 1 + 1 + 1 + 2 * (x.f3.length : Int)) (by omega)) ?_
  simp only [wrap_id (c + 1 + 1 + 1 + 2 * (x.f3.length : Int) + 1) (by omega) (by omega), wrap_id (c + 1 + 1 + 1 + 2 * (x.f3.length : Int) + 1 + 1) (by omega) (by omega)]
  refine Ev.bind (markIntS_ev x.f6 (c + 1 + 1 + 1 + 2 * (x.f3.length : Int) + 1 + 1) (by omega) (by omega) (by omega)) ?_
  rw [List.length_append] at ih
  have e1 : pre ++ [x] ++ suf = pre ++ x :: suf := by simp
  have e2 : M ++ [MX x c] ++ MIl suf (nx x c) = M ++ MIl (x :: suf) c := by simp [MIl]
  rw [e1, e2] at ih
  exact ih
theorem markItemS_ev (l : List S44) (c : Int) (h : l.length ≤ 1048576) (hs : ∀ x ∈ l, SMx x) (h0 : 0 ≤ c) (h1 : c + l.length * 4000000 ≤ 7000000000000) : Ev (fun k => laws_markItemS.f k l c) (MIc l c, MIl l c) := by
 unfold laws_markItemS.f
 simp only [if_pos (show l.length ≤ 4611686018427387903 by omega)]
 exact markItemS_loop l [] [] c h hs h0 h1
theorem heldItemS_loop (suf : List S44) : ∀ (pre : List S44) (c : Int), (pre ++ suf).length ≤ 1048576 → (∀ x ∈ suf, SMx x) → 0 ≤ c → c + suf.length * 4000000 ≤ 7000000000000 →
  Ev (fun k => laws_heldItemS.l0 k (pre ++ MIl suf c) c ((pre.length : Nat) : Int)) (MIc suf c) := by
 induction suf with
 | nil =>
  intro pre c h hs h0 h1
  refine Ev.shift ?_
  simp only [laws_heldItemS.l0, MIl, List.append_nil]
  simp only [if_neg (show ¬ ((pre.length : Nat) : Int) < (pre.length : Int) by omega), MIc]
  exact Ev.now _
 | cons x suf IH =>
  intro pre c h hs h0 h1
  have hl0 : (pre ++ x :: suf).length = pre.length + 1 + suf.length := by simp; omega
  have hl : (pre ++ MIl (x :: suf) c).length = pre.length + 1 + suf.length := by rw [List.length_append, MIl_length]; simp; omega
  have hl2 : (x :: suf).length = suf.length + 1 := rfl
  have hx := hs x (List.mem_cons_self ..)
  unfold SMx at hx
  have en : nx x c = c + 1 + 1 + 1 + 2 * (x.f3.length : Int) + 1 + 1 + (x.f6.length : Int) := rfl
  have ih := IH (pre ++ [MX x c]) (nx x c) (by simp at h ⊢; omega) (fun y hy => hs y (List.mem_cons_of_mem _ hy)) (by omega) (by omega)
  have e : MIl (x :: suf) c = MX x c :: MIl suf (nx x c) := rfl
  refine Ev.shift ?_
  simp only [laws_heldItemS.l0]
  simp only [if_pos (show ((pre.length : Nat) : Int) < ((pre ++ MIl (x :: suf) c).length : Int) by omega), if_pos (show 0 ≤ ((pre.length : Nat) : Int) by omega), wrap_id (c + 1) (by omega) (by omega), wrap_id (c + 1 + 1) (by omega) (by omega), wrap_id (c + 1 + 1 + 1) (by omega) (by omega), next_at pre.length (by omega)]
  rw [e]
  simp only [rdI2_mid]
  simp only [MX, if_true]
  refine Ev.bind (marktext_ev (c + 1 + 1) (by omega)) ?_
  simp only [if_true]
  refine Ev.bind (heldAttrS_ev x.f3.length (c + 1 + 1 + 1) hx.1 (by omega) (by omega)) ?_
  simp only [if_neg (show ¬ c + 1 + 1 + 1 + 2 * (x.f3.length : Int) < 0 by omega)]
  refine Ev.bind (marktext_ev (c + 1 + 1 + 1 + 2 * (x.f3.length : Int)) (by omega)) ?_
  simp only [if_true, wrap_id (c + 1 + 1 + 1 + 2 * (x.f3.length : Int) + 1) (by omega) (by omega), wrap_id (c + 1 + 1 + 1 + 2 * (x.f3.length : Int) + 1 + 1) (by omega) (by omega)]
  refine Ev.bind (heldIntS_ev x.f6.length (c + 1 + 1 + 1 + 2 * (x.f3.length : Int) + 1 + 1) (by omega) (by omega) (by omega)) ?_
  simp only [if_neg (show ¬ c + 1 + 1 + 1 + 2 * (x.f3.length : Int) + 1 + 1 + (x.f6.length : Int) < 0 by omega)]
  rw [List.length_append] at ih
  have e1 : pre ++ [MX x c] ++ MIl suf (nx x c) = pre ++ MX x c :: MIl suf (nx x c) := by simp
  rw [e1] at ih
  exact ih
theorem heldItemS_ev (l : List S44) (c : Int) (h : l.length ≤ 1048576) (hs : ∀ x ∈ l, SMx x) (h0 : 0 ≤ c) (h1 : c + l.length * 4000000 ≤ 7000000000000) : Ev (fun k => laws_heldItemS.f k (MIl l c) c) (MIc l c) := by
 unfold laws_heldItemS.f
 exact heldItemS_loop l [] c h hs h0 h1
theorem addAt_perm (ks : List Int) (p n : Int) : (addAt ks p n).Perm (n :: ks) := by
 unfold addAt
 by_cases c : 0 ≤ p ∧ p ≤ (ks.length : Int)
 ·rw [if_pos c]
  have h := List.perm_middle (a := n) (l₁ := ks.take p.toNat) (l₂ := ks.drop p.toNat)
  rwa [List.take_append_drop] at h
 ·rw [if_neg c]
  have h := List.perm_middle (a := n) (l₁ := ks) (l₂ := [])
  rwa [List.append_nil] at h
theorem addAt_length (ks : List Int) (p n : Int) : (addAt ks p n).length = ks.length + 1 := by
 have := (addAt_perm ks p n).length_eq
 rwa [List.length_cons] at this
theorem addAt_mem (ks : List Int) (p n y : Int) : y ∈ addAt ks p n ↔ y = n ∨ y ∈ ks := by
 rw [(addAt_perm ks p n).mem_iff, List.mem_cons]
theorem addAt_count (ks : List Int) (p n y : Int) : (addAt ks p n).count y = ks.count y + if n = y then 1 else 0 := by
 rw [(addAt_perm ks p n).count_eq, List.count_cons]
 simp
theorem hung_length (l : List S44) (up p : Int) (x : S44) : (hung l up p x).length = l.length + 1 := by
 unfold hung
 rw [List.length_set, List.length_append]
 rfl
def leaf (x : S44) (up : Int) : S44 := ⟨x.f0, x.f1, x.f2, x.f3, x.f4, up, []⟩
def bear (y : S44) (p n : Int) : S44 := ⟨y.f0, y.f1, y.f2, y.f3, y.f4, y.f5, addAt y.f6 p n⟩
theorem rd_at (l : List S44) (n : Nat) (h : n < l.length) : rd_T44 l (n : Int) = l[n] := by
 unfold rd_T44
 rw [Int.toNat_natCast, List.getD_eq_getElem?_getD, List.getElem?_eq_getElem h]
 rfl
theorem hung_up (l : List S44) (up p : Int) (x : S44) (h0 : 0 ≤ up) (h1 : up < (l.length : Int)) : rd_T44 (hung l up p x) up = bear (rd_T44 l up) p (l.length : Int) := by
 obtain ⟨u, rfl⟩ : ∃ u : Nat, up = (u : Int) := ⟨up.toNat, by omega⟩
 rw [rd_at _ u (by rw [hung_length]; omega)]
 unfold hung
 simp only [Int.toNat_natCast, List.getElem_set_self]
 rfl
theorem hung_new (l : List S44) (up p : Int) (x : S44) (h0 : 0 ≤ up) (h1 : up < (l.length : Int)) : rd_T44 (hung l up p x) (l.length : Int) = leaf x up := by
 rw [rd_at _ l.length (by rw [hung_length]; omega)]
 unfold hung
 rw [List.getElem_set_ne (by omega)]
 simp [leaf]
theorem hung_else (l : List S44) (up p : Int) (x : S44) (i : Int) (h0 : 0 ≤ i) (h1 : i < (l.length : Int)) (hn : i ≠ up) (hu : 0 ≤ up) : rd_T44 (hung l up p x) i = rd_T44 l i := by
 obtain ⟨u, rfl⟩ : ∃ u : Nat, i = (u : Int) := ⟨i.toNat, by omega⟩
 rw [rd_at _ u (by rw [hung_length]; omega), rd_at l u (by omega)]
 unfold hung
 rw [List.getElem_set_ne (by omega), List.getElem_append_left (by omega)]
section
variable {l : List S44} {up p : Int} {x : S44} (h0 : 0 ≤ up) (h1 : up < (l.length : Int))
include h0 h1
theorem hung_U (i : Int) (i0 : 0 ≤ i) (i1 : i < (l.length : Int)) : UU (hung l up p x) i = UU l i := by
 unfold UU
 by_cases e : i = up
 ·subst e; rw [hung_up l i p x i0 i1]; rfl
 ·rw [hung_else l up p x i i0 i1 e h0]
theorem hung_U_new : UU (hung l up p x) (l.length : Int) = up := by
 unfold UU
 rw [hung_new l up p x h0 h1]; rfl
theorem hung_K_up : KK (hung l up p x) up = addAt (KK l up) p (l.length : Int) := by
 unfold KK
 rw [hung_up l up p x h0 h1]; rfl
theorem hung_K (i : Int) (i0 : 0 ≤ i) (i1 : i < (l.length : Int)) (hn : i ≠ up) : KK (hung l up p x) i = KK l i := by
 have h2 := h1
 unfold KK
 rw [hung_else l up p x i i0 i1 hn h0]
theorem hung_K_new : KK (hung l up p x) (l.length : Int) = [] := by
 unfold KK
 rw [hung_new l up p x h0 h1]; rfl
theorem hung_K_mem (i : Int) (i0 : 0 ≤ i) (i1 : i < (l.length : Int)) (y : Int) : y ∈ KK (hung l up p x) i ↔ y ∈ KK l i ∨ (i = up ∧ y = (l.length : Int)) := by
 by_cases e : i = up
 ·subst e
  rw [hung_K_up i0 i1, addAt_mem]
  constructor
  ·rintro (h | h)
   ·exact .inr ⟨rfl, h⟩
   ·exact .inl h
  ·rintro (h | h)
   ·exact .inr h
   ·exact .inl h.2
 ·rw [hung_K h0 h1 i i0 i1 e]
  exact ⟨.inl, fun h => h.elim id (fun h => absurd h.1 e)⟩
end
theorem KG_of {l : List S44} {i : Int} (h : ∀ x ∈ KK l i, 1 ≤ x ∧ x < (l.length : Int) ∧ UU l x = i) : KG l i := by
 intro m _ hm
 rw [rd_ex _ _ hm]
 have := h _ (List.getElem_mem hm)
 exact ⟨⟨this.1, this.2.1⟩, this.2.2⟩
def LF (l : List S44) (up : Int) (x : S44) : Prop := (PL (leaf x up) ∧ x.f0 ≠ 1) ∧ ((rd_T44 l up).f0 = 1 ∨ (rd_T44 l up).f0 = 2)
theorem PL_bear (y : S44) (p n : Int) (h : PL y) : PL (bear y p n) ↔ (y.f0 = 1 ∨ y.f0 = 2) := by
 constructor
 ·rintro (q | q)
  ·exact .inr q.1
  ·rcases q.2.2.2.2 with r | r
   ·exact .inl r.1
   ·have := r.2
    have h2 : (bear y p n).f6.length = y.f6.length + 1 := addAt_length _ _ _
    omega
 ·intro c
  rcases h with q | q
  ·exact .inl q
  ·rcases q.2.2.2.2 with r | r
   ·exact .inr ⟨q.1, q.2.1, q.2.2.1, q.2.2.2.1, .inl r⟩
   ·omega
theorem TS_hung {l : List S44} {up p : Int} {x : S44} (h : TS l) (h0 : 0 ≤ up) (h1 : up < (l.length : Int)) : TS (hung l up p x) ↔ LF l up x := by
 have hkg : ∀ i : Int, 0 ≤ i → i < (l.length : Int) → ∀ y ∈ KK l i, 1 ≤ y ∧ y < (l.length : Int) ∧ UU l y = i := fun i i0 i1 => (TS_Tr l h).kid i i0 i1
 have hlen := hung_length l up p x
 have hPup : PL (rd_T44 l up) := by
  have := (h.2.1 up.toNat (Nat.zero_le _) (by omega)).1
  rwa [show ((up.toNat : Nat) : Int) = up by omega] at this
 constructor
 ·rintro ⟨_, b, _⟩
  refine ⟨?_, ?_⟩
  ·have := b l.length (Nat.zero_le _) (by omega)
   rw [hung_new l up p x h0 h1] at this
   exact ⟨this.1, this.2 (by omega)⟩
  ·have := (b up.toNat (Nat.zero_le _) (by omega)).1
   rw [show ((up.toNat : Nat) : Int) = up by omega, hung_up l up p x h0 h1] at this
   exact (PL_bear _ _ _ hPup).1 this
 ·rintro ⟨⟨a1, a2⟩, a3⟩
  refine ⟨?_, ?_, ?_⟩
  ·by_cases e : (0 : Int) = up
   ·rw [← e] at h0 h1 ⊢
    rw [hung_up l 0 p x h0 h1]
    exact h.1
   ·rw [hung_else l up p x 0 (Int.le_refl _) (by omega) e h0]
    exact h.1
  ·intro n _ hn
   rw [hlen] at hn
   by_cases e : n = l.length
   ·subst e
    rw [hung_new l up p x h0 h1]
    exact ⟨a1, fun _ => a2⟩
   ·have hb := h.2.1 n (Nat.zero_le _) (by omega)
    by_cases e2 : (n : Int) = up
    ·rw [e2, hung_up l up p x h0 h1]
     refine ⟨(PL_bear _ _ _ hPup).2 a3, fun hn0 => ?_⟩
     have := hb.2 hn0
     rw [e2] at this
     exact this
    ·rw [hung_else l up p x (n : Int) (by omega) (by omega) e2 h0]
     exact hb
  ·intro n _ hn
   rw [hlen] at hn
   have hKG : ∀ i : Int, 0 ≤ i → i ≤ (l.length : Int) → KG (hung l up p x) i := fun i i0 i1 => by
    refine KG_of (fun y hy => ?_)
    rw [hlen]
    by_cases e : i = (l.length : Int)
    ·subst e
     rw [hung_K_new h0 h1] at hy
     exact absurd hy (by simp)
    ·rcases (hung_K_mem h0 h1 i i0 (by omega) y).1 hy with q | q
     ·have := hkg i i0 (by omega) y q
      refine ⟨this.1, by omega, ?_⟩
      rw [hung_U h0 h1 y (by omega) this.2.1]
      exact this.2.2
     ·obtain ⟨rfl, rfl⟩ := q
      exact ⟨by omega, by omega, hung_U_new h0 h1⟩
   refine ⟨?_, hKG (n : Int) (by omega) (by omega)⟩
   by_cases e : n = l.length
   ·subst e
    refine ⟨fun h3 => by omega, fun _ => ?_⟩
    rw [hung_U_new h0 h1, hung_K_up h0 h1, addAt_count, hlen, if_pos rfl]
    refine ⟨⟨h0, by omega⟩, ?_⟩
    have : (KK l up).count (l.length : Int) = 0 := List.count_eq_zero.2 (fun hm => by have := (hkg up h0 h1 _ hm).2.1; omega)
    omega
   ·have hc := (h.2.2 n (Nat.zero_le _) (by omega)).1
    refine ⟨fun hz => ?_, fun hz => ?_⟩
    ·subst hz
     have := hung_U (p := p) (x := x) h0 h1 0 (Int.le_refl _) (by omega)
     rw [this]
     exact hc.1 rfl
    ·have hcc := hc.2 hz
     rw [hung_U h0 h1 (n : Int) (by omega) (by omega), hlen]
     refine ⟨⟨hcc.1.1, by omega⟩, ?_⟩
     by_cases e2 : UU l (n : Int) = up
     ·rw [e2, hung_K_up h0 h1, addAt_count, if_neg (by omega)]
      have := hcc.2
      rw [e2] at this
      omega
     ·rw [hung_K h0 h1 _ hcc.1.1 hcc.1.2 e2]
      exact hcc.2
theorem OrdL_sub {n : Nat} {K : Int → List Int} {ks out o2 : List Int} (h : OrdL n K ks out o2) (C : Int → Prop) (hC : ∀ i, 0 ≤ i → i < (n : Int) → C i → ∀ y ∈ K i, C y) : (∀ x ∈ ks, C x) → (∀ x ∈ out, C x) → ∀ x ∈ o2, C x := by
 induction h with
 | nil out => exact fun _ h2 => h2
 | @cons i is out o1 o2 i0 i1 hl _ _ ih1 ih2 =>
  intro hk ho
  have hi := hk i (by simp)
  refine ih2 (fun x hx => hk x (by simp [hx])) (ih1 (hC i i0 i1 hi) (fun x hx => ?_))
  rcases List.mem_append.1 hx with hx | hx
  ·exact ho x hx
  ·rw [List.mem_singleton] at hx; subst hx; exact hi
theorem OrdL_closed {n : Nat} {K : Int → List Int} {ks out o2 : List Int} (h : OrdL n K ks out o2) : (∀ x ∈ out, x ∈ o2) ∧ (∀ x ∈ ks, x ∈ o2) ∧ (∀ x ∈ o2, x ∈ out ∨ ∀ y ∈ K x, y ∈ o2) := by
 induction h with
 | nil out => exact ⟨fun _ h => h, fun x h => absurd h (by simp), fun x h => .inl h⟩
 | @cons i is out o1 o2 i0 i1 hl _ _ ih1 ih2 =>
  obtain ⟨a1, b1, c1⟩ := ih1
  obtain ⟨a2, b2, c2⟩ := ih2
  refine ⟨fun x hx => a2 x (a1 x (by simp [hx])), fun x hx => ?_, fun x hx => ?_⟩
  ·rcases List.mem_cons.1 hx with e | hx
   ·subst e; exact a2 x (a1 x (by simp))
   ·exact b2 x hx
  ·rcases c2 x hx with q | q
   ·rcases c1 x q with r | r
    ·rcases List.mem_append.1 r with r | r
     ·exact .inl r
     ·rw [List.mem_singleton] at r; subst r
      exact .inr (fun y hy => a2 y (b1 y hy))
    ·exact .inr (fun y hy => a2 y (r y hy))
   ·exact .inr q
theorem full_all (n : Nat) (o : List Int) (hn : o.Nodup) (hr : ∀ x ∈ o, 0 ≤ x ∧ x < (n : Int)) (hl : o.length = n) (x : Int) (h0 : 0 ≤ x) (h1 : x < (n : Int)) : x ∈ o := by
 refine Classical.byContradiction fun hc => ?_
 have := nd_len n (x :: o) (List.nodup_cons.2 ⟨hc, hn⟩) (fun y hy => by
  rcases List.mem_cons.1 hy with e | hy
  ·subst e; exact ⟨h0, h1⟩
  ·exact hr y hy)
 rw [List.length_cons] at this
 omega
theorem all_len : ∀ (m : Nat) (o : List Int), o.Nodup → (∀ x : Int, 0 ≤ x → x < (m : Int) → x ∈ o) → m ≤ o.length
 | 0, _, _, _ => Nat.zero_le _
 | m + 1, o, hn, h => by
  have hm := h (m : Int) (by omega) (by omega)
  have := all_len m (o.erase (m : Int)) (hn.erase _) (fun x h0 h1 => by
   rw [hn.mem_erase_iff]
   exact ⟨by omega, h x h0 (by omega)⟩)
  rw [List.length_erase_of_mem hm] at this
  have : 0 < o.length := List.length_pos_of_mem hm
  omega
def OA (l : List S44) : Prop := ∃ o, OrdL l.length (KK l) [0] [] o ∧ o.length = l.length
theorem OA_hung {l : List S44} {up p : Int} {x : S44} (h : TS l) (hl1 : 1 ≤ l.length) (h0 : 0 ≤ up) (h1 : up < (l.length : Int)) (ha : OA l) (hT : TS (hung l up p x)) : OA (hung l up p x) := by
 have hlen := hung_length l up p x
 obtain ⟨r, o, _, d, hnd, hrg, hle⟩ := order_all (TS_Tr _ hT) (by omega)
 refine ⟨o, d, Nat.le_antisymm hle ?_⟩
 obtain ⟨_, hz, hcl⟩ := OrdL_closed d
 have hcl2 : ∀ y ∈ o, ∀ z ∈ KK (hung l up p x) y, z ∈ o := fun y hy => (hcl y hy).elim (fun h => absurd h (by simp)) id
 obtain ⟨o2, d2, hl2⟩ := ha
 obtain ⟨r3, o3, _, d3, hnd3, hrg3, hle3⟩ := order_all (TS_Tr l h) hl1
 have hold : ∀ y ∈ o2, y ∈ o := OrdL_sub d2 (· ∈ o) (fun i i0 i1 hi y hy => hcl2 i hi y ((hung_K_mem h0 h1 i i0 i1 y).2 (.inl hy))) (fun y hy => by rw [List.mem_singleton] at hy; subst hy; exact hz 0 (by simp)) (fun y hy => absurd hy (by simp))
 have e : o3 = o2 := by
  have g : ∀ {n : Nat} {K : Int → List Int} {ks out a : List Int}, OrdL n K ks out a → ∀ b, OrdL n K ks out b → a = b := by
   intro n K ks out a ha
   induction ha with
   | nil out => intro b hb; cases hb; rfl
   | cons _ _ _ _ _ ih1 ih2 =>
    intro b hb
    cases hb with
    | cons _ _ _ hb1 hb2 =>
     have := ih1 _ hb1
     subst this
     exact ih2 _ hb2
  exact g d3 o2 d2
 subst e
 have hall : ∀ y : Int, 0 ≤ y → y < (l.length : Int) → y ∈ o := fun y y0 y1 => hold y (full_all l.length o3 hnd3 hrg3 hl2 y y0 y1)
 refine all_len _ o hnd (fun y y0 y1 => ?_)
 rw [hlen] at y1
 by_cases c : y < (l.length : Int)
 ·exact hall y y0 c
 ·have e : y = (l.length : Int) := by omega
  subst e
  exact hcl2 up (hall up h0 h1) _ ((hung_K_mem h0 h1 up h0 h1 _).2 (.inr ⟨rfl, rfl⟩))
def OKT (l : List S44) : Prop := (1 ≤ l.length ∧ l.length ≤ 3000) ∧ TS l ∧ OA l
theorem OKT_both (l : List S44) (hl : l.length ≤ 1048576) (hs : SM l) : EvB (fun k => spec_TreeOk.f k l) (OKT l) ∧ EvB (fun k => impl_TreeOk.f k l) (OKT l) := by
 by_cases c : TS l ∧ 1 ≤ l.length
 ·obtain ⟨r, o, s, d, hnd, hrg, hlen⟩ := order_all (TS_Tr l c.1) c.2
  have e1 := order_spec l hl hs d
  have e2 := order_impl l hl hs s
  have hu : OA l ↔ o.length = l.length := ⟨fun ⟨o2, d2, h2⟩ => by
   have e3 := order_spec l hl hs d2
   obtain ⟨K1, k1⟩ := e1
   obtain ⟨K2, k2⟩ := e3
   have h3 := k1 (K1 + K2) (by omega)
   rw [k2 (K1 + K2) (by omega)] at h3
   injection h3 with h3
   rw [← h3]; exact h2, fun h => ⟨o, d, h⟩⟩
  have hb : ((o.length : Int) == (l.length : Int)) = true ↔ o.length = l.length := by rw [beq_iff_eq]; omega
  have q1 : EvB (fun k => (spec_l6Order.f k l 0 []).bind fun t => some ((t.length : Int) == (l.length : Int))) (o.length = l.length) := by
   rcases Classical.em (o.length = l.length) with q | q
   ·exact .inl ⟨q, Ev.bind e1 (by rw [hb.2 q]; exact Ev.now _)⟩
   ·exact .inr ⟨q, Ev.bind e1 (by rw [show ((o.length : Int) == (l.length : Int)) = false by rw [Bool.eq_false_iff]; exact fun h => q (hb.1 h)]; exact Ev.now _)⟩
  have q2 : EvB (fun k => (impl_order.f k l).bind fun t => some ((t.length : Int) == (l.length : Int))) (o.length = l.length) := by
   rcases Classical.em (o.length = l.length) with q | q
   ·exact .inl ⟨q, Ev.bind e2 (by rw [hb.2 q]; exact Ev.now _)⟩
   ·exact .inr ⟨q, Ev.bind e2 (by rw [show ((o.length : Int) == (l.length : Int)) = false by rw [Bool.eq_false_iff]; exact fun h => q (hb.1 h)]; exact Ev.now _)⟩
  refine ⟨(spec_TreeOk_is l hl hs (o.length = l.length) (fun _ _ => q1)).iff ?_, (impl_TreeOk_is l hl hs (o.length = l.length) (fun _ _ => q2)).iff ?_⟩
  ·unfold OKT; rw [hu]; exact and_assoc
  ·unfold OKT; rw [hu, TS_TI l c.2]; exact and_assoc
 ·refine ⟨(spec_TreeOk_is l hl hs False (fun a b => absurd ⟨b, a⟩ c)).iff ⟨fun h => h.2.elim, fun h => absurd ⟨h.2.1, h.1.1⟩ c⟩, (impl_TreeOk_is l hl hs False (fun a b => absurd ⟨(TS_TI l a).2 b, a⟩ c)).iff ⟨fun h => h.2.elim, fun h => absurd ⟨h.2.1, h.1.1⟩ c⟩⟩
theorem l6Copy_loop (suf : List S44) : ∀ (pre : List S44), (pre ++ suf).length ≤ 1048576 → (∀ x ∈ suf, SMx x) → Ev (fun k => spec_l6Copy.l0 k (pre ++ suf) pre ((pre.length : Nat) : Int)) (pre ++ suf) := by
 induction suf with
 | nil =>
  intro pre h hs
  refine Ev.shift ?_
  simp only [spec_l6Copy.l0, List.append_nil]
  simp only [if_neg (show ¬ ((pre.length : Nat) : Int) < (pre.length : Int) by omega)]
  exact Ev.now _
 | cons x suf IH =>
  intro pre h hs
  have hl : (pre ++ x :: suf).length = pre.length + 1 + suf.length := by simp; omega
  have hx := hs x (List.mem_cons_self ..)
  unfold SMx at hx
  have ih := IH (pre ++ [x]) (by simp at h ⊢; omega) (fun y hy => hs y (List.mem_cons_of_mem _ hy))
  refine Ev.shift ?_
  simp only [spec_l6Copy.l0]
  have e6 : spec_l6Item.f x.f0 x.f1 x.f2 x.f3 x.f4 x.f5 x.f6 = some (x.f0, x.f1, x.f2, x.f3, x.f4, x.f5, x.f6) := by
   unfold spec_l6Item.f
   simp only [Option.bind_some, List.length_nil, List.nil_append, if_pos (show 0 + x.f3.length < 4398046511104 by omega), if_pos (show 0 + x.f6.length < 17592186044416 by omega)]
  simp only [if_pos (show ((pre.length : Nat) : Int) < ((pre ++ x :: suf).length : Int) by omega), if_pos (show 0 ≤ ((pre.length : Nat) : Int) by omega), rdI2_mid, e6, Option.bind_some, next_at pre.length (by omega), if_pos (show pre.length < 1353245080339 by omega)]
  rw [List.length_append] at ih
  have e1 : pre ++ [x] ++ suf = pre ++ x :: suf := by simp
  rw [e1] at ih
  exact ih
theorem SM_of {l : List S44} (h : ∀ x ∈ l, SMx x) : SM l := fun n hn => by
 rw [rd_at l n hn]
 exact h _ (List.getElem_mem hn)
theorem hung_SMx {l : List S44} {up p : Int} {x : S44} (h : ∀ y ∈ l, SMx y) (h0 : 0 ≤ up) (h1 : up < (l.length : Int)) (h3 : x.f3.length ≤ 1048576) (hk : (rd_T44 l up).f6.length + 1 ≤ 1048576) : ∀ y ∈ hung l up p x, SMx y := by
 intro y hy
 obtain ⟨n, hn, rfl⟩ := List.mem_iff_getElem.1 hy
 have hl := hung_length l up p x
 rw [← rd_at _ n hn]
 by_cases e : n = l.length
 ·subst e
  rw [hung_new l up p x h0 h1]
  exact ⟨h3, Nat.zero_le _⟩
 ·by_cases e2 : (n : Int) = up
  ·rw [e2, hung_up l up p x h0 h1]
   have hu := SM_of h up.toNat (by omega)
   rw [show ((up.toNat : Nat) : Int) = up by omega] at hu
   exact ⟨hu.1, by show (addAt _ _ _).length ≤ _; rw [addAt_length]; exact hk⟩
  ·rw [hung_else l up p x (n : Int) (by omega) (by omega) e2 h0]
   exact SM_of h n (by omega)
theorem kids_few {l : List S44} (h : TS l) (up : Int) (h0 : 0 ≤ up) (h1 : up < (l.length : Int)) : (rd_T44 l up).f6.length ≤ l.length :=
 nd_len l.length (KK l up) ((TS_Tr l h).nd up h0 h1) (fun x hx => by have := (TS_Tr l h).kid up h0 h1 x hx; omega)
theorem OKT_hung {l : List S44} {up p : Int} {x : S44} (h : OKT l) (h0 : 0 ≤ up) (h1 : up < (l.length : Int)) (hn : l.length ≠ 3000) : OKT (hung l up p x) ↔ LF l up x := by
 have hl := hung_length l up p x
 constructor
 ·exact fun q => (TS_hung h.2.1 h0 h1).1 q.2.1
 ·intro q
  have hT := (TS_hung (p := p) h.2.1 h0 h1).2 q
  have := h.1
  exact ⟨⟨by omega, by omega⟩, hT, OA_hung h.2.1 h.1.1 h0 h1 h.2.2 hT⟩
theorem Add_both (m : List S44) (up p : Int) (x : S44) (hm : m.length ≤ 1048576) (hs : ∀ y ∈ m, SMx y) (hx : SMx x) : ∃ R : List S44 × Int, Ev (fun k => spec_Add.f k m up p x.f0 x.f1 x.f2 x.f3 x.f4 x.f5 x.f6) R ∧ Ev (fun k => impl_Add.f k m up p x.f0 x.f1 x.f2 x.f3 x.f4 x.f5 x.f6) R ∧ R.1.length ≤ 1048576 ∧ ∀ y ∈ R.1, SMx y := by
 have hsm := SM_of hs
 obtain ⟨t1, t2⟩ := OKT_both m hm hsm
 have hcp : Ev (fun k => spec_l6Copy.f k m) m := by
  unfold spec_l6Copy.f
  exact l6Copy_loop m [] hm hs
 have hit : EvB (fun k => impl_itemOk.f k x.f0 x.f1 x.f2 x.f3 x.f4 x.f5 []) (PL (leaf x up) ∧ x.f0 ≠ 1) := impl_itemOk_is (⟨x.f0, x.f1, x.f2, x.f3, x.f4, x.f5, []⟩ : S44) hx.1
 have hcd : m.length < 1353245080339 ∧ ∀ y ∈ m, y.f3.length < 4398046511104 ∧ y.f6.length < 17592186044416 := ⟨by omega, fun y hy => ⟨by have := (hs y hy).1; omega, by have := (hs y hy).2; omega⟩⟩
 have hb : m.length < 1353245080339 := hcd.1
 have hx3 : x.f3.length < 4398046511104 := by have := hx.1; omega
 have hx6 : x.f6.length < 17592186044416 := by have := hx.2; omega
 by_cases c : OKT m ∧ (0 ≤ up ∧ up < (m.length : Int)) ∧ m.length ≠ 3000
 ·obtain ⟨ct, cu, cn⟩ := c
  have hle := ct.1
  have hk := kids_few ct.2.1 up cu.1 cu.2
  have hSM := hung_SMx (p := p) (x := x) hs cu.1 cu.2 hx.1 (by omega)
  have hlen := hung_length m up p x
  have e1 : Ev (fun k => spec_TreeOk.f k m) true := t1.elim (fun h => h.2) (fun h => absurd ct h.1)
  have e2 : Ev (fun k => impl_TreeOk.f k m) true := t2.elim (fun h => h.2) (fun h => absurd ct h.1)
  have hall : (0 ≤ up ∧ up < (m.length : Int)) ∧ m.length < 1000000 ∧ x.f3.length < 4398046511104 ∧ x.f6.length < 17592186044416 ∧ (rd_T44 m up).f6.length < 1759218604441 := ⟨cu, by omega, hx3, hx6, by omega⟩
  have hall2 : x.f3.length < 4398046511104 ∧ (rd_T44 m up).f6.length < 17592186044415 := ⟨hx3, by omega⟩
  have h3 := (OKT_both (hung m up p x) (by omega) (SM_of hSM)).1.iff (OKT_hung (p := p) (x := x) ct cu.1 cu.2 cn)
  rcases h3 with ⟨q, e3⟩ | ⟨q, e3⟩
  ·refine ⟨(hung m up p x, (m.length : Int)), ?_, ?_, by show (hung m up p x).length ≤ _; omega, hSM⟩
   ·unfold spec_Add.f
    refine Ev.bind e1 (Ev.bind hcp ?_)
    simp only [if_pos hb, if_true, if_pos cu, if_neg cn, if_pos hall]
    refine Ev.bind e3 ?_
    simp only [if_true]
    exact Ev.now _
   ·unfold impl_Add.f
    simp only [if_pos hcd]
    have e4 : Ev (fun k => impl_itemOk.f k x.f0 x.f1 x.f2 x.f3 x.f4 x.f5 []) true := hit.elim (fun h => h.2) (fun h => absurd q.1 h.1)
    refine Ev.bind e4 ?_
    simp only [if_true, if_pos (show m.length < 3000 by omega), if_pos cu, hasKids_is, Option.bind_some, decide_eq_true q.2]
    refine Ev.bind e2 ?_
    simp only [if_true, if_pos hall2]
    exact Ev.now _
  ·refine ⟨(m, -1), ?_, ?_, hm, hs⟩
   ·unfold spec_Add.f
    refine Ev.bind e1 (Ev.bind hcp ?_)
    simp only [if_pos hb, if_true, if_pos cu, if_neg cn, if_pos hall]
    refine Ev.bind e3 ?_
    simp only [Bool.false_eq_true, if_false]
    exact Ev.now _
   ·unfold impl_Add.f
    simp only [if_pos hcd]
    rcases hit with ⟨q4, e4⟩ | ⟨q4, e4⟩
    ·refine Ev.bind e4 ?_
     have : ¬ ((rd_T44 m up).f0 = 1 ∨ (rd_T44 m up).f0 = 2) := fun h => q ⟨q4, h⟩
     simp only [if_true, if_pos (show m.length < 3000 by omega), if_pos cu, hasKids_is, Option.bind_some, decide_eq_false this, Bool.false_eq_true, if_false]
     exact Ev.now _
    ·refine Ev.bind e4 ?_
     simp only [Bool.false_eq_true, if_false]
     exact Ev.now _
 ·refine ⟨(m, -1), ?_, ?_, hm, hs⟩
  ·unfold spec_Add.f
   rcases t1 with ⟨ct, e1⟩ | ⟨ct, e1⟩
   ·refine Ev.bind e1 (Ev.bind hcp ?_)
    simp only [if_pos hb, if_true]
    by_cases cu : 0 ≤ up ∧ up < (m.length : Int)
    ·have cn : m.length = 3000 := Classical.byContradiction fun h => c ⟨ct, cu, h⟩
     simp only [if_pos cu, if_pos cn]
     exact Ev.now _
    ·simp only [if_neg cu]
     exact Ev.now _
   ·refine Ev.bind e1 (Ev.bind hcp ?_)
    simp only [if_pos hb, Bool.false_eq_true, if_false]
    exact Ev.now _
  ·unfold impl_Add.f
   simp only [if_pos hcd]
   rcases hit with ⟨q4, e4⟩ | ⟨q4, e4⟩
   ·refine Ev.bind e4 ?_
    simp only [if_true]
    by_cases cl : m.length < 3000
    ·simp only [if_pos cl]
     by_cases cu : 0 ≤ up ∧ up < (m.length : Int)
     ·simp only [if_pos cu, hasKids_is, Option.bind_some]
      by_cases ck : (rd_T44 m up).f0 = 1 ∨ (rd_T44 m up).f0 = 2
      ·simp only [decide_eq_true ck, if_true]
       have ct : ¬ OKT m := fun h => c ⟨h, cu, by omega⟩
       have e2 : Ev (fun k => impl_TreeOk.f k m) false := t2.elim (fun h => absurd h.1 ct) (fun h => h.2)
       refine Ev.bind e2 ?_
       simp only [Bool.false_eq_true, if_false]
       exact Ev.now _
      ·simp only [decide_eq_false ck, Bool.false_eq_true, if_false]
       exact Ev.now _
     ·simp only [if_neg cu]
      exact Ev.now _
    ·simp only [if_neg cl]
     exact Ev.now _
   ·refine Ev.bind e4 ?_
    simp only [Bool.false_eq_true, if_false]
    exact Ev.now _
theorem markItem_ev (x : S44) (c : Int) (h3 : x.f3.length ≤ 1048576) (h6 : x.f6.length ≤ 1048576) (h0 : 0 ≤ c) (h1 : c ≤ 5000000000000) : ∃ r, Ev (fun k => laws_markItem.f k x.f0 x.f1 x.f2 x.f3 x.f4 x.f5 x.f6 c) (c + 2 * x.f3.length + x.f6.length, r) := by
 unfold laws_markItem.f
 have a := markAttrS_ev x.f3 c h3 h0 (by omega)
 have b := markIntS_ev x.f6 (c + 2 * x.f3.length) (by omega) (by omega) (by omega)
 exact ⟨_, Ev.bind a (Ev.bind b (Ev.now _))⟩
theorem FnExactAdd (l : List S36) (up p : Int) (b0 b1 : Int) (b2 : ByteArray) (l3 : List S89) (b4 : ByteArray) (b5 : Int) (l6 : List Int) (h : l.length ≤ 9223372036854775807) (hg : ∀ x ∈ l, GI x) (hi : b2.size ≤ 9223372036854775807 ∧ (l3.length ≤ 9223372036854775807 ∧ ∀ a ∈ l3, a.f0.size ≤ 9223372036854775807 ∧ a.f1.size ≤ 9223372036854775807) ∧ b4.size ≤ 9223372036854775807 ∧ l6.length ≤ 9223372036854775807) : ∃ q, laws_FnExactAdd.f q l up p b0 b1 b2 l3 b4 b5 l6 = some true := by
 refine Ev.rounds (r := true) ?_
 unfold laws_FnExactAdd.f
 obtain ⟨t, et, hr⟩ := szItemS_ex l h hg
 refine Ev.bind et ?_
 by_cases c : t < 0
 ·simp only [if_pos c]; exact Ev.now _
 simp only [if_neg c]
 obtain ⟨ht0, ht1, hl, hL⟩ : 0 ≤ t ∧ t ≤ 1048576 ∧ l.length ≤ 1048576 ∧ ∀ x ∈ l, LI x := by
  rcases hr with hr | hr
  ·exact absurd hr c
  ·exact hr
 obtain ⟨u, eu, hru⟩ := szItem_ex (⟨b0, b1, b2, l3, b4, b5, l6⟩ : S36) ⟨hi.1, hi.2.1, hi.2.2.1, hi.2.2.2⟩ t ht0 ht1
 refine Ev.bind eu ?_
 by_cases cu : u < 0
 ·simp only [if_pos cu]; exact Ev.now _
 simp only [if_neg cu]
 have hLI : LI (⟨b0, b1, b2, l3, b4, b5, l6⟩ : S36) := by
  rcases hru with hru | hru
  ·exact absurd hru cu
  ·exact hru.2.2
 have tm := toItemS_ev l hl hL
 have tx := toItem_ev (⟨b0, b1, b2, l3, b4, b5, l6⟩ : S36) hLI
 refine Ev.bind tm (Ev.bind tx ?_)
 have hm : (l.map cI).length ≤ 1048576 := by rw [List.length_map]; exact hl
 have hs : ∀ y ∈ l.map cI, SMx y := fun y hy => by
  obtain ⟨z, hz, rfl⟩ := List.mem_map.1 hy
  have := hL z hz
  exact ⟨by show (z.f3.map cA).length ≤ _; rw [List.length_map]; exact this.1, this.2.1⟩
 have hx : SMx (⟨b0, b1, b2, l3.map cA, b4, b5, l6⟩ : S44) := ⟨by show (l3.map cA).length ≤ _; rw [List.length_map]; exact hLI.1, hLI.2.1⟩
 obtain ⟨⟨g1, g2⟩, e1, e2, hgl, hgs⟩ := Add_both (l.map cI) up p (⟨b0, b1, b2, l3.map cA, b4, b5, l6⟩ : S44) hm hs hx
 refine Ev.bind e1 (Ev.bind e2 ?_)
 have q1 : Ev (fun k => laws_eqItemS.f k g1 g1) true := eqItemS_same g1 (by have : g1.length ≤ 1048576 := hgl; omega) (fun y hy => by have := hgs y hy; exact ⟨by have := this.1; omega, by have := this.2; omega⟩)
 have q2 := eqItemS_same (l.map cI) (by omega) (copied_small l hL)
 have q3 := eqItem_same (⟨b0, b1, b2, l3.map cA, b4, b5, l6⟩ : S44) (by have := hx.1; omega) (by have := hx.2; omega)
 have m0 := markItemS_ev (l.map cI) 1 hm hs (by omega) (by omega)
 have hc := MIc_le (l.map cI) 1 hs (by omega)
 obtain ⟨r1, m1⟩ := markItem_ev (⟨b0, b1, b2, l3.map cA, b4, b5, l6⟩ : S44) (MIc (l.map cI) 1) hx.1 hx.2 (by omega) (by omega)
 have m2 : Ev (fun k => laws_markItemS.f k g1 1) (MIc g1 1, MIl g1 1) := markItemS_ev g1 1 hgl hgs (by omega) (by have : g1.length ≤ 1048576 := hgl; omega)
 have hc2 := MIc_le g1 1 hgs (by omega)
 have m3 : Ev (fun k => laws_heldItemS.f k (MIl g1 1) 1) (MIc g1 1) := heldItemS_ev g1 1 hgl hgs (by omega) (by have : g1.length ≤ 1048576 := hgl; omega)
 obtain ⟨K1, k1⟩ := q1
 obtain ⟨K2, k2⟩ := q2
 obtain ⟨K3, k3⟩ := q3
 obtain ⟨K4, k4⟩ := m0
 obtain ⟨K5, k5⟩ := m1
 obtain ⟨K6, k6⟩ := m2
 obtain ⟨K7, k7⟩ := m3
 refine ⟨K1 + K2 + K3 + K4 + K5 + K6 + K7, fun k hk => ?_⟩
 have f1 := k1 k (by omega)
 have f2 := k2 k (by omega)
 have f3 := k3 k (by omega)
 have f4 := k4 k (by omega)
 have f5 := k5 k (by omega)
 have f6 := k6 k (by omega)
 have f7 := k7 k (by omega)
 simp only [] at f1 f2 f3 f4 f5 f6 f7 ⊢
 have hca : True ∧ laws_eqItemS.f k g1 g1 = some true ∧ laws_eqItemS.f k (l.map cI) (l.map cI) = some true ∧ laws_eqItem.f k b0 b1 b2 (l3.map cA) b4 b5 l6 b0 b1 b2 (l3.map cA) b4 b5 l6 = some true := ⟨trivial, f1, f2, f3⟩
 rw [if_pos hca, f4, Option.bind_some, f5, Option.bind_some, if_pos (by omega), f6, Option.bind_some, if_pos ⟨f7, by omega⟩]
end Go.Proofs.Ytbgedpicfllclaa.Pure
