/- The statement of FnExactTableOpen, over the printed functions: it is true for every input within memory. -/
import Derived.Test.YtedeliggbjbngaaPFnExactTableOpenx0
import Derived.Test.YtedeliggbjbngaaPFnExactTableOpenx1
import Derived.Test.YtedeliggbjbngaaPFnExactTableOpenx2
import Derived.Test.YtedeliggbjbngaaPFnExactTableOpenx3
import Derived.Test.YtedeliggbjbngaaPFnExactTableOpenx4
namespace Go.Proofs.Ytedeliggbjbngaa.Pure
open Go.RowKit Go.Proofs.Ytedeliggbjbngaa.PFnExactTableOpen Go.Proofs.YtedeliggbjbngaaW.PrintWords Go.Proofs.YtedeliggbjbngaaW.PrintLast
set_option linter.unusedVariables false
set_option linter.unusedSimpArgs false

theorem Ev.yes {α : Type} {g : Nat → Option α} {r : α} (h : ∀ k, g k = some r) : Ev g r := ⟨0, fun k _ => h k⟩
theorem Ev.at1 {α : Type} {g : Nat → Option α} {r : α} (h : ∀ k, g (k + 1) = some r) : Ev g r := Ev.step (f := fun _ => some r) h (Ev.now r)
theorem wrap_id (n : Int) (h0 : -9223372036854775808 ≤ n) (h1 : n ≤ 9223372036854775807) : wrap64 n = n := by unfold wrap64; omega

theorem set_mid {α : Type} (pre : List α) (x y : α) (suf : List α) : (pre ++ x :: suf).set ((pre.length : Nat) : Int).toNat y = (pre ++ [y]) ++ suf := by
  rw [Int.toNat_natCast]
  simp
theorem next_at (n : Nat) (h : n ≤ 2000000000000) : wrap64 ((n : Int) + 1) = ((n + 1 : Nat) : Int) := by
  rw [wrap_id _ (by omega) (by omega)]
  omega

theorem rd_mid (pre : List Int) (x : Int) (suf : List Int) : rd (pre ++ x :: suf) ((pre.length : Nat) : Int) = x := by
  unfold rd
  rw [Int.toNat_natCast]
  simp
theorem eqIntS_loop : ∀ (suf pre : List Int), (pre ++ suf).length ≤ 2000000000000 → Ev (fun k => laws_eqIntS.l0 k (pre ++ suf) (pre ++ suf) ((pre.length : Nat) : Int)) true
  | [], pre, h => by
    refine Ev.at1 fun k => ?_
    simp only [laws_eqIntS.l0, List.append_nil]
    rw [if_neg (by omega)]
  | x :: suf, pre, h => by
    have hl : (pre ++ x :: suf).length = pre.length + 1 + suf.length := by simp; omega
    have ih := eqIntS_loop suf (pre ++ [x]) (by simp at h ⊢; omega)
    refine Ev.step (f := fun k => laws_eqIntS.l0 k (pre ++ x :: suf) (pre ++ x :: suf) ((pre.length + 1 : Nat) : Int)) (fun k => ?_) ?_
    · simp only [laws_eqIntS.l0]
      rw [if_pos (by omega), if_pos (by omega), if_pos (by omega), if_pos trivial, next_at _ (by omega)]
    · have e : pre ++ [x] ++ suf = pre ++ x :: suf := by simp
      rw [e, List.length_append] at ih
      exact ih
theorem eqIntS_same (l : List Int) (h : l.length ≤ 2000000000000) : Ev (fun k => laws_eqIntS.f k l l) true := by
  unfold laws_eqIntS.f
  simp only [if_true]
  exact eqIntS_loop l [] h

theorem toIntS_loop (l : List Int) (suf : List Int) : ∀ (pre : List Int), l = pre ++ suf → l.length ≤ 1000000000000 →
    Ev (fun k => laws_toIntS.l0 k l (pre ++ List.replicate suf.length 0) ((pre.length : Nat) : Int)) l := by
  induction suf with
  | nil =>
    intro pre hl h
    refine Ev.at1 fun k => ?_
    simp only [laws_toIntS.l0]
    rw [if_neg (by rw [hl]; simp)]
    simp [hl]
  | cons x suf IH =>
    intro pre hl h
    have hn : l.length = pre.length + 1 + suf.length := by rw [hl]; simp; omega
    have ih := IH (pre ++ [x]) (by rw [hl]; simp) h
    refine Ev.step (f := fun k => laws_toIntS.l0 k l (pre ++ [x] ++ List.replicate suf.length 0) ((pre.length + 1 : Nat) : Int)) (fun k => ?_) ?_
    · simp only [laws_toIntS.l0]
      have e : List.replicate (x :: suf).length (0 : Int) = 0 :: List.replicate suf.length 0 := rfl
      have hx : rd l ((pre.length : Nat) : Int) = x := by rw [hl]; exact rd_mid pre x suf
      rw [if_pos (by omega), if_pos (by omega), if_pos (by simp; omega), next_at _ (by omega), hx, e, set_mid]
    · have e2 : (pre ++ [x]).length = pre.length + 1 := by simp
      rw [e2] at ih
      exact ih
theorem toIntS_ev (l : List Int) (h : l.length ≤ 1000000000000) : Ev (fun k => laws_toIntS.f k l) l := by
  unfold laws_toIntS.f
  rw [Int.toNat_natCast]
  simp only [if_pos (show (0 : Int) ≤ (l.length : Int) by omega), if_pos (show l.length ≤ 35184372088832 by omega)]
  exact toIntS_loop l l [] rfl h

-- nested items: sizes, copies, sameness (seats whose argument is a list of items: S64, S86 come in; S45, S79 are the copies)
theorem rdA_mid (pre : List S86) (x : S86) (suf : List S86) : rd_T86 (pre ++ x :: suf) ((pre.length : Nat) : Int) = x := by
  unfold rd_T86
  rw [Int.toNat_natCast]
  simp
theorem rdI_mid (pre : List S64) (x : S64) (suf : List S64) : rd_T64 (pre ++ x :: suf) ((pre.length : Nat) : Int) = x := by
  unfold rd_T64
  rw [Int.toNat_natCast]
  simp
theorem rdA2_mid (pre : List S79) (x : S79) (suf : List S79) : rd_T79 (pre ++ x :: suf) ((pre.length : Nat) : Int) = x := by
  unfold rd_T79
  rw [Int.toNat_natCast]
  simp
theorem rdI2_mid (pre : List S45) (x : S45) (suf : List S45) : rd_T45 (pre ++ x :: suf) ((pre.length : Nat) : Int) = x := by
  unfold rd_T45
  rw [Int.toNat_natCast]
  simp
/-- No text and no row is longer than memory bears. -/
def GA (a : S86) : Prop := a.f0.size ≤ 9223372036854775807 ∧ a.f1.size ≤ 9223372036854775807
def GI (x : S64) : Prop := x.f2.size ≤ 9223372036854775807 ∧ (x.f3.length ≤ 9223372036854775807 ∧ ∀ a ∈ x.f3, GA a) ∧ x.f4.size ≤ 9223372036854775807 ∧ x.f6.length ≤ 9223372036854775807
theorem szIntS_is (l : List Int) (a : Int) (h : l.length ≤ 9223372036854775807) (h0 : 0 ≤ a) (h1 : a ≤ 1048576) : ∃ t, laws_szIntS.f l a = some t ∧ (t < 0 ∨ (0 ≤ t ∧ t ≤ a ∧ l.length ≤ 1048576)) := by
  unfold laws_szIntS.f
  rw [wrap_id (a - (l.length : Int)) (by omega) (by omega)]
  by_cases c : a - (l.length : Int) < 0
  · rw [if_pos c]; exact ⟨_, rfl, .inl (by omega)⟩
  · rw [if_neg c]; exact ⟨_, rfl, .inr ⟨by omega, by omega, by omega⟩⟩
theorem szAttr_is (x y : ByteArray) (a : Int) (hx : x.size ≤ 9223372036854775807) (hy : y.size ≤ 9223372036854775807) (h0 : 0 ≤ a) (h1 : a ≤ 1048576) : ∃ t, laws_szAttr.f x y a = some t ∧ (t < 0 ∨ (0 ≤ t ∧ t ≤ a)) := by
  unfold laws_szAttr.f
  rw [wrap_id (a - (x.size : Int)) (by omega) (by omega)]
  by_cases c : a - (x.size : Int) < 0
  · rw [if_pos c]; exact ⟨_, rfl, .inl (by omega)⟩
  · rw [if_neg c, wrap_id (a - (x.size : Int) - (y.size : Int)) (by omega) (by omega)]
    by_cases c2 : a - (x.size : Int) - (y.size : Int) < 0
    · rw [if_pos c2]; exact ⟨_, rfl, .inl (by omega)⟩
    · rw [if_neg c2]; exact ⟨_, rfl, .inr ⟨by omega, by omega⟩⟩
theorem szAttrS_loop (suf : List S86) : ∀ (pre : List S86) (a : Int), (pre ++ suf).length ≤ 1048576 → (∀ x ∈ suf, GA x) → 0 ≤ a → a ≤ 1048576 →
    ∃ t, Ev (fun k => laws_szAttrS.l0 k (pre ++ suf) a ((pre.length : Nat) : Int)) t ∧ (t < 0 ∨ (0 ≤ t ∧ t ≤ a)) := by
  induction suf with
  | nil =>
    intro pre a h hg h0 h1
    refine ⟨a, Ev.at1 fun k => ?_, .inr ⟨h0, by omega⟩⟩
    simp only [laws_szAttrS.l0, List.append_nil]
    rw [if_neg (by omega)]
  | cons x suf IH =>
    intro pre a h hg h0 h1
    have hl : (pre ++ x :: suf).length = pre.length + 1 + suf.length := by simp; omega
    have hx := hg x (List.mem_cons_self ..)
    obtain ⟨t, ht, hr⟩ := szAttr_is x.f0 x.f1 a hx.1 hx.2 h0 h1
    have st : ∀ k, laws_szAttrS.l0 (k + 1) (pre ++ x :: suf) a ((pre.length : Nat) : Int) = if t < 0 then some (-1) else laws_szAttrS.l0 k (pre ++ x :: suf) t ((pre.length + 1 : Nat) : Int) := fun k => by
      simp only [laws_szAttrS.l0]
      rw [if_pos (by omega), if_pos (by omega), rdA_mid, ht, next_at _ (by omega)]
      rfl
    by_cases c : t < 0
    · exact ⟨-1, Ev.at1 fun k => by rw [st, if_pos c], .inl (by omega)⟩
    · obtain ⟨t2, e2, hr2⟩ := IH (pre ++ [x]) t (by simp at h ⊢; omega) (fun y hy => hg y (List.mem_cons_of_mem _ hy)) (by omega) (by omega)
      have e : pre ++ [x] ++ suf = pre ++ x :: suf := by simp
      rw [e, List.length_append] at e2
      refine ⟨t2, Ev.step (fun k => ?_) e2, ?_⟩
      · rw [st, if_neg c]; rfl
      · rcases hr2 with hr2 | ⟨a1, a2⟩
        · exact .inl hr2
        · exact .inr ⟨a1, by omega⟩
theorem szAttrS_ex (l : List S86) (a : Int) (h : l.length ≤ 9223372036854775807) (hg : ∀ x ∈ l, GA x) (h0 : 0 ≤ a) (h1 : a ≤ 1048576) : ∃ t, Ev (fun k => laws_szAttrS.f k l a) t ∧ (t < 0 ∨ (0 ≤ t ∧ t ≤ a ∧ l.length ≤ 1048576)) := by
  unfold laws_szAttrS.f
  rw [wrap_id (a - (l.length : Int)) (by omega) (by omega)]
  by_cases c : a - (l.length : Int) < 0
  · simp only [if_pos c]; exact ⟨_, Ev.now _, .inl (by omega)⟩
  · simp only [if_neg c]
    obtain ⟨t, e, hr⟩ := szAttrS_loop l [] (a - (l.length : Int)) (by simp; omega) hg (by omega) (by omega)
    refine ⟨t, e, ?_⟩
    rcases hr with hr | ⟨a1, a2⟩
    · exact .inl hr
    · exact .inr ⟨a1, by omega, by omega⟩
/-- What is counted within the bound. -/
def LI (x : S64) : Prop := x.f3.length ≤ 1048576 ∧ x.f6.length ≤ 1048576 ∧ x.f2.size ≤ 1048576 ∧ x.f4.size ≤ 1048576
theorem szItem_ex (x : S64) (hg : GI x) (a : Int) (h0 : 0 ≤ a) (h1 : a ≤ 1048576) : ∃ t, Ev (fun k => laws_szItem.f k x.f0 x.f1 x.f2 x.f3 x.f4 x.f5 x.f6 a) t ∧ (t < 0 ∨ (0 ≤ t ∧ t ≤ a ∧ LI x)) := by
  obtain ⟨g2, ⟨g3, g3a⟩, g4, g6⟩ := hg
  unfold laws_szItem.f
  rw [wrap_id (a - (x.f2.size : Int)) (by omega) (by omega)]
  by_cases c : a - (x.f2.size : Int) < 0
  · simp only [if_pos c]; exact ⟨_, Ev.now _, .inl (by omega)⟩
  · simp only [if_neg c]
    obtain ⟨t, e, hr⟩ := szAttrS_ex x.f3 (a - (x.f2.size : Int)) g3 g3a (by omega) (by omega)
    by_cases c2 : t < 0
    · refine ⟨-1, Ev.bind e ?_, .inl (by omega)⟩
      simp only [if_pos c2]; exact Ev.now _
    · have hw : wrap64 (t - (x.f4.size : Int)) = t - (x.f4.size : Int) := wrap_id _ (by omega) (by omega)
      by_cases c3 : t - (x.f4.size : Int) < 0
      · refine ⟨-1, Ev.bind e ?_, .inl (by omega)⟩
        simp only [if_neg c2, hw, if_pos c3]; exact Ev.now _
      · obtain ⟨t2, e2, hr2⟩ := szIntS_is x.f6 (t - (x.f4.size : Int)) g6 (by omega) (by omega)
        by_cases c4 : t2 < 0
        · refine ⟨-1, Ev.bind e ?_, .inl (by omega)⟩
          simp only [if_neg c2, hw, if_neg c3, e2, Option.bind_some, if_pos c4]; exact Ev.now _
        · refine ⟨t2, Ev.bind e ?_, .inr ⟨by omega, by omega, by omega, by omega, by omega, by omega⟩⟩
          simp only [if_neg c2, hw, if_neg c3, e2, Option.bind_some, if_neg c4]; exact Ev.now _
theorem szItemS_loop (suf : List S64) : ∀ (pre : List S64) (a : Int), (pre ++ suf).length ≤ 1048576 → (∀ x ∈ suf, GI x) → 0 ≤ a → a ≤ 1048576 →
    ∃ t, Ev (fun k => laws_szItemS.l0 k (pre ++ suf) a ((pre.length : Nat) : Int)) t ∧ (t < 0 ∨ (0 ≤ t ∧ t ≤ a ∧ ∀ x ∈ suf, LI x)) := by
  induction suf with
  | nil =>
    intro pre a h hg h0 h1
    refine ⟨a, Ev.at1 fun k => ?_, .inr ⟨h0, by omega, by simp⟩⟩
    simp only [laws_szItemS.l0, List.append_nil]
    rw [if_neg (by omega)]
  | cons x suf IH =>
    intro pre a h hg h0 h1
    have hl : (pre ++ x :: suf).length = pre.length + 1 + suf.length := by simp; omega
    obtain ⟨t, et, hr⟩ := szItem_ex x (hg x (List.mem_cons_self ..)) a h0 h1
    have st : ∀ k, laws_szItemS.l0 (k + 1) (pre ++ x :: suf) a ((pre.length : Nat) : Int) = (laws_szItem.f k x.f0 x.f1 x.f2 x.f3 x.f4 x.f5 x.f6 a).bind fun t => if t < 0 then some (-1) else laws_szItemS.l0 k (pre ++ x :: suf) t ((pre.length + 1 : Nat) : Int) := fun k => by
      simp only [laws_szItemS.l0]
      rw [if_pos (by omega), if_pos (by omega), rdI_mid, next_at _ (by omega)]
    by_cases c : t < 0
    · refine ⟨-1, Ev.step st (Ev.bind et ?_), .inl (by omega)⟩
      simp only [if_pos c]; exact Ev.now _
    · obtain ⟨t2, e2, hr2⟩ := IH (pre ++ [x]) t (by simp at h ⊢; omega) (fun y hy => hg y (List.mem_cons_of_mem _ hy)) (by omega) (by omega)
      have e : pre ++ [x] ++ suf = pre ++ x :: suf := by simp
      rw [e, List.length_append] at e2
      refine ⟨t2, Ev.step st (Ev.bind et ?_), ?_⟩
      · simp only [if_neg c]; exact e2
      · rcases hr2 with hr2 | ⟨a1, a2, a3⟩
        · exact .inl hr2
        · refine .inr ⟨a1, by omega, fun y hy => ?_⟩
          rcases List.mem_cons.1 hy with rfl | hy
          · rcases hr with hr | hr
            · exact absurd hr c
            · exact hr.2.2
          · exact a3 y hy
theorem szItemS_ex (l : List S64) (h : l.length ≤ 9223372036854775807) (hg : ∀ x ∈ l, GI x) : ∃ t, Ev (fun k => laws_szItemS.f k l 1048576) t ∧ (t < 0 ∨ (0 ≤ t ∧ t ≤ 1048576 ∧ l.length ≤ 1048576 ∧ ∀ x ∈ l, LI x)) := by
  unfold laws_szItemS.f
  rw [wrap_id (1048576 - (l.length : Int)) (by omega) (by omega)]
  by_cases c : 1048576 - (l.length : Int) < 0
  · simp only [if_pos c]; exact ⟨_, Ev.now _, .inl (by omega)⟩
  · simp only [if_neg c]
    obtain ⟨t, e, hr⟩ := szItemS_loop l [] (1048576 - (l.length : Int)) (by simp; omega) hg (by omega) (by omega)
    refine ⟨t, e, ?_⟩
    rcases hr with hr | ⟨a1, a2, a3⟩
    · exact .inl hr
    · exact .inr ⟨a1, by omega, by omega, a3⟩
/-! the copies -/
def cA (x : S86) : S79 := ⟨x.f0, x.f1⟩
def cI (x : S64) : S45 := ⟨x.f0, x.f1, x.f2, x.f3.map cA, x.f4, x.f5, x.f6⟩
theorem toAttrS_loop (l : List S86) (suf : List S86) : ∀ (pre : List S86), l = pre ++ suf → l.length ≤ 1048576 →
    Ev (fun k => laws_toAttrS.l0 k l (pre.map cA ++ List.replicate suf.length z79) ((pre.length : Nat) : Int)) (l.map cA) := by
  induction suf with
  | nil =>
    intro pre hl h
    refine Ev.at1 fun k => ?_
    simp only [laws_toAttrS.l0]
    rw [if_neg (by rw [hl]; simp)]
    simp [hl]
  | cons x suf IH =>
    intro pre hl h
    have hn : l.length = pre.length + 1 + suf.length := by rw [hl]; simp; omega
    have ih := IH (pre ++ [x]) (by rw [hl]; simp) h
    refine Ev.step (f := fun k => laws_toAttrS.l0 k l (pre.map cA ++ [cA x] ++ List.replicate suf.length z79) ((pre.length + 1 : Nat) : Int)) (fun k => ?_) ?_
    · simp only [laws_toAttrS.l0]
      have e : List.replicate (x :: suf).length z79 = z79 :: List.replicate suf.length z79 := rfl
      have hx : rd_T86 l ((pre.length : Nat) : Int) = x := by rw [hl]; exact rdA_mid pre x suf
      have hs := set_mid (pre.map cA) z79 (cA x) (List.replicate suf.length z79)
      rw [List.length_map] at hs
      rw [if_pos (by omega), if_pos (by omega), hx, e]
      unfold laws_toAttr.f
      simp only [Option.bind_some]
      rw [if_pos (by simp; omega), next_at _ (by omega)]
      show laws_toAttrS.l0 k l ((pre.map cA ++ z79 :: List.replicate suf.length z79).set _ (cA x)) _ = _
      rw [hs]
    · have e2 : (pre ++ [x]).length = pre.length + 1 := by simp
      rw [e2, List.map_append] at ih
      exact ih
theorem toAttrS_ev (l : List S86) (h : l.length ≤ 1048576) : Ev (fun k => laws_toAttrS.f k l) (l.map cA) := by
  unfold laws_toAttrS.f
  rw [Int.toNat_natCast]
  simp only [if_pos (show (0 : Int) ≤ (l.length : Int) by omega), if_pos (show l.length ≤ 8796093022208 by omega)]
  exact toAttrS_loop l l [] rfl h
theorem toItem_ev (x : S64) (h : LI x) : Ev (fun k => laws_toItem.f k x.f0 x.f1 x.f2 x.f3 x.f4 x.f5 x.f6) (x.f0, x.f1, x.f2, x.f3.map cA, x.f4, x.f5, x.f6) := by
  unfold laws_toItem.f
  exact Ev.bind (toAttrS_ev x.f3 h.1) (Ev.bind (toIntS_ev x.f6 (by have := h.2; omega)) (Ev.now _))
theorem toItemS_loop (l : List S64) (suf : List S64) : ∀ (pre : List S64), l = pre ++ suf → l.length ≤ 1048576 → (∀ x ∈ suf, LI x) →
    Ev (fun k => laws_toItemS.l0 k l (pre.map cI ++ List.replicate suf.length z45) ((pre.length : Nat) : Int)) (l.map cI) := by
  induction suf with
  | nil =>
    intro pre hl h hg
    refine Ev.at1 fun k => ?_
    simp only [laws_toItemS.l0]
    rw [if_neg (by rw [hl]; simp)]
    simp [hl]
  | cons x suf IH =>
    intro pre hl h hg
    have hn : l.length = pre.length + 1 + suf.length := by rw [hl]; simp; omega
    have ih := IH (pre ++ [x]) (by rw [hl]; simp) h (fun y hy => hg y (List.mem_cons_of_mem _ hy))
    have hx : rd_T64 l ((pre.length : Nat) : Int) = x := by rw [hl]; exact rdI_mid pre x suf
    refine Ev.step (f := fun k => (laws_toItem.f k x.f0 x.f1 x.f2 x.f3 x.f4 x.f5 x.f6).bind fun b => laws_toItemS.l0 k l (pre.map cI ++ [(⟨b.1, b.2.1, b.2.2.1, b.2.2.2.1, b.2.2.2.2.1, b.2.2.2.2.2.1, b.2.2.2.2.2.2⟩ : S45)] ++ List.replicate suf.length z45) ((pre.length + 1 : Nat) : Int)) (fun k => ?_) (Ev.bind (toItem_ev x (hg x (List.mem_cons_self ..))) ?_)
    · simp only [laws_toItemS.l0]
      have e : List.replicate (x :: suf).length z45 = z45 :: List.replicate suf.length z45 := rfl
      rw [if_pos (by omega), if_pos (by omega), hx, e]
      congr 1
      funext b
      have hs := set_mid (pre.map cI) z45 (⟨b.1, b.2.1, b.2.2.1, b.2.2.2.1, b.2.2.2.2.1, b.2.2.2.2.2.1, b.2.2.2.2.2.2⟩ : S45) (List.replicate suf.length z45)
      rw [List.length_map] at hs
      rw [if_pos (by simp; omega), next_at _ (by omega), hs]
    · have e2 : (pre ++ [x]).length = pre.length + 1 := by simp
      rw [e2, List.map_append] at ih
      exact ih
theorem toItemS_ev (l : List S64) (h : l.length ≤ 1048576) (hg : ∀ x ∈ l, LI x) : Ev (fun k => laws_toItemS.f k l) (l.map cI) := by
  unfold laws_toItemS.f
  rw [Int.toNat_natCast]
  simp only [if_pos (show (0 : Int) ≤ (l.length : Int) by omega), if_pos (show l.length ≤ 2706490160679 by omega)]
  exact toItemS_loop l l [] rfl h hg
/-! the sameness -/
theorem eqAttrS_loop (suf : List S79) : ∀ (pre : List S79), (pre ++ suf).length ≤ 2000000000000 → Ev (fun k => laws_eqAttrS.l0 k (pre ++ suf) (pre ++ suf) ((pre.length : Nat) : Int)) true := by
  induction suf with
  | nil =>
    intro pre h
    refine Ev.at1 fun k => ?_
    simp only [laws_eqAttrS.l0, List.append_nil]
    rw [if_neg (by omega)]
  | cons x suf IH =>
    intro pre h
    have hl : (pre ++ x :: suf).length = pre.length + 1 + suf.length := by simp; omega
    have ih := IH (pre ++ [x]) (by simp at h ⊢; omega)
    refine Ev.step (f := fun k => laws_eqAttrS.l0 k (pre ++ x :: suf) (pre ++ x :: suf) ((pre.length + 1 : Nat) : Int)) (fun k => ?_) ?_
    · simp only [laws_eqAttrS.l0]
      rw [if_pos (by omega), if_pos (by omega), if_pos (by omega), rdA2_mid, next_at _ (by omega)]
      unfold laws_eqAttr.f
      simp only [if_true, Option.bind_some]
    · have e : pre ++ [x] ++ suf = pre ++ x :: suf := by simp
      rw [e, List.length_append] at ih
      exact ih
theorem eqAttrS_same (l : List S79) (h : l.length ≤ 2000000000000) : Ev (fun k => laws_eqAttrS.f k l l) true := by
  unfold laws_eqAttrS.f
  simp only [if_true]
  exact eqAttrS_loop l [] h
theorem eqItem_same (x : S45) (h3 : x.f3.length ≤ 2000000000000) (h6 : x.f6.length ≤ 2000000000000) : Ev (fun k => laws_eqItem.f k x.f0 x.f1 x.f2 x.f3 x.f4 x.f5 x.f6 x.f0 x.f1 x.f2 x.f3 x.f4 x.f5 x.f6) true := by
  unfold laws_eqItem.f
  simp only [if_true]
  refine Ev.bind (eqAttrS_same x.f3 h3) ?_
  simp only [if_true]
  refine Ev.bind (eqIntS_same x.f6 h6) ?_
  simp only [if_true]
  exact Ev.now _
theorem eqItemS_loop (suf : List S45) : ∀ (pre : List S45), (pre ++ suf).length ≤ 2000000000000 → (∀ x ∈ suf, x.f3.length ≤ 2000000000000 ∧ x.f6.length ≤ 2000000000000) → Ev (fun k => laws_eqItemS.l0 k (pre ++ suf) (pre ++ suf) ((pre.length : Nat) : Int)) true := by
  induction suf with
  | nil =>
    intro pre h hg
    refine Ev.at1 fun k => ?_
    simp only [laws_eqItemS.l0, List.append_nil]
    rw [if_neg (by omega)]
  | cons x suf IH =>
    intro pre h hg
    have hl : (pre ++ x :: suf).length = pre.length + 1 + suf.length := by simp; omega
    have ih := IH (pre ++ [x]) (by simp at h ⊢; omega) (fun y hy => hg y (List.mem_cons_of_mem _ hy))
    have hx := hg x (List.mem_cons_self ..)
    refine Ev.step (f := fun k => (laws_eqItem.f k x.f0 x.f1 x.f2 x.f3 x.f4 x.f5 x.f6 x.f0 x.f1 x.f2 x.f3 x.f4 x.f5 x.f6).bind fun t => (if t = true then laws_eqItemS.l0 k (pre ++ x :: suf) (pre ++ x :: suf) ((pre.length + 1 : Nat) : Int) else some false)) (fun k => ?_) (Ev.bind (eqItem_same x hx.1 hx.2) ?_)
    · simp only [laws_eqItemS.l0]
      rw [if_pos (by omega), if_pos (by omega), if_pos (by omega), rdI2_mid, next_at _ (by omega)]
    · simp only [if_true]
      have e : pre ++ [x] ++ suf = pre ++ x :: suf := by simp
      rw [e, List.length_append] at ih
      exact ih
theorem eqItemS_same (l : List S45) (h : l.length ≤ 2000000000000) (hg : ∀ x ∈ l, x.f3.length ≤ 2000000000000 ∧ x.f6.length ≤ 2000000000000) : Ev (fun k => laws_eqItemS.f k l l) true := by
  unfold laws_eqItemS.f
  simp only [if_true]
  exact eqItemS_loop l [] h hg
theorem copied_small (l : List S64) (h : ∀ x ∈ l, LI x) : ∀ x ∈ l.map cI, x.f3.length ≤ 2000000000000 ∧ x.f6.length ≤ 2000000000000 := by
  intro x hx
  obtain ⟨y, hy, rfl⟩ := List.mem_map.1 hx
  have := h y hy
  obtain ⟨h1, h2⟩ := this
  refine ⟨?_, ?_⟩
  · show (y.f3.map cA).length ≤ _
    rw [List.length_map]; omega
  · show y.f6.length ≤ _
    omega

theorem szPage_ex (l : List S64) (o f : List Int) (a b : Int) (hl : l.length ≤ 9223372036854775807) (ho : o.length ≤ 9223372036854775807) (hf : f.length ≤ 9223372036854775807) (hg : ∀ x ∈ l, GI x) :
    ∃ t, Ev (fun k => laws_szPage.f k l o f a b 1048576) t ∧ (t < 0 ∨ (0 ≤ t ∧ l.length ≤ 1048576 ∧ o.length ≤ 1048576 ∧ f.length ≤ 1048576 ∧ ∀ x ∈ l, LI x)) := by
  unfold laws_szPage.f
  obtain ⟨t, e, hr⟩ := szItemS_ex l hl hg
  by_cases c : t < 0
  · refine ⟨-1, Ev.bind e ?_, .inl (by omega)⟩
    simp only [if_pos c]; exact Ev.now _
  · obtain ⟨h0, h1, h2, h3⟩ : 0 ≤ t ∧ t ≤ 1048576 ∧ l.length ≤ 1048576 ∧ ∀ x ∈ l, LI x := by
      rcases hr with hr | hr
      · exact absurd hr c
      · exact hr
    obtain ⟨t2, e2, hr2⟩ := szIntS_is o t ho h0 h1
    by_cases c2 : t2 < 0
    · refine ⟨-1, Ev.bind e ?_, .inl (by omega)⟩
      simp only [if_neg c, e2, Option.bind_some, if_pos c2]; exact Ev.now _
    · obtain ⟨t3, e3, hr3⟩ := szIntS_is f t2 hf (by omega) (by omega)
      by_cases c3 : t3 < 0
      · refine ⟨-1, Ev.bind e ?_, .inl (by omega)⟩
        simp only [if_neg c, e2, Option.bind_some, if_neg c2, e3, if_pos c3]; exact Ev.now _
      · refine ⟨t3, Ev.bind e ?_, .inr ⟨by omega, h2, by omega, by omega, h3⟩⟩
        simp only [if_neg c, e2, Option.bind_some, if_neg c2, e3, if_neg c3]; exact Ev.now _
theorem toPage_ev (l : List S64) (o f : List Int) (a b : Int) (hl : l.length ≤ 1048576) (ho : o.length ≤ 1048576) (hf : f.length ≤ 1048576) (hg : ∀ x ∈ l, LI x) :
    Ev (fun k => laws_toPage.f k l o f a b) (l.map cI, o, f, a, b) := by
  unfold laws_toPage.f
  exact Ev.bind (toItemS_ev l hl hg) (Ev.bind (toIntS_ev o (by omega)) (Ev.bind (toIntS_ev f (by omega)) (Ev.now _)))
theorem eqPage_same (l : List S64) (o f : List Int) (a b : Int) (hl : l.length ≤ 1048576) (ho : o.length ≤ 1048576) (hf : f.length ≤ 1048576) (hg : ∀ x ∈ l, LI x) :
    Ev (fun k => laws_eqPage.f k (l.map cI) o f a b (l.map cI) o f a b) true := by
  unfold laws_eqPage.f
  refine Ev.bind (eqItemS_same (l.map cI) (by rw [List.length_map]; omega) (copied_small l hg)) ?_
  simp only [if_true]
  refine Ev.bind (eqIntS_same o (by omega)) ?_
  simp only [if_true]
  refine Ev.bind (eqIntS_same f (by omega)) ?_
  simp only [if_true]
  exact Ev.now _

/-- The name of what is open at a place, or none. -/
def NM (l : List S45) (o : List Int) (k : Int) : ByteArray := if 0 ≤ k ∧ k < o.length ∧ 0 ≤ rd o k ∧ rd o k < l.length then (rd_T45 l (rd o k)).f2 else (⟨#[]⟩ : ByteArray)
theorem spec_name_is (l : List S45) (o f : List Int) (a b k : Int) : spec_l8Name.f l o f a b k = some (NM l o k) := by
  unfold spec_l8Name.f NM
  by_cases c1 : k < 0
  · rw [if_pos c1, if_neg (by omega)]
  · rw [if_neg c1]
    by_cases c2 : k ≥ (o.length : Int)
    · rw [if_pos c2, if_neg (by omega)]
    · rw [if_neg c2, if_pos (by omega), if_pos (by omega)]
      by_cases c3 : rd o k < 0
      · rw [if_pos c3, if_neg (by omega)]
      · rw [if_neg c3]
        by_cases c4 : rd o k ≥ (l.length : Int)
        · rw [if_pos c4, if_neg (by omega)]
        · rw [if_neg c4, if_pos (by omega), if_pos (by omega), if_pos (by omega)]
theorem NM_at (l : List S45) (o : List Int) (n : Nat) (h : n < o.length) : NM l o (n : Int) = nameAt l o (n : Int) := by
  unfold NM nameAt
  by_cases c : 0 ≤ rd o (n : Int) ∧ rd o (n : Int) < (l.length : Int)
  · rw [if_pos c, if_pos ⟨by omega, by omega, c.1, c.2⟩]
  · rw [if_neg c, if_neg (fun x => c ⟨x.2.2.1, x.2.2.2⟩)]
theorem l8Find_loop (l : List S45) (o f : List Int) (a b : Int) (u : ByteArray) (ho : o.length ≤ 1048576) : ∀ n : Nat, n ≤ o.length → Ev (fun k => spec_l8Find.l0 k u ((n : Int) - 1) l o f a b) (lastName l o u n) := by
  intro n
  induction n with
  | zero =>
    intro _
    refine Ev.at1 fun k => ?_
    simp only [spec_l8Find.l0]
    rw [if_neg (by omega)]
    rfl
  | succ n ih =>
    intro hn
    have st : ∀ k, spec_l8Find.l0 (k + 1) u (((n + 1 : Nat) : Int) - 1) l o f a b = if (nameAt l o (n : Int)).toList = u.toList then some (n : Int) else spec_l8Find.l0 k u ((n : Int) - 1) l o f a b := fun k => by
      simp only [spec_l8Find.l0]
      rw [show ((n + 1 : Nat) : Int) - 1 = (n : Int) by omega, if_pos (by omega), spec_name_is, Option.bind_some, NM_at l o n (by omega), wrap_id ((n : Int) - 1) (by omega) (by omega)]
    show Ev _ (if ((nameAt l o (n : Int)).toList == u.toList) = true then (n : Int) else lastName l o u n)
    by_cases c : (nameAt l o (n : Int)).toList = u.toList
    · rw [if_pos (beq_iff_eq.mpr c)]
      exact Ev.at1 fun k => by rw [st, if_pos c]
    · rw [if_neg (by rw [beq_iff_eq]; exact c)]
      exact Ev.step (fun k => by rw [st, if_neg c]) (ih (by omega))
theorem l8Find_is (l : List S45) (o f : List Int) (a b : Int) (u : ByteArray) (ho : o.length ≤ 1048576) : Ev (fun k => spec_l8Find.f k l o f a b u) (lastName l o u o.length) := by
  unfold spec_l8Find.f
  rw [wrap_id ((o.length : Int) - 1) (by omega) (by omega)]
  exact l8Find_loop l o f a b u ho o.length (Nat.le_refl _)

theorem FnExactTableOpen (l : List S64) (o f : List Int) (a b : Int) (hl : l.length ≤ 9223372036854775807) (ho : o.length ≤ 9223372036854775807) (hf : f.length ≤ 9223372036854775807) (hg : ∀ x ∈ l, GI x) : ∃ q, laws_FnExactTableOpen.f q l o f a b = some true := by
  refine Ev.rounds (r := true) ?_
  unfold laws_FnExactTableOpen.f
  obtain ⟨t, et, hr⟩ := szPage_ex l o f a b hl ho hf hg
  refine Ev.bind et ?_
  by_cases c : t < 0
  · simp only [if_pos c]; exact Ev.now _
  · simp only [if_neg c]
    obtain ⟨_, hl, ho, hf, hL⟩ : 0 ≤ t ∧ l.length ≤ 1048576 ∧ o.length ≤ 1048576 ∧ f.length ≤ 1048576 ∧ ∀ x ∈ l, LI x := by
      rcases hr with hr | hr
      · exact absurd hr c
      · exact hr
    have tp := toPage_ev l o f a b hl ho hf hL
    have hl2 : (l.map cI).length ≤ 1048576 := by rw [List.length_map]; exact hl
    have e1 : Ev (fun k => spec_TableOpen.f k (l.map cI) o f a b) (lastName (l.map cI) o (⟨#[116, 97, 98, 108, 101]⟩ : ByteArray) o.length) := by
      unfold spec_TableOpen.f
      exact Ev.bind (l8Find_is (l.map cI) o f a b _ ho) (Ev.now _)
    have e2 : impl_TableOpen.f (l.map cI) o f a b = some (lastName (l.map cI) o (⟨#[116, 97, 98, 108, 101]⟩ : ByteArray) o.length) := by
      unfold impl_TableOpen.f
      rw [if_pos ⟨by omega, by omega⟩]
    refine Ev.bind tp (Ev.bind e1 (Ev.bind tp ?_))
    simp only [e2, Option.bind_some, if_true]
    refine Ev.bind tp (Ev.bind (eqPage_same l o f a b hl ho hf hL) ?_)
    simp only [if_true]
    exact Ev.now _

end Go.Proofs.Ytedeliggbjbngaa.Pure
