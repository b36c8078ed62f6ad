/- The statement of FnExactInTable, over the printed functions: it is true for every input within memory. -/
import Derived.Test.YtedeliggbjbngaaPFnExactInTablex5
namespace Go.Proofs.Ytedeliggbjbngaa.Pure
open Go.RowKit Go.Proofs.Ytedeliggbjbngaa.PFnExactInTable Go.Proofs.YtedeliggbjbngaaW.PrintWords Go.Proofs.YtedeliggbjbngaaW.PrintLast
set_option linter.unusedVariables false
set_option linter.unusedSimpArgs false

theorem Ev.yes {α : Type} {g : Nat → Option α} {r : α} (h : ∀ k, g k = some r) : Ev g r := ⟨0, fun k _ => h k⟩
theorem Ev.at1 {α : Type} {g : Nat → Option α} {r : α} (h : ∀ k, g (k + 1) = some r) : Ev g r := Ev.step (f := fun _ => some r) h (Ev.now r)
theorem wrap_id (n : Int) (h0 : -9223372036854775808 ≤ n) (h1 : n ≤ 9223372036854775807) : wrap64 n = n := by unfold wrap64; omega

theorem set_mid {α : Type} (pre : List α) (x y : α) (suf : List α) : (pre ++ x :: suf).set ((pre.length : Nat) : Int).toNat y = (pre ++ [y]) ++ suf := by
  rw [Int.toNat_natCast]
  simp
theorem next_at (n : Nat) (h : n ≤ 2000000000000) : wrap64 ((n : Int) + 1) = ((n + 1 : Nat) : Int) := by
  rw [wrap_id _ (by omega) (by omega)]
  omega

theorem rd_mid (pre : List Int) (x : Int) (suf : List Int) : rd (pre ++ x :: suf) ((pre.length : Nat) : Int) = x := by
  unfold rd
  rw [Int.toNat_natCast]
  simp
theorem eqIntS_loop : ∀ (suf pre : List Int), (pre ++ suf).length ≤ 2000000000000 → Ev (fun k => laws_eqIntS.l0 k (pre ++ suf) (pre ++ suf) ((pre.length : Nat) : Int)) true
  | [], pre, h => by
    refine Ev.at1 fun k => ?_
    simp only [laws_eqIntS.l0, List.append_nil]
    rw [if_neg (by omega)]
  | x :: suf, pre, h => by
    have hl : (pre ++ x :: suf).length = pre.length + 1 + suf.length := by simp; omega
    have ih := eqIntS_loop suf (pre ++ [x]) (by simp at h ⊢; omega)
    refine Ev.step (f := fun k => laws_eqIntS.l0 k (pre ++ x :: suf) (pre ++ x :: suf) ((pre.length + 1 : Nat) : Int)) (fun k => ?_) ?_
    · simp only [laws_eqIntS.l0]
      rw [if_pos (by omega), if_pos (by omega), if_pos (by omega), if_pos trivial, next_at _ (by omega)]
    · have e : pre ++ [x] ++ suf = pre ++ x :: suf := by simp
      rw [e, List.length_append] at ih
      exact ih
theorem eqIntS_same (l : List Int) (h : l.length ≤ 2000000000000) : Ev (fun k => laws_eqIntS.f k l l) true := by
  unfold laws_eqIntS.f
  simp only [if_true]
  exact eqIntS_loop l [] h

theorem toIntS_loop (l : List Int) (suf : List Int) : ∀ (pre : List Int), l = pre ++ suf → l.length ≤ 1000000000000 →
    Ev (fun k => laws_toIntS.l0 k l (pre ++ List.replicate suf.length 0) ((pre.length : Nat) : Int)) l := by
  induction suf with
  | nil =>
    intro pre hl h
    refine Ev.at1 fun k => ?_
    simp only [laws_toIntS.l0]
    rw [if_neg (by rw [hl]; simp)]
    simp [hl]
  | cons x suf IH =>
    intro pre hl h
    have hn : l.length = pre.length + 1 + suf.length := by rw [hl]; simp; omega
    have ih := IH (pre ++ [x]) (by rw [hl]; simp) h
    refine Ev.step (f := fun k => laws_toIntS.l0 k l (pre ++ [x] ++ List.replicate suf.length 0) ((pre.length + 1 : Nat) : Int)) (fun k => ?_) ?_
    · simp only [laws_toIntS.l0]
      have e : List.replicate (x :: suf).length (0 : Int) = 0 :: List.replicate suf.length 0 := rfl
      have hx : rd l ((pre.length : Nat) : Int) = x := by rw [hl]; exact rd_mid pre x suf
      rw [if_pos (by omega), if_pos (by omega), if_pos (by simp; omega), next_at _ (by omega), hx, e, set_mid]
    · have e2 : (pre ++ [x]).length = pre.length + 1 := by simp
      rw [e2] at ih
      exact ih
theorem toIntS_ev (l : List Int) (h : l.length ≤ 1000000000000) : Ev (fun k => laws_toIntS.f k l) l := by
  unfold laws_toIntS.f
  rw [Int.toNat_natCast]
  simp only [if_pos (show (0 : Int) ≤ (l.length : Int) by omega), if_pos (show l.length ≤ 35184372088832 by omega)]
  exact toIntS_loop l l [] rfl h

-- nested items: sizes, copies, sameness (seats whose argument is a list of items: S64, S86 come in; S45, S79 are the copies)
theorem rdA_mid (pre : List S86) (x : S86) (suf : List S86) : rd_T86 (pre ++ x :: suf) ((pre.length : Nat) : Int) = x := by
  unfold rd_T86
  rw [Int.toNat_natCast]
  simp
theorem rdI_mid (pre : List S64) (x : S64) (suf : List S64) : rd_T64 (pre ++ x :: suf) ((pre.length : Nat) : Int) = x := by
  unfold rd_T64
  rw [Int.toNat_natCast]
  simp
theorem rdA2_mid (pre : List S79) (x : S79) (suf : List S79) : rd_T79 (pre ++ x :: suf) ((pre.length : Nat) : Int) = x := by
  unfold rd_T79
  rw [Int.toNat_natCast]
  simp
theorem rdI2_mid (pre : List S45) (x : S45) (suf : List S45) : rd_T45 (pre ++ x :: suf) ((pre.length : Nat) : Int) = x := by
  unfold rd_T45
  rw [Int.toNat_natCast]
  simp
/-- No text and no row is longer than memory bears. -/
def GA (a : S86) : Prop := a.f0.size ≤ 9223372036854775807 ∧ a.f1.size ≤ 9223372036854775807
def GI (x : S64) : Prop := x.f2.size ≤ 9223372036854775807 ∧ (x.f3.length ≤ 9223372036854775807 ∧ ∀ a ∈ x.f3, GA a) ∧ x.f4.size ≤ 9223372036854775807 ∧ x.f6.length ≤ 9223372036854775807
theorem szIntS_is (l : List Int) (a : Int) (h : l.length ≤ 9223372036854775807) (h0 : 0 ≤ a) (h1 : a ≤ 1048576) : ∃ t, laws_szIntS.f l a = some t ∧ (t < 0 ∨ (0 ≤ t ∧ t ≤ a ∧ l.length ≤ 1048576)) := by
  unfold laws_szIntS.f
  rw [wrap_id (a - (l.length : Int)) (by omega) (by omega)]
  by_cases c : a - (l.length : Int) < 0
  · rw [if_pos c]; exact ⟨_, rfl, .inl (by omega)⟩
  · rw [if_neg c]; exact ⟨_, rfl, .inr ⟨by omega, by omega, by omega⟩⟩
theorem szAttr_is (x y : ByteArray) (a : Int) (hx : x.size ≤ 9223372036854775807) (hy : y.size ≤ 9223372036854775807) (h0 : 0 ≤ a) (h1 : a ≤ 1048576) : ∃ t, laws_szAttr.f x y a = some t ∧ (t < 0 ∨ (0 ≤ t ∧ t ≤ a)) := by
  unfold laws_szAttr.f
  rw [wrap_id (a - (x.size : Int)) (by omega) (by omega)]
  by_cases c : a - (x.size : Int) < 0
  · rw [if_pos c]; exact ⟨_, rfl, .inl (by omega)⟩
  · rw [if_neg c, wrap_id (a - (x.size : Int) - (y.size : Int)) (by omega) (by omega)]
    by_cases c2 : a - (x.size : Int) - (y.size : Int) < 0
    · rw [if_pos c2]; exact ⟨_, rfl, .inl (by omega)⟩
    · rw [if_neg c2]; exact ⟨_, rfl, .inr ⟨by omega, by omega⟩⟩
theorem szAttrS_loop (suf : List S86) : ∀ (pre : List S86) (a : Int), (pre ++ suf).length ≤ 1048576 → (∀ x ∈ suf, GA x) → 0 ≤ a → a ≤ 1048576 →
    ∃ t, Ev (fun k => laws_szAttrS.l0 k (pre ++ suf) a ((pre.length : Nat) : Int)) t ∧ (t < 0 ∨ (0 ≤ t ∧ t ≤ a)) := by
  induction suf with
  | nil =>
    intro pre a h hg h0 h1
    refine ⟨a, Ev.at1 fun k => ?_, .inr ⟨h0, by omega⟩⟩
    simp only [laws_szAttrS.l0, List.append_nil]
    rw [if_neg (by omega)]
  | cons x suf IH =>
    intro pre a h hg h0 h1
    have hl : (pre ++ x :: suf).length = pre.length + 1 + suf.length := by simp; omega
    have hx := hg x (List.mem_cons_self ..)
    obtain ⟨t, ht, hr⟩ := szAttr_is x.f0 x.f1 a hx.1 hx.2 h0 h1
    have st : ∀ k, laws_szAttrS.l0 (k + 1) (pre ++ x :: suf) a ((pre.length : Nat) : Int) = if t < 0 then some (-1) else laws_szAttrS.l0 k (pre ++ x :: suf) t ((pre.length + 1 : Nat) : Int) := fun k => by
      simp only [laws_szAttrS.l0]
      rw [if_pos (by omega), if_pos (by omega), rdA_mid, ht, next_at _ (by omega)]
      rfl
    by_cases c : t < 0
    · exact ⟨-1, Ev.at1 fun k => by rw [st, if_pos c], .inl (by omega)⟩
    · obtain ⟨t2, e2, hr2⟩ := IH (pre ++ [x]) t (by simp at h ⊢; omega) (fun y hy => hg y (List.mem_cons_of_mem _ hy)) (by omega) (by omega)
      have e : pre ++ [x] ++ suf = pre ++ x :: suf := by simp
      rw [e, List.length_append] at e2
      refine ⟨t2, Ev.step (fun k => ?_) e2, ?_⟩
      · rw [st, if_neg c]; rfl
      · rcases hr2 with hr2 | ⟨a1, a2⟩
        · exact .inl hr2
        · exact .inr ⟨a1, by omega⟩
theorem szAttrS_ex (l : List S86) (a : Int) (h : l.length ≤ 9223372036854775807) (hg : ∀ x ∈ l, GA x) (h0 : 0 ≤ a) (h1 : a ≤ 1048576) : ∃ t, Ev (fun k => laws_szAttrS.f k l a) t ∧ (t < 0 ∨ (0 ≤ t ∧ t ≤ a ∧ l.length ≤ 1048576)) := by
  unfold laws_szAttrS.f
  rw [wrap_id (a - (l.length : Int)) (by omega) (by omega)]
  by_cases c : a - (l.length : Int) < 0
  · simp only [if_pos c]; exact ⟨_, Ev.now _, .inl (by omega)⟩
  · simp only [if_neg c]
    obtain ⟨t, e, hr⟩ := szAttrS_loop l [] (a - (l.length : Int)) (by simp; omega) hg (by omega) (by omega)
    refine ⟨t, e, ?_⟩
    rcases hr with hr | ⟨a1, a2⟩
    · exact .inl hr
    · exact .inr ⟨a1, by omega, by omega⟩
/-- What is counted within the bound. -/
def LI (x : S64) : Prop := x.f3.length ≤ 1048576 ∧ x.f6.length ≤ 1048576 ∧ x.f2.size ≤ 1048576
theorem szItem_ex (x : S64) (hg : GI x) (a : Int) (h0 : 0 ≤ a) (h1 : a ≤ 1048576) : ∃ t, Ev (fun k => laws_szItem.f k x.f0 x.f1 x.f2 x.f3 x.f4 x.f5 x.f6 a) t ∧ (t < 0 ∨ (0 ≤ t ∧ t ≤ a ∧ LI x)) := by
  obtain ⟨g2, ⟨g3, g3a⟩, g4, g6⟩ := hg
  unfold laws_szItem.f
  rw [wrap_id (a - (x.f2.size : Int)) (by omega) (by omega)]
  by_cases c : a - (x.f2.size : Int) < 0
  · simp only [if_pos c]; exact ⟨_, Ev.now _, .inl (by omega)⟩
  · simp only [if_neg c]
    obtain ⟨t, e, hr⟩ := szAttrS_ex x.f3 (a - (x.f2.size : Int)) g3 g3a (by omega) (by omega)
    by_cases c2 : t < 0
    · refine ⟨-1, Ev.bind e ?_, .inl (by omega)⟩
      simp only [if_pos c2]; exact Ev.now _
    · have hw : wrap64 (t - (x.f4.size : Int)) = t - (x.f4.size : Int) := wrap_id _ (by omega) (by omega)
      by_cases c3 : t - (x.f4.size : Int) < 0
      · refine ⟨-1, Ev.bind e ?_, .inl (by omega)⟩
        simp only [if_neg c2, hw, if_pos c3]; exact Ev.now _
      · obtain ⟨t2, e2, hr2⟩ := szIntS_is x.f6 (t - (x.f4.size : Int)) g6 (by omega) (by omega)
        by_cases c4 : t2 < 0
        · refine ⟨-1, Ev.bind e ?_, .inl (by omega)⟩
          simp only [if_neg c2, hw, if_neg c3, e2, Option.bind_some, if_pos c4]; exact Ev.now _
        · refine ⟨t2, Ev.bind e ?_, .inr ⟨by omega, by omega, by omega, by omega, by omega⟩⟩
          simp only [if_neg c2, hw, if_neg c3, e2, Option.bind_some, if_neg c4]; exact Ev.now _
theorem szItemS_loop (suf : List S64) : ∀ (pre : List S64) (a : Int), (pre ++ suf).length ≤ 1048576 → (∀ x ∈ suf, GI x) → 0 ≤ a → a ≤ 1048576 →
    ∃ t, Ev (fun k => laws_szItemS.l0 k (pre ++ suf) a ((pre.length : Nat) : Int)) t ∧ (t < 0 ∨ (0 ≤ t ∧ t ≤ a ∧ ∀ x ∈ suf, LI x)) := by
  induction suf with
  | nil =>
    intro pre a h hg h0 h1
    refine ⟨a, Ev.at1 fun k => ?_, .inr ⟨h0, by omega, by simp⟩⟩
    simp only [laws_szItemS.l0, List.append_nil]
    rw [if_neg (by omega)]
  | cons x suf IH =>
    intro pre a h hg h0 h1
    have hl : (pre ++ x :: suf).length = pre.length + 1 + suf.length := by simp; omega
    obtain ⟨t, et, hr⟩ := szItem_ex x (hg x (List.mem_cons_self ..)) a h0 h1
    have st : ∀ k, laws_szItemS.l0 (k + 1) (pre ++ x :: suf) a ((pre.length : Nat) : Int) = (laws_szItem.f k x.f0 x.f1 x.f2 x.f3 x.f4 x.f5 x.f6 a).bind fun t => if t < 0 then some (-1) else laws_szItemS.l0 k (pre ++ x :: suf) t ((pre.length + 1 : Nat) : Int) := fun k => by
      simp only [laws_szItemS.l0]
      rw [if_pos (by omega), if_pos (by omega), rdI_mid, next_at _ (by omega)]
    by_cases c : t < 0
    · refine ⟨-1, Ev.step st (Ev.bind et ?_), .inl (by omega)⟩
      simp only [if_pos c]; exact Ev.now _
    · obtain ⟨t2, e2, hr2⟩ := IH (pre ++ [x]) t (by simp at h ⊢; omega) (fun y hy => hg y (List.mem_cons_of_mem _ hy)) (by omega) (by omega)
      have e : pre ++ [x] ++ suf = pre ++ x :: suf := by simp
      rw [e, List.length_append] at e2
      refine ⟨t2, Ev.step st (Ev.bind et ?_), ?_⟩
      · simp only [if_neg c]; exact e2
      · rcases hr2 with hr2 | ⟨a1, a2, a3⟩
        · exact .inl hr2
        · refine .inr ⟨a1, by omega, fun y hy => ?_⟩
          rcases List.mem_cons.1 hy with rfl | hy
          · rcases hr with hr | hr
            · exact absurd hr c
            · exact hr.2.2
          · exact a3 y hy
theorem szItemS_ex (l : List S64) (h : l.length ≤ 9223372036854775807) (hg : ∀ x ∈ l, GI x) : ∃ t, Ev (fun k => laws_szItemS.f k l 1048576) t ∧ (t < 0 ∨ (0 ≤ t ∧ t ≤ 1048576 ∧ l.length ≤ 1048576 ∧ ∀ x ∈ l, LI x)) := by
  unfold laws_szItemS.f
  rw [wrap_id (1048576 - (l.length : Int)) (by omega) (by omega)]
  by_cases c : 1048576 - (l.length : Int) < 0
  · simp only [if_pos c]; exact ⟨_, Ev.now _, .inl (by omega)⟩
  · simp only [if_neg c]
    obtain ⟨t, e, hr⟩ := szItemS_loop l [] (1048576 - (l.length : Int)) (by simp; omega) hg (by omega) (by omega)
    refine ⟨t, e, ?_⟩
    rcases hr with hr | ⟨a1, a2, a3⟩
    · exact .inl hr
    · exact .inr ⟨a1, by omega, by omega, a3⟩
/-! the copies -/
def cA (x : S86) : S79 := ⟨x.f0, x.f1⟩
def cI (x : S64) : S45 := ⟨x.f0, x.f1, x.f2, x.f3.map cA, x.f4, x.f5, x.f6⟩
theorem toAttrS_loop (l : List S86) (suf : List S86) : ∀ (pre : List S86), l = pre ++ suf → l.length ≤ 1048576 →
    Ev (fun k => laws_toAttrS.l0 k l (pre.map cA ++ List.replicate suf.length z79) ((pre.length : Nat) : Int)) (l.map cA) := by
  induction suf with
  | nil =>
    intro pre hl h
    refine Ev.at1 fun k => ?_
    simp only [laws_toAttrS.l0]
    rw [if_neg (by rw [hl]; simp)]
    simp [hl]
  | cons x suf IH =>
    intro pre hl h
    have hn : l.length = pre.length + 1 + suf.length := by rw [hl]; simp; omega
    have ih := IH (pre ++ [x]) (by rw [hl]; simp) h
    refine Ev.step (f := fun k => laws_toAttrS.l0 k l (pre.map cA ++ [cA x] ++ List.replicate suf.length z79) ((pre.length + 1 : Nat) : Int)) (fun k => ?_) ?_
    · simp only [laws_toAttrS.l0]
      have e : List.replicate (x :: suf).length z79 = z79 :: List.replicate suf.length z79 := rfl
      have hx : rd_T86 l ((pre.length : Nat) : Int) = x := by rw [hl]; exact rdA_mid pre x suf
      have hs := set_mid (pre.map cA) z79 (cA x) (List.replicate suf.length z79)
      rw [List.length_map] at hs
      rw [if_pos (by omega), if_pos (by omega), hx, e]
      unfold laws_toAttr.f
      simp only [Option.bind_some]
      rw [if_pos (by simp; omega), next_at _ (by omega)]
      show laws_toAttrS.l0 k l ((pre.map cA ++ z79 :: List.replicate suf.length z79).set _ (cA x)) _ = _
      rw [hs]
    · have e2 : (pre ++ [x]).length = pre.length + 1 := by simp
      rw [e2, List.map_append] at ih
      exact ih
theorem toAttrS_ev (l : List S86) (h : l.length ≤ 1048576) : Ev (fun k => laws_toAttrS.f k l) (l.map cA) := by
  unfold laws_toAttrS.f
  rw [Int.toNat_natCast]
  simp only [if_pos (show (0 : Int) ≤ (l.length : Int) by omega), if_pos (show l.length ≤ 8796093022208 by omega)]
  exact toAttrS_loop l l [] rfl h
theorem toItem_ev (x : S64) (h : LI x) : Ev (fun k => laws_toItem.f k x.f0 x.f1 x.f2 x.f3 x.f4 x.f5 x.f6) (x.f0, x.f1, x.f2, x.f3.map cA, x.f4, x.f5, x.f6) := by
  unfold laws_toItem.f
  exact Ev.bind (toAttrS_ev x.f3 h.1) (Ev.bind (toIntS_ev x.f6 (by have := h.2; omega)) (Ev.now _))
theorem toItemS_loop (l : List S64) (suf : List S64) : ∀ (pre : List S64), l = pre ++ suf → l.length ≤ 1048576 → (∀ x ∈ suf, LI x) →
    Ev (fun k => laws_toItemS.l0 k l (pre.map cI ++ List.replicate suf.length z45) ((pre.length : Nat) : Int)) (l.map cI) := by
  induction suf with
  | nil =>
    intro pre hl h hg
    refine Ev.at1 fun k => ?_
    simp only [laws_toItemS.l0]
    rw [if_neg (by rw [hl]; simp)]
    simp [hl]
  | cons x suf IH =>
    intro pre hl h hg
    have hn : l.length = pre.length + 1 + suf.length := by rw [hl]; simp; omega
    have ih := IH (pre ++ [x]) (by rw [hl]; simp) h (fun y hy => hg y (List.mem_cons_of_mem _ hy))
    have hx : rd_T64 l ((pre.length : Nat) : Int) = x := by rw [hl]; exact rdI_mid pre x suf
    refine Ev.step (f := fun k => (laws_toItem.f k x.f0 x.f1 x.f2 x.f3 x.f4 x.f5 x.f6).bind fun b => laws_toItemS.l0 k l (pre.map cI ++ [(⟨b.1, b.2.1, b.2.2.1, b.2.2.2.1, b.2.2.2.2.1, b.2.2.2.2.2.1, b.2.2.2.2.2.2⟩ : S45)] ++ List.replicate suf.length z45) ((pre.length + 1 : Nat) : Int)) (fun k => ?_) (Ev.bind (toItem_ev x (hg x (List.mem_cons_self ..))) ?_)
    · simp only [laws_toItemS.l0]
      have e : List.replicate (x :: suf).length z45 = z45 :: List.replicate suf.length z45 := rfl
      rw [if_pos (by omega), if_pos (by omega), hx, e]
      congr 1
      funext b
      have hs := set_mid (pre.map cI) z45 (⟨b.1, b.2.1, b.2.2.1, b.2.2.2.1, b.2.2.2.2.1, b.2.2.2.2.2.1, b.2.2.2.2.2.2⟩ : S45) (List.replicate suf.length z45)
      rw [List.length_map] at hs
      rw [if_pos (by simp; omega), next_at _ (by omega), hs]
    · have e2 : (pre ++ [x]).length = pre.length + 1 := by simp
      rw [e2, List.map_append] at ih
      exact ih
theorem toItemS_ev (l : List S64) (h : l.length ≤ 1048576) (hg : ∀ x ∈ l, LI x) : Ev (fun k => laws_toItemS.f k l) (l.map cI) := by
  unfold laws_toItemS.f
  rw [Int.toNat_natCast]
  simp only [if_pos (show (0 : Int) ≤ (l.length : Int) by omega), if_pos (show l.length ≤ 2706490160679 by omega)]
  exact toItemS_loop l l [] rfl h hg
/-! the sameness -/
theorem eqAttrS_loop (suf : List S79) : ∀ (pre : List S79), (pre ++ suf).length ≤ 2000000000000 → Ev (fun k => laws_eqAttrS.l0 k (pre ++ suf) (pre ++ suf) ((pre.length : Nat) : Int)) true := by
  induction suf with
  | nil =>
    intro pre h
    refine Ev.at1 fun k => ?_
    simp only [laws_eqAttrS.l0, List.append_nil]
    rw [if_neg (by omega)]
  | cons x suf IH =>
    intro pre h
    have hl : (pre ++ x :: suf).length = pre.length + 1 + suf.length := by simp; omega
    have ih := IH (pre ++ [x]) (by simp at h ⊢; omega)
    refine Ev.step (f := fun k => laws_eqAttrS.l0 k (pre ++ x :: suf) (pre ++ x :: suf) ((pre.length + 1 : Nat) : Int)) (fun k => ?_) ?_
    · simp only [laws_eqAttrS.l0]
      rw [if_pos (by omega), if_pos (by omega), if_pos (by omega), rdA2_mid, next_at _ (by omega)]
      unfold laws_eqAttr.f
      simp only [if_true, Option.bind_some]
    · have e : pre ++ [x] ++ suf = pre ++ x :: suf := by simp
      rw [e, List.length_append] at ih
      exact ih
theorem eqAttrS_same (l : List S79) (h : l.length ≤ 2000000000000) : Ev (fun k => laws_eqAttrS.f k l l) true := by
  unfold laws_eqAttrS.f
  simp only [if_true]
  exact eqAttrS_loop l [] h
theorem eqItem_same (x : S45) (h3 : x.f3.length ≤ 2000000000000) (h6 : x.f6.length ≤ 2000000000000) : Ev (fun k => laws_eqItem.f k x.f0 x.f1 x.f2 x.f3 x.f4 x.f5 x.f6 x.f0 x.f1 x.f2 x.f3 x.f4 x.f5 x.f6) true := by
  unfold laws_eqItem.f
  simp only [if_true]
  refine Ev.bind (eqAttrS_same x.f3 h3) ?_
  simp only [if_true]
  refine Ev.bind (eqIntS_same x.f6 h6) ?_
  simp only [if_true]
  exact Ev.now _
theorem eqItemS_loop (suf : List S45) : ∀ (pre : List S45), (pre ++ suf).length ≤ 2000000000000 → (∀ x ∈ suf, x.f3.length ≤ 2000000000000 ∧ x.f6.length ≤ 2000000000000) → Ev (fun k => laws_eqItemS.l0 k (pre ++ suf) (pre ++ suf) ((pre.length : Nat) : Int)) true := by
  induction suf with
  | nil =>
    intro pre h hg
    refine Ev.at1 fun k => ?_
    simp only [laws_eqItemS.l0, List.append_nil]
    rw [if_neg (by omega)]
  | cons x suf IH =>
    intro pre h hg
    have hl : (pre ++ x :: suf).length = pre.length + 1 + suf.length := by simp; omega
    have ih := IH (pre ++ [x]) (by simp at h ⊢; omega) (fun y hy => hg y (List.mem_cons_of_mem _ hy))
    have hx := hg x (List.mem_cons_self ..)
    refine Ev.step (f := fun k => (laws_eqItem.f k x.f0 x.f1 x.f2 x.f3 x.f4 x.f5 x.f6 x.f0 x.f1 x.f2 x.f3 x.f4 x.f5 x.f6).bind fun t => (if t = true then laws_eqItemS.l0 k (pre ++ x :: suf) (pre ++ x :: suf) ((pre.length + 1 : Nat) : Int) else some false)) (fun k => ?_) (Ev.bind (eqItem_same x hx.1 hx.2) ?_)
    · simp only [laws_eqItemS.l0]
      rw [if_pos (by omega), if_pos (by omega), if_pos (by omega), rdI2_mid, next_at _ (by omega)]
    · simp only [if_true]
      have e : pre ++ [x] ++ suf = pre ++ x :: suf := by simp
      rw [e, List.length_append] at ih
      exact ih
theorem eqItemS_same (l : List S45) (h : l.length ≤ 2000000000000) (hg : ∀ x ∈ l, x.f3.length ≤ 2000000000000 ∧ x.f6.length ≤ 2000000000000) : Ev (fun k => laws_eqItemS.f k l l) true := by
  unfold laws_eqItemS.f
  simp only [if_true]
  exact eqItemS_loop l [] h hg
theorem copied_small (l : List S64) (h : ∀ x ∈ l, LI x) : ∀ x ∈ l.map cI, x.f3.length ≤ 2000000000000 ∧ x.f6.length ≤ 2000000000000 := by
  intro x hx
  obtain ⟨y, hy, rfl⟩ := List.mem_map.1 hx
  have := h y hy
  obtain ⟨h1, h2⟩ := this
  refine ⟨?_, ?_⟩
  · show (y.f3.map cA).length ≤ _
    rw [List.length_map]; omega
  · show y.f6.length ≤ _
    omega

/-- Names behind each other, a blank ahead of each and one behind all. -/
def Jn : List (List UInt8) → List UInt8
  | [] => [32]
  | w :: ws => 32 :: (w ++ Jn ws)
theorem Jn_head : ∀ ws : List (List UInt8), ∃ t, Jn ws = 32 :: t
  | [] => ⟨[], rfl⟩
  | w :: ws => ⟨_, rfl⟩
theorem contains_cons (b : UInt8) (l sub : List UInt8) : Lib.contains (b :: l) sub = (sub.isPrefixOf (b :: l) || Lib.contains l sub) := by
  have hg := Lib.index_ge l sub
  unfold Lib.contains
  rw [Lib.index]
  by_cases h : sub.isPrefixOf (b :: l) = true
  · rw [if_pos h, h]; rfl
  · rw [if_neg h, Bool.eq_false_iff.mpr h, Bool.false_or]
    by_cases h2 : Lib.index l sub = -1
    · rw [h2]; rfl
    · rw [if_neg (by simpa using h2)]
      have e : (0 ≤ Lib.index l sub + 1) = (0 ≤ Lib.index l sub) := by apply propext; omega
      rw [decide_eq_decide]
      omega
theorem contains_nil (sub : List UInt8) : Lib.contains [] sub = sub.isEmpty := by
  unfold Lib.contains
  rw [Lib.index]
  cases sub <;> rfl
theorem prefix_word (t : List UInt8) : ∀ n w : List UInt8, 32 ∉ n → 32 ∉ w → (n ++ [32]).isPrefixOf (w ++ 32 :: t) = decide (n = w)
  | [], [], _, _ => by simp
  | [], b :: w, _, hw => by
    have : b ≠ 32 := fun e => hw (by simp [e])
    have h : ((32 : UInt8) == b) = false := by simpa using Ne.symm this
    simp [List.isPrefixOf, h]
  | a :: n, [], hn, _ => by
    have : a ≠ 32 := fun e => hn (by simp [e])
    have h : (a == (32 : UInt8)) = false := by simpa using this
    simp [List.isPrefixOf, h]
  | a :: n, b :: w, hn, hw => by
    have ih := prefix_word t n w (fun h => hn (List.mem_cons_of_mem _ h)) (fun h => hw (List.mem_cons_of_mem _ h))
    by_cases e : a = b
    · subst e
      simp only [List.cons_append, List.isPrefixOf, beq_self_eq_true, Bool.true_and]
      rw [ih]
      simp
    · have : (a == b) = false := by simpa using e
      simp [List.isPrefixOf, this, e]
theorem contains_skip (L p : List UInt8) : ∀ w : List UInt8, 32 ∉ w → Lib.contains (w ++ L) (32 :: p) = Lib.contains L (32 :: p)
  | [], _ => rfl
  | b :: w, hw => by
    have : b ≠ 32 := fun e => hw (by simp [e])
    have h : ((32 : UInt8) == b) = false := by simpa using Ne.symm this
    rw [List.cons_append, contains_cons, contains_skip L p w (fun h => hw (List.mem_cons_of_mem _ h))]
    simp [List.isPrefixOf, h]
theorem contains_word (n : List UInt8) (hn : 32 ∉ n) (h0 : n ≠ []) : ∀ ws : List (List UInt8), (∀ w ∈ ws, 32 ∉ w) → Lib.contains (Jn ws) (32 :: (n ++ [32])) = decide (n ∈ ws)
  | [], _ => by
    unfold Jn
    rw [contains_cons, contains_nil]
    cases n with
    | nil => exact absurd rfl h0
    | cons a n => simp [List.isPrefixOf]
  | w :: ws, hw => by
    obtain ⟨t, ht⟩ := Jn_head ws
    have hw0 := hw w (List.mem_cons_self ..)
    unfold Jn
    rw [contains_cons, contains_skip _ _ w hw0, contains_word n hn h0 ws (fun x hx => hw x (List.mem_cons_of_mem _ hx)), ht]
    simp only [List.isPrefixOf, beq_self_eq_true, Bool.true_and]
    rw [prefix_word t n w hn hw0]
    simp
theorem contains_blank (l : List UInt8) (c : UInt8) : Lib.contains l [c] = decide (c ∈ l) := by
  induction l with
  | nil => rw [contains_nil]; rfl
  | cons b l ih =>
    rw [contains_cons, ih]
    by_cases e : c = b
    · subst e; simp [List.isPrefixOf]
    · have h : (c == b) = false := by simpa using e
      simp [List.isPrefixOf, h, e]
/-- Is a name one of some: what both sides come to. -/
def isIn (a : ByteArray) (ws : List (List UInt8)) : Bool := decide (a.data.toList ∈ ws)
/-- The words of a row of names, and that the row reads so. -/
def Row (names : ByteArray) (ws : List (List UInt8)) : Prop := 32 :: (names.data.toList ++ [32]) = Jn ws ∧ (∀ w ∈ ws, 32 ∉ w ∧ w ≠ []) ∧ names.size ≤ 1000000

theorem data_append (a b : ByteArray) : (a ++ b).data.toList = a.data.toList ++ b.data.toList := by simp
theorem isOneOf_is (a names : ByteArray) (ws : List (List UInt8)) (h : Row names ws) (ha : a.size ≤ 1048576) : impl_isOneOf.f a names = some (isIn a ws) := by
  obtain ⟨hJ, hws, hn⟩ := h
  unfold impl_isOneOf.f isIn
  rw [ByteArray.toList_eq]
  by_cases h0 : a.data.toList = []
  · rw [if_pos h0, h0]
    have : ¬ ([] : List UInt8) ∈ ws := fun hm => (hws _ hm).2 rfl
    simp [this]
  · rw [if_neg h0]
    have c1 : strings_Contains.f a (⟨#[32]⟩ : ByteArray) = some (decide (32 ∈ a.data.toList)) := by
      unfold strings_Contains.f
      rw [if_pos (by omega)]
      congr 1
      exact contains_blank _ _
    rw [c1]
    simp only [Option.bind_some]
    by_cases hb : 32 ∈ a.data.toList
    · rw [if_pos (by simpa using hb)]
      have : ¬ a.data.toList ∈ ws := fun hm => (hws _ hm).1 hb
      simp [this]
    · rw [if_neg (by simpa using hb)]
      have s1 : ((⟨#[32]⟩ : ByteArray) ++ names).size = 1 + names.size := by rw [ByteArray.size_append]; rfl
      have s2 : ((⟨#[32]⟩ : ByteArray) ++ a).size = 1 + a.size := by rw [ByteArray.size_append]; rfl
      have c2 : strings_Contains.f (((⟨#[32]⟩ : ByteArray) ++ names) ++ (⟨#[32]⟩ : ByteArray)) (((⟨#[32]⟩ : ByteArray) ++ a) ++ (⟨#[32]⟩ : ByteArray)) = some (decide (a.data.toList ∈ ws)) := by
        unfold strings_Contains.f
        have s3 : (((⟨#[32]⟩ : ByteArray) ++ names) ++ (⟨#[32]⟩ : ByteArray)).size = 1 + names.size + 1 := by rw [ByteArray.size_append, s1]; rfl
        rw [if_pos (by omega)]
        congr 1
        rw [data_append, data_append, data_append, data_append]
        have e1 : (⟨#[32]⟩ : ByteArray).data.toList ++ names.data.toList ++ (⟨#[32]⟩ : ByteArray).data.toList = 32 :: (names.data.toList ++ [32]) := rfl
        have e2 : (⟨#[32]⟩ : ByteArray).data.toList ++ a.data.toList ++ (⟨#[32]⟩ : ByteArray).data.toList = 32 :: (a.data.toList ++ [32]) := rfl
        rw [e1, e2, hJ, contains_word _ hb h0 ws (fun w hw => (hws w hw).1)]
      rw [c2]
      first
      | (simp only [s1, s2]; rw [if_pos (by omega), if_pos (by omega), if_pos (by omega), if_pos (by omega)]; rfl)
      | (rw [if_pos (by omega), if_pos (by omega), if_pos (by omega), if_pos (by omega)]; rfl)

theorem szPage_ex (l : List S64) (o f : List Int) (a b : Int) (hl : l.length ≤ 9223372036854775807) (ho : o.length ≤ 9223372036854775807) (hf : f.length ≤ 9223372036854775807) (hg : ∀ x ∈ l, GI x) :
    ∃ t, Ev (fun k => laws_szPage.f k l o f a b 1048576) t ∧ (t < 0 ∨ (0 ≤ t ∧ l.length ≤ 1048576 ∧ o.length ≤ 1048576 ∧ f.length ≤ 1048576 ∧ ∀ x ∈ l, LI x)) := by
  unfold laws_szPage.f
  obtain ⟨t, e, hr⟩ := szItemS_ex l hl hg
  by_cases c : t < 0
  · refine ⟨-1, Ev.bind e ?_, .inl (by omega)⟩
    simp only [if_pos c]; exact Ev.now _
  · obtain ⟨h0, h1, h2, h3⟩ : 0 ≤ t ∧ t ≤ 1048576 ∧ l.length ≤ 1048576 ∧ ∀ x ∈ l, LI x := by
      rcases hr with hr | hr
      · exact absurd hr c
      · exact hr
    obtain ⟨t2, e2, hr2⟩ := szIntS_is o t ho h0 h1
    by_cases c2 : t2 < 0
    · refine ⟨-1, Ev.bind e ?_, .inl (by omega)⟩
      simp only [if_neg c, e2, Option.bind_some, if_pos c2]; exact Ev.now _
    · obtain ⟨t3, e3, hr3⟩ := szIntS_is f t2 hf (by omega) (by omega)
      by_cases c3 : t3 < 0
      · refine ⟨-1, Ev.bind e ?_, .inl (by omega)⟩
        simp only [if_neg c, e2, Option.bind_some, if_neg c2, e3, if_pos c3]; exact Ev.now _
      · refine ⟨t3, Ev.bind e ?_, .inr ⟨by omega, h2, by omega, by omega, h3⟩⟩
        simp only [if_neg c, e2, Option.bind_some, if_neg c2, e3, if_neg c3]; exact Ev.now _
theorem toPage_ev (l : List S64) (o f : List Int) (a b : Int) (hl : l.length ≤ 1048576) (ho : o.length ≤ 1048576) (hf : f.length ≤ 1048576) (hg : ∀ x ∈ l, LI x) :
    Ev (fun k => laws_toPage.f k l o f a b) (l.map cI, o, f, a, b) := by
  unfold laws_toPage.f
  exact Ev.bind (toItemS_ev l hl hg) (Ev.bind (toIntS_ev o (by omega)) (Ev.bind (toIntS_ev f (by omega)) (Ev.now _)))
theorem eqPage_same (l : List S64) (o f : List Int) (a b : Int) (hl : l.length ≤ 1048576) (ho : o.length ≤ 1048576) (hf : f.length ≤ 1048576) (hg : ∀ x ∈ l, LI x) :
    Ev (fun k => laws_eqPage.f k (l.map cI) o f a b (l.map cI) o f a b) true := by
  unfold laws_eqPage.f
  refine Ev.bind (eqItemS_same (l.map cI) (by rw [List.length_map]; omega) (copied_small l hg)) ?_
  simp only [if_true]
  refine Ev.bind (eqIntS_same o (by omega)) ?_
  simp only [if_true]
  refine Ev.bind (eqIntS_same f (by omega)) ?_
  simp only [if_true]
  exact Ev.now _

def wsTab : List (List UInt8) := [[116, 97, 98, 108, 101], [116, 98, 111, 100, 121], [116, 114]]
/-- The name of what is open at a place. -/
def NM (l : List S45) (o : List Int) (k : Int) : ByteArray := if 0 ≤ k ∧ k < o.length ∧ 0 ≤ rd o k ∧ rd o k < l.length then (rd_T45 l (rd o k)).f2 else (⟨#[]⟩ : ByteArray)
theorem spec_name_is (l : List S45) (o f : List Int) (a b k : Int) : spec_l8Name.f l o f a b k = some (NM l o k) := by
  unfold spec_l8Name.f NM
  by_cases c1 : k < 0
  · rw [if_pos c1, if_neg (by omega)]
  · rw [if_neg c1]
    by_cases c2 : k ≥ (o.length : Int)
    · rw [if_pos c2, if_neg (by omega)]
    · rw [if_neg c2, if_pos (by omega), if_pos (by omega)]
      by_cases c3 : rd o k < 0
      · rw [if_pos c3, if_neg (by omega)]
      · rw [if_neg c3]
        by_cases c4 : rd o k ≥ (l.length : Int)
        · rw [if_pos c4, if_neg (by omega)]
        · rw [if_neg c4, if_pos (by omega), if_pos (by omega), if_pos (by omega)]
theorem impl_last_is (l : List S45) (o f : List Int) (a b : Int) (hl : l.length ≤ 1048576) (ho : o.length ≤ 1048576) : impl_Page_lastName.f l o f a b = some (NM l o ((o.length : Int) - 1), a, b) := by
  unfold impl_Page_lastName.f impl_Page_nameOf.f NM
  by_cases c : (o.length : Int) = 0
  · rw [if_pos c, if_neg (by omega)]
  · rw [if_neg c, wrap_id ((o.length : Int) - 1) (by omega) (by omega), if_pos (by omega), if_pos (by omega), wrap_id ((l.length : Int) - 1) (by omega) (by omega)]
    generalize rd o ((o.length : Int) - 1) = x
    unfold impl_inRange.f
    by_cases c1 : x ≥ 0
    · rw [if_pos c1]
      simp only [Option.bind_some]
      by_cases c2 : x < l.length
      · rw [decide_eq_true (show x ≤ (l.length : Int) - 1 by omega), if_pos rfl, if_pos (by omega), if_pos c2, if_pos (by omega)]
        rfl
      · rw [decide_eq_false (show ¬ x ≤ (l.length : Int) - 1 by omega), if_neg (by decide), if_neg (by omega)]
        rfl
    · rw [if_neg c1]
      simp only [Option.bind_some]
      rw [if_neg (by decide), if_neg (by omega)]
      rfl
theorem name_small (l : List S64) (o : List Int) (k : Int) (hg : ∀ x ∈ l, LI x) : (NM (l.map cI) o k).size ≤ 1048576 := by
  unfold NM
  by_cases c : 0 ≤ k ∧ k < o.length ∧ 0 ≤ rd o k ∧ rd o k < (l.map cI).length
  · rw [if_pos c]
    obtain ⟨_, _, c3, c4⟩ := c
    rw [List.length_map] at c4
    unfold rd_T45
    have h : (rd o k).toNat < l.length := by omega
    rw [List.getD_eq_getElem?_getD, List.getElem?_map, List.getElem?_eq_getElem h]
    exact (hg _ (List.getElem_mem h)).2.2
  · rw [if_neg c]
    show 0 ≤ 1048576
    omega
theorem spec_tab (w : ByteArray) : (if w.toList = ([116, 97, 98, 108, 101] : List UInt8) then (some true) else (if w.toList = ([116, 98, 111, 100, 121] : List UInt8) then (some true) else (some (w.toList == ([116, 114] : List UInt8))))) = some (isIn w wsTab) := by
  unfold isIn wsTab
  rw [ByteArray.toList_eq]
  generalize w.data.toList = x
  by_cases c1 : x = [116, 97, 98, 108, 101]
  · rw [if_pos c1, c1]; rfl
  · rw [if_neg c1]
    by_cases c2 : x = [116, 98, 111, 100, 121]
    · rw [if_pos c2, c2]; rfl
    · rw [if_neg c2]
      by_cases c3 : x = [116, 114]
      · rw [c3]; rfl
      · have e : (x == ([116, 114] : List UInt8)) = false := beq_eq_false_iff_ne.mpr c3
        rw [e]
        simp [c1, c2, c3]
theorem FnExactInTable (l : List S64) (o f : List Int) (a b : Int) (hl : l.length ≤ 9223372036854775807) (ho : o.length ≤ 9223372036854775807) (hf : f.length ≤ 9223372036854775807) (hg : ∀ x ∈ l, GI x) : ∃ q, laws_FnExactInTable.f q l o f a b = some true := by
  refine Ev.rounds (r := true) ?_
  unfold laws_FnExactInTable.f
  obtain ⟨t, et, hr⟩ := szPage_ex l o f a b hl ho hf hg
  refine Ev.bind et ?_
  by_cases c : t < 0
  · simp only [if_pos c]; exact Ev.now _
  · simp only [if_neg c]
    obtain ⟨_, hl, ho, hf, hL⟩ : 0 ≤ t ∧ l.length ≤ 1048576 ∧ o.length ≤ 1048576 ∧ f.length ≤ 1048576 ∧ ∀ x ∈ l, LI x := by
      rcases hr with hr | hr
      · exact absurd hr c
      · exact hr
    have tp := toPage_ev l o f a b hl ho hf hL
    have hn := name_small l o ((o.length : Int) - 1) hL
    have hl2 : (l.map cI).length ≤ 1048576 := by rw [List.length_map]; exact hl
    have e1 : spec_InTable.f (l.map cI) o f a b = some (isIn (NM (l.map cI) o ((o.length : Int) - 1)) wsTab) := by
      unfold spec_InTable.f spec_l8Last.f
      rw [wrap_id ((o.length : Int) - 1) (by omega) (by omega), spec_name_is]
      simp only [Option.bind_some]
      exact spec_tab _
    have e2 : impl_InTable.f (l.map cI) o f a b = some (isIn (NM (l.map cI) o ((o.length : Int) - 1)) wsTab) := by
      unfold impl_InTable.f impl_Page_inTable.f
      rw [impl_last_is (l.map cI) o f a b hl2 ho]
      simp only [Option.bind_some]
      rw [isOneOf_is _ _ wsTab ⟨rfl, by decide, by decide⟩ hn]
      rfl
    refine Ev.bind tp ?_
    simp only [e1, Option.bind_some]
    refine Ev.bind tp ?_
    simp only [e2, Option.bind_some, bne_self_eq_false, Bool.false_eq_true, if_false]
    refine Ev.bind tp (Ev.bind (eqPage_same l o f a b hl ho hf hL) ?_)
    simp only [if_true]
    exact Ev.now _

end Go.Proofs.Ytedeliggbjbngaa.Pure
