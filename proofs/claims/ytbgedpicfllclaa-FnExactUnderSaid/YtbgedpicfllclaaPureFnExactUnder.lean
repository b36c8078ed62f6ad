/- The statement of FnExactUnder, over the printed functions: it is true for every input within memory. -/
import Derived.Test.YtbgedpicfllclaaPFnExactUnderx4
namespace Go.Proofs.Ytbgedpicfllclaa.Pure
open Go.RowKit Go.Proofs.Ytbgedpicfllclaa.PFnExactUnder Go.Proofs.YtbgedpicfllclaaW.PrintWords Go.Proofs.YtbgedpicfllclaaW.PrintLast
set_option linter.unusedVariables false
set_option linter.unusedSimpArgs false

theorem Ev.yes {α : Type} {g : Nat → Option α} {r : α} (h : ∀ k, g k = some r) : Ev g r := ⟨0, fun k _ => h k⟩
theorem Ev.at1 {α : Type} {g : Nat → Option α} {r : α} (h : ∀ k, g (k + 1) = some r) : Ev g r := Ev.step (f := fun _ => some r) h (Ev.now r)
theorem wrap_id (n : Int) (h0 : -9223372036854775808 ≤ n) (h1 : n ≤ 9223372036854775807) : wrap64 n = n := by unfold wrap64; omega

theorem set_mid {α : Type} (pre : List α) (x y : α) (suf : List α) : (pre ++ x :: suf).set ((pre.length : Nat) : Int).toNat y = (pre ++ [y]) ++ suf := by
  rw [Int.toNat_natCast]
  simp
theorem next_at (n : Nat) (h : n ≤ 2000000000000) : wrap64 ((n : Int) + 1) = ((n + 1 : Nat) : Int) := by
  rw [wrap_id _ (by omega) (by omega)]
  omega

theorem rd_mid (pre : List Int) (x : Int) (suf : List Int) : rd (pre ++ x :: suf) ((pre.length : Nat) : Int) = x := by
  unfold rd
  rw [Int.toNat_natCast]
  simp
theorem eqIntS_loop : ∀ (suf pre : List Int), (pre ++ suf).length ≤ 2000000000000 → Ev (fun k => laws_eqIntS.l0 k (pre ++ suf) (pre ++ suf) ((pre.length : Nat) : Int)) true
  | [], pre, h => by
    refine Ev.at1 fun k => ?_
    simp only [laws_eqIntS.l0, List.append_nil]
    rw [if_neg (by omega)]
  | x :: suf, pre, h => by
    have hl : (pre ++ x :: suf).length = pre.length + 1 + suf.length := by simp; omega
    have ih := eqIntS_loop suf (pre ++ [x]) (by simp at h ⊢; omega)
    refine Ev.step (f := fun k => laws_eqIntS.l0 k (pre ++ x :: suf) (pre ++ x :: suf) ((pre.length + 1 : Nat) : Int)) (fun k => ?_) ?_
    · simp only [laws_eqIntS.l0]
      rw [if_pos (by omega), if_pos (by omega), if_pos (by omega), if_pos trivial, next_at _ (by omega)]
    · have e : pre ++ [x] ++ suf = pre ++ x :: suf := by simp
      rw [e, List.length_append] at ih
      exact ih
theorem eqIntS_same (l : List Int) (h : l.length ≤ 2000000000000) : Ev (fun k => laws_eqIntS.f k l l) true := by
  unfold laws_eqIntS.f
  simp only [if_true]
  exact eqIntS_loop l [] h

theorem toIntS_loop (l : List Int) (suf : List Int) : ∀ (pre : List Int), l = pre ++ suf → l.length ≤ 1000000000000 →
    Ev (fun k => laws_toIntS.l0 k l (pre ++ List.replicate suf.length 0) ((pre.length : Nat) : Int)) l := by
  induction suf with
  | nil =>
    intro pre hl h
    refine Ev.at1 fun k => ?_
    simp only [laws_toIntS.l0]
    rw [if_neg (by rw [hl]; simp)]
    simp [hl]
  | cons x suf IH =>
    intro pre hl h
    have hn : l.length = pre.length + 1 + suf.length := by rw [hl]; simp; omega
    have ih := IH (pre ++ [x]) (by rw [hl]; simp) h
    refine Ev.step (f := fun k => laws_toIntS.l0 k l (pre ++ [x] ++ List.replicate suf.length 0) ((pre.length + 1 : Nat) : Int)) (fun k => ?_) ?_
    · simp only [laws_toIntS.l0]
      have e : List.replicate (x :: suf).length (0 : Int) = 0 :: List.replicate suf.length 0 := rfl
      have hx : rd l ((pre.length : Nat) : Int) = x := by rw [hl]; exact rd_mid pre x suf
      rw [if_pos (by omega), if_pos (by omega), if_pos (by simp; omega), next_at _ (by omega), hx, e, set_mid]
    · have e2 : (pre ++ [x]).length = pre.length + 1 := by simp
      rw [e2] at ih
      exact ih
theorem toIntS_ev (l : List Int) (h : l.length ≤ 1000000000000) : Ev (fun k => laws_toIntS.f k l) l := by
  unfold laws_toIntS.f
  rw [Int.toNat_natCast]
  simp only [if_pos (show (0 : Int) ≤ (l.length : Int) by omega), if_pos (show l.length ≤ 35184372088832 by omega)]
  exact toIntS_loop l l [] rfl h

-- nested items: sizes, copies, sameness (seats whose argument is a list of items: S36, S89 come in; S44, S91 are the copies)
theorem rdA_mid (pre : List S89) (x : S89) (suf : List S89) : rd_T89 (pre ++ x :: suf) ((pre.length : Nat) : Int) = x := by
  unfold rd_T89
  rw [Int.toNat_natCast]
  simp
theorem rdI_mid (pre : List S36) (x : S36) (suf : List S36) : rd_T36 (pre ++ x :: suf) ((pre.length : Nat) : Int) = x := by
  unfold rd_T36
  rw [Int.toNat_natCast]
  simp
theorem rdA2_mid (pre : List S91) (x : S91) (suf : List S91) : rd_T91 (pre ++ x :: suf) ((pre.length : Nat) : Int) = x := by
  unfold rd_T91
  rw [Int.toNat_natCast]
  simp
theorem rdI2_mid (pre : List S44) (x : S44) (suf : List S44) : rd_T44 (pre ++ x :: suf) ((pre.length : Nat) : Int) = x := by
  unfold rd_T44
  rw [Int.toNat_natCast]
  simp
/-- No text and no row is longer than memory bears. -/
def GA (a : S89) : Prop := a.f0.size ≤ 9223372036854775807 ∧ a.f1.size ≤ 9223372036854775807
def GI (x : S36) : Prop := x.f2.size ≤ 9223372036854775807 ∧ (x.f3.length ≤ 9223372036854775807 ∧ ∀ a ∈ x.f3, GA a) ∧ x.f4.size ≤ 9223372036854775807 ∧ x.f6.length ≤ 9223372036854775807
theorem szIntS_is (l : List Int) (a : Int) (h : l.length ≤ 9223372036854775807) (h0 : 0 ≤ a) (h1 : a ≤ 1048576) : ∃ t, laws_szIntS.f l a = some t ∧ (t < 0 ∨ (0 ≤ t ∧ t ≤ a ∧ l.length ≤ 1048576)) := by
  unfold laws_szIntS.f
  rw [wrap_id (a - (l.length : Int)) (by omega) (by omega)]
  by_cases c : a - (l.length : Int) < 0
  · rw [if_pos c]; exact ⟨_, rfl, .inl (by omega)⟩
  · rw [if_neg c]; exact ⟨_, rfl, .inr ⟨by omega, by omega, by omega⟩⟩
theorem szAttr_is (x y : ByteArray) (a : Int) (hx : x.size ≤ 9223372036854775807) (hy : y.size ≤ 9223372036854775807) (h0 : 0 ≤ a) (h1 : a ≤ 1048576) : ∃ t, laws_szAttr.f x y a = some t ∧ (t < 0 ∨ (0 ≤ t ∧ t ≤ a)) := by
  unfold laws_szAttr.f
  rw [wrap_id (a - (x.size : Int)) (by omega) (by omega)]
  by_cases c : a - (x.size : Int) < 0
  · rw [if_pos c]; exact ⟨_, rfl, .inl (by omega)⟩
  · rw [if_neg c, wrap_id (a - (x.size : Int) - (y.size : Int)) (by omega) (by omega)]
    by_cases c2 : a - (x.size : Int) - (y.size : Int) < 0
    · rw [if_pos c2]; exact ⟨_, rfl, .inl (by omega)⟩
    · rw [if_neg c2]; exact ⟨_, rfl, .inr ⟨by omega, by omega⟩⟩
theorem szAttrS_loop (suf : List S89) : ∀ (pre : List S89) (a : Int), (pre ++ suf).length ≤ 1048576 → (∀ x ∈ suf, GA x) → 0 ≤ a → a ≤ 1048576 →
    ∃ t, Ev (fun k => laws_szAttrS.l0 k (pre ++ suf) a ((pre.length : Nat) : Int)) t ∧ (t < 0 ∨ (0 ≤ t ∧ t ≤ a)) := by
  induction suf with
  | nil =>
    intro pre a h hg h0 h1
    refine ⟨a, Ev.at1 fun k => ?_, .inr ⟨h0, by omega⟩⟩
    simp only [laws_szAttrS.l0, List.append_nil]
    rw [if_neg (by omega)]
  | cons x suf IH =>
    intro pre a h hg h0 h1
    have hl : (pre ++ x :: suf).length = pre.length + 1 + suf.length := by simp; omega
    have hx := hg x (List.mem_cons_self ..)
    obtain ⟨t, ht, hr⟩ := szAttr_is x.f0 x.f1 a hx.1 hx.2 h0 h1
    have st : ∀ k, laws_szAttrS.l0 (k + 1) (pre ++ x :: suf) a ((pre.length : Nat) : Int) = if t < 0 then some (-1) else laws_szAttrS.l0 k (pre ++ x :: suf) t ((pre.length + 1 : Nat) : Int) := fun k => by
      simp only [laws_szAttrS.l0]
      rw [if_pos (by omega), if_pos (by omega), rdA_mid, ht, next_at _ (by omega)]
      rfl
    by_cases c : t < 0
    · exact ⟨-1, Ev.at1 fun k => by rw [st, if_pos c], .inl (by omega)⟩
    · obtain ⟨t2, e2, hr2⟩ := IH (pre ++ [x]) t (by simp at h ⊢; omega) (fun y hy => hg y (List.mem_cons_of_mem _ hy)) (by omega) (by omega)
      have e : pre ++ [x] ++ suf = pre ++ x :: suf := by simp
      rw [e, List.length_append] at e2
      refine ⟨t2, Ev.step (fun k => ?_) e2, ?_⟩
      · rw [st, if_neg c]; rfl
      · rcases hr2 with hr2 | ⟨a1, a2⟩
        · exact .inl hr2
        · exact .inr ⟨a1, by omega⟩
theorem szAttrS_ex (l : List S89) (a : Int) (h : l.length ≤ 9223372036854775807) (hg : ∀ x ∈ l, GA x) (h0 : 0 ≤ a) (h1 : a ≤ 1048576) : ∃ t, Ev (fun k => laws_szAttrS.f k l a) t ∧ (t < 0 ∨ (0 ≤ t ∧ t ≤ a ∧ l.length ≤ 1048576)) := by
  unfold laws_szAttrS.f
  rw [wrap_id (a - (l.length : Int)) (by omega) (by omega)]
  by_cases c : a - (l.length : Int) < 0
  · simp only [if_pos c]; exact ⟨_, Ev.now _, .inl (by omega)⟩
  · simp only [if_neg c]
    obtain ⟨t, e, hr⟩ := szAttrS_loop l [] (a - (l.length : Int)) (by simp; omega) hg (by omega) (by omega)
    refine ⟨t, e, ?_⟩
    rcases hr with hr | ⟨a1, a2⟩
    · exact .inl hr
    · exact .inr ⟨a1, by omega, by omega⟩
/-- What is counted within the bound. -/
def LI (x : S36) : Prop := x.f3.length ≤ 1048576 ∧ x.f6.length ≤ 1048576
theorem szItem_ex (x : S36) (hg : GI x) (a : Int) (h0 : 0 ≤ a) (h1 : a ≤ 1048576) : ∃ t, Ev (fun k => laws_szItem.f k x.f0 x.f1 x.f2 x.f3 x.f4 x.f5 x.f6 a) t ∧ (t < 0 ∨ (0 ≤ t ∧ t ≤ a ∧ LI x)) := by
  obtain ⟨g2, ⟨g3, g3a⟩, g4, g6⟩ := hg
  unfold laws_szItem.f
  rw [wrap_id (a - (x.f2.size : Int)) (by omega) (by omega)]
  by_cases c : a - (x.f2.size : Int) < 0
  · simp only [if_pos c]; exact ⟨_, Ev.now _, .inl (by omega)⟩
  · simp only [if_neg c]
    obtain ⟨t, e, hr⟩ := szAttrS_ex x.f3 (a - (x.f2.size : Int)) g3 g3a (by omega) (by omega)
    by_cases c2 : t < 0
    · refine ⟨-1, Ev.bind e ?_, .inl (by omega)⟩
      simp only [if_pos c2]; exact Ev.now _
    · have hw : wrap64 (t - (x.f4.size : Int)) = t - (x.f4.size : Int) := wrap_id _ (by omega) (by omega)
      by_cases c3 : t - (x.f4.size : Int) < 0
      · refine ⟨-1, Ev.bind e ?_, .inl (by omega)⟩
        simp only [if_neg c2, hw, if_pos c3]; exact Ev.now _
      · obtain ⟨t2, e2, hr2⟩ := szIntS_is x.f6 (t - (x.f4.size : Int)) g6 (by omega) (by omega)
        by_cases c4 : t2 < 0
        · refine ⟨-1, Ev.bind e ?_, .inl (by omega)⟩
          simp only [if_neg c2, hw, if_neg c3, e2, Option.bind_some, if_pos c4]; exact Ev.now _
        · refine ⟨t2, Ev.bind e ?_, .inr ⟨by omega, by omega, by omega, by omega⟩⟩
          simp only [if_neg c2, hw, if_neg c3, e2, Option.bind_some, if_neg c4]; exact Ev.now _
theorem szItemS_loop (suf : List S36) : ∀ (pre : List S36) (a : Int), (pre ++ suf).length ≤ 1048576 → (∀ x ∈ suf, GI x) → 0 ≤ a → a ≤ 1048576 →
    ∃ t, Ev (fun k => laws_szItemS.l0 k (pre ++ suf) a ((pre.length : Nat) : Int)) t ∧ (t < 0 ∨ (0 ≤ t ∧ t ≤ a ∧ ∀ x ∈ suf, LI x)) := by
  induction suf with
  | nil =>
    intro pre a h hg h0 h1
    refine ⟨a, Ev.at1 fun k => ?_, .inr ⟨h0, by omega, by simp⟩⟩
    simp only [laws_szItemS.l0, List.append_nil]
    rw [if_neg (by omega)]
  | cons x suf IH =>
    intro pre a h hg h0 h1
    have hl : (pre ++ x :: suf).length = pre.length + 1 + suf.length := by simp; omega
    obtain ⟨t, et, hr⟩ := szItem_ex x (hg x (List.mem_cons_self ..)) a h0 h1
    have st : ∀ k, laws_szItemS.l0 (k + 1) (pre ++ x :: suf) a ((pre.length : Nat) : Int) = (laws_szItem.f k x.f0 x.f1 x.f2 x.f3 x.f4 x.f5 x.f6 a).bind fun t => if t < 0 then some (-1) else laws_szItemS.l0 k (pre ++ x :: suf) t ((pre.length + 1 : Nat) : Int) := fun k => by
      simp only [laws_szItemS.l0]
      rw [if_pos (by omega), if_pos (by omega), rdI_mid, next_at _ (by omega)]
    by_cases c : t < 0
    · refine ⟨-1, Ev.step st (Ev.bind et ?_), .inl (by omega)⟩
      simp only [if_pos c]; exact Ev.now _
    · obtain ⟨t2, e2, hr2⟩ := IH (pre ++ [x]) t (by simp at h ⊢; omega) (fun y hy => hg y (List.mem_cons_of_mem _ hy)) (by omega) (by omega)
      have e : pre ++ [x] ++ suf = pre ++ x :: suf := by simp
      rw [e, List.length_append] at e2
      refine ⟨t2, Ev.step st (Ev.bind et ?_), ?_⟩
      · simp only [if_neg c]; exact e2
      · rcases hr2 with hr2 | ⟨a1, a2, a3⟩
        · exact .inl hr2
        · refine .inr ⟨a1, by omega, fun y hy => ?_⟩
          rcases List.mem_cons.1 hy with rfl | hy
          · rcases hr with hr | hr
            · exact absurd hr c
            · exact hr.2.2
          · exact a3 y hy
theorem szItemS_ex (l : List S36) (h : l.length ≤ 9223372036854775807) (hg : ∀ x ∈ l, GI x) : ∃ t, Ev (fun k => laws_szItemS.f k l 1048576) t ∧ (t < 0 ∨ (0 ≤ t ∧ l.length ≤ 1048576 ∧ ∀ x ∈ l, LI x)) := by
  unfold laws_szItemS.f
  rw [wrap_id (1048576 - (l.length : Int)) (by omega) (by omega)]
  by_cases c : 1048576 - (l.length : Int) < 0
  · simp only [if_pos c]; exact ⟨_, Ev.now _, .inl (by omega)⟩
  · simp only [if_neg c]
    obtain ⟨t, e, hr⟩ := szItemS_loop l [] (1048576 - (l.length : Int)) (by simp; omega) hg (by omega) (by omega)
    refine ⟨t, e, ?_⟩
    rcases hr with hr | ⟨a1, a2, a3⟩
    · exact .inl hr
    · exact .inr ⟨a1, by omega, a3⟩
/-! the copies -/
def cA (x : S89) : S91 := ⟨x.f0, x.f1⟩
def cI (x : S36) : S44 := ⟨x.f0, x.f1, x.f2, x.f3.map cA, x.f4, x.f5, x.f6⟩
theorem toAttrS_loop (l : List S89) (suf : List S89) : ∀ (pre : List S89), l = pre ++ suf → l.length ≤ 1048576 →
    Ev (fun k => laws_toAttrS.l0 k l (pre.map cA ++ List.replicate suf.length z91) ((pre.length : Nat) : Int)) (l.map cA) := by
  induction suf with
  | nil =>
    intro pre hl h
    refine Ev.at1 fun k => ?_
    simp only [laws_toAttrS.l0]
    rw [if_neg (by rw [hl]; simp)]
    simp [hl]
  | cons x suf IH =>
    intro pre hl h
    have hn : l.length = pre.length + 1 + suf.length := by rw [hl]; simp; omega
    have ih := IH (pre ++ [x]) (by rw [hl]; simp) h
    refine Ev.step (f := fun k => laws_toAttrS.l0 k l (pre.map cA ++ [cA x] ++ List.replicate suf.length z91) ((pre.length + 1 : Nat) : Int)) (fun k => ?_) ?_
    · simp only [laws_toAttrS.l0]
      have e : List.replicate (x :: suf).length z91 = z91 :: List.replicate suf.length z91 := rfl
      have hx : rd_T89 l ((pre.length : Nat) : Int) = x := by rw [hl]; exact rdA_mid pre x suf
      have hs := set_mid (pre.map cA) z91 (cA x) (List.replicate suf.length z91)
      rw [List.length_map] at hs
      rw [if_pos (by omega), if_pos (by omega), hx, e]
      unfold laws_toAttr.f
      simp only [Option.bind_some]
      rw [if_pos (by simp; omega), next_at _ (by omega)]
      show laws_toAttrS.l0 k l ((pre.map cA ++ z91 :: List.replicate suf.length z91).set _ (cA x)) _ = _
      rw [hs]
    · have e2 : (pre ++ [x]).length = pre.length + 1 := by simp
      rw [e2, List.map_append] at ih
      exact ih
theorem toAttrS_ev (l : List S89) (h : l.length ≤ 1048576) : Ev (fun k => laws_toAttrS.f k l) (l.map cA) := by
  unfold laws_toAttrS.f
  rw [Int.toNat_natCast]
  simp only [if_pos (show (0 : Int) ≤ (l.length : Int) by omega), if_pos (show l.length ≤ 8796093022208 by omega)]
  exact toAttrS_loop l l [] rfl h
theorem toItem_ev (x : S36) (h : LI x) : Ev (fun k => laws_toItem.f k x.f0 x.f1 x.f2 x.f3 x.f4 x.f5 x.f6) (x.f0, x.f1, x.f2, x.f3.map cA, x.f4, x.f5, x.f6) := by
  unfold laws_toItem.f
  exact Ev.bind (toAttrS_ev x.f3 h.1) (Ev.bind (toIntS_ev x.f6 (by have := h.2; omega)) (Ev.now _))
theorem toItemS_loop (l : List S36) (suf : List S36) : ∀ (pre : List S36), l = pre ++ suf → l.length ≤ 1048576 → (∀ x ∈ suf, LI x) →
    Ev (fun k => laws_toItemS.l0 k l (pre.map cI ++ List.replicate suf.length z44) ((pre.length : Nat) : Int)) (l.map cI) := by
  induction suf with
  | nil =>
    intro pre hl h hg
    refine Ev.at1 fun k => ?_
    simp only [laws_toItemS.l0]
    rw [if_neg (by rw [hl]; simp)]
    simp [hl]
  | cons x suf IH =>
    intro pre hl h hg
    have hn : l.length = pre.length + 1 + suf.length := by rw [hl]; simp; omega
    have ih := IH (pre ++ [x]) (by rw [hl]; simp) h (fun y hy => hg y (List.mem_cons_of_mem _ hy))
    have hx : rd_T36 l ((pre.length : Nat) : Int) = x := by rw [hl]; exact rdI_mid pre x suf
    refine Ev.step (f := fun k => (laws_toItem.f k x.f0 x.f1 x.f2 x.f3 x.f4 x.f5 x.f6).bind fun b => laws_toItemS.l0 k l (pre.map cI ++ [(⟨b.1, b.2.1, b.2.2.1, b.2.2.2.1, b.2.2.2.2.1, b.2.2.2.2.2.1, b.2.2.2.2.2.2⟩ : S44)] ++ List.replicate suf.length z44) ((pre.length + 1 : Nat) : Int)) (fun k => ?_) (Ev.bind (toItem_ev x (hg x (List.mem_cons_self ..))) ?_)
    · simp only [laws_toItemS.l0]
      have e : List.replicate (x :: suf).length z44 = z44 :: List.replicate suf.length z44 := rfl
      rw [if_pos (by omega), if_pos (by omega), hx, e]
      congr 1
      funext b
      have hs := set_mid (pre.map cI) z44 (⟨b.1, b.2.1, b.2.2.1, b.2.2.2.1, b.2.2.2.2.1, b.2.2.2.2.2.1, b.2.2.2.2.2.2⟩ : S44) (List.replicate suf.length z44)
      rw [List.length_map] at hs
      rw [if_pos (by simp; omega), next_at _ (by omega), hs]
    · have e2 : (pre ++ [x]).length = pre.length + 1 := by simp
      rw [e2, List.map_append] at ih
      exact ih
theorem toItemS_ev (l : List S36) (h : l.length ≤ 1048576) (hg : ∀ x ∈ l, LI x) : Ev (fun k => laws_toItemS.f k l) (l.map cI) := by
  unfold laws_toItemS.f
  rw [Int.toNat_natCast]
  simp only [if_pos (show (0 : Int) ≤ (l.length : Int) by omega), if_pos (show l.length ≤ 2706490160679 by omega)]
  exact toItemS_loop l l [] rfl h hg
/-! the sameness -/
theorem eqAttrS_loop (suf : List S91) : ∀ (pre : List S91), (pre ++ suf).length ≤ 2000000000000 → Ev (fun k => laws_eqAttrS.l0 k (pre ++ suf) (pre ++ suf) ((pre.length : Nat) : Int)) true := by
  induction suf with
  | nil =>
    intro pre h
    refine Ev.at1 fun k => ?_
    simp only [laws_eqAttrS.l0, List.append_nil]
    rw [if_neg (by omega)]
  | cons x suf IH =>
    intro pre h
    have hl : (pre ++ x :: suf).length = pre.length + 1 + suf.length := by simp; omega
    have ih := IH (pre ++ [x]) (by simp at h ⊢; omega)
    refine Ev.step (f := fun k => laws_eqAttrS.l0 k (pre ++ x :: suf) (pre ++ x :: suf) ((pre.length + 1 : Nat) : Int)) (fun k => ?_) ?_
    · simp only [laws_eqAttrS.l0]
      rw [if_pos (by omega), if_pos (by omega), if_pos (by omega), rdA2_mid, next_at _ (by omega)]
      unfold laws_eqAttr.f
      simp only [if_true, Option.bind_some]
    · have e : pre ++ [x] ++ suf = pre ++ x :: suf := by simp
      rw [e, List.length_append] at ih
      exact ih
theorem eqAttrS_same (l : List S91) (h : l.length ≤ 2000000000000) : Ev (fun k => laws_eqAttrS.f k l l) true := by
  unfold laws_eqAttrS.f
  simp only [if_true]
  exact eqAttrS_loop l [] h
theorem eqItem_same (x : S44) (h3 : x.f3.length ≤ 2000000000000) (h6 : x.f6.length ≤ 2000000000000) : Ev (fun k => laws_eqItem.f k x.f0 x.f1 x.f2 x.f3 x.f4 x.f5 x.f6 x.f0 x.f1 x.f2 x.f3 x.f4 x.f5 x.f6) true := by
  unfold laws_eqItem.f
  simp only [if_true]
  refine Ev.bind (eqAttrS_same x.f3 h3) ?_
  simp only [if_true]
  refine Ev.bind (eqIntS_same x.f6 h6) ?_
  simp only [if_true]
  exact Ev.now _
theorem eqItemS_loop (suf : List S44) : ∀ (pre : List S44), (pre ++ suf).length ≤ 2000000000000 → (∀ x ∈ suf, x.f3.length ≤ 2000000000000 ∧ x.f6.length ≤ 2000000000000) → Ev (fun k => laws_eqItemS.l0 k (pre ++ suf) (pre ++ suf) ((pre.length : Nat) : Int)) true := by
  induction suf with
  | nil =>
    intro pre h hg
    refine Ev.at1 fun k => ?_
    simp only [laws_eqItemS.l0, List.append_nil]
    rw [if_neg (by omega)]
  | cons x suf IH =>
    intro pre h hg
    have hl : (pre ++ x :: suf).length = pre.length + 1 + suf.length := by simp; omega
    have ih := IH (pre ++ [x]) (by simp at h ⊢; omega) (fun y hy => hg y (List.mem_cons_of_mem _ hy))
    have hx := hg x (List.mem_cons_self ..)
    refine Ev.step (f := fun k => (laws_eqItem.f k x.f0 x.f1 x.f2 x.f3 x.f4 x.f5 x.f6 x.f0 x.f1 x.f2 x.f3 x.f4 x.f5 x.f6).bind fun t => (if t = true then laws_eqItemS.l0 k (pre ++ x :: suf) (pre ++ x :: suf) ((pre.length + 1 : Nat) : Int) else some false)) (fun k => ?_) (Ev.bind (eqItem_same x hx.1 hx.2) ?_)
    · simp only [laws_eqItemS.l0]
      rw [if_pos (by omega), if_pos (by omega), if_pos (by omega), rdI2_mid, next_at _ (by omega)]
    · simp only [if_true]
      have e : pre ++ [x] ++ suf = pre ++ x :: suf := by simp
      rw [e, List.length_append] at ih
      exact ih
theorem eqItemS_same (l : List S44) (h : l.length ≤ 2000000000000) (hg : ∀ x ∈ l, x.f3.length ≤ 2000000000000 ∧ x.f6.length ≤ 2000000000000) : Ev (fun k => laws_eqItemS.f k l l) true := by
  unfold laws_eqItemS.f
  simp only [if_true]
  exact eqItemS_loop l [] h hg
theorem copied_small (l : List S36) (h : ∀ x ∈ l, LI x) : ∀ x ∈ l.map cI, x.f3.length ≤ 2000000000000 ∧ x.f6.length ≤ 2000000000000 := by
  intro x hx
  obtain ⟨y, hy, rfl⟩ := List.mem_map.1 hx
  have := h y hy
  obtain ⟨h1, h2⟩ := this
  refine ⟨?_, ?_⟩
  · show (y.f3.map cA).length ≤ _
    rw [List.length_map]; omega
  · show y.f6.length ≤ _
    omega

/-- Whether one item is reached from another by going up, in d steps. -/
def SU (l : List S44) (i : Int) : Nat → Int → Bool
  | 0, _ => false
  | d + 1, k => if 0 ≤ k ∧ k < l.length then (if k = i then true else SU l i d (rd_T44 l k).f5) else false
theorem spec_Under_loop (l : List S44) (i : Int) (hl : l.length ≤ 1048576) (d : Nat) : ∀ (n : Nat) (k : Int), n + d = l.length + 1 → Ev (fun q => spec_Under.l0 q l i k (n : Int)) (SU l i d k) := by
  induction d with
  | zero =>
    intro n k hn
    have j : ∀ q, spec_Under.j1 (q + 1) l i k (n : Int) false = some false := fun q => by simp only [spec_Under.j1, Bool.false_eq_true, if_false]
    refine Ev.step (f := fun q => spec_Under.j1 q l i k (n : Int) false) (fun q => ?_) (Ev.at1 j)
    simp only [spec_Under.l0]
    rw [if_neg (by omega)]
  | succ d IH =>
    intro n k hn
    have ih := fun k => IH (n + 1) k (by omega)
    have hw : wrap64 ((n : Int) + 1) = ((n + 1 : Nat) : Int) := by rw [wrap_id _ (by omega) (by omega)]; omega
    unfold SU
    by_cases c : 0 ≤ k ∧ k < (l.length : Int)
    · rw [if_pos c]
      refine Ev.step (f := fun q => spec_Under.j1 q l i k (n : Int) true) (fun q => ?_) ?_
      · simp only [spec_Under.l0]
        rw [if_pos (by omega), if_pos c.1, decide_eq_true c.2]
      · by_cases e : k = i
        · rw [if_pos e]
          refine Ev.at1 fun q => ?_
          simp only [spec_Under.j1, if_true]
          rw [if_pos e]
        · rw [if_neg e]
          refine Ev.step (fun q => ?_) (ih _)
          simp only [spec_Under.j1, if_true]
          rw [if_neg e, if_pos c.1, if_pos c.2, hw]
    · rw [if_neg c]
      have j : ∀ q, spec_Under.j1 (q + 1) l i k (n : Int) false = some false := fun q => by simp only [spec_Under.j1, Bool.false_eq_true, if_false]
      refine Ev.step (f := fun q => spec_Under.j1 q l i k (n : Int) false) (fun q => ?_) (Ev.at1 j)
      simp only [spec_Under.l0]
      rw [if_pos (by omega)]
      by_cases a : k ≥ 0
      · rw [if_pos a, decide_eq_false (fun h => c ⟨a, h⟩)]
      · rw [if_neg a]
theorem SU_out (l : List S44) (i : Int) (h : ¬ (0 ≤ i ∧ i < l.length)) (d : Nat) : ∀ k, SU l i d k = false := by
  induction d with
  | zero => intro k; rfl
  | succ d IH =>
    intro k
    unfold SU
    by_cases c : 0 ≤ k ∧ k < (l.length : Int)
    · rw [if_pos c, if_neg (fun e : k = i => h (by rw [← e]; exact c)), IH]
    · rw [if_neg c]
theorem impl_in (l : List S44) (hl : l.length ≤ 1048576) (k : Int) : impl_inRange.f k 0 (wrap64 ((l.length : Int) - 1)) = some (decide (0 ≤ k ∧ k < l.length)) := by
  rw [wrap_id _ (by omega) (by omega)]
  unfold impl_inRange.f
  by_cases a : k ≥ 0
  · rw [if_pos a]
    congr 1
    by_cases b : k < l.length
    · rw [decide_eq_true (show k ≤ (l.length : Int) - 1 by omega), decide_eq_true ⟨a, b⟩]
    · rw [decide_eq_false (show ¬ k ≤ (l.length : Int) - 1 by omega), decide_eq_false (fun h => b h.2)]
  · rw [if_neg a, decide_eq_false (fun h => a h.1)]
theorem impl_Under_loop (l : List S44) (i : Int) (hl : l.length ≤ 1048576) (hi : 0 ≤ i ∧ i < l.length) (d : Nat) : ∀ (n : Nat) (k : Int), n + d = l.length → Ev (fun q => impl_Under.l0 q l i k (l.length : Int) (n : Int)) (SU l i (d + 1) k) := by
  induction d with
  | zero =>
    intro n k hn
    refine Ev.at1 fun q => ?_
    simp only [impl_Under.l0]
    rw [if_neg (by omega)]
    unfold SU
    by_cases e : k = i
    · rw [e, if_pos hi, if_pos rfl, beq_self_eq_true]
    · rw [if_neg e, beq_eq_false_iff_ne.mpr e]
      split <;> rfl
  | succ d IH =>
    intro n k hn
    have ih := fun k => IH (n + 1) k (by omega)
    have hw : wrap64 ((n : Int) + 1) = ((n + 1 : Nat) : Int) := by rw [wrap_id _ (by omega) (by omega)]; omega
    unfold SU
    by_cases e : k = i
    · rw [e, if_pos hi, if_pos rfl]
      refine Ev.at1 fun q => ?_
      simp only [impl_Under.l0]
      rw [if_pos (by omega), if_pos trivial]
    · rw [if_neg e]
      by_cases c : 0 ≤ k ∧ k < (l.length : Int)
      · rw [if_pos c]
        refine Ev.step (fun q => ?_) (ih _)
        simp only [impl_Under.l0]
        rw [if_pos (by omega), if_neg e, impl_in l hl, decide_eq_true c]
        simp only [Option.bind_some, if_true]
        rw [if_pos c.1, if_pos c.2, hw]
      · rw [if_neg c]
        refine Ev.at1 fun q => ?_
        simp only [impl_Under.l0]
        rw [if_pos (by omega), if_neg e, impl_in l hl, decide_eq_false c]
        simp only [Option.bind_some, Bool.false_eq_true, if_false]
theorem spec_Under_ev (l : List S44) (i k : Int) (hl : l.length ≤ 1048576) : Ev (fun q => spec_Under.f q l i k) (SU l i (l.length + 1) k) := by
  unfold spec_Under.f
  exact spec_Under_loop l i hl (l.length + 1) 0 k (by omega)
theorem impl_Under_ev (l : List S44) (i k : Int) (hl : l.length ≤ 1048576) : Ev (fun q => impl_Under.f q l i k) (SU l i (l.length + 1) k) := by
  unfold impl_Under.f
  rw [impl_in l hl]
  simp only [Option.bind_some]
  by_cases hi : 0 ≤ i ∧ i < (l.length : Int)
  · rw [decide_eq_true hi]
    simp only [if_true]
    exact impl_Under_loop l i hl hi l.length 0 k (by omega)
  · rw [decide_eq_false hi, SU_out l i hi]
    simp only [Bool.false_eq_true, if_false]
    exact Ev.now _
theorem FnExactUnder (l : List S36) (i k : Int) (h : l.length ≤ 9223372036854775807) (hg : ∀ x ∈ l, GI x) : ∃ q, laws_FnExactUnder.f q l i k = some true := by
  refine Ev.rounds (r := true) ?_
  unfold laws_FnExactUnder.f
  obtain ⟨t, et, hr⟩ := szItemS_ex l h hg
  refine Ev.bind et ?_
  by_cases c : t < 0
  · simp only [if_pos c]; exact Ev.now _
  · simp only [if_neg c]
    obtain ⟨_, hl, hL⟩ : 0 ≤ t ∧ l.length ≤ 1048576 ∧ ∀ x ∈ l, LI x := by
      rcases hr with hr | hr
      · exact absurd hr c
      · exact hr
    have ti := toItemS_ev l hl hL
    have hl2 : (l.map cI).length ≤ 1048576 := by rw [List.length_map]; exact hl
    refine Ev.bind ti (Ev.bind (spec_Under_ev (l.map cI) i k hl2) (Ev.bind ti (Ev.bind (impl_Under_ev (l.map cI) i k hl2) ?_)))
    simp only [bne_self_eq_false, Bool.false_eq_true, if_false]
    refine Ev.bind ti (Ev.bind (eqItemS_same (l.map cI) (by omega) (copied_small l hL)) ?_)
    simp only [if_true]
    exact Ev.now _

end Go.Proofs.Ytbgedpicfllclaa.Pure
