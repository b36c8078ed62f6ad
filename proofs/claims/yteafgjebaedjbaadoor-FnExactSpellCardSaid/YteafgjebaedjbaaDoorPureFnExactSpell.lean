/- The statement of FnExactSpell, over the printed functions: it is true for every input within memory. -/
import Derived.Test.YteafgjebaedjbaaDoorPFnExactSpellx0
import Derived.Test.YteafgjebaedjbaaDoorPFnExactSpellx1
import Derived.Test.YteafgjebaedjbaaDoorPFnExactSpellx2
import Derived.Test.YteafgjebaedjbaaDoorPFnExactSpellx3
import Derived.Test.YteafgjebaedjbaaDoorPFnExactSpellx4
import Derived.Test.YteafgjebaedjbaaDoorPFnExactSpellx5
import Derived.Lib.ReplaceLaws
import Derived.Lib.CountLaws
namespace Go.Proofs.YteafgjebaedjbaaDoor.Pure
open Go.RowKit Go.Proofs.YteafgjebaedjbaaDoor.PFnExactSpell Go.Proofs.YteafgjebaedjbaaDoorW.PrintWords Go.Proofs.YteafgjebaedjbaaDoorW.PrintLast
set_option linter.unusedVariables false
set_option linter.unusedSimpArgs false

theorem Ev.yes {α : Type} {g : Nat → Option α} {r : α} (h : ∀ k, g k = some r) : Ev g r := ⟨0, fun k _ => h k⟩
theorem Ev.at1 {α : Type} {g : Nat → Option α} {r : α} (h : ∀ k, g (k + 1) = some r) : Ev g r := Ev.step (f := fun _ => some r) h (Ev.now r)
theorem wrap_id (n : Int) (h0 : -9223372036854775808 ≤ n) (h1 : n ≤ 9223372036854775807) : wrap64 n = n := by unfold wrap64; omega

theorem set_mid {α : Type} (pre : List α) (x y : α) (suf : List α) : (pre ++ x :: suf).set ((pre.length : Nat) : Int).toNat y = (pre ++ [y]) ++ suf := by
  rw [Int.toNat_natCast]
  simp
theorem next_at (n : Nat) (h : n ≤ 2000000000000) : wrap64 ((n : Int) + 1) = ((n + 1 : Nat) : Int) := by
  rw [wrap_id _ (by omega) (by omega)]
  omega

-- nested words: sizes, copies, sameness (S52, S88 come in; S55, S78 are the copies)
theorem rdA_mid (pre : List S88) (x : S88) (suf : List S88) : rd_T88 (pre ++ x :: suf) ((pre.length : Nat) : Int) = x := by
  unfold rd_T88
  rw [Int.toNat_natCast]
  simp
theorem rdI_mid (pre : List S52) (x : S52) (suf : List S52) : rd_T52 (pre ++ x :: suf) ((pre.length : Nat) : Int) = x := by
  unfold rd_T52
  rw [Int.toNat_natCast]
  simp
theorem rdA2_mid (pre : List S78) (x : S78) (suf : List S78) : rd_T78 (pre ++ x :: suf) ((pre.length : Nat) : Int) = x := by
  unfold rd_T78
  rw [Int.toNat_natCast]
  simp
theorem rdI2_mid (pre : List S55) (x : S55) (suf : List S55) : rd_T55 (pre ++ x :: suf) ((pre.length : Nat) : Int) = x := by
  unfold rd_T55
  rw [Int.toNat_natCast]
  simp
def cA (x : S88) : S78 := ⟨x.f0, x.f1⟩
def cI (x : S52) : S55 := ⟨x.f0, x.f1, x.f2.map cA, x.f3, x.f4⟩
/-- What is counted. -/
def vA (x : S78) : Nat := 1 + x.f0.size + x.f1.size
def vAs : List S78 → Nat
  | [] => 0
  | x :: l => vA x + vAs l
def vT (x : S55) : Nat := 1 + x.f1.size + vAs x.f2 + x.f3.size
def vTs : List S55 → Nat
  | [] => 0
  | x :: l => vT x + vTs l
theorem vAs_len : ∀ l : List S78, l.length ≤ vAs l
  | [] => Nat.le_refl _
  | x :: l => by have := vAs_len l; simp only [List.length_cons, vAs, vA]; omega
theorem vTs_len : ∀ l : List S55, l.length ≤ vTs l
  | [] => Nat.le_refl _
  | x :: l => by have := vTs_len l; simp only [List.length_cons, vTs, vT]; omega
theorem vTs_mem : ∀ (l : List S55) (x : S55), x ∈ l → vT x ≤ vTs l
  | [], x, h => by simp at h
  | y :: l, x, h => by
    rcases List.mem_cons.1 h with rfl | h
    · simp only [vTs]; omega
    · have := vTs_mem l x h; simp only [vTs]; omega
/-- No text and no row is longer than memory bears. -/
def GA (a : S88) : Prop := a.f0.size ≤ 9223372036854775807 ∧ a.f1.size ≤ 9223372036854775807
def GK (x : S52) : Prop := x.f1.size ≤ 9223372036854775807 ∧ (x.f2.length ≤ 9223372036854775807 ∧ ∀ a ∈ x.f2, GA a) ∧ x.f3.size ≤ 9223372036854775807
theorem szAttr_is (x y : ByteArray) (a : Int) (hx : x.size ≤ 9223372036854775807) (hy : y.size ≤ 9223372036854775807) (h0 : 0 ≤ a) (h1 : a ≤ 1048576) : ∃ t, laws_szAttr.f x y a = some t ∧ (t < 0 ∨ (0 ≤ t ∧ t + (x.size : Int) + (y.size : Int) = a)) := by
  unfold laws_szAttr.f
  rw [wrap_id (a - (x.size : Int)) (by omega) (by omega)]
  by_cases c : a - (x.size : Int) < 0
  · rw [if_pos c]; exact ⟨_, rfl, .inl (by omega)⟩
  · rw [if_neg c, wrap_id (a - (x.size : Int) - (y.size : Int)) (by omega) (by omega)]
    by_cases c2 : a - (x.size : Int) - (y.size : Int) < 0
    · rw [if_pos c2]; exact ⟨_, rfl, .inl (by omega)⟩
    · rw [if_neg c2]; exact ⟨_, rfl, .inr ⟨by omega, by omega⟩⟩
theorem szAttrS_loop (suf : List S88) : ∀ (pre : List S88) (a : Int), (pre ++ suf).length ≤ 1048576 → (∀ x ∈ suf, GA x) → 0 ≤ a → a ≤ 1048576 →
    ∃ t, Ev (fun k => laws_szAttrS.l0 k (pre ++ suf) a ((pre.length : Nat) : Int)) t ∧ (t < 0 ∨ (0 ≤ t ∧ t + (vAs (suf.map cA) : Int) = a + (suf.length : Int))) := by
  induction suf with
  | nil =>
    intro pre a h hg h0 h1
    refine ⟨a, Ev.at1 fun k => ?_, .inr ⟨h0, by simp [vAs]⟩⟩
    simp only [laws_szAttrS.l0, List.append_nil]
    rw [if_neg (by omega)]
  | cons x suf IH =>
    intro pre a h hg h0 h1
    have hl : (pre ++ x :: suf).length = pre.length + 1 + suf.length := by simp; omega
    have hx := hg x (List.mem_cons_self ..)
    obtain ⟨t, ht, hr⟩ := szAttr_is x.f0 x.f1 a hx.1 hx.2 h0 h1
    have st : ∀ k, laws_szAttrS.l0 (k + 1) (pre ++ x :: suf) a ((pre.length : Nat) : Int) = if t < 0 then some (-1) else laws_szAttrS.l0 k (pre ++ x :: suf) t ((pre.length + 1 : Nat) : Int) := fun k => by
      simp only [laws_szAttrS.l0]
      rw [if_pos (by omega), if_pos (by omega), rdA_mid, ht, next_at _ (by omega)]
      rfl
    by_cases c : t < 0
    · exact ⟨-1, Ev.at1 fun k => by rw [st, if_pos c], .inl (by omega)⟩
    · obtain ⟨t2, e2, hr2⟩ := IH (pre ++ [x]) t (by simp at h ⊢; omega) (fun y hy => hg y (List.mem_cons_of_mem _ hy)) (by omega) (by omega)
      have e : pre ++ [x] ++ suf = pre ++ x :: suf := by simp
      rw [e, List.length_append] at e2
      refine ⟨t2, Ev.step (fun k => ?_) e2, ?_⟩
      · rw [st, if_neg c]; rfl
      · rcases hr2 with hr2 | ⟨a1, a2⟩
        · exact .inl hr2
        · refine .inr ⟨a1, ?_⟩
          have hv : vAs ((x :: suf).map cA) = (1 + x.f0.size + x.f1.size) + vAs (suf.map cA) := rfl
          rw [hv, List.length_cons]
          omega
theorem szAttrS_ex (l : List S88) (a : Int) (h : l.length ≤ 9223372036854775807) (hg : ∀ x ∈ l, GA x) (h0 : 0 ≤ a) (h1 : a ≤ 1048576) : ∃ t, Ev (fun k => laws_szAttrS.f k l a) t ∧ (t < 0 ∨ (0 ≤ t ∧ t + (vAs (l.map cA) : Int) = a)) := by
  unfold laws_szAttrS.f
  rw [wrap_id (a - (l.length : Int)) (by omega) (by omega)]
  by_cases c : a - (l.length : Int) < 0
  · simp only [if_pos c]; exact ⟨_, Ev.now _, .inl (by omega)⟩
  · simp only [if_neg c]
    obtain ⟨t, e, hr⟩ := szAttrS_loop l [] (a - (l.length : Int)) (by simp; omega) hg (by omega) (by omega)
    refine ⟨t, e, ?_⟩
    rcases hr with hr | ⟨a1, a2⟩
    · exact .inl hr
    · exact .inr ⟨a1, by omega⟩
theorem szToken_ex (x : S52) (hg : GK x) (a : Int) (h0 : 0 ≤ a) (h1 : a ≤ 1048576) : ∃ t, Ev (fun k => laws_szToken.f k x.f0 x.f1 x.f2 x.f3 x.f4 a) t ∧ (t < 0 ∨ (0 ≤ t ∧ t + (vT (cI x) : Int) = a + 1)) := by
  obtain ⟨g1, ⟨g2, g2a⟩, g3⟩ := hg
  unfold laws_szToken.f
  rw [wrap_id (a - (x.f1.size : Int)) (by omega) (by omega)]
  by_cases c : a - (x.f1.size : Int) < 0
  · simp only [if_pos c]; exact ⟨_, Ev.now _, .inl (by omega)⟩
  · simp only [if_neg c]
    obtain ⟨t, e, hr⟩ := szAttrS_ex x.f2 (a - (x.f1.size : Int)) g2 g2a (by omega) (by omega)
    by_cases c2 : t < 0
    · refine ⟨-1, Ev.bind e ?_, .inl (by omega)⟩
      simp only [if_pos c2]; exact Ev.now _
    · have hw : wrap64 (t - (x.f3.size : Int)) = t - (x.f3.size : Int) := wrap_id _ (by omega) (by omega)
      by_cases c3 : t - (x.f3.size : Int) < 0
      · refine ⟨-1, Ev.bind e ?_, .inl (by omega)⟩
        simp only [if_neg c2, hw, if_pos c3]; exact Ev.now _
      · have hv : vT (cI x) = 1 + x.f1.size + vAs (x.f2.map cA) + x.f3.size := rfl
        refine ⟨t - (x.f3.size : Int), Ev.bind e ?_, .inr ⟨by omega, by rw [hv]; omega⟩⟩
        simp only [if_neg c2, hw, if_neg c3]; exact Ev.now _
theorem szTokenS_loop (suf : List S52) : ∀ (pre : List S52) (a : Int), (pre ++ suf).length ≤ 1048576 → (∀ x ∈ suf, GK x) → 0 ≤ a → a ≤ 1048576 →
    ∃ t, Ev (fun k => laws_szTokenS.l0 k (pre ++ suf) a ((pre.length : Nat) : Int)) t ∧ (t < 0 ∨ (0 ≤ t ∧ t + (vTs (suf.map cI) : Int) = a + (suf.length : Int))) := by
  induction suf with
  | nil =>
    intro pre a h hg h0 h1
    refine ⟨a, Ev.at1 fun k => ?_, .inr ⟨h0, by simp [vTs]⟩⟩
    simp only [laws_szTokenS.l0, List.append_nil]
    rw [if_neg (by omega)]
  | cons x suf IH =>
    intro pre a h hg h0 h1
    have hl : (pre ++ x :: suf).length = pre.length + 1 + suf.length := by simp; omega
    obtain ⟨t, et, hr⟩ := szToken_ex x (hg x (List.mem_cons_self ..)) a h0 h1
    have hv1 : 1 ≤ vT (cI x) := by unfold vT; omega
    have st : ∀ k, laws_szTokenS.l0 (k + 1) (pre ++ x :: suf) a ((pre.length : Nat) : Int) = (laws_szToken.f k x.f0 x.f1 x.f2 x.f3 x.f4 a).bind fun t => if t < 0 then some (-1) else laws_szTokenS.l0 k (pre ++ x :: suf) t ((pre.length + 1 : Nat) : Int) := fun k => by
      simp only [laws_szTokenS.l0]
      rw [if_pos (by omega), if_pos (by omega), rdI_mid, next_at _ (by omega)]
    by_cases c : t < 0
    · refine ⟨-1, Ev.step st (Ev.bind et ?_), .inl (by omega)⟩
      simp only [if_pos c]; exact Ev.now _
    · obtain ⟨t2, e2, hr2⟩ := IH (pre ++ [x]) t (by simp at h ⊢; omega) (fun y hy => hg y (List.mem_cons_of_mem _ hy)) (by omega) (by omega)
      have e : pre ++ [x] ++ suf = pre ++ x :: suf := by simp
      rw [e, List.length_append] at e2
      refine ⟨t2, Ev.step st (Ev.bind et ?_), ?_⟩
      · simp only [if_neg c]; exact e2
      · rcases hr2 with hr2 | ⟨a1, a2⟩
        · exact .inl hr2
        · refine .inr ⟨a1, ?_⟩
          have hv : vTs ((x :: suf).map cI) = vT (cI x) + vTs (suf.map cI) := rfl
          rw [hv, List.length_cons]
          omega
theorem szTokenS_ex (l : List S52) (h : l.length ≤ 9223372036854775807) (hg : ∀ x ∈ l, GK x) : ∃ t, Ev (fun k => laws_szTokenS.f k l 1048576) t ∧ (t < 0 ∨ (0 ≤ t ∧ vTs (l.map cI) ≤ 1048576)) := by
  unfold laws_szTokenS.f
  rw [wrap_id (1048576 - (l.length : Int)) (by omega) (by omega)]
  by_cases c : 1048576 - (l.length : Int) < 0
  · simp only [if_pos c]; exact ⟨_, Ev.now _, .inl (by omega)⟩
  · simp only [if_neg c]
    obtain ⟨t, e, hr⟩ := szTokenS_loop l [] (1048576 - (l.length : Int)) (by simp; omega) hg (by omega) (by omega)
    refine ⟨t, e, ?_⟩
    rcases hr with hr | ⟨a1, a2⟩
    · exact .inl hr
    · exact .inr ⟨a1, by omega⟩
/-! the copies -/
theorem toAttrS_loop (l : List S88) (suf : List S88) : ∀ (pre : List S88), l = pre ++ suf → l.length ≤ 1048576 →
    Ev (fun k => laws_toAttrS.l0 k l (pre.map cA ++ List.replicate suf.length z78) ((pre.length : Nat) : Int)) (l.map cA) := by
  induction suf with
  | nil =>
    intro pre hl h
    refine Ev.at1 fun k => ?_
    simp only [laws_toAttrS.l0]
    rw [if_neg (by rw [hl]; simp)]
    simp [hl]
  | cons x suf IH =>
    intro pre hl h
    have hn : l.length = pre.length + 1 + suf.length := by rw [hl]; simp; omega
    have ih := IH (pre ++ [x]) (by rw [hl]; simp) h
    refine Ev.step (f := fun k => laws_toAttrS.l0 k l (pre.map cA ++ [cA x] ++ List.replicate suf.length z78) ((pre.length + 1 : Nat) : Int)) (fun k => ?_) ?_
    · simp only [laws_toAttrS.l0]
      have e : List.replicate (x :: suf).length z78 = z78 :: List.replicate suf.length z78 := rfl
      have hx : rd_T88 l ((pre.length : Nat) : Int) = x := by rw [hl]; exact rdA_mid pre x suf
      have hs := set_mid (pre.map cA) z78 (cA x) (List.replicate suf.length z78)
      rw [List.length_map] at hs
      rw [if_pos (by omega), if_pos (by omega), hx, e]
      unfold laws_toAttr.f
      simp only [Option.bind_some]
      rw [if_pos (by simp; omega), next_at _ (by omega)]
      show laws_toAttrS.l0 k l ((pre.map cA ++ z78 :: List.replicate suf.length z78).set _ (cA x)) _ = _
      rw [hs]
    · have e2 : (pre ++ [x]).length = pre.length + 1 := by simp
      rw [e2, List.map_append] at ih
      exact ih
theorem toAttrS_ev (l : List S88) (h : l.length ≤ 1048576) : Ev (fun k => laws_toAttrS.f k l) (l.map cA) := by
  unfold laws_toAttrS.f
  rw [Int.toNat_natCast]
  simp only [if_pos (show (0 : Int) ≤ (l.length : Int) by omega), if_pos (show l.length ≤ 8796093022208 by omega)]
  exact toAttrS_loop l l [] rfl h
theorem toToken_ev (x : S52) (h : x.f2.length ≤ 1048576) : Ev (fun k => laws_toToken.f k x.f0 x.f1 x.f2 x.f3 x.f4) (x.f0, x.f1, x.f2.map cA, x.f3, x.f4) := by
  unfold laws_toToken.f
  exact Ev.bind (toAttrS_ev x.f2 h) (Ev.now _)
theorem toTokenS_loop (l : List S52) (suf : List S52) : ∀ (pre : List S52), l = pre ++ suf → l.length ≤ 1048576 → (∀ x ∈ suf, x.f2.length ≤ 1048576) →
    Ev (fun k => laws_toTokenS.l0 k l (pre.map cI ++ List.replicate suf.length z55) ((pre.length : Nat) : Int)) (l.map cI) := by
  induction suf with
  | nil =>
    intro pre hl h hg
    refine Ev.at1 fun k => ?_
    simp only [laws_toTokenS.l0]
    rw [if_neg (by rw [hl]; simp)]
    simp [hl]
  | cons x suf IH =>
    intro pre hl h hg
    have hn : l.length = pre.length + 1 + suf.length := by rw [hl]; simp; omega
    have ih := IH (pre ++ [x]) (by rw [hl]; simp) h (fun y hy => hg y (List.mem_cons_of_mem _ hy))
    have hx : rd_T52 l ((pre.length : Nat) : Int) = x := by rw [hl]; exact rdI_mid pre x suf
    refine Ev.step (f := fun k => (laws_toToken.f k x.f0 x.f1 x.f2 x.f3 x.f4).bind fun b => laws_toTokenS.l0 k l (pre.map cI ++ [(⟨b.1, b.2.1, b.2.2.1, b.2.2.2.1, b.2.2.2.2⟩ : S55)] ++ List.replicate suf.length z55) ((pre.length + 1 : Nat) : Int)) (fun k => ?_) (Ev.bind (toToken_ev x (hg x (List.mem_cons_self ..))) ?_)
    · simp only [laws_toTokenS.l0]
      have e : List.replicate (x :: suf).length z55 = z55 :: List.replicate suf.length z55 := rfl
      rw [if_pos (by omega), if_pos (by omega), hx, e]
      congr 1
      funext b
      have hs := set_mid (pre.map cI) z55 (⟨b.1, b.2.1, b.2.2.1, b.2.2.2.1, b.2.2.2.2⟩ : S55) (List.replicate suf.length z55)
      rw [List.length_map] at hs
      rw [if_pos (by simp; omega), next_at _ (by omega), hs]
    · have e2 : (pre ++ [x]).length = pre.length + 1 := by simp
      rw [e2, List.map_append] at ih
      exact ih
theorem toTokenS_ev (l : List S52) (h : l.length ≤ 1048576) (hg : ∀ x ∈ l, x.f2.length ≤ 1048576) : Ev (fun k => laws_toTokenS.f k l) (l.map cI) := by
  unfold laws_toTokenS.f
  rw [Int.toNat_natCast]
  simp only [if_pos (show (0 : Int) ≤ (l.length : Int) by omega), if_pos (show l.length ≤ 3909374676536 by omega)]
  exact toTokenS_loop l l [] rfl h hg
/-! the sameness -/
theorem eqAttrS_loop (suf : List S78) : ∀ (pre : List S78), (pre ++ suf).length ≤ 2000000000000 → Ev (fun k => laws_eqAttrS.l0 k (pre ++ suf) (pre ++ suf) ((pre.length : Nat) : Int)) true := by
  induction suf with
  | nil =>
    intro pre h
    refine Ev.at1 fun k => ?_
    simp only [laws_eqAttrS.l0, List.append_nil]
    rw [if_neg (by omega)]
  | cons x suf IH =>
    intro pre h
    have hl : (pre ++ x :: suf).length = pre.length + 1 + suf.length := by simp; omega
    have ih := IH (pre ++ [x]) (by simp at h ⊢; omega)
    refine Ev.step (f := fun k => laws_eqAttrS.l0 k (pre ++ x :: suf) (pre ++ x :: suf) ((pre.length + 1 : Nat) : Int)) (fun k => ?_) ?_
    · simp only [laws_eqAttrS.l0]
      rw [if_pos (by omega), if_pos (by omega), if_pos (by omega), rdA2_mid, next_at _ (by omega)]
      unfold laws_eqAttr.f
      simp only [if_true, Option.bind_some]
    · have e : pre ++ [x] ++ suf = pre ++ x :: suf := by simp
      rw [e, List.length_append] at ih
      exact ih
theorem eqAttrS_same (l : List S78) (h : l.length ≤ 2000000000000) : Ev (fun k => laws_eqAttrS.f k l l) true := by
  unfold laws_eqAttrS.f
  simp only [if_true]
  exact eqAttrS_loop l [] h
theorem eqToken_same (x : S55) (h : x.f2.length ≤ 2000000000000) : Ev (fun k => laws_eqToken.f k x.f0 x.f1 x.f2 x.f3 x.f4 x.f0 x.f1 x.f2 x.f3 x.f4) true := by
  unfold laws_eqToken.f
  simp only [if_true]
  refine Ev.bind (eqAttrS_same x.f2 h) ?_
  simp only [if_true, bne_self_eq_false, Bool.false_eq_true, if_false]
  exact Ev.now _
theorem eqTokenS_loop (suf : List S55) : ∀ (pre : List S55), (pre ++ suf).length ≤ 2000000000000 → (∀ x ∈ suf, x.f2.length ≤ 2000000000000) → Ev (fun k => laws_eqTokenS.l0 k (pre ++ suf) (pre ++ suf) ((pre.length : Nat) : Int)) true := by
  induction suf with
  | nil =>
    intro pre h hg
    refine Ev.at1 fun k => ?_
    simp only [laws_eqTokenS.l0, List.append_nil]
    rw [if_neg (by omega)]
  | cons x suf IH =>
    intro pre h hg
    have hl : (pre ++ x :: suf).length = pre.length + 1 + suf.length := by simp; omega
    have ih := IH (pre ++ [x]) (by simp at h ⊢; omega) (fun y hy => hg y (List.mem_cons_of_mem _ hy))
    have hx := hg x (List.mem_cons_self ..)
    refine Ev.step (f := fun k => (laws_eqToken.f k x.f0 x.f1 x.f2 x.f3 x.f4 x.f0 x.f1 x.f2 x.f3 x.f4).bind fun t => (if t = true then laws_eqTokenS.l0 k (pre ++ x :: suf) (pre ++ x :: suf) ((pre.length + 1 : Nat) : Int) else some false)) (fun k => ?_) (Ev.bind (eqToken_same x hx) ?_)
    · simp only [laws_eqTokenS.l0]
      rw [if_pos (by omega), if_pos (by omega), if_pos (by omega), rdI2_mid, next_at _ (by omega)]
    · simp only [if_true]
      have e : pre ++ [x] ++ suf = pre ++ x :: suf := by simp
      rw [e, List.length_append] at ih
      exact ih
theorem eqTokenS_same (l : List S55) (h : l.length ≤ 2000000000000) (hg : ∀ x ∈ l, x.f2.length ≤ 2000000000000) : Ev (fun k => laws_eqTokenS.f k l l) true := by
  unfold laws_eqTokenS.f
  simp only [if_true]
  exact eqTokenS_loop l [] h hg

/-- All instances replaced, in the library's words. -/
def RA (old new l : List UInt8) : List UInt8 := Lib.replaceK old new (Lib.count l old) l
theorem RA_is (old new l : List UInt8) (h : old ≠ new) : Lib.replaceAll l old new = RA old new l := by
  have e : (old == new) = false := beq_eq_false_iff_ne.mpr h
  unfold Lib.replaceAll Lib.replace Lib.replaceNum RA
  rw [e]
  simp
theorem RA_nil (old new : List UInt8) (h : old ≠ []) : RA old new [] = [] := by
  have hi : Lib.index [] old = -1 := by
    cases old with
    | nil => exact absurd rfl h
    | cons a t => rfl
  unfold RA
  rw [Lib.count_miss hi]
  rfl
theorem RA_hit (old new : List UInt8) (b : UInt8) (l : List UInt8) (h : old ≠ []) (hp : old.isPrefixOf (b :: l) = true) : RA old new (b :: l) = new ++ RA old new ((b :: l).drop old.length) := by
  have hi : Lib.index (b :: l) old = ((0 : Nat) : Int) := by unfold Lib.index; rw [if_pos hp]; rfl
  unfold RA
  rw [Lib.count_hit h hi, Nat.add_comm 1, Lib.replaceK_hit old new _ _ 0 hi, Nat.zero_add]
  simp
theorem RA_step (old new : List UInt8) (b : UInt8) (l : List UInt8) (h : old ≠ []) (hp : old.isPrefixOf (b :: l) = false) : RA old new (b :: l) = b :: RA old new l := by
  have hge := Lib.index_ge l old
  by_cases hm : Lib.index l old = -1
  · have hi : Lib.index (b :: l) old = -1 := by unfold Lib.index; rw [hp, hm]; rfl
    unfold RA
    rw [Lib.count_miss hi, Lib.count_miss hm]
    rfl
  · obtain ⟨j, hj⟩ : ∃ j : Nat, Lib.index l old = (j : Int) := ⟨(Lib.index l old).toNat, by omega⟩
    have hi : Lib.index (b :: l) old = ((j + 1 : Nat) : Int) := by
      unfold Lib.index
      rw [hp, hj]
      have : ((j : Int) == -1) = false := beq_eq_false_iff_ne.mpr (by omega)
      simp [this]
    unfold RA
    rw [Lib.count_hit h hi, Lib.count_hit h hj, Nat.add_comm 1, Nat.add_comm 1, Lib.replaceK_hit old new _ _ (j + 1) hi, Lib.replaceK_hit old new _ _ j hj]
    have e : (b :: l).drop (j + 1 + old.length) = l.drop (j + old.length) := by
      rw [show j + 1 + old.length = (j + old.length) + 1 by omega]
      rfl
    rw [e]
    simp
theorem size_of (l : List UInt8) : (⟨l.toArray⟩ : ByteArray).size = l.length := by simp [ByteArray.size]
theorem drop_byte (s : ByteArray) (i : Nat) (h : i < s.size) : s.data.toList.drop i = byteAt s (i : Int) :: s.data.toList.drop (i + 1) := by
  have h2 : i < s.data.toList.length := by rw [data_length]; exact h
  rw [List.drop_eq_getElem_cons h2]
  congr 1
  have e : s.data.toList[i] = s[i]'h := by rw [Array.getElem_toList]; rfl
  unfold byteAt bt
  rw [Int.toNat_natCast, dif_pos h, e]
  simp

theorem replaceAll_big (s old new : ByteArray) (h : s.size ≤ 100000000) (ho : 1 ≤ old.size) (hn : new.size ≤ 1000) : strings_ReplaceAll.f s old new = some ⟨(Lib.replaceAll s.data.toList old.data.toList new.data.toList).toArray⟩ := by
  unfold strings_ReplaceAll.f
  have hc := Lib.countB_mul_le old ho s.size s (Nat.le_refl _)
  have hc2 : Lib.countB s old ≤ s.size := Nat.le_trans (Nat.le_mul_of_pos_right _ (by omega)) hc
  have hc3 : Lib.countB s old * new.size ≤ 100000000 * 1000 := Nat.mul_le_mul (by omega) hn
  rw [if_pos ⟨by omega, ho, by omega⟩]
theorem RA_any (c : UInt8) (new : List UInt8) : ∀ l : List UInt8, RA [c] new l = l.flatMap fun b => if b = c then new else [b]
  | [] => RA_nil _ _ (by simp)
  | b :: t => by
    by_cases hb : b = c
    · have hp : ([c] : List UInt8).isPrefixOf (b :: t) = true := by simp [List.isPrefixOf, hb]
      rw [RA_hit [c] new b t (by simp) hp]
      simp only [List.length_cons, List.length_nil, Nat.zero_add, List.drop_succ_cons, List.drop_zero, List.flatMap_cons, if_pos hb]
      rw [RA_any c new t]
    · have hp : ([c] : List UInt8).isPrefixOf (b :: t) = false := by
        simp [List.isPrefixOf]
        exact fun e => hb e.symm
      rw [RA_step [c] new b t (by simp) hp, RA_any c new t]
      simp only [List.flatMap_cons, if_neg hb]
      rfl
/-- A byte of a text, escaped. -/
def eT (b : UInt8) : List UInt8 := if b = 38 then [38, 97, 109, 112, 59] else if b = 60 then [38, 108, 116, 59] else if b = 62 then [38, 103, 116, 59] else [b]
/-- A byte of a value, escaped. -/
def vE (b : UInt8) : List UInt8 := if b = 38 then [38, 97, 109, 112, 59] else if b = 34 then [38, 113, 117, 111, 116, 59] else [b]
theorem flat_len (T : UInt8 → List UInt8) (n : Nat) (h : ∀ b, (T b).length ≤ n) : ∀ l : List UInt8, (l.flatMap T).length ≤ n * l.length
  | [] => by simp
  | b :: l => by
    have := flat_len T n h l
    have := h b
    rw [List.flatMap_cons, List.length_append, List.length_cons, Nat.mul_succ]
    omega
theorem eT_len (b : UInt8) : (eT b).length ≤ 6 := by unfold eT; (repeat' split) <;> simp
theorem vE_len (b : UInt8) : (vE b).length ≤ 6 := by unfold vE; (repeat' split) <;> simp
theorem one_byte (c : UInt8) : ((⟨#[c]⟩ : ByteArray)).data.toList = [c] := rfl
theorem toA_list (l : List UInt8) : (⟨l.toArray⟩ : ByteArray).data.toList = l := by simp
def TX (T : UInt8 → List UInt8) (s : ByteArray) : ByteArray := ⟨(s.data.toList.flatMap T).toArray⟩
theorem TX_size (T : UInt8 → List UInt8) (n : Nat) (h : ∀ b, (T b).length ≤ n) (s : ByteArray) : (TX T s).size ≤ n * s.size := by
  have := flat_len T n h s.data.toList
  rw [data_length] at this
  unfold TX
  rw [size_of]
  exact this
theorem rep1 (s : ByteArray) (c : UInt8) (new : ByteArray) (h : s.size ≤ 100000000) (hn : new.size ≤ 1000) (hne : ([c] : List UInt8) ≠ new.data.toList) : strings_ReplaceAll.f s (⟨#[c]⟩ : ByteArray) new = some (TX (fun b => if b = c then new.data.toList else [b]) s) := by
  rw [replaceAll_big s _ new h (by show 1 ≤ 1; omega) hn]
  have e : ((⟨#[c]⟩ : ByteArray)).data.toList = [c] := rfl
  rw [e, RA_is _ _ _ hne, RA_any]
  rfl
theorem TX_TX (T U : UInt8 → List UInt8) (s : ByteArray) : TX U (TX T s) = TX (fun b => (T b).flatMap U) s := by
  unfold TX
  rw [toA_list, List.flatMap_assoc]
theorem TX_congr (T U : UInt8 → List UInt8) (h : ∀ b, T b = U b) (s : ByteArray) : TX T s = TX U s := by
  have : T = U := funext h
  rw [this]
theorem escaped_is (s : ByteArray) (h : s.size ≤ 1048576) : impl_escaped.f s = some (TX eT s) := by
  unfold impl_escaped.f
  rw [rep1 s 38 _ (by omega) (by decide) (by decide)]
  simp only [Option.bind_some]
  have z1 := TX_size (fun b => if b = 38 then [38, 97, 109, 112, 59] else [b]) 6 (fun b => by split <;> simp) s
  rw [rep1 _ 60 _ (by omega) (by decide) (by decide)]
  simp only [Option.bind_some]
  rw [TX_TX]
  have z2 := TX_size (fun b => (if b = 38 then [38, 97, 109, 112, 59] else [b]).flatMap fun b => if b = 60 then [38, 108, 116, 59] else [b]) 36 (fun b => Nat.le_trans (flat_len _ 6 (fun b => by split <;> simp) _) (by split <;> simp)) s
  rw [rep1 _ 62 _ (by omega) (by decide) (by decide)]
  simp only [Option.bind_some]
  rw [TX_TX]
  refine congrArg some (TX_congr _ _ (fun b => ?_) s)
  unfold eT
  by_cases c1 : b = 38
  · subst c1; decide
  · rw [if_neg c1, if_neg c1]
    by_cases c2 : b = 60
    · subst c2; decide
    · rw [if_neg c2, List.flatMap_cons, List.flatMap_nil, List.append_nil, if_neg c2, List.flatMap_cons, List.flatMap_nil, List.append_nil]
theorem valueSpelt_is (s : ByteArray) (h : s.size ≤ 1048576) : impl_valueSpelt.f s = some (TX vE s) := by
  unfold impl_valueSpelt.f
  rw [rep1 s 38 _ (by omega) (by decide) (by decide)]
  simp only [Option.bind_some]
  have z1 := TX_size (fun b => if b = 38 then [38, 97, 109, 112, 59] else [b]) 6 (fun b => by split <;> simp) s
  rw [rep1 _ 34 _ (by omega) (by decide) (by decide)]
  simp only [Option.bind_some]
  rw [TX_TX]
  refine congrArg some (TX_congr _ _ (fun b => ?_) s)
  unfold vE
  by_cases c1 : b = 38
  · subst c1; decide
  · rw [if_neg c1, if_neg c1, List.flatMap_cons, List.flatMap_nil, List.append_nil]
/-! the model's own replacing -/
theorem find3 (c : Int) : Ev (fun k => spec_l4Find.f k (⟨#[38, 60, 62]⟩ : ByteArray) 0 c) (if (38 : Int) = c then 0 else if (60 : Int) = c then 1 else if (62 : Int) = c then 2 else -1) := by
  have b0 : bt (⟨#[38, 60, 62]⟩ : ByteArray) 0 = 38 := rfl
  have b1 : bt (⟨#[38, 60, 62]⟩ : ByteArray) 1 = 60 := rfl
  have b2 : bt (⟨#[38, 60, 62]⟩ : ByteArray) 2 = 62 := rfl
  have hs : ((⟨#[38, 60, 62]⟩ : ByteArray).size : Int) = 3 := rfl
  have w0 : wrap64 ((0 : Int) + 1) = 1 := wrap_id _ (by omega) (by omega)
  have w1 : wrap64 ((1 : Int) + 1) = 2 := wrap_id _ (by omega) (by omega)
  have w2 : wrap64 ((2 : Int) + 1) = 3 := wrap_id _ (by omega) (by omega)
  refine ⟨4, fun k hk => ?_⟩
  obtain ⟨m, rfl⟩ : ∃ m, k = m + 1 + 1 + 1 + 1 := ⟨k - 4, by omega⟩
  unfold spec_l4Find.f
  simp only [spec_l4Find.l0]
  rw [hs, b0, w0, b1, w1, b2, w2]
  simp only [show (0 : Int) < 3 from by decide, show (1 : Int) < 3 from by decide, show (2 : Int) < 3 from by decide, show ¬ ((3 : Int) < 3) from by decide, show (0 : Int) ≤ 0 from by decide, show (0 : Int) ≤ 1 from by decide, show (0 : Int) ≤ 2 from by decide, if_true, if_false]
  by_cases c1 : (38 : Int) = c
  · rw [if_pos c1, if_pos c1]
  · rw [if_neg c1, if_neg c1]
    by_cases c2 : (60 : Int) = c
    · rw [if_pos c2, if_pos c2]
    · rw [if_neg c2, if_neg c2]
      by_cases c3 : (62 : Int) = c
      · rw [if_pos c3, if_pos c3]
      · rw [if_neg c3, if_neg c3]
theorem find2 (c : Int) : Ev (fun k => spec_l4Find.f k (⟨#[38, 34]⟩ : ByteArray) 0 c) (if (38 : Int) = c then 0 else if (34 : Int) = c then 1 else -1) := by
  have b0 : bt (⟨#[38, 34]⟩ : ByteArray) 0 = 38 := rfl
  have b1 : bt (⟨#[38, 34]⟩ : ByteArray) 1 = 34 := rfl
  have hs : ((⟨#[38, 34]⟩ : ByteArray).size : Int) = 2 := rfl
  have w0 : wrap64 ((0 : Int) + 1) = 1 := wrap_id _ (by omega) (by omega)
  have w1 : wrap64 ((1 : Int) + 1) = 2 := wrap_id _ (by omega) (by omega)
  refine ⟨3, fun k hk => ?_⟩
  obtain ⟨m, rfl⟩ : ∃ m, k = m + 1 + 1 + 1 := ⟨k - 3, by omega⟩
  unfold spec_l4Find.f
  simp only [spec_l4Find.l0]
  rw [hs, b0, w0, b1, w1]
  simp only [show (0 : Int) < 2 from by decide, show (1 : Int) < 2 from by decide, show ¬ ((2 : Int) < 2) from by decide, show (0 : Int) ≤ 0 from by decide, show (0 : Int) ≤ 1 from by decide, if_true, if_false]
  by_cases c1 : (38 : Int) = c
  · rw [if_pos c1, if_pos c1]
  · rw [if_neg c1, if_neg c1]
    by_cases c2 : (34 : Int) = c
    · rw [if_pos c2, if_pos c2]
    · rw [if_neg c2, if_neg c2]
theorem byte_at (s : ByteArray) (pre suf : List UInt8) (b : UInt8) (h : s.data.toList = pre ++ b :: suf) : bt s ((pre.length : Nat) : Int) = (b.toNat : Int) ∧ byteAt s ((pre.length : Nat) : Int) = b := by
  have hl : pre.length < s.data.toList.length := by rw [h]; simp
  have e : bt s ((pre.length : Nat) : Int) = (b.toNat : Int) := by
    have hsz : pre.length < s.size := by rw [← data_length]; exact hl
    have d := drop_byte s pre.length hsz
    rw [h] at d
    simp only [List.drop_left] at d
    have e2 : b = byteAt s ((pre.length : Nat) : Int) := by injection d
    rw [← byteAt_toNat, ← e2]
  refine ⟨e, ?_⟩
  unfold byteAt
  rw [e]
  simp
theorem l5Swap_loop (wh : ByteArray) (l : List ByteArray) (T : UInt8 → List UInt8) (K : UInt8 → Int) (hK : ∀ b : UInt8, Ev (fun k => spec_l4Find.f k wh 0 (b.toNat : Int)) (K b))
    (hT : ∀ b, (K b < 0 ∧ T b = [b]) ∨ (¬ K b < 0 ∧ K b < (l.length : Int) ∧ (rdOf ByteArray.empty l (K b)).data.toList = T b)) (hn : ∀ b, (T b).length ≤ 6) (s : ByteArray) (hs : s.size ≤ 1048576) :
    ∀ (suf pre acc : List UInt8), s.data.toList = pre ++ suf → acc.length ≤ 6 * pre.length → Ev (fun k => spec_l5Swap.l0 k s wh l acc ((pre.length : Nat) : Int)) ⟨(acc ++ suf.flatMap T).toArray⟩ := by
  intro suf
  induction suf with
  | nil =>
    intro pre acc h ha
    have hl : s.size = pre.length := by rw [← data_length, h]; simp
    refine Ev.at1 fun k => ?_
    simp only [spec_l5Swap.l0]
    rw [if_neg (by omega)]
    simp
  | cons b suf IH =>
    intro pre acc h ha
    have hl : s.size = pre.length + 1 + suf.length := by rw [← data_length, h]; simp; omega
    obtain ⟨e1, e2⟩ := byte_at s pre suf b h
    have ih := IH (pre ++ [b]) (acc ++ T b) (by rw [h]; simp) (by have := hn b; simp; omega)
    rw [List.length_append] at ih
    have eq : acc ++ T b ++ suf.flatMap T = acc ++ (b :: suf).flatMap T := by rw [List.flatMap_cons, List.append_assoc]
    rw [eq] at ih
    have hb := hn b
    refine Ev.step (f := fun k => (spec_l4Find.f k wh 0 (b.toNat : Int)).bind fun q => (if q < 0 then (if acc.length + 1 ≤ 140737488355328 then (spec_l5Swap.l0 k s wh l (acc ++ [b]) ((pre.length + 1 : Nat) : Int)) else none) else (if q < (l.length : Int) then (if acc.length + (rdOf ByteArray.empty l q).size ≤ 140737488355328 then (spec_l5Swap.l0 k s wh l (acc ++ (rdOf ByteArray.empty l q).data.toList) ((pre.length + 1 : Nat) : Int)) else none) else none))) (fun k => ?_) (Ev.bind (hK b) ?_)
    · simp only [spec_l5Swap.l0]
      rw [if_pos (by omega), if_pos (by omega), e1, e2, next_at _ (by omega)]
    · rcases hT b with ⟨c, ht⟩ | ⟨c, c2, ht⟩
      · simp only [if_pos c, if_pos (show acc.length + 1 ≤ 140737488355328 by omega)]
        rw [← ht]
        exact ih
      · have hz : (rdOf ByteArray.empty l (K b)).size ≤ 6 := by rw [← data_length, ht]; exact hb
        simp only [if_neg c, if_pos c2, if_pos (show acc.length + (rdOf ByteArray.empty l (K b)).size ≤ 140737488355328 by omega)]
        rw [ht]
        exact ih
theorem swapE (s : ByteArray) (hs : s.size ≤ 1048576) : Ev (fun k => spec_l5Swap.f k s (⟨#[38, 60, 62]⟩ : ByteArray) [(⟨#[38, 97, 109, 112, 59]⟩ : ByteArray), (⟨#[38, 108, 116, 59]⟩ : ByteArray), (⟨#[38, 103, 116, 59]⟩ : ByteArray)]) (TX eT s) := by
  have := l5Swap_loop (⟨#[38, 60, 62]⟩ : ByteArray) [(⟨#[38, 97, 109, 112, 59]⟩ : ByteArray), (⟨#[38, 108, 116, 59]⟩ : ByteArray), (⟨#[38, 103, 116, 59]⟩ : ByteArray)] eT (fun b => if (38 : Int) = (b.toNat : Int) then 0 else if (60 : Int) = (b.toNat : Int) then 1 else if (62 : Int) = (b.toNat : Int) then 2 else -1) (fun b => find3 _)
    (fun b => by
      unfold eT
      by_cases c1 : b = 38
      · subst c1; exact .inr ⟨by decide, by decide, by decide⟩
      · have n1 : ¬ (38 : Int) = (b.toNat : Int) := fun e => c1 (UInt8.toNat_inj.1 (show b.toNat = (38 : UInt8).toNat by show b.toNat = 38; omega))
        rw [if_neg n1, if_neg c1]
        by_cases c2 : b = 60
        · subst c2; exact .inr ⟨by decide, by decide, by decide⟩
        · have n2 : ¬ (60 : Int) = (b.toNat : Int) := fun e => c2 (UInt8.toNat_inj.1 (show b.toNat = (60 : UInt8).toNat by show b.toNat = 60; omega))
          rw [if_neg n2, if_neg c2]
          by_cases c3 : b = 62
          · subst c3; exact .inr ⟨by decide, by decide, by decide⟩
          · have n3 : ¬ (62 : Int) = (b.toNat : Int) := fun e => c3 (UInt8.toNat_inj.1 (show b.toNat = (62 : UInt8).toNat by show b.toNat = 62; omega))
            rw [if_neg n3, if_neg c3]
            exact .inl ⟨by decide, rfl⟩) eT_len s hs s.data.toList [] [] rfl (by simp)
  exact this
theorem swapV (s : ByteArray) (hs : s.size ≤ 1048576) : Ev (fun k => spec_l5Swap.f k s (⟨#[38, 34]⟩ : ByteArray) [(⟨#[38, 97, 109, 112, 59]⟩ : ByteArray), (⟨#[38, 113, 117, 111, 116, 59]⟩ : ByteArray)]) (TX vE s) := by
  have := l5Swap_loop (⟨#[38, 34]⟩ : ByteArray) [(⟨#[38, 97, 109, 112, 59]⟩ : ByteArray), (⟨#[38, 113, 117, 111, 116, 59]⟩ : ByteArray)] vE (fun b => if (38 : Int) = (b.toNat : Int) then 0 else if (34 : Int) = (b.toNat : Int) then 1 else -1) (fun b => find2 _)
    (fun b => by
      unfold vE
      by_cases c1 : b = 38
      · subst c1; exact .inr ⟨by decide, by decide, by decide⟩
      · have n1 : ¬ (38 : Int) = (b.toNat : Int) := fun e => c1 (UInt8.toNat_inj.1 (show b.toNat = (38 : UInt8).toNat by show b.toNat = 38; omega))
        rw [if_neg n1, if_neg c1]
        by_cases c2 : b = 34
        · subst c2; exact .inr ⟨by decide, by decide, by decide⟩
        · have n2 : ¬ (34 : Int) = (b.toNat : Int) := fun e => c2 (UInt8.toNat_inj.1 (show b.toNat = (34 : UInt8).toNat by show b.toNat = 34; omega))
          rw [if_neg n2, if_neg c2]
          exact .inl ⟨by decide, rfl⟩) vE_len s hs s.data.toList [] [] rfl (by simp)
  exact this
/-! tags -/
theorem attrSp_size (n v : ByteArray) : (attrSp n v).size = n.size + v.size + 4 := by
  unfold attrSp
  rw [ByteArray.size_append, ByteArray.size_append, ByteArray.size_append, ByteArray.size_append, show (⟨#[32]⟩ : ByteArray).size = 1 from rfl, show (⟨#[61, 34]⟩ : ByteArray).size = 2 from rfl, show (⟨#[34]⟩ : ByteArray).size = 1 from rfl]
  omega
theorem attrs_ev (l : List S78) (t0 : Int) (n tx : ByteArray) (self : Bool) : ∀ (suf pre : List S78) (X : ByteArray), l = pre ++ suf → l.length ≤ 1048576 → vAs suf ≤ 1048576 → X.size + 6 * vAs suf ≤ 20000000 →
    ∃ Y : ByteArray, Y.size ≤ X.size + 6 * vAs suf ∧ Ev (fun k => impl_startSpelt.l0 k l X ((pre.length : Nat) : Int)) Y ∧ Ev (fun k => spec_l5Tagged.l0 k X ((pre.length : Nat) : Int) t0 n l tx self) (if self = true then Y ++ (⟨#[47, 62]⟩ : ByteArray) else Y ++ (⟨#[62]⟩ : ByteArray)) := by
  intro suf
  induction suf with
  | nil =>
    intro pre X hl hlen h1 h2
    have hn : ¬ ((pre.length : Nat) : Int) < (l.length : Int) := by rw [hl]; simp
    refine ⟨X, by omega, Ev.at1 fun k => by simp only [impl_startSpelt.l0]; rw [if_neg hn], Ev.at1 fun k => ?_⟩
    simp only [spec_l5Tagged.l0]
    rw [if_neg hn]
    cases self
    · rw [if_neg (by decide), if_pos (by omega), if_neg (by decide)]
    · rw [if_pos rfl, if_pos (by omega), if_pos rfl]
  | cons x suf IH =>
    intro pre X hl hlen h1 h2
    have hn : l.length = pre.length + 1 + suf.length := by rw [hl]; simp; omega
    have hx : rd_T78 l ((pre.length : Nat) : Int) = x := by rw [hl]; exact rdA2_mid pre x suf
    have hv : vAs (x :: suf) = (1 + x.f0.size + x.f1.size) + vAs suf := rfl
    have hz := TX_size vE 6 vE_len x.f1
    have ha := attrSp_size x.f0 (TX vE x.f1)
    obtain ⟨Y, hY, e1, e2⟩ := IH (pre ++ [x]) (X ++ attrSp x.f0 (TX vE x.f1)) (by rw [hl]; simp) hlen (by omega) (by rw [ByteArray.size_append]; omega)
    have el : (pre ++ [x]).length = pre.length + 1 := by simp
    rw [el] at e1 e2
    rw [ByteArray.size_append] at hY
    refine ⟨Y, by omega, Ev.step (fun k => ?_) e1, ?_⟩
    · simp only [impl_startSpelt.l0]
      rw [if_pos (by omega), if_pos (by omega), hx, valueSpelt_is x.f1 (by omega), Option.bind_some, if_pos ⟨by omega, by omega, by omega⟩, next_at _ (by omega)]
    · refine Ev.step (f := fun k => (spec_l5Swap.f k x.f1 (⟨#[38, 34]⟩ : ByteArray) [(⟨#[38, 97, 109, 112, 59]⟩ : ByteArray), (⟨#[38, 113, 117, 111, 116, 59]⟩ : ByteArray)]).bind fun t => (if X.size + 1 + x.f0.size + 2 + t.size ≤ 9223372036854775807 then (if X.size + 1 + x.f0.size + 2 + t.size + 1 ≤ 9223372036854775807 then (spec_l5Tagged.l0 k (((((X ++ (⟨#[32]⟩ : ByteArray)) ++ x.f0) ++ (⟨#[61, 34]⟩ : ByteArray)) ++ t) ++ (⟨#[34]⟩ : ByteArray)) ((pre.length + 1 : Nat) : Int) t0 n l tx self) else (none)) else (none))) (fun k => ?_) (Ev.bind (swapV x.f1 (by omega)) ?_)
      · simp only [spec_l5Tagged.l0]
        rw [if_pos (by omega), if_pos (by omega), if_pos (by omega), hx, if_pos (by omega), if_pos (by omega), next_at _ (by omega)]
      · simp only [if_pos (show X.size + 1 + x.f0.size + 2 + (TX vE x.f1).size ≤ 9223372036854775807 by omega), if_pos (show X.size + 1 + x.f0.size + 2 + (TX vE x.f1).size + 1 ≤ 9223372036854775807 by omega)]
        have ee : ((((X ++ (⟨#[32]⟩ : ByteArray)) ++ x.f0) ++ (⟨#[61, 34]⟩ : ByteArray)) ++ (TX vE x.f1)) ++ (⟨#[34]⟩ : ByteArray) = X ++ attrSp x.f0 (TX vE x.f1) := by
          unfold attrSp
          simp only [ByteArray.append_assoc]
        rw [ee]
        exact e2
theorem tag_ev (x : S55) (h : vT x ≤ 1048576) : ∃ Y : ByteArray, Y.size + 2 ≤ 6 * vT x ∧ Ev (fun k => impl_startSpelt.f k x.f1 x.f2) Y ∧ Ev (fun k => spec_l5Tagged.f k x.f0 x.f1 x.f2 x.f3 x.f4) (if x.f4 = true then Y ++ (⟨#[47, 62]⟩ : ByteArray) else Y ++ (⟨#[62]⟩ : ByteArray)) := by
  have hv : vT x = 1 + x.f1.size + vAs x.f2 + x.f3.size := rfl
  have hlen := vAs_len x.f2
  have h1 : ((⟨#[60]⟩ : ByteArray) ++ x.f1).size = 1 + x.f1.size := by rw [ByteArray.size_append]; rfl
  obtain ⟨Y, hY, e1, e2⟩ := attrs_ev x.f2 x.f0 x.f1 x.f3 x.f4 x.f2 [] ((⟨#[60]⟩ : ByteArray) ++ x.f1) rfl (by omega) (by omega) (by omega)
  refine ⟨Y, by omega, ?_, ?_⟩
  · unfold impl_startSpelt.f
    simp only [if_pos (show x.f1.size ≤ 1000000000000 by omega)]
    exact e1
  · unfold spec_l5Tagged.f
    simp only [if_pos (show 1 + x.f1.size ≤ 9223372036854775807 by omega)]
    exact e2
theorem bare_is (l : List S55) (n : Nat) (hn : n < l.length) (hl : l.length ≤ 1048576) : ∃ b, spec_l5Bare.f l (n : Int) = some b ∧ impl_isPlainAhead.f l (n : Int) = some b := by
  unfold spec_l5Bare.f impl_isPlainAhead.f
  by_cases c : (n : Int) = 0
  · exact ⟨false, by rw [if_neg (by omega)], by rw [if_pos c]⟩
  · rw [if_pos (show (n : Int) > 0 by omega), if_neg c, wrap_id ((n : Int) - 1) (by omega) (by omega)]
    simp only [if_pos (show (0 : Int) ≤ (n : Int) - 1 by omega), if_pos (show (n : Int) - 1 < (l.length : Int) by omega)]
    by_cases c0 : (rd_T55 l ((n : Int) - 1)).f0 = 2
    · rw [if_pos c0, if_pos c0]
      by_cases c4 : (rd_T55 l ((n : Int) - 1)).f4 = true
      · exact ⟨false, by rw [if_pos c4], by rw [if_pos c4]⟩
      · rw [if_neg c4, if_neg c4]
        unfold impl_isPlainRaw.f
        by_cases c1 : (rd_T55 l ((n : Int) - 1)).f1.toList = ([115, 99, 114, 105, 112, 116] : List UInt8)
        · exact ⟨true, by rw [if_pos c1], by rw [if_pos c1]; rfl⟩
        · exact ⟨_, by rw [if_neg c1], by rw [if_neg c1]; rfl⟩
    · exact ⟨false, by rw [if_neg c0], by rw [if_neg c0]⟩
/-! the loop -/
def BA (l : List UInt8) : ByteArray := ⟨l.toArray⟩
theorem BA_size (l : List UInt8) : (BA l).size = l.length := size_of l
theorem BA_app (l : List UInt8) (s : ByteArray) : BA l ++ s = BA (l ++ s.data.toList) := ByteArray.ext (Array.ext' (by simp [BA, ByteArray.data_append]))
theorem app_list (s t : ByteArray) : (s ++ t).data.toList = s.data.toList ++ t.data.toList := by simp [ByteArray.data_append]
theorem cat_size (a b s : ByteArray) : (a ++ s ++ b).data.toList.length = a.size + s.size + b.size := by rw [data_length, ByteArray.size_append, ByteArray.size_append]
theorem spell_loop (l : List S55) (hl : l.length ≤ 1048576) : ∀ (suf pre : List S55) (acc : List UInt8), l = pre ++ suf → vTs suf ≤ 1048576 → acc.length + 12 * vTs suf ≤ 20000000 →
    ∃ r : ByteArray, Ev (fun k => spec_Spell.l0 k l (BA acc) ((pre.length : Nat) : Int)) r ∧ Ev (fun k => impl_Spell.l0 k l acc ((pre.length : Nat) : Int)) r := by
  intro suf
  induction suf with
  | nil =>
    intro pre acc h h1 h2
    have hn : ¬ ((pre.length : Nat) : Int) < (l.length : Int) := by rw [h]; simp
    exact ⟨BA acc, Ev.at1 fun k => by simp only [spec_Spell.l0]; rw [if_neg hn], Ev.at1 fun k => by simp only [impl_Spell.l0]; rw [if_neg hn]; rfl⟩
  | cons x suf IH =>
    intro pre acc h h1 h2
    have hn : l.length = pre.length + 1 + suf.length := by rw [h]; simp; omega
    have hx : rd_T55 l ((pre.length : Nat) : Int) = x := by rw [h]; exact rdI2_mid pre x suf
    have hv : vTs (x :: suf) = vT x + vTs suf := rfl
    have hT : vT x = 1 + x.f1.size + vAs x.f2 + x.f3.size := rfl
    have hA : (BA acc).size = acc.length := BA_size acc
    have el : (pre ++ [x]).length = pre.length + 1 := by simp
    have go : ∀ p : List UInt8, p.length ≤ 12 * vT x → ∃ r : ByteArray, Ev (fun k => spec_Spell.l0 k l (BA (acc ++ p)) ((pre.length + 1 : Nat) : Int)) r ∧ Ev (fun k => impl_Spell.l0 k l (acc ++ p) ((pre.length + 1 : Nat) : Int)) r := fun p hp => by
      have := IH (pre ++ [x]) (acc ++ p) (by rw [h]; simp) (by omega) (by rw [List.length_append]; omega)
      rw [el] at this
      exact this
    by_cases c1 : x.f0 = 1
    · obtain ⟨b, b1, b2⟩ := bare_is l pre.length (by omega) hl
      cases b with
      | true =>
        obtain ⟨r, r1, r2⟩ := go x.f3.data.toList (by rw [data_length]; omega)
        refine ⟨r, Ev.step (fun k => ?_) r1, Ev.step (fun k => ?_) r2⟩
        · simp only [spec_Spell.l0]
          rw [if_pos (by omega), if_pos (by omega), hx, if_pos c1, b1, Option.bind_some, if_pos rfl, if_pos (by omega), BA_app, next_at _ (by omega)]
        · simp only [impl_Spell.l0]
          rw [if_pos (by omega), if_pos (by omega), hx, if_pos c1, b2, Option.bind_some, if_pos rfl, if_pos (by omega), next_at _ (by omega)]
      | false =>
        have hz := TX_size eT 6 eT_len x.f3
        obtain ⟨r, r1, r2⟩ := go (TX eT x.f3).data.toList (by rw [data_length]; omega)
        refine ⟨r, Ev.step (f := fun k => (spec_l5Swap.f k x.f3 (⟨#[38, 60, 62]⟩ : ByteArray) [(⟨#[38, 97, 109, 112, 59]⟩ : ByteArray), (⟨#[38, 108, 116, 59]⟩ : ByteArray), (⟨#[38, 103, 116, 59]⟩ : ByteArray)]).bind fun t => (if (BA acc).size + t.size ≤ 9223372036854775807 then (spec_Spell.l0 k l (BA acc ++ t) ((pre.length + 1 : Nat) : Int)) else none)) (fun k => ?_) (Ev.bind (swapE x.f3 (by omega)) ?_), Ev.step (fun k => ?_) r2⟩
        · simp only [spec_Spell.l0]
          rw [if_pos (by omega), if_pos (by omega), hx, if_pos c1, b1, Option.bind_some, if_neg (by decide), next_at _ (by omega)]
        · simp only [if_pos (show (BA acc).size + (TX eT x.f3).size ≤ 9223372036854775807 by omega)]
          rw [BA_app]
          exact r1
        · simp only [impl_Spell.l0]
          rw [if_pos (by omega), if_pos (by omega), hx, if_pos c1, b2, Option.bind_some, if_neg (by decide), escaped_is _ (by omega), Option.bind_some, if_pos (by omega), next_at _ (by omega)]
    by_cases c2 : x.f0 = 2
    · obtain ⟨Y, hY, e1, e2⟩ := tag_ev x (by omega)
      by_cases c4 : x.f4 = true
      · rw [if_pos c4] at e2
        have hz : (Y ++ (⟨#[47, 62]⟩ : ByteArray)).size = Y.size + 2 := by rw [ByteArray.size_append]; rfl
        obtain ⟨r, r1, r2⟩ := go (Y ++ (⟨#[47, 62]⟩ : ByteArray)).data.toList (by rw [data_length]; omega)
        refine ⟨r, Ev.step (f := fun k => (spec_l5Tagged.f k x.f0 x.f1 x.f2 x.f3 x.f4).bind fun t => (if (BA acc).size + t.size ≤ 9223372036854775807 then (spec_Spell.l0 k l (BA acc ++ t) ((pre.length + 1 : Nat) : Int)) else none)) (fun k => ?_) (Ev.bind e2 ?_), Ev.step (f := fun k => (impl_startSpelt.f k x.f1 x.f2).bind fun s => (if acc.length + s.size + 2 ≤ 140737488355328 then (impl_Spell.l0 k l (acc ++ s.data.toList ++ [47] ++ [62]) ((pre.length + 1 : Nat) : Int)) else none)) (fun k => ?_) (Ev.bind e1 ?_)⟩
        · simp only [spec_Spell.l0]
          rw [if_pos (by omega), if_pos (by omega), hx, if_neg c1, if_pos c2, next_at _ (by omega)]
        · simp only [if_pos (show (BA acc).size + (Y ++ (⟨#[47, 62]⟩ : ByteArray)).size ≤ 9223372036854775807 by omega)]
          rw [BA_app]
          exact r1
        · simp only [impl_Spell.l0]
          rw [if_pos (by omega), if_pos (by omega), hx, if_neg c1, if_pos c2, next_at _ (by omega)]
          simp only [if_pos c4]
        · simp only [if_pos (show acc.length + Y.size + 2 ≤ 140737488355328 by omega)]
          have e : acc ++ Y.data.toList ++ [47] ++ [62] = acc ++ (Y ++ (⟨#[47, 62]⟩ : ByteArray)).data.toList := by rw [app_list]; simp
          rw [e]
          exact r2
      · rw [if_neg c4] at e2
        have hz : (Y ++ (⟨#[62]⟩ : ByteArray)).size = Y.size + 1 := by rw [ByteArray.size_append]; rfl
        obtain ⟨r, r1, r2⟩ := go (Y ++ (⟨#[62]⟩ : ByteArray)).data.toList (by rw [data_length]; omega)
        refine ⟨r, Ev.step (f := fun k => (spec_l5Tagged.f k x.f0 x.f1 x.f2 x.f3 x.f4).bind fun t => (if (BA acc).size + t.size ≤ 9223372036854775807 then (spec_Spell.l0 k l (BA acc ++ t) ((pre.length + 1 : Nat) : Int)) else none)) (fun k => ?_) (Ev.bind e2 ?_), Ev.step (f := fun k => (impl_startSpelt.f k x.f1 x.f2).bind fun s => (if acc.length + s.size + 2 ≤ 140737488355328 then (impl_Spell.l0 k l (acc ++ s.data.toList ++ [62]) ((pre.length + 1 : Nat) : Int)) else none)) (fun k => ?_) (Ev.bind e1 ?_)⟩
        · simp only [spec_Spell.l0]
          rw [if_pos (by omega), if_pos (by omega), hx, if_neg c1, if_pos c2, next_at _ (by omega)]
        · simp only [if_pos (show (BA acc).size + (Y ++ (⟨#[62]⟩ : ByteArray)).size ≤ 9223372036854775807 by omega)]
          rw [BA_app]
          exact r1
        · simp only [impl_Spell.l0]
          rw [if_pos (by omega), if_pos (by omega), hx, if_neg c1, if_pos c2, next_at _ (by omega)]
          simp only [if_neg c4]
        · simp only [if_pos (show acc.length + Y.size + 2 ≤ 140737488355328 by omega)]
          have e : acc ++ Y.data.toList ++ [62] = acc ++ (Y ++ (⟨#[62]⟩ : ByteArray)).data.toList := by rw [app_list]; simp
          rw [e]
          exact r2
    by_cases c3 : x.f0 = 3
    · have hz := cat_size (⟨#[60, 47]⟩ : ByteArray) (⟨#[62]⟩ : ByteArray) x.f1
      rw [show (⟨#[60, 47]⟩ : ByteArray).size = 2 from rfl, show (⟨#[62]⟩ : ByteArray).size = 1 from rfl] at hz
      obtain ⟨r, r1, r2⟩ := go ((⟨#[60, 47]⟩ : ByteArray) ++ x.f1 ++ (⟨#[62]⟩ : ByteArray)).data.toList (by rw [hz]; omega)
      refine ⟨r, Ev.step (fun k => ?_) r1, Ev.step (fun k => ?_) r2⟩
      · simp only [spec_Spell.l0]
        rw [if_pos (by omega), if_pos (by omega), hx, if_neg c1, if_neg c2, if_pos c3, if_pos (by omega), if_pos (by omega), if_pos (by omega), next_at _ (by omega), ← BA_app, ByteArray.append_assoc, ByteArray.append_assoc, ByteArray.append_assoc]
      · simp only [impl_Spell.l0]
        rw [if_pos (by omega), if_pos (by omega), hx, if_neg c1, if_neg c2, if_pos c3, if_pos (by omega), next_at _ (by omega)]
    by_cases c5 : x.f0 = 4
    · have hz := cat_size (⟨#[60, 33, 45, 45]⟩ : ByteArray) (⟨#[45, 45, 62]⟩ : ByteArray) x.f3
      rw [show (⟨#[60, 33, 45, 45]⟩ : ByteArray).size = 4 from rfl, show (⟨#[45, 45, 62]⟩ : ByteArray).size = 3 from rfl] at hz
      obtain ⟨r, r1, r2⟩ := go ((⟨#[60, 33, 45, 45]⟩ : ByteArray) ++ x.f3 ++ (⟨#[45, 45, 62]⟩ : ByteArray)).data.toList (by rw [hz]; omega)
      refine ⟨r, Ev.step (fun k => ?_) r1, Ev.step (fun k => ?_) r2⟩
      · simp only [spec_Spell.l0]
        rw [if_pos (by omega), if_pos (by omega), hx, if_neg c1, if_neg c2, if_neg c3, if_pos c5, if_pos (by omega), if_pos (by omega), if_pos (by omega), next_at _ (by omega), ← BA_app, ByteArray.append_assoc, ByteArray.append_assoc, ByteArray.append_assoc]
      · simp only [impl_Spell.l0]
        rw [if_pos (by omega), if_pos (by omega), hx, if_neg c1, if_neg c2, if_neg c3, if_pos c5, if_pos (by omega), next_at _ (by omega)]
    by_cases c6 : x.f0 = 5
    · have hz := cat_size (⟨#[60, 33, 100, 111, 99, 116, 121, 112, 101, 32]⟩ : ByteArray) (⟨#[62]⟩ : ByteArray) x.f3
      rw [show (⟨#[60, 33, 100, 111, 99, 116, 121, 112, 101, 32]⟩ : ByteArray).size = 10 from rfl, show (⟨#[62]⟩ : ByteArray).size = 1 from rfl] at hz
      obtain ⟨r, r1, r2⟩ := go ((⟨#[60, 33, 100, 111, 99, 116, 121, 112, 101, 32]⟩ : ByteArray) ++ x.f3 ++ (⟨#[62]⟩ : ByteArray)).data.toList (by rw [hz]; omega)
      refine ⟨r, Ev.step (fun k => ?_) r1, Ev.step (fun k => ?_) r2⟩
      · simp only [spec_Spell.l0]
        rw [if_pos (by omega), if_pos (by omega), hx, if_neg c1, if_neg c2, if_neg c3, if_neg c5, if_pos c6, if_pos (by omega), if_pos (by omega), if_pos (by omega), next_at _ (by omega), ← BA_app, ByteArray.append_assoc, ByteArray.append_assoc, ByteArray.append_assoc]
      · simp only [impl_Spell.l0]
        rw [if_pos (by omega), if_pos (by omega), hx, if_neg c1, if_neg c2, if_neg c3, if_neg c5, if_pos c6, if_pos (by omega), next_at _ (by omega)]
    · obtain ⟨r, r1, r2⟩ := go [] (by simp)
      rw [List.append_nil] at r1 r2
      refine ⟨r, Ev.step (fun k => ?_) r1, Ev.step (fun k => ?_) r2⟩
      · simp only [spec_Spell.l0]
        rw [if_pos (by omega), if_pos (by omega), hx, if_neg c1, if_neg c2, if_neg c3, if_neg c5, if_neg c6, next_at _ (by omega)]
      · simp only [impl_Spell.l0]
        rw [if_pos (by omega), if_pos (by omega), hx, if_neg c1, if_neg c2, if_neg c3, if_neg c5, if_neg c6, next_at _ (by omega)]
theorem FnExactSpell (l : List S52) (h : l.length ≤ 9223372036854775807) (hg : ∀ x ∈ l, GK x) : ∃ k, laws_FnExactSpell.f k l = some true := by
  refine Ev.rounds (r := true) ?_
  unfold laws_FnExactSpell.f
  obtain ⟨t, et, hr⟩ := szTokenS_ex l h hg
  refine Ev.bind et ?_
  by_cases c : t < 0
  · simp only [if_pos c]; exact Ev.now _
  · simp only [if_neg c]
    obtain ⟨t0, hW⟩ : 0 ≤ t ∧ vTs (l.map cI) ≤ 1048576 := by
      rcases hr with hr | hr
      · exact absurd hr c
      · exact hr
    have hlen := vTs_len (l.map cI)
    have hl : l.length ≤ 1048576 := by rw [List.length_map] at hlen; omega
    have hsm : ∀ x ∈ l.map cI, x.f2.length ≤ 1048576 := fun x hx => by
      have a := vTs_mem _ x hx
      have b := vAs_len x.f2
      have d : vT x = 1 + x.f1.size + vAs x.f2 + x.f3.size := rfl
      omega
    have hat : ∀ x ∈ l, x.f2.length ≤ 1048576 := fun x hx => by
      have := hsm (cI x) (List.mem_map_of_mem hx)
      have e : (cI x).f2.length = x.f2.length := List.length_map _
      omega
    have ta := toTokenS_ev l hl hat
    obtain ⟨r, e1, e2⟩ := spell_loop (l.map cI) (by omega) (l.map cI) [] [] rfl (by omega) (by simp; omega)
    have f1 : Ev (fun k => spec_Spell.f k (l.map cI)) r := e1
    have f2 : Ev (fun k => impl_Spell.f k (l.map cI)) r := e2
    refine Ev.bind ta (Ev.bind f1 (Ev.bind ta (Ev.bind f2 ?_)))
    simp only [if_true]
    refine Ev.bind ta (Ev.bind (eqTokenS_same (l.map cI) (by omega) (fun x hx => by have := hsm x hx; omega)) ?_)
    simp only [if_true]
    exact Ev.now _

end Go.Proofs.YteafgjebaedjbaaDoor.Pure
