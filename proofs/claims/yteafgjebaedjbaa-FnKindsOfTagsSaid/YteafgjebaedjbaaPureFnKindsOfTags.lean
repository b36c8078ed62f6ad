/- The statement of FnKindsOfTags, over the printed functions: it is true for every input. No condition. -/
import Derived.Test.YteafgjebaedjbaaPFnKindsOfTagsx3
namespace Go.Proofs.Yteafgjebaedjbaa.Pure
open Go.RowKit Go.Proofs.Yteafgjebaedjbaa.PFnKindsOfTags Go.Proofs.YteafgjebaedjbaaW.PrintWords Go.Proofs.YteafgjebaedjbaaW.PrintLast
set_option linter.unusedVariables false
set_option linter.unusedSimpArgs false

theorem Ev.yes {α : Type} {g : Nat → Option α} {r : α} (h : ∀ k, g k = some r) : Ev g r := ⟨0, fun k _ => h k⟩
theorem Ev.at1 {α : Type} {g : Nat → Option α} {r : α} (h : ∀ k, g (k + 1) = some r) : Ev g r := Ev.step (f := fun _ => some r) h (Ev.now r)
theorem wrap_id (n : Int) (h0 : -9223372036854775808 ≤ n) (h1 : n ≤ 9223372036854775807) : wrap64 n = n := by unfold wrap64; omega

theorem and255 (v : Int) : 0 ≤ Go.bits .and .i64 v 255 ∧ Go.bits .and .i64 v 255 ≤ 255 := by
  have e : (BitVec.ofInt IntKind.i64.bits v &&& BitVec.ofInt IntKind.i64.bits 255).toNat ≤ 255 := by
    rw [BitVec.toNat_and]
    exact Nat.le_trans Nat.and_le_right (by decide)
  unfold Go.bits
  simp only
  rw [IntKind.wrap_i64]
  omega
/-- One byte that is drawn. -/
theorem l1Byte_ex (b : List Int) (i h : Int) (hi : 0 ≤ i) (hb : b.length ≤ 1000000000000000000) : ∃ x i' h', spec_l1Byte.f b i h = some (x, i', h') ∧ 0 ≤ x ∧ x ≤ 255 ∧ 0 ≤ i' := by
  unfold spec_l1Byte.f
  by_cases c : i < (b.length : Int)
  · rw [if_pos c, if_pos hi]
    refine ⟨_, _, _, rfl, (and255 _).1, (and255 _).2, ?_⟩
    rw [wrap_id _ (by omega) (by omega)]
    omega
  · rw [if_neg c]
    exact ⟨_, _, _, rfl, (and255 _).1, (and255 _).2, hi⟩
theorem l1Below_ex (b : List Int) (i h n : Int) (hi : 0 ≤ i) (hb : b.length ≤ 1000000000000000000) (h0 : 0 < n) (h1 : n ≤ 256) : ∃ x i' h', spec_l1Below.f b i h n = some (x, i', h') ∧ 0 ≤ x ∧ x < n ∧ 0 ≤ i' := by
  obtain ⟨x, i', h', e, x0, x1, e0⟩ := l1Byte_ex b i h hi hb
  unfold spec_l1Below.f
  rw [if_neg (by omega), if_pos h1, e]
  simp only [Option.bind_some]
  rw [if_neg (by omega)]
  refine ⟨_, _, _, rfl, ?_, ?_, e0⟩
  · rw [Int.tmod_eq_emod_of_nonneg x0]; exact Int.emod_nonneg _ (by omega)
  · rw [Int.tmod_eq_emod_of_nonneg x0]; exact Int.emod_lt_of_pos _ h0
theorem l1New_loop (b : List Int) (hb : b.length ≤ 1000000000000000000) (d : Nat) : ∀ (i : Nat) (h : Int), b.length ≤ i + d → i ≤ b.length → ∃ h', Ev (fun k => spec_l1New.l0 k b h (i : Int)) (b, 0, h') := by
  induction d with
  | zero =>
    intro i h hi hl
    refine ⟨h, Ev.at1 fun k => ?_⟩
    simp only [spec_l1New.l0]
    rw [if_neg (by omega)]
  | succ d ih =>
    intro i h hi hl
    by_cases c : (i : Int) < (b.length : Int)
    · by_cases c2 : (i : Int) < 4000
      · have q : (0 : Int) ≤ (i : Int) := by omega
        have hw : wrap64 ((i : Int) + 1) = ((i + 1 : Nat) : Int) := by rw [wrap_id _ (by omega) (by omega)]; omega
        obtain ⟨h', e⟩ := ih (i + 1) (Go.bits .and .i64 (wrap64 ((wrap64 ((wrap64 (h * 131)) + (wrap64 (rd b i)))) + 7)) 1073741823) (by omega) (by omega)
        refine ⟨h', Ev.step (fun k => ?_) e⟩
        simp only [spec_l1New.l0]
        rw [if_pos c, if_pos c2, if_pos q, hw]
      · refine ⟨h, Ev.at1 fun k => ?_⟩
        simp only [spec_l1New.l0]
        rw [if_pos c, if_neg c2]
    · refine ⟨h, Ev.at1 fun k => ?_⟩
      simp only [spec_l1New.l0]
      rw [if_neg c]
theorem l1New_ex (b : List Int) (hb : b.length ≤ 1000000000000000000) : ∃ h', Ev (fun k => spec_l1New.f k b) (b, 0, h') := by
  unfold spec_l1New.f
  exact l1New_loop b hb b.length 0 _ (by omega) (by omega)

theorem l1Pick_ex (b : List Int) (i h : Int) (l : List ByteArray) (hi : 0 ≤ i) (hb : b.length ≤ 1000000000000000000) (h0 : 0 < l.length) (h1 : l.length ≤ 256) : ∃ x i' h', spec_l1Pick.f b i h l = some (x, i', h') ∧ x ∈ l ∧ 0 ≤ i' := by
  obtain ⟨x, i', h', e, x0, x1, e0⟩ := l1Below_ex b i h (l.length : Int) hi hb (by omega) (by omega)
  unfold spec_l1Pick.f
  rw [e]
  simp only [Option.bind_some]
  rw [if_pos x0, if_pos x1]
  refine ⟨_, _, _, rfl, ?_, e0⟩
  unfold rdOf
  have hx : x.toNat < l.length := by omega
  rw [List.getD_eq_getElem?_getD, List.getElem?_eq_getElem hx]
  exact List.getElem_mem hx

/-- The names that are drawn. -/
def nms : List ByteArray := [⟨#[112]⟩, ⟨#[100, 105, 118]⟩, ⟨#[98]⟩, ⟨#[97]⟩, ⟨#[116, 97, 98, 108, 101]⟩, ⟨#[116, 114]⟩, ⟨#[116, 100]⟩, ⟨#[116, 98, 111, 100, 121]⟩, ⟨#[98, 114]⟩, ⟨#[104, 114]⟩, ⟨#[116, 105, 116, 108, 101]⟩, ⟨#[115, 99, 114, 105, 112, 116]⟩, ⟨#[104, 50]⟩, ⟨#[108, 105]⟩, ⟨#[104, 116, 109, 108]⟩, ⟨#[120]⟩, ⟨#[]⟩, ⟨#[80]⟩, ⟨#[115, 118, 103]⟩]
theorem drawName_ex (b : List Int) (i h : Int) (hi : 0 ≤ i) (hb : b.length ≤ 1000000000000000000) : ∃ x i' h', spec_l7DrawName.f b i h = some (x, i', h') ∧ x ∈ nms ∧ 0 ≤ i' := by
  obtain ⟨x, i', h', e, hx, e0⟩ := l1Pick_ex b i h nms hi hb (by decide) (by decide)
  refine ⟨x, i', h', ?_, hx, e0⟩
  unfold spec_l7DrawName.f
  have e2 : spec_l1Pick.f b i h nms = _ := e
  unfold nms at e2
  rw [e2]
  rfl
theorem drawn_ex (b : List Int) (hb : b.length ≤ 1000000000000000000) : ∃ x, x ∈ nms ∧ Ev (fun k => (spec_l1New.f k b).bind fun p => ((spec_l7DrawName.f p.1 p.2.1 p.2.2).bind fun q => (some q.1))) x := by
  obtain ⟨h', e⟩ := l1New_ex b hb
  obtain ⟨x, i', h2, e2, hx, _⟩ := drawName_ex b 0 h' (by omega) hb
  refine ⟨x, hx, Ev.bind e ?_⟩
  simp only
  rw [e2]
  exact Ev.now _

/-- Names behind each other, a blank ahead of each and one behind all. -/
def Jn : List (List UInt8) → List UInt8
  | [] => [32]
  | w :: ws => 32 :: (w ++ Jn ws)
theorem Jn_head : ∀ ws : List (List UInt8), ∃ t, Jn ws = 32 :: t
  | [] => ⟨[], rfl⟩
  | w :: ws => ⟨_, rfl⟩
theorem contains_cons (b : UInt8) (l sub : List UInt8) : Lib.contains (b :: l) sub = (sub.isPrefixOf (b :: l) || Lib.contains l sub) := by
  have hg := Lib.index_ge l sub
  unfold Lib.contains
  rw [Lib.index]
  by_cases h : sub.isPrefixOf (b :: l) = true
  · rw [if_pos h, h]; rfl
  · rw [if_neg h, Bool.eq_false_iff.mpr h, Bool.false_or]
    by_cases h2 : Lib.index l sub = -1
    · rw [h2]; rfl
    · rw [if_neg (by simpa using h2)]
      have e : (0 ≤ Lib.index l sub + 1) = (0 ≤ Lib.index l sub) := by apply propext; omega
      rw [decide_eq_decide]
      omega
theorem contains_nil (sub : List UInt8) : Lib.contains [] sub = sub.isEmpty := by
  unfold Lib.contains
  rw [Lib.index]
  cases sub <;> rfl
theorem prefix_word (t : List UInt8) : ∀ n w : List UInt8, 32 ∉ n → 32 ∉ w → (n ++ [32]).isPrefixOf (w ++ 32 :: t) = decide (n = w)
  | [], [], _, _ => by simp
  | [], b :: w, _, hw => by
    have : b ≠ 32 := fun e => hw (by simp [e])
    have h : ((32 : UInt8) == b) = false := by simpa using Ne.symm this
    simp [List.isPrefixOf, h]
  | a :: n, [], hn, _ => by
    have : a ≠ 32 := fun e => hn (by simp [e])
    have h : (a == (32 : UInt8)) = false := by simpa using this
    simp [List.isPrefixOf, h]
  | a :: n, b :: w, hn, hw => by
    have ih := prefix_word t n w (fun h => hn (List.mem_cons_of_mem _ h)) (fun h => hw (List.mem_cons_of_mem _ h))
    by_cases e : a = b
    · subst e
      simp only [List.cons_append, List.isPrefixOf, beq_self_eq_true, Bool.true_and]
      rw [ih]
      simp
    · have : (a == b) = false := by simpa using e
      simp [List.isPrefixOf, this, e]
theorem contains_skip (L p : List UInt8) : ∀ w : List UInt8, 32 ∉ w → Lib.contains (w ++ L) (32 :: p) = Lib.contains L (32 :: p)
  | [], _ => rfl
  | b :: w, hw => by
    have : b ≠ 32 := fun e => hw (by simp [e])
    have h : ((32 : UInt8) == b) = false := by simpa using Ne.symm this
    rw [List.cons_append, contains_cons, contains_skip L p w (fun h => hw (List.mem_cons_of_mem _ h))]
    simp [List.isPrefixOf, h]
theorem contains_word (n : List UInt8) (hn : 32 ∉ n) (h0 : n ≠ []) : ∀ ws : List (List UInt8), (∀ w ∈ ws, 32 ∉ w) → Lib.contains (Jn ws) (32 :: (n ++ [32])) = decide (n ∈ ws)
  | [], _ => by
    unfold Jn
    rw [contains_cons, contains_nil]
    cases n with
    | nil => exact absurd rfl h0
    | cons a n => simp [List.isPrefixOf]
  | w :: ws, hw => by
    obtain ⟨t, ht⟩ := Jn_head ws
    have hw0 := hw w (List.mem_cons_self ..)
    unfold Jn
    rw [contains_cons, contains_skip _ _ w hw0, contains_word n hn h0 ws (fun x hx => hw x (List.mem_cons_of_mem _ hx)), ht]
    simp only [List.isPrefixOf, beq_self_eq_true, Bool.true_and]
    rw [prefix_word t n w hn hw0]
    simp
theorem contains_blank (l : List UInt8) (c : UInt8) : Lib.contains l [c] = decide (c ∈ l) := by
  induction l with
  | nil => rw [contains_nil]; rfl
  | cons b l ih =>
    rw [contains_cons, ih]
    by_cases e : c = b
    · subst e; simp [List.isPrefixOf]
    · have h : (c == b) = false := by simpa using e
      simp [List.isPrefixOf, h, e]
/-- Is a name one of some: what both sides come to. -/
def isIn (a : ByteArray) (ws : List (List UInt8)) : Bool := decide (a.data.toList ∈ ws)
/-- The words of a row of names, and that the row reads so. -/
def Row (names : ByteArray) (ws : List (List UInt8)) : Prop := 32 :: (names.data.toList ++ [32]) = Jn ws ∧ (∀ w ∈ ws, 32 ∉ w ∧ w ≠ []) ∧ names.size ≤ 1000000

theorem data_append (a b : ByteArray) : (a ++ b).data.toList = a.data.toList ++ b.data.toList := by simp
theorem isOneOf_is (a names : ByteArray) (ws : List (List UInt8)) (h : Row names ws) (ha : a.size ≤ 1048576) : impl_isOneOf.f a names = some (isIn a ws) := by
  obtain ⟨hJ, hws, hn⟩ := h
  unfold impl_isOneOf.f isIn
  rw [ByteArray.toList_eq]
  by_cases h0 : a.data.toList = []
  · rw [if_pos h0, h0]
    have : ¬ ([] : List UInt8) ∈ ws := fun hm => (hws _ hm).2 rfl
    simp [this]
  · rw [if_neg h0]
    have c1 : strings_Contains.f a (⟨#[32]⟩ : ByteArray) = some (decide (32 ∈ a.data.toList)) := by
      unfold strings_Contains.f
      rw [if_pos (by omega)]
      congr 1
      exact contains_blank _ _
    rw [c1]
    simp only [Option.bind_some]
    by_cases hb : 32 ∈ a.data.toList
    · rw [if_pos (by simpa using hb)]
      have : ¬ a.data.toList ∈ ws := fun hm => (hws _ hm).1 hb
      simp [this]
    · rw [if_neg (by simpa using hb)]
      have s1 : ((⟨#[32]⟩ : ByteArray) ++ names).size = 1 + names.size := by rw [ByteArray.size_append]; rfl
      have s2 : ((⟨#[32]⟩ : ByteArray) ++ a).size = 1 + a.size := by rw [ByteArray.size_append]; rfl
      have c2 : strings_Contains.f (((⟨#[32]⟩ : ByteArray) ++ names) ++ (⟨#[32]⟩ : ByteArray)) (((⟨#[32]⟩ : ByteArray) ++ a) ++ (⟨#[32]⟩ : ByteArray)) = some (decide (a.data.toList ∈ ws)) := by
        unfold strings_Contains.f
        have s3 : (((⟨#[32]⟩ : ByteArray) ++ names) ++ (⟨#[32]⟩ : ByteArray)).size = 1 + names.size + 1 := by rw [ByteArray.size_append, s1]; rfl
        rw [if_pos (by omega)]
        congr 1
        rw [data_append, data_append, data_append, data_append]
        have e1 : (⟨#[32]⟩ : ByteArray).data.toList ++ names.data.toList ++ (⟨#[32]⟩ : ByteArray).data.toList = 32 :: (names.data.toList ++ [32]) := rfl
        have e2 : (⟨#[32]⟩ : ByteArray).data.toList ++ a.data.toList ++ (⟨#[32]⟩ : ByteArray).data.toList = 32 :: (a.data.toList ++ [32]) := rfl
        rw [e1, e2, hJ, contains_word _ hb h0 ws (fun w hw => (hws w hw).1)]
      rw [c2]
      first
      | (simp only [s1, s2]; rw [if_pos (by omega), if_pos (by omega), if_pos (by omega), if_pos (by omega)]; rfl)
      | (rw [if_pos (by omega), if_pos (by omega), if_pos (by omega), if_pos (by omega)]; rfl)

theorem bytes_same (a b : ByteArray) : (a.toList = b.toList) = (a = b) := by
  apply propext
  rw [ByteArray.toList_eq, ByteArray.toList_eq]
  constructor
  · intro h
    cases a with | mk x => cases b with | mk y => simp at h; rw [h]
  · intro h; rw [h]
theorem l7Is_loop (a : ByteArray) (l : List ByteArray) (hl : l.length ≤ 1000) (d : Nat) : ∀ i : Nat, i + d = l.length → Ev (fun k => spec_l7Is.l0 k a l i) (isIn a ((l.drop i).map (·.data.toList))) := by
  induction d with
  | zero =>
    intro i hi
    refine Ev.at1 fun k => ?_
    simp only [spec_l7Is.l0]
    rw [if_neg (by omega), List.drop_of_length_le (by omega)]
    rfl
  | succ d ih =>
    intro i hi
    have hlt : i < l.length := by omega
    have hd : l.drop i = l[i] :: l.drop (i + 1) := List.drop_eq_getElem_cons hlt
    have hr : rdOf ByteArray.empty l (i : Int) = l[i] := by
      unfold rdOf
      rw [Int.toNat_natCast, List.getD_eq_getElem?_getD, List.getElem?_eq_getElem hlt]; rfl
    have hw : wrap64 ((i : Int) + 1) = ((i + 1 : Nat) : Int) := by rw [wrap_id _ (by omega) (by omega)]; omega
    by_cases e : l[i] = a
    · refine Ev.at1 fun k => ?_
      simp only [spec_l7Is.l0]
      rw [if_pos (by omega), if_pos (by omega), hr, if_pos (by rw [e]), hd]
      unfold isIn
      simp [e]
    · refine Ev.step (f := fun k => spec_l7Is.l0 k a l ((i + 1 : Nat) : Int)) (fun k => ?_) ?_
      · simp only [spec_l7Is.l0]
        rw [if_pos (by omega), if_pos (by omega), hr, if_neg (by rw [bytes_same]; exact e), hw]
      · have e2 : isIn a ((l.drop i).map (·.data.toList)) = isIn a ((l.drop (i + 1)).map (·.data.toList)) := by
          unfold isIn
          have : ¬ a.data.toList = l[i].data.toList := fun h => e (by rw [← bytes_same, ByteArray.toList_eq, ByteArray.toList_eq]; exact h.symm)
          rw [hd, List.map_cons, decide_eq_decide, List.mem_cons]
          simp only [this, false_or]
        rw [e2]
        exact ih (i + 1) (by omega)
theorem l7Is_is (a : ByteArray) (l : List ByteArray) (hl : l.length ≤ 1000) : Ev (fun k => spec_l7Is.f k a l) (isIn a (l.map (·.data.toList))) := by
  have := l7Is_loop a l hl l.length 0 (by omega)
  exact this
theorem tag_law (g f : Nat → Option Bool) (b : Bool) (hg : Ev g b) (hf : Ev f b) : Ev (fun k => (g k).bind fun t => ((f k).bind fun u => (if (u != t) = true then (some false) else (some true)))) true := by
  refine Ev.bind hg (Ev.bind hf ?_)
  simp only [bne_self_eq_false, Bool.false_eq_true, if_false]
  exact Ev.now _

/-- The names that are Void. -/
def wsVoid : List (List UInt8) := [[98, 114], [104, 114], [105, 109, 103], [105, 110, 112, 117, 116], [109, 101, 116, 97], [108, 105, 110, 107], [98, 97, 115, 101], [119, 98, 114], [99, 111, 108]]
theorem impl_Void_is (a : ByteArray) (ha : a.size ≤ 1048576) : impl_Void.f a = some (isIn a wsVoid) := by
  unfold impl_Void.f
  rw [isOneOf_is a _ wsVoid ⟨rfl, by decide, by decide⟩ ha]
  rfl
theorem spec_Void_is (a : ByteArray) : Ev (fun k => spec_Void.f k a) (isIn a wsVoid) := by
  unfold spec_Void.f
  refine Ev.bind (l7Is_is a _ (by decide)) ?_
  exact Ev.now _

/-- The names that are OfHead. -/
def wsOfHead : List (List UInt8) := [[116, 105, 116, 108, 101], [109, 101, 116, 97], [108, 105, 110, 107], [98, 97, 115, 101], [115, 116, 121, 108, 101], [115, 99, 114, 105, 112, 116]]
theorem impl_OfHead_is (a : ByteArray) (ha : a.size ≤ 1048576) : impl_OfHead.f a = some (isIn a wsOfHead) := by
  unfold impl_OfHead.f
  rw [isOneOf_is a _ wsOfHead ⟨rfl, by decide, by decide⟩ ha]
  rfl
theorem spec_OfHead_is (a : ByteArray) : Ev (fun k => spec_OfHead.f k a) (isIn a wsOfHead) := by
  unfold spec_OfHead.f
  refine Ev.bind (l7Is_is a _ (by decide)) ?_
  exact Ev.now _

/-- The names that are Format. -/
def wsFormat : List (List UInt8) := [[97], [98], [105], [117], [101, 109], [115, 116, 114, 111, 110, 103], [99, 111, 100, 101], [115, 109, 97, 108, 108]]
theorem impl_Format_is (a : ByteArray) (ha : a.size ≤ 1048576) : impl_Format.f a = some (isIn a wsFormat) := by
  unfold impl_Format.f
  rw [isOneOf_is a _ wsFormat ⟨rfl, by decide, by decide⟩ ha]
  rfl
theorem spec_Format_is (a : ByteArray) : Ev (fun k => spec_Format.f k a) (isIn a wsFormat) := by
  unfold spec_Format.f
  refine Ev.bind (l7Is_is a _ (by decide)) ?_
  exact Ev.now _

/-- The names that are Block. -/
def wsBlock : List (List UInt8) := [[112], [100, 105, 118], [117, 108], [111, 108], [108, 105], [104, 49], [104, 50], [104, 51], [112, 114, 101], [104, 114], [116, 97, 98, 108, 101], [102, 111, 114, 109], [115, 101, 99, 116, 105, 111, 110]]
theorem impl_Block_is (a : ByteArray) (ha : a.size ≤ 1048576) : impl_Block.f a = some (isIn a wsBlock) := by
  unfold impl_Block.f
  rw [isOneOf_is a _ wsBlock ⟨rfl, by decide, by decide⟩ ha]
  rfl
theorem spec_Block_is (a : ByteArray) : Ev (fun k => spec_Block.f k a) (isIn a wsBlock) := by
  unfold spec_Block.f
  refine Ev.bind (l7Is_is a _ (by decide)) ?_
  exact Ev.now _

/-- The names that are Part. -/
def wsPart : List (List UInt8) := [[116, 98, 111, 100, 121], [116, 114], [116, 100], [116, 104]]
theorem impl_Part_is (a : ByteArray) (ha : a.size ≤ 1048576) : impl_Part.f a = some (isIn a wsPart) := by
  unfold impl_Part.f
  rw [isOneOf_is a _ wsPart ⟨rfl, by decide, by decide⟩ ha]
  rfl
theorem spec_Part_is (a : ByteArray) : Ev (fun k => spec_Part.f k a) (isIn a wsPart) := by
  unfold spec_Part.f
  refine Ev.bind (l7Is_is a _ (by decide)) ?_
  exact Ev.now _

/-- The names that are Wall. -/
def wsWall : List (List UInt8) := [[104, 116, 109, 108], [116, 97, 98, 108, 101], [116, 100], [116, 104]]
theorem impl_Wall_is (a : ByteArray) (ha : a.size ≤ 1048576) : impl_Wall.f a = some (isIn a wsWall) := by
  unfold impl_Wall.f
  rw [isOneOf_is a _ wsWall ⟨rfl, by decide, by decide⟩ ha]
  rfl
theorem spec_Wall_is (a : ByteArray) : Ev (fun k => spec_Wall.f k a) (isIn a wsWall) := by
  unfold spec_Wall.f
  refine Ev.bind (l7Is_is a _ (by decide)) ?_
  exact Ev.now _

/-- The names that are Head. -/
def wsHead : List (List UInt8) := [[104, 49], [104, 50], [104, 51]]
theorem impl_Head_is (a : ByteArray) (ha : a.size ≤ 1048576) : impl_Head.f a = some (isIn a wsHead) := by
  unfold impl_Head.f
  rw [isOneOf_is a _ wsHead ⟨rfl, by decide, by decide⟩ ha]
  rfl
theorem spec_Head_is (a : ByteArray) : Ev (fun k => spec_Head.f k a) (isIn a wsHead) := by
  unfold spec_Head.f
  refine Ev.bind (l7Is_is a _ (by decide)) ?_
  exact Ev.now _

theorem nms_small : ∀ a ∈ nms, a.size ≤ 1048576 := by decide
theorem nms_told : ∀ a ∈ nms, (isIn a wsPart && isIn a wsBlock) = false ∧ (isIn a wsFormat && isIn a wsVoid) = false ∧ (!isIn a wsHead || isIn a wsBlock) = true := by decide
theorem kinds_end (a : ByteArray) (ha : a ∈ nms) (k : Nat) : laws_FnKindsOfTags.j0 (k + 1) a false = some true := by
  have hs := nms_small a ha
  obtain ⟨h1, h2, h3⟩ := nms_told a ha
  simp only [laws_FnKindsOfTags.j0]
  rw [impl_Part_is a hs, impl_Block_is a hs, impl_Format_is a hs, impl_Void_is a hs, impl_Head_is a hs]
  simp only [Option.bind_some]
  revert h1 h2 h3
  cases isIn a wsPart <;> cases isIn a wsBlock <;> cases isIn a wsFormat <;> cases isIn a wsVoid <;> cases isIn a wsHead <;> simp
theorem FnKindsOfTags : laws_FnKindsOfTags.Pure := by
  intro b _ hb _
  have hb2 : b.length ≤ 1000000000000000000 := by omega
  refine Ev.rounds (r := true) ?_
  unfold laws_FnKindsOfTags.f laws_big.f
  simp only [Option.bind_some]
  by_cases hbig : (b.length : Int) > 1048576
  · simp only [decide_eq_true hbig, if_true]; exact Ev.now _
  · simp only [decide_eq_false hbig, Bool.false_eq_true, if_false]
    obtain ⟨a0, m0, e0⟩ := drawn_ex b hb2
    obtain ⟨a1, m1, e1⟩ := drawn_ex b hb2
    obtain ⟨a2, m2, e2⟩ := drawn_ex b hb2
    obtain ⟨a3, m3, e3⟩ := drawn_ex b hb2
    obtain ⟨a4, m4, e4⟩ := drawn_ex b hb2
    obtain ⟨a5, m5, e5⟩ := drawn_ex b hb2
    obtain ⟨a6, m6, e6⟩ := drawn_ex b hb2
    have s0 := nms_small a0 m0
    have s1 := nms_small a1 m1
    have s2 := nms_small a2 m2
    have s3 := nms_small a3 m3
    have s4 := nms_small a4 m4
    have s5 := nms_small a5 m5
    have s6 := nms_small a6 m6
    refine Ev.bind (show Ev (fun k => spec_DrawVoid.f k b) a0 from e0) ?_
    refine Ev.bind (show Ev (fun k => spec_DrawOfHead.f k b) a1 from e1) ?_
    refine Ev.bind (show Ev (fun k => spec_DrawFormat.f k b) a2 from e2) ?_
    refine Ev.bind (show Ev (fun k => spec_DrawBlock.f k b) a3 from e3) ?_
    refine Ev.bind (show Ev (fun k => spec_DrawPart.f k b) a4 from e4) ?_
    refine Ev.bind (show Ev (fun k => spec_DrawWall.f k b) a5 from e5) ?_
    refine Ev.bind (show Ev (fun k => spec_DrawHead.f k b) a6 from e6) ?_
    rw [impl_Void_is a0 s0]
    simp only [Option.bind_some]
    refine Ev.bind (spec_Void_is a0) ?_
    simp only [bne_self_eq_false, Bool.false_eq_true, if_false]
    rw [impl_OfHead_is a1 s1]
    simp only [Option.bind_some]
    refine Ev.bind (spec_OfHead_is a1) ?_
    simp only [bne_self_eq_false, Bool.false_eq_true, if_false]
    rw [impl_Format_is a2 s2]
    simp only [Option.bind_some]
    refine Ev.bind (spec_Format_is a2) ?_
    simp only [bne_self_eq_false, Bool.false_eq_true, if_false]
    rw [impl_Block_is a3 s3]
    simp only [Option.bind_some]
    refine Ev.bind (spec_Block_is a3) ?_
    simp only [bne_self_eq_false, Bool.false_eq_true, if_false]
    rw [impl_Part_is a4 s4]
    simp only [Option.bind_some]
    refine Ev.bind (spec_Part_is a4) ?_
    simp only [bne_self_eq_false, Bool.false_eq_true, if_false]
    rw [impl_Wall_is a5 s5]
    simp only [Option.bind_some]
    refine Ev.bind (spec_Wall_is a5) ?_
    simp only [bne_self_eq_false, Bool.false_eq_true, if_false]
    rw [impl_Head_is a6 s6]
    simp only [Option.bind_some]
    refine Ev.bind (spec_Head_is a6) ?_
    simp only [bne_self_eq_false, Bool.false_eq_true, if_false]
    exact Ev.at1 fun k => kinds_end a0 m0 k

end Go.Proofs.Yteafgjebaedjbaa.Pure
