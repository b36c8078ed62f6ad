-- Written by this session's program wip/gen (the print, with contracts of our own beside it). Lean checks it.
import Derived.Test.YteafgjebaedjbaaDoorPFnExactLinesx0
namespace Go.Proofs.YteafgjebaedjbaaDoor.PFnExactLines
open Go.RowKit Go.Proofs.YteafgjebaedjbaaDoorW.PrintWords Go.Proofs.YteafgjebaedjbaaDoorW.PrintLast Go.Proofs.YteafgjebaedjbaaDoorW.PrintMore
attribute [local go_sem] max2_int min2_int max_two min_two max_three min_three max_four min_four   -- for this text's walks alone
set_option linter.unusedVariables false
set_option linter.unusedSimpArgs false

/-! ### spec_Lines: function 6, given (spec.Lines.tpl) -/
/-- One byte of a text. -/
def byteAt (s : ByteArray) (i : Int) : UInt8 := UInt8.ofNat (bt s i).toNat
theorem byteAt_toNat (s : ByteArray) (i : Int) : ((byteAt s i).toNat : Int) = bt s i := by
  have h : 0 ≤ bt s i ∧ bt s i < 256 := by
    unfold bt
    split
    · exact ⟨by omega, by have := (s[i.toNat]).toNat_lt; omega⟩
    · exact ⟨by omega, by omega⟩
  unfold byteAt
  rw [UInt8.toNat_ofNat']
  omega
/-- Bytes as numbers. -/
def byteNums (l : List UInt8) : List Int := l.map fun b => (b.toNat : Int)
theorem byteNums_length (l : List UInt8) : (byteNums l).length = l.length := List.length_map _
theorem byteNums_text (l : List UInt8) (s : ByteArray) : byteNums (l ++ s.data.toList) = byteNums l ++ bytesOf s := by unfold byteNums bytesOf; rw [List.map_append]
theorem byteNums_one (l : List UInt8) (s : ByteArray) (i : Int) : byteNums (l ++ [byteAt s i]) = byteNums l ++ [bt s i] := by
  unfold byteNums
  rw [List.map_append]
  simp only [List.map_cons, List.map_nil, byteAt_toNat]
theorem byteNums_str (l : List UInt8) : strOfNums (byteNums l) = ⟨l.toArray⟩ := Lib.Lz.strOfNums_map l
theorem byteCells_one (l : List UInt8) (b : UInt8) : Lib.byteCells (l ++ [b]) = Lib.byteCells l ++ [.int .u8 (b.toNat : Int)] := by simp [Lib.byteCells]
theorem byteCells_append (l r : List UInt8) : Lib.byteCells (l ++ r) = Lib.byteCells l ++ Lib.byteCells r := by simp [Lib.byteCells]

theorem refs_byte : (Tryd.prog.info? 5).map (fun i => (i.zero, i.size, i.bytes)) = some (some (.int .u8 0), 1, 1) := by kernel_rfl

/-- The ends of lines made one kind: 13, and 13 10, become 10; the mark tells that a 13 stood ahead. -/
def linesG : Bool → List UInt8 → List UInt8
  | _, [] => []
  | skip, b :: t => if skip = true ∧ b = 10 then linesG false t else if b = 13 then 10 :: linesG true t else b :: linesG false t
theorem linesG_le : ∀ (k : Bool) (l : List UInt8), (linesG k l).length ≤ l.length
  | _, [] => Nat.le_refl _
  | k, b :: t => by
    have h1 := linesG_le false t
    have h2 := linesG_le true t
    unfold linesG
    split
    · simp only [List.length_cons]; omega
    · split <;> (simp only [List.length_cons]; omega)
theorem linesG_pos (l : List UInt8) (h : 0 < l.length) : 0 < (linesG false l).length := by
  cases l with
  | nil => simp at h
  | cons b t =>
    unfold linesG
    rw [if_neg (by simp)]
    split <;> simp
theorem drop_byte (s : ByteArray) (i : Nat) (h : i < s.size) : s.data.toList.drop i = byteAt s (i : Int) :: s.data.toList.drop (i + 1) := by
  have h2 : i < s.data.toList.length := by rw [data_length]; exact h
  rw [List.drop_eq_getElem_cons h2]
  congr 1
  have e : s.data.toList[i] = s[i]'h := by rw [Array.getElem_toList]; rfl
  unfold byteAt bt
  rw [Int.toNat_natCast, dif_pos h, Int.toNat_natCast, UInt8.ofNat_toNat, e]
theorem byteAt_is (s : ByteArray) (i n : Nat) (h : bt s (i : Int) = (n : Int)) : byteAt s (i : Int) = UInt8.ofNat n := by
  unfold byteAt
  rw [h, Int.toNat_natCast]
theorem linesG_cr {acc L t : List UInt8} {b : UInt8} (h : acc ++ linesG false (b :: t) = L) (hb : b = 13) : (acc ++ [10]) ++ linesG true t = L := by
  subst hb
  rw [← h, List.append_assoc]
  rfl
theorem linesG_lf {acc L t : List UInt8} {b : UInt8} (h : acc ++ linesG true (b :: t) = L) (hb : b = 10) : acc ++ linesG false t = L := by
  subst hb
  rw [← h]
  rfl
theorem linesG_no {acc L l : List UInt8} (h : acc ++ linesG true l = L) (hl : ∀ b t, l = b :: t → b ≠ 10) : acc ++ linesG false l = L := by
  rw [← h]
  congr 1
  cases l with
  | nil => rfl
  | cons b t =>
    have hb := hl b t rfl
    simp [linesG, hb]
theorem linesG_other {acc L t : List UInt8} {b : UInt8} (h : acc ++ linesG false (b :: t) = L) (hb : b ≠ 13) : (acc ++ [b]) ++ linesG false t = L := by
  rw [← h, List.append_assoc]
  congr 1
  simp [linesG, hb]

def spec_Lines.f (s : ByteArray) : Option ByteArray := if s.size ≤ 140737488355328 then some ⟨(linesG false s.data.toList).toArray⟩ else none
set_option maxHeartbeats 4000000 in
set_option maxRecDepth 100000 in
theorem spec_Lines.calls (s r : ByteArray) (w : World) (h : spec_Lines.f s = some r) :
    Calls Tryd.prog 6 #[.string s] w fun e w' => e = .returned (.string r) ∧ Below w.heap.size w w' := by
  unfold spec_Lines.f at h
  by_cases c1 : s.size ≤ 140737488355328
  rotate_left
  · rw [if_neg c1] at h; exact absurd h (by simp)
  rw [if_pos c1] at h
  have HR := Aside0.mk (Option.some.inj h)
  have HL := Aside0.mk c1
  have HB := Aside0.mk ((Below.refl w.heap.size w).alloc (Nat.le_refl _) (.cells #[] 5))
  have HO := Aside0.mk (show (w.alloc (.cells #[] 5)).ownsRow w.heap.size 5 1 _ (byteNums []).length (nums .u8 (byteNums [])) from own_lit w w.heap.size 5 .u8 [] (Nat.le_refl _) (by decide))
  clear h c1
  go_enter Tryd.func6, Tryd.ntmps6
  go_wp2
  go_loopg [3, 4] s.size (fun kq v3 v4 w' => ∃ (acc : List UInt8) (i : Nat), v4 = .int .i64 (i : Int) ∧ Aside0 (kq + i = s.size) ∧ Aside0 (acc ++ linesG false (s.data.toList.drop i) = linesG false s.data.toList) ∧ Aside0 (w'.ownsRow w.heap.size 5 1 v3 (byteNums acc).length (nums .u8 (byteNums acc))) ∧ Aside0 (Below w.heap.size w w'))
  case atStart => exact ⟨[], 0, rfl, ⟨by omega⟩, ⟨rfl⟩, HO, HB⟩
  case round =>
    clear HO HB
    obtain ⟨acc, i, rfl, HI, HA, HO, HB⟩ := hrel
    by_cases hi : i < s.size
    · have c1 : decide ((i : Int) < (s.size : Int)) = true := decide_eq_true (by omega)
      have c1b : decide (i < s.size) = true := decide_eq_true hi
      have LA := Aside0.mk (show acc.length + 1 ≤ 140737488355328 by
        have h1 := congrArg List.length HA.out
        have h2 := linesG_le false s.data.toList
        have h3 : s.data.toList.length = s.size := data_length s
        have h4 := linesG_pos (s.data.toList.drop i) (by rw [List.length_drop, data_length]; omega)
        rw [List.length_append] at h1
        have h5 := HL.out
        omega)
      have LN := Aside0.mk (show ((byteNums acc).length + 1) * 1 ≤ 140737488355328 by rw [byteNums_length]; have := LA.out; omega)
      have HN := Aside0.mk (drop_byte s i hi)
      have HW := Aside0.mk (show wrap64 ((i : Int) + 1) = ((i + 1 : Nat) : Int) by have := HL.out; unfold wrap64; omega)
      have HSI := Aside0.mk hi
      have hx7 : ∀ h : i < s.size, ((s[i]'h).toNat : Int) = bt s (i : Int) := fun h => bt_at s (i : Int) h
      have p7 : ((0 : Int) ≤ (i : Int)) = True := eq_true (by omega)
      have q7 : ((i : Int) < (s.size : Int)) = True := eq_true (by omega)
      clear hi
      by_cases c13 : bt s (i : Int) = 13
      · have e13 : (bt s (i : Int) == 13) = true := beq_iff_eq.mpr c13
        have f13 : (bt s (i : Int) != 13) = false := bne_eq_false_iff_eq.mpr c13
        have HNX := Aside0.mk (linesG_cr (HN.out ▸ HA.out) (byteAt_is s i 13 c13))
        clear c13
        by_cases hi2 : i + 1 < s.size
        · have c2 : decide ((wrap64 ((i : Int) + 1)) < (s.size : Int)) = true := decide_eq_true (by rw [HW.out]; omega)
          have hx8 := bt_at s (wrap64 ((i : Int) + 1))
          have p8 : ((0 : Int) ≤ wrap64 ((i : Int) + 1)) = True := eq_true (by rw [HW.out]; omega)
          have q8 : (wrap64 ((i : Int) + 1) < (s.size : Int)) = True := eq_true (by rw [HW.out]; omega)
          have HN2 := Aside0.mk (drop_byte s (i + 1) hi2)
          have HSI2 := Aside0.mk hi2
          by_cases c10 : bt s (wrap64 ((i : Int) + 1)) = 10
          · have e10 : (bt s (wrap64 ((i : Int) + 1)) == 10) = true := beq_iff_eq.mpr c10
            have HE := Aside0.mk (linesG_lf (HN2.out ▸ HNX.out) (byteAt_is s (i + 1) 10 (by rw [← HW.out]; exact c10)))
            have HW2 := Aside0.mk (show wrap64 (wrap64 ((i : Int) + 1) + 1) = ((i + 1 + 1 : Nat) : Int) by rw [HW.out]; have := HL.out; unfold wrap64; omega)
            clear c10
            go_wp2_with (at_builtin; refine print_append_num w.heap.size rfl (.tmp 22) (.tmp 23) 24 5 .u8 1 rfl Tryd.underlying24 refs_byte (by decide) u3 (byteNums acc) 10 rfl rfl HO.out HB.out (below_size HB.out) LN.out ?_; intro v1 w2 ho2 hb2 hg2 ha2; have HO2 := Aside0.mk ho2; have HB2 := Aside0.mk hb2; clear ho2 hb2 hg2 ha2)
            go_roundg (gk - 2)
            case measure => have := HI.out; have := HSI.out; omega
            case rel => exact ⟨acc ++ [10], i + 1 + 1, by rw [HW2.out], ⟨by have := HI.out; have := HSI2.out; omega⟩, HE, ⟨by have e := HO2.out; rw [show byteNums acc ++ [10] = byteNums (acc ++ [10]) by simp [byteNums]] at e; exact e⟩, HB2⟩
          · have e10 : (bt s (wrap64 ((i : Int) + 1)) == 10) = false := beq_eq_false_iff_ne.mpr c10
            have HE := Aside0.mk (linesG_no HNX.out (fun b t e => by rw [HN2.out] at e; injection e with e _; exact fun h => c10 (by rw [HW.out, ← byteAt_toNat, e, h]; rfl)))
            clear c10
            go_wp2_with (at_builtin; refine print_append_num w.heap.size rfl (.tmp 22) (.tmp 23) 24 5 .u8 1 rfl Tryd.underlying24 refs_byte (by decide) u3 (byteNums acc) 10 rfl rfl HO.out HB.out (below_size HB.out) LN.out ?_; intro v1 w2 ho2 hb2 hg2 ha2; have HO2 := Aside0.mk ho2; have HB2 := Aside0.mk hb2; clear ho2 hb2 hg2 ha2)
            go_roundg (gk - 1)
            case measure => have := HI.out; have := HSI.out; omega
            case rel => exact ⟨acc ++ [10], i + 1, by rw [HW.out], ⟨by have := HI.out; have := HSI.out; omega⟩, HE, ⟨by have e := HO2.out; rw [show byteNums acc ++ [10] = byteNums (acc ++ [10]) by simp [byteNums]] at e; exact e⟩, HB2⟩
        · have c2 : decide ((wrap64 ((i : Int) + 1)) < (s.size : Int)) = false := decide_eq_false (by rw [HW.out]; omega)
          have HE := Aside0.mk (linesG_no HNX.out (fun b t e => by have := congrArg List.length e; rw [List.length_drop, data_length] at this; simp only [List.length_cons] at this; omega))
          clear hi2
          go_wp2_with (at_builtin; refine print_append_num w.heap.size rfl (.tmp 22) (.tmp 23) 24 5 .u8 1 rfl Tryd.underlying24 refs_byte (by decide) u3 (byteNums acc) 10 rfl rfl HO.out HB.out (below_size HB.out) LN.out ?_; intro v1 w2 ho2 hb2 hg2 ha2; have HO2 := Aside0.mk ho2; have HB2 := Aside0.mk hb2; clear ho2 hb2 hg2 ha2)
          go_roundg (gk - 1)
          case measure => have := HI.out; have := HSI.out; omega
          case rel => exact ⟨acc ++ [10], i + 1, by rw [HW.out], ⟨by have := HI.out; have := HSI.out; omega⟩, HE, ⟨by have e := HO2.out; rw [show byteNums acc ++ [10] = byteNums (acc ++ [10]) by simp [byteNums]] at e; exact e⟩, HB2⟩
      · have e13 : (bt s (i : Int) == 13) = false := beq_eq_false_iff_ne.mpr c13
        have f13 : (bt s (i : Int) != 13) = true := bne_iff_ne.mpr c13
        have HE := Aside0.mk (linesG_other (HN.out ▸ HA.out) (fun h => c13 (by rw [← byteAt_toNat, h]; rfl)))
        clear c13
        go_wp2_with (at_builtin; refine print_append_num w.heap.size rfl (.tmp 16) (.tmp 20) 24 5 .u8 1 rfl Tryd.underlying24 refs_byte (by decide) u3 (byteNums acc) (bt s (i : Int)) rfl rfl HO.out HB.out (below_size HB.out) LN.out ?_; intro v1 w2 ho2 hb2 hg2 ha2; have HO2 := Aside0.mk ho2; have HB2 := Aside0.mk hb2; clear ho2 hb2 hg2 ha2)
        go_roundg (gk - 1)
        case measure => have := HI.out; have := HSI.out; omega
        case rel => exact ⟨acc ++ [byteAt s (i : Int)], i + 1, by rw [HW.out], ⟨by have := HI.out; have := HSI.out; omega⟩, HE, ⟨by have e := HO2.out; rw [← byteNums_one] at e; exact e⟩, HB2⟩
    · have c1 : decide ((i : Int) < (s.size : Int)) = false := decide_eq_false (by omega)
      have c1b : decide (i < s.size) = false := decide_eq_false hi
      have HE := Aside0.mk (show acc = linesG false s.data.toList by
        have h := HA.out
        rw [List.drop_of_length_le (show s.data.toList.length ≤ i by rw [data_length]; omega)] at h
        simpa [linesG] using h)
      have ks := own_string (P := Tryd.prog) Tryd.underlying24 Tryd.underlying5 Tryd.underlying9 HO.out
      clear hi
      go_wp2
      go_ret
      exact ⟨by first | (rw [← HR.out, ← HE.out, byteNums_str]; done) | (rw [← HR.out, ← HE.out, ← byteNums_str]; rfl), HB.out⟩

/-! ### strings_ReplaceAll: function 33, given (strings.ReplaceAll.tpl) -/
/-- The cell of internal/bytealg.MaxLen holds some int. -/
def MaxSeen (w : World) : Prop := ∃ m : Int, w.cell? ⟨0, 0, none⟩ = some (.int .i64 m)
theorem MaxSeen.below {w w1 : World} (h : MaxSeen w) (hb : Below w.heap.size w w1) : MaxSeen w1 := by
  obtain ⟨m, hm⟩ := h
  exact ⟨m, pw_cell_below hb hm⟩
theorem MaxSeen.of_shaped {w : World} (h : w.ShapedOpen Tryd.prog) : MaxSeen w := Tryd.laysM155.s1_3 w h

def strings_ReplaceAll.f (a0 a1 a2 : ByteArray) : Option ByteArray := if a0.size < 4294967281 ∧ 1 ≤ a1.size ∧ a0.size + Lib.countB a0 a1 * a2.size ≤ 140737488355328 then some ⟨(Lib.replaceAll a0.data.toList a1.data.toList a2.data.toList).toArray⟩ else none
theorem strings_ReplaceAll.calls (a0 a1 a2 : ByteArray) (r : ByteArray) (w : World) (hG : MaxSeen w) (h : strings_ReplaceAll.f a0 a1 a2 = some r) :
    Calls Tryd.prog 33 #[.string a0, .string a1, .string a2] w fun e w' => e = .returned (.string r) ∧ Below w.heap.size w w' := by
  unfold strings_ReplaceAll.f at h
  by_cases c : a0.size < 4294967281 ∧ 1 ≤ a1.size ∧ a0.size + Lib.countB a0 a1 * a2.size ≤ 140737488355328
  · rw [if_pos c] at h
    obtain rfl := Option.some.inj h
    obtain ⟨m, hm⟩ := hG
    exact Tryd.strings_ReplaceAll a0 a1 a2 m w c.1 hm c.2.1 c.2.2
  · rw [if_neg c] at h; exact absurd h (by simp)

/-! ### impl_Lines: function 7 -/
def impl_Lines.f (a0 : ByteArray) : Option (ByteArray) := (strings_ReplaceAll.f a0 (⟨#[13, 10]⟩ : ByteArray) (⟨#[10]⟩ : ByteArray)).bind fun t101 => ((strings_ReplaceAll.f t101 (⟨#[13]⟩ : ByteArray) (⟨#[10]⟩ : ByteArray)).bind fun t102 => (some t102))
set_option maxHeartbeats 8000000 in
set_option maxRecDepth 100000 in
theorem impl_Lines.calls (a0 : ByteArray) (r : ByteArray) (w : World) (hG : MaxSeen w) (h : impl_Lines.f a0 = some r) :
    Calls Tryd.prog 7 #[.string a0] w fun e w' => e = .returned (.string r) ∧ Below w.heap.size w w' := by
  have HB := Aside0.mk (Below.refl w.heap.size w)
  have HG := Aside0.mk hG
  clear hG
  have H : ((strings_ReplaceAll.f a0 (⟨#[13, 10]⟩ : ByteArray) (⟨#[10]⟩ : ByteArray)).bind fun t101 => ((strings_ReplaceAll.f t101 (⟨#[13]⟩ : ByteArray) (⟨#[10]⟩ : ByteArray)).bind fun t102 => (some t102))) = some r := h
  clear h
  replace H := Option.bind_eq_some_iff.mp H
  obtain ⟨t101, A20, H⟩ := H
  replace H : ((strings_ReplaceAll.f t101 (⟨#[13]⟩ : ByteArray) (⟨#[10]⟩ : ByteArray)).bind fun t102 => (some t102)) = some r := H
  have A2 := Aside0.mk A20
  clear A20
  replace H := Option.bind_eq_some_iff.mp H
  obtain ⟨t102, A30, H⟩ := H
  replace H : (some t102) = some r := H
  have A3 := Aside0.mk A30
  clear A30
  obtain rfl := Option.some.inj H
  go_enter Tryd.func7, Tryd.ntmps7
  go_wp2_with (first | ((with_reducible refine gate_callee (f := 33) rfl ?_); refine goesL_ (some 4) rfl rfl Tryd.func33 (by kernel_rfl) rfl #[.string a0, .string (⟨#[13, 10]⟩ : ByteArray), .string (⟨#[10]⟩ : ByteArray)] rfl (by (try simp only [List.map_toArray, List.map_cons, List.map_nil]); first | done | rfl | (simp only [List.length_drop, List.length_take]; rfl)) ?_; (with_reducible refine (strings_ReplaceAll.calls a0 (⟨#[13, 10]⟩ : ByteArray) (⟨#[10]⟩ : ByteArray) t101 _ ?side1 A2.out).mono ?_); (case side1 => exact MaxSeen.below HG.out (by repeat (first | (with_reducible first | exact HB.out | apply below_alloc | apply pw_below_drewN | apply below_drew1) | exact HB.out))); rintro e w4 ⟨rfl, hb⟩; refine ⟨_, rfl, ?_⟩; have n0_ := Aside0.mk (below_step (by repeat (first | (with_reducible first | exact HB.out | apply below_alloc | apply pw_below_drewN | apply below_drew1) | exact HB.out)) hb); clear HB; have HB := n0_; clear n0_; (try clear hb); (try clear hb2); (try clear hk); (try clear hi)) | ((with_reducible refine gate_callee (f := 33) rfl ?_); refine goesL_ (some 6) rfl rfl Tryd.func33 (by kernel_rfl) rfl #[.string t101, .string (⟨#[13]⟩ : ByteArray), .string (⟨#[10]⟩ : ByteArray)] rfl (by (try simp only [List.map_toArray, List.map_cons, List.map_nil]); first | done | rfl | (simp only [List.length_drop, List.length_take]; rfl)) ?_; (with_reducible refine (strings_ReplaceAll.calls t101 (⟨#[13]⟩ : ByteArray) (⟨#[10]⟩ : ByteArray) t102 _ ?side1 A3.out).mono ?_); (case side1 => exact MaxSeen.below HG.out (by repeat (first | (with_reducible first | exact HB.out | apply below_alloc | apply pw_below_drewN | apply below_drew1) | exact HB.out))); rintro e w5 ⟨rfl, hb⟩; refine ⟨_, rfl, ?_⟩; have n0_ := Aside0.mk (below_step (by repeat (first | (with_reducible first | exact HB.out | apply below_alloc | apply pw_below_drewN | apply below_drew1) | exact HB.out)) hb); clear HB; have HB := n0_; clear n0_; (try clear hb); (try clear hb2); (try clear hk); (try clear hi)))
  go_ret
  exact ⟨by first | rfl | (simp [errW_none, errW_some] <;> rfl) | (simp [*, errW_none, errW_some] <;> rfl), by repeat (first | (with_reducible first | exact HB.out | apply below_alloc | apply pw_below_drewN | apply below_drew1) | exact HB.out)⟩

/-! ### laws_FnExactLines: function 3 -/
def laws_FnExactLines.f (a0 : ByteArray) : Option (Bool) := if (a0.size : Int) > 1048576 then (some true) else ((spec_Lines.f a0).bind fun t103 => ((impl_Lines.f a0).bind fun t104 => (if t104.toList = t103.toList then (some true) else (some false))))
set_option maxHeartbeats 8000000 in
set_option maxRecDepth 100000 in
theorem laws_FnExactLines.calls (a0 : ByteArray) (r : Bool) (w : World) (hG : MaxSeen w) (h : laws_FnExactLines.f a0 = some r) :
    Calls Tryd.prog 3 #[.string a0] w fun e w' => e = .returned (.bool r) ∧ Below w.heap.size w w' := by
  have HB := Aside0.mk (Below.refl w.heap.size w)
  have HG := Aside0.mk hG
  clear hG
  have H : (if (a0.size : Int) > 1048576 then (some true) else ((spec_Lines.f a0).bind fun t103 => ((impl_Lines.f a0).bind fun t104 => (if t104.toList = t103.toList then (some true) else (some false))))) = some r := h
  clear h
  by_cases c2 : (a0.size : Int) > 1048576
  · rw [if_pos c2] at H
    have c2b0 : decide (1048576 < (a0.size : Int)) = true := decide_eq_true c2
    have c2b1 : decide (1048576 < a0.size) = true := decide_eq_true (by omega)
    clear c2
    obtain rfl := Option.some.inj H
    go_enter Tryd.func3, Tryd.ntmps3
    go_wp2
    go_ret
    exact ⟨by first | rfl | (simp [errW_none, errW_some] <;> rfl) | (simp [*, errW_none, errW_some] <;> rfl), by repeat (first | (with_reducible first | exact HB.out | apply below_alloc | apply pw_below_drewN | apply below_drew1) | exact HB.out)⟩
  · rw [if_neg c2] at H
    have c2b0 : decide (1048576 < (a0.size : Int)) = false := decide_eq_false c2
    have c2b1 : decide (1048576 < a0.size) = false := decide_eq_false (by omega)
    clear c2
    replace H := Option.bind_eq_some_iff.mp H
    obtain ⟨t103, A30, H⟩ := H
    replace H : ((impl_Lines.f a0).bind fun t104 => (if t104.toList = t103.toList then (some true) else (some false))) = some r := H
    have A3 := Aside0.mk A30
    clear A30
    replace H := Option.bind_eq_some_iff.mp H
    obtain ⟨t104, A40, H⟩ := H
    replace H : (if t104.toList = t103.toList then (some true) else (some false)) = some r := H
    have A4 := Aside0.mk A40
    clear A40
    by_cases c5 : t104.toList = t103.toList
    · rw [if_pos c5] at H
      have c5b0 : (t104.toList == t103.toList) = true := beq_iff_eq.mpr c5
      have c5b1 : (t104.toList != t103.toList) = false := bne_eq_false_iff_eq.mpr c5
      clear c5
      obtain rfl := Option.some.inj H
      go_enter Tryd.func3, Tryd.ntmps3
      go_wp2_with (first | ((with_reducible refine gate_callee (f := 6) rfl ?_); refine goesL_ (some 9) rfl rfl Tryd.func6 (by kernel_rfl) rfl #[.string a0] rfl (by (try simp only [List.map_toArray, List.map_cons, List.map_nil]); first | done | rfl | (simp only [List.length_drop, List.length_take]; rfl)) ?_; (with_reducible refine (spec_Lines.calls a0 t103 _ A3.out).mono ?_); rintro e w6 ⟨rfl, hb⟩; refine ⟨_, rfl, ?_⟩; have n0_ := Aside0.mk (below_step (by repeat (first | (with_reducible first | exact HB.out | apply below_alloc | apply pw_below_drewN | apply below_drew1) | exact HB.out)) hb); clear HB; have HB := n0_; clear n0_; (try clear hb); (try clear hb2); (try clear hk); (try clear hi)) | ((with_reducible refine gate_callee (f := 7) rfl ?_); refine goesL_ (some 11) rfl rfl Tryd.func7 (by kernel_rfl) rfl #[.string a0] rfl (by (try simp only [List.map_toArray, List.map_cons, List.map_nil]); first | done | rfl | (simp only [List.length_drop, List.length_take]; rfl)) ?_; (with_reducible refine (impl_Lines.calls a0 t104 _ ?side1 A4.out).mono ?_); (case side1 => exact MaxSeen.below HG.out (by repeat (first | (with_reducible first | exact HB.out | apply below_alloc | apply pw_below_drewN | apply below_drew1) | exact HB.out))); rintro e w7 ⟨rfl, hb⟩; refine ⟨_, rfl, ?_⟩; have n0_ := Aside0.mk (below_step (by repeat (first | (with_reducible first | exact HB.out | apply below_alloc | apply pw_below_drewN | apply below_drew1) | exact HB.out)) hb); clear HB; have HB := n0_; clear n0_; (try clear hb); (try clear hb2); (try clear hk); (try clear hi)))
      go_ret
      exact ⟨by first | rfl | (simp [errW_none, errW_some] <;> rfl) | (simp [*, errW_none, errW_some] <;> rfl), by repeat (first | (with_reducible first | exact HB.out | apply below_alloc | apply pw_below_drewN | apply below_drew1) | exact HB.out)⟩
    · rw [if_neg c5] at H
      have c5b0 : (t104.toList == t103.toList) = false := beq_eq_false_iff_ne.mpr c5
      have c5b1 : (t104.toList != t103.toList) = true := bne_iff_ne.mpr c5
      obtain rfl := Option.some.inj H
      go_enter Tryd.func3, Tryd.ntmps3
      go_wp2_with (first | ((with_reducible refine gate_callee (f := 6) rfl ?_); refine goesL_ (some 9) rfl rfl Tryd.func6 (by kernel_rfl) rfl #[.string a0] rfl (by (try simp only [List.map_toArray, List.map_cons, List.map_nil]); first | done | rfl | (simp only [List.length_drop, List.length_take]; rfl)) ?_; (with_reducible refine (spec_Lines.calls a0 t103 _ A3.out).mono ?_); rintro e w8 ⟨rfl, hb⟩; refine ⟨_, rfl, ?_⟩; have n0_ := Aside0.mk (below_step (by repeat (first | (with_reducible first | exact HB.out | apply below_alloc | apply pw_below_drewN | apply below_drew1) | exact HB.out)) hb); clear HB; have HB := n0_; clear n0_; (try clear hb); (try clear hb2); (try clear hk); (try clear hi)) | ((with_reducible refine gate_callee (f := 7) rfl ?_); refine goesL_ (some 11) rfl rfl Tryd.func7 (by kernel_rfl) rfl #[.string a0] rfl (by (try simp only [List.map_toArray, List.map_cons, List.map_nil]); first | done | rfl | (simp only [List.length_drop, List.length_take]; rfl)) ?_; (with_reducible refine (impl_Lines.calls a0 t104 _ ?side1 A4.out).mono ?_); (case side1 => exact MaxSeen.below HG.out (by repeat (first | (with_reducible first | exact HB.out | apply below_alloc | apply pw_below_drewN | apply below_drew1) | exact HB.out))); rintro e w9 ⟨rfl, hb⟩; refine ⟨_, rfl, ?_⟩; have n0_ := Aside0.mk (below_step (by repeat (first | (with_reducible first | exact HB.out | apply below_alloc | apply pw_below_drewN | apply below_drew1) | exact HB.out)) hb); clear HB; have HB := n0_; clear n0_; (try clear hb); (try clear hb2); (try clear hk); (try clear hi)))
      go_ret
      exact ⟨by first | rfl | (simp [errW_none, errW_some] <;> rfl) | (simp [*, errW_none, errW_some] <;> rfl), by repeat (first | (with_reducible first | exact HB.out | apply below_alloc | apply pw_below_drewN | apply below_drew1) | exact HB.out)⟩

/-- THE ONE PURE STATEMENT of laws_FnExactLines: yours. -/
def laws_FnExactLines.Pure : Prop := ∀ (a0 : ByteArray), a0.size ≤ 140737488351232 → laws_FnExactLines.f a0 = some true
theorem laws_FnExactLines.walk (P : laws_FnExactLines.Pure) (a0 : ByteArray) (w : World) (w0 : a0.size ≤ 140737488351232) (hG : MaxSeen w) :
    Calls Tryd.prog 3 #[.string a0] w fun e w' => e = .returned (.bool true) ∧ Below w.heap.size w w' := by
  have h := P a0 w0
  refine (laws_FnExactLines.calls a0 true w hG h).mono ?_
  rintro e w' ⟨rfl, hd⟩
  exact ⟨rfl, hd⟩

end Go.Proofs.YteafgjebaedjbaaDoor.PFnExactLines
