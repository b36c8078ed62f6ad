-- Written by this session's program wip/gen (the print, with contracts of our own beside it). Lean checks it.
import Derived.Test.YteidmggjnhjofaaPFnExactSmallx0
namespace Go.Proofs.Yteidmggjnhjofaa.PFnExactSmall
open Go.RowKit Go.Proofs.YteidmggjnhjofaaW.PrintWords Go.Proofs.YteidmggjnhjofaaW.PrintLast Go.Proofs.YteidmggjnhjofaaW.PrintMore
attribute [local go_sem] max2_int min2_int max_two min_two max_three min_three max_four min_four   -- for this text's walks alone
set_option linter.unusedVariables false
set_option linter.unusedSimpArgs false

/-! ### spec_Small: function 23, given (spec.Small.tpl) -/
theorem heap_setCell_row {w : World} {g : Nat} {t : TypeId} {fr : Nat × Nat} {cs : Array Value} (h : w.heap[g]? = some (.cells cs t fr)) (i : Nat) (u : Value) : (w.setCell ⟨g, i, none⟩ u).heap[g]? = some (.cells (cs.setIfInBounds i u) t fr) := by
  simp [World.setCell, Array.getElem?_modify, h]
/-- A row of bytes that a conversion of a string made (its mark lies behind the bytes): what it holds. -/
def BK (w : World) (g n : Nat) (xs : List Int) : Prop := ∃ cs m, w.heap[g]? = some (.cells cs 5 (m, m + 1)) ∧ xs.length = n ∧ n ≤ m ∧ n ≤ cs.size ∧ ∀ j, j < n → cs[j]? = some (.int .u8 (rd xs (j : Int)))
theorem BK.cell {w : World} {g n : Nat} {xs : List Int} (h : BK w g n xs) (j : Nat) (hj : j < n) : w.cell? ⟨g, j, none⟩ = some (.int .u8 (rd xs (j : Int))) := by
  obtain ⟨cs, m, hb, hl, hm, hs, hc⟩ := h
  rw [cell_of_row w g j cs _ _ hb]
  exact hc j hj
theorem BK.free {w : World} {g n : Nat} {xs : List Int} (h : BK w g n xs) (j : Nat) (hj : j < n) : w.frozen? ⟨g, j, none⟩ = false := by
  obtain ⟨cs, m, hb, hl, hm, hs, hc⟩ := h
  simp only [World.frozen?, hb]
  simp
  omega
theorem BK.set {w : World} {g n : Nat} {xs : List Int} (h : BK w g n xs) (j : Nat) (hj : j < n) (x : Int) : BK (w.setCell ⟨g, j, none⟩ (.int .u8 x)) g n (xs.set j x) := by
  obtain ⟨cs, m, hb, hl, hm, hs, hc⟩ := h
  refine ⟨cs.setIfInBounds j (.int .u8 x), m, heap_setCell_row hb j _, by simpa using hl, hm, by simpa using hs, fun i hi => ?_⟩
  unfold rd
  rw [Int.toNat_natCast]
  by_cases e : j = i
  · subst e
    have : j < cs.size := by omega
    have h2 : j < xs.length := by omega
    simp [this, h2]
  · have hh := hc i hi
    unfold rd at hh
    rw [Int.toNat_natCast] at hh
    rw [Array.getElem?_setIfInBounds_ne e]
    simp only [List.getD_eq_getElem?_getD] at hh ⊢
    rw [List.getElem?_set_ne e]
    exact hh
theorem BK.reads {w : World} {g n : Nat} {xs : List Int} (h : BK w g n xs) (hn : n ≤ 9223372036854775807) : ReadsInt w .u8 (some ⟨g, 0, none⟩) n xs := by
  have hl : xs.length = n := by obtain ⟨cs, m, hb, hl, _⟩ := h; exact hl
  refine ⟨hl, hn, fun _ => ⟨_, rfl, fun j hj => ?_⟩⟩
  rw [add_plain]
  have := h.cell j hj
  unfold rd at this
  rw [Int.toNat_natCast] at this
  exact this
theorem BK.make (w : World) (s : ByteArray) : BK (Lib.bytesWorld w 5 s) w.heap.size s.size (bytesOf s) := by
  refine ⟨Lib.bytesCells w 5 s, _, Lib.bytesWorld_at_new w 5 s, bytesOf_length s, ?_, ?_, fun j hj => ?_⟩
  · simp [Lib.bytesCells]
  · simp [Lib.bytesCells]
  · have h1 := Lib.bytesWorld_cell w 5 s j hj
    rw [cell_of_row _ _ j _ _ _ (Lib.bytesWorld_at_new w 5 s)] at h1
    rw [h1, rd_bytesOf]
    unfold bt
    have h' : j < s.data.toList.length := by rw [data_length]; exact hj
    simp [hj, List.getD_eq_getElem?_getD, List.getElem?_eq_getElem h']
    rfl

/-- A byte, small. -/
def sm1 (x : Int) : Int := if 65 ≤ x ∧ x ≤ 90 then x + 32 else x
/-- The first i bytes small. -/
def smAt (xs : List Int) (i : Nat) : List Int := (xs.take i).map sm1 ++ xs.drop i
def smallOf (s : ByteArray) : ByteArray := strOfNums ((bytesOf s).map sm1)
theorem smAt_zero (xs : List Int) : smAt xs 0 = xs := by simp [smAt]
theorem smAt_all (xs : List Int) (i : Nat) (h : xs.length ≤ i) : smAt xs i = xs.map sm1 := by simp [smAt, List.take_of_length_le h, List.drop_of_length_le h]
theorem rd_smAt (xs : List Int) (i : Nat) (h : i < xs.length) : rd (smAt xs i) (i : Int) = rd xs (i : Int) := by
  unfold rd smAt
  rw [Int.toNat_natCast]
  simp [List.getElem?_append, Nat.min_eq_left (Nat.le_of_lt h)]
theorem smAt_next (xs : List Int) (i : Nat) (h : i < xs.length) : smAt xs (i + 1) = (smAt xs i).set i (sm1 (rd xs (i : Int))) := by
  unfold smAt rd
  rw [Int.toNat_natCast]
  have hl : ((xs.take i).map sm1).length = i := by simp; omega
  rw [List.set_append_right _ _ (by omega), hl, Nat.sub_self, List.drop_eq_getElem_cons h, List.take_succ_eq_append_getElem h, List.map_append, List.set_cons_zero, List.append_assoc]
  simp [List.getD_eq_getElem?_getD, List.getElem?_eq_getElem h]
theorem smAt_keep (xs : List Int) (i : Nat) (h : i < xs.length) (he : sm1 (rd xs (i : Int)) = rd xs (i : Int)) : smAt xs (i + 1) = smAt xs i := by
  rw [smAt_next xs i h, he]
  have := rd_smAt xs i h
  unfold rd at this ⊢
  rw [Int.toNat_natCast] at this ⊢
  rw [← this]
  have hl : i < (smAt xs i).length := by unfold smAt; simp; omega
  simp [List.getD_eq_getElem?_getD, List.getElem?_eq_getElem hl]

def spec_Small.f (a0 : ByteArray) : Option (ByteArray) := if a0.size ≤ 140737488351232 then some (smallOf a0) else none
set_option maxHeartbeats 8000000 in
set_option maxRecDepth 100000 in
theorem spec_Small.calls (a0 : ByteArray) (r : ByteArray) (w : World) (h : spec_Small.f a0 = some r) :
    Calls Try.prog 23 #[.string a0] w fun e w' => e = .returned (.string r) ∧ Below w.heap.size w w' := by
  have hs : a0.size ≤ 140737488351232 := by
    by_cases hs : a0.size ≤ 140737488351232
    · exact hs
    · unfold spec_Small.f at h; rw [if_neg hs] at h; exact absurd h (by simp)
  unfold spec_Small.f at h
  rw [if_pos hs] at h
  have HR := Aside0.mk (Option.some.inj h)
  clear h
  have kb := fun W => print_bytes (P := Try.prog) 9 34 5 Try.underlying9 Try.underlying34 Try.underlying5 a0 W
  have HB := Aside0.mk (bytes_below (Below.refl w.heap.size w) (Nat.le_refl _) 5 a0)
  have HK := Aside0.mk (BK.make w a0)
  go_enter Try.func23, Try.ntmps23
  go_wp2
  clear kb
  generalize Lib.bytesWorld w 5 a0 = w1 at HB HK ⊢
  generalize grownCap w a0.size 0 5 = c1
  go_loopg [4] a0.size (fun kq vi w' => ∃ i : Nat, vi = .int .i64 (i : Int) ∧ Aside0 (i + kq = a0.size) ∧ Aside0 (BK w' w.heap.size a0.size (smAt (bytesOf a0) i)) ∧ Aside0 (Below w.heap.size w w'))
  case atStart => exact ⟨0, rfl, ⟨by omega⟩, ⟨by rw [smAt_zero]; exact HK.out⟩, HB⟩
  case round =>
    clear HK HB
    obtain ⟨i, rfl, HI, HK, HB⟩ := hrel
    by_cases hi : i < a0.size
    · have hc := HK.out.cell i hi
      have hf := HK.out.free i hi
      have hil : i < (bytesOf a0).length := by rw [bytesOf_length]; exact hi
      rw [rd_smAt _ i hil] at hc
      have hn := Aside0.mk (HK.out.set i hi)
      have hne := smAt_next (bytesOf a0) i hil
      have hke := smAt_keep (bytesOf a0) i hil
      have hrg : 0 ≤ rd (bytesOf a0) (i : Int) ∧ rd (bytesOf a0) (i : Int) ≤ 255 := by rw [rd_bytesOf]; exact bt_range _ _
      generalize rd (bytesOf a0) (i : Int) = x at hc hne hke hrg
      have d0 : decide (i < a0.size) = true := decide_eq_true hi
      have d1 : decide ((i : Int) < (a0.size : Int)) = true := decide_eq_true (by omega)
      have i0 : (0 : Int) ≤ (i : Int) := by omega
      have HW := Aside0.mk (show wrap64 ((i : Int) + 1) = ((i + 1 : Nat) : Int) by unfold wrap64; omega)
      by_cases ca : 65 ≤ x
      · by_cases cb : x ≤ 90
        · have ba : decide (65 ≤ x) = true := decide_eq_true ca
          have bb : decide (x ≤ 90) = true := decide_eq_true cb
          have HN := Aside0.mk (show smAt (bytesOf a0) (i + 1) = (smAt (bytesOf a0) i).set i (x + 32) by rw [hne, sm1, if_pos ⟨ca, cb⟩])
          have hadd : IntKind.u8.wrap (x + 32) = x + 32 := by simp [IntKind.wrap, IntKind.bits, IntKind.signed]; omega
          clear hne hke
          go_wp2
          go_roundg (gk - 1)
          case measure => have := HI.out; omega
          case rel => exact ⟨i + 1, by first | rfl | (simp; done) | (rw [← HW.out]; rfl), ⟨by have := HI.out; omega⟩, ⟨by rw [HN.out]; exact hn.out _⟩, ⟨below_set HB.out (Nat.le_refl _)⟩⟩
        · have ba : decide (65 ≤ x) = true := decide_eq_true ca
          have bb : decide (x ≤ 90) = false := decide_eq_false cb
          have HN := Aside0.mk (hke (by rw [sm1, if_neg (fun h => cb h.2)]))
          clear hne hke hn ca cb
          go_wp2
          go_roundg (gk - 1)
          case measure => have := HI.out; omega
          case rel => exact ⟨i + 1, by first | rfl | (simp; done) | (rw [← HW.out]; rfl), ⟨by have := HI.out; omega⟩, ⟨by rw [HN.out]; exact HK.out⟩, HB⟩
      · have ba : decide (65 ≤ x) = false := decide_eq_false ca
        have HN := Aside0.mk (hke (by rw [sm1, if_neg (fun h => ca h.1)]))
        clear hne hke hn ca
        go_wp2
        go_roundg (gk - 1)
        case measure => have := HI.out; omega
        case rel => exact ⟨i + 1, by first | rfl | (simp; done) | (rw [← HW.out]; rfl), ⟨by have := HI.out; omega⟩, ⟨by rw [HN.out]; exact HK.out⟩, HB⟩
    · have d0 : decide (i < a0.size) = false := decide_eq_false hi
      have d1 : decide ((i : Int) < (a0.size : Int)) = false := decide_eq_false (by omega)
      have HA := Aside0.mk (smAt_all (bytesOf a0) i (by rw [bytesOf_length]; omega))
      have hrd := HK.out.reads (by omega)
      rw [HA.out] at hrd
      have ks := fun c => string_of_reads (P := Try.prog) (c := c) Try.underlying34 Try.underlying5 Try.underlying9 hrd
      clear hrd
      go_wp2
      go_ret
      exact ⟨by (rw [← HR.out]; rfl), HB.out⟩

/-! ### impl_Small: function 24, given (impl.Small.tpl) -/
def impl_Small.f (a0 : ByteArray) : Option (ByteArray) := if a0.size ≤ 140737488351232 then some (smallOf a0) else none
set_option maxHeartbeats 8000000 in
set_option maxRecDepth 100000 in
theorem impl_Small.calls (a0 : ByteArray) (r : ByteArray) (w : World) (h : impl_Small.f a0 = some r) :
    Calls Try.prog 24 #[.string a0] w fun e w' => e = .returned (.string r) ∧ Below w.heap.size w w' := by
  have hs : a0.size ≤ 140737488351232 := by
    by_cases hs : a0.size ≤ 140737488351232
    · exact hs
    · unfold impl_Small.f at h; rw [if_neg hs] at h; exact absurd h (by simp)
  unfold impl_Small.f at h
  rw [if_pos hs] at h
  have HR := Aside0.mk (Option.some.inj h)
  clear h
  have kb := fun W => print_bytes (P := Try.prog) 9 34 5 Try.underlying9 Try.underlying34 Try.underlying5 a0 W
  have HB := Aside0.mk (bytes_below (Below.refl w.heap.size w) (Nat.le_refl _) 5 a0)
  have HK := Aside0.mk (BK.make w a0)
  go_enter Try.func24, Try.ntmps24
  go_wp2
  clear kb
  generalize Lib.bytesWorld w 5 a0 = w1 at HB HK ⊢
  generalize grownCap w a0.size 0 5 = c1
  go_loopg [10] a0.size (fun kq vi w' => ∃ i : Nat, vi = .int .i64 (i : Int) ∧ Aside0 (i + kq = a0.size) ∧ Aside0 (BK w' w.heap.size a0.size (smAt (bytesOf a0) i)) ∧ Aside0 (Below w.heap.size w w'))
  case atStart => exact ⟨0, rfl, ⟨by omega⟩, ⟨by rw [smAt_zero]; exact HK.out⟩, HB⟩
  case round =>
    clear HK HB
    obtain ⟨i, rfl, HI, HK, HB⟩ := hrel
    by_cases hi : i < a0.size
    · have hc := HK.out.cell i hi
      have hf := HK.out.free i hi
      have hil : i < (bytesOf a0).length := by rw [bytesOf_length]; exact hi
      rw [rd_smAt _ i hil] at hc
      have hn := Aside0.mk (HK.out.set i hi)
      have hne := smAt_next (bytesOf a0) i hil
      have hke := smAt_keep (bytesOf a0) i hil
      have hrg : 0 ≤ rd (bytesOf a0) (i : Int) ∧ rd (bytesOf a0) (i : Int) ≤ 255 := by rw [rd_bytesOf]; exact bt_range _ _
      generalize rd (bytesOf a0) (i : Int) = x at hc hne hke hrg
      have d0 : decide (i < a0.size) = true := decide_eq_true hi
      have d1 : decide ((i : Int) < (a0.size : Int)) = true := decide_eq_true (by omega)
      have i0 : (0 : Int) ≤ (i : Int) := by omega
      have HW := Aside0.mk (show wrap64 ((i : Int) + 1) = ((i + 1 : Nat) : Int) by unfold wrap64; omega)
      by_cases ca : 65 ≤ x
      · by_cases cb : x ≤ 90
        · have ba : decide (65 ≤ x) = true := decide_eq_true ca
          have bb : decide (x ≤ 90) = true := decide_eq_true cb
          have HN := Aside0.mk (show smAt (bytesOf a0) (i + 1) = (smAt (bytesOf a0) i).set i (x + 32) by rw [hne, sm1, if_pos ⟨ca, cb⟩])
          have hadd : IntKind.u8.wrap (x + 32) = x + 32 := by simp [IntKind.wrap, IntKind.bits, IntKind.signed]; omega
          clear hne hke
          go_wp2
          go_roundg (gk - 1)
          case measure => have := HI.out; omega
          case rel => exact ⟨i + 1, by first | rfl | (simp; done) | (rw [← HW.out]; rfl), ⟨by have := HI.out; omega⟩, ⟨by rw [HN.out]; exact hn.out _⟩, ⟨below_set HB.out (Nat.le_refl _)⟩⟩
        · have ba : decide (65 ≤ x) = true := decide_eq_true ca
          have bb : decide (x ≤ 90) = false := decide_eq_false cb
          have HN := Aside0.mk (hke (by rw [sm1, if_neg (fun h => cb h.2)]))
          clear hne hke hn ca cb
          go_wp2
          go_roundg (gk - 1)
          case measure => have := HI.out; omega
          case rel => exact ⟨i + 1, by first | rfl | (simp; done) | (rw [← HW.out]; rfl), ⟨by have := HI.out; omega⟩, ⟨by rw [HN.out]; exact HK.out⟩, HB⟩
      · have ba : decide (65 ≤ x) = false := decide_eq_false ca
        have HN := Aside0.mk (hke (by rw [sm1, if_neg (fun h => ca h.1)]))
        clear hne hke hn ca
        go_wp2
        go_roundg (gk - 1)
        case measure => have := HI.out; omega
        case rel => exact ⟨i + 1, by first | rfl | (simp; done) | (rw [← HW.out]; rfl), ⟨by have := HI.out; omega⟩, ⟨by rw [HN.out]; exact HK.out⟩, HB⟩
    · have d0 : decide (i < a0.size) = false := decide_eq_false hi
      have d1 : decide ((i : Int) < (a0.size : Int)) = false := decide_eq_false (by omega)
      have HA := Aside0.mk (smAt_all (bytesOf a0) i (by rw [bytesOf_length]; omega))
      have hrd := HK.out.reads (by omega)
      rw [HA.out] at hrd
      have ks := fun c => string_of_reads (P := Try.prog) (c := c) Try.underlying34 Try.underlying5 Try.underlying9 hrd
      clear hrd
      go_wp2
      go_ret
      exact ⟨by (rw [← HR.out]; rfl), HB.out⟩

/-! ### laws_FnExactSmall: function 8 -/
def laws_FnExactSmall.f (a0 : ByteArray) : Option (Bool) := if (a0.size : Int) > 1048576 then (some true) else ((spec_Small.f a0).bind fun t101 => ((impl_Small.f a0).bind fun t102 => (if t102.toList = t101.toList then (some true) else (some false))))
set_option maxHeartbeats 8000000 in
set_option maxRecDepth 100000 in
theorem laws_FnExactSmall.calls (a0 : ByteArray) (r : Bool) (w : World) (h : laws_FnExactSmall.f a0 = some r) :
    Calls Try.prog 8 #[.string a0] w fun e w' => e = .returned (.bool r) ∧ Below w.heap.size w w' := by
  have HB := Aside0.mk (Below.refl w.heap.size w)
  have H : (if (a0.size : Int) > 1048576 then (some true) else ((spec_Small.f a0).bind fun t101 => ((impl_Small.f a0).bind fun t102 => (if t102.toList = t101.toList then (some true) else (some false))))) = some r := h
  clear h
  by_cases c2 : (a0.size : Int) > 1048576
  · rw [if_pos c2] at H
    have c2b0 : decide (1048576 < (a0.size : Int)) = true := decide_eq_true c2
    have c2b1 : decide (1048576 < a0.size) = true := decide_eq_true (by omega)
    clear c2
    obtain rfl := Option.some.inj H
    go_enter Try.func8, Try.ntmps8
    go_wp2
    go_ret
    exact ⟨by first | rfl | (simp [errW_none, errW_some] <;> rfl) | (simp [*, errW_none, errW_some] <;> rfl), by repeat (first | (with_reducible first | exact HB.out | apply below_alloc | apply pw_below_drewN | apply below_drew1) | exact HB.out)⟩
  · rw [if_neg c2] at H
    have c2b0 : decide (1048576 < (a0.size : Int)) = false := decide_eq_false c2
    have c2b1 : decide (1048576 < a0.size) = false := decide_eq_false (by omega)
    clear c2
    replace H := Option.bind_eq_some_iff.mp H
    obtain ⟨t101, A30, H⟩ := H
    replace H : ((impl_Small.f a0).bind fun t102 => (if t102.toList = t101.toList then (some true) else (some false))) = some r := H
    have A3 := Aside0.mk A30
    clear A30
    replace H := Option.bind_eq_some_iff.mp H
    obtain ⟨t102, A40, H⟩ := H
    replace H : (if t102.toList = t101.toList then (some true) else (some false)) = some r := H
    have A4 := Aside0.mk A40
    clear A40
    by_cases c5 : t102.toList = t101.toList
    · rw [if_pos c5] at H
      have c5b0 : (t102.toList == t101.toList) = true := beq_iff_eq.mpr c5
      have c5b1 : (t102.toList != t101.toList) = false := bne_eq_false_iff_eq.mpr c5
      clear c5
      obtain rfl := Option.some.inj H
      go_enter Try.func8, Try.ntmps8
      go_wp2_with (first | ((with_reducible refine gate_callee (f := 23) rfl ?_); refine goesL_ (some 9) rfl rfl Try.func23 (by kernel_rfl) rfl #[.string a0] rfl (by (try simp only [List.map_toArray, List.map_cons, List.map_nil]); first | done | rfl | (simp only [List.length_drop, List.length_take]; rfl)) ?_; (with_reducible refine (spec_Small.calls a0 t101 _ A3.out).mono ?_); rintro e w6 ⟨rfl, hb⟩; refine ⟨_, rfl, ?_⟩; have n0_ := Aside0.mk (below_step (by repeat (first | (with_reducible first | exact HB.out | apply below_alloc | apply pw_below_drewN | apply below_drew1) | exact HB.out)) hb); clear HB; have HB := n0_; clear n0_; (try clear hb); (try clear hb2); (try clear hk); (try clear hi)) | ((with_reducible refine gate_callee (f := 24) rfl ?_); refine goesL_ (some 11) rfl rfl Try.func24 (by kernel_rfl) rfl #[.string a0] rfl (by (try simp only [List.map_toArray, List.map_cons, List.map_nil]); first | done | rfl | (simp only [List.length_drop, List.length_take]; rfl)) ?_; (with_reducible refine (impl_Small.calls a0 t102 _ A4.out).mono ?_); rintro e w7 ⟨rfl, hb⟩; refine ⟨_, rfl, ?_⟩; have n0_ := Aside0.mk (below_step (by repeat (first | (with_reducible first | exact HB.out | apply below_alloc | apply pw_below_drewN | apply below_drew1) | exact HB.out)) hb); clear HB; have HB := n0_; clear n0_; (try clear hb); (try clear hb2); (try clear hk); (try clear hi)))
      go_ret
      exact ⟨by first | rfl | (simp [errW_none, errW_some] <;> rfl) | (simp [*, errW_none, errW_some] <;> rfl), by repeat (first | (with_reducible first | exact HB.out | apply below_alloc | apply pw_below_drewN | apply below_drew1) | exact HB.out)⟩
    · rw [if_neg c5] at H
      have c5b0 : (t102.toList == t101.toList) = false := beq_eq_false_iff_ne.mpr c5
      have c5b1 : (t102.toList != t101.toList) = true := bne_iff_ne.mpr c5
      obtain rfl := Option.some.inj H
      go_enter Try.func8, Try.ntmps8
      go_wp2_with (first | ((with_reducible refine gate_callee (f := 23) rfl ?_); refine goesL_ (some 9) rfl rfl Try.func23 (by kernel_rfl) rfl #[.string a0] rfl (by (try simp only [List.map_toArray, List.map_cons, List.map_nil]); first | done | rfl | (simp only [List.length_drop, List.length_take]; rfl)) ?_; (with_reducible refine (spec_Small.calls a0 t101 _ A3.out).mono ?_); rintro e w8 ⟨rfl, hb⟩; refine ⟨_, rfl, ?_⟩; have n0_ := Aside0.mk (below_step (by repeat (first | (with_reducible first | exact HB.out | apply below_alloc | apply pw_below_drewN | apply below_drew1) | exact HB.out)) hb); clear HB; have HB := n0_; clear n0_; (try clear hb); (try clear hb2); (try clear hk); (try clear hi)) | ((with_reducible refine gate_callee (f := 24) rfl ?_); refine goesL_ (some 11) rfl rfl Try.func24 (by kernel_rfl) rfl #[.string a0] rfl (by (try simp only [List.map_toArray, List.map_cons, List.map_nil]); first | done | rfl | (simp only [List.length_drop, List.length_take]; rfl)) ?_; (with_reducible refine (impl_Small.calls a0 t102 _ A4.out).mono ?_); rintro e w9 ⟨rfl, hb⟩; refine ⟨_, rfl, ?_⟩; have n0_ := Aside0.mk (below_step (by repeat (first | (with_reducible first | exact HB.out | apply below_alloc | apply pw_below_drewN | apply below_drew1) | exact HB.out)) hb); clear HB; have HB := n0_; clear n0_; (try clear hb); (try clear hb2); (try clear hk); (try clear hi)))
      go_ret
      exact ⟨by first | rfl | (simp [errW_none, errW_some] <;> rfl) | (simp [*, errW_none, errW_some] <;> rfl), by repeat (first | (with_reducible first | exact HB.out | apply below_alloc | apply pw_below_drewN | apply below_drew1) | exact HB.out)⟩

/-- THE ONE PURE STATEMENT of laws_FnExactSmall: yours. -/
def laws_FnExactSmall.Pure : Prop := ∀ (a0 : ByteArray), a0.size ≤ 140737488351232 → laws_FnExactSmall.f a0 = some true
theorem laws_FnExactSmall.walk (P : laws_FnExactSmall.Pure) (a0 : ByteArray) (w : World) (w0 : a0.size ≤ 140737488351232) :
    Calls Try.prog 8 #[.string a0] w fun e w' => e = .returned (.bool true) ∧ Below w.heap.size w w' := by
  have h := P a0 w0
  refine (laws_FnExactSmall.calls a0 true w h).mono ?_
  rintro e w' ⟨rfl, hd⟩
  exact ⟨rfl, hd⟩

end Go.Proofs.Yteidmggjnhjofaa.PFnExactSmall
