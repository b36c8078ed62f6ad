-- Written by this session's program wip/slim.py out of the print's texts. Lean checks it.
import Derived.Test.YteafgjebaedjbaaSFnExactTokensOkx0
import Derived.Test.YteafgjebaedjbaaSFnExactTokensOkx2
namespace Go.Proofs.Yteafgjebaedjbaa.PFnExactTokensOk
open Go.RowKit Go.Proofs.YteafgjebaedjbaaW.PrintWords Go.Proofs.YteafgjebaedjbaaW.PrintLast Go.Proofs.YteafgjebaedjbaaW.PrintMore
attribute [local go_sem] max2_int min2_int max_two min_two max_three min_three max_four min_four
set_option linter.unusedVariables false
set_option linter.unusedSimpArgs false
theorem heap_setCell_row {w : World} {g : Nat} {t : TypeId} {fr : Nat × Nat} {cs : Array Value} (h : w.heap[g]? = some (.cells cs t fr)) (i : Nat) (u : Value) : (w.setCell ⟨g, i, none⟩ u).heap[g]? = some (.cells (cs.setIfInBounds i u) t fr) := by
 simp [World.setCell, Array.getElem?_modify, h]
def BK (w : World) (g n : Nat) (xs : List Int) : Prop := ∃ cs m, w.heap[g]? = some (.cells cs 5 (m, m + 1)) ∧ xs.length = n ∧ n ≤ m ∧ n ≤ cs.size ∧ ∀ j, j < n → cs[j]? = some (.int .u8 (rd xs (j : Int)))
theorem BK.cell {w : World} {g n : Nat} {xs : List Int} (h : BK w g n xs) (j : Nat) (hj : j < n) : w.cell? ⟨g, j, none⟩ = some (.int .u8 (rd xs (j : Int))) := by
 obtain ⟨cs, m, hb, hl, hm, hs, hc⟩ := h
 rw [cell_of_row w g j cs _ _ hb]
 exact hc j hj
theorem BK.free {w : World} {g n : Nat} {xs : List Int} (h : BK w g n xs) (j : Nat) (hj : j < n) : w.frozen? ⟨g, j, none⟩ = false := by
 obtain ⟨cs, m, hb, hl, hm, hs, hc⟩ := h
 simp only [World.frozen?, hb]
 simp
 omega
theorem BK.set {w : World} {g n : Nat} {xs : List Int} (h : BK w g n xs) (j : Nat) (hj : j < n) (x : Int) : BK (w.setCell ⟨g, j, none⟩ (.int .u8 x)) g n (xs.set j x) := by
 obtain ⟨cs, m, hb, hl, hm, hs, hc⟩ := h
 refine ⟨cs.setIfInBounds j (.int .u8 x), m, heap_setCell_row hb j _, by simpa using hl, hm, by simpa using hs, fun i hi => ?_⟩
 unfold rd
 rw [Int.toNat_natCast]
 by_cases e : j = i
 ·subst e
  have : j < cs.size := by omega
  have h2 : j < xs.length := by omega
  simp [this, h2]
 ·have hh := hc i hi
  unfold rd at hh
  rw [Int.toNat_natCast] at hh
  rw [Array.getElem?_setIfInBounds_ne e]
  simp only [List.getD_eq_getElem?_getD] at hh ⊢
  rw [List.getElem?_set_ne e]
  exact hh
theorem BK.reads {w : World} {g n : Nat} {xs : List Int} (h : BK w g n xs) (hn : n ≤ 9223372036854775807) : ReadsInt w .u8 (some ⟨g, 0, none⟩) n xs := by
 have hl : xs.length = n := by obtain ⟨cs, m, hb, hl, _⟩ := h; exact hl
 refine ⟨hl, hn, fun _ => ⟨_, rfl, fun j hj => ?_⟩⟩
 rw [add_plain]
 have := h.cell j hj
 unfold rd at this
 rw [Int.toNat_natCast] at this
 exact this
theorem BK.make (w : World) (s : ByteArray) : BK (Lib.bytesWorld w 5 s) w.heap.size s.size (bytesOf s) := by
 refine ⟨Lib.bytesCells w 5 s, _, Lib.bytesWorld_at_new w 5 s, bytesOf_length s, ?_, ?_, fun j hj => ?_⟩
 ·simp [Lib.bytesCells]
 ·simp [Lib.bytesCells]
 ·have h1 := Lib.bytesWorld_cell w 5 s j hj
  rw [cell_of_row _ _ j _ _ _ (Lib.bytesWorld_at_new w 5 s)] at h1
  rw [h1, rd_bytesOf]
  unfold bt
  have h' : j < s.data.toList.length := by rw [data_length]; exact hj
  simp [hj, List.getD_eq_getElem?_getD, List.getElem?_eq_getElem h']
  rfl
def sm1 (x : Int) : Int := if 65 ≤ x ∧ x ≤ 90 then x + 32 else x
def smAt (xs : List Int) (i : Nat) : List Int := (xs.take i).map sm1 ++ xs.drop i
def smallOf (s : ByteArray) : ByteArray := strOfNums ((bytesOf s).map sm1)
theorem smAt_zero (xs : List Int) : smAt xs 0 = xs := by simp [smAt]
theorem smAt_all (xs : List Int) (i : Nat) (h : xs.length ≤ i) : smAt xs i = xs.map sm1 := by simp [smAt, List.take_of_length_le h, List.drop_of_length_le h]
theorem rd_smAt (xs : List Int) (i : Nat) (h : i < xs.length) : rd (smAt xs i) (i : Int) = rd xs (i : Int) := by
 unfold rd smAt
 rw [Int.toNat_natCast]
 simp [List.getElem?_append, Nat.min_eq_left (Nat.le_of_lt h)]
theorem smAt_next (xs : List Int) (i : Nat) (h : i < xs.length) : smAt xs (i + 1) = (smAt xs i).set i (sm1 (rd xs (i : Int))) := by
 unfold smAt rd
 rw [Int.toNat_natCast]
 have hl : ((xs.take i).map sm1).length = i := by simp; omega
 rw [List.set_append_right _ _ (by omega), hl, Nat.sub_self, List.drop_eq_getElem_cons h, List.take_succ_eq_append_getElem h, List.map_append, sz_, List.append_assoc]
 simp [List.getD_eq_getElem?_getD, List.getElem?_eq_getElem h]
theorem smAt_keep (xs : List Int) (i : Nat) (h : i < xs.length) (he : sm1 (rd xs (i : Int)) = rd xs (i : Int)) : smAt xs (i + 1) = smAt xs i := by
 rw [smAt_next xs i h, he]
 have := rd_smAt xs i h
 unfold rd at this ⊢
 rw [Int.toNat_natCast] at this ⊢
 rw [← this]
 have hl : i < (smAt xs i).length := by unfold smAt; simp; omega
 simp [List.getD_eq_getElem?_getD, List.getElem?_eq_getElem hl]
def spec_Small.f (a0 : ByteArray) : Option (ByteArray) := if a0.size ≤ 140737488351232 then some (smallOf a0) else none
set_option maxHeartbeats 8000000 in
set_option maxRecDepth 100000 in
theorem spec_Small.calls (a0 : ByteArray) (r : ByteArray) (w : World) (h : spec_Small.f a0 = some r) :
  Calls Try.prog 118 #[.string a0] w fun e w' => e = .returned (.string r) ∧ Below w.heap.size w w' := by
 have hs : a0.size ≤ 140737488351232 := by
  by_cases hs : a0.size ≤ 140737488351232
  ·exact hs
  ·unfold spec_Small.f at h; rw [if_neg hs] at h; exact absurd h (by simp)
 unfold spec_Small.f at h
 rw [if_pos hs] at h
 have HR := Aside0.mk (Option.some.inj h)
 clear h
 have kb := fun W => print_bytes (P := Try.prog) 9 23 5 Try.underlying9 Try.underlying23 Try.underlying5 a0 W
 have HB := Aside0.mk (bytes_below (Below.refl w.heap.size w) (Nat.le_refl _) 5 a0)
 have HK := Aside0.mk (BK.make w a0)
 go_enter Try.func118, Try.ntmps118
 go_wp2
 clear kb
 generalize Lib.bytesWorld w 5 a0 = w1 at HB HK ⊢
 generalize grownCap w a0.size 0 5 = c1
 go_loopg [4] a0.size (fun kq vi w' => ∃ i : Nat, vi = .int .i64 (i : Int) ∧ Aside0 (i + kq = a0.size) ∧ Aside0 (BK w' w.heap.size a0.size (smAt (bytesOf a0) i)) ∧ Aside0 (Below w.heap.size w w'))
 case atStart => exact ⟨0, rfl, ⟨by omega⟩, ⟨by rw [smAt_zero]; exact HK.out⟩, HB⟩
 case round =>
  clear HK HB
  obtain ⟨i, rfl, HI, HK, HB⟩ := hrel
  by_cases hi : i < a0.size
  ·have hc := HK.out.cell i hi
   have hf := HK.out.free i hi
   have hil : i < (bytesOf a0).length := by rw [bytesOf_length]; exact hi
   rw [rd_smAt _ i hil] at hc
   have hn := Aside0.mk (HK.out.set i hi)
   have hne := smAt_next (bytesOf a0) i hil
   have hke := smAt_keep (bytesOf a0) i hil
   have hrg : 0 ≤ rd (bytesOf a0) (i : Int) ∧ rd (bytesOf a0) (i : Int) ≤ 255 := by rw [rd_bytesOf]; exact bt_range _ _
   generalize rd (bytesOf a0) (i : Int) = x at hc hne hke hrg
   have d0 : decide (i < a0.size) = true := decide_eq_true hi
   have d1 : decide ((i : Int) < (a0.size : Int)) = true := decide_eq_true (by omega)
   have i0 : (0 : Int) ≤ (i : Int) := by omega
   have HW := Aside0.mk (show wrap64 ((i : Int) + 1) = ((i + 1 : Nat) : Int) by unfold wrap64; omega)
   by_cases ca : 65 ≤ x
   ·by_cases cb : x ≤ 90
    ·have ba : decide (65 ≤ x) = true := decide_eq_true ca
     have bb : decide (x ≤ 90) = true := decide_eq_true cb
     have HN := Aside0.mk (show smAt (bytesOf a0) (i + 1) = (smAt (bytesOf a0) i).set i (x + 32) by rw [hne, sm1, if_pos ⟨ca, cb⟩])
     have hadd : IntKind.u8.wrap (x + 32) = x + 32 := by simp [IntKind.wrap, IntKind.bits, IntKind.signed]; omega
     clear hne hke
     go_wp2
     go_roundg (gk - 1)
     case measure => have := HI.out; omega
     case rel => exact ⟨i + 1, by first | rfl | (simp; done) | (rw [← HW.out]; rfl), ⟨by have := HI.out; omega⟩, ⟨by rw [HN.out]; exact hn.out _⟩, ⟨below_set HB.out (Nat.le_refl _)⟩⟩
    ·have ba : decide (65 ≤ x) = true := decide_eq_true ca
     have bb : decide (x ≤ 90) = false := decide_eq_false cb
     have HN := Aside0.mk (hke (by rw [sm1, if_neg (fun h => cb h.2)]))
     clear hne hke hn ca cb
     go_wp2
     go_roundg (gk - 1)
     case measure => have := HI.out; omega
     case rel => exact ⟨i + 1, by first | rfl | (simp; done) | (rw [← HW.out]; rfl), ⟨by have := HI.out; omega⟩, ⟨by rw [HN.out]; exact HK.out⟩, HB⟩
   ·have ba : decide (65 ≤ x) = false := decide_eq_false ca
    have HN := Aside0.mk (hke (by rw [sm1, if_neg (fun h => ca h.1)]))
    clear hne hke hn ca
    go_wp2
    go_roundg (gk - 1)
    case measure => have := HI.out; omega
    case rel => exact ⟨i + 1, by first | rfl | (simp; done) | (rw [← HW.out]; rfl), ⟨by have := HI.out; omega⟩, ⟨by rw [HN.out]; exact HK.out⟩, HB⟩
  ·have d0 : decide (i < a0.size) = false := decide_eq_false hi
   have d1 : decide ((i : Int) < (a0.size : Int)) = false := decide_eq_false (by omega)
   have HA := Aside0.mk (smAt_all (bytesOf a0) i (by rw [bytesOf_length]; omega))
   have hrd := HK.out.reads (by omega)
   rw [HA.out] at hrd
   have ks := fun c => string_of_reads (P := Try.prog) (c := c) Try.underlying23 Try.underlying5 Try.underlying9 hrd
   clear hrd
   go_wp2
   go_ret
   exact ⟨by (rw [← HR.out]; rfl), HB.out⟩
def spec_IsBlank.f (a0 : Int) : Option (Bool) := if a0 = 9 then (some true) else (if a0 = 10 then (some true) else (if a0 = 12 then (some true) else (if a0 = 13 then (some true) else (some (a0 == 32)))))
set_option maxHeartbeats 8000000 in
set_option maxRecDepth 100000 in
theorem spec_IsBlank.calls (a0 : Int) (r : Bool) (w : World) (h : spec_IsBlank.f a0 = some r) :
  Calls Try.prog 147 #[.int .i64 a0] w fun e w' => e = .returned (.bool r) ∧ Drawn0 w w' := by
 have H : (if a0 = 9 then (some true) else (if a0 = 10 then (some true) else (if a0 = 12 then (some true) else (if a0 = 13 then (some true) else (some (a0 == 32)))))) = some r := h
 clear h
 by_cases c2 : a0 = 9
 ·rw [if_pos c2] at H
  have c2b0 : (a0 == 9) = true := beq_iff_eq.mpr c2
  have c2b1 : (a0 != 9) = false := bne_eq_false_iff_eq.mpr c2
  clear c2
  obtain rfl := Option.some.inj H
  go_enter Try.func147, Try.ntmps147
  go_wp2
  go_ret
  exact ⟨by first | rfl | (simp; done) | (simp [*]; done), by repeat (first | exact Drawn0.refl _ | apply Drawn0.step)⟩
 ·rw [if_neg c2] at H
  have c2b0 : (a0 == 9) = false := beq_eq_false_iff_ne.mpr c2
  have c2b1 : (a0 != 9) = true := bne_iff_ne.mpr c2
  by_cases c3 : a0 = 10
  ·rw [if_pos c3] at H
   have c3b0 : (a0 == 10) = true := beq_iff_eq.mpr c3
   have c3b1 : (a0 != 10) = false := bne_eq_false_iff_eq.mpr c3
   clear c3
   obtain rfl := Option.some.inj H
   go_enter Try.func147, Try.ntmps147
   go_wp2
   go_ret
   exact ⟨by first | rfl | (simp; done) | (simp [*]; done), by repeat (first | exact Drawn0.refl _ | apply Drawn0.step)⟩
  ·rw [if_neg c3] at H
   have c3b0 : (a0 == 10) = false := beq_eq_false_iff_ne.mpr c3
   have c3b1 : (a0 != 10) = true := bne_iff_ne.mpr c3
   by_cases c4 : a0 = 12
   ·rw [if_pos c4] at H
    have c4b0 : (a0 == 12) = true := beq_iff_eq.mpr c4
    have c4b1 : (a0 != 12) = false := bne_eq_false_iff_eq.mpr c4
    clear c4
    obtain rfl := Option.some.inj H
    go_enter Try.func147, Try.ntmps147
    go_wp2
    go_ret
    exact ⟨by first | rfl | (simp; done) | (simp [*]; done), by repeat (first | exact Drawn0.refl _ | apply Drawn0.step)⟩
   ·rw [if_neg c4] at H
    have c4b0 : (a0 == 12) = false := beq_eq_false_iff_ne.mpr c4
    have c4b1 : (a0 != 12) = true := bne_iff_ne.mpr c4
    by_cases c5 : a0 = 13
    ·rw [if_pos c5] at H
     have c5b0 : (a0 == 13) = true := beq_iff_eq.mpr c5
     have c5b1 : (a0 != 13) = false := bne_eq_false_iff_eq.mpr c5
     clear c5
     obtain rfl := Option.some.inj H
     go_enter Try.func147, Try.ntmps147
     go_wp2
     go_ret
     exact ⟨by first | rfl | (simp; done) | (simp [*]; done), by repeat (first | exact Drawn0.refl _ | apply Drawn0.step)⟩
    ·rw [if_neg c5] at H
     have c5b0 : (a0 == 13) = false := beq_eq_false_iff_ne.mpr c5
     have c5b1 : (a0 != 13) = true := bne_iff_ne.mpr c5
     obtain rfl := Option.some.inj H
     go_enter Try.func147, Try.ntmps147
     go_wp2
     go_ret
     exact ⟨by first | rfl | (simp; done) | (simp [*]; done), by repeat (first | exact Drawn0.refl _ | apply Drawn0.step)⟩
def spec_l4Blank.f (a0 : Int) : Option (Bool) := (spec_IsBlank.f (wrap64 (a0))).bind fun t152 => (some t152)
set_option maxHeartbeats 8000000 in
set_option maxRecDepth 100000 in
theorem spec_l4Blank.calls (a0 : Int) (r : Bool) (w : World) (h : spec_l4Blank.f a0 = some r) :
  Calls Try.prog 136 #[.int .u8 a0] w fun e w' => e = .returned (.bool r) ∧ Drawn0 w w' := by
 have H : ((spec_IsBlank.f (wrap64 (a0))).bind fun t152 => (some t152)) = some r := h
 clear h
 replace H := Option.bind_eq_some_iff.mp H
 obtain ⟨t152, A20, H⟩ := H
 replace H : (some t152) = some r := H
 have A2 := Aside0.mk A20
 clear A20
 obtain rfl := Option.some.inj H
 go_enter Try.func136, Try.ntmps136
 go_wp2_with (first | ((with_reducible refine gate_callee (f := 147) rfl ?_); refine goesL_ (some 5) rfl rfl Try.func147 (by kernel_rfl) rfl #[.int .i64 (wrap64 (a0))] rfl (by (try simp only [List.map_toArray, List.map_cons, List.map_nil]); first | done | rfl | (simp only [List.length_drop, List.length_take]; rfl)) ?_; (with_reducible refine (spec_IsBlank.calls (wrap64 (a0)) t152 _ A2.out).mono ?_); rintro e w' ⟨rfl, ⟨nd, rfl⟩⟩; refine ⟨_, rfl, ?_⟩))
 go_ret
 exact ⟨by first | rfl | (simp; done) | (simp [*]; done), by repeat (first | exact Drawn0.refl _ | apply Drawn0.step)⟩
def spec_l5Name.l0 : Nat → ByteArray → ByteArray → Int → Option (Bool)
 | 0, _, _, _ => none
 | k + 1, x0, x1, x5 => if x5 < (x0.size : Int) then (if 0 ≤ x5 then ((spec_l4Blank.f (bt x0 x5)).bind fun t155 => (if t155 = true then (some false) else ((spec_l4Find.f k x1 0 (bt x0 x5)).bind fun t156 => (if t156 ≥ 0 then (some false) else (spec_l5Name.l0 k x0 x1 (wrap64 (x5 + 1))))))) else (none)) else (if x0.toList = ([] : List UInt8) then (some false) else ((spec_CleanOk.f k x0).bind fun t153 => (if t153 = true then ((spec_Small.f x0).bind fun t154 => (some (t154.toList == x0.toList))) else (some false))))
def spec_l5Name.f (k : Nat) (a0 : ByteArray) (a1 : ByteArray) : Option (Bool) := spec_l5Name.l0 k a0 a1 0
theorem spec_l5Name.mono_l : ∀ k, (∀ y0 y1 y2, LeO (spec_l5Name.l0 k y0 y1 y2) (spec_l5Name.l0 (k + 1) y0 y1 y2))
 | 0 => fun _ _ _ r h => by simp [spec_l5Name.l0] at h
 | k + 1 => by
  have ih0 := spec_l5Name.mono_l k
  ·intro y0 y1 y2
   unfold spec_l5Name.l0
   repeat' first
   | (with_reducible exact ih0 _ _ _)
   | (with_reducible exact spec_CleanOk.mono _ _)
   | (with_reducible exact spec_l4Find.mono _ _ _ _)
   | (with_reducible exact LeO.refl _)
   | (with_reducible exact LeO.none _)
   | (with_reducible refine LeO.ite ?_ ?_)
   | (with_reducible refine LeO.bind ?_ (fun _ => ?_))
theorem spec_l5Name.mono : ∀ a0 a1 k, LeO (spec_l5Name.f k a0 a1) (spec_l5Name.f (k + 1) a0 a1) := by
 intro a0 a1 k
 have ih0 := spec_l5Name.mono_l k
 unfold spec_l5Name.f
 repeat' first
   | (with_reducible exact ih0 _ _ _)
   | (with_reducible exact spec_CleanOk.mono _ _)
   | (with_reducible exact spec_l4Find.mono _ _ _ _)
   | (with_reducible exact LeO.refl _)
   | (with_reducible exact LeO.none _)
   | (with_reducible refine LeO.ite ?_ ?_)
   | (with_reducible refine LeO.bind ?_ (fun _ => ?_))
set_option maxHeartbeats 8000000 in
set_option maxRecDepth 100000 in
theorem spec_l5Name.calls (k : Nat) (a0 : ByteArray) (a1 : ByteArray) (r : Bool) (w : World) (h : spec_l5Name.f k a0 a1 = some r) :
  Calls Try.prog 114 #[.string a0, .string a1] w fun e w' => e = .returned (.bool r) ∧ Below w.heap.size w w' := by
 have HB := Aside0.mk (Below.refl w.heap.size w)
 have H : (spec_l5Name.l0 k a0 a1 0) = some r := h
 clear h
 have H' := Aside0.mk H
 clear H
 go_enter Try.func114, Try.ntmps114
 go_wp2
 go_loopg [5] k (fun kq v5 w' => ∃ (x5_1 : Int), v5 = .int .i64 x5_1 ∧ Aside0 (spec_l5Name.l0 kq a0 a1 x5_1 = some r) ∧ Aside0 (kq ≤ k) ∧ Aside0 (Below w.heap.size w w'))
 case atStart => exact ⟨(0), (by first | rfl | (simp; done) | (simp [*]; done)), H', ⟨Nat.le_refl _⟩, ⟨by repeat (first | (with_reducible first | exact HB.out | apply ba_ | apply bn_ | apply b1_) | exact HB.out)⟩⟩
 case round =>
  clear H'
  obtain ⟨x5_1, rfl, HA, HK1, HB⟩ := hrel
  cases gk with
  | zero => exact absurd HA.out (by simp [spec_l5Name.l0])
  | succ k1 =>
   have H := HA.out
   clear HA
   simp only [spec_l5Name.l0] at H
   by_cases c3 : x5_1 < (a0.size : Int)
   ·rw [if_pos c3] at H
    have c3b0 : decide (x5_1 < (a0.size : Int)) = true := decide_eq_true c3
    clear c3
    by_cases c4 : 0 ≤ x5_1
    ·rw [if_pos c4] at H
     have c4b0 : decide (0 ≤ x5_1) = true := decide_eq_true c4
     clear c4
     replace H := Option.bind_eq_some_iff.mp H
     obtain ⟨t155, A60, H⟩ := H
     replace H : (if t155 = true then (some false) else ((spec_l4Find.f k1 a1 0 (bt a0 x5_1)).bind fun t156 => (if t156 ≥ 0 then (some false) else (spec_l5Name.l0 k1 a0 a1 (wrap64 (x5_1 + 1)))))) = some r := H
     have A6 := Aside0.mk A60
     clear A60
     by_cases c7 : t155 = true
     ·subst c7
      have H1 : (some false) = some r := by rw [if_pos rfl] at H; exact H
      clear H
      have H := H1
      clear H1
      obtain rfl := Option.some.inj H
      have p5 : 0 ≤ (x5_1 : Int) := dq_ (by assumption)
      have q5 : x5_1 < (a0.size : Int) := dq_ (by assumption)
      have hx5 := bt_at a0 x5_1
      replace p5 := eq_true p5
      replace q5 := eq_true q5
      go_wp2_with (first | ((with_reducible refine gate_callee (f := 136) rfl ?_); refine goesL_ (some 15) rfl rfl Try.func136 (by kernel_rfl) rfl #[.int .u8 (bt a0 x5_1)] rfl (by (try simp only [List.map_toArray, List.map_cons, List.map_nil]); first | done | rfl | (simp only [List.length_drop, List.length_take]; rfl)) ?_; (with_reducible refine (spec_l4Blank.calls (bt a0 x5_1) true _ A6.out).mono ?_); rintro e w' ⟨rfl, ⟨nd, rfl⟩⟩; refine ⟨_, rfl, ?_⟩))
      go_ret
      exact ⟨by first | rfl | (simp [errW_none, errW_some] <;> rfl) | (simp [*, errW_none, errW_some] <;> rfl), by repeat (first | (with_reducible first | exact HB.out | apply ba_ | apply bn_ | apply b1_) | exact HB.out)⟩
     ·replace c7 := Bool.eq_false_iff.mpr c7
      subst c7
      have H1 : ((spec_l4Find.f k1 a1 0 (bt a0 x5_1)).bind fun t156 => (if t156 ≥ 0 then (some false) else (spec_l5Name.l0 k1 a0 a1 (wrap64 (x5_1 + 1))))) = some r := by rw [if_neg (show ¬ (false = true) by decide)] at H; exact H
      clear H
      have H := H1
      clear H1
      replace H := Option.bind_eq_some_iff.mp H
      obtain ⟨t156, A90, H⟩ := H
      replace H : (if t156 ≥ 0 then (some false) else (spec_l5Name.l0 k1 a0 a1 (wrap64 (x5_1 + 1)))) = some r := H
      have A9 := Aside0.mk A90
      clear A90
      by_cases c10 : t156 ≥ 0
      ·rw [if_pos c10] at H
       have c10b0 : decide (0 ≤ t156) = true := decide_eq_true c10
       clear c10
       obtain rfl := Option.some.inj H
       have p5 : 0 ≤ (x5_1 : Int) := dq_ (by assumption)
       have q5 : x5_1 < (a0.size : Int) := dq_ (by assumption)
       have hx5 := bt_at a0 x5_1
       replace p5 := eq_true p5
       replace q5 := eq_true q5
       go_wp2_with (first | ((with_reducible refine gate_callee (f := 136) rfl ?_); refine goesL_ (some 15) rfl rfl Try.func136 (by kernel_rfl) rfl #[.int .u8 (bt a0 x5_1)] rfl (by (try simp only [List.map_toArray, List.map_cons, List.map_nil]); first | done | rfl | (simp only [List.length_drop, List.length_take]; rfl)) ?_; (with_reducible refine (spec_l4Blank.calls (bt a0 x5_1) false _ A6.out).mono ?_); rintro e w' ⟨rfl, ⟨nd, rfl⟩⟩; refine ⟨_, rfl, ?_⟩; have p8 : 0 ≤ (x5_1 : Int) := dq_ (by assumption); have q8 : x5_1 < (a0.size : Int) := dq_ (by assumption); have hx8 := bt_at a0 x5_1; replace p8 := eq_true p8; replace q8 := eq_true q8) | (go_at_call 119; (with_reducible refine (spec_l4Find.calls k1 a1 0 (bt a0 x5_1) t156 _ A9.out).mono ?_); rintro e w' ⟨rfl, ⟨nd, rfl⟩⟩))
       go_ret
       exact ⟨by first | rfl | (simp [errW_none, errW_some] <;> rfl) | (simp [*, errW_none, errW_some] <;> rfl), by repeat (first | (with_reducible first | exact HB.out | apply ba_ | apply bn_ | apply b1_) | exact HB.out)⟩
      ·rw [if_neg c10] at H
       have c10b0 : decide (0 ≤ t156) = false := decide_eq_false c10
       clear c10
       have H' := Aside0.mk H
       clear H
       have p5 : 0 ≤ (x5_1 : Int) := dq_ (by assumption)
       have q5 : x5_1 < (a0.size : Int) := dq_ (by assumption)
       have hx5 := bt_at a0 x5_1
       replace p5 := eq_true p5
       replace q5 := eq_true q5
       go_wp2_with (first | ((with_reducible refine gate_callee (f := 136) rfl ?_); refine goesL_ (some 15) rfl rfl Try.func136 (by kernel_rfl) rfl #[.int .u8 (bt a0 x5_1)] rfl (by (try simp only [List.map_toArray, List.map_cons, List.map_nil]); first | done | rfl | (simp only [List.length_drop, List.length_take]; rfl)) ?_; (with_reducible refine (spec_l4Blank.calls (bt a0 x5_1) false _ A6.out).mono ?_); rintro e w' ⟨rfl, ⟨nd, rfl⟩⟩; refine ⟨_, rfl, ?_⟩; have p8 : 0 ≤ (x5_1 : Int) := dq_ (by assumption); have q8 : x5_1 < (a0.size : Int) := dq_ (by assumption); have hx8 := bt_at a0 x5_1; replace p8 := eq_true p8; replace q8 := eq_true q8) | (go_at_call 119; (with_reducible refine (spec_l4Find.calls k1 a1 0 (bt a0 x5_1) t156 _ A9.out).mono ?_); rintro e w' ⟨rfl, ⟨nd, rfl⟩⟩))
       go_roundg k1
       case measure => have := HK1.out; omega
       case rel => exact ⟨(wrap64 (x5_1 + 1)), (by first | rfl | (simp; done) | (simp [*]; done)), H', ⟨by have := HK1.out; omega⟩, ⟨by repeat (first | (with_reducible first | exact HB.out | apply ba_ | apply bn_ | apply b1_) | exact HB.out)⟩⟩
    ·rw [if_neg c4] at H
     exact absurd H (by simp)
   ·rw [if_neg c3] at H
    have c3b0 : decide (x5_1 < (a0.size : Int)) = false := decide_eq_false c3
    clear c3
    by_cases c11 : a0.toList = ([] : List UInt8)
    ·rw [if_pos c11] at H
     have c11b0 : (a0.toList == ([] : List UInt8)) = true := beq_iff_eq.mpr c11
     have c11b1 : (a0.toList != ([] : List UInt8)) = false := bne_eq_false_iff_eq.mpr c11
     clear c11
     obtain rfl := Option.some.inj H
     go_wp2
     go_ret
     exact ⟨by first | rfl | (simp [errW_none, errW_some] <;> rfl) | (simp [*, errW_none, errW_some] <;> rfl), by repeat (first | (with_reducible first | exact HB.out | apply ba_ | apply bn_ | apply b1_) | exact HB.out)⟩
    ·rw [if_neg c11] at H
     have c11b0 : (a0.toList == ([] : List UInt8)) = false := beq_eq_false_iff_ne.mpr c11
     have c11b1 : (a0.toList != ([] : List UInt8)) = true := bne_iff_ne.mpr c11
     replace H := Option.bind_eq_some_iff.mp H
     obtain ⟨t153, A120, H⟩ := H
     replace H : (if t153 = true then ((spec_Small.f a0).bind fun t154 => (some (t154.toList == a0.toList))) else (some false)) = some r := H
     have A12 := Aside0.mk A120
     clear A120
     by_cases c13 : t153 = true
     ·subst c13
      have H1 : ((spec_Small.f a0).bind fun t154 => (some (t154.toList == a0.toList))) = some r := by rw [if_pos rfl] at H; exact H
      clear H
      have H := H1
      clear H1
      replace H := Option.bind_eq_some_iff.mp H
      obtain ⟨t154, A140, H⟩ := H
      replace H : (some (t154.toList == a0.toList)) = some r := H
      have A14 := Aside0.mk A140
      clear A140
      obtain rfl := Option.some.inj H
      go_wp2_with (first | (go_at_call 9; (with_reducible refine (spec_CleanOk.calls k1 a0 true _ A12.out).mono ?_); rintro e w15 ⟨rfl, hb⟩; have n0_ := Aside0.mk (below_step (by repeat (first | (with_reducible first | exact HB.out | apply ba_ | apply bn_ | apply b1_) | exact HB.out)) hb); clear HB; have HB := n0_; clear n0_; (try clear hb)) | (go_at_call 118; (with_reducible refine (spec_Small.calls a0 t154 _ A14.out).mono ?_); rintro e w16 ⟨rfl, hb⟩; have n0_ := Aside0.mk (below_step (by repeat (first | (with_reducible first | exact HB.out | apply ba_ | apply bn_ | apply b1_) | exact HB.out)) hb); clear HB; have HB := n0_; clear n0_; (try clear hb)))
      go_ret
      exact ⟨by first | rfl | (simp [errW_none, errW_some] <;> rfl) | (simp [*, errW_none, errW_some] <;> rfl), by repeat (first | (with_reducible first | exact HB.out | apply ba_ | apply bn_ | apply b1_) | exact HB.out)⟩
     ·replace c13 := Bool.eq_false_iff.mpr c13
      subst c13
      have H1 : (some false) = some r := by rw [if_neg (show ¬ (false = true) by decide)] at H; exact H
      clear H
      have H := H1
      clear H1
      obtain rfl := Option.some.inj H
      go_wp2_with (first | (go_at_call 9; (with_reducible refine (spec_CleanOk.calls k1 a0 false _ A12.out).mono ?_); rintro e w17 ⟨rfl, hb⟩; have n0_ := Aside0.mk (below_step (by repeat (first | (with_reducible first | exact HB.out | apply ba_ | apply bn_ | apply b1_) | exact HB.out)) hb); clear HB; have HB := n0_; clear n0_; (try clear hb)))
      go_ret
      exact ⟨by first | rfl | (simp [errW_none, errW_some] <;> rfl) | (simp [*, errW_none, errW_some] <;> rfl), by repeat (first | (with_reducible first | exact HB.out | apply ba_ | apply bn_ | apply b1_) | exact HB.out)⟩
def spec_l4Has.l0 : Nat → List (S117) → ByteArray → Int → Option (Bool)
 | 0, _, _, _ => none
 | k + 1, x0, x1, x5 => if x5 < (x0.length : Int) then (if 0 ≤ x5 then (if ((rd_T117 x0 x5).f0).toList = x1.toList then (some true) else (spec_l4Has.l0 k x0 x1 (wrap64 (x5 + 1)))) else (none)) else (some false)
def spec_l4Has.f (k : Nat) (l0 : List (S117)) (a1 : ByteArray) : Option (Bool) := spec_l4Has.l0 k l0 a1 0
theorem spec_l4Has.mono_l : ∀ k, (∀ y0 y1 y2, LeO (spec_l4Has.l0 k y0 y1 y2) (spec_l4Has.l0 (k + 1) y0 y1 y2))
 | 0 => fun _ _ _ r h => by simp [spec_l4Has.l0] at h
 | k + 1 => by
  have ih0 := spec_l4Has.mono_l k
  ·intro y0 y1 y2
   unfold spec_l4Has.l0
   repeat' first
   | (with_reducible exact ih0 _ _ _)
   | (with_reducible exact LeO.refl _)
   | (with_reducible exact LeO.none _)
   | (with_reducible refine LeO.ite ?_ ?_)
   | (with_reducible refine LeO.bind ?_ (fun _ => ?_))
theorem spec_l4Has.mono : ∀ a0 a1 k, LeO (spec_l4Has.f k a0 a1) (spec_l4Has.f (k + 1) a0 a1) := by
 intro a0 a1 k
 have ih0 := spec_l4Has.mono_l k
 unfold spec_l4Has.f
 repeat' first
   | (with_reducible exact ih0 _ _ _)
   | (with_reducible exact LeO.refl _)
   | (with_reducible exact LeO.none _)
   | (with_reducible refine LeO.ite ?_ ?_)
   | (with_reducible refine LeO.bind ?_ (fun _ => ?_))
set_option maxHeartbeats 8000000 in
set_option maxRecDepth 100000 in
theorem spec_l4Has.calls (k : Nat) (A0 : Option Addr) (c0 : Nat) (l0 : List (S117)) (a1 : ByteArray) (r : Bool) (w : World) (hr0 : Kd.C k117 w A0 l0.length l0) (hc0 : l0.length ≤ c0) (h : spec_l4Has.f k l0 a1 = some r) :
  Calls Try.prog 137 #[.slice A0 l0.length c0, .string a1] w fun e w' => e = .returned (.bool r) ∧ Drawn0 w w' := by
 have HR0 := Aside0.mk hr0
 have HC0 := Aside0.mk hc0
 clear hr0 hc0
 have H : (spec_l4Has.l0 k l0 a1 0) = some r := h
 clear h
 have H' := Aside0.mk H
 clear H
 go_enter Try.func137, Try.ntmps137
 go_wp2
 go_loopg [5] k (fun kq v5 w' => ∃ (x5_1 : Int), v5 = .int .i64 x5_1 ∧ Aside0 (spec_l4Has.l0 kq l0 a1 x5_1 = some r) ∧ Aside0 (kq ≤ k) ∧ Drawn0 w w')
 case atStart => exact ⟨(0), (by first | rfl | (simp; done) | (simp [*]; done)), H', ⟨Nat.le_refl _⟩, by repeat (first | exact Drawn0.refl _ | apply Drawn0.step)⟩
 case round =>
  clear H'
  obtain ⟨x5_1, rfl, HA, HK1, ⟨m1, rfl⟩⟩ := hrel
  cases gk with
  | zero => exact absurd HA.out (by simp [spec_l4Has.l0])
  | succ k1 =>
   have H := HA.out
   clear HA
   simp only [spec_l4Has.l0] at H
   by_cases c3 : x5_1 < (l0.length : Int)
   ·rw [if_pos c3] at H
    have c3b0 : decide (x5_1 < (l0.length : Int)) = true := decide_eq_true c3
    clear c3
    by_cases c4 : 0 ≤ x5_1
    ·rw [if_pos c4] at H
     have c4b0 : decide (0 ≤ x5_1) = true := decide_eq_true c4
     clear c4
     by_cases c5 : ((rd_T117 l0 x5_1).f0).toList = a1.toList
     ·rw [if_pos c5] at H
      have c5b0 : (((rd_T117 l0 x5_1).f0).toList == a1.toList) = true := beq_iff_eq.mpr c5
      have c5b1 : (((rd_T117 l0 x5_1).f0).toList != a1.toList) = false := bne_eq_false_iff_eq.mpr c5
      clear c5
      obtain rfl := Option.some.inj H
      have p157 : 0 ≤ (x5_1 : Int) := dq_ (by assumption)
      have q157 : x5_1 < (l0.length : Int) := dq_ (by assumption)
      obtain ⟨ad157, e157, hx157_0, hx157_1⟩ := at_T117 HR0.out x5_1 p157 q157
      cases e157
      replace p157 := eq_true p157
      replace q157 := eq_true q157
      go_wp2
      go_ret
      exact ⟨by first | rfl | (simp; done) | (simp [*]; done), by repeat (first | exact Drawn0.refl _ | apply Drawn0.step)⟩
     ·rw [if_neg c5] at H
      have c5b0 : (((rd_T117 l0 x5_1).f0).toList == a1.toList) = false := beq_eq_false_iff_ne.mpr c5
      have c5b1 : (((rd_T117 l0 x5_1).f0).toList != a1.toList) = true := bne_iff_ne.mpr c5
      have H' := Aside0.mk H
      clear H
      have p157 : 0 ≤ (x5_1 : Int) := dq_ (by assumption)
      have q157 : x5_1 < (l0.length : Int) := dq_ (by assumption)
      obtain ⟨ad157, e157, hx157_0, hx157_1⟩ := at_T117 HR0.out x5_1 p157 q157
      cases e157
      replace p157 := eq_true p157
      replace q157 := eq_true q157
      go_wp2
      go_roundg k1
      case measure => have := HK1.out; omega
      case rel => exact ⟨(wrap64 (x5_1 + 1)), (by first | rfl | (simp; done) | (simp [*]; done)), H', ⟨by have := HK1.out; omega⟩, by repeat (first | exact Drawn0.refl _ | apply Drawn0.step)⟩
    ·rw [if_neg c4] at H
     exact absurd H (by simp)
   ·rw [if_neg c3] at H
    have c3b0 : decide (x5_1 < (l0.length : Int)) = false := decide_eq_false c3
    clear c3
    obtain rfl := Option.some.inj H
    go_wp2
    go_ret
    exact ⟨by first | rfl | (simp; done) | (simp [*]; done), by repeat (first | exact Drawn0.refl _ | apply Drawn0.step)⟩
end Go.Proofs.Yteafgjebaedjbaa.PFnExactTokensOk
