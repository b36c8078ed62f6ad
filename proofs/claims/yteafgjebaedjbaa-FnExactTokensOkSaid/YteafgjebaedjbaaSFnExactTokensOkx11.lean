-- Written by this session's program wip/slim.py out of the print's texts. Lean checks it.
import Derived.Test.YteafgjebaedjbaaSFnExactTokensOkx0
import Derived.Test.YteafgjebaedjbaaSFnExactTokensOkx3
import Derived.Test.YteafgjebaedjbaaSFnExactTokensOkx10
namespace Go.Proofs.Yteafgjebaedjbaa.PFnExactTokensOk
open Go.RowKit Go.Proofs.YteafgjebaedjbaaW.PrintWords Go.Proofs.YteafgjebaedjbaaW.PrintLast Go.Proofs.YteafgjebaedjbaaW.PrintMore
attribute [local go_sem] max2_int min2_int max_two min_two max_three min_three max_four min_four
set_option linter.unusedVariables false
set_option linter.unusedSimpArgs false
def impl_isLetterAt.f (a0 : ByteArray) (a1 : Int) : Option (Bool) := if a1 < (a0.size : Int) then (if 0 ≤ a1 then ((impl_IsLetter.f (wrap64 (bt a0 a1))).bind fun t264 => (some t264)) else (none)) else (some false)
set_option maxHeartbeats 8000000 in
set_option maxRecDepth 100000 in
theorem impl_isLetterAt.calls (a0 : ByteArray) (a1 : Int) (r : Bool) (w : World) (h : impl_isLetterAt.f a0 a1 = some r) :
  Calls Try.prog 140 #[.string a0, .int .i64 a1] w fun e w' => e = .returned (.bool r) ∧ Drawn0 w w' := by
 have H : (if a1 < (a0.size : Int) then (if 0 ≤ a1 then ((impl_IsLetter.f (wrap64 (bt a0 a1))).bind fun t264 => (some t264)) else (none)) else (some false)) = some r := h
 clear h
 by_cases c3 : a1 < (a0.size : Int)
 ·rw [if_pos c3] at H
  have c3b0 : decide (a1 < (a0.size : Int)) = true := decide_eq_true c3
  clear c3
  by_cases c4 : 0 ≤ a1
  ·rw [if_pos c4] at H
   have c4b0 : decide (0 ≤ a1) = true := decide_eq_true c4
   clear c4
   replace H := Option.bind_eq_some_iff.mp H
   obtain ⟨t264, A60, H⟩ := H
   replace H : (some t264) = some r := H
   have A6 := Aside0.mk A60
   clear A60
   obtain rfl := Option.some.inj H
   have p5 : 0 ≤ (a1 : Int) := dq_ (by assumption)
   have q5 : a1 < (a0.size : Int) := dq_ (by assumption)
   have hx5 := bt_at a0 a1
   replace p5 := eq_true p5
   replace q5 := eq_true q5
   go_enter Try.func140, Try.ntmps140
   go_wp2_with (first | (go_at_call 106; (with_reducible refine (impl_IsLetter.calls (wrap64 (bt a0 a1)) t264 _ A6.out).mono ?_); rintro e w' ⟨rfl, ⟨nd, rfl⟩⟩))
   go_ret
   exact ⟨by first | rfl | (simp; done) | (simp [*]; done), by repeat (first | exact Drawn0.refl _ | apply Drawn0.step)⟩
  ·rw [if_neg c4] at H
   exact absurd H (by simp)
 ·rw [if_neg c3] at H
  have c3b0 : decide (a1 < (a0.size : Int)) = false := decide_eq_false c3
  clear c3
  obtain rfl := Option.some.inj H
  go_enter Try.func140, Try.ntmps140
  go_wp2
  go_ret
  exact ⟨by first | rfl | (simp; done) | (simp [*]; done), by repeat (first | exact Drawn0.refl _ | apply Drawn0.step)⟩
def impl_Small.f (a0 : ByteArray) : Option (ByteArray) := if a0.size ≤ 140737488351232 then some (smallOf a0) else none
set_option maxHeartbeats 8000000 in
set_option maxRecDepth 100000 in
theorem impl_Small.calls (a0 : ByteArray) (r : ByteArray) (w : World) (h : impl_Small.f a0 = some r) :
  Calls Try.prog 143 #[.string a0] w fun e w' => e = .returned (.string r) ∧ Below w.heap.size w w' := by
 have hs : a0.size ≤ 140737488351232 := by
  by_cases hs : a0.size ≤ 140737488351232
  ·exact hs
  ·unfold impl_Small.f at h; rw [if_neg hs] at h; exact absurd h (by simp)
 unfold impl_Small.f at h
 rw [if_pos hs] at h
 have HR := Aside0.mk (Option.some.inj h)
 clear h
 have kb := fun W => print_bytes (P := Try.prog) 9 23 5 Try.underlying9 Try.underlying23 Try.underlying5 a0 W
 have HB := Aside0.mk (bytes_below (Below.refl w.heap.size w) (Nat.le_refl _) 5 a0)
 have HK := Aside0.mk (BK.make w a0)
 go_enter Try.func143, Try.ntmps143
 go_wp2
 clear kb
 generalize Lib.bytesWorld w 5 a0 = w1 at HB HK ⊢
 generalize grownCap w a0.size 0 5 = c1
 go_loopg [10] a0.size (fun kq vi w' => ∃ i : Nat, vi = .int .i64 (i : Int) ∧ Aside0 (i + kq = a0.size) ∧ Aside0 (BK w' w.heap.size a0.size (smAt (bytesOf a0) i)) ∧ Aside0 (Below w.heap.size w w'))
 case atStart => exact ⟨0, rfl, ⟨by omega⟩, ⟨by rw [smAt_zero]; exact HK.out⟩, HB⟩
 case round =>
  clear HK HB
  obtain ⟨i, rfl, HI, HK, HB⟩ := hrel
  by_cases hi : i < a0.size
  ·have hc := HK.out.cell i hi
   have hf := HK.out.free i hi
   have hil : i < (bytesOf a0).length := by rw [bytesOf_length]; exact hi
   rw [rd_smAt _ i hil] at hc
   have hn := Aside0.mk (HK.out.set i hi)
   have hne := smAt_next (bytesOf a0) i hil
   have hke := smAt_keep (bytesOf a0) i hil
   have hrg : 0 ≤ rd (bytesOf a0) (i : Int) ∧ rd (bytesOf a0) (i : Int) ≤ 255 := by rw [rd_bytesOf]; exact bt_range _ _
   generalize rd (bytesOf a0) (i : Int) = x at hc hne hke hrg
   have d0 : decide (i < a0.size) = true := decide_eq_true hi
   have d1 : decide ((i : Int) < (a0.size : Int)) = true := decide_eq_true (by omega)
   have i0 : (0 : Int) ≤ (i : Int) := by omega
   have HW := Aside0.mk (show wrap64 ((i : Int) + 1) = ((i + 1 : Nat) : Int) by unfold wrap64; omega)
   by_cases ca : 65 ≤ x
   ·by_cases cb : x ≤ 90
    ·have ba : decide (65 ≤ x) = true := decide_eq_true ca
     have bb : decide (x ≤ 90) = true := decide_eq_true cb
     have HN := Aside0.mk (show smAt (bytesOf a0) (i + 1) = (smAt (bytesOf a0) i).set i (x + 32) by rw [hne, sm1, if_pos ⟨ca, cb⟩])
     have hadd : IntKind.u8.wrap (x + 32) = x + 32 := by simp [IntKind.wrap, IntKind.bits, IntKind.signed]; omega
     clear hne hke
     go_wp2
     go_roundg (gk - 1)
     case measure => have := HI.out; omega
     case rel => exact ⟨i + 1, by first | rfl | (simp; done) | (rw [← HW.out]; rfl), ⟨by have := HI.out; omega⟩, ⟨by rw [HN.out]; exact hn.out _⟩, ⟨below_set HB.out (Nat.le_refl _)⟩⟩
    ·have ba : decide (65 ≤ x) = true := decide_eq_true ca
     have bb : decide (x ≤ 90) = false := decide_eq_false cb
     have HN := Aside0.mk (hke (by rw [sm1, if_neg (fun h => cb h.2)]))
     clear hne hke hn ca cb
     go_wp2
     go_roundg (gk - 1)
     case measure => have := HI.out; omega
     case rel => exact ⟨i + 1, by first | rfl | (simp; done) | (rw [← HW.out]; rfl), ⟨by have := HI.out; omega⟩, ⟨by rw [HN.out]; exact HK.out⟩, HB⟩
   ·have ba : decide (65 ≤ x) = false := decide_eq_false ca
    have HN := Aside0.mk (hke (by rw [sm1, if_neg (fun h => ca h.1)]))
    clear hne hke hn ca
    go_wp2
    go_roundg (gk - 1)
    case measure => have := HI.out; omega
    case rel => exact ⟨i + 1, by first | rfl | (simp; done) | (rw [← HW.out]; rfl), ⟨by have := HI.out; omega⟩, ⟨by rw [HN.out]; exact HK.out⟩, HB⟩
  ·have d0 : decide (i < a0.size) = false := decide_eq_false hi
   have d1 : decide ((i : Int) < (a0.size : Int)) = false := decide_eq_false (by omega)
   have HA := Aside0.mk (smAt_all (bytesOf a0) i (by rw [bytesOf_length]; omega))
   have hrd := HK.out.reads (by omega)
   rw [HA.out] at hrd
   have ks := fun c => string_of_reads (P := Try.prog) (c := c) Try.underlying23 Try.underlying5 Try.underlying9 hrd
   clear hrd
   go_wp2
   go_ret
   exact ⟨by (rw [← HR.out]; rfl), HB.out⟩
def impl_IsBlank.f (a0 : Int) : Option (Bool) := if a0 = 9 then (some true) else (if a0 = 10 then (some true) else (if a0 = 12 then (some true) else (if a0 = 13 then (some true) else (some (a0 == 32)))))
set_option maxHeartbeats 8000000 in
set_option maxRecDepth 100000 in
theorem impl_IsBlank.calls (a0 : Int) (r : Bool) (w : World) (h : impl_IsBlank.f a0 = some r) :
  Calls Try.prog 151 #[.int .i64 a0] w fun e w' => e = .returned (.bool r) ∧ Drawn0 w w' := by
 have H : (if a0 = 9 then (some true) else (if a0 = 10 then (some true) else (if a0 = 12 then (some true) else (if a0 = 13 then (some true) else (some (a0 == 32)))))) = some r := h
 clear h
 by_cases c2 : a0 = 9
 ·rw [if_pos c2] at H
  have c2b0 : (a0 == 9) = true := beq_iff_eq.mpr c2
  have c2b1 : (a0 != 9) = false := bne_eq_false_iff_eq.mpr c2
  clear c2
  obtain rfl := Option.some.inj H
  go_enter Try.func151, Try.ntmps151
  go_wp2
  go_ret
  exact ⟨by first | rfl | (simp; done) | (simp [*]; done), by repeat (first | exact Drawn0.refl _ | apply Drawn0.step)⟩
 ·rw [if_neg c2] at H
  have c2b0 : (a0 == 9) = false := beq_eq_false_iff_ne.mpr c2
  have c2b1 : (a0 != 9) = true := bne_iff_ne.mpr c2
  by_cases c3 : a0 = 10
  ·rw [if_pos c3] at H
   have c3b0 : (a0 == 10) = true := beq_iff_eq.mpr c3
   have c3b1 : (a0 != 10) = false := bne_eq_false_iff_eq.mpr c3
   clear c3
   obtain rfl := Option.some.inj H
   go_enter Try.func151, Try.ntmps151
   go_wp2
   go_ret
   exact ⟨by first | rfl | (simp; done) | (simp [*]; done), by repeat (first | exact Drawn0.refl _ | apply Drawn0.step)⟩
  ·rw [if_neg c3] at H
   have c3b0 : (a0 == 10) = false := beq_eq_false_iff_ne.mpr c3
   have c3b1 : (a0 != 10) = true := bne_iff_ne.mpr c3
   by_cases c4 : a0 = 12
   ·rw [if_pos c4] at H
    have c4b0 : (a0 == 12) = true := beq_iff_eq.mpr c4
    have c4b1 : (a0 != 12) = false := bne_eq_false_iff_eq.mpr c4
    clear c4
    obtain rfl := Option.some.inj H
    go_enter Try.func151, Try.ntmps151
    go_wp2
    go_ret
    exact ⟨by first | rfl | (simp; done) | (simp [*]; done), by repeat (first | exact Drawn0.refl _ | apply Drawn0.step)⟩
   ·rw [if_neg c4] at H
    have c4b0 : (a0 == 12) = false := beq_eq_false_iff_ne.mpr c4
    have c4b1 : (a0 != 12) = true := bne_iff_ne.mpr c4
    by_cases c5 : a0 = 13
    ·rw [if_pos c5] at H
     have c5b0 : (a0 == 13) = true := beq_iff_eq.mpr c5
     have c5b1 : (a0 != 13) = false := bne_eq_false_iff_eq.mpr c5
     clear c5
     obtain rfl := Option.some.inj H
     go_enter Try.func151, Try.ntmps151
     go_wp2
     go_ret
     exact ⟨by first | rfl | (simp; done) | (simp [*]; done), by repeat (first | exact Drawn0.refl _ | apply Drawn0.step)⟩
    ·rw [if_neg c5] at H
     have c5b0 : (a0 == 13) = false := beq_eq_false_iff_ne.mpr c5
     have c5b1 : (a0 != 13) = true := bne_iff_ne.mpr c5
     obtain rfl := Option.some.inj H
     go_enter Try.func151, Try.ntmps151
     go_wp2
     go_ret
     exact ⟨by first | rfl | (simp; done) | (simp [*]; done), by repeat (first | exact Drawn0.refl _ | apply Drawn0.step)⟩
def impl_isBlankByte.f (a0 : Int) : Option (Bool) := (impl_IsBlank.f (wrap64 (a0))).bind fun t265 => (some t265)
set_option maxHeartbeats 8000000 in
set_option maxRecDepth 100000 in
theorem impl_isBlankByte.calls (a0 : Int) (r : Bool) (w : World) (h : impl_isBlankByte.f a0 = some r) :
  Calls Try.prog 144 #[.int .u8 a0] w fun e w' => e = .returned (.bool r) ∧ Drawn0 w w' := by
 have H : ((impl_IsBlank.f (wrap64 (a0))).bind fun t265 => (some t265)) = some r := h
 clear h
 replace H := Option.bind_eq_some_iff.mp H
 obtain ⟨t265, A20, H⟩ := H
 replace H : (some t265) = some r := H
 have A2 := Aside0.mk A20
 clear A20
 obtain rfl := Option.some.inj H
 go_enter Try.func144, Try.ntmps144
 go_wp2_with (first | ((with_reducible refine gate_callee (f := 151) rfl ?_); refine goesL_ (some 5) rfl rfl Try.func151 (by kernel_rfl) rfl #[.int .i64 (wrap64 (a0))] rfl (by (try simp only [List.map_toArray, List.map_cons, List.map_nil]); first | done | rfl | (simp only [List.length_drop, List.length_take]; rfl)) ?_; (with_reducible refine (impl_IsBlank.calls (wrap64 (a0)) t265 _ A2.out).mono ?_); rintro e w' ⟨rfl, ⟨nd, rfl⟩⟩; refine ⟨_, rfl, ?_⟩))
 go_ret
 exact ⟨by first | rfl | (simp; done) | (simp [*]; done), by repeat (first | exact Drawn0.refl _ | apply Drawn0.step)⟩
def strings_IndexByte.f (a0 : ByteArray) (a1 : Int) : Option (Int) := some (Lib.indexByte a0.data.toList a1.toNat.toUInt8)
theorem strings_IndexByte.calls (a0 : ByteArray) (a1 : Int) (r : Int) (w : World) (h : strings_IndexByte.f a0 a1 = some r) :
  Calls Try.prog 148 #[.string a0, .int .u8 a1] w fun e w' => e = .returned (.int .i64 r) ∧ Below w.heap.size w w' := by
 unfold strings_IndexByte.f at h
 refine (Try.strings_IndexByte a0 a1 w).mono ?_
 rintro e w' ⟨rfl, rfl⟩
 exact ⟨by rw [Option.some.inj h], Below.refl _ _⟩
def impl_hasNone.l0 : Nat → ByteArray → ByteArray → Int → Option (Bool)
 | 0, _, _, _ => none
 | k + 1, x0, x1, x5 => if x5 < (x0.size : Int) then (if 0 ≤ x5 then ((impl_isBlankByte.f (bt x0 x5)).bind fun t268 => (if t268 = true then (some false) else ((strings_IndexByte.f x1 (bt x0 x5)).bind fun t269 => (if t269 ≥ 0 then (some false) else (impl_hasNone.l0 k x0 x1 (wrap64 (x5 + 1))))))) else (none)) else ((impl_CleanOk.f k x0).bind fun t266 => (if t266 = true then ((impl_Small.f x0).bind fun t267 => (some (t267.toList == x0.toList))) else (some false)))
def impl_hasNone.f (k : Nat) (a0 : ByteArray) (a1 : ByteArray) : Option (Bool) := impl_hasNone.l0 k a0 a1 0
theorem impl_hasNone.mono_l : ∀ k, (∀ y0 y1 y2, LeO (impl_hasNone.l0 k y0 y1 y2) (impl_hasNone.l0 (k + 1) y0 y1 y2))
 | 0 => fun _ _ _ r h => by simp [impl_hasNone.l0] at h
 | k + 1 => by
  have ih0 := impl_hasNone.mono_l k
  ·intro y0 y1 y2
   unfold impl_hasNone.l0
   repeat' first
   | (with_reducible exact ih0 _ _ _)
   | (with_reducible exact impl_CleanOk.mono _ _)
   | (with_reducible exact LeO.refl _)
   | (with_reducible exact LeO.none _)
   | (with_reducible refine LeO.ite ?_ ?_)
   | (with_reducible refine LeO.bind ?_ (fun _ => ?_))
theorem impl_hasNone.mono : ∀ a0 a1 k, LeO (impl_hasNone.f k a0 a1) (impl_hasNone.f (k + 1) a0 a1) := by
 intro a0 a1 k
 have ih0 := impl_hasNone.mono_l k
 unfold impl_hasNone.f
 repeat' first
   | (with_reducible exact ih0 _ _ _)
   | (with_reducible exact impl_CleanOk.mono _ _)
   | (with_reducible exact LeO.refl _)
   | (with_reducible exact LeO.none _)
   | (with_reducible refine LeO.ite ?_ ?_)
   | (with_reducible refine LeO.bind ?_ (fun _ => ?_))
set_option maxHeartbeats 8000000 in
set_option maxRecDepth 100000 in
theorem impl_hasNone.calls (k : Nat) (a0 : ByteArray) (a1 : ByteArray) (r : Bool) (w : World) (h : impl_hasNone.f k a0 a1 = some r) :
  Calls Try.prog 141 #[.string a0, .string a1] w fun e w' => e = .returned (.bool r) ∧ Below w.heap.size w w' := by
 have HB := Aside0.mk (Below.refl w.heap.size w)
 have H : (impl_hasNone.l0 k a0 a1 0) = some r := h
 clear h
 have H' := Aside0.mk H
 clear H
 go_enter Try.func141, Try.ntmps141
 go_wp2
 go_loopg [5] k (fun kq v5 w' => ∃ (x5_1 : Int), v5 = .int .i64 x5_1 ∧ Aside0 (impl_hasNone.l0 kq a0 a1 x5_1 = some r) ∧ Aside0 (kq ≤ k) ∧ Aside0 (Below w.heap.size w w'))
 case atStart => exact ⟨(0), (by first | rfl | (simp; done) | (simp [*]; done)), H', ⟨Nat.le_refl _⟩, ⟨by repeat (first | (with_reducible first | exact HB.out | apply ba_ | apply bn_ | apply b1_) | exact HB.out)⟩⟩
 case round =>
  clear H'
  obtain ⟨x5_1, rfl, HA, HK1, HB⟩ := hrel
  cases gk with
  | zero => exact absurd HA.out (by simp [impl_hasNone.l0])
  | succ k1 =>
   have H := HA.out
   clear HA
   simp only [impl_hasNone.l0] at H
   by_cases c3 : x5_1 < (a0.size : Int)
   ·rw [if_pos c3] at H
    have c3b0 : decide (x5_1 < (a0.size : Int)) = true := decide_eq_true c3
    clear c3
    by_cases c4 : 0 ≤ x5_1
    ·rw [if_pos c4] at H
     have c4b0 : decide (0 ≤ x5_1) = true := decide_eq_true c4
     clear c4
     replace H := Option.bind_eq_some_iff.mp H
     obtain ⟨t268, A60, H⟩ := H
     replace H : (if t268 = true then (some false) else ((strings_IndexByte.f a1 (bt a0 x5_1)).bind fun t269 => (if t269 ≥ 0 then (some false) else (impl_hasNone.l0 k1 a0 a1 (wrap64 (x5_1 + 1)))))) = some r := H
     have A6 := Aside0.mk A60
     clear A60
     by_cases c7 : t268 = true
     ·subst c7
      have H1 : (some false) = some r := by rw [if_pos rfl] at H; exact H
      clear H
      have H := H1
      clear H1
      obtain rfl := Option.some.inj H
      have p5 : 0 ≤ (x5_1 : Int) := dq_ (by assumption)
      have q5 : x5_1 < (a0.size : Int) := dq_ (by assumption)
      have hx5 := bt_at a0 x5_1
      replace p5 := eq_true p5
      replace q5 := eq_true q5
      go_wp2_with (first | ((with_reducible refine gate_callee (f := 144) rfl ?_); refine goesL_ (some 15) rfl rfl Try.func144 (by kernel_rfl) rfl #[.int .u8 (bt a0 x5_1)] rfl (by (try simp only [List.map_toArray, List.map_cons, List.map_nil]); first | done | rfl | (simp only [List.length_drop, List.length_take]; rfl)) ?_; (with_reducible refine (impl_isBlankByte.calls (bt a0 x5_1) true _ A6.out).mono ?_); rintro e w' ⟨rfl, ⟨nd, rfl⟩⟩; refine ⟨_, rfl, ?_⟩))
      go_ret
      exact ⟨by first | rfl | (simp [errW_none, errW_some] <;> rfl) | (simp [*, errW_none, errW_some] <;> rfl), by repeat (first | (with_reducible first | exact HB.out | apply ba_ | apply bn_ | apply b1_) | exact HB.out)⟩
     ·replace c7 := Bool.eq_false_iff.mpr c7
      subst c7
      have H1 : ((strings_IndexByte.f a1 (bt a0 x5_1)).bind fun t269 => (if t269 ≥ 0 then (some false) else (impl_hasNone.l0 k1 a0 a1 (wrap64 (x5_1 + 1))))) = some r := by rw [if_neg (show ¬ (false = true) by decide)] at H; exact H
      clear H
      have H := H1
      clear H1
      replace H := Option.bind_eq_some_iff.mp H
      obtain ⟨t269, A90, H⟩ := H
      replace H : (if t269 ≥ 0 then (some false) else (impl_hasNone.l0 k1 a0 a1 (wrap64 (x5_1 + 1)))) = some r := H
      have A9 := Aside0.mk A90
      clear A90
      by_cases c10 : t269 ≥ 0
      ·rw [if_pos c10] at H
       have c10b0 : decide (0 ≤ t269) = true := decide_eq_true c10
       clear c10
       obtain rfl := Option.some.inj H
       have p5 : 0 ≤ (x5_1 : Int) := dq_ (by assumption)
       have q5 : x5_1 < (a0.size : Int) := dq_ (by assumption)
       have hx5 := bt_at a0 x5_1
       replace p5 := eq_true p5
       replace q5 := eq_true q5
       go_wp2_with (first | ((with_reducible refine gate_callee (f := 144) rfl ?_); refine goesL_ (some 15) rfl rfl Try.func144 (by kernel_rfl) rfl #[.int .u8 (bt a0 x5_1)] rfl (by (try simp only [List.map_toArray, List.map_cons, List.map_nil]); first | done | rfl | (simp only [List.length_drop, List.length_take]; rfl)) ?_; (with_reducible refine (impl_isBlankByte.calls (bt a0 x5_1) false _ A6.out).mono ?_); rintro e w' ⟨rfl, ⟨nd, rfl⟩⟩; refine ⟨_, rfl, ?_⟩; have p8 : 0 ≤ (x5_1 : Int) := dq_ (by assumption); have q8 : x5_1 < (a0.size : Int) := dq_ (by assumption); have hx8 := bt_at a0 x5_1; replace p8 := eq_true p8; replace q8 := eq_true q8) | (go_at_call 148; (with_reducible refine (strings_IndexByte.calls a1 (bt a0 x5_1) t269 _ A9.out).mono ?_); rintro e w11 ⟨rfl, hb⟩; have n0_ := Aside0.mk (below_step (by repeat (first | (with_reducible first | exact HB.out | apply ba_ | apply bn_ | apply b1_) | exact HB.out)) hb); clear HB; have HB := n0_; clear n0_; (try clear hb)))
       go_ret
       exact ⟨by first | rfl | (simp [errW_none, errW_some] <;> rfl) | (simp [*, errW_none, errW_some] <;> rfl), by repeat (first | (with_reducible first | exact HB.out | apply ba_ | apply bn_ | apply b1_) | exact HB.out)⟩
      ·rw [if_neg c10] at H
       have c10b0 : decide (0 ≤ t269) = false := decide_eq_false c10
       clear c10
       have H' := Aside0.mk H
       clear H
       have p5 : 0 ≤ (x5_1 : Int) := dq_ (by assumption)
       have q5 : x5_1 < (a0.size : Int) := dq_ (by assumption)
       have hx5 := bt_at a0 x5_1
       replace p5 := eq_true p5
       replace q5 := eq_true q5
       go_wp2_with (first | ((with_reducible refine gate_callee (f := 144) rfl ?_); refine goesL_ (some 15) rfl rfl Try.func144 (by kernel_rfl) rfl #[.int .u8 (bt a0 x5_1)] rfl (by (try simp only [List.map_toArray, List.map_cons, List.map_nil]); first | done | rfl | (simp only [List.length_drop, List.length_take]; rfl)) ?_; (with_reducible refine (impl_isBlankByte.calls (bt a0 x5_1) false _ A6.out).mono ?_); rintro e w' ⟨rfl, ⟨nd, rfl⟩⟩; refine ⟨_, rfl, ?_⟩; have p8 : 0 ≤ (x5_1 : Int) := dq_ (by assumption); have q8 : x5_1 < (a0.size : Int) := dq_ (by assumption); have hx8 := bt_at a0 x5_1; replace p8 := eq_true p8; replace q8 := eq_true q8) | (go_at_call 148; (with_reducible refine (strings_IndexByte.calls a1 (bt a0 x5_1) t269 _ A9.out).mono ?_); rintro e w12 ⟨rfl, hb⟩; have n0_ := Aside0.mk (below_step (by repeat (first | (with_reducible first | exact HB.out | apply ba_ | apply bn_ | apply b1_) | exact HB.out)) hb); clear HB; have HB := n0_; clear n0_; (try clear hb)))
       go_roundg k1
       case measure => have := HK1.out; omega
       case rel => exact ⟨(wrap64 (x5_1 + 1)), (by first | rfl | (simp; done) | (simp [*]; done)), H', ⟨by have := HK1.out; omega⟩, ⟨by repeat (first | (with_reducible first | exact HB.out | apply ba_ | apply bn_ | apply b1_) | exact HB.out)⟩⟩
    ·rw [if_neg c4] at H
     exact absurd H (by simp)
   ·rw [if_neg c3] at H
    have c3b0 : decide (x5_1 < (a0.size : Int)) = false := decide_eq_false c3
    clear c3
    replace H := Option.bind_eq_some_iff.mp H
    obtain ⟨t266, A130, H⟩ := H
    replace H : (if t266 = true then ((impl_Small.f a0).bind fun t267 => (some (t267.toList == a0.toList))) else (some false)) = some r := H
    have A13 := Aside0.mk A130
    clear A130
    by_cases c14 : t266 = true
    ·subst c14
     have H1 : ((impl_Small.f a0).bind fun t267 => (some (t267.toList == a0.toList))) = some r := by rw [if_pos rfl] at H; exact H
     clear H
     have H := H1
     clear H1
     replace H := Option.bind_eq_some_iff.mp H
     obtain ⟨t267, A150, H⟩ := H
     replace H : (some (t267.toList == a0.toList)) = some r := H
     have A15 := Aside0.mk A150
     clear A150
     obtain rfl := Option.some.inj H
     go_wp2_with (first | ((with_reducible refine gate_callee (f := 10) rfl ?_); refine goesL_ (some 25) rfl rfl Try.func10 (by kernel_rfl) rfl #[.string a0] rfl (by (try simp only [List.map_toArray, List.map_cons, List.map_nil]); first | done | rfl | (simp only [List.length_drop, List.length_take]; rfl)) ?_; (with_reducible refine (impl_CleanOk.calls k1 a0 true _ A13.out).mono ?_); rintro e w16 ⟨rfl, hb⟩; refine ⟨_, rfl, ?_⟩; have n0_ := Aside0.mk (below_step (by repeat (first | (with_reducible first | exact HB.out | apply ba_ | apply bn_ | apply b1_) | exact HB.out)) hb); clear HB; have HB := n0_; clear n0_; (try clear hb)) | (go_at_call 143; (with_reducible refine (impl_Small.calls a0 t267 _ A15.out).mono ?_); rintro e w17 ⟨rfl, hb⟩; have n0_ := Aside0.mk (below_step (by repeat (first | (with_reducible first | exact HB.out | apply ba_ | apply bn_ | apply b1_) | exact HB.out)) hb); clear HB; have HB := n0_; clear n0_; (try clear hb)))
     go_ret
     exact ⟨by first | rfl | (simp [errW_none, errW_some] <;> rfl) | (simp [*, errW_none, errW_some] <;> rfl), by repeat (first | (with_reducible first | exact HB.out | apply ba_ | apply bn_ | apply b1_) | exact HB.out)⟩
    ·replace c14 := Bool.eq_false_iff.mpr c14
     subst c14
     have H1 : (some false) = some r := by rw [if_neg (show ¬ (false = true) by decide)] at H; exact H
     clear H
     have H := H1
     clear H1
     obtain rfl := Option.some.inj H
     go_wp2_with (first | ((with_reducible refine gate_callee (f := 10) rfl ?_); refine goesL_ (some 25) rfl rfl Try.func10 (by kernel_rfl) rfl #[.string a0] rfl (by (try simp only [List.map_toArray, List.map_cons, List.map_nil]); first | done | rfl | (simp only [List.length_drop, List.length_take]; rfl)) ?_; (with_reducible refine (impl_CleanOk.calls k1 a0 false _ A13.out).mono ?_); rintro e w18 ⟨rfl, hb⟩; refine ⟨_, rfl, ?_⟩; have n0_ := Aside0.mk (below_step (by repeat (first | (with_reducible first | exact HB.out | apply ba_ | apply bn_ | apply b1_) | exact HB.out)) hb); clear HB; have HB := n0_; clear n0_; (try clear hb)))
     go_ret
     exact ⟨by first | rfl | (simp [errW_none, errW_some] <;> rfl) | (simp [*, errW_none, errW_some] <;> rfl), by repeat (first | (with_reducible first | exact HB.out | apply ba_ | apply bn_ | apply b1_) | exact HB.out)⟩
def impl_tagNameOk.f (k : Nat) (a0 : ByteArray) : Option (Bool) := (impl_isLetterAt.f a0 0).bind fun t270 => (if t270 = true then ((impl_hasNone.f k a0 (⟨#[47, 62]⟩ : ByteArray)).bind fun t271 => (some t271)) else (some false))
theorem impl_tagNameOk.mono : ∀ a0 k, LeO (impl_tagNameOk.f k a0) (impl_tagNameOk.f (k + 1) a0) := by
 intro a0 k
 unfold impl_tagNameOk.f
 repeat' first
   | (with_reducible exact impl_hasNone.mono _ _ _)
   | (with_reducible exact LeO.refl _)
   | (with_reducible exact LeO.none _)
   | (with_reducible refine LeO.ite ?_ ?_)
   | (with_reducible refine LeO.bind ?_ (fun _ => ?_))
set_option maxHeartbeats 8000000 in
set_option maxRecDepth 100000 in
theorem impl_tagNameOk.calls (k : Nat) (a0 : ByteArray) (r : Bool) (w : World) (h : impl_tagNameOk.f k a0 = some r) :
  Calls Try.prog 126 #[.string a0] w fun e w' => e = .returned (.bool r) ∧ Below w.heap.size w w' := by
 have HB := Aside0.mk (Below.refl w.heap.size w)
 have H : ((impl_isLetterAt.f a0 0).bind fun t270 => (if t270 = true then ((impl_hasNone.f k a0 (⟨#[47, 62]⟩ : ByteArray)).bind fun t271 => (some t271)) else (some false))) = some r := h
 clear h
 replace H := Option.bind_eq_some_iff.mp H
 obtain ⟨t270, A20, H⟩ := H
 replace H : (if t270 = true then ((impl_hasNone.f k a0 (⟨#[47, 62]⟩ : ByteArray)).bind fun t271 => (some t271)) else (some false)) = some r := H
 have A2 := Aside0.mk A20
 clear A20
 by_cases c3 : t270 = true
 ·subst c3
  have H1 : ((impl_hasNone.f k a0 (⟨#[47, 62]⟩ : ByteArray)).bind fun t271 => (some t271)) = some r := by rw [if_pos rfl] at H; exact H
  clear H
  have H := H1
  clear H1
  replace H := Option.bind_eq_some_iff.mp H
  obtain ⟨t271, A40, H⟩ := H
  replace H : (some t271) = some r := H
  have A4 := Aside0.mk A40
  clear A40
  obtain rfl := Option.some.inj H
  go_enter Try.func126, Try.ntmps126
  go_wp2_with (first | ((with_reducible refine gate_callee (f := 140) rfl ?_); refine goesL_ (some 4) rfl rfl Try.func140 (by kernel_rfl) rfl #[.string a0, .int .i64 0] rfl (by (try simp only [List.map_toArray, List.map_cons, List.map_nil]); first | done | rfl | (simp only [List.length_drop, List.length_take]; rfl)) ?_; (with_reducible refine (impl_isLetterAt.calls a0 0 true _ A2.out).mono ?_); rintro e w' ⟨rfl, ⟨nd, rfl⟩⟩; refine ⟨_, rfl, ?_⟩) | (go_at_call 141; (with_reducible refine (impl_hasNone.calls k a0 (⟨#[47, 62]⟩ : ByteArray) t271 _ A4.out).mono ?_); rintro e w5 ⟨rfl, hb⟩; have n0_ := Aside0.mk (below_step (by repeat (first | (with_reducible first | exact HB.out | apply ba_ | apply bn_ | apply b1_) | exact HB.out)) hb); clear HB; have HB := n0_; clear n0_; (try clear hb)))
  go_ret
  exact ⟨by first | rfl | (simp [errW_none, errW_some] <;> rfl) | (simp [*, errW_none, errW_some] <;> rfl), by repeat (first | (with_reducible first | exact HB.out | apply ba_ | apply bn_ | apply b1_) | exact HB.out)⟩
 ·replace c3 := Bool.eq_false_iff.mpr c3
  subst c3
  have H1 : (some false) = some r := by rw [if_neg (show ¬ (false = true) by decide)] at H; exact H
  clear H
  have H := H1
  clear H1
  obtain rfl := Option.some.inj H
  go_enter Try.func126, Try.ntmps126
  go_wp2_with (first | ((with_reducible refine gate_callee (f := 140) rfl ?_); refine goesL_ (some 4) rfl rfl Try.func140 (by kernel_rfl) rfl #[.string a0, .int .i64 0] rfl (by (try simp only [List.map_toArray, List.map_cons, List.map_nil]); first | done | rfl | (simp only [List.length_drop, List.length_take]; rfl)) ?_; (with_reducible refine (impl_isLetterAt.calls a0 0 false _ A2.out).mono ?_); rintro e w' ⟨rfl, ⟨nd, rfl⟩⟩; refine ⟨_, rfl, ?_⟩))
  go_ret
  exact ⟨by first | rfl | (simp [errW_none, errW_some] <;> rfl) | (simp [*, errW_none, errW_some] <;> rfl), by repeat (first | (with_reducible first | exact HB.out | apply ba_ | apply bn_ | apply b1_) | exact HB.out)⟩
def impl_hasAttr.f (l0 : List (S117)) (a1 : ByteArray) : Option (Bool) := if l0.length ≤ 4611686018427387903 then some (l0.any fun x => x.f0.toList == a1.toList) else none
theorem impl_hasAttr.pred (B : Nat) (s t u : ByteArray) (w : World) (hlt : B < w.heap.size) (hB : w.cell? ⟨B, 0, none⟩ = some (.string u)) :
  Calls Try.prog 150 #[.agg #[.string s, .string t], .pointer (some ⟨B, 0, none⟩)] w fun e w' => e = .returned (.bool (s.toList == u.toList)) ∧ Below w.heap.size w w' := by
 have hne : B ≠ w.heap.size := by omega
 have HB := Aside0.mk ((Below.refl w.heap.size w).alloc (Nat.le_refl _) (.cells #[.string s, .string t] 117))
 go_enter Try.func150, Try.ntmps150
 go_wp2
 all_goals (go_ret; exact ⟨by first | rfl | simp_all, HB.out⟩)
theorem impl_hasAttr.any_next (l : List (S117)) (k : Nat) (p : S117 → Bool) (h : k < l.length) : (l.take (k + 1)).any p = ((l.take k).any p || p (rd_T117 l k)) := by
 rw [List.take_succ_eq_append_getElem h, List.any_append]
 simp [rd_T117, List.getD_eq_getElem?_getD, List.getElem?_eq_getElem h]
theorem impl_hasAttr.any_more (l : List (S117)) (k : Nat) (p : S117 → Bool) (h : (l.take k).any p = true) : l.any p = true := by
 rw [← List.take_append_drop k l, List.any_append, h, Bool.true_or]
set_option maxHeartbeats 2000000 in
set_option maxRecDepth 100000 in
theorem impl_hasAttr.index (B : Nat) (A0 : Option Addr) (c0 : Nat) (l0 : List (S117)) (u : ByteArray) (w : World) (hr0 : Kd.C k117 w A0 l0.length l0) (hlen : l0.length ≤ 4611686018427387903) (hlt : B < w.heap.size) (hB : w.cell? ⟨B, 0, none⟩ = some (.string u)) :
  Calls Try.prog 156 #[.slice A0 l0.length c0, .func (.func 150) #[] #[.pointer (some ⟨B, 0, none⟩)]] w fun e w' => ∃ i : Int, e = .returned (.int .i64 i) ∧ decide (0 ≤ i) = (l0.any fun x => x.f0.toList == u.toList) ∧ Below w.heap.size w w' := by
 have HR := Aside0.mk hr0
 have HL := Aside0.mk hlen
 have HLT := Aside0.mk hlt
 have HBC := Aside0.mk hB
 have HB := Aside0.mk (Below.refl w.heap.size w)
 clear hr0 hlen hlt hB
 go_enter Try.func156, Try.ntmps156
 go_wp2
 go_loopg [5, 8] l0.length (fun gg v5 v8 w' => ∃ kk : Nat, v8 = .int .i64 (kk : Int) ∧ Aside0 (kk + gg = l0.length) ∧ Aside0 ((l0.take kk).any (fun x => x.f0.toList == u.toList) = false) ∧ Aside0 (Below w.heap.size w w'))
 case atStart => exact ⟨0, rfl, ⟨by omega⟩, ⟨by simp⟩, HB⟩
 case round =>
  clear HB
  obtain ⟨kk, rfl, HG, HN, HB⟩ := hrel
  by_cases hlt : kk < l0.length
  ·have hltz : (kk : Int) < (l0.length : Int) := by omega
   have c1 : decide ((kk : Int) < (l0.length : Int)) = true := decide_eq_true hltz
   have HLTK := Aside0.mk hlt
   have hRw := Kd.C_below HR.out HB.out
   have p163 : 0 ≤ (kk : Int) := by omega
   obtain ⟨ad163, e163, hx163_0, hx163_1⟩ := at_T117 hRw (kk : Int) p163 hltz
   cases e163
   simp only [Int.toNat_natCast] at hx163_0 hx163_1
   clear hRw hlt
   have HX := Aside0.mk (impl_hasAttr.any_next l0 kk (fun x => x.f0.toList == u.toList) HLTK.out)
   generalize rd_T117 l0 (kk : Int) = x at *
   have HBW := Aside0.mk ((HB.out.cell (p := ⟨B, 0, none⟩) HLT.out).trans HBC.out)
   have HLW := Aside0.mk (Nat.lt_of_lt_of_le HLT.out HB.out.size)
   replace p163 := eq_true p163
   replace hltz := eq_true hltz
   cases hq : (x.f0.toList == u.toList) with
   | true =>
    have HP := Aside0.mk (impl_hasAttr.pred B x.f0 x.f1 u wr HLW.out HBW.out)
    rw [hq] at HP
    go_wp2_with (go_at_call 150; refine HP.out.mono ?_; rintro e w' ⟨rfl, hb⟩; have HB2 := Aside0.mk (below_step HB.out hb); clear hb)
    go_ret
    exact ⟨_, rfl, by rw [impl_hasAttr.any_more l0 (kk + 1) _ (by rw [HX.out]; simp [hq])]; exact decide_eq_true (by omega), HB2.out⟩
   | false =>
    have HP := Aside0.mk (impl_hasAttr.pred B x.f0 x.f1 u wr HLW.out HBW.out)
    rw [hq] at HP
    go_wp2_with (go_at_call 150; refine HP.out.mono ?_; rintro e w' ⟨rfl, hb⟩; have HB2 := Aside0.mk (below_step HB.out hb); clear hb)
    go_roundg (gk - 1)
    case measure => have := HG.out; have := HLTK.out; omega
    case rel => exact ⟨kk + 1, by have := HL.out; have := HLTK.out; rw [show wrap64 ((kk : Int) + 1) = ((kk + 1 : Nat) : Int) by unfold wrap64; omega], ⟨by have := HG.out; have := HLTK.out; omega⟩, ⟨by rw [HX.out, HN.out, hq]; rfl⟩, HB2⟩
  ·have hltz : ¬ (kk : Int) < (l0.length : Int) := by omega
   have c1 : decide ((kk : Int) < (l0.length : Int)) = false := decide_eq_false hltz
   have HE := Aside0.mk (show kk = l0.length by have := HG.out; omega)
   clear hlt
   go_wp2
   go_ret
   exact ⟨_, rfl, by have h := HN.out; rw [HE.out, List.take_length] at h; rw [h]; rfl, HB.out⟩
set_option maxHeartbeats 2000000 in
set_option maxRecDepth 100000 in
theorem impl_hasAttr.has (B : Nat) (A0 : Option Addr) (c0 : Nat) (l0 : List (S117)) (u : ByteArray) (w : World) (hr0 : Kd.C k117 w A0 l0.length l0) (hlen : l0.length ≤ 4611686018427387903) (hlt : B < w.heap.size) (hB : w.cell? ⟨B, 0, none⟩ = some (.string u)) :
  Calls Try.prog 149 #[.slice A0 l0.length c0, .func (.func 150) #[] #[.pointer (some ⟨B, 0, none⟩)]] w fun e w' => e = .returned (.bool (l0.any fun x => x.f0.toList == u.toList)) ∧ Below w.heap.size w w' := by
 have HI := Aside0.mk (impl_hasAttr.index B A0 c0 l0 u w hr0 hlen hlt hB)
 clear hr0 hlen hlt hB
 go_enter Try.func149, Try.ntmps149
 go_wp2_with (go_at_call 156; refine HI.out.mono ?_; rintro e w' ⟨i, rfl, hi, hb⟩; have HX := Aside0.mk hi; have HB2 := Aside0.mk hb; clear hi hb)
 go_ret
 exact ⟨by rw [← HX.out]; first | rfl | (simp; done), HB2.out⟩
set_option maxHeartbeats 2000000 in
set_option maxRecDepth 100000 in
theorem impl_hasAttr.calls (A0 : Option Addr) (c0 : Nat) (l0 : List (S117)) (a1 : ByteArray) (r : Bool) (w : World) (hr0 : Kd.C k117 w A0 l0.length l0) (hc0 : l0.length ≤ c0) (h : impl_hasAttr.f l0 a1 = some r) :
  Calls Try.prog 142 #[.slice A0 l0.length c0, .string a1] w fun e w' => e = .returned (.bool r) ∧ Below w.heap.size w w' := by
 unfold impl_hasAttr.f at h
 by_cases hlen : l0.length ≤ 4611686018427387903
 ·rw [if_pos hlen] at h
  obtain rfl := Option.some.inj h
  have HI := Aside0.mk (impl_hasAttr.has w.heap.size A0 c0 l0 a1 (w.alloc (.cells #[.string a1] 9)) (ca_ hr0 _) hlen (by simp) (by simp))
  have HB := Aside0.mk ((Below.refl w.heap.size w).alloc (Nat.le_refl _) (.cells #[.string a1] 9))
  have hmf : ∀ (fn : Fn) (first cap : Array Value) (w : World), (Instr.makeFunc fn first cap).run Try.prog w = .ok (.func fn first cap) w := fun _ _ _ _ => rfl
  clear h hr0 hc0 hlen
  go_enter Try.func142, Try.ntmps142
  go_wp2_with (go_at_call 149; refine HI.out.mono ?_; rintro e w' ⟨rfl, hb⟩; have HB2 := Aside0.mk (below_step HB.out hb); clear hb)
  go_ret
  exact ⟨rfl, HB2.out⟩
 ·rw [if_neg hlen] at h
  exact absurd h (by simp)
end Go.Proofs.Yteafgjebaedjbaa.PFnExactTokensOk
