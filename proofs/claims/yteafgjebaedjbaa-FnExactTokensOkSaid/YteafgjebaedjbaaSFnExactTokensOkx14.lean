-- Written by this session's program wip/slim.py out of the print's texts. Lean checks it.
import Derived.Test.YteafgjebaedjbaaSFnExactTokensOkx0
import Derived.Test.YteafgjebaedjbaaSFnExactTokensOkx10
import Derived.Test.YteafgjebaedjbaaSFnExactTokensOkx11
namespace Go.Proofs.Yteafgjebaedjbaa.PFnExactTokensOk
open Go.RowKit Go.Proofs.YteafgjebaedjbaaW.PrintWords Go.Proofs.YteafgjebaedjbaaW.PrintLast Go.Proofs.YteafgjebaedjbaaW.PrintMore
attribute [local go_sem] max2_int min2_int max_two min_two max_three min_three max_four min_four
set_option linter.unusedVariables false
set_option linter.unusedSimpArgs false
def impl_isOneOf.f (a0 : ByteArray) (a1 : ByteArray) : Option (Bool) := if a0.toList = ([] : List UInt8) then (some false) else ((strings_Contains.f a0 (⟨#[32]⟩ : ByteArray)).bind fun t298 => (if t298 = true then (some false) else (if 1 + a1.size ≤ 9223372036854775807 then (if 1 + a1.size + 1 ≤ 9223372036854775807 then (if 1 + a0.size ≤ 9223372036854775807 then (if 1 + a0.size + 1 ≤ 9223372036854775807 then ((strings_Contains.f (((⟨#[32]⟩ : ByteArray) ++ a1) ++ (⟨#[32]⟩ : ByteArray)) (((⟨#[32]⟩ : ByteArray) ++ a0) ++ (⟨#[32]⟩ : ByteArray))).bind fun t299 => (some t299)) else (none)) else (none)) else (none)) else (none))))
set_option maxHeartbeats 8000000 in
set_option maxRecDepth 100000 in
theorem impl_isOneOf.calls (a0 : ByteArray) (a1 : ByteArray) (r : Bool) (w : World) (hG : MaxSeen w) (h : impl_isOneOf.f a0 a1 = some r) :
  Calls Try.prog 64 #[.string a0, .string a1] w fun e w' => e = .returned (.bool r) ∧ Below w.heap.size w w' := by
 have HB := Aside0.mk (Below.refl w.heap.size w)
 have HG := Aside0.mk hG
 clear hG
 have H : (if a0.toList = ([] : List UInt8) then (some false) else ((strings_Contains.f a0 (⟨#[32]⟩ : ByteArray)).bind fun t298 => (if t298 = true then (some false) else (if 1 + a1.size ≤ 9223372036854775807 then (if 1 + a1.size + 1 ≤ 9223372036854775807 then (if 1 + a0.size ≤ 9223372036854775807 then (if 1 + a0.size + 1 ≤ 9223372036854775807 then ((strings_Contains.f (((⟨#[32]⟩ : ByteArray) ++ a1) ++ (⟨#[32]⟩ : ByteArray)) (((⟨#[32]⟩ : ByteArray) ++ a0) ++ (⟨#[32]⟩ : ByteArray))).bind fun t299 => (some t299)) else (none)) else (none)) else (none)) else (none))))) = some r := h
 clear h
 by_cases c3 : a0.toList = ([] : List UInt8)
 ·rw [if_pos c3] at H
  have c3b0 : (a0.toList == ([] : List UInt8)) = true := beq_iff_eq.mpr c3
  have c3b1 : (a0.toList != ([] : List UInt8)) = false := bne_eq_false_iff_eq.mpr c3
  clear c3
  obtain rfl := Option.some.inj H
  go_enter Try.func64, Try.ntmps64
  go_wp2
  go_ret
  exact ⟨by first | rfl | (simp [errW_none, errW_some] <;> rfl) | (simp [*, errW_none, errW_some] <;> rfl), by repeat (first | (with_reducible first | exact HB.out | apply ba_ | apply bn_ | apply b1_) | exact HB.out)⟩
 ·rw [if_neg c3] at H
  have c3b0 : (a0.toList == ([] : List UInt8)) = false := beq_eq_false_iff_ne.mpr c3
  have c3b1 : (a0.toList != ([] : List UInt8)) = true := bne_iff_ne.mpr c3
  replace H := Option.bind_eq_some_iff.mp H
  obtain ⟨t298, A40, H⟩ := H
  replace H : (if t298 = true then (some false) else (if 1 + a1.size ≤ 9223372036854775807 then (if 1 + a1.size + 1 ≤ 9223372036854775807 then (if 1 + a0.size ≤ 9223372036854775807 then (if 1 + a0.size + 1 ≤ 9223372036854775807 then ((strings_Contains.f (((⟨#[32]⟩ : ByteArray) ++ a1) ++ (⟨#[32]⟩ : ByteArray)) (((⟨#[32]⟩ : ByteArray) ++ a0) ++ (⟨#[32]⟩ : ByteArray))).bind fun t299 => (some t299)) else (none)) else (none)) else (none)) else (none))) = some r := H
  have A4 := Aside0.mk A40
  clear A40
  by_cases c5 : t298 = true
  ·subst c5
   have H1 : (some false) = some r := by rw [if_pos rfl] at H; exact H
   clear H
   have H := H1
   clear H1
   obtain rfl := Option.some.inj H
   go_enter Try.func64, Try.ntmps64
   go_wp2_with (first | (go_at_call 99; (with_reducible refine (strings_Contains.calls a0 (⟨#[32]⟩ : ByteArray) true _ ?side1 A4.out).mono ?_); (case side1 => exact MaxSeen.below HG.out (by repeat (first | (with_reducible first | exact HB.out | apply ba_ | apply bn_ | apply b1_) | exact HB.out))); rintro e w6 ⟨rfl, hb⟩; have n0_ := Aside0.mk (below_step (by repeat (first | (with_reducible first | exact HB.out | apply ba_ | apply bn_ | apply b1_) | exact HB.out)) hb); clear HB; have HB := n0_; clear n0_; (try clear hb)))
   go_ret
   exact ⟨by first | rfl | (simp [errW_none, errW_some] <;> rfl) | (simp [*, errW_none, errW_some] <;> rfl), by repeat (first | (with_reducible first | exact HB.out | apply ba_ | apply bn_ | apply b1_) | exact HB.out)⟩
  ·replace c5 := Bool.eq_false_iff.mpr c5
   subst c5
   have H1 : (if 1 + a1.size ≤ 9223372036854775807 then (if 1 + a1.size + 1 ≤ 9223372036854775807 then (if 1 + a0.size ≤ 9223372036854775807 then (if 1 + a0.size + 1 ≤ 9223372036854775807 then ((strings_Contains.f (((⟨#[32]⟩ : ByteArray) ++ a1) ++ (⟨#[32]⟩ : ByteArray)) (((⟨#[32]⟩ : ByteArray) ++ a0) ++ (⟨#[32]⟩ : ByteArray))).bind fun t299 => (some t299)) else (none)) else (none)) else (none)) else (none)) = some r := by rw [if_neg (show ¬ (false = true) by decide)] at H; exact H
   clear H
   have H := H1
   clear H1
   by_cases c7 : 1 + a1.size ≤ 9223372036854775807
   ·rw [if_pos c7] at H
    have c7b0 := eq_true c7
    have c7b1 : decide (1 + a1.size ≤ 9223372036854775807) = true := decide_eq_true c7
    try have c7b2 : (9223372036854775807 < 1 + a1.size) = False := eq_false (Nat.not_lt.2 c7)
    by_cases c8 : 1 + a1.size + 1 ≤ 9223372036854775807
    ·rw [if_pos c8] at H
     have c8b0 := eq_true c8
     have c8b1 : decide (1 + a1.size + 1 ≤ 9223372036854775807) = true := decide_eq_true c8
     try have c8b2 : (9223372036854775807 < 1 + a1.size + 1) = False := eq_false (Nat.not_lt.2 c8)
     by_cases c9 : 1 + a0.size ≤ 9223372036854775807
     ·rw [if_pos c9] at H
      have c9b0 := eq_true c9
      have c9b1 : decide (1 + a0.size ≤ 9223372036854775807) = true := decide_eq_true c9
      try have c9b2 : (9223372036854775807 < 1 + a0.size) = False := eq_false (Nat.not_lt.2 c9)
      by_cases c10 : 1 + a0.size + 1 ≤ 9223372036854775807
      ·rw [if_pos c10] at H
       have c10b0 := eq_true c10
       have c10b1 : decide (1 + a0.size + 1 ≤ 9223372036854775807) = true := decide_eq_true c10
       try have c10b2 : (9223372036854775807 < 1 + a0.size + 1) = False := eq_false (Nat.not_lt.2 c10)
       replace H := Option.bind_eq_some_iff.mp H
       obtain ⟨t299, A110, H⟩ := H
       replace H : (some t299) = some r := H
       have A11 := Aside0.mk A110
       clear A110
       obtain rfl := Option.some.inj H
       go_enter Try.func64, Try.ntmps64
       go_wp2_with (first | (go_at_call 99; (with_reducible refine (strings_Contains.calls a0 (⟨#[32]⟩ : ByteArray) false _ ?side1 A4.out).mono ?_); (case side1 => exact MaxSeen.below HG.out (by repeat (first | (with_reducible first | exact HB.out | apply ba_ | apply bn_ | apply b1_) | exact HB.out))); rintro e w12 ⟨rfl, hb⟩; have n0_ := Aside0.mk (below_step (by repeat (first | (with_reducible first | exact HB.out | apply ba_ | apply bn_ | apply b1_) | exact HB.out)) hb); clear HB; have HB := n0_; clear n0_; (try clear hb)) | ((with_reducible refine gate_callee (f := 99) rfl ?_); refine goesL_ (some 17) rfl rfl Try.func99 (by kernel_rfl) rfl #[.string (((⟨#[32]⟩ : ByteArray) ++ a1) ++ (⟨#[32]⟩ : ByteArray)), .string (((⟨#[32]⟩ : ByteArray) ++ a0) ++ (⟨#[32]⟩ : ByteArray))] rfl (by (try simp only [List.map_toArray, List.map_cons, List.map_nil]); first | done | rfl | (simp only [List.length_drop, List.length_take]; rfl)) ?_; (with_reducible refine (strings_Contains.calls (((⟨#[32]⟩ : ByteArray) ++ a1) ++ (⟨#[32]⟩ : ByteArray)) (((⟨#[32]⟩ : ByteArray) ++ a0) ++ (⟨#[32]⟩ : ByteArray)) t299 _ ?side1 A11.out).mono ?_); (case side1 => exact MaxSeen.below HG.out (by repeat (first | (with_reducible first | exact HB.out | apply ba_ | apply bn_ | apply b1_) | exact HB.out))); rintro e w13 ⟨rfl, hb⟩; refine ⟨_, rfl, ?_⟩; have n0_ := Aside0.mk (below_step (by repeat (first | (with_reducible first | exact HB.out | apply ba_ | apply bn_ | apply b1_) | exact HB.out)) hb); clear HB; have HB := n0_; clear n0_; (try clear hb)))
       go_ret
       exact ⟨by first | rfl | (simp [errW_none, errW_some] <;> rfl) | (simp [*, errW_none, errW_some] <;> rfl), by repeat (first | (with_reducible first | exact HB.out | apply ba_ | apply bn_ | apply b1_) | exact HB.out)⟩
      ·rw [if_neg c10] at H
       exact absurd H (by simp)
     ·rw [if_neg c9] at H
      exact absurd H (by simp)
    ·rw [if_neg c8] at H
     exact absurd H (by simp)
   ·rw [if_neg c7] at H
    exact absurd H (by simp)
def impl_Raw.f (a0 : ByteArray) : Option (Bool) := (impl_isOneOf.f a0 (⟨#[115, 99, 114, 105, 112, 116, 32, 115, 116, 121, 108, 101, 32, 116, 105, 116, 108, 101, 32, 116, 101, 120, 116, 97, 114, 101, 97]⟩ : ByteArray)).bind fun t300 => (some t300)
set_option maxHeartbeats 8000000 in
set_option maxRecDepth 100000 in
theorem impl_Raw.calls (a0 : ByteArray) (r : Bool) (w : World) (hG : MaxSeen w) (h : impl_Raw.f a0 = some r) :
  Calls Try.prog 95 #[.string a0] w fun e w' => e = .returned (.bool r) ∧ Below w.heap.size w w' := by
 have HB := Aside0.mk (Below.refl w.heap.size w)
 have HG := Aside0.mk hG
 clear hG
 have H : ((impl_isOneOf.f a0 (⟨#[115, 99, 114, 105, 112, 116, 32, 115, 116, 121, 108, 101, 32, 116, 105, 116, 108, 101, 32, 116, 101, 120, 116, 97, 114, 101, 97]⟩ : ByteArray)).bind fun t300 => (some t300)) = some r := h
 clear h
 replace H := Option.bind_eq_some_iff.mp H
 obtain ⟨t300, A20, H⟩ := H
 replace H : (some t300) = some r := H
 have A2 := Aside0.mk A20
 clear A20
 obtain rfl := Option.some.inj H
 go_enter Try.func95, Try.ntmps95
 go_wp2_with (first | ((with_reducible refine gate_callee (f := 64) rfl ?_); refine goesL_ (some 4) rfl rfl Try.func64 (by kernel_rfl) rfl #[.string a0, .string (⟨#[115, 99, 114, 105, 112, 116, 32, 115, 116, 121, 108, 101, 32, 116, 105, 116, 108, 101, 32, 116, 101, 120, 116, 97, 114, 101, 97]⟩ : ByteArray)] rfl (by (try simp only [List.map_toArray, List.map_cons, List.map_nil]); first | done | rfl | (simp only [List.length_drop, List.length_take]; rfl)) ?_; (with_reducible refine (impl_isOneOf.calls a0 (⟨#[115, 99, 114, 105, 112, 116, 32, 115, 116, 121, 108, 101, 32, 116, 105, 116, 108, 101, 32, 116, 101, 120, 116, 97, 114, 101, 97]⟩ : ByteArray) t300 _ ?side1 A2.out).mono ?_); (case side1 => exact MaxSeen.below HG.out (by repeat (first | (with_reducible first | exact HB.out | apply ba_ | apply bn_ | apply b1_) | exact HB.out))); rintro e w3 ⟨rfl, hb⟩; refine ⟨_, rfl, ?_⟩; have n0_ := Aside0.mk (below_step (by repeat (first | (with_reducible first | exact HB.out | apply ba_ | apply bn_ | apply b1_) | exact HB.out)) hb); clear HB; have HB := n0_; clear n0_; (try clear hb)))
 go_ret
 exact ⟨by first | rfl | (simp [errW_none, errW_some] <;> rfl) | (simp [*, errW_none, errW_some] <;> rfl), by repeat (first | (with_reducible first | exact HB.out | apply ba_ | apply bn_ | apply b1_) | exact HB.out)⟩
def impl_isPlainRaw.f (a0 : ByteArray) : Option (Bool) := if a0.toList = ([115, 99, 114, 105, 112, 116] : List UInt8) then (some true) else (some (a0.toList == ([115, 116, 121, 108, 101] : List UInt8)))
set_option maxHeartbeats 8000000 in
set_option maxRecDepth 100000 in
theorem impl_isPlainRaw.calls (a0 : ByteArray) (r : Bool) (w : World) (h : impl_isPlainRaw.f a0 = some r) :
  Calls Try.prog 130 #[.string a0] w fun e w' => e = .returned (.bool r) ∧ Drawn0 w w' := by
 have H : (if a0.toList = ([115, 99, 114, 105, 112, 116] : List UInt8) then (some true) else (some (a0.toList == ([115, 116, 121, 108, 101] : List UInt8)))) = some r := h
 clear h
 by_cases c2 : a0.toList = ([115, 99, 114, 105, 112, 116] : List UInt8)
 ·rw [if_pos c2] at H
  have c2b0 : (a0.toList == ([115, 99, 114, 105, 112, 116] : List UInt8)) = true := beq_iff_eq.mpr c2
  have c2b1 : (a0.toList != ([115, 99, 114, 105, 112, 116] : List UInt8)) = false := bne_eq_false_iff_eq.mpr c2
  clear c2
  obtain rfl := Option.some.inj H
  go_enter Try.func130, Try.ntmps130
  go_wp2
  go_ret
  exact ⟨by first | rfl | (simp; done) | (simp [*]; done), by repeat (first | exact Drawn0.refl _ | apply Drawn0.step)⟩
 ·rw [if_neg c2] at H
  have c2b0 : (a0.toList == ([115, 99, 114, 105, 112, 116] : List UInt8)) = false := beq_eq_false_iff_ne.mpr c2
  have c2b1 : (a0.toList != ([115, 99, 114, 105, 112, 116] : List UInt8)) = true := bne_iff_ne.mpr c2
  obtain rfl := Option.some.inj H
  go_enter Try.func130, Try.ntmps130
  go_wp2
  go_ret
  exact ⟨by first | rfl | (simp; done) | (simp [*]; done), by repeat (first | exact Drawn0.refl _ | apply Drawn0.step)⟩
def impl_RawEnd.l0 : Nat → ByteArray → ByteArray → Int → Option (Int)
 | 0, _, _, _ => none
 | k + 1, x0, x7, x8 => if (wrap64 (x8 + (x7.size : Int))) < (x0.size : Int) then (if 0 ≤ (wrap64 (x8 + (x7.size : Int))) then (if 0 ≤ x8 then (if x8 < (x0.size : Int) then (if (bt x0 x8) = 60 then (if x8 ≤ (wrap64 (x8 + (x7.size : Int))) then (if (wrap64 (x8 + (x7.size : Int))) ≤ (x0.size : Int) then ((impl_Small.f (x0.extract (x8 : Int).toNat ((wrap64 (x8 + (x7.size : Int))) : Int).toNat)).bind fun t302 => (if t302.toList = x7.toList then ((impl_isBlankByte.f (bt x0 (wrap64 (x8 + (x7.size : Int))))).bind fun t303 => (if t303 = true then (some x8) else (if (bt x0 (wrap64 (x8 + (x7.size : Int)))) = 47 then (some x8) else (if (bt x0 (wrap64 (x8 + (x7.size : Int)))) = 62 then (some x8) else (impl_RawEnd.l0 k x0 x7 (wrap64 (x8 + 1))))))) else (impl_RawEnd.l0 k x0 x7 (wrap64 (x8 + 1))))) else (none)) else (none)) else (impl_RawEnd.l0 k x0 x7 (wrap64 (x8 + 1)))) else (none)) else (none)) else (none)) else (some (x0.size : Int))
def impl_RawEnd.f (k : Nat) (a0 : ByteArray) (a1 : Int) (a2 : ByteArray) : Option (Int) := (impl_Small.f a2).bind fun t301 => (if 2 + t301.size ≤ 9223372036854775807 then (impl_RawEnd.l0 k a0 ((⟨#[60, 47]⟩ : ByteArray) ++ t301) (mx a1 0)) else (none))
theorem impl_RawEnd.mono_l : ∀ k, (∀ y0 y1 y2, LeO (impl_RawEnd.l0 k y0 y1 y2) (impl_RawEnd.l0 (k + 1) y0 y1 y2))
 | 0 => fun _ _ _ r h => by simp [impl_RawEnd.l0] at h
 | k + 1 => by
  have ih0 := impl_RawEnd.mono_l k
  ·intro y0 y1 y2
   unfold impl_RawEnd.l0
   repeat' first
   | (with_reducible exact ih0 _ _ _)
   | (with_reducible exact LeO.refl _)
   | (with_reducible exact LeO.none _)
   | (with_reducible refine LeO.ite ?_ ?_)
   | (with_reducible refine LeO.bind ?_ (fun _ => ?_))
theorem impl_RawEnd.mono : ∀ a0 a1 a2 k, LeO (impl_RawEnd.f k a0 a1 a2) (impl_RawEnd.f (k + 1) a0 a1 a2) := by
 intro a0 a1 a2 k
 have ih0 := impl_RawEnd.mono_l k
 unfold impl_RawEnd.f
 repeat' first
   | (with_reducible exact ih0 _ _ _)
   | (with_reducible exact LeO.refl _)
   | (with_reducible exact LeO.none _)
   | (with_reducible refine LeO.ite ?_ ?_)
   | (with_reducible refine LeO.bind ?_ (fun _ => ?_))
set_option maxHeartbeats 8000000 in
set_option maxRecDepth 100000 in
theorem impl_RawEnd.calls (k : Nat) (a0 : ByteArray) (a1 : Int) (a2 : ByteArray) (r : Int) (w : World) (h : impl_RawEnd.f k a0 a1 a2 = some r) :
  Calls Try.prog 131 #[.string a0, .int .i64 a1, .string a2] w fun e w' => e = .returned (.int .i64 r) ∧ Below w.heap.size w w' := by
 have HB := Aside0.mk (Below.refl w.heap.size w)
 have H : ((impl_Small.f a2).bind fun t301 => (if 2 + t301.size ≤ 9223372036854775807 then (impl_RawEnd.l0 k a0 ((⟨#[60, 47]⟩ : ByteArray) ++ t301) (mx a1 0)) else (none))) = some r := h
 clear h
 replace H := Option.bind_eq_some_iff.mp H
 obtain ⟨t301, A40, H⟩ := H
 replace H : (if 2 + t301.size ≤ 9223372036854775807 then (impl_RawEnd.l0 k a0 ((⟨#[60, 47]⟩ : ByteArray) ++ t301) (mx a1 0)) else (none)) = some r := H
 have A4 := Aside0.mk A40
 clear A40
 by_cases c5 : 2 + t301.size ≤ 9223372036854775807
 ·rw [if_pos c5] at H
  have c5b0 := eq_true c5
  have c5b1 : decide (2 + t301.size ≤ 9223372036854775807) = true := decide_eq_true c5
  try have c5b2 : (9223372036854775807 < 2 + t301.size) = False := eq_false (Nat.not_lt.2 c5)
  obtain ⟨ji6, hji6⟩ : ∃ j_ : Int, (mx a1 0) = j_ := ⟨_, rfl⟩
  replace H : (impl_RawEnd.l0 k a0 ((⟨#[60, 47]⟩ : ByteArray) ++ t301) ji6) = some r := by first | (rw [hji6] at H; exact H) | (simp only [hji6] at H ⊢; exact H)
  (try rw [hji6] at A4)
  (try (have hji6l : 0 ≤ ji6 := by (rw [← hji6]; unfold mx; (repeat' split) <;> omega)))
  (try (have hji6m : 0 ≤ ji6 := by omega))
  have hji6_ : (if a1 < 0 then 0 else a1) = ji6 := hji6
  have H' := Aside0.mk H
  clear H
  go_enter Try.func131, Try.ntmps131
  go_wp2_with (first | ((with_reducible refine gate_callee (f := 143) rfl ?_); refine goesL_ (some 11) rfl rfl Try.func143 (by kernel_rfl) rfl #[.string a2] rfl (by (try simp only [List.map_toArray, List.map_cons, List.map_nil]); first | done | rfl | (simp only [List.length_drop, List.length_take]; rfl)) ?_; (with_reducible refine (impl_Small.calls a2 t301 _ A4.out).mono ?_); rintro e w7 ⟨rfl, hb⟩; refine ⟨_, rfl, ?_⟩; have n0_ := Aside0.mk (below_step (by repeat (first | (with_reducible first | exact HB.out | apply ba_ | apply bn_ | apply b1_) | exact HB.out)) hb); clear HB; have HB := n0_; clear n0_; (try clear hb)))
  obtain ⟨bg, hbg⟩ : ∃ b_ : ByteArray, ((⟨#[60, 47]⟩ : ByteArray) ++ t301) = b_ := ⟨_, rfl⟩
  rw [hbg] at H' ⊢
  clear hbg
  go_loopg [8] k (fun kq v8 w' => ∃ (x8_1 : Int), v8 = .int .i64 x8_1 ∧ Aside0 (impl_RawEnd.l0 kq a0 bg x8_1 = some r) ∧ Aside0 (kq ≤ k) ∧ Aside0 (Below w.heap.size w w'))
  case atStart => exact ⟨(ji6), (by first | rfl | (simp; done) | (simp only [← hji6] <;> (first | rfl | simp)) | (simp [*]; done)), H', ⟨Nat.le_refl _⟩, ⟨by repeat (first | (with_reducible first | exact HB.out | apply ba_ | apply bn_ | apply b1_) | exact HB.out)⟩⟩
  case round =>
   (try subst hji6)
   clear H'
   try clear c5
   try clear c5b0
   try clear c5b1
   try clear c5b2
   obtain ⟨x8_1, rfl, HA, HK1, HB⟩ := hrel
   cases gk with
   | zero => exact absurd HA.out (by simp [impl_RawEnd.l0])
   | succ k1 =>
    have H := HA.out
    clear HA
    simp only [impl_RawEnd.l0] at H
    by_cases c8 : (wrap64 (x8_1 + (bg.size : Int))) < (a0.size : Int)
    ·rw [if_pos c8] at H
     have c8b0 : decide ((wrap64 (x8_1 + (bg.size : Int))) < (a0.size : Int)) = true := decide_eq_true c8
     clear c8
     obtain ⟨ji9, hji9⟩ : ∃ j_ : Int, (wrap64 (x8_1 + (bg.size : Int))) = j_ := ⟨_, rfl⟩
     replace H : (if 0 ≤ (ji9) then (if 0 ≤ x8_1 then (if x8_1 < (a0.size : Int) then (if (bt a0 x8_1) = 60 then (if x8_1 ≤ (ji9) then (if (ji9) ≤ (a0.size : Int) then ((impl_Small.f (a0.extract (x8_1 : Int).toNat ((ji9) : Int).toNat)).bind fun t302 => (if t302.toList = bg.toList then ((impl_isBlankByte.f (bt a0 (ji9))).bind fun t303 => (if t303 = true then (some x8_1) else (if (bt a0 (ji9)) = 47 then (some x8_1) else (if (bt a0 (ji9)) = 62 then (some x8_1) else (impl_RawEnd.l0 k1 a0 bg (wrap64 (x8_1 + 1))))))) else (impl_RawEnd.l0 k1 a0 bg (wrap64 (x8_1 + 1))))) else (none)) else (none)) else (impl_RawEnd.l0 k1 a0 bg (wrap64 (x8_1 + 1)))) else (none)) else (none)) else (none)) = some r := by first | (rw [hji9] at H; exact H) | (simp only [hji9] at H ⊢; exact H)
     (try rw [hji9] at c8b0)
     have hji9w : (IntKind.i64.wrap (x8_1 + (bg.size : Int))) = ji9 := (i64_w _).trans hji9
     by_cases c10 : 0 ≤ (ji9)
     ·rw [if_pos c10] at H
      have c10b0 : decide (0 ≤ (ji9)) = true := decide_eq_true c10
      clear c10
      by_cases c12 : 0 ≤ x8_1
      ·rw [if_pos c12] at H
       have c12b0 : decide (0 ≤ x8_1) = true := decide_eq_true c12
       clear c12
       by_cases c13 : x8_1 < (a0.size : Int)
       ·rw [if_pos c13] at H
        have c13b0 : decide (x8_1 < (a0.size : Int)) = true := decide_eq_true c13
        clear c13
        by_cases c15 : (bt a0 x8_1) = 60
        ·rw [if_pos c15] at H
         have c15b0 : ((bt a0 x8_1) == 60) = true := beq_iff_eq.mpr c15
         have c15b1 : ((bt a0 x8_1) != 60) = false := bne_eq_false_iff_eq.mpr c15
         clear c15
         have c16b0 := eq_true (dq_ (by assumption) : 0 ≤ x8_1)
         by_cases c17 : x8_1 ≤ (ji9)
         ·rw [if_pos c17] at H
          have c17b0 := eq_true c17
          have c17b1 : decide (x8_1 ≤ (ji9)) = true := decide_eq_true c17
          clear c17
          by_cases c18 : (ji9) ≤ (a0.size : Int)
          ·rw [if_pos c18] at H
           have c18b0 := eq_true c18
           have c18b1 : decide ((ji9) ≤ (a0.size : Int)) = true := decide_eq_true c18
           clear c18
           replace H := Option.bind_eq_some_iff.mp H
           obtain ⟨t302, A190, H⟩ := H
           replace H : (if t302.toList = bg.toList then ((impl_isBlankByte.f (bt a0 (ji9))).bind fun t303 => (if t303 = true then (some x8_1) else (if (bt a0 (ji9)) = 47 then (some x8_1) else (if (bt a0 (ji9)) = 62 then (some x8_1) else (impl_RawEnd.l0 k1 a0 bg (wrap64 (x8_1 + 1))))))) else (impl_RawEnd.l0 k1 a0 bg (wrap64 (x8_1 + 1)))) = some r := H
           have A19 := Aside0.mk A190
           clear A190
           by_cases c20 : t302.toList = bg.toList
           ·rw [if_pos c20] at H
            have c20b0 : (t302.toList == bg.toList) = true := beq_iff_eq.mpr c20
            have c20b1 : (t302.toList != bg.toList) = false := bne_eq_false_iff_eq.mpr c20
            clear c20
            replace H := Option.bind_eq_some_iff.mp H
            obtain ⟨t303, A210, H⟩ := H
            replace H : (if t303 = true then (some x8_1) else (if (bt a0 (ji9)) = 47 then (some x8_1) else (if (bt a0 (ji9)) = 62 then (some x8_1) else (impl_RawEnd.l0 k1 a0 bg (wrap64 (x8_1 + 1)))))) = some r := H
            have A21 := Aside0.mk A210
            clear A210
            by_cases c22 : t303 = true
            ·subst c22
             have H1 : (some x8_1) = some r := by rw [if_pos rfl] at H; exact H
             clear H
             have H := H1
             clear H1
             obtain rfl := Option.some.inj H
             have p11 : 0 ≤ ((ji9) : Int) := dq_ (by assumption)
             have q11 : (ji9) < (a0.size : Int) := dq_ (by assumption)
             have hx11 := bt_at a0 (ji9)
             replace p11 := eq_true p11
             replace q11 := eq_true q11
             have p14 : 0 ≤ (x8_1 : Int) := dq_ (by assumption)
             have q14 : x8_1 < (a0.size : Int) := dq_ (by assumption)
             have hx14 := bt_at a0 x8_1
             replace p14 := eq_true p14
             replace q14 := eq_true q14
             go_wp2_with (first | (go_at_call 143; (with_reducible refine (impl_Small.calls (a0.extract (x8_1 : Int).toNat ((ji9) : Int).toNat) t302 _ A19.out).mono ?_); rintro e w23 ⟨rfl, hb⟩; have n0_ := Aside0.mk (below_step (by repeat (first | (with_reducible first | exact HB.out | apply ba_ | apply bn_ | apply b1_) | exact HB.out)) hb); clear HB; have HB := n0_; clear n0_; (try clear hb)) | (go_at_call 144; (with_reducible refine (impl_isBlankByte.calls (bt a0 (ji9)) true _ A21.out).mono ?_); rintro e w' ⟨rfl, ⟨nd, rfl⟩⟩))
             go_ret
             exact ⟨by first | rfl | (simp [errW_none, errW_some] <;> rfl) | (simp only [← hji6, ← hji9]; first | rfl | (simp [errW_none, errW_some] <;> rfl)) | (simp [*, errW_none, errW_some] <;> rfl), by repeat (first | (with_reducible first | exact HB.out | apply ba_ | apply bn_ | apply b1_) | exact HB.out)⟩
            ·replace c22 := Bool.eq_false_iff.mpr c22
             subst c22
             have H1 : (if (bt a0 (ji9)) = 47 then (some x8_1) else (if (bt a0 (ji9)) = 62 then (some x8_1) else (impl_RawEnd.l0 k1 a0 bg (wrap64 (x8_1 + 1))))) = some r := by rw [if_neg (show ¬ (false = true) by decide)] at H; exact H
             clear H
             have H := H1
             clear H1
             by_cases c24 : (bt a0 (ji9)) = 47
             ·rw [if_pos c24] at H
              have c24b0 : ((bt a0 (ji9)) == 47) = true := beq_iff_eq.mpr c24
              have c24b1 : ((bt a0 (ji9)) != 47) = false := bne_eq_false_iff_eq.mpr c24
              clear c24
              obtain rfl := Option.some.inj H
              have p11 : 0 ≤ ((ji9) : Int) := dq_ (by assumption)
              have q11 : (ji9) < (a0.size : Int) := dq_ (by assumption)
              have hx11 := bt_at a0 (ji9)
              replace p11 := eq_true p11
              replace q11 := eq_true q11
              have p14 : 0 ≤ (x8_1 : Int) := dq_ (by assumption)
              have q14 : x8_1 < (a0.size : Int) := dq_ (by assumption)
              have hx14 := bt_at a0 x8_1
              replace p14 := eq_true p14
              replace q14 := eq_true q14
              go_wp2_with (first | (go_at_call 143; (with_reducible refine (impl_Small.calls (a0.extract (x8_1 : Int).toNat ((ji9) : Int).toNat) t302 _ A19.out).mono ?_); rintro e w25 ⟨rfl, hb⟩; have n0_ := Aside0.mk (below_step (by repeat (first | (with_reducible first | exact HB.out | apply ba_ | apply bn_ | apply b1_) | exact HB.out)) hb); clear HB; have HB := n0_; clear n0_; (try clear hb)) | (go_at_call 144; (with_reducible refine (impl_isBlankByte.calls (bt a0 (ji9)) false _ A21.out).mono ?_); rintro e w' ⟨rfl, ⟨nd, rfl⟩⟩))
              go_ret
              exact ⟨by first | rfl | (simp [errW_none, errW_some] <;> rfl) | (simp only [← hji6, ← hji9]; first | rfl | (simp [errW_none, errW_some] <;> rfl)) | (simp [*, errW_none, errW_some] <;> rfl), by repeat (first | (with_reducible first | exact HB.out | apply ba_ | apply bn_ | apply b1_) | exact HB.out)⟩
             ·rw [if_neg c24] at H
              have c24b0 : ((bt a0 (ji9)) == 47) = false := beq_eq_false_iff_ne.mpr c24
              have c24b1 : ((bt a0 (ji9)) != 47) = true := bne_iff_ne.mpr c24
              by_cases c26 : (bt a0 (ji9)) = 62
              ·rw [if_pos c26] at H
               have c26b0 : ((bt a0 (ji9)) == 62) = true := beq_iff_eq.mpr c26
               have c26b1 : ((bt a0 (ji9)) != 62) = false := bne_eq_false_iff_eq.mpr c26
               clear c26
               obtain rfl := Option.some.inj H
               have p11 : 0 ≤ ((ji9) : Int) := dq_ (by assumption)
               have q11 : (ji9) < (a0.size : Int) := dq_ (by assumption)
               have hx11 := bt_at a0 (ji9)
               replace p11 := eq_true p11
               replace q11 := eq_true q11
               have p14 : 0 ≤ (x8_1 : Int) := dq_ (by assumption)
               have q14 : x8_1 < (a0.size : Int) := dq_ (by assumption)
               have hx14 := bt_at a0 x8_1
               replace p14 := eq_true p14
               replace q14 := eq_true q14
               go_wp2_with (first | (go_at_call 143; (with_reducible refine (impl_Small.calls (a0.extract (x8_1 : Int).toNat ((ji9) : Int).toNat) t302 _ A19.out).mono ?_); rintro e w27 ⟨rfl, hb⟩; have n0_ := Aside0.mk (below_step (by repeat (first | (with_reducible first | exact HB.out | apply ba_ | apply bn_ | apply b1_) | exact HB.out)) hb); clear HB; have HB := n0_; clear n0_; (try clear hb)) | (go_at_call 144; (with_reducible refine (impl_isBlankByte.calls (bt a0 (ji9)) false _ A21.out).mono ?_); rintro e w' ⟨rfl, ⟨nd, rfl⟩⟩))
               go_ret
               exact ⟨by first | rfl | (simp [errW_none, errW_some] <;> rfl) | (simp only [← hji6, ← hji9]; first | rfl | (simp [errW_none, errW_some] <;> rfl)) | (simp [*, errW_none, errW_some] <;> rfl), by repeat (first | (with_reducible first | exact HB.out | apply ba_ | apply bn_ | apply b1_) | exact HB.out)⟩
              ·rw [if_neg c26] at H
               have c26b0 : ((bt a0 (ji9)) == 62) = false := beq_eq_false_iff_ne.mpr c26
               have c26b1 : ((bt a0 (ji9)) != 62) = true := bne_iff_ne.mpr c26
               have H' := Aside0.mk H
               clear H
               have p11 : 0 ≤ ((ji9) : Int) := dq_ (by assumption)
               have q11 : (ji9) < (a0.size : Int) := dq_ (by assumption)
               have hx11 := bt_at a0 (ji9)
               replace p11 := eq_true p11
               replace q11 := eq_true q11
               have p14 : 0 ≤ (x8_1 : Int) := dq_ (by assumption)
               have q14 : x8_1 < (a0.size : Int) := dq_ (by assumption)
               have hx14 := bt_at a0 x8_1
               replace p14 := eq_true p14
               replace q14 := eq_true q14
               go_wp2_with (first | (go_at_call 143; (with_reducible refine (impl_Small.calls (a0.extract (x8_1 : Int).toNat ((ji9) : Int).toNat) t302 _ A19.out).mono ?_); rintro e w28 ⟨rfl, hb⟩; have n0_ := Aside0.mk (below_step (by repeat (first | (with_reducible first | exact HB.out | apply ba_ | apply bn_ | apply b1_) | exact HB.out)) hb); clear HB; have HB := n0_; clear n0_; (try clear hb)) | (go_at_call 144; (with_reducible refine (impl_isBlankByte.calls (bt a0 (ji9)) false _ A21.out).mono ?_); rintro e w' ⟨rfl, ⟨nd, rfl⟩⟩))
               (try subst hji9)
               go_roundg k1
               case measure => have := HK1.out; omega
               case rel => exact ⟨(wrap64 (x8_1 + 1)), (by first | rfl | (simp; done) | (simp [*]; done)), H', ⟨by have := HK1.out; omega⟩, ⟨by repeat (first | (with_reducible first | exact HB.out | apply ba_ | apply bn_ | apply b1_) | exact HB.out)⟩⟩
           ·rw [if_neg c20] at H
            have c20b0 : (t302.toList == bg.toList) = false := beq_eq_false_iff_ne.mpr c20
            have c20b1 : (t302.toList != bg.toList) = true := bne_iff_ne.mpr c20
            have H' := Aside0.mk H
            clear H
            have p11 : 0 ≤ ((ji9) : Int) := dq_ (by assumption)
            have q11 : (ji9) < (a0.size : Int) := dq_ (by assumption)
            have hx11 := bt_at a0 (ji9)
            replace p11 := eq_true p11
            replace q11 := eq_true q11
            have p14 : 0 ≤ (x8_1 : Int) := dq_ (by assumption)
            have q14 : x8_1 < (a0.size : Int) := dq_ (by assumption)
            have hx14 := bt_at a0 x8_1
            replace p14 := eq_true p14
            replace q14 := eq_true q14
            go_wp2_with (first | (go_at_call 143; (with_reducible refine (impl_Small.calls (a0.extract (x8_1 : Int).toNat ((ji9) : Int).toNat) t302 _ A19.out).mono ?_); rintro e w29 ⟨rfl, hb⟩; have n0_ := Aside0.mk (below_step (by repeat (first | (with_reducible first | exact HB.out | apply ba_ | apply bn_ | apply b1_) | exact HB.out)) hb); clear HB; have HB := n0_; clear n0_; (try clear hb)))
            (try subst hji9)
            go_roundg k1
            case measure => have := HK1.out; omega
            case rel => exact ⟨(wrap64 (x8_1 + 1)), (by first | rfl | (simp; done) | (simp [*]; done)), H', ⟨by have := HK1.out; omega⟩, ⟨by repeat (first | (with_reducible first | exact HB.out | apply ba_ | apply bn_ | apply b1_) | exact HB.out)⟩⟩
          ·rw [if_neg c18] at H
           exact absurd H (by simp)
         ·rw [if_neg c17] at H
          exact absurd H (by simp)
        ·rw [if_neg c15] at H
         have c15b0 : ((bt a0 x8_1) == 60) = false := beq_eq_false_iff_ne.mpr c15
         have c15b1 : ((bt a0 x8_1) != 60) = true := bne_iff_ne.mpr c15
         have H' := Aside0.mk H
         clear H
         have p11 : 0 ≤ ((ji9) : Int) := dq_ (by assumption)
         have q11 : (ji9) < (a0.size : Int) := dq_ (by assumption)
         have hx11 := bt_at a0 (ji9)
         replace p11 := eq_true p11
         replace q11 := eq_true q11
         have p14 : 0 ≤ (x8_1 : Int) := dq_ (by assumption)
         have q14 : x8_1 < (a0.size : Int) := dq_ (by assumption)
         have hx14 := bt_at a0 x8_1
         replace p14 := eq_true p14
         replace q14 := eq_true q14
         go_wp2
         (try subst hji9)
         go_roundg k1
         case measure => have := HK1.out; omega
         case rel => exact ⟨(wrap64 (x8_1 + 1)), (by first | rfl | (simp; done) | (simp [*]; done)), H', ⟨by have := HK1.out; omega⟩, ⟨by repeat (first | (with_reducible first | exact HB.out | apply ba_ | apply bn_ | apply b1_) | exact HB.out)⟩⟩
       ·rw [if_neg c13] at H
        exact absurd H (by simp)
      ·rw [if_neg c12] at H
       exact absurd H (by simp)
     ·rw [if_neg c10] at H
      exact absurd H (by simp)
    ·rw [if_neg c8] at H
     have c8b0 : decide ((wrap64 (x8_1 + (bg.size : Int))) < (a0.size : Int)) = false := decide_eq_false c8
     clear c8
     obtain rfl := Option.some.inj H
     go_wp2
     go_ret
     exact ⟨by first | rfl | (simp [errW_none, errW_some] <;> rfl) | (simp only [← hji6]; first | rfl | (simp [errW_none, errW_some] <;> rfl)) | (simp [*, errW_none, errW_some] <;> rfl), by repeat (first | (with_reducible first | exact HB.out | apply ba_ | apply bn_ | apply b1_) | exact HB.out)⟩
 ·rw [if_neg c5] at H
  exact absurd H (by simp)
end Go.Proofs.Yteafgjebaedjbaa.PFnExactTokensOk
