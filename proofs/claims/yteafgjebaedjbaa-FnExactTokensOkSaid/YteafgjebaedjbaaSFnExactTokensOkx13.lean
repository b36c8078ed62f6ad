-- Written by this session's program wip/slim.py out of the print's texts. Lean checks it.
import Derived.Test.YteafgjebaedjbaaSFnExactTokensOkx0
import Derived.Test.YteafgjebaedjbaaSFnExactTokensOkx10
import Derived.Test.YteafgjebaedjbaaSFnExactTokensOkx11
import Derived.Test.YteafgjebaedjbaaSFnExactTokensOkx12
namespace Go.Proofs.Yteafgjebaedjbaa.PFnExactTokensOk
open Go.RowKit Go.Proofs.YteafgjebaedjbaaW.PrintWords Go.Proofs.YteafgjebaedjbaaW.PrintLast Go.Proofs.YteafgjebaedjbaaW.PrintMore
attribute [local go_sem] max2_int min2_int max_two min_two max_three min_three max_four min_four
set_option linter.unusedVariables false
set_option linter.unusedSimpArgs false
def stringslite_HasPrefix.f (a0 : ByteArray) (a1 : ByteArray) : Option (Bool) := if (a0.size : Int) ≥ (a1.size : Int) then (if 0 ≤ (a1.size : Int) then (if (a1.size : Int) ≤ (a0.size : Int) then (some ((a0.extract 0 ((a1.size : Int) : Int).toNat).toList == a1.toList)) else (none)) else (none)) else (some false)
set_option maxHeartbeats 8000000 in
set_option maxRecDepth 100000 in
theorem stringslite_HasPrefix.calls (a0 : ByteArray) (a1 : ByteArray) (r : Bool) (w : World) (h : stringslite_HasPrefix.f a0 a1 = some r) :
  Calls Try.prog 103 #[.string a0, .string a1] w fun e w' => e = .returned (.bool r) ∧ Drawn0 w w' := by
 have H : (if (a0.size : Int) ≥ (a1.size : Int) then (if 0 ≤ (a1.size : Int) then (if (a1.size : Int) ≤ (a0.size : Int) then (some ((a0.extract 0 ((a1.size : Int) : Int).toNat).toList == a1.toList)) else (none)) else (none)) else (some false)) = some r := h
 clear h
 by_cases c3 : (a0.size : Int) ≥ (a1.size : Int)
 ·rw [if_pos c3] at H
  have c3b0 : decide ((a1.size : Int) ≤ (a0.size : Int)) = true := decide_eq_true c3
  have c3b1 : decide (a1.size ≤ a0.size) = true := decide_eq_true (Int.ofNat_le.mp c3)
  clear c3
  by_cases c4 : 0 ≤ (a1.size : Int)
  ·rw [if_pos c4] at H
   have c4b0 := eq_true c4
   have c4b1 : decide (0 ≤ (a1.size : Int)) = true := decide_eq_true c4
   clear c4
   by_cases c5 : (a1.size : Int) ≤ (a0.size : Int)
   ·rw [if_pos c5] at H
    have c5b0 := eq_true c5
    have c5b1 : decide ((a1.size : Int) ≤ (a0.size : Int)) = true := decide_eq_true c5
    clear c5
    obtain rfl := Option.some.inj H
    go_enter Try.func103, Try.ntmps103
    go_wp2
    go_ret
    exact ⟨by first | rfl | (simp; done) | (simp [*]; done), by repeat (first | exact Drawn0.refl _ | apply Drawn0.step)⟩
   ·rw [if_neg c5] at H
    exact absurd H (by simp)
  ·rw [if_neg c4] at H
   exact absurd H (by simp)
 ·rw [if_neg c3] at H
  have c3b0 : decide ((a1.size : Int) ≤ (a0.size : Int)) = false := decide_eq_false c3
  have c3b1 : decide (a1.size ≤ a0.size) = false := decide_eq_false (fun h => c3 (Int.ofNat_le.mpr h))
  clear c3
  obtain rfl := Option.some.inj H
  go_enter Try.func103, Try.ntmps103
  go_wp2
  go_ret
  exact ⟨by first | rfl | (simp; done) | (simp [*]; done), by repeat (first | exact Drawn0.refl _ | apply Drawn0.step)⟩
def strings_HasPrefix.f (a0 : ByteArray) (a1 : ByteArray) : Option (Bool) := (stringslite_HasPrefix.f a0 a1).bind fun t282 => (some t282)
set_option maxHeartbeats 8000000 in
set_option maxRecDepth 100000 in
theorem strings_HasPrefix.calls (a0 : ByteArray) (a1 : ByteArray) (r : Bool) (w : World) (h : strings_HasPrefix.f a0 a1 = some r) :
  Calls Try.prog 72 #[.string a0, .string a1] w fun e w' => e = .returned (.bool r) ∧ Drawn0 w w' := by
 have H : ((stringslite_HasPrefix.f a0 a1).bind fun t282 => (some t282)) = some r := h
 clear h
 replace H := Option.bind_eq_some_iff.mp H
 obtain ⟨t282, A30, H⟩ := H
 replace H : (some t282) = some r := H
 have A3 := Aside0.mk A30
 clear A30
 obtain rfl := Option.some.inj H
 go_enter Try.func72, Try.ntmps72
 go_wp2_with (first | ((with_reducible refine gate_callee (f := 103) rfl ?_); refine goesL_ (some 7) rfl rfl Try.func103 (by kernel_rfl) rfl #[.string a0, .string a1] rfl (by (try simp only [List.map_toArray, List.map_cons, List.map_nil]); first | done | rfl | (simp only [List.length_drop, List.length_take]; rfl)) ?_; (with_reducible refine (stringslite_HasPrefix.calls a0 a1 t282 _ A3.out).mono ?_); rintro e w' ⟨rfl, ⟨nd, rfl⟩⟩; refine ⟨_, rfl, ?_⟩))
 go_ret
 exact ⟨by first | rfl | (simp; done) | (simp [*]; done), by repeat (first | exact Drawn0.refl _ | apply Drawn0.step)⟩
def impl_noteOk.f (k : Nat) (a0 : ByteArray) : Option (Bool) := (impl_plainText.f k a0).bind fun t283 => (if t283 = true then ((strings_Contains.f a0 (⟨#[45, 45, 62]⟩ : ByteArray)).bind fun t284 => (if t284 = true then (some false) else ((strings_HasPrefix.f a0 (⟨#[62]⟩ : ByteArray)).bind fun t285 => (if t285 = true then (some false) else ((strings_HasPrefix.f a0 (⟨#[45, 62]⟩ : ByteArray)).bind fun t286 => (some (!t286))))))) else (some false))
theorem impl_noteOk.mono : ∀ a0 k, LeO (impl_noteOk.f k a0) (impl_noteOk.f (k + 1) a0) := by
 intro a0 k
 unfold impl_noteOk.f
 repeat' first
   | (with_reducible exact impl_plainText.mono _ _)
   | (with_reducible exact LeO.refl _)
   | (with_reducible exact LeO.none _)
   | (with_reducible refine LeO.ite ?_ ?_)
   | (with_reducible refine LeO.bind ?_ (fun _ => ?_))
set_option maxHeartbeats 8000000 in
set_option maxRecDepth 100000 in
theorem impl_noteOk.calls (k : Nat) (a0 : ByteArray) (r : Bool) (w : World) (hG : MaxSeen w) (h : impl_noteOk.f k a0 = some r) :
  Calls Try.prog 128 #[.string a0] w fun e w' => e = .returned (.bool r) ∧ Below w.heap.size w w' := by
 have HB := Aside0.mk (Below.refl w.heap.size w)
 have HG := Aside0.mk hG
 clear hG
 have H : ((impl_plainText.f k a0).bind fun t283 => (if t283 = true then ((strings_Contains.f a0 (⟨#[45, 45, 62]⟩ : ByteArray)).bind fun t284 => (if t284 = true then (some false) else ((strings_HasPrefix.f a0 (⟨#[62]⟩ : ByteArray)).bind fun t285 => (if t285 = true then (some false) else ((strings_HasPrefix.f a0 (⟨#[45, 62]⟩ : ByteArray)).bind fun t286 => (some (!t286))))))) else (some false))) = some r := h
 clear h
 replace H := Option.bind_eq_some_iff.mp H
 obtain ⟨t283, A20, H⟩ := H
 replace H : (if t283 = true then ((strings_Contains.f a0 (⟨#[45, 45, 62]⟩ : ByteArray)).bind fun t284 => (if t284 = true then (some false) else ((strings_HasPrefix.f a0 (⟨#[62]⟩ : ByteArray)).bind fun t285 => (if t285 = true then (some false) else ((strings_HasPrefix.f a0 (⟨#[45, 62]⟩ : ByteArray)).bind fun t286 => (some (!t286))))))) else (some false)) = some r := H
 have A2 := Aside0.mk A20
 clear A20
 by_cases c3 : t283 = true
 ·subst c3
  have H1 : ((strings_Contains.f a0 (⟨#[45, 45, 62]⟩ : ByteArray)).bind fun t284 => (if t284 = true then (some false) else ((strings_HasPrefix.f a0 (⟨#[62]⟩ : ByteArray)).bind fun t285 => (if t285 = true then (some false) else ((strings_HasPrefix.f a0 (⟨#[45, 62]⟩ : ByteArray)).bind fun t286 => (some (!t286))))))) = some r := by rw [if_pos rfl] at H; exact H
  clear H
  have H := H1
  clear H1
  replace H := Option.bind_eq_some_iff.mp H
  obtain ⟨t284, A40, H⟩ := H
  replace H : (if t284 = true then (some false) else ((strings_HasPrefix.f a0 (⟨#[62]⟩ : ByteArray)).bind fun t285 => (if t285 = true then (some false) else ((strings_HasPrefix.f a0 (⟨#[45, 62]⟩ : ByteArray)).bind fun t286 => (some (!t286)))))) = some r := H
  have A4 := Aside0.mk A40
  clear A40
  by_cases c5 : t284 = true
  ·subst c5
   have H1 : (some false) = some r := by rw [if_pos rfl] at H; exact H
   clear H
   have H := H1
   clear H1
   obtain rfl := Option.some.inj H
   go_enter Try.func128, Try.ntmps128
   go_wp2_with (first | ((with_reducible refine gate_callee (f := 125) rfl ?_); refine goesL_ (some 4) rfl rfl Try.func125 (by kernel_rfl) rfl #[.string a0] rfl (by (try simp only [List.map_toArray, List.map_cons, List.map_nil]); first | done | rfl | (simp only [List.length_drop, List.length_take]; rfl)) ?_; (with_reducible refine (impl_plainText.calls k a0 true _ ?side1 A2.out).mono ?_); (case side1 => exact MaxSeen.below HG.out (by repeat (first | (with_reducible first | exact HB.out | apply ba_ | apply bn_ | apply b1_) | exact HB.out))); rintro e w6 ⟨rfl, hb⟩; refine ⟨_, rfl, ?_⟩; have n0_ := Aside0.mk (below_step (by repeat (first | (with_reducible first | exact HB.out | apply ba_ | apply bn_ | apply b1_) | exact HB.out)) hb); clear HB; have HB := n0_; clear n0_; (try clear hb)) | (go_at_call 99; (with_reducible refine (strings_Contains.calls a0 (⟨#[45, 45, 62]⟩ : ByteArray) true _ ?side1 A4.out).mono ?_); (case side1 => exact MaxSeen.below HG.out (by repeat (first | (with_reducible first | exact HB.out | apply ba_ | apply bn_ | apply b1_) | exact HB.out))); rintro e w7 ⟨rfl, hb⟩; have n0_ := Aside0.mk (below_step (by repeat (first | (with_reducible first | exact HB.out | apply ba_ | apply bn_ | apply b1_) | exact HB.out)) hb); clear HB; have HB := n0_; clear n0_; (try clear hb)))
   go_ret
   exact ⟨by first | rfl | (simp [errW_none, errW_some] <;> rfl) | (simp [*, errW_none, errW_some] <;> rfl), by repeat (first | (with_reducible first | exact HB.out | apply ba_ | apply bn_ | apply b1_) | exact HB.out)⟩
  ·replace c5 := Bool.eq_false_iff.mpr c5
   subst c5
   have H1 : ((strings_HasPrefix.f a0 (⟨#[62]⟩ : ByteArray)).bind fun t285 => (if t285 = true then (some false) else ((strings_HasPrefix.f a0 (⟨#[45, 62]⟩ : ByteArray)).bind fun t286 => (some (!t286))))) = some r := by rw [if_neg (show ¬ (false = true) by decide)] at H; exact H
   clear H
   have H := H1
   clear H1
   replace H := Option.bind_eq_some_iff.mp H
   obtain ⟨t285, A80, H⟩ := H
   replace H : (if t285 = true then (some false) else ((strings_HasPrefix.f a0 (⟨#[45, 62]⟩ : ByteArray)).bind fun t286 => (some (!t286)))) = some r := H
   have A8 := Aside0.mk A80
   clear A80
   by_cases c9 : t285 = true
   ·subst c9
    have H1 : (some false) = some r := by rw [if_pos rfl] at H; exact H
    clear H
    have H := H1
    clear H1
    obtain rfl := Option.some.inj H
    go_enter Try.func128, Try.ntmps128
    go_wp2_with (first | ((with_reducible refine gate_callee (f := 125) rfl ?_); refine goesL_ (some 4) rfl rfl Try.func125 (by kernel_rfl) rfl #[.string a0] rfl (by (try simp only [List.map_toArray, List.map_cons, List.map_nil]); first | done | rfl | (simp only [List.length_drop, List.length_take]; rfl)) ?_; (with_reducible refine (impl_plainText.calls k a0 true _ ?side1 A2.out).mono ?_); (case side1 => exact MaxSeen.below HG.out (by repeat (first | (with_reducible first | exact HB.out | apply ba_ | apply bn_ | apply b1_) | exact HB.out))); rintro e w10 ⟨rfl, hb⟩; refine ⟨_, rfl, ?_⟩; have n0_ := Aside0.mk (below_step (by repeat (first | (with_reducible first | exact HB.out | apply ba_ | apply bn_ | apply b1_) | exact HB.out)) hb); clear HB; have HB := n0_; clear n0_; (try clear hb)) | (go_at_call 99; (with_reducible refine (strings_Contains.calls a0 (⟨#[45, 45, 62]⟩ : ByteArray) false _ ?side1 A4.out).mono ?_); (case side1 => exact MaxSeen.below HG.out (by repeat (first | (with_reducible first | exact HB.out | apply ba_ | apply bn_ | apply b1_) | exact HB.out))); rintro e w11 ⟨rfl, hb⟩; have n0_ := Aside0.mk (below_step (by repeat (first | (with_reducible first | exact HB.out | apply ba_ | apply bn_ | apply b1_) | exact HB.out)) hb); clear HB; have HB := n0_; clear n0_; (try clear hb)) | (go_at_call 72; (with_reducible refine (strings_HasPrefix.calls a0 (⟨#[62]⟩ : ByteArray) true _ A8.out).mono ?_); rintro e w' ⟨rfl, ⟨nd, rfl⟩⟩))
    go_ret
    exact ⟨by first | rfl | (simp [errW_none, errW_some] <;> rfl) | (simp [*, errW_none, errW_some] <;> rfl), by repeat (first | (with_reducible first | exact HB.out | apply ba_ | apply bn_ | apply b1_) | exact HB.out)⟩
   ·replace c9 := Bool.eq_false_iff.mpr c9
    subst c9
    have H1 : ((strings_HasPrefix.f a0 (⟨#[45, 62]⟩ : ByteArray)).bind fun t286 => (some (!t286))) = some r := by rw [if_neg (show ¬ (false = true) by decide)] at H; exact H
    clear H
    have H := H1
    clear H1
    replace H := Option.bind_eq_some_iff.mp H
    obtain ⟨t286, A120, H⟩ := H
    replace H : (some (!t286)) = some r := H
    have A12 := Aside0.mk A120
    clear A120
    obtain rfl := Option.some.inj H
    go_enter Try.func128, Try.ntmps128
    go_wp2_with (first | ((with_reducible refine gate_callee (f := 125) rfl ?_); refine goesL_ (some 4) rfl rfl Try.func125 (by kernel_rfl) rfl #[.string a0] rfl (by (try simp only [List.map_toArray, List.map_cons, List.map_nil]); first | done | rfl | (simp only [List.length_drop, List.length_take]; rfl)) ?_; (with_reducible refine (impl_plainText.calls k a0 true _ ?side1 A2.out).mono ?_); (case side1 => exact MaxSeen.below HG.out (by repeat (first | (with_reducible first | exact HB.out | apply ba_ | apply bn_ | apply b1_) | exact HB.out))); rintro e w13 ⟨rfl, hb⟩; refine ⟨_, rfl, ?_⟩; have n0_ := Aside0.mk (below_step (by repeat (first | (with_reducible first | exact HB.out | apply ba_ | apply bn_ | apply b1_) | exact HB.out)) hb); clear HB; have HB := n0_; clear n0_; (try clear hb)) | (go_at_call 99; (with_reducible refine (strings_Contains.calls a0 (⟨#[45, 45, 62]⟩ : ByteArray) false _ ?side1 A4.out).mono ?_); (case side1 => exact MaxSeen.below HG.out (by repeat (first | (with_reducible first | exact HB.out | apply ba_ | apply bn_ | apply b1_) | exact HB.out))); rintro e w14 ⟨rfl, hb⟩; have n0_ := Aside0.mk (below_step (by repeat (first | (with_reducible first | exact HB.out | apply ba_ | apply bn_ | apply b1_) | exact HB.out)) hb); clear HB; have HB := n0_; clear n0_; (try clear hb)) | (go_at_call 72; (with_reducible refine (strings_HasPrefix.calls a0 (⟨#[62]⟩ : ByteArray) false _ A8.out).mono ?_); rintro e w' ⟨rfl, ⟨nd, rfl⟩⟩) | (go_at_call 72; (with_reducible refine (strings_HasPrefix.calls a0 (⟨#[45, 62]⟩ : ByteArray) t286 _ A12.out).mono ?_); rintro e w' ⟨rfl, ⟨nd, rfl⟩⟩))
    go_ret
    exact ⟨by first | rfl | (simp [errW_none, errW_some] <;> rfl) | (simp [*, errW_none, errW_some] <;> rfl), by repeat (first | (with_reducible first | exact HB.out | apply ba_ | apply bn_ | apply b1_) | exact HB.out)⟩
 ·replace c3 := Bool.eq_false_iff.mpr c3
  subst c3
  have H1 : (some false) = some r := by rw [if_neg (show ¬ (false = true) by decide)] at H; exact H
  clear H
  have H := H1
  clear H1
  obtain rfl := Option.some.inj H
  go_enter Try.func128, Try.ntmps128
  go_wp2_with (first | ((with_reducible refine gate_callee (f := 125) rfl ?_); refine goesL_ (some 4) rfl rfl Try.func125 (by kernel_rfl) rfl #[.string a0] rfl (by (try simp only [List.map_toArray, List.map_cons, List.map_nil]); first | done | rfl | (simp only [List.length_drop, List.length_take]; rfl)) ?_; (with_reducible refine (impl_plainText.calls k a0 false _ ?side1 A2.out).mono ?_); (case side1 => exact MaxSeen.below HG.out (by repeat (first | (with_reducible first | exact HB.out | apply ba_ | apply bn_ | apply b1_) | exact HB.out))); rintro e w15 ⟨rfl, hb⟩; refine ⟨_, rfl, ?_⟩; have n0_ := Aside0.mk (below_step (by repeat (first | (with_reducible first | exact HB.out | apply ba_ | apply bn_ | apply b1_) | exact HB.out)) hb); clear HB; have HB := n0_; clear n0_; (try clear hb)))
  go_ret
  exact ⟨by first | rfl | (simp [errW_none, errW_some] <;> rfl) | (simp [*, errW_none, errW_some] <;> rfl), by repeat (first | (with_reducible first | exact HB.out | apply ba_ | apply bn_ | apply b1_) | exact HB.out)⟩
def impl_kindOk.f (k : Nat) (a0 : ByteArray) : Option (Bool) := (impl_plainText.f k a0).bind fun t287 => (if t287 = true then ((impl_Small.f a0).bind fun t288 => (if t288.toList = a0.toList then ((strings_Contains.f a0 (⟨#[62]⟩ : ByteArray)).bind fun t289 => (if t289 = true then (some false) else (if a0.toList = ([] : List UInt8) then (some true) else (if 0 < (a0.size : Int) then ((impl_isBlankByte.f (bt a0 0)).bind fun t290 => (some (!t290))) else (none))))) else (some false))) else (some false))
theorem impl_kindOk.mono : ∀ a0 k, LeO (impl_kindOk.f k a0) (impl_kindOk.f (k + 1) a0) := by
 intro a0 k
 unfold impl_kindOk.f
 repeat' first
   | (with_reducible exact impl_plainText.mono _ _)
   | (with_reducible exact LeO.refl _)
   | (with_reducible exact LeO.none _)
   | (with_reducible refine LeO.ite ?_ ?_)
   | (with_reducible refine LeO.bind ?_ (fun _ => ?_))
set_option maxHeartbeats 8000000 in
set_option maxRecDepth 100000 in
theorem impl_kindOk.calls (k : Nat) (a0 : ByteArray) (r : Bool) (w : World) (hG : MaxSeen w) (h : impl_kindOk.f k a0 = some r) :
  Calls Try.prog 129 #[.string a0] w fun e w' => e = .returned (.bool r) ∧ Below w.heap.size w w' := by
 have HB := Aside0.mk (Below.refl w.heap.size w)
 have HG := Aside0.mk hG
 clear hG
 have H : ((impl_plainText.f k a0).bind fun t287 => (if t287 = true then ((impl_Small.f a0).bind fun t288 => (if t288.toList = a0.toList then ((strings_Contains.f a0 (⟨#[62]⟩ : ByteArray)).bind fun t289 => (if t289 = true then (some false) else (if a0.toList = ([] : List UInt8) then (some true) else (if 0 < (a0.size : Int) then ((impl_isBlankByte.f (bt a0 0)).bind fun t290 => (some (!t290))) else (none))))) else (some false))) else (some false))) = some r := h
 clear h
 replace H := Option.bind_eq_some_iff.mp H
 obtain ⟨t287, A20, H⟩ := H
 replace H : (if t287 = true then ((impl_Small.f a0).bind fun t288 => (if t288.toList = a0.toList then ((strings_Contains.f a0 (⟨#[62]⟩ : ByteArray)).bind fun t289 => (if t289 = true then (some false) else (if a0.toList = ([] : List UInt8) then (some true) else (if 0 < (a0.size : Int) then ((impl_isBlankByte.f (bt a0 0)).bind fun t290 => (some (!t290))) else (none))))) else (some false))) else (some false)) = some r := H
 have A2 := Aside0.mk A20
 clear A20
 by_cases c3 : t287 = true
 ·subst c3
  have H1 : ((impl_Small.f a0).bind fun t288 => (if t288.toList = a0.toList then ((strings_Contains.f a0 (⟨#[62]⟩ : ByteArray)).bind fun t289 => (if t289 = true then (some false) else (if a0.toList = ([] : List UInt8) then (some true) else (if 0 < (a0.size : Int) then ((impl_isBlankByte.f (bt a0 0)).bind fun t290 => (some (!t290))) else (none))))) else (some false))) = some r := by rw [if_pos rfl] at H; exact H
  clear H
  have H := H1
  clear H1
  replace H := Option.bind_eq_some_iff.mp H
  obtain ⟨t288, A40, H⟩ := H
  replace H : (if t288.toList = a0.toList then ((strings_Contains.f a0 (⟨#[62]⟩ : ByteArray)).bind fun t289 => (if t289 = true then (some false) else (if a0.toList = ([] : List UInt8) then (some true) else (if 0 < (a0.size : Int) then ((impl_isBlankByte.f (bt a0 0)).bind fun t290 => (some (!t290))) else (none))))) else (some false)) = some r := H
  have A4 := Aside0.mk A40
  clear A40
  by_cases c5 : t288.toList = a0.toList
  ·rw [if_pos c5] at H
   have c5b0 : (t288.toList == a0.toList) = true := beq_iff_eq.mpr c5
   have c5b1 : (t288.toList != a0.toList) = false := bne_eq_false_iff_eq.mpr c5
   clear c5
   replace H := Option.bind_eq_some_iff.mp H
   obtain ⟨t289, A60, H⟩ := H
   replace H : (if t289 = true then (some false) else (if a0.toList = ([] : List UInt8) then (some true) else (if 0 < (a0.size : Int) then ((impl_isBlankByte.f (bt a0 0)).bind fun t290 => (some (!t290))) else (none)))) = some r := H
   have A6 := Aside0.mk A60
   clear A60
   by_cases c7 : t289 = true
   ·subst c7
    have H1 : (some false) = some r := by rw [if_pos rfl] at H; exact H
    clear H
    have H := H1
    clear H1
    obtain rfl := Option.some.inj H
    go_enter Try.func129, Try.ntmps129
    go_wp2_with (first | ((with_reducible refine gate_callee (f := 125) rfl ?_); refine goesL_ (some 4) rfl rfl Try.func125 (by kernel_rfl) rfl #[.string a0] rfl (by (try simp only [List.map_toArray, List.map_cons, List.map_nil]); first | done | rfl | (simp only [List.length_drop, List.length_take]; rfl)) ?_; (with_reducible refine (impl_plainText.calls k a0 true _ ?side1 A2.out).mono ?_); (case side1 => exact MaxSeen.below HG.out (by repeat (first | (with_reducible first | exact HB.out | apply ba_ | apply bn_ | apply b1_) | exact HB.out))); rintro e w8 ⟨rfl, hb⟩; refine ⟨_, rfl, ?_⟩; have n0_ := Aside0.mk (below_step (by repeat (first | (with_reducible first | exact HB.out | apply ba_ | apply bn_ | apply b1_) | exact HB.out)) hb); clear HB; have HB := n0_; clear n0_; (try clear hb)) | (go_at_call 143; (with_reducible refine (impl_Small.calls a0 t288 _ A4.out).mono ?_); rintro e w9 ⟨rfl, hb⟩; have n0_ := Aside0.mk (below_step (by repeat (first | (with_reducible first | exact HB.out | apply ba_ | apply bn_ | apply b1_) | exact HB.out)) hb); clear HB; have HB := n0_; clear n0_; (try clear hb)) | (go_at_call 99; (with_reducible refine (strings_Contains.calls a0 (⟨#[62]⟩ : ByteArray) true _ ?side1 A6.out).mono ?_); (case side1 => exact MaxSeen.below HG.out (by repeat (first | (with_reducible first | exact HB.out | apply ba_ | apply bn_ | apply b1_) | exact HB.out))); rintro e w10 ⟨rfl, hb⟩; have n0_ := Aside0.mk (below_step (by repeat (first | (with_reducible first | exact HB.out | apply ba_ | apply bn_ | apply b1_) | exact HB.out)) hb); clear HB; have HB := n0_; clear n0_; (try clear hb)))
    go_ret
    exact ⟨by first | rfl | (simp [errW_none, errW_some] <;> rfl) | (simp [*, errW_none, errW_some] <;> rfl), by repeat (first | (with_reducible first | exact HB.out | apply ba_ | apply bn_ | apply b1_) | exact HB.out)⟩
   ·replace c7 := Bool.eq_false_iff.mpr c7
    subst c7
    have H1 : (if a0.toList = ([] : List UInt8) then (some true) else (if 0 < (a0.size : Int) then ((impl_isBlankByte.f (bt a0 0)).bind fun t290 => (some (!t290))) else (none))) = some r := by rw [if_neg (show ¬ (false = true) by decide)] at H; exact H
    clear H
    have H := H1
    clear H1
    by_cases c11 : a0.toList = ([] : List UInt8)
    ·rw [if_pos c11] at H
     have c11b0 : (a0.toList == ([] : List UInt8)) = true := beq_iff_eq.mpr c11
     have c11b1 : (a0.toList != ([] : List UInt8)) = false := bne_eq_false_iff_eq.mpr c11
     clear c11
     obtain rfl := Option.some.inj H
     go_enter Try.func129, Try.ntmps129
     go_wp2_with (first | ((with_reducible refine gate_callee (f := 125) rfl ?_); refine goesL_ (some 4) rfl rfl Try.func125 (by kernel_rfl) rfl #[.string a0] rfl (by (try simp only [List.map_toArray, List.map_cons, List.map_nil]); first | done | rfl | (simp only [List.length_drop, List.length_take]; rfl)) ?_; (with_reducible refine (impl_plainText.calls k a0 true _ ?side1 A2.out).mono ?_); (case side1 => exact MaxSeen.below HG.out (by repeat (first | (with_reducible first | exact HB.out | apply ba_ | apply bn_ | apply b1_) | exact HB.out))); rintro e w12 ⟨rfl, hb⟩; refine ⟨_, rfl, ?_⟩; have n0_ := Aside0.mk (below_step (by repeat (first | (with_reducible first | exact HB.out | apply ba_ | apply bn_ | apply b1_) | exact HB.out)) hb); clear HB; have HB := n0_; clear n0_; (try clear hb)) | (go_at_call 143; (with_reducible refine (impl_Small.calls a0 t288 _ A4.out).mono ?_); rintro e w13 ⟨rfl, hb⟩; have n0_ := Aside0.mk (below_step (by repeat (first | (with_reducible first | exact HB.out | apply ba_ | apply bn_ | apply b1_) | exact HB.out)) hb); clear HB; have HB := n0_; clear n0_; (try clear hb)) | (go_at_call 99; (with_reducible refine (strings_Contains.calls a0 (⟨#[62]⟩ : ByteArray) false _ ?side1 A6.out).mono ?_); (case side1 => exact MaxSeen.below HG.out (by repeat (first | (with_reducible first | exact HB.out | apply ba_ | apply bn_ | apply b1_) | exact HB.out))); rintro e w14 ⟨rfl, hb⟩; have n0_ := Aside0.mk (below_step (by repeat (first | (with_reducible first | exact HB.out | apply ba_ | apply bn_ | apply b1_) | exact HB.out)) hb); clear HB; have HB := n0_; clear n0_; (try clear hb)))
     go_ret
     exact ⟨by first | rfl | (simp [errW_none, errW_some] <;> rfl) | (simp [*, errW_none, errW_some] <;> rfl), by repeat (first | (with_reducible first | exact HB.out | apply ba_ | apply bn_ | apply b1_) | exact HB.out)⟩
    ·rw [if_neg c11] at H
     have c11b0 : (a0.toList == ([] : List UInt8)) = false := beq_eq_false_iff_ne.mpr c11
     have c11b1 : (a0.toList != ([] : List UInt8)) = true := bne_iff_ne.mpr c11
     by_cases c15 : 0 < (a0.size : Int)
     ·rw [if_pos c15] at H
      have c15b0 : decide (0 < (a0.size : Int)) = true := decide_eq_true c15
      have c15b1 : decide (0 < a0.size) = true := decide_eq_true (by omega)
      clear c15
      replace H := Option.bind_eq_some_iff.mp H
      obtain ⟨t290, A170, H⟩ := H
      replace H : (some (!t290)) = some r := H
      have A17 := Aside0.mk A170
      clear A170
      obtain rfl := Option.some.inj H
      go_enter Try.func129, Try.ntmps129
      go_wp2_with (first | ((with_reducible refine gate_callee (f := 125) rfl ?_); refine goesL_ (some 4) rfl rfl Try.func125 (by kernel_rfl) rfl #[.string a0] rfl (by (try simp only [List.map_toArray, List.map_cons, List.map_nil]); first | done | rfl | (simp only [List.length_drop, List.length_take]; rfl)) ?_; (with_reducible refine (impl_plainText.calls k a0 true _ ?side1 A2.out).mono ?_); (case side1 => exact MaxSeen.below HG.out (by repeat (first | (with_reducible first | exact HB.out | apply ba_ | apply bn_ | apply b1_) | exact HB.out))); rintro e w18 ⟨rfl, hb⟩; refine ⟨_, rfl, ?_⟩; have n0_ := Aside0.mk (below_step (by repeat (first | (with_reducible first | exact HB.out | apply ba_ | apply bn_ | apply b1_) | exact HB.out)) hb); clear HB; have HB := n0_; clear n0_; (try clear hb)) | (go_at_call 143; (with_reducible refine (impl_Small.calls a0 t288 _ A4.out).mono ?_); rintro e w19 ⟨rfl, hb⟩; have n0_ := Aside0.mk (below_step (by repeat (first | (with_reducible first | exact HB.out | apply ba_ | apply bn_ | apply b1_) | exact HB.out)) hb); clear HB; have HB := n0_; clear n0_; (try clear hb)) | (go_at_call 99; (with_reducible refine (strings_Contains.calls a0 (⟨#[62]⟩ : ByteArray) false _ ?side1 A6.out).mono ?_); (case side1 => exact MaxSeen.below HG.out (by repeat (first | (with_reducible first | exact HB.out | apply ba_ | apply bn_ | apply b1_) | exact HB.out))); rintro e w20 ⟨rfl, hb⟩; have n0_ := Aside0.mk (below_step (by repeat (first | (with_reducible first | exact HB.out | apply ba_ | apply bn_ | apply b1_) | exact HB.out)) hb); clear HB; have HB := n0_; clear n0_; (try clear hb); have p16 : 0 ≤ (0 : Int) := (by omega); have q16 : 0 < a0.size := (by have : (0 : Int) < (a0.size : Int) := dq_ (by assumption); omega); have hx16 : ∀ h : 0 < a0.size, ((a0[0]'h).toNat : Int) = bt a0 0 := bt_at a0 0; clear p16; have qi16 : (0 < (a0.size : Int)) = True := eq_true (dq_ (by assumption)); replace q16 := eq_true q16) | (go_at_call 144; (with_reducible refine (impl_isBlankByte.calls (bt a0 0) t290 _ A17.out).mono ?_); rintro e w' ⟨rfl, ⟨nd, rfl⟩⟩))
      go_ret
      exact ⟨by first | rfl | (simp [errW_none, errW_some] <;> rfl) | (simp [*, errW_none, errW_some] <;> rfl), by repeat (first | (with_reducible first | exact HB.out | apply ba_ | apply bn_ | apply b1_) | exact HB.out)⟩
     ·rw [if_neg c15] at H
      exact absurd H (by simp)
  ·rw [if_neg c5] at H
   have c5b0 : (t288.toList == a0.toList) = false := beq_eq_false_iff_ne.mpr c5
   have c5b1 : (t288.toList != a0.toList) = true := bne_iff_ne.mpr c5
   obtain rfl := Option.some.inj H
   go_enter Try.func129, Try.ntmps129
   go_wp2_with (first | ((with_reducible refine gate_callee (f := 125) rfl ?_); refine goesL_ (some 4) rfl rfl Try.func125 (by kernel_rfl) rfl #[.string a0] rfl (by (try simp only [List.map_toArray, List.map_cons, List.map_nil]); first | done | rfl | (simp only [List.length_drop, List.length_take]; rfl)) ?_; (with_reducible refine (impl_plainText.calls k a0 true _ ?side1 A2.out).mono ?_); (case side1 => exact MaxSeen.below HG.out (by repeat (first | (with_reducible first | exact HB.out | apply ba_ | apply bn_ | apply b1_) | exact HB.out))); rintro e w21 ⟨rfl, hb⟩; refine ⟨_, rfl, ?_⟩; have n0_ := Aside0.mk (below_step (by repeat (first | (with_reducible first | exact HB.out | apply ba_ | apply bn_ | apply b1_) | exact HB.out)) hb); clear HB; have HB := n0_; clear n0_; (try clear hb)) | (go_at_call 143; (with_reducible refine (impl_Small.calls a0 t288 _ A4.out).mono ?_); rintro e w22 ⟨rfl, hb⟩; have n0_ := Aside0.mk (below_step (by repeat (first | (with_reducible first | exact HB.out | apply ba_ | apply bn_ | apply b1_) | exact HB.out)) hb); clear HB; have HB := n0_; clear n0_; (try clear hb)))
   go_ret
   exact ⟨by first | rfl | (simp [errW_none, errW_some] <;> rfl) | (simp [*, errW_none, errW_some] <;> rfl), by repeat (first | (with_reducible first | exact HB.out | apply ba_ | apply bn_ | apply b1_) | exact HB.out)⟩
 ·replace c3 := Bool.eq_false_iff.mpr c3
  subst c3
  have H1 : (some false) = some r := by rw [if_neg (show ¬ (false = true) by decide)] at H; exact H
  clear H
  have H := H1
  clear H1
  obtain rfl := Option.some.inj H
  go_enter Try.func129, Try.ntmps129
  go_wp2_with (first | ((with_reducible refine gate_callee (f := 125) rfl ?_); refine goesL_ (some 4) rfl rfl Try.func125 (by kernel_rfl) rfl #[.string a0] rfl (by (try simp only [List.map_toArray, List.map_cons, List.map_nil]); first | done | rfl | (simp only [List.length_drop, List.length_take]; rfl)) ?_; (with_reducible refine (impl_plainText.calls k a0 false _ ?side1 A2.out).mono ?_); (case side1 => exact MaxSeen.below HG.out (by repeat (first | (with_reducible first | exact HB.out | apply ba_ | apply bn_ | apply b1_) | exact HB.out))); rintro e w23 ⟨rfl, hb⟩; refine ⟨_, rfl, ?_⟩; have n0_ := Aside0.mk (below_step (by repeat (first | (with_reducible first | exact HB.out | apply ba_ | apply bn_ | apply b1_) | exact HB.out)) hb); clear HB; have HB := n0_; clear n0_; (try clear hb)))
  go_ret
  exact ⟨by first | rfl | (simp [errW_none, errW_some] <;> rfl) | (simp [*, errW_none, errW_some] <;> rfl), by repeat (first | (with_reducible first | exact HB.out | apply ba_ | apply bn_ | apply b1_) | exact HB.out)⟩
def impl_tokenOk.j0 : Nat → Bool → Int → ByteArray → List (S117) → ByteArray → Bool → Option (Bool)
 | 0, _, _, _, _, _, _ => none
 | k + 1, x3, x292000, x292001, x292002, x292003, x292004 => if x292000 = 1 then (if x3 = true then (if x292003.toList = ([] : List UInt8) then (some false) else ((impl_plainText.f k x292003).bind fun t292 => (some t292))) else (some false)) else (if x292000 = 2 then (if x292003.toList = ([] : List UInt8) then ((impl_tagNameOk.f k x292001).bind fun t293 => (if t293 = true then ((impl_attrsOk.f k x292002).bind fun t294 => (some t294)) else (some false))) else (some false)) else (if x292000 = 3 then (if x292003.toList = ([] : List UInt8) then (if (x292002.length : Int) = 0 then (if x292004 = true then (some false) else ((impl_tagNameOk.f k x292001).bind fun t295 => (some t295))) else (some false)) else (some false)) else (if x292000 = 4 then (if x3 = true then ((impl_noteOk.f k x292003).bind fun t296 => (some t296)) else (some false)) else (if x292000 = 5 then (if x3 = true then ((impl_kindOk.f k x292003).bind fun t297 => (some t297)) else (some false)) else (some false)))))
def impl_tokenOk.f (k : Nat) (a0_0 : Int) (a0_1 : ByteArray) (l0_2 : List (S117)) (a0_3 : ByteArray) (a0_4 : Bool) : Option (Bool) := if a0_1.toList = ([] : List UInt8) then (if (l0_2.length : Int) = 0 then (impl_tokenOk.j0 k (!a0_4) a0_0 a0_1 l0_2 a0_3 a0_4) else (impl_tokenOk.j0 k false a0_0 a0_1 l0_2 a0_3 a0_4)) else (impl_tokenOk.j0 k false a0_0 a0_1 l0_2 a0_3 a0_4)
theorem impl_tokenOk.mono_l : ∀ k, (∀ y0 y1 y2 y3 y4 y5, LeO (impl_tokenOk.j0 k y0 y1 y2 y3 y4 y5) (impl_tokenOk.j0 (k + 1) y0 y1 y2 y3 y4 y5))
 | 0 => fun _ _ _ _ _ _ r h => by simp [impl_tokenOk.j0] at h
 | k + 1 => by
  have ih0 := impl_tokenOk.mono_l k
  ·intro y0 y1 y2 y3 y4 y5
   unfold impl_tokenOk.j0
   repeat' first
   | (with_reducible exact ih0 _ _ _ _ _ _)
   | (with_reducible exact impl_attrsOk.mono _ _)
   | (with_reducible exact impl_kindOk.mono _ _)
   | (with_reducible exact impl_noteOk.mono _ _)
   | (with_reducible exact impl_plainText.mono _ _)
   | (with_reducible exact impl_tagNameOk.mono _ _)
   | (with_reducible exact LeO.refl _)
   | (with_reducible exact LeO.none _)
   | (with_reducible refine LeO.ite ?_ ?_)
   | (with_reducible refine LeO.bind ?_ (fun _ => ?_))
theorem impl_tokenOk.mono : ∀ a0 a1 a2 a3 a4 k, LeO (impl_tokenOk.f k a0 a1 a2 a3 a4) (impl_tokenOk.f (k + 1) a0 a1 a2 a3 a4) := by
 intro a0 a1 a2 a3 a4 k
 have ih0 := impl_tokenOk.mono_l k
 unfold impl_tokenOk.f
 repeat' first
   | (with_reducible exact ih0 _ _ _ _ _ _)
   | (with_reducible exact impl_attrsOk.mono _ _)
   | (with_reducible exact impl_kindOk.mono _ _)
   | (with_reducible exact impl_noteOk.mono _ _)
   | (with_reducible exact impl_plainText.mono _ _)
   | (with_reducible exact impl_tagNameOk.mono _ _)
   | (with_reducible exact LeO.refl _)
   | (with_reducible exact LeO.none _)
   | (with_reducible refine LeO.ite ?_ ?_)
   | (with_reducible refine LeO.bind ?_ (fun _ => ?_))
set_option maxHeartbeats 8000000 in
set_option maxRecDepth 100000 in
theorem impl_tokenOk.calls (k : Nat) (a0_0 : Int) (a0_1 : ByteArray) (A0_2 : Option Addr) (c0_2 : Nat) (l0_2 : List (S117)) (a0_3 : ByteArray) (a0_4 : Bool) (r : Bool) (w : World) (hr0_2 : Kd.C k117 w A0_2 l0_2.length l0_2) (hc0_2 : l0_2.length ≤ c0_2) (hG : MaxSeen w) (h : impl_tokenOk.f k a0_0 a0_1 l0_2 a0_3 a0_4 = some r) :
  Calls Try.prog 94 #[.agg #[.int .i64 a0_0, .string a0_1, .slice A0_2 l0_2.length c0_2, .string a0_3, .bool a0_4]] w fun e w' => e = .returned (.bool r) ∧ Below w.heap.size w w' := by
 have hu87 := Try.underlying87
 have HR0_2 := Aside0.mk hr0_2
 have HC0_2 := Aside0.mk hc0_2
 clear hr0_2 hc0_2
 have HB := Aside0.mk (Below.refl w.heap.size w)
 have HG := Aside0.mk hG
 clear hG
 have H : (if a0_1.toList = ([] : List UInt8) then (if (l0_2.length : Int) = 0 then (impl_tokenOk.j0 k (!a0_4) a0_0 a0_1 l0_2 a0_3 a0_4) else (impl_tokenOk.j0 k false a0_0 a0_1 l0_2 a0_3 a0_4)) else (impl_tokenOk.j0 k false a0_0 a0_1 l0_2 a0_3 a0_4)) = some r := h
 clear h
 have HC2 := Aside0.mk H
 clear H
 go_enter Try.func94, Try.ntmps94
 go_upto_region 1 with (first | ((with_reducible refine gate_dst (N := 1) rfl ?_); (try (refine gate_guard (by rfl) ?_; dsimp only)); refine box_event ?hg (N := 1) ?hd (cs := #[.int .i64 a0_0, .string a0_1, .slice A0_2 l0_2.length c0_2, .string a0_3, .bool a0_4]) (t := 87) ?hr ?_; (case hd => rfl); (case hg => rfl); (case hr => first | (go_simp; done) | (go_simp; rfl)); intro gb291 hg w3 hbox hb; have n0_ := Aside0.mk (below_step (by repeat (first | (with_reducible first | exact HB.out | apply ba_ | apply bn_ | apply b1_) | exact HB.out)) hb); have n1_ := Aside0.mk (hbox); have n2_ := Aside0.mk ((by rw [hg]; exact (below_size (by repeat (first | (with_reducible first | exact HB.out | apply ba_ | apply bn_ | apply b1_) | exact HB.out))) : w.heap.size ≤ gb291)); have n3_ := Aside0.mk ((by rw [hg]; exact (below_size (by repeat (first | (with_reducible first | exact HB.out | apply ba_ | apply bn_ | apply b1_) | exact HB.out))) : w.heap.size ≤ gb291)); clear HB; have HB := n0_; have BK291 := n1_; have GW291 := n2_; have GE291 := n3_; clear n0_ n1_ n2_ n3_; clear hb hbox hg))
 (try simp only [Act.put, sa_, sz_, ss_])
 go_cut [3] (fun v3 wc => ∃ (kq : Nat) (x3_1 : Bool), v3 = .bool x3_1 ∧ Aside0 (impl_tokenOk.j0 kq x3_1 a0_0 a0_1 l0_2 a0_3 a0_4 = some r) ∧ Aside0 (kq ≤ k) ∧ Aside0 (wc.heap[gb291]? = some (.cells #[.int .i64 a0_0, .string a0_1, (.slice A0_2 l0_2.length c0_2), .string a0_3, .bool a0_4] 87 (0, 0))) ∧ Aside0 (Below w.heap.size w wc))
 case first =>
  have H := HC2.out
  clear HC2
  by_cases c4 : a0_1.toList = ([] : List UInt8)
  ·rw [if_pos c4] at H
   have c4b0 : (a0_1.toList == ([] : List UInt8)) = true := beq_iff_eq.mpr c4
   have c4b1 : (a0_1.toList != ([] : List UInt8)) = false := bne_eq_false_iff_eq.mpr c4
   clear c4
   (first | rw [c4b0] | (simp only [i64_w, i32_w]; rw [c4b0]) | skip)
   by_cases c5 : (l0_2.length : Int) = 0
   ·rw [if_pos c5] at H
    have c5b0 : ((l0_2.length : Int) == 0) = true := beq_iff_eq.mpr c5
    have c5b1 : ((l0_2.length : Int) != 0) = false := bne_eq_false_iff_eq.mpr c5
    clear c5
    have H' := Aside0.mk H
    clear H
    have hcz6_0 : w3.cell? ⟨gb291, 0, none⟩ = some (.int .i64 a0_0) := (bc_ BK291.out 0).trans rfl
    have hcz6_1 : w3.cell? ⟨gb291, 1, none⟩ = some (.string a0_1) := (bc_ BK291.out 1).trans rfl
    have hcz6_2 : w3.cell? ⟨gb291, 2, none⟩ = some (.slice A0_2 l0_2.length c0_2) := (bc_ BK291.out 2).trans rfl
    have hcz6_3 : w3.cell? ⟨gb291, 3, none⟩ = some (.string a0_3) := (bc_ BK291.out 3).trans rfl
    have hcz6_4 : w3.cell? ⟨gb291, 4, none⟩ = some (.bool a0_4) := (bc_ BK291.out 4).trans rfl
    go_wp2
    go_meet
    case rel => exact ⟨_, (!a0_4), (by first | rfl | (simp; done) | (simp [*]; done)), H', ⟨by first | omega | exact Nat.le_refl _⟩, ⟨by (with_reducible repeat (first | refine dn_ ?_ _ | refine dd_ ?_ | refine da_ ?_ _)); exact BK291.out⟩, ⟨by repeat (first | (with_reducible first | exact HB.out | apply ba_ | apply bn_ | apply b1_ | refine below_set ?_ GE291.out) | exact HB.out)⟩⟩
   ·rw [if_neg c5] at H
    have c5b0 : ((l0_2.length : Int) == 0) = false := beq_eq_false_iff_ne.mpr c5
    have c5b1 : ((l0_2.length : Int) != 0) = true := bne_iff_ne.mpr c5
    have c5b2 : ¬ (l0_2 = []) := fun h_ => c5 (by rw [h_]; rfl)
    have H' := Aside0.mk H
    clear H
    have hcz7_0 : w3.cell? ⟨gb291, 0, none⟩ = some (.int .i64 a0_0) := (bc_ BK291.out 0).trans rfl
    have hcz7_1 : w3.cell? ⟨gb291, 1, none⟩ = some (.string a0_1) := (bc_ BK291.out 1).trans rfl
    have hcz7_2 : w3.cell? ⟨gb291, 2, none⟩ = some (.slice A0_2 l0_2.length c0_2) := (bc_ BK291.out 2).trans rfl
    have hcz7_3 : w3.cell? ⟨gb291, 3, none⟩ = some (.string a0_3) := (bc_ BK291.out 3).trans rfl
    have hcz7_4 : w3.cell? ⟨gb291, 4, none⟩ = some (.bool a0_4) := (bc_ BK291.out 4).trans rfl
    go_wp2
    go_meet
    case rel => exact ⟨_, (false), (by first | rfl | (simp; done) | (simp [*]; done)), H', ⟨by first | omega | exact Nat.le_refl _⟩, ⟨by (with_reducible repeat (first | refine dn_ ?_ _ | refine dd_ ?_ | refine da_ ?_ _)); exact BK291.out⟩, ⟨by repeat (first | (with_reducible first | exact HB.out | apply ba_ | apply bn_ | apply b1_ | refine below_set ?_ GE291.out) | exact HB.out)⟩⟩
  ·rw [if_neg c4] at H
   have c4b0 : (a0_1.toList == ([] : List UInt8)) = false := beq_eq_false_iff_ne.mpr c4
   have c4b1 : (a0_1.toList != ([] : List UInt8)) = true := bne_iff_ne.mpr c4
   (first | rw [c4b0] | (simp only [i64_w, i32_w]; rw [c4b0]) | skip)
   have H' := Aside0.mk H
   clear H
   have hcz8_0 : w3.cell? ⟨gb291, 0, none⟩ = some (.int .i64 a0_0) := (bc_ BK291.out 0).trans rfl
   have hcz8_1 : w3.cell? ⟨gb291, 1, none⟩ = some (.string a0_1) := (bc_ BK291.out 1).trans rfl
   have hcz8_2 : w3.cell? ⟨gb291, 2, none⟩ = some (.slice A0_2 l0_2.length c0_2) := (bc_ BK291.out 2).trans rfl
   have hcz8_3 : w3.cell? ⟨gb291, 3, none⟩ = some (.string a0_3) := (bc_ BK291.out 3).trans rfl
   have hcz8_4 : w3.cell? ⟨gb291, 4, none⟩ = some (.bool a0_4) := (bc_ BK291.out 4).trans rfl
   go_wp2
   go_meet
   case rel => exact ⟨_, (false), (by first | rfl | (simp; done) | (simp [*]; done)), H', ⟨by first | omega | exact Nat.le_refl _⟩, ⟨by (with_reducible repeat (first | refine dn_ ?_ _ | refine dd_ ?_ | refine da_ ?_ _)); exact BK291.out⟩, ⟨by repeat (first | (with_reducible first | exact HB.out | apply ba_ | apply bn_ | apply b1_ | refine below_set ?_ GE291.out) | exact HB.out)⟩⟩
 case rest =>
  clear HC2
  try clear c4
  try clear c4b0
  try clear c4b1
  try clear c5
  try clear c5b0
  try clear c5b1
  try clear c5b2
  try clear hcz6_0
  try clear hcz6_1
  try clear hcz6_2
  try clear hcz6_3
  try clear hcz6_4
  try clear hcz7_0
  try clear hcz7_1
  try clear hcz7_2
  try clear hcz7_3
  try clear hcz7_4
  try clear hcz8_0
  try clear hcz8_1
  try clear hcz8_2
  try clear hcz8_3
  try clear hcz8_4
  obtain ⟨kq, x3_1, rfl, HA, HJ1, BK291, HB⟩ := hcut
  cases kq with
  | zero => exact absurd HA.out (by simp [impl_tokenOk.j0])
  | succ kj1 =>
   have H := HA.out
   clear HA
   simp only [impl_tokenOk.j0] at H
   by_cases c9 : a0_0 = 1
   ·rw [if_pos c9] at H
    have c9b0 : (a0_0 == 1) = true := beq_iff_eq.mpr c9
    have c9b1 : (a0_0 != 1) = false := bne_eq_false_iff_eq.mpr c9
    clear c9
    by_cases c10 : x3_1 = true
    ·subst c10
     have H1 : (if a0_3.toList = ([] : List UInt8) then (some false) else ((impl_plainText.f kj1 a0_3).bind fun t292 => (some t292))) = some r := by rw [if_pos rfl] at H; exact H
     clear H
     have H := H1
     clear H1
     by_cases c11 : a0_3.toList = ([] : List UInt8)
     ·rw [if_pos c11] at H
      have c11b0 : (a0_3.toList == ([] : List UInt8)) = true := beq_iff_eq.mpr c11
      have c11b1 : (a0_3.toList != ([] : List UInt8)) = false := bne_eq_false_iff_eq.mpr c11
      clear c11
      obtain rfl := Option.some.inj H
      have hcz12_0 : wc.cell? ⟨gb291, 0, none⟩ = some (.int .i64 a0_0) := (bc_ BK291.out 0).trans rfl
      have hcz12_1 : wc.cell? ⟨gb291, 1, none⟩ = some (.string a0_1) := (bc_ BK291.out 1).trans rfl
      have hcz12_2 : wc.cell? ⟨gb291, 2, none⟩ = some (.slice A0_2 l0_2.length c0_2) := (bc_ BK291.out 2).trans rfl
      have hcz12_3 : wc.cell? ⟨gb291, 3, none⟩ = some (.string a0_3) := (bc_ BK291.out 3).trans rfl
      have hcz12_4 : wc.cell? ⟨gb291, 4, none⟩ = some (.bool a0_4) := (bc_ BK291.out 4).trans rfl
      go_wp2
      go_ret
      exact ⟨by first | rfl | (rw [← ZA19_A34.out]; rfl) | (rw [← ZA34_A19.out]; rfl) | (simp [errW_none, errW_some] <;> rfl) | (simp [*, errW_none, errW_some] <;> rfl), by repeat (first | (with_reducible first | exact HB.out | apply ba_ | apply bn_ | apply b1_ | refine below_set ?_ GE291.out) | exact HB.out)⟩
     ·rw [if_neg c11] at H
      have c11b0 : (a0_3.toList == ([] : List UInt8)) = false := beq_eq_false_iff_ne.mpr c11
      have c11b1 : (a0_3.toList != ([] : List UInt8)) = true := bne_iff_ne.mpr c11
      replace H := Option.bind_eq_some_iff.mp H
      obtain ⟨t292, A130, H⟩ := H
      replace H : (some t292) = some r := H
      have A13 := Aside0.mk A130
      clear A130
      obtain rfl := Option.some.inj H
      have hcz14_0 : wc.cell? ⟨gb291, 0, none⟩ = some (.int .i64 a0_0) := (bc_ BK291.out 0).trans rfl
      have hcz14_1 : wc.cell? ⟨gb291, 1, none⟩ = some (.string a0_1) := (bc_ BK291.out 1).trans rfl
      have hcz14_2 : wc.cell? ⟨gb291, 2, none⟩ = some (.slice A0_2 l0_2.length c0_2) := (bc_ BK291.out 2).trans rfl
      have hcz14_3 : wc.cell? ⟨gb291, 3, none⟩ = some (.string a0_3) := (bc_ BK291.out 3).trans rfl
      have hcz14_4 : wc.cell? ⟨gb291, 4, none⟩ = some (.bool a0_4) := (bc_ BK291.out 4).trans rfl
      go_wp2_with (first | (go_at_call 125; (with_reducible refine (impl_plainText.calls kj1 a0_3 t292 _ ?side1 A13.out).mono ?_); (case side1 => exact MaxSeen.below HG.out (by repeat (first | (with_reducible first | exact HB.out | apply ba_ | apply bn_ | apply b1_ | refine below_set ?_ GE291.out) | exact HB.out))); rintro e w15 ⟨rfl, hb⟩; have n0_ := Aside0.mk (blk_below (g := gb291) (o := .cells #[.int .i64 a0_0, .string a0_1, .slice A0_2 l0_2.length c0_2, .string a0_3, .bool a0_4] 87 (0, 0)) (by (with_reducible repeat (first | refine dn_ ?_ _ | refine dd_ ?_ | refine da_ ?_ _)); exact BK291.out) hb); have n1_ := Aside0.mk (below_step (by repeat (first | (with_reducible first | exact HB.out | apply ba_ | apply bn_ | apply b1_ | refine below_set ?_ GE291.out) | exact HB.out)) hb); clear BK291; clear HB; have BK291 := n0_; have HB := n1_; clear n0_ n1_; (try clear hb)))
      go_ret
      exact ⟨by first | rfl | (rw [← ZA19_A34.out]; rfl) | (rw [← ZA34_A19.out]; rfl) | (simp [errW_none, errW_some] <;> rfl) | (simp [*, errW_none, errW_some] <;> rfl), by repeat (first | (with_reducible first | exact HB.out | apply ba_ | apply bn_ | apply b1_ | refine below_set ?_ GE291.out) | exact HB.out)⟩
    ·replace c10 := Bool.eq_false_iff.mpr c10
     subst c10
     have H1 : (some false) = some r := by rw [if_neg (show ¬ (false = true) by decide)] at H; exact H
     clear H
     have H := H1
     clear H1
     obtain rfl := Option.some.inj H
     have hcz16_0 : wc.cell? ⟨gb291, 0, none⟩ = some (.int .i64 a0_0) := (bc_ BK291.out 0).trans rfl
     have hcz16_1 : wc.cell? ⟨gb291, 1, none⟩ = some (.string a0_1) := (bc_ BK291.out 1).trans rfl
     have hcz16_2 : wc.cell? ⟨gb291, 2, none⟩ = some (.slice A0_2 l0_2.length c0_2) := (bc_ BK291.out 2).trans rfl
     have hcz16_3 : wc.cell? ⟨gb291, 3, none⟩ = some (.string a0_3) := (bc_ BK291.out 3).trans rfl
     have hcz16_4 : wc.cell? ⟨gb291, 4, none⟩ = some (.bool a0_4) := (bc_ BK291.out 4).trans rfl
     go_wp2
     go_ret
     exact ⟨by first | rfl | (rw [← ZA19_A34.out]; rfl) | (rw [← ZA34_A19.out]; rfl) | (simp [errW_none, errW_some] <;> rfl) | (simp [*, errW_none, errW_some] <;> rfl), by repeat (first | (with_reducible first | exact HB.out | apply ba_ | apply bn_ | apply b1_ | refine below_set ?_ GE291.out) | exact HB.out)⟩
   ·rw [if_neg c9] at H
    have c9b0 : (a0_0 == 1) = false := beq_eq_false_iff_ne.mpr c9
    have c9b1 : (a0_0 != 1) = true := bne_iff_ne.mpr c9
    by_cases c17 : a0_0 = 2
    ·rw [if_pos c17] at H
     have c17b0 : (a0_0 == 2) = true := beq_iff_eq.mpr c17
     have c17b1 : (a0_0 != 2) = false := bne_eq_false_iff_eq.mpr c17
     clear c17
     by_cases c18 : a0_3.toList = ([] : List UInt8)
     ·rw [if_pos c18] at H
      have c18b0 : (a0_3.toList == ([] : List UInt8)) = true := beq_iff_eq.mpr c18
      have c18b1 : (a0_3.toList != ([] : List UInt8)) = false := bne_eq_false_iff_eq.mpr c18
      clear c18
      replace H := Option.bind_eq_some_iff.mp H
      obtain ⟨t293, A190, H⟩ := H
      replace H : (if t293 = true then ((impl_attrsOk.f kj1 l0_2).bind fun t294 => (some t294)) else (some false)) = some r := H
      have A19 := Aside0.mk A190
      clear A190
      try have ZA19_A34 := Aside0.mk (Option.some.inj (A34.out.symm.trans A19.out))
      by_cases c20 : t293 = true
      ·subst c20
       have H1 : ((impl_attrsOk.f kj1 l0_2).bind fun t294 => (some t294)) = some r := by rw [if_pos rfl] at H; exact H
       clear H
       have H := H1
       clear H1
       replace H := Option.bind_eq_some_iff.mp H
       obtain ⟨t294, A210, H⟩ := H
       replace H : (some t294) = some r := H
       have A21 := Aside0.mk A210
       clear A210
       obtain rfl := Option.some.inj H
       have hcz22_0 : wc.cell? ⟨gb291, 0, none⟩ = some (.int .i64 a0_0) := (bc_ BK291.out 0).trans rfl
       have hcz22_1 : wc.cell? ⟨gb291, 1, none⟩ = some (.string a0_1) := (bc_ BK291.out 1).trans rfl
       have hcz22_2 : wc.cell? ⟨gb291, 2, none⟩ = some (.slice A0_2 l0_2.length c0_2) := (bc_ BK291.out 2).trans rfl
       have hcz22_3 : wc.cell? ⟨gb291, 3, none⟩ = some (.string a0_3) := (bc_ BK291.out 3).trans rfl
       have hcz22_4 : wc.cell? ⟨gb291, 4, none⟩ = some (.bool a0_4) := (bc_ BK291.out 4).trans rfl
       go_wp2_with (first | (go_at_call 126; (with_reducible refine (impl_tagNameOk.calls kj1 a0_1 true _ A19.out).mono ?_); rintro e w23 ⟨rfl, hb⟩; have n0_ := Aside0.mk (blk_below (g := gb291) (o := .cells #[.int .i64 a0_0, .string a0_1, .slice A0_2 l0_2.length c0_2, .string a0_3, .bool a0_4] 87 (0, 0)) (by (with_reducible repeat (first | refine dn_ ?_ _ | refine dd_ ?_ | refine da_ ?_ _)); exact BK291.out) hb); have n1_ := Aside0.mk (below_step (by repeat (first | (with_reducible first | exact HB.out | apply ba_ | apply bn_ | apply b1_ | refine below_set ?_ GE291.out) | exact HB.out)) hb); clear BK291; clear HB; have BK291 := n0_; have HB := n1_; clear n0_ n1_; (try clear hb); have hcz24_0 : w23.cell? ⟨gb291, 0, none⟩ = some (.int .i64 a0_0) := (bc_ BK291.out 0).trans rfl; have hcz24_1 : w23.cell? ⟨gb291, 1, none⟩ = some (.string a0_1) := (bc_ BK291.out 1).trans rfl; have hcz24_2 : w23.cell? ⟨gb291, 2, none⟩ = some (.slice A0_2 l0_2.length c0_2) := (bc_ BK291.out 2).trans rfl; have hcz24_3 : w23.cell? ⟨gb291, 3, none⟩ = some (.string a0_3) := (bc_ BK291.out 3).trans rfl; have hcz24_4 : w23.cell? ⟨gb291, 4, none⟩ = some (.bool a0_4) := (bc_ BK291.out 4).trans rfl) | (go_at_call 127; (with_reducible refine (impl_attrsOk.calls kj1 _ _ l0_2 t294 _ ?side1 ?side2 ?side3 A21.out).mono ?_); (case side1 => repeat (first | exact (Kd.C_below HR0_2.out HB.out) | (with_reducible refine ca_ ?_ _) | (with_reducible refine cn_ ?_ _) | (with_reducible refine cd_ ?_))); (case side2 => exact HC0_2.out); (case side3 => exact MaxSeen.below HG.out (by repeat (first | (with_reducible first | exact HB.out | apply ba_ | apply bn_ | apply b1_ | refine below_set ?_ GE291.out) | exact HB.out))); rintro e w25 ⟨rfl, hb⟩; have n0_ := Aside0.mk (blk_below (g := gb291) (o := .cells #[.int .i64 a0_0, .string a0_1, .slice A0_2 l0_2.length c0_2, .string a0_3, .bool a0_4] 87 (0, 0)) (by (with_reducible repeat (first | refine dn_ ?_ _ | refine dd_ ?_ | refine da_ ?_ _)); exact BK291.out) hb); have n1_ := Aside0.mk (below_step (by repeat (first | (with_reducible first | exact HB.out | apply ba_ | apply bn_ | apply b1_ | refine below_set ?_ GE291.out) | exact HB.out)) hb); clear BK291; clear HB; have BK291 := n0_; have HB := n1_; clear n0_ n1_; (try clear hb)))
       go_ret
       exact ⟨by first | rfl | (rw [← ZA19_A34.out]; rfl) | (rw [← ZA34_A19.out]; rfl) | (simp [errW_none, errW_some] <;> rfl) | (simp [*, errW_none, errW_some] <;> rfl), by repeat (first | (with_reducible first | exact HB.out | apply ba_ | apply bn_ | apply b1_ | refine below_set ?_ GE291.out) | exact HB.out)⟩
      ·replace c20 := Bool.eq_false_iff.mpr c20
       subst c20
       have H1 : (some false) = some r := by rw [if_neg (show ¬ (false = true) by decide)] at H; exact H
       clear H
       have H := H1
       clear H1
       obtain rfl := Option.some.inj H
       have hcz26_0 : wc.cell? ⟨gb291, 0, none⟩ = some (.int .i64 a0_0) := (bc_ BK291.out 0).trans rfl
       have hcz26_1 : wc.cell? ⟨gb291, 1, none⟩ = some (.string a0_1) := (bc_ BK291.out 1).trans rfl
       have hcz26_2 : wc.cell? ⟨gb291, 2, none⟩ = some (.slice A0_2 l0_2.length c0_2) := (bc_ BK291.out 2).trans rfl
       have hcz26_3 : wc.cell? ⟨gb291, 3, none⟩ = some (.string a0_3) := (bc_ BK291.out 3).trans rfl
       have hcz26_4 : wc.cell? ⟨gb291, 4, none⟩ = some (.bool a0_4) := (bc_ BK291.out 4).trans rfl
       go_wp2_with (first | (go_at_call 126; (with_reducible refine (impl_tagNameOk.calls kj1 a0_1 false _ A19.out).mono ?_); rintro e w27 ⟨rfl, hb⟩; have n0_ := Aside0.mk (blk_below (g := gb291) (o := .cells #[.int .i64 a0_0, .string a0_1, .slice A0_2 l0_2.length c0_2, .string a0_3, .bool a0_4] 87 (0, 0)) (by (with_reducible repeat (first | refine dn_ ?_ _ | refine dd_ ?_ | refine da_ ?_ _)); exact BK291.out) hb); have n1_ := Aside0.mk (below_step (by repeat (first | (with_reducible first | exact HB.out | apply ba_ | apply bn_ | apply b1_ | refine below_set ?_ GE291.out) | exact HB.out)) hb); clear BK291; clear HB; have BK291 := n0_; have HB := n1_; clear n0_ n1_; (try clear hb)))
       go_ret
       exact ⟨by first | rfl | (rw [← ZA19_A34.out]; rfl) | (rw [← ZA34_A19.out]; rfl) | (simp [errW_none, errW_some] <;> rfl) | (simp [*, errW_none, errW_some] <;> rfl), by repeat (first | (with_reducible first | exact HB.out | apply ba_ | apply bn_ | apply b1_ | refine below_set ?_ GE291.out) | exact HB.out)⟩
     ·rw [if_neg c18] at H
      have c18b0 : (a0_3.toList == ([] : List UInt8)) = false := beq_eq_false_iff_ne.mpr c18
      have c18b1 : (a0_3.toList != ([] : List UInt8)) = true := bne_iff_ne.mpr c18
      obtain rfl := Option.some.inj H
      have hcz28_0 : wc.cell? ⟨gb291, 0, none⟩ = some (.int .i64 a0_0) := (bc_ BK291.out 0).trans rfl
      have hcz28_1 : wc.cell? ⟨gb291, 1, none⟩ = some (.string a0_1) := (bc_ BK291.out 1).trans rfl
      have hcz28_2 : wc.cell? ⟨gb291, 2, none⟩ = some (.slice A0_2 l0_2.length c0_2) := (bc_ BK291.out 2).trans rfl
      have hcz28_3 : wc.cell? ⟨gb291, 3, none⟩ = some (.string a0_3) := (bc_ BK291.out 3).trans rfl
      have hcz28_4 : wc.cell? ⟨gb291, 4, none⟩ = some (.bool a0_4) := (bc_ BK291.out 4).trans rfl
      go_wp2
      go_ret
      exact ⟨by first | rfl | (rw [← ZA19_A34.out]; rfl) | (rw [← ZA34_A19.out]; rfl) | (simp [errW_none, errW_some] <;> rfl) | (simp [*, errW_none, errW_some] <;> rfl), by repeat (first | (with_reducible first | exact HB.out | apply ba_ | apply bn_ | apply b1_ | refine below_set ?_ GE291.out) | exact HB.out)⟩
    ·rw [if_neg c17] at H
     have c17b0 : (a0_0 == 2) = false := beq_eq_false_iff_ne.mpr c17
     have c17b1 : (a0_0 != 2) = true := bne_iff_ne.mpr c17
     by_cases c29 : a0_0 = 3
     ·rw [if_pos c29] at H
      have c29b0 : (a0_0 == 3) = true := beq_iff_eq.mpr c29
      have c29b1 : (a0_0 != 3) = false := bne_eq_false_iff_eq.mpr c29
      clear c29
      by_cases c30 : a0_3.toList = ([] : List UInt8)
      ·rw [if_pos c30] at H
       have c30b0 : (a0_3.toList == ([] : List UInt8)) = true := beq_iff_eq.mpr c30
       have c30b1 : (a0_3.toList != ([] : List UInt8)) = false := bne_eq_false_iff_eq.mpr c30
       clear c30
       by_cases c31 : (l0_2.length : Int) = 0
       ·rw [if_pos c31] at H
        have c31b0 : ((l0_2.length : Int) == 0) = true := beq_iff_eq.mpr c31
        have c31b1 : ((l0_2.length : Int) != 0) = false := bne_eq_false_iff_eq.mpr c31
        clear c31
        by_cases c32 : a0_4 = true
        ·subst c32
         have H1 : (some false) = some r := by rw [if_pos rfl] at H; exact H
         clear H
         have H := H1
         clear H1
         obtain rfl := Option.some.inj H
         have hcz33_0 : wc.cell? ⟨gb291, 0, none⟩ = some (.int .i64 a0_0) := (bc_ BK291.out 0).trans rfl
         have hcz33_1 : wc.cell? ⟨gb291, 1, none⟩ = some (.string a0_1) := (bc_ BK291.out 1).trans rfl
         have hcz33_2 : wc.cell? ⟨gb291, 2, none⟩ = some (.slice A0_2 l0_2.length c0_2) := (bc_ BK291.out 2).trans rfl
         have hcz33_3 : wc.cell? ⟨gb291, 3, none⟩ = some (.string a0_3) := (bc_ BK291.out 3).trans rfl
         have hcz33_4 : wc.cell? ⟨gb291, 4, none⟩ = some (.bool true) := (bc_ BK291.out 4).trans rfl
         go_wp2
         go_ret
         exact ⟨by first | rfl | (rw [← ZA19_A34.out]; rfl) | (rw [← ZA34_A19.out]; rfl) | (simp [errW_none, errW_some] <;> rfl) | (simp [*, errW_none, errW_some] <;> rfl), by repeat (first | (with_reducible first | exact HB.out | apply ba_ | apply bn_ | apply b1_ | refine below_set ?_ GE291.out) | exact HB.out)⟩
        ·replace c32 := Bool.eq_false_iff.mpr c32
         subst c32
         have H1 : ((impl_tagNameOk.f kj1 a0_1).bind fun t295 => (some t295)) = some r := by rw [if_neg (show ¬ (false = true) by decide)] at H; exact H
         clear H
         have H := H1
         clear H1
         replace H := Option.bind_eq_some_iff.mp H
         obtain ⟨t295, A340, H⟩ := H
         replace H : (some t295) = some r := H
         have A34 := Aside0.mk A340
         clear A340
         try have ZA34_A19 := Aside0.mk (Option.some.inj (A19.out.symm.trans A34.out))
         obtain rfl := Option.some.inj H
         have hcz35_0 : wc.cell? ⟨gb291, 0, none⟩ = some (.int .i64 a0_0) := (bc_ BK291.out 0).trans rfl
         have hcz35_1 : wc.cell? ⟨gb291, 1, none⟩ = some (.string a0_1) := (bc_ BK291.out 1).trans rfl
         have hcz35_2 : wc.cell? ⟨gb291, 2, none⟩ = some (.slice A0_2 l0_2.length c0_2) := (bc_ BK291.out 2).trans rfl
         have hcz35_3 : wc.cell? ⟨gb291, 3, none⟩ = some (.string a0_3) := (bc_ BK291.out 3).trans rfl
         have hcz35_4 : wc.cell? ⟨gb291, 4, none⟩ = some (.bool false) := (bc_ BK291.out 4).trans rfl
         go_wp2_with (first | (go_at_call 126; (with_reducible refine (impl_tagNameOk.calls kj1 a0_1 t295 _ A34.out).mono ?_); rintro e w36 ⟨rfl, hb⟩; have n0_ := Aside0.mk (blk_below (g := gb291) (o := .cells #[.int .i64 a0_0, .string a0_1, .slice A0_2 l0_2.length c0_2, .string a0_3, .bool false] 87 (0, 0)) (by (with_reducible repeat (first | refine dn_ ?_ _ | refine dd_ ?_ | refine da_ ?_ _)); exact BK291.out) hb); have n1_ := Aside0.mk (below_step (by repeat (first | (with_reducible first | exact HB.out | apply ba_ | apply bn_ | apply b1_ | refine below_set ?_ GE291.out) | exact HB.out)) hb); clear BK291; clear HB; have BK291 := n0_; have HB := n1_; clear n0_ n1_; (try clear hb)))
         go_ret
         exact ⟨by first | rfl | (rw [← ZA19_A34.out]; rfl) | (rw [← ZA34_A19.out]; rfl) | (simp [errW_none, errW_some] <;> rfl) | (simp [*, errW_none, errW_some] <;> rfl), by repeat (first | (with_reducible first | exact HB.out | apply ba_ | apply bn_ | apply b1_ | refine below_set ?_ GE291.out) | exact HB.out)⟩
       ·rw [if_neg c31] at H
        have c31b0 : ((l0_2.length : Int) == 0) = false := beq_eq_false_iff_ne.mpr c31
        have c31b1 : ((l0_2.length : Int) != 0) = true := bne_iff_ne.mpr c31
        have c31b2 : ¬ (l0_2 = []) := fun h_ => c31 (by rw [h_]; rfl)
        obtain rfl := Option.some.inj H
        have hcz37_0 : wc.cell? ⟨gb291, 0, none⟩ = some (.int .i64 a0_0) := (bc_ BK291.out 0).trans rfl
        have hcz37_1 : wc.cell? ⟨gb291, 1, none⟩ = some (.string a0_1) := (bc_ BK291.out 1).trans rfl
        have hcz37_2 : wc.cell? ⟨gb291, 2, none⟩ = some (.slice A0_2 l0_2.length c0_2) := (bc_ BK291.out 2).trans rfl
        have hcz37_3 : wc.cell? ⟨gb291, 3, none⟩ = some (.string a0_3) := (bc_ BK291.out 3).trans rfl
        have hcz37_4 : wc.cell? ⟨gb291, 4, none⟩ = some (.bool a0_4) := (bc_ BK291.out 4).trans rfl
        go_wp2
        go_ret
        exact ⟨by first | rfl | (rw [← ZA19_A34.out]; rfl) | (rw [← ZA34_A19.out]; rfl) | (simp [errW_none, errW_some] <;> rfl) | (simp [*, errW_none, errW_some] <;> rfl), by repeat (first | (with_reducible first | exact HB.out | apply ba_ | apply bn_ | apply b1_ | refine below_set ?_ GE291.out) | exact HB.out)⟩
      ·rw [if_neg c30] at H
       have c30b0 : (a0_3.toList == ([] : List UInt8)) = false := beq_eq_false_iff_ne.mpr c30
       have c30b1 : (a0_3.toList != ([] : List UInt8)) = true := bne_iff_ne.mpr c30
       obtain rfl := Option.some.inj H
       have hcz38_0 : wc.cell? ⟨gb291, 0, none⟩ = some (.int .i64 a0_0) := (bc_ BK291.out 0).trans rfl
       have hcz38_1 : wc.cell? ⟨gb291, 1, none⟩ = some (.string a0_1) := (bc_ BK291.out 1).trans rfl
       have hcz38_2 : wc.cell? ⟨gb291, 2, none⟩ = some (.slice A0_2 l0_2.length c0_2) := (bc_ BK291.out 2).trans rfl
       have hcz38_3 : wc.cell? ⟨gb291, 3, none⟩ = some (.string a0_3) := (bc_ BK291.out 3).trans rfl
       have hcz38_4 : wc.cell? ⟨gb291, 4, none⟩ = some (.bool a0_4) := (bc_ BK291.out 4).trans rfl
       go_wp2
       go_ret
       exact ⟨by first | rfl | (rw [← ZA19_A34.out]; rfl) | (rw [← ZA34_A19.out]; rfl) | (simp [errW_none, errW_some] <;> rfl) | (simp [*, errW_none, errW_some] <;> rfl), by repeat (first | (with_reducible first | exact HB.out | apply ba_ | apply bn_ | apply b1_ | refine below_set ?_ GE291.out) | exact HB.out)⟩
     ·rw [if_neg c29] at H
      have c29b0 : (a0_0 == 3) = false := beq_eq_false_iff_ne.mpr c29
      have c29b1 : (a0_0 != 3) = true := bne_iff_ne.mpr c29
      by_cases c39 : a0_0 = 4
      ·rw [if_pos c39] at H
       have c39b0 : (a0_0 == 4) = true := beq_iff_eq.mpr c39
       have c39b1 : (a0_0 != 4) = false := bne_eq_false_iff_eq.mpr c39
       clear c39
       by_cases c40 : x3_1 = true
       ·subst c40
        have H1 : ((impl_noteOk.f kj1 a0_3).bind fun t296 => (some t296)) = some r := by rw [if_pos rfl] at H; exact H
        clear H
        have H := H1
        clear H1
        replace H := Option.bind_eq_some_iff.mp H
        obtain ⟨t296, A410, H⟩ := H
        replace H : (some t296) = some r := H
        have A41 := Aside0.mk A410
        clear A410
        obtain rfl := Option.some.inj H
        have hcz42_0 : wc.cell? ⟨gb291, 0, none⟩ = some (.int .i64 a0_0) := (bc_ BK291.out 0).trans rfl
        have hcz42_1 : wc.cell? ⟨gb291, 1, none⟩ = some (.string a0_1) := (bc_ BK291.out 1).trans rfl
        have hcz42_2 : wc.cell? ⟨gb291, 2, none⟩ = some (.slice A0_2 l0_2.length c0_2) := (bc_ BK291.out 2).trans rfl
        have hcz42_3 : wc.cell? ⟨gb291, 3, none⟩ = some (.string a0_3) := (bc_ BK291.out 3).trans rfl
        have hcz42_4 : wc.cell? ⟨gb291, 4, none⟩ = some (.bool a0_4) := (bc_ BK291.out 4).trans rfl
        go_wp2_with (first | (go_at_call 128; (with_reducible refine (impl_noteOk.calls kj1 a0_3 t296 _ ?side1 A41.out).mono ?_); (case side1 => exact MaxSeen.below HG.out (by repeat (first | (with_reducible first | exact HB.out | apply ba_ | apply bn_ | apply b1_ | refine below_set ?_ GE291.out) | exact HB.out))); rintro e w43 ⟨rfl, hb⟩; have n0_ := Aside0.mk (blk_below (g := gb291) (o := .cells #[.int .i64 a0_0, .string a0_1, .slice A0_2 l0_2.length c0_2, .string a0_3, .bool a0_4] 87 (0, 0)) (by (with_reducible repeat (first | refine dn_ ?_ _ | refine dd_ ?_ | refine da_ ?_ _)); exact BK291.out) hb); have n1_ := Aside0.mk (below_step (by repeat (first | (with_reducible first | exact HB.out | apply ba_ | apply bn_ | apply b1_ | refine below_set ?_ GE291.out) | exact HB.out)) hb); clear BK291; clear HB; have BK291 := n0_; have HB := n1_; clear n0_ n1_; (try clear hb)))
        go_ret
        exact ⟨by first | rfl | (rw [← ZA19_A34.out]; rfl) | (rw [← ZA34_A19.out]; rfl) | (simp [errW_none, errW_some] <;> rfl) | (simp [*, errW_none, errW_some] <;> rfl), by repeat (first | (with_reducible first | exact HB.out | apply ba_ | apply bn_ | apply b1_ | refine below_set ?_ GE291.out) | exact HB.out)⟩
       ·replace c40 := Bool.eq_false_iff.mpr c40
        subst c40
        have H1 : (some false) = some r := by rw [if_neg (show ¬ (false = true) by decide)] at H; exact H
        clear H
        have H := H1
        clear H1
        obtain rfl := Option.some.inj H
        have hcz44_0 : wc.cell? ⟨gb291, 0, none⟩ = some (.int .i64 a0_0) := (bc_ BK291.out 0).trans rfl
        have hcz44_1 : wc.cell? ⟨gb291, 1, none⟩ = some (.string a0_1) := (bc_ BK291.out 1).trans rfl
        have hcz44_2 : wc.cell? ⟨gb291, 2, none⟩ = some (.slice A0_2 l0_2.length c0_2) := (bc_ BK291.out 2).trans rfl
        have hcz44_3 : wc.cell? ⟨gb291, 3, none⟩ = some (.string a0_3) := (bc_ BK291.out 3).trans rfl
        have hcz44_4 : wc.cell? ⟨gb291, 4, none⟩ = some (.bool a0_4) := (bc_ BK291.out 4).trans rfl
        go_wp2
        go_ret
        exact ⟨by first | rfl | (rw [← ZA19_A34.out]; rfl) | (rw [← ZA34_A19.out]; rfl) | (simp [errW_none, errW_some] <;> rfl) | (simp [*, errW_none, errW_some] <;> rfl), by repeat (first | (with_reducible first | exact HB.out | apply ba_ | apply bn_ | apply b1_ | refine below_set ?_ GE291.out) | exact HB.out)⟩
      ·rw [if_neg c39] at H
       have c39b0 : (a0_0 == 4) = false := beq_eq_false_iff_ne.mpr c39
       have c39b1 : (a0_0 != 4) = true := bne_iff_ne.mpr c39
       by_cases c45 : a0_0 = 5
       ·rw [if_pos c45] at H
        have c45b0 : (a0_0 == 5) = true := beq_iff_eq.mpr c45
        have c45b1 : (a0_0 != 5) = false := bne_eq_false_iff_eq.mpr c45
        clear c45
        by_cases c46 : x3_1 = true
        ·subst c46
         have H1 : ((impl_kindOk.f kj1 a0_3).bind fun t297 => (some t297)) = some r := by rw [if_pos rfl] at H; exact H
         clear H
         have H := H1
         clear H1
         replace H := Option.bind_eq_some_iff.mp H
         obtain ⟨t297, A470, H⟩ := H
         replace H : (some t297) = some r := H
         have A47 := Aside0.mk A470
         clear A470
         obtain rfl := Option.some.inj H
         have hcz48_0 : wc.cell? ⟨gb291, 0, none⟩ = some (.int .i64 a0_0) := (bc_ BK291.out 0).trans rfl
         have hcz48_1 : wc.cell? ⟨gb291, 1, none⟩ = some (.string a0_1) := (bc_ BK291.out 1).trans rfl
         have hcz48_2 : wc.cell? ⟨gb291, 2, none⟩ = some (.slice A0_2 l0_2.length c0_2) := (bc_ BK291.out 2).trans rfl
         have hcz48_3 : wc.cell? ⟨gb291, 3, none⟩ = some (.string a0_3) := (bc_ BK291.out 3).trans rfl
         have hcz48_4 : wc.cell? ⟨gb291, 4, none⟩ = some (.bool a0_4) := (bc_ BK291.out 4).trans rfl
         go_wp2_with (first | (go_at_call 129; (with_reducible refine (impl_kindOk.calls kj1 a0_3 t297 _ ?side1 A47.out).mono ?_); (case side1 => exact MaxSeen.below HG.out (by repeat (first | (with_reducible first | exact HB.out | apply ba_ | apply bn_ | apply b1_ | refine below_set ?_ GE291.out) | exact HB.out))); rintro e w49 ⟨rfl, hb⟩; have n0_ := Aside0.mk (blk_below (g := gb291) (o := .cells #[.int .i64 a0_0, .string a0_1, .slice A0_2 l0_2.length c0_2, .string a0_3, .bool a0_4] 87 (0, 0)) (by (with_reducible repeat (first | refine dn_ ?_ _ | refine dd_ ?_ | refine da_ ?_ _)); exact BK291.out) hb); have n1_ := Aside0.mk (below_step (by repeat (first | (with_reducible first | exact HB.out | apply ba_ | apply bn_ | apply b1_ | refine below_set ?_ GE291.out) | exact HB.out)) hb); clear BK291; clear HB; have BK291 := n0_; have HB := n1_; clear n0_ n1_; (try clear hb)))
         go_ret
         exact ⟨by first | rfl | (rw [← ZA19_A34.out]; rfl) | (rw [← ZA34_A19.out]; rfl) | (simp [errW_none, errW_some] <;> rfl) | (simp [*, errW_none, errW_some] <;> rfl), by repeat (first | (with_reducible first | exact HB.out | apply ba_ | apply bn_ | apply b1_ | refine below_set ?_ GE291.out) | exact HB.out)⟩
        ·replace c46 := Bool.eq_false_iff.mpr c46
         subst c46
         have H1 : (some false) = some r := by rw [if_neg (show ¬ (false = true) by decide)] at H; exact H
         clear H
         have H := H1
         clear H1
         obtain rfl := Option.some.inj H
         have hcz50_0 : wc.cell? ⟨gb291, 0, none⟩ = some (.int .i64 a0_0) := (bc_ BK291.out 0).trans rfl
         have hcz50_1 : wc.cell? ⟨gb291, 1, none⟩ = some (.string a0_1) := (bc_ BK291.out 1).trans rfl
         have hcz50_2 : wc.cell? ⟨gb291, 2, none⟩ = some (.slice A0_2 l0_2.length c0_2) := (bc_ BK291.out 2).trans rfl
         have hcz50_3 : wc.cell? ⟨gb291, 3, none⟩ = some (.string a0_3) := (bc_ BK291.out 3).trans rfl
         have hcz50_4 : wc.cell? ⟨gb291, 4, none⟩ = some (.bool a0_4) := (bc_ BK291.out 4).trans rfl
         go_wp2
         go_ret
         exact ⟨by first | rfl | (rw [← ZA19_A34.out]; rfl) | (rw [← ZA34_A19.out]; rfl) | (simp [errW_none, errW_some] <;> rfl) | (simp [*, errW_none, errW_some] <;> rfl), by repeat (first | (with_reducible first | exact HB.out | apply ba_ | apply bn_ | apply b1_ | refine below_set ?_ GE291.out) | exact HB.out)⟩
       ·rw [if_neg c45] at H
        have c45b0 : (a0_0 == 5) = false := beq_eq_false_iff_ne.mpr c45
        have c45b1 : (a0_0 != 5) = true := bne_iff_ne.mpr c45
        obtain rfl := Option.some.inj H
        have hcz51_0 : wc.cell? ⟨gb291, 0, none⟩ = some (.int .i64 a0_0) := (bc_ BK291.out 0).trans rfl
        have hcz51_1 : wc.cell? ⟨gb291, 1, none⟩ = some (.string a0_1) := (bc_ BK291.out 1).trans rfl
        have hcz51_2 : wc.cell? ⟨gb291, 2, none⟩ = some (.slice A0_2 l0_2.length c0_2) := (bc_ BK291.out 2).trans rfl
        have hcz51_3 : wc.cell? ⟨gb291, 3, none⟩ = some (.string a0_3) := (bc_ BK291.out 3).trans rfl
        have hcz51_4 : wc.cell? ⟨gb291, 4, none⟩ = some (.bool a0_4) := (bc_ BK291.out 4).trans rfl
        go_wp2
        go_ret
        exact ⟨by first | rfl | (rw [← ZA19_A34.out]; rfl) | (rw [← ZA34_A19.out]; rfl) | (simp [errW_none, errW_some] <;> rfl) | (simp [*, errW_none, errW_some] <;> rfl), by repeat (first | (with_reducible first | exact HB.out | apply ba_ | apply bn_ | apply b1_ | refine below_set ?_ GE291.out) | exact HB.out)⟩
end Go.Proofs.Yteafgjebaedjbaa.PFnExactTokensOk
