-- Written by this session's program wip/slim.py out of the print's texts. Lean checks it.
import Derived.Test.YteafgjebaedjbaaSFnExactTokensOkx0
import Derived.Test.YteafgjebaedjbaaSFnExactTokensOkx3
namespace Go.Proofs.Yteafgjebaedjbaa.PFnExactTokensOk
open Go.RowKit Go.Proofs.YteafgjebaedjbaaW.PrintWords Go.Proofs.YteafgjebaedjbaaW.PrintLast Go.Proofs.YteafgjebaedjbaaW.PrintMore
attribute [local go_sem] max2_int min2_int max_two min_two max_three min_three max_four min_four
set_option linter.unusedVariables false
set_option linter.unusedSimpArgs false
def spec_Raw.f (a0 : ByteArray) : Option (Bool) := if a0.toList = ([115, 99, 114, 105, 112, 116] : List UInt8) then (some true) else (if a0.toList = ([115, 116, 121, 108, 101] : List UInt8) then (some true) else (if a0.toList = ([116, 105, 116, 108, 101] : List UInt8) then (some true) else (some (a0.toList == ([116, 101, 120, 116, 97, 114, 101, 97] : List UInt8)))))
set_option maxHeartbeats 8000000 in
set_option maxRecDepth 100000 in
theorem spec_Raw.calls (a0 : ByteArray) (r : Bool) (w : World) (h : spec_Raw.f a0 = some r) :
  Calls Try.prog 121 #[.string a0] w fun e w' => e = .returned (.bool r) ∧ Drawn0 w w' := by
 have H : (if a0.toList = ([115, 99, 114, 105, 112, 116] : List UInt8) then (some true) else (if a0.toList = ([115, 116, 121, 108, 101] : List UInt8) then (some true) else (if a0.toList = ([116, 105, 116, 108, 101] : List UInt8) then (some true) else (some (a0.toList == ([116, 101, 120, 116, 97, 114, 101, 97] : List UInt8)))))) = some r := h
 clear h
 by_cases c2 : a0.toList = ([115, 99, 114, 105, 112, 116] : List UInt8)
 ·rw [if_pos c2] at H
  have c2b0 : (a0.toList == ([115, 99, 114, 105, 112, 116] : List UInt8)) = true := beq_iff_eq.mpr c2
  have c2b1 : (a0.toList != ([115, 99, 114, 105, 112, 116] : List UInt8)) = false := bne_eq_false_iff_eq.mpr c2
  clear c2
  obtain rfl := Option.some.inj H
  go_enter Try.func121, Try.ntmps121
  go_wp2
  go_ret
  exact ⟨by first | rfl | (simp; done) | (simp [*]; done), by repeat (first | exact Drawn0.refl _ | apply Drawn0.step)⟩
 ·rw [if_neg c2] at H
  have c2b0 : (a0.toList == ([115, 99, 114, 105, 112, 116] : List UInt8)) = false := beq_eq_false_iff_ne.mpr c2
  have c2b1 : (a0.toList != ([115, 99, 114, 105, 112, 116] : List UInt8)) = true := bne_iff_ne.mpr c2
  by_cases c3 : a0.toList = ([115, 116, 121, 108, 101] : List UInt8)
  ·rw [if_pos c3] at H
   have c3b0 : (a0.toList == ([115, 116, 121, 108, 101] : List UInt8)) = true := beq_iff_eq.mpr c3
   have c3b1 : (a0.toList != ([115, 116, 121, 108, 101] : List UInt8)) = false := bne_eq_false_iff_eq.mpr c3
   clear c3
   obtain rfl := Option.some.inj H
   go_enter Try.func121, Try.ntmps121
   go_wp2
   go_ret
   exact ⟨by first | rfl | (simp; done) | (simp [*]; done), by repeat (first | exact Drawn0.refl _ | apply Drawn0.step)⟩
  ·rw [if_neg c3] at H
   have c3b0 : (a0.toList == ([115, 116, 121, 108, 101] : List UInt8)) = false := beq_eq_false_iff_ne.mpr c3
   have c3b1 : (a0.toList != ([115, 116, 121, 108, 101] : List UInt8)) = true := bne_iff_ne.mpr c3
   by_cases c4 : a0.toList = ([116, 105, 116, 108, 101] : List UInt8)
   ·rw [if_pos c4] at H
    have c4b0 : (a0.toList == ([116, 105, 116, 108, 101] : List UInt8)) = true := beq_iff_eq.mpr c4
    have c4b1 : (a0.toList != ([116, 105, 116, 108, 101] : List UInt8)) = false := bne_eq_false_iff_eq.mpr c4
    clear c4
    obtain rfl := Option.some.inj H
    go_enter Try.func121, Try.ntmps121
    go_wp2
    go_ret
    exact ⟨by first | rfl | (simp; done) | (simp [*]; done), by repeat (first | exact Drawn0.refl _ | apply Drawn0.step)⟩
   ·rw [if_neg c4] at H
    have c4b0 : (a0.toList == ([116, 105, 116, 108, 101] : List UInt8)) = false := beq_eq_false_iff_ne.mpr c4
    have c4b1 : (a0.toList != ([116, 105, 116, 108, 101] : List UInt8)) = true := bne_iff_ne.mpr c4
    obtain rfl := Option.some.inj H
    go_enter Try.func121, Try.ntmps121
    go_wp2
    go_ret
    exact ⟨by first | rfl | (simp; done) | (simp [*]; done), by repeat (first | exact Drawn0.refl _ | apply Drawn0.step)⟩
def spec_l5Bare.f (l0 : List (S87)) (a1 : Int) : Option (Bool) := if a1 > 0 then (if 0 ≤ (wrap64 (a1 - 1)) then (if (wrap64 (a1 - 1)) < (l0.length : Int) then (if ((rd_T87 l0 (wrap64 (a1 - 1))).f0) = 2 then (if ((rd_T87 l0 (wrap64 (a1 - 1))).f4 = true) then (some false) else (if ((rd_T87 l0 (wrap64 (a1 - 1))).f1).toList = ([115, 99, 114, 105, 112, 116] : List UInt8) then (some true) else (some (((rd_T87 l0 (wrap64 (a1 - 1))).f1).toList == ([115, 116, 121, 108, 101] : List UInt8))))) else (some false)) else (none)) else (none)) else (some false)
set_option maxHeartbeats 8000000 in
set_option maxRecDepth 100000 in
theorem spec_l5Bare.calls (A0 : Option Addr) (c0 : Nat) (l0 : List (S87)) (a1 : Int) (r : Bool) (w : World) (hr0 : Kd.C k87 w A0 l0.length l0) (hc0 : l0.length ≤ c0) (h : spec_l5Bare.f l0 a1 = some r) :
  Calls Try.prog 122 #[.slice A0 l0.length c0, .int .i64 a1] w fun e w' => e = .returned (.bool r) ∧ Drawn0 w w' := by
 have HR0 := Aside0.mk hr0
 have HC0 := Aside0.mk hc0
 clear hr0 hc0
 have H : (if a1 > 0 then (if 0 ≤ (wrap64 (a1 - 1)) then (if (wrap64 (a1 - 1)) < (l0.length : Int) then (if ((rd_T87 l0 (wrap64 (a1 - 1))).f0) = 2 then (if ((rd_T87 l0 (wrap64 (a1 - 1))).f4 = true) then (some false) else (if ((rd_T87 l0 (wrap64 (a1 - 1))).f1).toList = ([115, 99, 114, 105, 112, 116] : List UInt8) then (some true) else (some (((rd_T87 l0 (wrap64 (a1 - 1))).f1).toList == ([115, 116, 121, 108, 101] : List UInt8))))) else (some false)) else (none)) else (none)) else (some false)) = some r := h
 clear h
 by_cases c3 : a1 > 0
 ·rw [if_pos c3] at H
  have c3b0 : decide (0 < a1) = true := decide_eq_true c3
  clear c3
  obtain ⟨ji4, hji4⟩ : ∃ j_ : Int, (wrap64 (a1 - 1)) = j_ := ⟨_, rfl⟩
  replace H : (if 0 ≤ (ji4) then (if (ji4) < (l0.length : Int) then (if ((rd_T87 l0 (ji4)).f0) = 2 then (if ((rd_T87 l0 (ji4)).f4 = true) then (some false) else (if ((rd_T87 l0 (ji4)).f1).toList = ([115, 99, 114, 105, 112, 116] : List UInt8) then (some true) else (some (((rd_T87 l0 (ji4)).f1).toList == ([115, 116, 121, 108, 101] : List UInt8))))) else (some false)) else (none)) else (none)) = some r := by first | (rw [hji4] at H; exact H) | (simp only [hji4] at H ⊢; exact H)
  have hji4w : (IntKind.i64.wrap (a1 - 1)) = ji4 := (i64_w _).trans hji4
  by_cases c5 : 0 ≤ (ji4)
  ·rw [if_pos c5] at H
   have c5b0 : decide (0 ≤ (ji4)) = true := decide_eq_true c5
   clear c5
   by_cases c6 : (ji4) < (l0.length : Int)
   ·rw [if_pos c6] at H
    have c6b0 : decide ((ji4) < (l0.length : Int)) = true := decide_eq_true c6
    clear c6
    by_cases c7 : ((rd_T87 l0 (ji4)).f0) = 2
    ·rw [if_pos c7] at H
     have c7b0 : (((rd_T87 l0 (ji4)).f0) == 2) = true := beq_iff_eq.mpr c7
     have c7b1 : (((rd_T87 l0 (ji4)).f0) != 2) = false := bne_eq_false_iff_eq.mpr c7
     clear c7
     obtain ⟨bq8, hbq8⟩ : ∃ b_ : Bool, b_ = ((rd_T87 l0 (ji4)).f4) := ⟨_, rfl⟩
     replace H : (if (bq8 = true) then (some false) else (if ((rd_T87 l0 (ji4)).f1).toList = ([115, 99, 114, 105, 112, 116] : List UInt8) then (some true) else (some (((rd_T87 l0 (ji4)).f1).toList == ([115, 116, 121, 108, 101] : List UInt8))))) = some r := by rw [← hbq8] at H; exact H
     have Nbq8 := Aside0.mk hbq8
     clear hbq8
     by_cases c9 : (bq8 = true)
     ·subst c9
      have H1 : (some false) = some r := by rw [if_pos rfl] at H; exact H
      clear H
      have H := H1
      clear H1
      obtain rfl := Option.some.inj H
      have p184 : 0 ≤ ((ji4) : Int) := dq_ (by assumption)
      have q184 : (ji4) < (l0.length : Int) := dq_ (by assumption)
      obtain ⟨ad184, A184_2, c184_2, e184, hx184_0, hx184_1, hx184_2, hx184_3, hx184_4, hl184_2, hi184_2⟩ := at_T87 HR0.out (ji4) p184 q184
      (try rw [← Nbq8.out] at hx184_4)
      cases e184
      have HR184_2 := Aside0.mk hi184_2
      have HC184_2 := Aside0.mk hl184_2
      clear hi184_2 hl184_2
      replace p184 := eq_true p184
      replace q184 := eq_true q184
      have p185 : 0 ≤ ((ji4) : Int) := dq_ (by assumption)
      have q185 : (ji4) < (l0.length : Int) := dq_ (by assumption)
      obtain ⟨ad185, A185_2, c185_2, e185, hx185_0, hx185_1, hx185_2, hx185_3, hx185_4, hl185_2, hi185_2⟩ := at_T87 HR0.out (ji4) p185 q185
      (try rw [← Nbq8.out] at hx185_4)
      obtain rfl : ad184 = ad185 := (by injection e185)
      have HR185_2 := Aside0.mk hi185_2
      have HC185_2 := Aside0.mk hl185_2
      clear hi185_2 hl185_2
      replace p185 := eq_true p185
      replace q185 := eq_true q185
      have ea_ := Option.some.inj (hx184_2.symm.trans hx185_2)
      injection ea_ with ea_ en_ ec_
      subst ea_
      subst ec_
      clear en_
      go_enter Try.func122, Try.ntmps122
      go_wp2
      go_ret
      exact ⟨by first | rfl | (simp; done) | (simp only [← hji4] <;> (first | rfl | simp)) | (simp [*]; done), by repeat (first | exact Drawn0.refl _ | apply Drawn0.step)⟩
     ·replace c9 := Bool.eq_false_iff.mpr c9
      subst c9
      have H1 : (if ((rd_T87 l0 (ji4)).f1).toList = ([115, 99, 114, 105, 112, 116] : List UInt8) then (some true) else (some (((rd_T87 l0 (ji4)).f1).toList == ([115, 116, 121, 108, 101] : List UInt8)))) = some r := by rw [if_neg (show ¬ (false = true) by decide)] at H; exact H
      clear H
      have H := H1
      clear H1
      by_cases c10 : ((rd_T87 l0 (ji4)).f1).toList = ([115, 99, 114, 105, 112, 116] : List UInt8)
      ·rw [if_pos c10] at H
       have c10b0 : (((rd_T87 l0 (ji4)).f1).toList == ([115, 99, 114, 105, 112, 116] : List UInt8)) = true := beq_iff_eq.mpr c10
       have c10b1 : (((rd_T87 l0 (ji4)).f1).toList != ([115, 99, 114, 105, 112, 116] : List UInt8)) = false := bne_eq_false_iff_eq.mpr c10
       clear c10
       obtain rfl := Option.some.inj H
       have p184 : 0 ≤ ((ji4) : Int) := dq_ (by assumption)
       have q184 : (ji4) < (l0.length : Int) := dq_ (by assumption)
       obtain ⟨ad184, A184_2, c184_2, e184, hx184_0, hx184_1, hx184_2, hx184_3, hx184_4, hl184_2, hi184_2⟩ := at_T87 HR0.out (ji4) p184 q184
       (try rw [← Nbq8.out] at hx184_4)
       cases e184
       have HR184_2 := Aside0.mk hi184_2
       have HC184_2 := Aside0.mk hl184_2
       clear hi184_2 hl184_2
       replace p184 := eq_true p184
       replace q184 := eq_true q184
       have p185 : 0 ≤ ((ji4) : Int) := dq_ (by assumption)
       have q185 : (ji4) < (l0.length : Int) := dq_ (by assumption)
       obtain ⟨ad185, A185_2, c185_2, e185, hx185_0, hx185_1, hx185_2, hx185_3, hx185_4, hl185_2, hi185_2⟩ := at_T87 HR0.out (ji4) p185 q185
       (try rw [← Nbq8.out] at hx185_4)
       obtain rfl : ad184 = ad185 := (by injection e185)
       have HR185_2 := Aside0.mk hi185_2
       have HC185_2 := Aside0.mk hl185_2
       clear hi185_2 hl185_2
       replace p185 := eq_true p185
       replace q185 := eq_true q185
       have ea_ := Option.some.inj (hx184_2.symm.trans hx185_2)
       injection ea_ with ea_ en_ ec_
       subst ea_
       subst ec_
       clear en_
       have p186 : 0 ≤ ((ji4) : Int) := dq_ (by assumption)
       have q186 : (ji4) < (l0.length : Int) := dq_ (by assumption)
       obtain ⟨ad186, A186_2, c186_2, e186, hx186_0, hx186_1, hx186_2, hx186_3, hx186_4, hl186_2, hi186_2⟩ := at_T87 HR0.out (ji4) p186 q186
       (try rw [← Nbq8.out] at hx186_4)
       obtain rfl : ad184 = ad186 := (by injection e186)
       have HR186_2 := Aside0.mk hi186_2
       have HC186_2 := Aside0.mk hl186_2
       clear hi186_2 hl186_2
       replace p186 := eq_true p186
       replace q186 := eq_true q186
       have ea_ := Option.some.inj (hx184_2.symm.trans hx186_2)
       injection ea_ with ea_ en_ ec_
       subst ea_
       subst ec_
       clear en_
       go_enter Try.func122, Try.ntmps122
       go_wp2
       go_ret
       exact ⟨by first | rfl | (simp; done) | (simp only [← hji4] <;> (first | rfl | simp)) | (simp [*]; done), by repeat (first | exact Drawn0.refl _ | apply Drawn0.step)⟩
      ·rw [if_neg c10] at H
       have c10b0 : (((rd_T87 l0 (ji4)).f1).toList == ([115, 99, 114, 105, 112, 116] : List UInt8)) = false := beq_eq_false_iff_ne.mpr c10
       have c10b1 : (((rd_T87 l0 (ji4)).f1).toList != ([115, 99, 114, 105, 112, 116] : List UInt8)) = true := bne_iff_ne.mpr c10
       obtain rfl := Option.some.inj H
       have p184 : 0 ≤ ((ji4) : Int) := dq_ (by assumption)
       have q184 : (ji4) < (l0.length : Int) := dq_ (by assumption)
       obtain ⟨ad184, A184_2, c184_2, e184, hx184_0, hx184_1, hx184_2, hx184_3, hx184_4, hl184_2, hi184_2⟩ := at_T87 HR0.out (ji4) p184 q184
       (try rw [← Nbq8.out] at hx184_4)
       cases e184
       have HR184_2 := Aside0.mk hi184_2
       have HC184_2 := Aside0.mk hl184_2
       clear hi184_2 hl184_2
       replace p184 := eq_true p184
       replace q184 := eq_true q184
       have p185 : 0 ≤ ((ji4) : Int) := dq_ (by assumption)
       have q185 : (ji4) < (l0.length : Int) := dq_ (by assumption)
       obtain ⟨ad185, A185_2, c185_2, e185, hx185_0, hx185_1, hx185_2, hx185_3, hx185_4, hl185_2, hi185_2⟩ := at_T87 HR0.out (ji4) p185 q185
       (try rw [← Nbq8.out] at hx185_4)
       obtain rfl : ad184 = ad185 := (by injection e185)
       have HR185_2 := Aside0.mk hi185_2
       have HC185_2 := Aside0.mk hl185_2
       clear hi185_2 hl185_2
       replace p185 := eq_true p185
       replace q185 := eq_true q185
       have ea_ := Option.some.inj (hx184_2.symm.trans hx185_2)
       injection ea_ with ea_ en_ ec_
       subst ea_
       subst ec_
       clear en_
       have p186 : 0 ≤ ((ji4) : Int) := dq_ (by assumption)
       have q186 : (ji4) < (l0.length : Int) := dq_ (by assumption)
       obtain ⟨ad186, A186_2, c186_2, e186, hx186_0, hx186_1, hx186_2, hx186_3, hx186_4, hl186_2, hi186_2⟩ := at_T87 HR0.out (ji4) p186 q186
       (try rw [← Nbq8.out] at hx186_4)
       obtain rfl : ad184 = ad186 := (by injection e186)
       have HR186_2 := Aside0.mk hi186_2
       have HC186_2 := Aside0.mk hl186_2
       clear hi186_2 hl186_2
       replace p186 := eq_true p186
       replace q186 := eq_true q186
       have ea_ := Option.some.inj (hx184_2.symm.trans hx186_2)
       injection ea_ with ea_ en_ ec_
       subst ea_
       subst ec_
       clear en_
       have p187 : 0 ≤ ((ji4) : Int) := dq_ (by assumption)
       have q187 : (ji4) < (l0.length : Int) := dq_ (by assumption)
       obtain ⟨ad187, A187_2, c187_2, e187, hx187_0, hx187_1, hx187_2, hx187_3, hx187_4, hl187_2, hi187_2⟩ := at_T87 HR0.out (ji4) p187 q187
       (try rw [← Nbq8.out] at hx187_4)
       obtain rfl : ad184 = ad187 := (by injection e187)
       have HR187_2 := Aside0.mk hi187_2
       have HC187_2 := Aside0.mk hl187_2
       clear hi187_2 hl187_2
       replace p187 := eq_true p187
       replace q187 := eq_true q187
       have ea_ := Option.some.inj (hx184_2.symm.trans hx187_2)
       injection ea_ with ea_ en_ ec_
       subst ea_
       subst ec_
       clear en_
       go_enter Try.func122, Try.ntmps122
       go_wp2
       go_ret
       exact ⟨by first | rfl | (simp; done) | (simp only [← hji4] <;> (first | rfl | simp)) | (simp [*]; done), by repeat (first | exact Drawn0.refl _ | apply Drawn0.step)⟩
    ·rw [if_neg c7] at H
     have c7b0 : (((rd_T87 l0 (ji4)).f0) == 2) = false := beq_eq_false_iff_ne.mpr c7
     have c7b1 : (((rd_T87 l0 (ji4)).f0) != 2) = true := bne_iff_ne.mpr c7
     obtain rfl := Option.some.inj H
     have p184 : 0 ≤ ((ji4) : Int) := dq_ (by assumption)
     have q184 : (ji4) < (l0.length : Int) := dq_ (by assumption)
     obtain ⟨ad184, A184_2, c184_2, e184, hx184_0, hx184_1, hx184_2, hx184_3, hx184_4, hl184_2, hi184_2⟩ := at_T87 HR0.out (ji4) p184 q184
     cases e184
     have HR184_2 := Aside0.mk hi184_2
     have HC184_2 := Aside0.mk hl184_2
     clear hi184_2 hl184_2
     replace p184 := eq_true p184
     replace q184 := eq_true q184
     go_enter Try.func122, Try.ntmps122
     go_wp2
     go_ret
     exact ⟨by first | rfl | (simp; done) | (simp only [← hji4] <;> (first | rfl | simp)) | (simp [*]; done), by repeat (first | exact Drawn0.refl _ | apply Drawn0.step)⟩
   ·rw [if_neg c6] at H
    exact absurd H (by simp)
  ·rw [if_neg c5] at H
   exact absurd H (by simp)
 ·rw [if_neg c3] at H
  have c3b0 : decide (0 < a1) = false := decide_eq_false c3
  clear c3
  obtain rfl := Option.some.inj H
  go_enter Try.func122, Try.ntmps122
  go_wp2
  go_ret
  exact ⟨by first | rfl | (simp; done) | (simp [*]; done), by repeat (first | exact Drawn0.refl _ | apply Drawn0.step)⟩
def spec_l1Max.f (a0 : Int) (a1 : Int) : Option (Int) := if a0 > a1 then (some a0) else (some a1)
set_option maxHeartbeats 8000000 in
set_option maxRecDepth 100000 in
theorem spec_l1Max.calls (a0 : Int) (a1 : Int) (r : Int) (w : World) (h : spec_l1Max.f a0 a1 = some r) :
  Calls Try.prog 138 #[.int .i64 a0, .int .i64 a1] w fun e w' => e = .returned (.int .i64 r) ∧ Drawn0 w w' := by
 have H : (if a0 > a1 then (some a0) else (some a1)) = some r := h
 clear h
 by_cases c3 : a0 > a1
 ·rw [if_pos c3] at H
  have c3b0 : decide (a1 < a0) = true := decide_eq_true c3
  clear c3
  obtain rfl := Option.some.inj H
  go_enter Try.func138, Try.ntmps138
  go_wp2
  go_ret
  exact ⟨by first | rfl | (simp; done) | (simp [*]; done), by repeat (first | exact Drawn0.refl _ | apply Drawn0.step)⟩
 ·rw [if_neg c3] at H
  have c3b0 : decide (a1 < a0) = false := decide_eq_false c3
  clear c3
  obtain rfl := Option.some.inj H
  go_enter Try.func138, Try.ntmps138
  go_wp2
  go_ret
  exact ⟨by first | rfl | (simp; done) | (simp [*]; done), by repeat (first | exact Drawn0.refl _ | apply Drawn0.step)⟩
def spec_RawEnd.l0 : Nat → ByteArray → ByteArray → Int → Int → Option (Int)
 | 0, _, _, _, _ => none
 | k + 1, x0, x2, x7, x8 => if (wrap64 ((wrap64 (x8 + 2)) + x7)) < (x0.size : Int) then (if 0 ≤ x8 then (if x8 < (x0.size : Int) then (if (bt x0 x8) = 60 then (if 0 ≤ (wrap64 (x8 + 1)) then (if (wrap64 (x8 + 1)) < (x0.size : Int) then (if (bt x0 (wrap64 (x8 + 1))) = 47 then (if 0 ≤ (wrap64 (x8 + 2)) then (if (wrap64 (x8 + 2)) ≤ (wrap64 ((wrap64 (x8 + 2)) + x7)) then (if (wrap64 ((wrap64 (x8 + 2)) + x7)) ≤ (x0.size : Int) then ((spec_Small.f (x0.extract ((wrap64 (x8 + 2)) : Int).toNat ((wrap64 ((wrap64 (x8 + 2)) + x7)) : Int).toNat)).bind fun t189 => ((spec_Small.f x2).bind fun t190 => (if t189.toList = t190.toList then (if 0 ≤ (wrap64 ((wrap64 (x8 + 2)) + x7)) then ((spec_l4Blank.f (bt x0 (wrap64 ((wrap64 (x8 + 2)) + x7)))).bind fun t191 => (if t191 = true then (some x8) else (if (bt x0 (wrap64 ((wrap64 (x8 + 2)) + x7))) = 47 then (some x8) else (if (bt x0 (wrap64 ((wrap64 (x8 + 2)) + x7))) = 62 then (some x8) else (spec_RawEnd.l0 k x0 x2 x7 (wrap64 (x8 + 1))))))) else (none)) else (spec_RawEnd.l0 k x0 x2 x7 (wrap64 (x8 + 1)))))) else (none)) else (none)) else (none)) else (spec_RawEnd.l0 k x0 x2 x7 (wrap64 (x8 + 1)))) else (none)) else (none)) else (spec_RawEnd.l0 k x0 x2 x7 (wrap64 (x8 + 1)))) else (none)) else (none)) else (some (x0.size : Int))
def spec_RawEnd.f (k : Nat) (a0 : ByteArray) (a1 : Int) (a2 : ByteArray) : Option (Int) := if a1 ≥ (a0.size : Int) then (some (a0.size : Int)) else ((spec_l1Max.f a1 0).bind fun t188 => (spec_RawEnd.l0 k a0 a2 (a2.size : Int) t188))
theorem spec_RawEnd.mono_l : ∀ k, (∀ y0 y1 y2 y3, LeO (spec_RawEnd.l0 k y0 y1 y2 y3) (spec_RawEnd.l0 (k + 1) y0 y1 y2 y3))
 | 0 => fun _ _ _ _ r h => by simp [spec_RawEnd.l0] at h
 | k + 1 => by
  have ih0 := spec_RawEnd.mono_l k
  ·intro y0 y1 y2 y3
   unfold spec_RawEnd.l0
   repeat' first
   | (with_reducible exact ih0 _ _ _ _)
   | (with_reducible exact LeO.refl _)
   | (with_reducible exact LeO.none _)
   | (with_reducible refine LeO.ite ?_ ?_)
   | (with_reducible refine LeO.bind ?_ (fun _ => ?_))
theorem spec_RawEnd.mono : ∀ a0 a1 a2 k, LeO (spec_RawEnd.f k a0 a1 a2) (spec_RawEnd.f (k + 1) a0 a1 a2) := by
 intro a0 a1 a2 k
 have ih0 := spec_RawEnd.mono_l k
 unfold spec_RawEnd.f
 repeat' first
   | (with_reducible exact ih0 _ _ _ _)
   | (with_reducible exact LeO.refl _)
   | (with_reducible exact LeO.none _)
   | (with_reducible refine LeO.ite ?_ ?_)
   | (with_reducible refine LeO.bind ?_ (fun _ => ?_))
set_option maxHeartbeats 8000000 in
set_option maxRecDepth 100000 in
theorem spec_RawEnd.calls (k : Nat) (a0 : ByteArray) (a1 : Int) (a2 : ByteArray) (r : Int) (w : World) (h : spec_RawEnd.f k a0 a1 a2 = some r) :
  Calls Try.prog 123 #[.string a0, .int .i64 a1, .string a2] w fun e w' => e = .returned (.int .i64 r) ∧ Below w.heap.size w w' := by
 have HB := Aside0.mk (Below.refl w.heap.size w)
 have H : (if a1 ≥ (a0.size : Int) then (some (a0.size : Int)) else ((spec_l1Max.f a1 0).bind fun t188 => (spec_RawEnd.l0 k a0 a2 (a2.size : Int) t188))) = some r := h
 clear h
 by_cases c4 : a1 ≥ (a0.size : Int)
 ·rw [if_pos c4] at H
  have c4b0 : decide ((a0.size : Int) ≤ a1) = true := decide_eq_true c4
  clear c4
  obtain rfl := Option.some.inj H
  go_enter Try.func123, Try.ntmps123
  go_wp2
  go_ret
  exact ⟨by first | rfl | (simp [errW_none, errW_some] <;> rfl) | (simp [*, errW_none, errW_some] <;> rfl), by repeat (first | (with_reducible first | exact HB.out | apply ba_ | apply bn_ | apply b1_) | exact HB.out)⟩
 ·rw [if_neg c4] at H
  have c4b0 : decide ((a0.size : Int) ≤ a1) = false := decide_eq_false c4
  clear c4
  replace H := Option.bind_eq_some_iff.mp H
  obtain ⟨t188, A50, H⟩ := H
  replace H : (spec_RawEnd.l0 k a0 a2 (a2.size : Int) t188) = some r := H
  have A5 := Aside0.mk A50
  clear A50
  have H' := Aside0.mk H
  clear H
  go_enter Try.func123, Try.ntmps123
  go_wp2_with (first | ((with_reducible refine gate_callee (f := 138) rfl ?_); refine goesL_ (some 18) rfl rfl Try.func138 (by kernel_rfl) rfl #[.int .i64 a1, .int .i64 0] rfl (by (try simp only [List.map_toArray, List.map_cons, List.map_nil]); first | done | rfl | (simp only [List.length_drop, List.length_take]; rfl)) ?_; (with_reducible refine (spec_l1Max.calls a1 0 t188 _ A5.out).mono ?_); rintro e w' ⟨rfl, ⟨nd, rfl⟩⟩; refine ⟨_, rfl, ?_⟩))
  go_loopg [8] k (fun kq v8 w' => ∃ (x8_1 : Int), v8 = .int .i64 x8_1 ∧ Aside0 (spec_RawEnd.l0 kq a0 a2 (a2.size : Int) x8_1 = some r) ∧ Aside0 (kq ≤ k) ∧ Aside0 (Below w.heap.size w w'))
  case atStart => exact ⟨(t188), (by first | rfl | (simp; done) | (simp [*]; done)), H', ⟨Nat.le_refl _⟩, ⟨by repeat (first | (with_reducible first | exact HB.out | apply ba_ | apply bn_ | apply b1_) | exact HB.out)⟩⟩
  case round =>
   clear H'
   try clear c4
   try clear c4b0
   obtain ⟨x8_1, rfl, HA, HK1, HB⟩ := hrel
   cases gk with
   | zero => exact absurd HA.out (by simp [spec_RawEnd.l0])
   | succ k1 =>
    have H := HA.out
    clear HA
    simp only [spec_RawEnd.l0] at H
    by_cases c6 : (wrap64 ((wrap64 (x8_1 + 2)) + (a2.size : Int))) < (a0.size : Int)
    ·rw [if_pos c6] at H
     have c6b0 : decide ((wrap64 ((wrap64 (x8_1 + 2)) + (a2.size : Int))) < (a0.size : Int)) = true := decide_eq_true c6
     clear c6
     by_cases c7 : 0 ≤ x8_1
     ·rw [if_pos c7] at H
      have c7b0 : decide (0 ≤ x8_1) = true := decide_eq_true c7
      clear c7
      by_cases c8 : x8_1 < (a0.size : Int)
      ·rw [if_pos c8] at H
       have c8b0 : decide (x8_1 < (a0.size : Int)) = true := decide_eq_true c8
       clear c8
       by_cases c10 : (bt a0 x8_1) = 60
       ·rw [if_pos c10] at H
        have c10b0 : ((bt a0 x8_1) == 60) = true := beq_iff_eq.mpr c10
        have c10b1 : ((bt a0 x8_1) != 60) = false := bne_eq_false_iff_eq.mpr c10
        clear c10
        obtain ⟨ji11, hji11⟩ : ∃ j_ : Int, (wrap64 (x8_1 + 1)) = j_ := ⟨_, rfl⟩
        replace H : (if 0 ≤ (ji11) then (if (ji11) < (a0.size : Int) then (if (bt a0 (ji11)) = 47 then (if 0 ≤ (wrap64 (x8_1 + 2)) then (if (wrap64 (x8_1 + 2)) ≤ (wrap64 ((wrap64 (x8_1 + 2)) + (a2.size : Int))) then (if (wrap64 ((wrap64 (x8_1 + 2)) + (a2.size : Int))) ≤ (a0.size : Int) then ((spec_Small.f (a0.extract ((wrap64 (x8_1 + 2)) : Int).toNat ((wrap64 ((wrap64 (x8_1 + 2)) + (a2.size : Int))) : Int).toNat)).bind fun t189 => ((spec_Small.f a2).bind fun t190 => (if t189.toList = t190.toList then (if 0 ≤ (wrap64 ((wrap64 (x8_1 + 2)) + (a2.size : Int))) then ((spec_l4Blank.f (bt a0 (wrap64 ((wrap64 (x8_1 + 2)) + (a2.size : Int))))).bind fun t191 => (if t191 = true then (some x8_1) else (if (bt a0 (wrap64 ((wrap64 (x8_1 + 2)) + (a2.size : Int)))) = 47 then (some x8_1) else (if (bt a0 (wrap64 ((wrap64 (x8_1 + 2)) + (a2.size : Int)))) = 62 then (some x8_1) else (spec_RawEnd.l0 k1 a0 a2 (a2.size : Int) ji11))))) else (none)) else (spec_RawEnd.l0 k1 a0 a2 (a2.size : Int) ji11)))) else (none)) else (none)) else (none)) else (spec_RawEnd.l0 k1 a0 a2 (a2.size : Int) ji11)) else (none)) else (none)) = some r := by first | (rw [hji11] at H; exact H) | (simp only [hji11] at H ⊢; exact H)
        have hji11w : (IntKind.i64.wrap (x8_1 + 1)) = ji11 := (i64_w _).trans hji11
        by_cases c12 : 0 ≤ (ji11)
        ·rw [if_pos c12] at H
         have c12b0 : decide (0 ≤ (ji11)) = true := decide_eq_true c12
         clear c12
         by_cases c13 : (ji11) < (a0.size : Int)
         ·rw [if_pos c13] at H
          have c13b0 : decide ((ji11) < (a0.size : Int)) = true := decide_eq_true c13
          clear c13
          by_cases c15 : (bt a0 (ji11)) = 47
          ·rw [if_pos c15] at H
           have c15b0 : ((bt a0 (ji11)) == 47) = true := beq_iff_eq.mpr c15
           have c15b1 : ((bt a0 (ji11)) != 47) = false := bne_eq_false_iff_eq.mpr c15
           clear c15
           obtain ⟨ji16, hji16⟩ : ∃ j_ : Int, (wrap64 (x8_1 + 2)) = j_ := ⟨_, rfl⟩
           replace H : (if 0 ≤ (ji16) then (if (ji16) ≤ (wrap64 ((ji16) + (a2.size : Int))) then (if (wrap64 ((ji16) + (a2.size : Int))) ≤ (a0.size : Int) then ((spec_Small.f (a0.extract ((ji16) : Int).toNat ((wrap64 ((ji16) + (a2.size : Int))) : Int).toNat)).bind fun t189 => ((spec_Small.f a2).bind fun t190 => (if t189.toList = t190.toList then (if 0 ≤ (wrap64 ((ji16) + (a2.size : Int))) then ((spec_l4Blank.f (bt a0 (wrap64 ((ji16) + (a2.size : Int))))).bind fun t191 => (if t191 = true then (some x8_1) else (if (bt a0 (wrap64 ((ji16) + (a2.size : Int)))) = 47 then (some x8_1) else (if (bt a0 (wrap64 ((ji16) + (a2.size : Int)))) = 62 then (some x8_1) else (spec_RawEnd.l0 k1 a0 a2 (a2.size : Int) ji11))))) else (none)) else (spec_RawEnd.l0 k1 a0 a2 (a2.size : Int) ji11)))) else (none)) else (none)) else (none)) = some r := by first | (rw [hji16] at H; exact H) | (simp only [hji16] at H ⊢; exact H)
           (try rw [hji16] at c6b0)
           have hji16w : (IntKind.i64.wrap (x8_1 + 2)) = ji16 := (i64_w _).trans hji16
           by_cases c17 : 0 ≤ (ji16)
           ·rw [if_pos c17] at H
            have c17b0 := eq_true c17
            have c17b1 : decide (0 ≤ (ji16)) = true := decide_eq_true c17
            clear c17
            by_cases c18 : (ji16) ≤ (wrap64 ((ji16) + (a2.size : Int)))
            ·rw [if_pos c18] at H
             have c18b0 := eq_true c18
             have c18b1 : decide ((ji16) ≤ (wrap64 ((ji16) + (a2.size : Int)))) = true := decide_eq_true c18
             by_cases c19 : (wrap64 ((ji16) + (a2.size : Int))) ≤ (a0.size : Int)
             ·rw [if_pos c19] at H
              have c19b0 := eq_true c19
              have c19b1 : decide ((wrap64 ((ji16) + (a2.size : Int))) ≤ (a0.size : Int)) = true := decide_eq_true c19
              replace H := Option.bind_eq_some_iff.mp H
              obtain ⟨t189, A200, H⟩ := H
              replace H : ((spec_Small.f a2).bind fun t190 => (if t189.toList = t190.toList then (if 0 ≤ (wrap64 ((ji16) + (a2.size : Int))) then ((spec_l4Blank.f (bt a0 (wrap64 ((ji16) + (a2.size : Int))))).bind fun t191 => (if t191 = true then (some x8_1) else (if (bt a0 (wrap64 ((ji16) + (a2.size : Int)))) = 47 then (some x8_1) else (if (bt a0 (wrap64 ((ji16) + (a2.size : Int)))) = 62 then (some x8_1) else (spec_RawEnd.l0 k1 a0 a2 (a2.size : Int) ji11))))) else (none)) else (spec_RawEnd.l0 k1 a0 a2 (a2.size : Int) ji11))) = some r := H
              have A20 := Aside0.mk A200
              clear A200
              replace H := Option.bind_eq_some_iff.mp H
              obtain ⟨t190, A210, H⟩ := H
              replace H : (if t189.toList = t190.toList then (if 0 ≤ (wrap64 ((ji16) + (a2.size : Int))) then ((spec_l4Blank.f (bt a0 (wrap64 ((ji16) + (a2.size : Int))))).bind fun t191 => (if t191 = true then (some x8_1) else (if (bt a0 (wrap64 ((ji16) + (a2.size : Int)))) = 47 then (some x8_1) else (if (bt a0 (wrap64 ((ji16) + (a2.size : Int)))) = 62 then (some x8_1) else (spec_RawEnd.l0 k1 a0 a2 (a2.size : Int) ji11))))) else (none)) else (spec_RawEnd.l0 k1 a0 a2 (a2.size : Int) ji11)) = some r := H
              have A21 := Aside0.mk A210
              clear A210
              by_cases c22 : t189.toList = t190.toList
              ·rw [if_pos c22] at H
               have c22b0 : (t189.toList == t190.toList) = true := beq_iff_eq.mpr c22
               have c22b1 : (t189.toList != t190.toList) = false := bne_eq_false_iff_eq.mpr c22
               clear c22
               obtain ⟨ji23, hji23⟩ : ∃ j_ : Int, (wrap64 ((ji16) + (a2.size : Int))) = j_ := ⟨_, rfl⟩
               replace H : (if 0 ≤ (ji23) then ((spec_l4Blank.f (bt a0 (ji23))).bind fun t191 => (if t191 = true then (some x8_1) else (if (bt a0 (ji23)) = 47 then (some x8_1) else (if (bt a0 (ji23)) = 62 then (some x8_1) else (spec_RawEnd.l0 k1 a0 a2 (a2.size : Int) ji11))))) else (none)) = some r := by first | (rw [hji23] at H; exact H) | (simp only [hji23] at H ⊢; exact H)
               (try rw [hji23] at c18b0)
               (try rw [hji23] at c18b1)
               (try rw [hji23] at c18)
               (try rw [hji23] at c19b0)
               (try rw [hji23] at c19b1)
               (try rw [hji23] at c19)
               (try rw [hji23] at A20)
               (try rw [hji23] at A21)
               have hji23w : (IntKind.i64.wrap ((ji16) + (a2.size : Int))) = ji23 := (i64_w _).trans hji23
               have c6x := c6b0
               (try rw [hji23] at c6x)
               by_cases c24 : 0 ≤ (ji23)
               ·rw [if_pos c24] at H
                have c24b0 : decide (0 ≤ (ji23)) = true := decide_eq_true c24
                clear c24
                replace H := Option.bind_eq_some_iff.mp H
                obtain ⟨t191, A260, H⟩ := H
                replace H : (if t191 = true then (some x8_1) else (if (bt a0 (ji23)) = 47 then (some x8_1) else (if (bt a0 (ji23)) = 62 then (some x8_1) else (spec_RawEnd.l0 k1 a0 a2 (a2.size : Int) ji11)))) = some r := H
                have A26 := Aside0.mk A260
                clear A260
                by_cases c27 : t191 = true
                ·subst c27
                 have H1 : (some x8_1) = some r := by rw [if_pos rfl] at H; exact H
                 clear H
                 have H := H1
                 clear H1
                 obtain rfl := Option.some.inj H
                 have p9 : 0 ≤ (x8_1 : Int) := dq_ (by assumption)
                 have q9 : x8_1 < (a0.size : Int) := dq_ (by assumption)
                 have hx9 := bt_at a0 x8_1
                 replace p9 := eq_true p9
                 replace q9 := eq_true q9
                 have p14 : 0 ≤ ((ji11) : Int) := dq_ (by assumption)
                 have q14 : (ji11) < (a0.size : Int) := dq_ (by assumption)
                 have hx14 := bt_at a0 (ji11)
                 replace p14 := eq_true p14
                 replace q14 := eq_true q14
                 go_wp2_with (first | (go_at_call 118; (with_reducible refine (spec_Small.calls (a0.extract ((ji16) : Int).toNat ((ji23) : Int).toNat) t189 _ A20.out).mono ?_); rintro e w28 ⟨rfl, hb⟩; have n0_ := Aside0.mk (below_step (by repeat (first | (with_reducible first | exact HB.out | apply ba_ | apply bn_ | apply b1_) | exact HB.out)) hb); clear HB; have HB := n0_; clear n0_; (try clear hb)) | (go_at_call 118; (with_reducible refine (spec_Small.calls a2 t190 _ A21.out).mono ?_); rintro e w29 ⟨rfl, hb⟩; have n0_ := Aside0.mk (below_step (by repeat (first | (with_reducible first | exact HB.out | apply ba_ | apply bn_ | apply b1_) | exact HB.out)) hb); clear HB; have HB := n0_; clear n0_; (try clear hb); have p25 : 0 ≤ ((ji23) : Int) := dq_ (by assumption); have q25 : (ji23) < (a0.size : Int) := dq_ (by assumption); have hx25 := bt_at a0 (ji23); replace p25 := eq_true p25; replace q25 := eq_true q25) | (go_at_call 136; (with_reducible refine (spec_l4Blank.calls (bt a0 (ji23)) true _ A26.out).mono ?_); rintro e w' ⟨rfl, ⟨nd, rfl⟩⟩))
                 go_ret
                 exact ⟨by first | rfl | (simp [errW_none, errW_some] <;> rfl) | (simp only [← hji11, ← hji16, ← hji23]; first | rfl | (simp [errW_none, errW_some] <;> rfl)) | (simp [*, errW_none, errW_some] <;> rfl), by repeat (first | (with_reducible first | exact HB.out | apply ba_ | apply bn_ | apply b1_) | exact HB.out)⟩
                ·replace c27 := Bool.eq_false_iff.mpr c27
                 subst c27
                 have H1 : (if (bt a0 (ji23)) = 47 then (some x8_1) else (if (bt a0 (ji23)) = 62 then (some x8_1) else (spec_RawEnd.l0 k1 a0 a2 (a2.size : Int) ji11))) = some r := by rw [if_neg (show ¬ (false = true) by decide)] at H; exact H
                 clear H
                 have H := H1
                 clear H1
                 by_cases c31 : (bt a0 (ji23)) = 47
                 ·rw [if_pos c31] at H
                  have c31b0 : ((bt a0 (ji23)) == 47) = true := beq_iff_eq.mpr c31
                  have c31b1 : ((bt a0 (ji23)) != 47) = false := bne_eq_false_iff_eq.mpr c31
                  clear c31
                  obtain rfl := Option.some.inj H
                  have p9 : 0 ≤ (x8_1 : Int) := dq_ (by assumption)
                  have q9 : x8_1 < (a0.size : Int) := dq_ (by assumption)
                  have hx9 := bt_at a0 x8_1
                  replace p9 := eq_true p9
                  replace q9 := eq_true q9
                  have p14 : 0 ≤ ((ji11) : Int) := dq_ (by assumption)
                  have q14 : (ji11) < (a0.size : Int) := dq_ (by assumption)
                  have hx14 := bt_at a0 (ji11)
                  replace p14 := eq_true p14
                  replace q14 := eq_true q14
                  go_wp2_with (first | (go_at_call 118; (with_reducible refine (spec_Small.calls (a0.extract ((ji16) : Int).toNat ((ji23) : Int).toNat) t189 _ A20.out).mono ?_); rintro e w32 ⟨rfl, hb⟩; have n0_ := Aside0.mk (below_step (by repeat (first | (with_reducible first | exact HB.out | apply ba_ | apply bn_ | apply b1_) | exact HB.out)) hb); clear HB; have HB := n0_; clear n0_; (try clear hb)) | (go_at_call 118; (with_reducible refine (spec_Small.calls a2 t190 _ A21.out).mono ?_); rintro e w33 ⟨rfl, hb⟩; have n0_ := Aside0.mk (below_step (by repeat (first | (with_reducible first | exact HB.out | apply ba_ | apply bn_ | apply b1_) | exact HB.out)) hb); clear HB; have HB := n0_; clear n0_; (try clear hb); have p25 : 0 ≤ ((ji23) : Int) := dq_ (by assumption); have q25 : (ji23) < (a0.size : Int) := dq_ (by assumption); have hx25 := bt_at a0 (ji23); replace p25 := eq_true p25; replace q25 := eq_true q25) | (go_at_call 136; (with_reducible refine (spec_l4Blank.calls (bt a0 (ji23)) false _ A26.out).mono ?_); rintro e w' ⟨rfl, ⟨nd, rfl⟩⟩; have p30 : 0 ≤ ((ji23) : Int) := dq_ (by assumption); have q30 : (ji23) < (a0.size : Int) := dq_ (by assumption); have hx30 := bt_at a0 (ji23); replace p30 := eq_true p30; replace q30 := eq_true q30))
                  go_ret
                  exact ⟨by first | rfl | (simp [errW_none, errW_some] <;> rfl) | (simp only [← hji11, ← hji16, ← hji23]; first | rfl | (simp [errW_none, errW_some] <;> rfl)) | (simp [*, errW_none, errW_some] <;> rfl), by repeat (first | (with_reducible first | exact HB.out | apply ba_ | apply bn_ | apply b1_) | exact HB.out)⟩
                 ·rw [if_neg c31] at H
                  have c31b0 : ((bt a0 (ji23)) == 47) = false := beq_eq_false_iff_ne.mpr c31
                  have c31b1 : ((bt a0 (ji23)) != 47) = true := bne_iff_ne.mpr c31
                  by_cases c35 : (bt a0 (ji23)) = 62
                  ·rw [if_pos c35] at H
                   have c35b0 : ((bt a0 (ji23)) == 62) = true := beq_iff_eq.mpr c35
                   have c35b1 : ((bt a0 (ji23)) != 62) = false := bne_eq_false_iff_eq.mpr c35
                   clear c35
                   obtain rfl := Option.some.inj H
                   have p9 : 0 ≤ (x8_1 : Int) := dq_ (by assumption)
                   have q9 : x8_1 < (a0.size : Int) := dq_ (by assumption)
                   have hx9 := bt_at a0 x8_1
                   replace p9 := eq_true p9
                   replace q9 := eq_true q9
                   have p14 : 0 ≤ ((ji11) : Int) := dq_ (by assumption)
                   have q14 : (ji11) < (a0.size : Int) := dq_ (by assumption)
                   have hx14 := bt_at a0 (ji11)
                   replace p14 := eq_true p14
                   replace q14 := eq_true q14
                   go_wp2_with (first | (go_at_call 118; (with_reducible refine (spec_Small.calls (a0.extract ((ji16) : Int).toNat ((ji23) : Int).toNat) t189 _ A20.out).mono ?_); rintro e w36 ⟨rfl, hb⟩; have n0_ := Aside0.mk (below_step (by repeat (first | (with_reducible first | exact HB.out | apply ba_ | apply bn_ | apply b1_) | exact HB.out)) hb); clear HB; have HB := n0_; clear n0_; (try clear hb)) | (go_at_call 118; (with_reducible refine (spec_Small.calls a2 t190 _ A21.out).mono ?_); rintro e w37 ⟨rfl, hb⟩; have n0_ := Aside0.mk (below_step (by repeat (first | (with_reducible first | exact HB.out | apply ba_ | apply bn_ | apply b1_) | exact HB.out)) hb); clear HB; have HB := n0_; clear n0_; (try clear hb); have p25 : 0 ≤ ((ji23) : Int) := dq_ (by assumption); have q25 : (ji23) < (a0.size : Int) := dq_ (by assumption); have hx25 := bt_at a0 (ji23); replace p25 := eq_true p25; replace q25 := eq_true q25) | (go_at_call 136; (with_reducible refine (spec_l4Blank.calls (bt a0 (ji23)) false _ A26.out).mono ?_); rintro e w' ⟨rfl, ⟨nd, rfl⟩⟩; have p30 : 0 ≤ ((ji23) : Int) := dq_ (by assumption); have q30 : (ji23) < (a0.size : Int) := dq_ (by assumption); have hx30 := bt_at a0 (ji23); replace p30 := eq_true p30; replace q30 := eq_true q30; have p34 : 0 ≤ ((ji23) : Int) := dq_ (by assumption); have q34 : (ji23) < (a0.size : Int) := dq_ (by assumption); have hx34 := bt_at a0 (ji23); replace p34 := eq_true p34; replace q34 := eq_true q34))
                   go_ret
                   exact ⟨by first | rfl | (simp [errW_none, errW_some] <;> rfl) | (simp only [← hji11, ← hji16, ← hji23]; first | rfl | (simp [errW_none, errW_some] <;> rfl)) | (simp [*, errW_none, errW_some] <;> rfl), by repeat (first | (with_reducible first | exact HB.out | apply ba_ | apply bn_ | apply b1_) | exact HB.out)⟩
                  ·rw [if_neg c35] at H
                   have c35b0 : ((bt a0 (ji23)) == 62) = false := beq_eq_false_iff_ne.mpr c35
                   have c35b1 : ((bt a0 (ji23)) != 62) = true := bne_iff_ne.mpr c35
                   have H' := Aside0.mk H
                   clear H
                   have p9 : 0 ≤ (x8_1 : Int) := dq_ (by assumption)
                   have q9 : x8_1 < (a0.size : Int) := dq_ (by assumption)
                   have hx9 := bt_at a0 x8_1
                   replace p9 := eq_true p9
                   replace q9 := eq_true q9
                   have p14 : 0 ≤ ((ji11) : Int) := dq_ (by assumption)
                   have q14 : (ji11) < (a0.size : Int) := dq_ (by assumption)
                   have hx14 := bt_at a0 (ji11)
                   replace p14 := eq_true p14
                   replace q14 := eq_true q14
                   go_wp2_with (first | (go_at_call 118; (with_reducible refine (spec_Small.calls (a0.extract ((ji16) : Int).toNat ((ji23) : Int).toNat) t189 _ A20.out).mono ?_); rintro e w38 ⟨rfl, hb⟩; have n0_ := Aside0.mk (below_step (by repeat (first | (with_reducible first | exact HB.out | apply ba_ | apply bn_ | apply b1_) | exact HB.out)) hb); clear HB; have HB := n0_; clear n0_; (try clear hb)) | (go_at_call 118; (with_reducible refine (spec_Small.calls a2 t190 _ A21.out).mono ?_); rintro e w39 ⟨rfl, hb⟩; have n0_ := Aside0.mk (below_step (by repeat (first | (with_reducible first | exact HB.out | apply ba_ | apply bn_ | apply b1_) | exact HB.out)) hb); clear HB; have HB := n0_; clear n0_; (try clear hb); have p25 : 0 ≤ ((ji23) : Int) := dq_ (by assumption); have q25 : (ji23) < (a0.size : Int) := dq_ (by assumption); have hx25 := bt_at a0 (ji23); replace p25 := eq_true p25; replace q25 := eq_true q25) | (go_at_call 136; (with_reducible refine (spec_l4Blank.calls (bt a0 (ji23)) false _ A26.out).mono ?_); rintro e w' ⟨rfl, ⟨nd, rfl⟩⟩; have p30 : 0 ≤ ((ji23) : Int) := dq_ (by assumption); have q30 : (ji23) < (a0.size : Int) := dq_ (by assumption); have hx30 := bt_at a0 (ji23); replace p30 := eq_true p30; replace q30 := eq_true q30; have p34 : 0 ≤ ((ji23) : Int) := dq_ (by assumption); have q34 : (ji23) < (a0.size : Int) := dq_ (by assumption); have hx34 := bt_at a0 (ji23); replace p34 := eq_true p34; replace q34 := eq_true q34))
                   (try subst hji23)
                   (try subst hji16)
                   (try subst hji11)
                   go_roundg k1
                   case measure => have := HK1.out; omega
                   case rel => exact ⟨((wrap64 (x8_1 + 1))), (by first | rfl | (simp; done) | (simp only [← hji11] <;> (first | rfl | simp)) | (simp [*]; done)), H', ⟨by have := HK1.out; omega⟩, ⟨by repeat (first | (with_reducible first | exact HB.out | apply ba_ | apply bn_ | apply b1_) | exact HB.out)⟩⟩
               ·rw [if_neg c24] at H
                exact absurd H (by simp)
              ·rw [if_neg c22] at H
               have c22b0 : (t189.toList == t190.toList) = false := beq_eq_false_iff_ne.mpr c22
               have c22b1 : (t189.toList != t190.toList) = true := bne_iff_ne.mpr c22
               have H' := Aside0.mk H
               clear H
               have p9 : 0 ≤ (x8_1 : Int) := dq_ (by assumption)
               have q9 : x8_1 < (a0.size : Int) := dq_ (by assumption)
               have hx9 := bt_at a0 x8_1
               replace p9 := eq_true p9
               replace q9 := eq_true q9
               have p14 : 0 ≤ ((ji11) : Int) := dq_ (by assumption)
               have q14 : (ji11) < (a0.size : Int) := dq_ (by assumption)
               have hx14 := bt_at a0 (ji11)
               replace p14 := eq_true p14
               replace q14 := eq_true q14
               go_wp2_with (first | (go_at_call 118; (with_reducible refine (spec_Small.calls (a0.extract ((ji16) : Int).toNat ((wrap64 ((ji16) + (a2.size : Int))) : Int).toNat) t189 _ A20.out).mono ?_); rintro e w40 ⟨rfl, hb⟩; have n0_ := Aside0.mk (below_step (by repeat (first | (with_reducible first | exact HB.out | apply ba_ | apply bn_ | apply b1_) | exact HB.out)) hb); clear HB; have HB := n0_; clear n0_; (try clear hb)) | (go_at_call 118; (with_reducible refine (spec_Small.calls a2 t190 _ A21.out).mono ?_); rintro e w41 ⟨rfl, hb⟩; have n0_ := Aside0.mk (below_step (by repeat (first | (with_reducible first | exact HB.out | apply ba_ | apply bn_ | apply b1_) | exact HB.out)) hb); clear HB; have HB := n0_; clear n0_; (try clear hb)))
               (try subst hji23)
               (try subst hji16)
               (try subst hji11)
               go_roundg k1
               case measure => have := HK1.out; omega
               case rel => exact ⟨((wrap64 (x8_1 + 1))), (by first | rfl | (simp; done) | (simp only [← hji11] <;> (first | rfl | simp)) | (simp [*]; done)), H', ⟨by have := HK1.out; omega⟩, ⟨by repeat (first | (with_reducible first | exact HB.out | apply ba_ | apply bn_ | apply b1_) | exact HB.out)⟩⟩
             ·rw [if_neg c19] at H
              exact absurd H (by simp)
            ·rw [if_neg c18] at H
             exact absurd H (by simp)
           ·rw [if_neg c17] at H
            exact absurd H (by simp)
          ·rw [if_neg c15] at H
           have c15b0 : ((bt a0 (ji11)) == 47) = false := beq_eq_false_iff_ne.mpr c15
           have c15b1 : ((bt a0 (ji11)) != 47) = true := bne_iff_ne.mpr c15
           have H' := Aside0.mk H
           clear H
           have p9 : 0 ≤ (x8_1 : Int) := dq_ (by assumption)
           have q9 : x8_1 < (a0.size : Int) := dq_ (by assumption)
           have hx9 := bt_at a0 x8_1
           replace p9 := eq_true p9
           replace q9 := eq_true q9
           have p14 : 0 ≤ ((ji11) : Int) := dq_ (by assumption)
           have q14 : (ji11) < (a0.size : Int) := dq_ (by assumption)
           have hx14 := bt_at a0 (ji11)
           replace p14 := eq_true p14
           replace q14 := eq_true q14
           go_wp2
           (try subst hji16)
           (try subst hji11)
           go_roundg k1
           case measure => have := HK1.out; omega
           case rel => exact ⟨((wrap64 (x8_1 + 1))), (by first | rfl | (simp; done) | (simp only [← hji11] <;> (first | rfl | simp)) | (simp [*]; done)), H', ⟨by have := HK1.out; omega⟩, ⟨by repeat (first | (with_reducible first | exact HB.out | apply ba_ | apply bn_ | apply b1_) | exact HB.out)⟩⟩
         ·rw [if_neg c13] at H
          exact absurd H (by simp)
        ·rw [if_neg c12] at H
         exact absurd H (by simp)
       ·rw [if_neg c10] at H
        have c10b0 : ((bt a0 x8_1) == 60) = false := beq_eq_false_iff_ne.mpr c10
        have c10b1 : ((bt a0 x8_1) != 60) = true := bne_iff_ne.mpr c10
        have H' := Aside0.mk H
        clear H
        have p9 : 0 ≤ (x8_1 : Int) := dq_ (by assumption)
        have q9 : x8_1 < (a0.size : Int) := dq_ (by assumption)
        have hx9 := bt_at a0 x8_1
        replace p9 := eq_true p9
        replace q9 := eq_true q9
        go_wp2
        (try subst hji11)
        go_roundg k1
        case measure => have := HK1.out; omega
        case rel => exact ⟨(wrap64 (x8_1 + 1)), (by first | rfl | (simp; done) | (simp [*]; done)), H', ⟨by have := HK1.out; omega⟩, ⟨by repeat (first | (with_reducible first | exact HB.out | apply ba_ | apply bn_ | apply b1_) | exact HB.out)⟩⟩
      ·rw [if_neg c8] at H
       exact absurd H (by simp)
     ·rw [if_neg c7] at H
      exact absurd H (by simp)
    ·rw [if_neg c6] at H
     have c6b0 : decide ((wrap64 ((wrap64 (x8_1 + 2)) + (a2.size : Int))) < (a0.size : Int)) = false := decide_eq_false c6
     clear c6
     obtain rfl := Option.some.inj H
     go_wp2
     go_ret
     exact ⟨by first | rfl | (simp [errW_none, errW_some] <;> rfl) | (simp [*, errW_none, errW_some] <;> rfl), by repeat (first | (with_reducible first | exact HB.out | apply ba_ | apply bn_ | apply b1_) | exact HB.out)⟩
end Go.Proofs.Yteafgjebaedjbaa.PFnExactTokensOk
