-- Written by this session's program wip/slim.py out of the print's texts. Lean checks it.
import Derived.Test.YteafgjebaedjbaaSFnExactTokensOkx0
import Derived.Test.YteafgjebaedjbaaSFnExactTokensOkx14
namespace Go.Proofs.Yteafgjebaedjbaa.PFnExactTokensOk
open Go.RowKit Go.Proofs.YteafgjebaedjbaaW.PrintWords Go.Proofs.YteafgjebaedjbaaW.PrintLast Go.Proofs.YteafgjebaedjbaaW.PrintMore
attribute [local go_sem] max2_int min2_int max_two min_two max_three min_three max_four min_four
set_option linter.unusedVariables false
set_option linter.unusedSimpArgs false
def impl_rawOk.j0 : Nat → ByteArray → List (S87) → Bool → Option (Bool)
 | 0, _, _, _ => none
 | k + 1, x0, x1, x15 => if x15 = true then (if 0 < (x1.length : Int) then ((impl_isPlainRaw.f x0).bind fun t306 => (if t306 = true then ((impl_RawEnd.f k ((rd_T87 x1 0).f3) 0 x0).bind fun t307 => (if t307 < (((rd_T87 x1 0).f3).size : Int) then (some false) else (if 1 ≤ (x1.length : Int) then ((some (x1.drop 1 : List (S87))).bind fun y308 => (if (y308.length : Int) = 0 then (some true) else (if 0 < (y308.length : Int) then (if ((rd_T87 y308 0).f0) = 3 then (some (((rd_T87 y308 0).f1).toList == x0.toList)) else (some false)) else (none)))) else (none)))) else (if 1 ≤ (x1.length : Int) then ((some (x1.drop 1 : List (S87))).bind fun y314 => (if (y314.length : Int) = 0 then (some true) else (if 0 < (y314.length : Int) then (if ((rd_T87 y314 0).f0) = 3 then (some (((rd_T87 y314 0).f1).toList == x0.toList)) else (some false)) else (none)))) else (none)))) else (none)) else (if (x1.length : Int) = 0 then (some true) else (if 0 < (x1.length : Int) then (if ((rd_T87 x1 0).f0) = 3 then (some (((rd_T87 x1 0).f1).toList == x0.toList)) else (some false)) else (none)))
def impl_rawOk.f (k : Nat) (a0 : ByteArray) (l1 : List (S87)) : Option (Bool) := if (l1.length : Int) > 0 then (if 0 < (l1.length : Int) then (impl_rawOk.j0 k a0 l1 (((rd_T87 l1 0).f0) == 1)) else (none)) else (impl_rawOk.j0 k a0 l1 false)
theorem impl_rawOk.mono_l : ∀ k, (∀ y0 y1 y2, LeO (impl_rawOk.j0 k y0 y1 y2) (impl_rawOk.j0 (k + 1) y0 y1 y2))
 | 0 => fun _ _ _ r h => by simp [impl_rawOk.j0] at h
 | k + 1 => by
  have ih0 := impl_rawOk.mono_l k
  ·intro y0 y1 y2
   unfold impl_rawOk.j0
   repeat' first
   | (with_reducible exact ih0 _ _ _)
   | (with_reducible exact impl_RawEnd.mono _ _ _ _)
   | (with_reducible exact LeO.refl _)
   | (with_reducible exact LeO.none _)
   | (with_reducible refine LeO.ite ?_ ?_)
   | (with_reducible refine LeO.bind ?_ (fun _ => ?_))
theorem impl_rawOk.mono : ∀ a0 a1 k, LeO (impl_rawOk.f k a0 a1) (impl_rawOk.f (k + 1) a0 a1) := by
 intro a0 a1 k
 have ih0 := impl_rawOk.mono_l k
 unfold impl_rawOk.f
 repeat' first
   | (with_reducible exact ih0 _ _ _)
   | (with_reducible exact impl_RawEnd.mono _ _ _ _)
   | (with_reducible exact LeO.refl _)
   | (with_reducible exact LeO.none _)
   | (with_reducible refine LeO.ite ?_ ?_)
   | (with_reducible refine LeO.bind ?_ (fun _ => ?_))
set_option maxHeartbeats 8000000 in
set_option maxRecDepth 100000 in
theorem impl_rawOk.calls (k : Nat) (a0 : ByteArray) (A1 : Option Addr) (c1 : Nat) (l1 : List (S87)) (r : Bool) (w : World) (hr1 : Kd.C k87 w A1 l1.length l1) (hc1 : l1.length ≤ c1) (h : impl_rawOk.f k a0 l1 = some r) :
  Calls Try.prog 96 #[.string a0, .slice A1 l1.length c1] w fun e w' => e = .returned (.bool r) ∧ Below w.heap.size w w' := by
 have HR1 := Aside0.mk hr1
 have HC1 := Aside0.mk hc1
 clear hr1 hc1
 have HB := Aside0.mk (Below.refl w.heap.size w)
 have H : (if (l1.length : Int) > 0 then (if 0 < (l1.length : Int) then (impl_rawOk.j0 k a0 l1 (((rd_T87 l1 0).f0) == 1)) else (none)) else (impl_rawOk.j0 k a0 l1 false)) = some r := h
 clear h
 have HC3 := Aside0.mk H
 clear H
 go_enter Try.func96, Try.ntmps96
 go_upto_region 1 with (fail)
 go_cut [15] (fun v15 wc => ∃ (kq : Nat) (x15_2 : Bool), v15 = .bool x15_2 ∧ Aside0 (impl_rawOk.j0 kq a0 l1 x15_2 = some r) ∧ Aside0 (kq ≤ k) ∧ Aside0 (Below w.heap.size w wc))
 case first =>
  have H := HC3.out
  clear HC3
  by_cases c4 : (l1.length : Int) > 0
  ·rw [if_pos c4] at H
   have c4b0 : decide (0 < (l1.length : Int)) = true := decide_eq_true c4
   have c4b1 : decide (0 < l1.length) = true := decide_eq_true (by omega)
   clear c4
   (first | rw [c4b0] | (simp only [i64_w, i32_w]; rw [c4b0]) | skip)
   by_cases c5 : 0 < (l1.length : Int)
   ·rw [if_pos c5] at H
    have c5b0 : decide (0 < (l1.length : Int)) = true := decide_eq_true c5
    have c5b1 : decide (0 < l1.length) = true := decide_eq_true (by omega)
    clear c5
    have H' := Aside0.mk H
    clear H
    have p304 : 0 ≤ (0 : Int) := (by omega)
    have q304 : 0 < (l1.length : Int) := dq_ (by assumption)
    obtain ⟨ad304, A304_2, c304_2, e304, hx304_0, hx304_1, hx304_2, hx304_3, hx304_4, hl304_2, hi304_2⟩ := at_T87 HR1.out 0 p304 q304
    cases e304
    have qi304 : (0 < l1.length) = True := eq_true (by omega)
    (try rw [show ((0 : Int)).toNat = 0 from rfl] at hx304_0)
    (try rw [show 0 * 5 = 0 from rfl] at hx304_0)
    (try rw [Addr.add_zero'] at hx304_0)
    (try rw [show ((0 : Int)).toNat = 0 from rfl] at hx304_1)
    (try rw [show 0 * 5 = 0 from rfl] at hx304_1)
    (try rw [Addr.add_zero'] at hx304_1)
    (try rw [show ((0 : Int)).toNat = 0 from rfl] at hx304_2)
    (try rw [show 0 * 5 = 0 from rfl] at hx304_2)
    (try rw [Addr.add_zero'] at hx304_2)
    (try rw [show ((0 : Int)).toNat = 0 from rfl] at hx304_3)
    (try rw [show 0 * 5 = 0 from rfl] at hx304_3)
    (try rw [Addr.add_zero'] at hx304_3)
    (try rw [show ((0 : Int)).toNat = 0 from rfl] at hx304_4)
    (try rw [show 0 * 5 = 0 from rfl] at hx304_4)
    (try rw [Addr.add_zero'] at hx304_4)
    replace hx304_0 := pw_cell_below HB.out hx304_0
    replace hx304_1 := pw_cell_below HB.out hx304_1
    replace hx304_2 := pw_cell_below HB.out hx304_2
    replace hx304_3 := pw_cell_below HB.out hx304_3
    replace hx304_4 := pw_cell_below HB.out hx304_4
    have HR304_2 := Aside0.mk hi304_2
    have HC304_2 := Aside0.mk hl304_2
    clear hi304_2 hl304_2
    replace p304 := eq_true p304
    replace q304 := eq_true q304
    go_wp2
    go_meet
    case rel => exact ⟨_, ((((rd_T87 l1 0).f0) == 1)), (by first | rfl | (simp; done) | (simp [*]; done)), H', ⟨by first | omega | exact Nat.le_refl _⟩, ⟨by repeat (first | (with_reducible first | exact HB.out | apply ba_ | apply bn_ | apply b1_) | exact HB.out)⟩⟩
   ·rw [if_neg c5] at H
    exact absurd H (by simp)
  ·rw [if_neg c4] at H
   have c4b0 : decide (0 < (l1.length : Int)) = false := decide_eq_false c4
   have c4b1 : decide (0 < l1.length) = false := decide_eq_false (by omega)
   clear c4
   (first | rw [c4b0] | (simp only [i64_w, i32_w]; rw [c4b0]) | skip)
   have H' := Aside0.mk H
   clear H
   go_wp2
   go_meet
   case rel => exact ⟨_, (false), (by first | rfl | (simp; done) | (simp [*]; done)), H', ⟨by first | omega | exact Nat.le_refl _⟩, ⟨by repeat (first | (with_reducible first | exact HB.out | apply ba_ | apply bn_ | apply b1_) | exact HB.out)⟩⟩
 case rest =>
  clear HC3
  try clear c1
  try clear c4
  try clear c4b0
  try clear c4b1
  try clear c5
  try clear c5b0
  try clear c5b1
  try clear hx304_0
  try clear hx304_1
  try clear hx304_2
  try clear hx304_3
  try clear hx304_4
  try clear p304
  try clear q304
  obtain ⟨kq, x15_2, rfl, HA, HJ2, HB⟩ := hcut
  cases kq with
  | zero => exact absurd HA.out (by simp [impl_rawOk.j0])
  | succ kj2 =>
   have H := HA.out
   clear HA
   simp only [impl_rawOk.j0] at H
   by_cases c6 : x15_2 = true
   ·subst c6
    have H1 : (if 0 < (l1.length : Int) then ((impl_isPlainRaw.f a0).bind fun t306 => (if t306 = true then ((impl_RawEnd.f kj2 ((rd_T87 l1 0).f3) 0 a0).bind fun t307 => (if t307 < (((rd_T87 l1 0).f3).size : Int) then (some false) else (if 1 ≤ (l1.length : Int) then ((some (l1.drop 1 : List (S87))).bind fun y308 => (if (y308.length : Int) = 0 then (some true) else (if 0 < (y308.length : Int) then (if ((rd_T87 y308 0).f0) = 3 then (some (((rd_T87 y308 0).f1).toList == a0.toList)) else (some false)) else (none)))) else (none)))) else (if 1 ≤ (l1.length : Int) then ((some (l1.drop 1 : List (S87))).bind fun y314 => (if (y314.length : Int) = 0 then (some true) else (if 0 < (y314.length : Int) then (if ((rd_T87 y314 0).f0) = 3 then (some (((rd_T87 y314 0).f1).toList == a0.toList)) else (some false)) else (none)))) else (none)))) else (none)) = some r := by rw [if_pos rfl] at H; exact H
    clear H
    have H := H1
    clear H1
    by_cases c7 : 0 < (l1.length : Int)
    ·rw [if_pos c7] at H
     have c7b0 : decide (0 < (l1.length : Int)) = true := decide_eq_true c7
     have c7b1 : decide (0 < l1.length) = true := decide_eq_true (by omega)
     clear c7
     replace H := Option.bind_eq_some_iff.mp H
     obtain ⟨t306, A80, H⟩ := H
     replace H : (if t306 = true then ((impl_RawEnd.f kj2 ((rd_T87 l1 0).f3) 0 a0).bind fun t307 => (if t307 < (((rd_T87 l1 0).f3).size : Int) then (some false) else (if 1 ≤ (l1.length : Int) then ((some (l1.drop 1 : List (S87))).bind fun y308 => (if (y308.length : Int) = 0 then (some true) else (if 0 < (y308.length : Int) then (if ((rd_T87 y308 0).f0) = 3 then (some (((rd_T87 y308 0).f1).toList == a0.toList)) else (some false)) else (none)))) else (none)))) else (if 1 ≤ (l1.length : Int) then ((some (l1.drop 1 : List (S87))).bind fun y314 => (if (y314.length : Int) = 0 then (some true) else (if 0 < (y314.length : Int) then (if ((rd_T87 y314 0).f0) = 3 then (some (((rd_T87 y314 0).f1).toList == a0.toList)) else (some false)) else (none)))) else (none))) = some r := H
     have A8 := Aside0.mk A80
     clear A80
     by_cases c9 : t306 = true
     ·subst c9
      have H1 : ((impl_RawEnd.f kj2 ((rd_T87 l1 0).f3) 0 a0).bind fun t307 => (if t307 < (((rd_T87 l1 0).f3).size : Int) then (some false) else (if 1 ≤ (l1.length : Int) then ((some (l1.drop 1 : List (S87))).bind fun y308 => (if (y308.length : Int) = 0 then (some true) else (if 0 < (y308.length : Int) then (if ((rd_T87 y308 0).f0) = 3 then (some (((rd_T87 y308 0).f1).toList == a0.toList)) else (some false)) else (none)))) else (none)))) = some r := by rw [if_pos rfl] at H; exact H
      clear H
      have H := H1
      clear H1
      replace H := Option.bind_eq_some_iff.mp H
      obtain ⟨t307, A100, H⟩ := H
      replace H : (if t307 < (((rd_T87 l1 0).f3).size : Int) then (some false) else (if 1 ≤ (l1.length : Int) then ((some (l1.drop 1 : List (S87))).bind fun y308 => (if (y308.length : Int) = 0 then (some true) else (if 0 < (y308.length : Int) then (if ((rd_T87 y308 0).f0) = 3 then (some (((rd_T87 y308 0).f1).toList == a0.toList)) else (some false)) else (none)))) else (none))) = some r := H
      have A10 := Aside0.mk A100
      clear A100
      by_cases c11 : t307 < (((rd_T87 l1 0).f3).size : Int)
      ·rw [if_pos c11] at H
       have c11b0 : decide (t307 < (((rd_T87 l1 0).f3).size : Int)) = true := decide_eq_true c11
       clear c11
       obtain rfl := Option.some.inj H
       have p305 : 0 ≤ (0 : Int) := (by omega)
       have q305 : 0 < (l1.length : Int) := dq_ (by assumption)
       obtain ⟨ad305, A305_2, c305_2, e305, hx305_0, hx305_1, hx305_2, hx305_3, hx305_4, hl305_2, hi305_2⟩ := at_T87 HR1.out 0 p305 q305
       cases e305
       have qi305 : (0 < l1.length) = True := eq_true (by omega)
       (try rw [show ((0 : Int)).toNat = 0 from rfl] at hx305_0)
       (try rw [show 0 * 5 = 0 from rfl] at hx305_0)
       (try rw [Addr.add_zero'] at hx305_0)
       (try rw [show ((0 : Int)).toNat = 0 from rfl] at hx305_1)
       (try rw [show 0 * 5 = 0 from rfl] at hx305_1)
       (try rw [Addr.add_zero'] at hx305_1)
       (try rw [show ((0 : Int)).toNat = 0 from rfl] at hx305_2)
       (try rw [show 0 * 5 = 0 from rfl] at hx305_2)
       (try rw [Addr.add_zero'] at hx305_2)
       (try rw [show ((0 : Int)).toNat = 0 from rfl] at hx305_3)
       (try rw [show 0 * 5 = 0 from rfl] at hx305_3)
       (try rw [Addr.add_zero'] at hx305_3)
       (try rw [show ((0 : Int)).toNat = 0 from rfl] at hx305_4)
       (try rw [show 0 * 5 = 0 from rfl] at hx305_4)
       (try rw [Addr.add_zero'] at hx305_4)
       replace hx305_0 := pw_cell_below HB.out hx305_0
       replace hx305_1 := pw_cell_below HB.out hx305_1
       replace hx305_2 := pw_cell_below HB.out hx305_2
       replace hx305_3 := pw_cell_below HB.out hx305_3
       replace hx305_4 := pw_cell_below HB.out hx305_4
       have HR305_2 := Aside0.mk hi305_2
       have HC305_2 := Aside0.mk hl305_2
       clear hi305_2 hl305_2
       replace p305 := eq_true p305
       replace q305 := eq_true q305
       go_wp2_with (first | ((with_reducible refine gate_callee (f := 130) rfl ?_); refine goesL_ (some 21) rfl rfl Try.func130 (by kernel_rfl) rfl #[.string a0] rfl (by (try simp only [List.map_toArray, List.map_cons, List.map_nil]); first | done | rfl | (simp only [List.length_drop, List.length_take]; rfl)) ?_; (with_reducible refine (impl_isPlainRaw.calls a0 true _ A8.out).mono ?_); rintro e w' ⟨rfl, ⟨nd, rfl⟩⟩; refine ⟨_, rfl, ?_⟩) | (go_at_call 131; (with_reducible refine (impl_RawEnd.calls kj2 ((rd_T87 l1 0).f3) 0 a0 t307 _ A10.out).mono ?_); rintro e w12 ⟨rfl, hb⟩; have n0_ := Aside0.mk (below_step (by repeat (first | (with_reducible first | exact HB.out | apply ba_ | apply bn_ | apply b1_) | exact HB.out)) hb); clear HB; have HB := n0_; clear n0_; (try clear hb)))
       go_ret
       exact ⟨by first | rfl | (simp [errW_none, errW_some] <;> rfl) | (simp [*, errW_none, errW_some] <;> rfl), by repeat (first | (with_reducible first | exact HB.out | apply ba_ | apply bn_ | apply b1_) | exact HB.out)⟩
      ·rw [if_neg c11] at H
       have c11b0 : decide (t307 < (((rd_T87 l1 0).f3).size : Int)) = false := decide_eq_false c11
       clear c11
       by_cases c13 : 1 ≤ (l1.length : Int)
       ·rw [if_pos c13] at H
        have c13b0 := eq_true c13
        have c13b1 : decide (1 ≤ (l1.length : Int)) = true := decide_eq_true c13
        clear c13
        obtain ⟨y308, hy308⟩ : ∃ y_ : List (S87), y_ = (l1.drop 1) := ⟨_, rfl⟩
        replace H : (if (y308.length : Int) = 0 then (some true) else (if 0 < (y308.length : Int) then (if ((rd_T87 y308 0).f0) = 3 then (some (((rd_T87 y308 0).f1).toList == a0.toList)) else (some false)) else (none))) = some r := by first | (rw [hy308]; with_reducible exact H) | (have H2_ := (Option.bind_some _ _).symm.trans H; rw [hy308]; with_reducible exact H2_) | (have H2_ := (Option.bind_some _ _).symm.trans H; with_reducible exact H2_) | with_reducible exact H | (rw [hy308]; exact H) | exact H
        have Ny308 := Aside0.mk hy308
        clear hy308
        by_cases c14 : (y308.length : Int) = 0
        ·rw [if_pos c14] at H
         have c14b0 : ((y308.length : Int) == 0) = true := beq_iff_eq.mpr c14
         have c14b1 : ((y308.length : Int) != 0) = false := bne_eq_false_iff_eq.mpr c14
         clear c14
         obtain rfl := Option.some.inj H
         have p305 : 0 ≤ (0 : Int) := (by omega)
         have q305 : 0 < (l1.length : Int) := dq_ (by assumption)
         obtain ⟨ad305, A305_2, c305_2, e305, hx305_0, hx305_1, hx305_2, hx305_3, hx305_4, hl305_2, hi305_2⟩ := at_T87 HR1.out 0 p305 q305
         cases e305
         have qi305 : (0 < l1.length) = True := eq_true (by omega)
         (try rw [show ((0 : Int)).toNat = 0 from rfl] at hx305_0)
         (try rw [show 0 * 5 = 0 from rfl] at hx305_0)
         (try rw [Addr.add_zero'] at hx305_0)
         (try rw [show ((0 : Int)).toNat = 0 from rfl] at hx305_1)
         (try rw [show 0 * 5 = 0 from rfl] at hx305_1)
         (try rw [Addr.add_zero'] at hx305_1)
         (try rw [show ((0 : Int)).toNat = 0 from rfl] at hx305_2)
         (try rw [show 0 * 5 = 0 from rfl] at hx305_2)
         (try rw [Addr.add_zero'] at hx305_2)
         (try rw [show ((0 : Int)).toNat = 0 from rfl] at hx305_3)
         (try rw [show 0 * 5 = 0 from rfl] at hx305_3)
         (try rw [Addr.add_zero'] at hx305_3)
         (try rw [show ((0 : Int)).toNat = 0 from rfl] at hx305_4)
         (try rw [show 0 * 5 = 0 from rfl] at hx305_4)
         (try rw [Addr.add_zero'] at hx305_4)
         replace hx305_0 := pw_cell_below HB.out hx305_0
         replace hx305_1 := pw_cell_below HB.out hx305_1
         replace hx305_2 := pw_cell_below HB.out hx305_2
         replace hx305_3 := pw_cell_below HB.out hx305_3
         replace hx305_4 := pw_cell_below HB.out hx305_4
         have HR305_2 := Aside0.mk hi305_2
         have HC305_2 := Aside0.mk hl305_2
         clear hi305_2 hl305_2
         replace p305 := eq_true p305
         replace q305 := eq_true q305
         go_wp2_with (first | ((with_reducible refine gate_callee (f := 130) rfl ?_); refine goesL_ (some 21) rfl rfl Try.func130 (by kernel_rfl) rfl #[.string a0] rfl (by (try simp only [List.map_toArray, List.map_cons, List.map_nil]); first | done | rfl | (simp only [List.length_drop, List.length_take]; rfl)) ?_; (with_reducible refine (impl_isPlainRaw.calls a0 true _ A8.out).mono ?_); rintro e w' ⟨rfl, ⟨nd, rfl⟩⟩; refine ⟨_, rfl, ?_⟩) | (go_at_call 131; (with_reducible refine (impl_RawEnd.calls kj2 ((rd_T87 l1 0).f3) 0 a0 t307 _ A10.out).mono ?_); rintro e w15 ⟨rfl, hb⟩; have n0_ := Aside0.mk (below_step (by repeat (first | (with_reducible first | exact HB.out | apply ba_ | apply bn_ | apply b1_) | exact HB.out)) hb); clear HB; have HB := n0_; clear n0_; (try clear hb); have q16 : (1 : Int) ≤ ((l1.length : Int) : Int) := dq_ (by assumption); obtain ⟨i016, hi016, _, hsz16, _⟩ := info_parts info87; have hroom16 : l1.length ≤ c1 := HC1.out; have hC16 : Kd.C k87 _ (some ad305) l1.length l1 := HR1.out; have hcut16 := cut_from (P := Try.prog) 46 87 .i64 Try.underlying46 hi016 5 hsz16 (some ad305) l1.length c1 1 (by omega) q16; have hr16 := Kd.C_drop (m := (1 : Int).toNat) (c := c1) hC16 (by omega) hroom16; obtain ⟨A16, hA16⟩ : ∃ A1, A1 = (if c1 = (1 : Int).toNat then (some ad305) else ((some ad305) : Option Addr).map (·.add ((1 : Int).toNat * 5))) := ⟨_, rfl⟩; obtain ⟨c16, hc16⟩ : ∃ cc_, cc_ = c1 - (1 : Int).toNat := ⟨_, rfl⟩; have hy16 : y308.length = l1.length - (1 : Int).toNat := (by rw [Ny308.out, List.length_drop] <;> omega); rw [show (l1).drop (1 : Int).toNat = y308 from Ny308.out.symm] at hr16; replace hr16 : Kd.C k87 _ A16 y308.length y308 := (by rw [hA16]; exact hr16); rw [← hy16, ← hA16, ← hc16] at hcut16; have HR311 := Aside0.mk hr16; have HC311 := Aside0.mk (show y308.length ≤ c16 from by rw [hy16, hc16]; exact Nat.sub_le_sub_right hroom16 _); clear hr16 hC16 hroom16 hi016 hsz16 hc16; have KY16 := Aside0.mk hy16; have KA16 := Aside0.mk hA16; clear hy16 hA16; replace q16 := eq_true q16))
         go_ret
         exact ⟨by first | rfl | (simp [errW_none, errW_some] <;> rfl) | (simp [*, errW_none, errW_some] <;> rfl), by repeat (first | (with_reducible first | exact HB.out | apply ba_ | apply bn_ | apply b1_) | exact HB.out)⟩
        ·rw [if_neg c14] at H
         have c14b0 : ((y308.length : Int) == 0) = false := beq_eq_false_iff_ne.mpr c14
         have c14b1 : ((y308.length : Int) != 0) = true := bne_iff_ne.mpr c14
         have c14b2 : ¬ (y308 = []) := fun h_ => c14 (by rw [h_]; rfl)
         by_cases c17 : 0 < (y308.length : Int)
         ·rw [if_pos c17] at H
          have c17b0 : decide (0 < (y308.length : Int)) = true := decide_eq_true c17
          have c17b1 : decide (0 < y308.length) = true := decide_eq_true (by omega)
          clear c17
          by_cases c18 : ((rd_T87 y308 0).f0) = 3
          ·rw [if_pos c18] at H
           have c18b0 : (((rd_T87 y308 0).f0) == 3) = true := beq_iff_eq.mpr c18
           have c18b1 : (((rd_T87 y308 0).f0) != 3) = false := bne_eq_false_iff_eq.mpr c18
           clear c18
           obtain rfl := Option.some.inj H
           have p305 : 0 ≤ (0 : Int) := (by omega)
           have q305 : 0 < (l1.length : Int) := dq_ (by assumption)
           obtain ⟨ad305, A305_2, c305_2, e305, hx305_0, hx305_1, hx305_2, hx305_3, hx305_4, hl305_2, hi305_2⟩ := at_T87 HR1.out 0 p305 q305
           cases e305
           have qi305 : (0 < l1.length) = True := eq_true (by omega)
           (try rw [show ((0 : Int)).toNat = 0 from rfl] at hx305_0)
           (try rw [show 0 * 5 = 0 from rfl] at hx305_0)
           (try rw [Addr.add_zero'] at hx305_0)
           (try rw [show ((0 : Int)).toNat = 0 from rfl] at hx305_1)
           (try rw [show 0 * 5 = 0 from rfl] at hx305_1)
           (try rw [Addr.add_zero'] at hx305_1)
           (try rw [show ((0 : Int)).toNat = 0 from rfl] at hx305_2)
           (try rw [show 0 * 5 = 0 from rfl] at hx305_2)
           (try rw [Addr.add_zero'] at hx305_2)
           (try rw [show ((0 : Int)).toNat = 0 from rfl] at hx305_3)
           (try rw [show 0 * 5 = 0 from rfl] at hx305_3)
           (try rw [Addr.add_zero'] at hx305_3)
           (try rw [show ((0 : Int)).toNat = 0 from rfl] at hx305_4)
           (try rw [show 0 * 5 = 0 from rfl] at hx305_4)
           (try rw [Addr.add_zero'] at hx305_4)
           replace hx305_0 := pw_cell_below HB.out hx305_0
           replace hx305_1 := pw_cell_below HB.out hx305_1
           replace hx305_2 := pw_cell_below HB.out hx305_2
           replace hx305_3 := pw_cell_below HB.out hx305_3
           replace hx305_4 := pw_cell_below HB.out hx305_4
           have HR305_2 := Aside0.mk hi305_2
           have HC305_2 := Aside0.mk hl305_2
           clear hi305_2 hl305_2
           replace p305 := eq_true p305
           replace q305 := eq_true q305
           go_wp2_with (first | ((with_reducible refine gate_callee (f := 130) rfl ?_); refine goesL_ (some 21) rfl rfl Try.func130 (by kernel_rfl) rfl #[.string a0] rfl (by (try simp only [List.map_toArray, List.map_cons, List.map_nil]); first | done | rfl | (simp only [List.length_drop, List.length_take]; rfl)) ?_; (with_reducible refine (impl_isPlainRaw.calls a0 true _ A8.out).mono ?_); rintro e w' ⟨rfl, ⟨nd, rfl⟩⟩; refine ⟨_, rfl, ?_⟩) | (go_at_call 131; (with_reducible refine (impl_RawEnd.calls kj2 ((rd_T87 l1 0).f3) 0 a0 t307 _ A10.out).mono ?_); rintro e w19 ⟨rfl, hb⟩; have n0_ := Aside0.mk (below_step (by repeat (first | (with_reducible first | exact HB.out | apply ba_ | apply bn_ | apply b1_) | exact HB.out)) hb); clear HB; have HB := n0_; clear n0_; (try clear hb); have q20 : (1 : Int) ≤ ((l1.length : Int) : Int) := dq_ (by assumption); obtain ⟨i020, hi020, _, hsz20, _⟩ := info_parts info87; have hroom20 : l1.length ≤ c1 := HC1.out; have hC20 : Kd.C k87 _ (some ad305) l1.length l1 := HR1.out; have hcut20 := cut_from (P := Try.prog) 46 87 .i64 Try.underlying46 hi020 5 hsz20 (some ad305) l1.length c1 1 (by omega) q20; have hr20 := Kd.C_drop (m := (1 : Int).toNat) (c := c1) hC20 (by omega) hroom20; obtain ⟨A20, hA20⟩ : ∃ A1, A1 = (if c1 = (1 : Int).toNat then (some ad305) else ((some ad305) : Option Addr).map (·.add ((1 : Int).toNat * 5))) := ⟨_, rfl⟩; obtain ⟨c20, hc20⟩ : ∃ cc_, cc_ = c1 - (1 : Int).toNat := ⟨_, rfl⟩; have hy20 : y308.length = l1.length - (1 : Int).toNat := (by rw [Ny308.out, List.length_drop] <;> omega); rw [show (l1).drop (1 : Int).toNat = y308 from Ny308.out.symm] at hr20; replace hr20 : Kd.C k87 _ A20 y308.length y308 := (by rw [hA20]; exact hr20); rw [← hy20, ← hA20, ← hc20] at hcut20; have HR311 := Aside0.mk hr20; have HC311 := Aside0.mk (show y308.length ≤ c20 from by rw [hy20, hc20]; exact Nat.sub_le_sub_right hroom20 _); clear hr20 hC20 hroom20 hi020 hsz20 hc20; have KY20 := Aside0.mk hy20; have KA20 := Aside0.mk hA20; clear hy20 hA20; replace q20 := eq_true q20; have p312 : 0 ≤ (0 : Int) := (by omega); have q312 : 0 < (y308.length : Int) := dq_ (by assumption); obtain ⟨ad312, A312_2, c312_2, e312, hx312_0, hx312_1, hx312_2, hx312_3, hx312_4, hl312_2, hi312_2⟩ := at_T87 HR311.out 0 p312 q312; cases e312; have qi312 : (0 < y308.length) = True := eq_true (by omega); (try rw [show ((0 : Int)).toNat = 0 from rfl] at hx312_0); (try rw [show 0 * 5 = 0 from rfl] at hx312_0); (try rw [Addr.add_zero'] at hx312_0); (try rw [show ((0 : Int)).toNat = 0 from rfl] at hx312_1); (try rw [show 0 * 5 = 0 from rfl] at hx312_1); (try rw [Addr.add_zero'] at hx312_1); (try rw [show ((0 : Int)).toNat = 0 from rfl] at hx312_2); (try rw [show 0 * 5 = 0 from rfl] at hx312_2); (try rw [Addr.add_zero'] at hx312_2); (try rw [show ((0 : Int)).toNat = 0 from rfl] at hx312_3); (try rw [show 0 * 5 = 0 from rfl] at hx312_3); (try rw [Addr.add_zero'] at hx312_3); (try rw [show ((0 : Int)).toNat = 0 from rfl] at hx312_4); (try rw [show 0 * 5 = 0 from rfl] at hx312_4); (try rw [Addr.add_zero'] at hx312_4); replace hx312_0 := pw_cell_below HB.out hx312_0; replace hx312_1 := pw_cell_below HB.out hx312_1; replace hx312_2 := pw_cell_below HB.out hx312_2; replace hx312_3 := pw_cell_below HB.out hx312_3; replace hx312_4 := pw_cell_below HB.out hx312_4; have HR312_2 := Aside0.mk hi312_2; have HC312_2 := Aside0.mk hl312_2; clear hi312_2 hl312_2; replace p312 := eq_true p312; replace q312 := eq_true q312; have p313 : 0 ≤ (0 : Int) := (by omega); have q313 : 0 < (y308.length : Int) := dq_ (by assumption); obtain ⟨ad313, A313_2, c313_2, e313, hx313_0, hx313_1, hx313_2, hx313_3, hx313_4, hl313_2, hi313_2⟩ := at_T87 HR311.out 0 p313 q313; obtain rfl : ad312 = ad313 := (by injection e313); have qi313 : (0 < y308.length) = True := eq_true (by omega); (try rw [show ((0 : Int)).toNat = 0 from rfl] at hx313_0); (try rw [show 0 * 5 = 0 from rfl] at hx313_0); (try rw [Addr.add_zero'] at hx313_0); (try rw [show ((0 : Int)).toNat = 0 from rfl] at hx313_1); (try rw [show 0 * 5 = 0 from rfl] at hx313_1); (try rw [Addr.add_zero'] at hx313_1); (try rw [show ((0 : Int)).toNat = 0 from rfl] at hx313_2); (try rw [show 0 * 5 = 0 from rfl] at hx313_2); (try rw [Addr.add_zero'] at hx313_2); (try rw [show ((0 : Int)).toNat = 0 from rfl] at hx313_3); (try rw [show 0 * 5 = 0 from rfl] at hx313_3); (try rw [Addr.add_zero'] at hx313_3); (try rw [show ((0 : Int)).toNat = 0 from rfl] at hx313_4); (try rw [show 0 * 5 = 0 from rfl] at hx313_4); (try rw [Addr.add_zero'] at hx313_4); replace hx313_0 := pw_cell_below HB.out hx313_0; replace hx313_1 := pw_cell_below HB.out hx313_1; replace hx313_2 := pw_cell_below HB.out hx313_2; replace hx313_3 := pw_cell_below HB.out hx313_3; replace hx313_4 := pw_cell_below HB.out hx313_4; have HR313_2 := Aside0.mk hi313_2; have HC313_2 := Aside0.mk hl313_2; clear hi313_2 hl313_2; replace p313 := eq_true p313; replace q313 := eq_true q313; have ea_ := Option.some.inj (hx312_2.symm.trans hx313_2); injection ea_ with ea_ en_ ec_; subst ea_; subst ec_; clear en_))
           go_ret
           exact ⟨by first | rfl | (simp [errW_none, errW_some] <;> rfl) | (simp [*, errW_none, errW_some] <;> rfl), by repeat (first | (with_reducible first | exact HB.out | apply ba_ | apply bn_ | apply b1_) | exact HB.out)⟩
          ·rw [if_neg c18] at H
           have c18b0 : (((rd_T87 y308 0).f0) == 3) = false := beq_eq_false_iff_ne.mpr c18
           have c18b1 : (((rd_T87 y308 0).f0) != 3) = true := bne_iff_ne.mpr c18
           obtain rfl := Option.some.inj H
           have p305 : 0 ≤ (0 : Int) := (by omega)
           have q305 : 0 < (l1.length : Int) := dq_ (by assumption)
           obtain ⟨ad305, A305_2, c305_2, e305, hx305_0, hx305_1, hx305_2, hx305_3, hx305_4, hl305_2, hi305_2⟩ := at_T87 HR1.out 0 p305 q305
           cases e305
           have qi305 : (0 < l1.length) = True := eq_true (by omega)
           (try rw [show ((0 : Int)).toNat = 0 from rfl] at hx305_0)
           (try rw [show 0 * 5 = 0 from rfl] at hx305_0)
           (try rw [Addr.add_zero'] at hx305_0)
           (try rw [show ((0 : Int)).toNat = 0 from rfl] at hx305_1)
           (try rw [show 0 * 5 = 0 from rfl] at hx305_1)
           (try rw [Addr.add_zero'] at hx305_1)
           (try rw [show ((0 : Int)).toNat = 0 from rfl] at hx305_2)
           (try rw [show 0 * 5 = 0 from rfl] at hx305_2)
           (try rw [Addr.add_zero'] at hx305_2)
           (try rw [show ((0 : Int)).toNat = 0 from rfl] at hx305_3)
           (try rw [show 0 * 5 = 0 from rfl] at hx305_3)
           (try rw [Addr.add_zero'] at hx305_3)
           (try rw [show ((0 : Int)).toNat = 0 from rfl] at hx305_4)
           (try rw [show 0 * 5 = 0 from rfl] at hx305_4)
           (try rw [Addr.add_zero'] at hx305_4)
           replace hx305_0 := pw_cell_below HB.out hx305_0
           replace hx305_1 := pw_cell_below HB.out hx305_1
           replace hx305_2 := pw_cell_below HB.out hx305_2
           replace hx305_3 := pw_cell_below HB.out hx305_3
           replace hx305_4 := pw_cell_below HB.out hx305_4
           have HR305_2 := Aside0.mk hi305_2
           have HC305_2 := Aside0.mk hl305_2
           clear hi305_2 hl305_2
           replace p305 := eq_true p305
           replace q305 := eq_true q305
           go_wp2_with (first | ((with_reducible refine gate_callee (f := 130) rfl ?_); refine goesL_ (some 21) rfl rfl Try.func130 (by kernel_rfl) rfl #[.string a0] rfl (by (try simp only [List.map_toArray, List.map_cons, List.map_nil]); first | done | rfl | (simp only [List.length_drop, List.length_take]; rfl)) ?_; (with_reducible refine (impl_isPlainRaw.calls a0 true _ A8.out).mono ?_); rintro e w' ⟨rfl, ⟨nd, rfl⟩⟩; refine ⟨_, rfl, ?_⟩) | (go_at_call 131; (with_reducible refine (impl_RawEnd.calls kj2 ((rd_T87 l1 0).f3) 0 a0 t307 _ A10.out).mono ?_); rintro e w21 ⟨rfl, hb⟩; have n0_ := Aside0.mk (below_step (by repeat (first | (with_reducible first | exact HB.out | apply ba_ | apply bn_ | apply b1_) | exact HB.out)) hb); clear HB; have HB := n0_; clear n0_; (try clear hb); have q22 : (1 : Int) ≤ ((l1.length : Int) : Int) := dq_ (by assumption); obtain ⟨i022, hi022, _, hsz22, _⟩ := info_parts info87; have hroom22 : l1.length ≤ c1 := HC1.out; have hC22 : Kd.C k87 _ (some ad305) l1.length l1 := HR1.out; have hcut22 := cut_from (P := Try.prog) 46 87 .i64 Try.underlying46 hi022 5 hsz22 (some ad305) l1.length c1 1 (by omega) q22; have hr22 := Kd.C_drop (m := (1 : Int).toNat) (c := c1) hC22 (by omega) hroom22; obtain ⟨A22, hA22⟩ : ∃ A1, A1 = (if c1 = (1 : Int).toNat then (some ad305) else ((some ad305) : Option Addr).map (·.add ((1 : Int).toNat * 5))) := ⟨_, rfl⟩; obtain ⟨c22, hc22⟩ : ∃ cc_, cc_ = c1 - (1 : Int).toNat := ⟨_, rfl⟩; have hy22 : y308.length = l1.length - (1 : Int).toNat := (by rw [Ny308.out, List.length_drop] <;> omega); rw [show (l1).drop (1 : Int).toNat = y308 from Ny308.out.symm] at hr22; replace hr22 : Kd.C k87 _ A22 y308.length y308 := (by rw [hA22]; exact hr22); rw [← hy22, ← hA22, ← hc22] at hcut22; have HR311 := Aside0.mk hr22; have HC311 := Aside0.mk (show y308.length ≤ c22 from by rw [hy22, hc22]; exact Nat.sub_le_sub_right hroom22 _); clear hr22 hC22 hroom22 hi022 hsz22 hc22; have KY22 := Aside0.mk hy22; have KA22 := Aside0.mk hA22; clear hy22 hA22; replace q22 := eq_true q22; have p312 : 0 ≤ (0 : Int) := (by omega); have q312 : 0 < (y308.length : Int) := dq_ (by assumption); obtain ⟨ad312, A312_2, c312_2, e312, hx312_0, hx312_1, hx312_2, hx312_3, hx312_4, hl312_2, hi312_2⟩ := at_T87 HR311.out 0 p312 q312; cases e312; have qi312 : (0 < y308.length) = True := eq_true (by omega); (try rw [show ((0 : Int)).toNat = 0 from rfl] at hx312_0); (try rw [show 0 * 5 = 0 from rfl] at hx312_0); (try rw [Addr.add_zero'] at hx312_0); (try rw [show ((0 : Int)).toNat = 0 from rfl] at hx312_1); (try rw [show 0 * 5 = 0 from rfl] at hx312_1); (try rw [Addr.add_zero'] at hx312_1); (try rw [show ((0 : Int)).toNat = 0 from rfl] at hx312_2); (try rw [show 0 * 5 = 0 from rfl] at hx312_2); (try rw [Addr.add_zero'] at hx312_2); (try rw [show ((0 : Int)).toNat = 0 from rfl] at hx312_3); (try rw [show 0 * 5 = 0 from rfl] at hx312_3); (try rw [Addr.add_zero'] at hx312_3); (try rw [show ((0 : Int)).toNat = 0 from rfl] at hx312_4); (try rw [show 0 * 5 = 0 from rfl] at hx312_4); (try rw [Addr.add_zero'] at hx312_4); replace hx312_0 := pw_cell_below HB.out hx312_0; replace hx312_1 := pw_cell_below HB.out hx312_1; replace hx312_2 := pw_cell_below HB.out hx312_2; replace hx312_3 := pw_cell_below HB.out hx312_3; replace hx312_4 := pw_cell_below HB.out hx312_4; have HR312_2 := Aside0.mk hi312_2; have HC312_2 := Aside0.mk hl312_2; clear hi312_2 hl312_2; replace p312 := eq_true p312; replace q312 := eq_true q312))
           go_ret
           exact ⟨by first | rfl | (simp [errW_none, errW_some] <;> rfl) | (simp [*, errW_none, errW_some] <;> rfl), by repeat (first | (with_reducible first | exact HB.out | apply ba_ | apply bn_ | apply b1_) | exact HB.out)⟩
         ·rw [if_neg c17] at H
          exact absurd H (by simp)
       ·rw [if_neg c13] at H
        exact absurd H (by simp)
     ·replace c9 := Bool.eq_false_iff.mpr c9
      subst c9
      have H1 : (if 1 ≤ (l1.length : Int) then ((some (l1.drop 1 : List (S87))).bind fun y314 => (if (y314.length : Int) = 0 then (some true) else (if 0 < (y314.length : Int) then (if ((rd_T87 y314 0).f0) = 3 then (some (((rd_T87 y314 0).f1).toList == a0.toList)) else (some false)) else (none)))) else (none)) = some r := by rw [if_neg (show ¬ (false = true) by decide)] at H; exact H
      clear H
      have H := H1
      clear H1
      by_cases c23 : 1 ≤ (l1.length : Int)
      ·rw [if_pos c23] at H
       have c23b0 := eq_true c23
       have c23b1 : decide (1 ≤ (l1.length : Int)) = true := decide_eq_true c23
       clear c23
       obtain ⟨y314, hy314⟩ : ∃ y_ : List (S87), y_ = (l1.drop 1) := ⟨_, rfl⟩
       replace H : (if (y314.length : Int) = 0 then (some true) else (if 0 < (y314.length : Int) then (if ((rd_T87 y314 0).f0) = 3 then (some (((rd_T87 y314 0).f1).toList == a0.toList)) else (some false)) else (none))) = some r := by first | (rw [hy314]; with_reducible exact H) | (have H2_ := (Option.bind_some _ _).symm.trans H; rw [hy314]; with_reducible exact H2_) | (have H2_ := (Option.bind_some _ _).symm.trans H; with_reducible exact H2_) | with_reducible exact H | (rw [hy314]; exact H) | exact H
       have Ny314 := Aside0.mk hy314
       clear hy314
       by_cases c24 : (y314.length : Int) = 0
       ·rw [if_pos c24] at H
        have c24b0 : ((y314.length : Int) == 0) = true := beq_iff_eq.mpr c24
        have c24b1 : ((y314.length : Int) != 0) = false := bne_eq_false_iff_eq.mpr c24
        clear c24
        obtain rfl := Option.some.inj H
        have p305 : 0 ≤ (0 : Int) := (by omega)
        have q305 : 0 < (l1.length : Int) := dq_ (by assumption)
        obtain ⟨ad305, A305_2, c305_2, e305, hx305_0, hx305_1, hx305_2, hx305_3, hx305_4, hl305_2, hi305_2⟩ := at_T87 HR1.out 0 p305 q305
        cases e305
        have qi305 : (0 < l1.length) = True := eq_true (by omega)
        (try rw [show ((0 : Int)).toNat = 0 from rfl] at hx305_0)
        (try rw [show 0 * 5 = 0 from rfl] at hx305_0)
        (try rw [Addr.add_zero'] at hx305_0)
        (try rw [show ((0 : Int)).toNat = 0 from rfl] at hx305_1)
        (try rw [show 0 * 5 = 0 from rfl] at hx305_1)
        (try rw [Addr.add_zero'] at hx305_1)
        (try rw [show ((0 : Int)).toNat = 0 from rfl] at hx305_2)
        (try rw [show 0 * 5 = 0 from rfl] at hx305_2)
        (try rw [Addr.add_zero'] at hx305_2)
        (try rw [show ((0 : Int)).toNat = 0 from rfl] at hx305_3)
        (try rw [show 0 * 5 = 0 from rfl] at hx305_3)
        (try rw [Addr.add_zero'] at hx305_3)
        (try rw [show ((0 : Int)).toNat = 0 from rfl] at hx305_4)
        (try rw [show 0 * 5 = 0 from rfl] at hx305_4)
        (try rw [Addr.add_zero'] at hx305_4)
        replace hx305_0 := pw_cell_below HB.out hx305_0
        replace hx305_1 := pw_cell_below HB.out hx305_1
        replace hx305_2 := pw_cell_below HB.out hx305_2
        replace hx305_3 := pw_cell_below HB.out hx305_3
        replace hx305_4 := pw_cell_below HB.out hx305_4
        have HR305_2 := Aside0.mk hi305_2
        have HC305_2 := Aside0.mk hl305_2
        clear hi305_2 hl305_2
        replace p305 := eq_true p305
        replace q305 := eq_true q305
        go_wp2_with (first | ((with_reducible refine gate_callee (f := 130) rfl ?_); refine goesL_ (some 21) rfl rfl Try.func130 (by kernel_rfl) rfl #[.string a0] rfl (by (try simp only [List.map_toArray, List.map_cons, List.map_nil]); first | done | rfl | (simp only [List.length_drop, List.length_take]; rfl)) ?_; (with_reducible refine (impl_isPlainRaw.calls a0 false _ A8.out).mono ?_); rintro e w' ⟨rfl, ⟨nd, rfl⟩⟩; refine ⟨_, rfl, ?_⟩; have q25 : (1 : Int) ≤ ((l1.length : Int) : Int) := dq_ (by assumption); obtain ⟨i025, hi025, _, hsz25, _⟩ := info_parts info87; have hroom25 : l1.length ≤ c1 := HC1.out; have hC25 : Kd.C k87 _ (some ad305) l1.length l1 := HR1.out; have hcut25 := cut_from (P := Try.prog) 46 87 .i64 Try.underlying46 hi025 5 hsz25 (some ad305) l1.length c1 1 (by omega) q25; have hr25 := Kd.C_drop (m := (1 : Int).toNat) (c := c1) hC25 (by omega) hroom25; obtain ⟨A25, hA25⟩ : ∃ A1, A1 = (if c1 = (1 : Int).toNat then (some ad305) else ((some ad305) : Option Addr).map (·.add ((1 : Int).toNat * 5))) := ⟨_, rfl⟩; obtain ⟨c25, hc25⟩ : ∃ cc_, cc_ = c1 - (1 : Int).toNat := ⟨_, rfl⟩; have hy25 : y314.length = l1.length - (1 : Int).toNat := (by rw [Ny314.out, List.length_drop] <;> omega); rw [show (l1).drop (1 : Int).toNat = y314 from Ny314.out.symm] at hr25; replace hr25 : Kd.C k87 _ A25 y314.length y314 := (by rw [hA25]; exact hr25); rw [← hy25, ← hA25, ← hc25] at hcut25; have HR317 := Aside0.mk hr25; have HC317 := Aside0.mk (show y314.length ≤ c25 from by rw [hy25, hc25]; exact Nat.sub_le_sub_right hroom25 _); clear hr25 hC25 hroom25 hi025 hsz25 hc25; have KY25 := Aside0.mk hy25; have KA25 := Aside0.mk hA25; clear hy25 hA25; replace q25 := eq_true q25))
        go_ret
        exact ⟨by first | rfl | (simp [errW_none, errW_some] <;> rfl) | (simp [*, errW_none, errW_some] <;> rfl), by repeat (first | (with_reducible first | exact HB.out | apply ba_ | apply bn_ | apply b1_) | exact HB.out)⟩
       ·rw [if_neg c24] at H
        have c24b0 : ((y314.length : Int) == 0) = false := beq_eq_false_iff_ne.mpr c24
        have c24b1 : ((y314.length : Int) != 0) = true := bne_iff_ne.mpr c24
        have c24b2 : ¬ (y314 = []) := fun h_ => c24 (by rw [h_]; rfl)
        by_cases c26 : 0 < (y314.length : Int)
        ·rw [if_pos c26] at H
         have c26b0 : decide (0 < (y314.length : Int)) = true := decide_eq_true c26
         have c26b1 : decide (0 < y314.length) = true := decide_eq_true (by omega)
         clear c26
         by_cases c27 : ((rd_T87 y314 0).f0) = 3
         ·rw [if_pos c27] at H
          have c27b0 : (((rd_T87 y314 0).f0) == 3) = true := beq_iff_eq.mpr c27
          have c27b1 : (((rd_T87 y314 0).f0) != 3) = false := bne_eq_false_iff_eq.mpr c27
          clear c27
          obtain rfl := Option.some.inj H
          have p305 : 0 ≤ (0 : Int) := (by omega)
          have q305 : 0 < (l1.length : Int) := dq_ (by assumption)
          obtain ⟨ad305, A305_2, c305_2, e305, hx305_0, hx305_1, hx305_2, hx305_3, hx305_4, hl305_2, hi305_2⟩ := at_T87 HR1.out 0 p305 q305
          cases e305
          have qi305 : (0 < l1.length) = True := eq_true (by omega)
          (try rw [show ((0 : Int)).toNat = 0 from rfl] at hx305_0)
          (try rw [show 0 * 5 = 0 from rfl] at hx305_0)
          (try rw [Addr.add_zero'] at hx305_0)
          (try rw [show ((0 : Int)).toNat = 0 from rfl] at hx305_1)
          (try rw [show 0 * 5 = 0 from rfl] at hx305_1)
          (try rw [Addr.add_zero'] at hx305_1)
          (try rw [show ((0 : Int)).toNat = 0 from rfl] at hx305_2)
          (try rw [show 0 * 5 = 0 from rfl] at hx305_2)
          (try rw [Addr.add_zero'] at hx305_2)
          (try rw [show ((0 : Int)).toNat = 0 from rfl] at hx305_3)
          (try rw [show 0 * 5 = 0 from rfl] at hx305_3)
          (try rw [Addr.add_zero'] at hx305_3)
          (try rw [show ((0 : Int)).toNat = 0 from rfl] at hx305_4)
          (try rw [show 0 * 5 = 0 from rfl] at hx305_4)
          (try rw [Addr.add_zero'] at hx305_4)
          replace hx305_0 := pw_cell_below HB.out hx305_0
          replace hx305_1 := pw_cell_below HB.out hx305_1
          replace hx305_2 := pw_cell_below HB.out hx305_2
          replace hx305_3 := pw_cell_below HB.out hx305_3
          replace hx305_4 := pw_cell_below HB.out hx305_4
          have HR305_2 := Aside0.mk hi305_2
          have HC305_2 := Aside0.mk hl305_2
          clear hi305_2 hl305_2
          replace p305 := eq_true p305
          replace q305 := eq_true q305
          go_wp2_with (first | ((with_reducible refine gate_callee (f := 130) rfl ?_); refine goesL_ (some 21) rfl rfl Try.func130 (by kernel_rfl) rfl #[.string a0] rfl (by (try simp only [List.map_toArray, List.map_cons, List.map_nil]); first | done | rfl | (simp only [List.length_drop, List.length_take]; rfl)) ?_; (with_reducible refine (impl_isPlainRaw.calls a0 false _ A8.out).mono ?_); rintro e w' ⟨rfl, ⟨nd, rfl⟩⟩; refine ⟨_, rfl, ?_⟩; have q28 : (1 : Int) ≤ ((l1.length : Int) : Int) := dq_ (by assumption); obtain ⟨i028, hi028, _, hsz28, _⟩ := info_parts info87; have hroom28 : l1.length ≤ c1 := HC1.out; have hC28 : Kd.C k87 _ (some ad305) l1.length l1 := HR1.out; have hcut28 := cut_from (P := Try.prog) 46 87 .i64 Try.underlying46 hi028 5 hsz28 (some ad305) l1.length c1 1 (by omega) q28; have hr28 := Kd.C_drop (m := (1 : Int).toNat) (c := c1) hC28 (by omega) hroom28; obtain ⟨A28, hA28⟩ : ∃ A1, A1 = (if c1 = (1 : Int).toNat then (some ad305) else ((some ad305) : Option Addr).map (·.add ((1 : Int).toNat * 5))) := ⟨_, rfl⟩; obtain ⟨c28, hc28⟩ : ∃ cc_, cc_ = c1 - (1 : Int).toNat := ⟨_, rfl⟩; have hy28 : y314.length = l1.length - (1 : Int).toNat := (by rw [Ny314.out, List.length_drop] <;> omega); rw [show (l1).drop (1 : Int).toNat = y314 from Ny314.out.symm] at hr28; replace hr28 : Kd.C k87 _ A28 y314.length y314 := (by rw [hA28]; exact hr28); rw [← hy28, ← hA28, ← hc28] at hcut28; have HR317 := Aside0.mk hr28; have HC317 := Aside0.mk (show y314.length ≤ c28 from by rw [hy28, hc28]; exact Nat.sub_le_sub_right hroom28 _); clear hr28 hC28 hroom28 hi028 hsz28 hc28; have KY28 := Aside0.mk hy28; have KA28 := Aside0.mk hA28; clear hy28 hA28; replace q28 := eq_true q28; have p318 : 0 ≤ (0 : Int) := (by omega); have q318 : 0 < (y314.length : Int) := dq_ (by assumption); obtain ⟨ad318, A318_2, c318_2, e318, hx318_0, hx318_1, hx318_2, hx318_3, hx318_4, hl318_2, hi318_2⟩ := at_T87 HR317.out 0 p318 q318; cases e318; have qi318 : (0 < y314.length) = True := eq_true (by omega); (try rw [show ((0 : Int)).toNat = 0 from rfl] at hx318_0); (try rw [show 0 * 5 = 0 from rfl] at hx318_0); (try rw [Addr.add_zero'] at hx318_0); (try rw [show ((0 : Int)).toNat = 0 from rfl] at hx318_1); (try rw [show 0 * 5 = 0 from rfl] at hx318_1); (try rw [Addr.add_zero'] at hx318_1); (try rw [show ((0 : Int)).toNat = 0 from rfl] at hx318_2); (try rw [show 0 * 5 = 0 from rfl] at hx318_2); (try rw [Addr.add_zero'] at hx318_2); (try rw [show ((0 : Int)).toNat = 0 from rfl] at hx318_3); (try rw [show 0 * 5 = 0 from rfl] at hx318_3); (try rw [Addr.add_zero'] at hx318_3); (try rw [show ((0 : Int)).toNat = 0 from rfl] at hx318_4); (try rw [show 0 * 5 = 0 from rfl] at hx318_4); (try rw [Addr.add_zero'] at hx318_4); replace hx318_0 := pw_cell_below HB.out hx318_0; replace hx318_1 := pw_cell_below HB.out hx318_1; replace hx318_2 := pw_cell_below HB.out hx318_2; replace hx318_3 := pw_cell_below HB.out hx318_3; replace hx318_4 := pw_cell_below HB.out hx318_4; have HR318_2 := Aside0.mk hi318_2; have HC318_2 := Aside0.mk hl318_2; clear hi318_2 hl318_2; replace p318 := eq_true p318; replace q318 := eq_true q318; have p319 : 0 ≤ (0 : Int) := (by omega); have q319 : 0 < (y314.length : Int) := dq_ (by assumption); obtain ⟨ad319, A319_2, c319_2, e319, hx319_0, hx319_1, hx319_2, hx319_3, hx319_4, hl319_2, hi319_2⟩ := at_T87 HR317.out 0 p319 q319; obtain rfl : ad318 = ad319 := (by injection e319); have qi319 : (0 < y314.length) = True := eq_true (by omega); (try rw [show ((0 : Int)).toNat = 0 from rfl] at hx319_0); (try rw [show 0 * 5 = 0 from rfl] at hx319_0); (try rw [Addr.add_zero'] at hx319_0); (try rw [show ((0 : Int)).toNat = 0 from rfl] at hx319_1); (try rw [show 0 * 5 = 0 from rfl] at hx319_1); (try rw [Addr.add_zero'] at hx319_1); (try rw [show ((0 : Int)).toNat = 0 from rfl] at hx319_2); (try rw [show 0 * 5 = 0 from rfl] at hx319_2); (try rw [Addr.add_zero'] at hx319_2); (try rw [show ((0 : Int)).toNat = 0 from rfl] at hx319_3); (try rw [show 0 * 5 = 0 from rfl] at hx319_3); (try rw [Addr.add_zero'] at hx319_3); (try rw [show ((0 : Int)).toNat = 0 from rfl] at hx319_4); (try rw [show 0 * 5 = 0 from rfl] at hx319_4); (try rw [Addr.add_zero'] at hx319_4); replace hx319_0 := pw_cell_below HB.out hx319_0; replace hx319_1 := pw_cell_below HB.out hx319_1; replace hx319_2 := pw_cell_below HB.out hx319_2; replace hx319_3 := pw_cell_below HB.out hx319_3; replace hx319_4 := pw_cell_below HB.out hx319_4; have HR319_2 := Aside0.mk hi319_2; have HC319_2 := Aside0.mk hl319_2; clear hi319_2 hl319_2; replace p319 := eq_true p319; replace q319 := eq_true q319; have ea_ := Option.some.inj (hx318_2.symm.trans hx319_2); injection ea_ with ea_ en_ ec_; subst ea_; subst ec_; clear en_))
          go_ret
          exact ⟨by first | rfl | (simp [errW_none, errW_some] <;> rfl) | (simp [*, errW_none, errW_some] <;> rfl), by repeat (first | (with_reducible first | exact HB.out | apply ba_ | apply bn_ | apply b1_) | exact HB.out)⟩
         ·rw [if_neg c27] at H
          have c27b0 : (((rd_T87 y314 0).f0) == 3) = false := beq_eq_false_iff_ne.mpr c27
          have c27b1 : (((rd_T87 y314 0).f0) != 3) = true := bne_iff_ne.mpr c27
          obtain rfl := Option.some.inj H
          have p305 : 0 ≤ (0 : Int) := (by omega)
          have q305 : 0 < (l1.length : Int) := dq_ (by assumption)
          obtain ⟨ad305, A305_2, c305_2, e305, hx305_0, hx305_1, hx305_2, hx305_3, hx305_4, hl305_2, hi305_2⟩ := at_T87 HR1.out 0 p305 q305
          cases e305
          have qi305 : (0 < l1.length) = True := eq_true (by omega)
          (try rw [show ((0 : Int)).toNat = 0 from rfl] at hx305_0)
          (try rw [show 0 * 5 = 0 from rfl] at hx305_0)
          (try rw [Addr.add_zero'] at hx305_0)
          (try rw [show ((0 : Int)).toNat = 0 from rfl] at hx305_1)
          (try rw [show 0 * 5 = 0 from rfl] at hx305_1)
          (try rw [Addr.add_zero'] at hx305_1)
          (try rw [show ((0 : Int)).toNat = 0 from rfl] at hx305_2)
          (try rw [show 0 * 5 = 0 from rfl] at hx305_2)
          (try rw [Addr.add_zero'] at hx305_2)
          (try rw [show ((0 : Int)).toNat = 0 from rfl] at hx305_3)
          (try rw [show 0 * 5 = 0 from rfl] at hx305_3)
          (try rw [Addr.add_zero'] at hx305_3)
          (try rw [show ((0 : Int)).toNat = 0 from rfl] at hx305_4)
          (try rw [show 0 * 5 = 0 from rfl] at hx305_4)
          (try rw [Addr.add_zero'] at hx305_4)
          replace hx305_0 := pw_cell_below HB.out hx305_0
          replace hx305_1 := pw_cell_below HB.out hx305_1
          replace hx305_2 := pw_cell_below HB.out hx305_2
          replace hx305_3 := pw_cell_below HB.out hx305_3
          replace hx305_4 := pw_cell_below HB.out hx305_4
          have HR305_2 := Aside0.mk hi305_2
          have HC305_2 := Aside0.mk hl305_2
          clear hi305_2 hl305_2
          replace p305 := eq_true p305
          replace q305 := eq_true q305
          go_wp2_with (first | ((with_reducible refine gate_callee (f := 130) rfl ?_); refine goesL_ (some 21) rfl rfl Try.func130 (by kernel_rfl) rfl #[.string a0] rfl (by (try simp only [List.map_toArray, List.map_cons, List.map_nil]); first | done | rfl | (simp only [List.length_drop, List.length_take]; rfl)) ?_; (with_reducible refine (impl_isPlainRaw.calls a0 false _ A8.out).mono ?_); rintro e w' ⟨rfl, ⟨nd, rfl⟩⟩; refine ⟨_, rfl, ?_⟩; have q29 : (1 : Int) ≤ ((l1.length : Int) : Int) := dq_ (by assumption); obtain ⟨i029, hi029, _, hsz29, _⟩ := info_parts info87; have hroom29 : l1.length ≤ c1 := HC1.out; have hC29 : Kd.C k87 _ (some ad305) l1.length l1 := HR1.out; have hcut29 := cut_from (P := Try.prog) 46 87 .i64 Try.underlying46 hi029 5 hsz29 (some ad305) l1.length c1 1 (by omega) q29; have hr29 := Kd.C_drop (m := (1 : Int).toNat) (c := c1) hC29 (by omega) hroom29; obtain ⟨A29, hA29⟩ : ∃ A1, A1 = (if c1 = (1 : Int).toNat then (some ad305) else ((some ad305) : Option Addr).map (·.add ((1 : Int).toNat * 5))) := ⟨_, rfl⟩; obtain ⟨c29, hc29⟩ : ∃ cc_, cc_ = c1 - (1 : Int).toNat := ⟨_, rfl⟩; have hy29 : y314.length = l1.length - (1 : Int).toNat := (by rw [Ny314.out, List.length_drop] <;> omega); rw [show (l1).drop (1 : Int).toNat = y314 from Ny314.out.symm] at hr29; replace hr29 : Kd.C k87 _ A29 y314.length y314 := (by rw [hA29]; exact hr29); rw [← hy29, ← hA29, ← hc29] at hcut29; have HR317 := Aside0.mk hr29; have HC317 := Aside0.mk (show y314.length ≤ c29 from by rw [hy29, hc29]; exact Nat.sub_le_sub_right hroom29 _); clear hr29 hC29 hroom29 hi029 hsz29 hc29; have KY29 := Aside0.mk hy29; have KA29 := Aside0.mk hA29; clear hy29 hA29; replace q29 := eq_true q29; have p318 : 0 ≤ (0 : Int) := (by omega); have q318 : 0 < (y314.length : Int) := dq_ (by assumption); obtain ⟨ad318, A318_2, c318_2, e318, hx318_0, hx318_1, hx318_2, hx318_3, hx318_4, hl318_2, hi318_2⟩ := at_T87 HR317.out 0 p318 q318; cases e318; have qi318 : (0 < y314.length) = True := eq_true (by omega); (try rw [show ((0 : Int)).toNat = 0 from rfl] at hx318_0); (try rw [show 0 * 5 = 0 from rfl] at hx318_0); (try rw [Addr.add_zero'] at hx318_0); (try rw [show ((0 : Int)).toNat = 0 from rfl] at hx318_1); (try rw [show 0 * 5 = 0 from rfl] at hx318_1); (try rw [Addr.add_zero'] at hx318_1); (try rw [show ((0 : Int)).toNat = 0 from rfl] at hx318_2); (try rw [show 0 * 5 = 0 from rfl] at hx318_2); (try rw [Addr.add_zero'] at hx318_2); (try rw [show ((0 : Int)).toNat = 0 from rfl] at hx318_3); (try rw [show 0 * 5 = 0 from rfl] at hx318_3); (try rw [Addr.add_zero'] at hx318_3); (try rw [show ((0 : Int)).toNat = 0 from rfl] at hx318_4); (try rw [show 0 * 5 = 0 from rfl] at hx318_4); (try rw [Addr.add_zero'] at hx318_4); replace hx318_0 := pw_cell_below HB.out hx318_0; replace hx318_1 := pw_cell_below HB.out hx318_1; replace hx318_2 := pw_cell_below HB.out hx318_2; replace hx318_3 := pw_cell_below HB.out hx318_3; replace hx318_4 := pw_cell_below HB.out hx318_4; have HR318_2 := Aside0.mk hi318_2; have HC318_2 := Aside0.mk hl318_2; clear hi318_2 hl318_2; replace p318 := eq_true p318; replace q318 := eq_true q318))
          go_ret
          exact ⟨by first | rfl | (simp [errW_none, errW_some] <;> rfl) | (simp [*, errW_none, errW_some] <;> rfl), by repeat (first | (with_reducible first | exact HB.out | apply ba_ | apply bn_ | apply b1_) | exact HB.out)⟩
        ·rw [if_neg c26] at H
         exact absurd H (by simp)
      ·rw [if_neg c23] at H
       exact absurd H (by simp)
    ·rw [if_neg c7] at H
     exact absurd H (by simp)
   ·replace c6 := Bool.eq_false_iff.mpr c6
    subst c6
    have H1 : (if (l1.length : Int) = 0 then (some true) else (if 0 < (l1.length : Int) then (if ((rd_T87 l1 0).f0) = 3 then (some (((rd_T87 l1 0).f1).toList == a0.toList)) else (some false)) else (none))) = some r := by rw [if_neg (show ¬ (false = true) by decide)] at H; exact H
    clear H
    have H := H1
    clear H1
    by_cases c30 : (l1.length : Int) = 0
    ·rw [if_pos c30] at H
     have c30b0 : ((l1.length : Int) == 0) = true := beq_iff_eq.mpr c30
     have c30b1 : ((l1.length : Int) != 0) = false := bne_eq_false_iff_eq.mpr c30
     clear c30
     obtain rfl := Option.some.inj H
     go_wp2
     go_ret
     exact ⟨by first | rfl | (simp [errW_none, errW_some] <;> rfl) | (simp [*, errW_none, errW_some] <;> rfl), by repeat (first | (with_reducible first | exact HB.out | apply ba_ | apply bn_ | apply b1_) | exact HB.out)⟩
    ·rw [if_neg c30] at H
     have c30b0 : ((l1.length : Int) == 0) = false := beq_eq_false_iff_ne.mpr c30
     have c30b1 : ((l1.length : Int) != 0) = true := bne_iff_ne.mpr c30
     have c30b2 : ¬ (l1 = []) := fun h_ => c30 (by rw [h_]; rfl)
     by_cases c31 : 0 < (l1.length : Int)
     ·rw [if_pos c31] at H
      have c31b0 : decide (0 < (l1.length : Int)) = true := decide_eq_true c31
      have c31b1 : decide (0 < l1.length) = true := decide_eq_true (by omega)
      clear c31
      by_cases c32 : ((rd_T87 l1 0).f0) = 3
      ·rw [if_pos c32] at H
       have c32b0 : (((rd_T87 l1 0).f0) == 3) = true := beq_iff_eq.mpr c32
       have c32b1 : (((rd_T87 l1 0).f0) != 3) = false := bne_eq_false_iff_eq.mpr c32
       clear c32
       obtain rfl := Option.some.inj H
       have p320 : 0 ≤ (0 : Int) := (by omega)
       have q320 : 0 < (l1.length : Int) := dq_ (by assumption)
       obtain ⟨ad320, A320_2, c320_2, e320, hx320_0, hx320_1, hx320_2, hx320_3, hx320_4, hl320_2, hi320_2⟩ := at_T87 HR1.out 0 p320 q320
       cases e320
       have qi320 : (0 < l1.length) = True := eq_true (by omega)
       (try rw [show ((0 : Int)).toNat = 0 from rfl] at hx320_0)
       (try rw [show 0 * 5 = 0 from rfl] at hx320_0)
       (try rw [Addr.add_zero'] at hx320_0)
       (try rw [show ((0 : Int)).toNat = 0 from rfl] at hx320_1)
       (try rw [show 0 * 5 = 0 from rfl] at hx320_1)
       (try rw [Addr.add_zero'] at hx320_1)
       (try rw [show ((0 : Int)).toNat = 0 from rfl] at hx320_2)
       (try rw [show 0 * 5 = 0 from rfl] at hx320_2)
       (try rw [Addr.add_zero'] at hx320_2)
       (try rw [show ((0 : Int)).toNat = 0 from rfl] at hx320_3)
       (try rw [show 0 * 5 = 0 from rfl] at hx320_3)
       (try rw [Addr.add_zero'] at hx320_3)
       (try rw [show ((0 : Int)).toNat = 0 from rfl] at hx320_4)
       (try rw [show 0 * 5 = 0 from rfl] at hx320_4)
       (try rw [Addr.add_zero'] at hx320_4)
       replace hx320_0 := pw_cell_below HB.out hx320_0
       replace hx320_1 := pw_cell_below HB.out hx320_1
       replace hx320_2 := pw_cell_below HB.out hx320_2
       replace hx320_3 := pw_cell_below HB.out hx320_3
       replace hx320_4 := pw_cell_below HB.out hx320_4
       have HR320_2 := Aside0.mk hi320_2
       have HC320_2 := Aside0.mk hl320_2
       clear hi320_2 hl320_2
       replace p320 := eq_true p320
       replace q320 := eq_true q320
       have p321 : 0 ≤ (0 : Int) := (by omega)
       have q321 : 0 < (l1.length : Int) := dq_ (by assumption)
       obtain ⟨ad321, A321_2, c321_2, e321, hx321_0, hx321_1, hx321_2, hx321_3, hx321_4, hl321_2, hi321_2⟩ := at_T87 HR1.out 0 p321 q321
       obtain rfl : ad320 = ad321 := (by injection e321)
       have qi321 : (0 < l1.length) = True := eq_true (by omega)
       (try rw [show ((0 : Int)).toNat = 0 from rfl] at hx321_0)
       (try rw [show 0 * 5 = 0 from rfl] at hx321_0)
       (try rw [Addr.add_zero'] at hx321_0)
       (try rw [show ((0 : Int)).toNat = 0 from rfl] at hx321_1)
       (try rw [show 0 * 5 = 0 from rfl] at hx321_1)
       (try rw [Addr.add_zero'] at hx321_1)
       (try rw [show ((0 : Int)).toNat = 0 from rfl] at hx321_2)
       (try rw [show 0 * 5 = 0 from rfl] at hx321_2)
       (try rw [Addr.add_zero'] at hx321_2)
       (try rw [show ((0 : Int)).toNat = 0 from rfl] at hx321_3)
       (try rw [show 0 * 5 = 0 from rfl] at hx321_3)
       (try rw [Addr.add_zero'] at hx321_3)
       (try rw [show ((0 : Int)).toNat = 0 from rfl] at hx321_4)
       (try rw [show 0 * 5 = 0 from rfl] at hx321_4)
       (try rw [Addr.add_zero'] at hx321_4)
       replace hx321_0 := pw_cell_below HB.out hx321_0
       replace hx321_1 := pw_cell_below HB.out hx321_1
       replace hx321_2 := pw_cell_below HB.out hx321_2
       replace hx321_3 := pw_cell_below HB.out hx321_3
       replace hx321_4 := pw_cell_below HB.out hx321_4
       have HR321_2 := Aside0.mk hi321_2
       have HC321_2 := Aside0.mk hl321_2
       clear hi321_2 hl321_2
       replace p321 := eq_true p321
       replace q321 := eq_true q321
       have ea_ := Option.some.inj (hx320_2.symm.trans hx321_2)
       injection ea_ with ea_ en_ ec_
       subst ea_
       subst ec_
       clear en_
       go_wp2
       go_ret
       exact ⟨by first | rfl | (simp [errW_none, errW_some] <;> rfl) | (simp [*, errW_none, errW_some] <;> rfl), by repeat (first | (with_reducible first | exact HB.out | apply ba_ | apply bn_ | apply b1_) | exact HB.out)⟩
      ·rw [if_neg c32] at H
       have c32b0 : (((rd_T87 l1 0).f0) == 3) = false := beq_eq_false_iff_ne.mpr c32
       have c32b1 : (((rd_T87 l1 0).f0) != 3) = true := bne_iff_ne.mpr c32
       obtain rfl := Option.some.inj H
       have p320 : 0 ≤ (0 : Int) := (by omega)
       have q320 : 0 < (l1.length : Int) := dq_ (by assumption)
       obtain ⟨ad320, A320_2, c320_2, e320, hx320_0, hx320_1, hx320_2, hx320_3, hx320_4, hl320_2, hi320_2⟩ := at_T87 HR1.out 0 p320 q320
       cases e320
       have qi320 : (0 < l1.length) = True := eq_true (by omega)
       (try rw [show ((0 : Int)).toNat = 0 from rfl] at hx320_0)
       (try rw [show 0 * 5 = 0 from rfl] at hx320_0)
       (try rw [Addr.add_zero'] at hx320_0)
       (try rw [show ((0 : Int)).toNat = 0 from rfl] at hx320_1)
       (try rw [show 0 * 5 = 0 from rfl] at hx320_1)
       (try rw [Addr.add_zero'] at hx320_1)
       (try rw [show ((0 : Int)).toNat = 0 from rfl] at hx320_2)
       (try rw [show 0 * 5 = 0 from rfl] at hx320_2)
       (try rw [Addr.add_zero'] at hx320_2)
       (try rw [show ((0 : Int)).toNat = 0 from rfl] at hx320_3)
       (try rw [show 0 * 5 = 0 from rfl] at hx320_3)
       (try rw [Addr.add_zero'] at hx320_3)
       (try rw [show ((0 : Int)).toNat = 0 from rfl] at hx320_4)
       (try rw [show 0 * 5 = 0 from rfl] at hx320_4)
       (try rw [Addr.add_zero'] at hx320_4)
       replace hx320_0 := pw_cell_below HB.out hx320_0
       replace hx320_1 := pw_cell_below HB.out hx320_1
       replace hx320_2 := pw_cell_below HB.out hx320_2
       replace hx320_3 := pw_cell_below HB.out hx320_3
       replace hx320_4 := pw_cell_below HB.out hx320_4
       have HR320_2 := Aside0.mk hi320_2
       have HC320_2 := Aside0.mk hl320_2
       clear hi320_2 hl320_2
       replace p320 := eq_true p320
       replace q320 := eq_true q320
       go_wp2
       go_ret
       exact ⟨by first | rfl | (simp [errW_none, errW_some] <;> rfl) | (simp [*, errW_none, errW_some] <;> rfl), by repeat (first | (with_reducible first | exact HB.out | apply ba_ | apply bn_ | apply b1_) | exact HB.out)⟩
     ·rw [if_neg c31] at H
      exact absurd H (by simp)
end Go.Proofs.Yteafgjebaedjbaa.PFnExactTokensOk
