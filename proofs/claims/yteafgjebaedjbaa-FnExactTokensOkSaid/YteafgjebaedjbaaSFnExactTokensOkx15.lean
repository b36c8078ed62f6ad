-- Written by this session's program wip/slim.py: the print's texts (with contracts of our own), only what this row needs, shortened. Lean checks it.
import Derived.Test.YteafgjebaedjbaaSFnExactTokensOkx0
import Derived.Test.YteafgjebaedjbaaSFnExactTokensOkx14
namespace Go.Proofs.Yteafgjebaedjbaa.PFnExactTokensOk
open Go.RowKit Go.Proofs.YteafgjebaedjbaaW.PrintWords Go.Proofs.YteafgjebaedjbaaW.PrintLast Go.Proofs.YteafgjebaedjbaaW.PrintMore
attribute [local go_sem] max2_int min2_int max_two min_two max_three min_three max_four min_four
set_option linter.unusedVariables false
set_option linter.unusedSimpArgs false
def impl_rawOk.j0 : Nat → ByteArray → List (S87) → Bool → Option (Bool)
 | 0, _, _, _ => none
 | k + 1, x0, x1, x15 => if x15 = true then (if 0 < (x1.length : Int) then ((impl_isPlainRaw.f x0).bind fun t320 => (if t320 = true then ((impl_RawEnd.f k ((rd_T87 x1 0).f3) 0 x0).bind fun t321 => (if t321 < (((rd_T87 x1 0).f3).size : Int) then (some false) else (if 1 ≤ (x1.length : Int) then ((some (x1.drop 1 : List (S87))).bind fun y322 => (if (y322.length : Int) = 0 then (some true) else (if 0 < (y322.length : Int) then (if ((rd_T87 y322 0).f0) = 3 then (some (((rd_T87 y322 0).f1).toList == x0.toList)) else (some false)) else (none)))) else (none)))) else (if 1 ≤ (x1.length : Int) then ((some (x1.drop 1 : List (S87))).bind fun y328 => (if (y328.length : Int) = 0 then (some true) else (if 0 < (y328.length : Int) then (if ((rd_T87 y328 0).f0) = 3 then (some (((rd_T87 y328 0).f1).toList == x0.toList)) else (some false)) else (none)))) else (none)))) else (none)) else (if (x1.length : Int) = 0 then (some true) else (if 0 < (x1.length : Int) then (if ((rd_T87 x1 0).f0) = 3 then (some (((rd_T87 x1 0).f1).toList == x0.toList)) else (some false)) else (none)))
def impl_rawOk.f (k : Nat) (a0 : ByteArray) (l1 : List (S87)) : Option (Bool) := if (l1.length : Int) > 0 then (if 0 < (l1.length : Int) then (impl_rawOk.j0 k a0 l1 (((rd_T87 l1 0).f0) == 1)) else (none)) else (impl_rawOk.j0 k a0 l1 false)
theorem impl_rawOk.mono_l : ∀ k, (∀ y0 y1 y2, LeO (impl_rawOk.j0 k y0 y1 y2) (impl_rawOk.j0 (k + 1) y0 y1 y2))
 | 0 => fun _ _ _ r h => by simp [impl_rawOk.j0] at h
 | k + 1 => by
  have ih0 := impl_rawOk.mono_l k
  ·intro y0 y1 y2
   unfold impl_rawOk.j0
   repeat' first
   | (with_reducible exact ih0 _ _ _)
   | (with_reducible exact impl_RawEnd.mono _ _ _ _)
   | (with_reducible exact LeO.refl _)
   | (with_reducible exact LeO.none _)
   | (with_reducible refine LeO.ite ?_ ?_)
   | (with_reducible refine LeO.bind ?_ (fun _ => ?_))
theorem impl_rawOk.mono : ∀ a0 a1 k, LeO (impl_rawOk.f k a0 a1) (impl_rawOk.f (k + 1) a0 a1) := by
 intro a0 a1 k
 have ih0 := impl_rawOk.mono_l k
 unfold impl_rawOk.f
 repeat' first
   | (with_reducible exact ih0 _ _ _)
   | (with_reducible exact impl_RawEnd.mono _ _ _ _)
   | (with_reducible exact LeO.refl _)
   | (with_reducible exact LeO.none _)
   | (with_reducible refine LeO.ite ?_ ?_)
   | (with_reducible refine LeO.bind ?_ (fun _ => ?_))
set_option maxHeartbeats 8000000 in
set_option maxRecDepth 100000 in
theorem impl_rawOk.calls (k : Nat) (a0 : ByteArray) (A1 : Option Addr) (c1 : Nat) (l1 : List (S87)) (r : Bool) (w : World) (hr1 : Kd.C k87 w A1 l1.length l1) (hc1 : l1.length ≤ c1) (h : impl_rawOk.f k a0 l1 = some r) :
  Calls Try.prog 96 #[.string a0, .slice A1 l1.length c1] w fun e w' => e = .returned (.bool r) ∧ Below w.heap.size w w' := by
 have HR1 := Aside0.mk hr1
 have HC1 := Aside0.mk hc1
 clear hr1 hc1
 have HB := Aside0.mk (Below.refl w.heap.size w)
 have H : (if (l1.length : Int) > 0 then (if 0 < (l1.length : Int) then (impl_rawOk.j0 k a0 l1 (((rd_T87 l1 0).f0) == 1)) else (none)) else (impl_rawOk.j0 k a0 l1 false)) = some r := h
 clear h
 have HC3 := Aside0.mk H
 clear H
 go_enter Try.func96, Try.ntmps96
 go_upto_region 1 with (fail)
 go_cut [15] (fun v15 wc => ∃ (kq : Nat) (x15_2 : Bool), v15 = .bool x15_2 ∧ Aside0 (impl_rawOk.j0 kq a0 l1 x15_2 = some r) ∧ Aside0 (kq ≤ k) ∧ Aside0 (Below w.heap.size w wc))
 case first =>
  have H := HC3.out
  clear HC3
  by_cases c4 : (l1.length : Int) > 0
  ·rw [if_pos c4] at H
   have c4b0 : decide (0 < (l1.length : Int)) = true := decide_eq_true c4
   have c4b1 : decide (0 < l1.length) = true := decide_eq_true (by omega)
   clear c4
   (first | rw [c4b0] | (simp only [i64_w, i32_w]; rw [c4b0]) | skip)
   by_cases c5 : 0 < (l1.length : Int)
   ·rw [if_pos c5] at H
    have c5b0 : decide (0 < (l1.length : Int)) = true := decide_eq_true c5
    have c5b1 : decide (0 < l1.length) = true := decide_eq_true (by omega)
    clear c5
    have H' := Aside0.mk H
    clear H
    have p318 : 0 ≤ (0 : Int) := (by omega)
    have q318 : 0 < (l1.length : Int) := dt_
    obtain ⟨ad318, A318_2, c318_2, e318, hx318_0, hx318_1, hx318_2, hx318_3, hx318_4, hl318_2, hi318_2⟩ := at_T87 HR1.out 0 p318 q318
    cases e318
    have qi318 : (0 < l1.length) = True := eq_true (by omega)
    (try rw [show ((0 : Int)).toNat = 0 from rfl] at hx318_0)
    (try rw [show 0 * 5 = 0 from rfl] at hx318_0)
    (try rw [Addr.add_zero'] at hx318_0)
    (try rw [show ((0 : Int)).toNat = 0 from rfl] at hx318_1)
    (try rw [show 0 * 5 = 0 from rfl] at hx318_1)
    (try rw [Addr.add_zero'] at hx318_1)
    (try rw [show ((0 : Int)).toNat = 0 from rfl] at hx318_2)
    (try rw [show 0 * 5 = 0 from rfl] at hx318_2)
    (try rw [Addr.add_zero'] at hx318_2)
    (try rw [show ((0 : Int)).toNat = 0 from rfl] at hx318_3)
    (try rw [show 0 * 5 = 0 from rfl] at hx318_3)
    (try rw [Addr.add_zero'] at hx318_3)
    (try rw [show ((0 : Int)).toNat = 0 from rfl] at hx318_4)
    (try rw [show 0 * 5 = 0 from rfl] at hx318_4)
    (try rw [Addr.add_zero'] at hx318_4)
    replace hx318_0 := pw_cell_below HB.out hx318_0
    replace hx318_1 := pw_cell_below HB.out hx318_1
    replace hx318_2 := pw_cell_below HB.out hx318_2
    replace hx318_3 := pw_cell_below HB.out hx318_3
    replace hx318_4 := pw_cell_below HB.out hx318_4
    have HR318_2 := Aside0.mk hi318_2
    have HC318_2 := Aside0.mk hl318_2
    clear hi318_2 hl318_2
    replace p318 := eq_true p318
    replace q318 := eq_true q318
    go_wp2
    go_meet
    case rel => exact ⟨_, ((((rd_T87 l1 0).f0) == 1)), (by first | rfl | (simp; done) | (simp [*]; done)), H', ⟨by first | omega | exact Nat.le_refl _⟩, ⟨hb_⟩⟩
   ·rw [if_neg c5] at H
    exact absurd H (by simp)
  ·rw [if_neg c4] at H
   have c4b0 : decide (0 < (l1.length : Int)) = false := decide_eq_false c4
   have c4b1 : decide (0 < l1.length) = false := decide_eq_false (by omega)
   clear c4
   (first | rw [c4b0] | (simp only [i64_w, i32_w]; rw [c4b0]) | skip)
   have H' := Aside0.mk H
   clear H
   go_wp2
   go_meet
   case rel => exact ⟨_, (false), (by first | rfl | (simp; done) | (simp [*]; done)), H', ⟨by first | omega | exact Nat.le_refl _⟩, ⟨hb_⟩⟩
 case rest =>
  clear HC3
  try clear c1
  try clear p2
  try clear c3
  try clear p3
  try clear q3
  try clear hx3
  try clear qi3
  try clear c4
  try clear c4b0
  try clear c4b1
  try clear c5
  try clear c5b0
  try clear c5b1
  try clear hx318_0
  try clear hx318_1
  try clear hx318_2
  try clear hx318_3
  try clear hx318_4
  try clear p318
  try clear q318
  obtain ⟨kq, x15_2, rfl, HA, HJ2, HB⟩ := hcut
  cases kq with
  | zero => exact absurd HA.out (by simp [impl_rawOk.j0])
  | succ kj2 =>
   have H := HA.out
   clear HA
   simp only [impl_rawOk.j0] at H
   by_cases c6 : x15_2 = true
   ·subst c6
    have H1 : (if 0 < (l1.length : Int) then ((impl_isPlainRaw.f a0).bind fun t320 => (if t320 = true then ((impl_RawEnd.f kj2 ((rd_T87 l1 0).f3) 0 a0).bind fun t321 => (if t321 < (((rd_T87 l1 0).f3).size : Int) then (some false) else (if 1 ≤ (l1.length : Int) then ((some (l1.drop 1 : List (S87))).bind fun y322 => (if (y322.length : Int) = 0 then (some true) else (if 0 < (y322.length : Int) then (if ((rd_T87 y322 0).f0) = 3 then (some (((rd_T87 y322 0).f1).toList == a0.toList)) else (some false)) else (none)))) else (none)))) else (if 1 ≤ (l1.length : Int) then ((some (l1.drop 1 : List (S87))).bind fun y328 => (if (y328.length : Int) = 0 then (some true) else (if 0 < (y328.length : Int) then (if ((rd_T87 y328 0).f0) = 3 then (some (((rd_T87 y328 0).f1).toList == a0.toList)) else (some false)) else (none)))) else (none)))) else (none)) = some r := by rw [if_pos rfl] at H; exact H
    clear H
    have H := H1
    clear H1
    by_cases c7 : 0 < (l1.length : Int)
    ·rw [if_pos c7] at H
     have c7b0 : decide (0 < (l1.length : Int)) = true := decide_eq_true c7
     have c7b1 : decide (0 < l1.length) = true := decide_eq_true (by omega)
     clear c7
     replace H := Option.bind_eq_some_iff.mp H
     obtain ⟨t320, A80, H⟩ := H
     replace H : (if t320 = true then ((impl_RawEnd.f kj2 ((rd_T87 l1 0).f3) 0 a0).bind fun t321 => (if t321 < (((rd_T87 l1 0).f3).size : Int) then (some false) else (if 1 ≤ (l1.length : Int) then ((some (l1.drop 1 : List (S87))).bind fun y322 => (if (y322.length : Int) = 0 then (some true) else (if 0 < (y322.length : Int) then (if ((rd_T87 y322 0).f0) = 3 then (some (((rd_T87 y322 0).f1).toList == a0.toList)) else (some false)) else (none)))) else (none)))) else (if 1 ≤ (l1.length : Int) then ((some (l1.drop 1 : List (S87))).bind fun y328 => (if (y328.length : Int) = 0 then (some true) else (if 0 < (y328.length : Int) then (if ((rd_T87 y328 0).f0) = 3 then (some (((rd_T87 y328 0).f1).toList == a0.toList)) else (some false)) else (none)))) else (none))) = some r := H
     have A8 := Aside0.mk A80
     clear A80
     by_cases c9 : t320 = true
     ·subst c9
      have H1 : ((impl_RawEnd.f kj2 ((rd_T87 l1 0).f3) 0 a0).bind fun t321 => (if t321 < (((rd_T87 l1 0).f3).size : Int) then (some false) else (if 1 ≤ (l1.length : Int) then ((some (l1.drop 1 : List (S87))).bind fun y322 => (if (y322.length : Int) = 0 then (some true) else (if 0 < (y322.length : Int) then (if ((rd_T87 y322 0).f0) = 3 then (some (((rd_T87 y322 0).f1).toList == a0.toList)) else (some false)) else (none)))) else (none)))) = some r := by rw [if_pos rfl] at H; exact H
      clear H
      have H := H1
      clear H1
      replace H := Option.bind_eq_some_iff.mp H
      obtain ⟨t321, A100, H⟩ := H
      replace H : (if t321 < (((rd_T87 l1 0).f3).size : Int) then (some false) else (if 1 ≤ (l1.length : Int) then ((some (l1.drop 1 : List (S87))).bind fun y322 => (if (y322.length : Int) = 0 then (some true) else (if 0 < (y322.length : Int) then (if ((rd_T87 y322 0).f0) = 3 then (some (((rd_T87 y322 0).f1).toList == a0.toList)) else (some false)) else (none)))) else (none))) = some r := H
      have A10 := Aside0.mk A100
      clear A100
      by_cases c11 : t321 < (((rd_T87 l1 0).f3).size : Int)
      ·rw [if_pos c11] at H
       have c11b0 : decide (t321 < (((rd_T87 l1 0).f3).size : Int)) = true := decide_eq_true c11
       clear c11
       obtain rfl := Option.some.inj H
       have p319 : 0 ≤ (0 : Int) := (by omega)
       have q319 : 0 < (l1.length : Int) := dt_
       obtain ⟨ad319, A319_2, c319_2, e319, hx319_0, hx319_1, hx319_2, hx319_3, hx319_4, hl319_2, hi319_2⟩ := at_T87 HR1.out 0 p319 q319
       cases e319
       have qi319 : (0 < l1.length) = True := eq_true (by omega)
       (try rw [show ((0 : Int)).toNat = 0 from rfl] at hx319_0)
       (try rw [show 0 * 5 = 0 from rfl] at hx319_0)
       (try rw [Addr.add_zero'] at hx319_0)
       (try rw [show ((0 : Int)).toNat = 0 from rfl] at hx319_1)
       (try rw [show 0 * 5 = 0 from rfl] at hx319_1)
       (try rw [Addr.add_zero'] at hx319_1)
       (try rw [show ((0 : Int)).toNat = 0 from rfl] at hx319_2)
       (try rw [show 0 * 5 = 0 from rfl] at hx319_2)
       (try rw [Addr.add_zero'] at hx319_2)
       (try rw [show ((0 : Int)).toNat = 0 from rfl] at hx319_3)
       (try rw [show 0 * 5 = 0 from rfl] at hx319_3)
       (try rw [Addr.add_zero'] at hx319_3)
       (try rw [show ((0 : Int)).toNat = 0 from rfl] at hx319_4)
       (try rw [show 0 * 5 = 0 from rfl] at hx319_4)
       (try rw [Addr.add_zero'] at hx319_4)
       replace hx319_0 := pw_cell_below HB.out hx319_0
       replace hx319_1 := pw_cell_below HB.out hx319_1
       replace hx319_2 := pw_cell_below HB.out hx319_2
       replace hx319_3 := pw_cell_below HB.out hx319_3
       replace hx319_4 := pw_cell_below HB.out hx319_4
       have HR319_2 := Aside0.mk hi319_2
       have HC319_2 := Aside0.mk hl319_2
       clear hi319_2 hl319_2
       replace p319 := eq_true p319
       replace q319 := eq_true q319
       go_wp2_with (first | ((with_reducible refine gate_callee (f := 130) rfl ?_); refine goesL_ (some 21) rfl rfl Try.func130 (by kernel_rfl) rfl #[.string a0] rfl (by (try simp only [List.map_toArray, List.map_cons, List.map_nil]); first | done | rfl | (simp only [List.length_drop, List.length_take]; rfl)) ?_; (with_reducible refine (impl_isPlainRaw.calls a0 true _ A8.out).mono ?_); rintro e w' ⟨rfl, ⟨nd, rfl⟩⟩; refine ⟨_, rfl, ?_⟩) | (go_at_call 131; (with_reducible refine (impl_RawEnd.calls kj2 ((rd_T87 l1 0).f3) 0 a0 t321 _ A10.out).mono ?_); rintro e w12 ⟨rfl, hb⟩; have n0_ := Aside0.mk (below_step hb_ hb); clear HB; have HB := n0_; clear n0_; (try clear hb); (try clear hb2); (try clear hk); (try clear hi)))
       go_ret
       exact ⟨by first | rfl | (simp [errW_none, errW_some] <;> rfl) | (simp [*, errW_none, errW_some] <;> rfl), hb_⟩
      ·rw [if_neg c11] at H
       have c11b0 : decide (t321 < (((rd_T87 l1 0).f3).size : Int)) = false := decide_eq_false c11
       clear c11
       by_cases c13 : 1 ≤ (l1.length : Int)
       ·rw [if_pos c13] at H
        have c13b0 := eq_true c13
        have c13b1 : decide (1 ≤ (l1.length : Int)) = true := decide_eq_true c13
        clear c13
        obtain ⟨y322, hy322⟩ : ∃ y_ : List (S87), y_ = (l1.drop 1) := ⟨_, rfl⟩
        replace H : (if (y322.length : Int) = 0 then (some true) else (if 0 < (y322.length : Int) then (if ((rd_T87 y322 0).f0) = 3 then (some (((rd_T87 y322 0).f1).toList == a0.toList)) else (some false)) else (none))) = some r := by first | (rw [hy322]; with_reducible exact H) | (have H2_ := (Option.bind_some _ _).symm.trans H; rw [hy322]; with_reducible exact H2_) | (have H2_ := (Option.bind_some _ _).symm.trans H; with_reducible exact H2_) | with_reducible exact H | (rw [hy322]; exact H) | exact H
        have Ny322 := Aside0.mk hy322
        clear hy322
        by_cases c14 : (y322.length : Int) = 0
        ·rw [if_pos c14] at H
         have c14b0 : ((y322.length : Int) == 0) = true := beq_iff_eq.mpr c14
         have c14b1 : ((y322.length : Int) != 0) = false := bne_eq_false_iff_eq.mpr c14
         clear c14
         obtain rfl := Option.some.inj H
         have p319 : 0 ≤ (0 : Int) := (by omega)
         have q319 : 0 < (l1.length : Int) := dt_
         obtain ⟨ad319, A319_2, c319_2, e319, hx319_0, hx319_1, hx319_2, hx319_3, hx319_4, hl319_2, hi319_2⟩ := at_T87 HR1.out 0 p319 q319
         cases e319
         have qi319 : (0 < l1.length) = True := eq_true (by omega)
         (try rw [show ((0 : Int)).toNat = 0 from rfl] at hx319_0)
         (try rw [show 0 * 5 = 0 from rfl] at hx319_0)
         (try rw [Addr.add_zero'] at hx319_0)
         (try rw [show ((0 : Int)).toNat = 0 from rfl] at hx319_1)
         (try rw [show 0 * 5 = 0 from rfl] at hx319_1)
         (try rw [Addr.add_zero'] at hx319_1)
         (try rw [show ((0 : Int)).toNat = 0 from rfl] at hx319_2)
         (try rw [show 0 * 5 = 0 from rfl] at hx319_2)
         (try rw [Addr.add_zero'] at hx319_2)
         (try rw [show ((0 : Int)).toNat = 0 from rfl] at hx319_3)
         (try rw [show 0 * 5 = 0 from rfl] at hx319_3)
         (try rw [Addr.add_zero'] at hx319_3)
         (try rw [show ((0 : Int)).toNat = 0 from rfl] at hx319_4)
         (try rw [show 0 * 5 = 0 from rfl] at hx319_4)
         (try rw [Addr.add_zero'] at hx319_4)
         replace hx319_0 := pw_cell_below HB.out hx319_0
         replace hx319_1 := pw_cell_below HB.out hx319_1
         replace hx319_2 := pw_cell_below HB.out hx319_2
         replace hx319_3 := pw_cell_below HB.out hx319_3
         replace hx319_4 := pw_cell_below HB.out hx319_4
         have HR319_2 := Aside0.mk hi319_2
         have HC319_2 := Aside0.mk hl319_2
         clear hi319_2 hl319_2
         replace p319 := eq_true p319
         replace q319 := eq_true q319
         go_wp2_with (first | ((with_reducible refine gate_callee (f := 130) rfl ?_); refine goesL_ (some 21) rfl rfl Try.func130 (by kernel_rfl) rfl #[.string a0] rfl (by (try simp only [List.map_toArray, List.map_cons, List.map_nil]); first | done | rfl | (simp only [List.length_drop, List.length_take]; rfl)) ?_; (with_reducible refine (impl_isPlainRaw.calls a0 true _ A8.out).mono ?_); rintro e w' ⟨rfl, ⟨nd, rfl⟩⟩; refine ⟨_, rfl, ?_⟩) | (go_at_call 131; (with_reducible refine (impl_RawEnd.calls kj2 ((rd_T87 l1 0).f3) 0 a0 t321 _ A10.out).mono ?_); rintro e w15 ⟨rfl, hb⟩; have n0_ := Aside0.mk (below_step hb_ hb); clear HB; have HB := n0_; clear n0_; (try clear hb); (try clear hb2); (try clear hk); (try clear hi); have q16 : (1 : Int) ≤ ((l1.length : Int) : Int) := dt_; obtain ⟨i016, hi016, _, hsz16, _⟩ := info_parts info87; have hroom16 : l1.length ≤ c1 := HC1.out; have hC16 : Kd.C k87 _ (some ad319) l1.length l1 := HR1.out; have hcut16 := cut_from (P := Try.prog) 46 87 .i64 Try.underlying46 hi016 5 hsz16 (some ad319) l1.length c1 1 (by omega) q16; have hr16 := Kd.C_drop (m := (1 : Int).toNat) (c := c1) hC16 (by omega) hroom16; obtain ⟨A16, hA16⟩ : ∃ A1, A1 = (if c1 = (1 : Int).toNat then (some ad319) else ((some ad319) : Option Addr).map (·.add ((1 : Int).toNat * 5))) := ⟨_, rfl⟩; obtain ⟨c16, hc16⟩ : ∃ cc_, cc_ = c1 - (1 : Int).toNat := ⟨_, rfl⟩; have hy16 : y322.length = l1.length - (1 : Int).toNat := (by rw [Ny322.out, List.length_drop] <;> omega); rw [show (l1).drop (1 : Int).toNat = y322 from Ny322.out.symm] at hr16; replace hr16 : Kd.C k87 _ A16 y322.length y322 := (by rw [hA16]; exact hr16); rw [← hy16, ← hA16, ← hc16] at hcut16; have HR325 := Aside0.mk hr16; have HC325 := Aside0.mk (show y322.length ≤ c16 from by rw [hy16, hc16]; exact Nat.sub_le_sub_right hroom16 _); clear hr16 hC16 hroom16 hi016 hsz16 hc16; have KY16 := Aside0.mk hy16; have KA16 := Aside0.mk hA16; clear hy16 hA16; replace q16 := eq_true q16))
         go_ret
         exact ⟨by first | rfl | (simp [errW_none, errW_some] <;> rfl) | (simp [*, errW_none, errW_some] <;> rfl), hb_⟩
        ·rw [if_neg c14] at H
         have c14b0 : ((y322.length : Int) == 0) = false := beq_eq_false_iff_ne.mpr c14
         have c14b1 : ((y322.length : Int) != 0) = true := bne_iff_ne.mpr c14
         have c14b2 : ¬ (y322 = []) := fun h_ => c14 (by rw [h_]; rfl)
         by_cases c17 : 0 < (y322.length : Int)
         ·rw [if_pos c17] at H
          have c17b0 : decide (0 < (y322.length : Int)) = true := decide_eq_true c17
          have c17b1 : decide (0 < y322.length) = true := decide_eq_true (by omega)
          clear c17
          by_cases c18 : ((rd_T87 y322 0).f0) = 3
          ·rw [if_pos c18] at H
           have c18b0 : (((rd_T87 y322 0).f0) == 3) = true := beq_iff_eq.mpr c18
           have c18b1 : (((rd_T87 y322 0).f0) != 3) = false := bne_eq_false_iff_eq.mpr c18
           clear c18
           obtain rfl := Option.some.inj H
           have p319 : 0 ≤ (0 : Int) := (by omega)
           have q319 : 0 < (l1.length : Int) := dt_
           obtain ⟨ad319, A319_2, c319_2, e319, hx319_0, hx319_1, hx319_2, hx319_3, hx319_4, hl319_2, hi319_2⟩ := at_T87 HR1.out 0 p319 q319
           cases e319
           have qi319 : (0 < l1.length) = True := eq_true (by omega)
           (try rw [show ((0 : Int)).toNat = 0 from rfl] at hx319_0)
           (try rw [show 0 * 5 = 0 from rfl] at hx319_0)
           (try rw [Addr.add_zero'] at hx319_0)
           (try rw [show ((0 : Int)).toNat = 0 from rfl] at hx319_1)
           (try rw [show 0 * 5 = 0 from rfl] at hx319_1)
           (try rw [Addr.add_zero'] at hx319_1)
           (try rw [show ((0 : Int)).toNat = 0 from rfl] at hx319_2)
           (try rw [show 0 * 5 = 0 from rfl] at hx319_2)
           (try rw [Addr.add_zero'] at hx319_2)
           (try rw [show ((0 : Int)).toNat = 0 from rfl] at hx319_3)
           (try rw [show 0 * 5 = 0 from rfl] at hx319_3)
           (try rw [Addr.add_zero'] at hx319_3)
           (try rw [show ((0 : Int)).toNat = 0 from rfl] at hx319_4)
           (try rw [show 0 * 5 = 0 from rfl] at hx319_4)
           (try rw [Addr.add_zero'] at hx319_4)
           replace hx319_0 := pw_cell_below HB.out hx319_0
           replace hx319_1 := pw_cell_below HB.out hx319_1
           replace hx319_2 := pw_cell_below HB.out hx319_2
           replace hx319_3 := pw_cell_below HB.out hx319_3
           replace hx319_4 := pw_cell_below HB.out hx319_4
           have HR319_2 := Aside0.mk hi319_2
           have HC319_2 := Aside0.mk hl319_2
           clear hi319_2 hl319_2
           replace p319 := eq_true p319
           replace q319 := eq_true q319
           go_wp2_with (first | ((with_reducible refine gate_callee (f := 130) rfl ?_); refine goesL_ (some 21) rfl rfl Try.func130 (by kernel_rfl) rfl #[.string a0] rfl (by (try simp only [List.map_toArray, List.map_cons, List.map_nil]); first | done | rfl | (simp only [List.length_drop, List.length_take]; rfl)) ?_; (with_reducible refine (impl_isPlainRaw.calls a0 true _ A8.out).mono ?_); rintro e w' ⟨rfl, ⟨nd, rfl⟩⟩; refine ⟨_, rfl, ?_⟩) | (go_at_call 131; (with_reducible refine (impl_RawEnd.calls kj2 ((rd_T87 l1 0).f3) 0 a0 t321 _ A10.out).mono ?_); rintro e w19 ⟨rfl, hb⟩; have n0_ := Aside0.mk (below_step hb_ hb); clear HB; have HB := n0_; clear n0_; (try clear hb); (try clear hb2); (try clear hk); (try clear hi); have q20 : (1 : Int) ≤ ((l1.length : Int) : Int) := dt_; obtain ⟨i020, hi020, _, hsz20, _⟩ := info_parts info87; have hroom20 : l1.length ≤ c1 := HC1.out; have hC20 : Kd.C k87 _ (some ad319) l1.length l1 := HR1.out; have hcut20 := cut_from (P := Try.prog) 46 87 .i64 Try.underlying46 hi020 5 hsz20 (some ad319) l1.length c1 1 (by omega) q20; have hr20 := Kd.C_drop (m := (1 : Int).toNat) (c := c1) hC20 (by omega) hroom20; obtain ⟨A20, hA20⟩ : ∃ A1, A1 = (if c1 = (1 : Int).toNat then (some ad319) else ((some ad319) : Option Addr).map (·.add ((1 : Int).toNat * 5))) := ⟨_, rfl⟩; obtain ⟨c20, hc20⟩ : ∃ cc_, cc_ = c1 - (1 : Int).toNat := ⟨_, rfl⟩; have hy20 : y322.length = l1.length - (1 : Int).toNat := (by rw [Ny322.out, List.length_drop] <;> omega); rw [show (l1).drop (1 : Int).toNat = y322 from Ny322.out.symm] at hr20; replace hr20 : Kd.C k87 _ A20 y322.length y322 := (by rw [hA20]; exact hr20); rw [← hy20, ← hA20, ← hc20] at hcut20; have HR325 := Aside0.mk hr20; have HC325 := Aside0.mk (show y322.length ≤ c20 from by rw [hy20, hc20]; exact Nat.sub_le_sub_right hroom20 _); clear hr20 hC20 hroom20 hi020 hsz20 hc20; have KY20 := Aside0.mk hy20; have KA20 := Aside0.mk hA20; clear hy20 hA20; replace q20 := eq_true q20; have p326 : 0 ≤ (0 : Int) := (by omega); have q326 : 0 < (y322.length : Int) := dt_; obtain ⟨ad326, A326_2, c326_2, e326, hx326_0, hx326_1, hx326_2, hx326_3, hx326_4, hl326_2, hi326_2⟩ := at_T87 HR325.out 0 p326 q326; cases e326; have qi326 : (0 < y322.length) = True := eq_true (by omega); (try rw [show ((0 : Int)).toNat = 0 from rfl] at hx326_0); (try rw [show 0 * 5 = 0 from rfl] at hx326_0); (try rw [Addr.add_zero'] at hx326_0); (try rw [show ((0 : Int)).toNat = 0 from rfl] at hx326_1); (try rw [show 0 * 5 = 0 from rfl] at hx326_1); (try rw [Addr.add_zero'] at hx326_1); (try rw [show ((0 : Int)).toNat = 0 from rfl] at hx326_2); (try rw [show 0 * 5 = 0 from rfl] at hx326_2); (try rw [Addr.add_zero'] at hx326_2); (try rw [show ((0 : Int)).toNat = 0 from rfl] at hx326_3); (try rw [show 0 * 5 = 0 from rfl] at hx326_3); (try rw [Addr.add_zero'] at hx326_3); (try rw [show ((0 : Int)).toNat = 0 from rfl] at hx326_4); (try rw [show 0 * 5 = 0 from rfl] at hx326_4); (try rw [Addr.add_zero'] at hx326_4); replace hx326_0 := pw_cell_below HB.out hx326_0; replace hx326_1 := pw_cell_below HB.out hx326_1; replace hx326_2 := pw_cell_below HB.out hx326_2; replace hx326_3 := pw_cell_below HB.out hx326_3; replace hx326_4 := pw_cell_below HB.out hx326_4; have HR326_2 := Aside0.mk hi326_2; have HC326_2 := Aside0.mk hl326_2; clear hi326_2 hl326_2; replace p326 := eq_true p326; replace q326 := eq_true q326; have p327 : 0 ≤ (0 : Int) := (by omega); have q327 : 0 < (y322.length : Int) := dt_; obtain ⟨ad327, A327_2, c327_2, e327, hx327_0, hx327_1, hx327_2, hx327_3, hx327_4, hl327_2, hi327_2⟩ := at_T87 HR325.out 0 p327 q327; obtain rfl : ad326 = ad327 := (by injection e327); have qi327 : (0 < y322.length) = True := eq_true (by omega); (try rw [show ((0 : Int)).toNat = 0 from rfl] at hx327_0); (try rw [show 0 * 5 = 0 from rfl] at hx327_0); (try rw [Addr.add_zero'] at hx327_0); (try rw [show ((0 : Int)).toNat = 0 from rfl] at hx327_1); (try rw [show 0 * 5 = 0 from rfl] at hx327_1); (try rw [Addr.add_zero'] at hx327_1); (try rw [show ((0 : Int)).toNat = 0 from rfl] at hx327_2); (try rw [show 0 * 5 = 0 from rfl] at hx327_2); (try rw [Addr.add_zero'] at hx327_2); (try rw [show ((0 : Int)).toNat = 0 from rfl] at hx327_3); (try rw [show 0 * 5 = 0 from rfl] at hx327_3); (try rw [Addr.add_zero'] at hx327_3); (try rw [show ((0 : Int)).toNat = 0 from rfl] at hx327_4); (try rw [show 0 * 5 = 0 from rfl] at hx327_4); (try rw [Addr.add_zero'] at hx327_4); replace hx327_0 := pw_cell_below HB.out hx327_0; replace hx327_1 := pw_cell_below HB.out hx327_1; replace hx327_2 := pw_cell_below HB.out hx327_2; replace hx327_3 := pw_cell_below HB.out hx327_3; replace hx327_4 := pw_cell_below HB.out hx327_4; have HR327_2 := Aside0.mk hi327_2; have HC327_2 := Aside0.mk hl327_2; clear hi327_2 hl327_2; replace p327 := eq_true p327; replace q327 := eq_true q327; have ea_ := Option.some.inj (hx326_2.symm.trans hx327_2); injection ea_ with ea_ en_ ec_; subst ea_; subst ec_; clear en_))
           go_ret
           exact ⟨by first | rfl | (simp [errW_none, errW_some] <;> rfl) | (simp [*, errW_none, errW_some] <;> rfl), hb_⟩
          ·rw [if_neg c18] at H
           have c18b0 : (((rd_T87 y322 0).f0) == 3) = false := beq_eq_false_iff_ne.mpr c18
           have c18b1 : (((rd_T87 y322 0).f0) != 3) = true := bne_iff_ne.mpr c18
           obtain rfl := Option.some.inj H
           have p319 : 0 ≤ (0 : Int) := (by omega)
           have q319 : 0 < (l1.length : Int) := dt_
           obtain ⟨ad319, A319_2, c319_2, e319, hx319_0, hx319_1, hx319_2, hx319_3, hx319_4, hl319_2, hi319_2⟩ := at_T87 HR1.out 0 p319 q319
           cases e319
           have qi319 : (0 < l1.length) = True := eq_true (by omega)
           (try rw [show ((0 : Int)).toNat = 0 from rfl] at hx319_0)
           (try rw [show 0 * 5 = 0 from rfl] at hx319_0)
           (try rw [Addr.add_zero'] at hx319_0)
           (try rw [show ((0 : Int)).toNat = 0 from rfl] at hx319_1)
           (try rw [show 0 * 5 = 0 from rfl] at hx319_1)
           (try rw [Addr.add_zero'] at hx319_1)
           (try rw [show ((0 : Int)).toNat = 0 from rfl] at hx319_2)
           (try rw [show 0 * 5 = 0 from rfl] at hx319_2)
           (try rw [Addr.add_zero'] at hx319_2)
           (try rw [show ((0 : Int)).toNat = 0 from rfl] at hx319_3)
           (try rw [show 0 * 5 = 0 from rfl] at hx319_3)
           (try rw [Addr.add_zero'] at hx319_3)
           (try rw [show ((0 : Int)).toNat = 0 from rfl] at hx319_4)
           (try rw [show 0 * 5 = 0 from rfl] at hx319_4)
           (try rw [Addr.add_zero'] at hx319_4)
           replace hx319_0 := pw_cell_below HB.out hx319_0
           replace hx319_1 := pw_cell_below HB.out hx319_1
           replace hx319_2 := pw_cell_below HB.out hx319_2
           replace hx319_3 := pw_cell_below HB.out hx319_3
           replace hx319_4 := pw_cell_below HB.out hx319_4
           have HR319_2 := Aside0.mk hi319_2
           have HC319_2 := Aside0.mk hl319_2
           clear hi319_2 hl319_2
           replace p319 := eq_true p319
           replace q319 := eq_true q319
           go_wp2_with (first | ((with_reducible refine gate_callee (f := 130) rfl ?_); refine goesL_ (some 21) rfl rfl Try.func130 (by kernel_rfl) rfl #[.string a0] rfl (by (try simp only [List.map_toArray, List.map_cons, List.map_nil]); first | done | rfl | (simp only [List.length_drop, List.length_take]; rfl)) ?_; (with_reducible refine (impl_isPlainRaw.calls a0 true _ A8.out).mono ?_); rintro e w' ⟨rfl, ⟨nd, rfl⟩⟩; refine ⟨_, rfl, ?_⟩) | (go_at_call 131; (with_reducible refine (impl_RawEnd.calls kj2 ((rd_T87 l1 0).f3) 0 a0 t321 _ A10.out).mono ?_); rintro e w21 ⟨rfl, hb⟩; have n0_ := Aside0.mk (below_step hb_ hb); clear HB; have HB := n0_; clear n0_; (try clear hb); (try clear hb2); (try clear hk); (try clear hi); have q22 : (1 : Int) ≤ ((l1.length : Int) : Int) := dt_; obtain ⟨i022, hi022, _, hsz22, _⟩ := info_parts info87; have hroom22 : l1.length ≤ c1 := HC1.out; have hC22 : Kd.C k87 _ (some ad319) l1.length l1 := HR1.out; have hcut22 := cut_from (P := Try.prog) 46 87 .i64 Try.underlying46 hi022 5 hsz22 (some ad319) l1.length c1 1 (by omega) q22; have hr22 := Kd.C_drop (m := (1 : Int).toNat) (c := c1) hC22 (by omega) hroom22; obtain ⟨A22, hA22⟩ : ∃ A1, A1 = (if c1 = (1 : Int).toNat then (some ad319) else ((some ad319) : Option Addr).map (·.add ((1 : Int).toNat * 5))) := ⟨_, rfl⟩; obtain ⟨c22, hc22⟩ : ∃ cc_, cc_ = c1 - (1 : Int).toNat := ⟨_, rfl⟩; have hy22 : y322.length = l1.length - (1 : Int).toNat := (by rw [Ny322.out, List.length_drop] <;> omega); rw [show (l1).drop (1 : Int).toNat = y322 from Ny322.out.symm] at hr22; replace hr22 : Kd.C k87 _ A22 y322.length y322 := (by rw [hA22]; exact hr22); rw [← hy22, ← hA22, ← hc22] at hcut22; have HR325 := Aside0.mk hr22; have HC325 := Aside0.mk (show y322.length ≤ c22 from by rw [hy22, hc22]; exact Nat.sub_le_sub_right hroom22 _); clear hr22 hC22 hroom22 hi022 hsz22 hc22; have KY22 := Aside0.mk hy22; have KA22 := Aside0.mk hA22; clear hy22 hA22; replace q22 := eq_true q22; have p326 : 0 ≤ (0 : Int) := (by omega); have q326 : 0 < (y322.length : Int) := dt_; obtain ⟨ad326, A326_2, c326_2, e326, hx326_0, hx326_1, hx326_2, hx326_3, hx326_4, hl326_2, hi326_2⟩ := at_T87 HR325.out 0 p326 q326; cases e326; have qi326 : (0 < y322.length) = True := eq_true (by omega); (try rw [show ((0 : Int)).toNat = 0 from rfl] at hx326_0); (try rw [show 0 * 5 = 0 from rfl] at hx326_0); (try rw [Addr.add_zero'] at hx326_0); (try rw [show ((0 : Int)).toNat = 0 from rfl] at hx326_1); (try rw [show 0 * 5 = 0 from rfl] at hx326_1); (try rw [Addr.add_zero'] at hx326_1); (try rw [show ((0 : Int)).toNat = 0 from rfl] at hx326_2); (try rw [show 0 * 5 = 0 from rfl] at hx326_2); (try rw [Addr.add_zero'] at hx326_2); (try rw [show ((0 : Int)).toNat = 0 from rfl] at hx326_3); (try rw [show 0 * 5 = 0 from rfl] at hx326_3); (try rw [Addr.add_zero'] at hx326_3); (try rw [show ((0 : Int)).toNat = 0 from rfl] at hx326_4); (try rw [show 0 * 5 = 0 from rfl] at hx326_4); (try rw [Addr.add_zero'] at hx326_4); replace hx326_0 := pw_cell_below HB.out hx326_0; replace hx326_1 := pw_cell_below HB.out hx326_1; replace hx326_2 := pw_cell_below HB.out hx326_2; replace hx326_3 := pw_cell_below HB.out hx326_3; replace hx326_4 := pw_cell_below HB.out hx326_4; have HR326_2 := Aside0.mk hi326_2; have HC326_2 := Aside0.mk hl326_2; clear hi326_2 hl326_2; replace p326 := eq_true p326; replace q326 := eq_true q326))
           go_ret
           exact ⟨by first | rfl | (simp [errW_none, errW_some] <;> rfl) | (simp [*, errW_none, errW_some] <;> rfl), hb_⟩
         ·rw [if_neg c17] at H
          exact absurd H (by simp)
       ·rw [if_neg c13] at H
        exact absurd H (by simp)
     ·replace c9 := Bool.eq_false_iff.mpr c9
      subst c9
      have H1 : (if 1 ≤ (l1.length : Int) then ((some (l1.drop 1 : List (S87))).bind fun y328 => (if (y328.length : Int) = 0 then (some true) else (if 0 < (y328.length : Int) then (if ((rd_T87 y328 0).f0) = 3 then (some (((rd_T87 y328 0).f1).toList == a0.toList)) else (some false)) else (none)))) else (none)) = some r := by rw [if_neg (show ¬ (false = true) by decide)] at H; exact H
      clear H
      have H := H1
      clear H1
      by_cases c23 : 1 ≤ (l1.length : Int)
      ·rw [if_pos c23] at H
       have c23b0 := eq_true c23
       have c23b1 : decide (1 ≤ (l1.length : Int)) = true := decide_eq_true c23
       clear c23
       obtain ⟨y328, hy328⟩ : ∃ y_ : List (S87), y_ = (l1.drop 1) := ⟨_, rfl⟩
       replace H : (if (y328.length : Int) = 0 then (some true) else (if 0 < (y328.length : Int) then (if ((rd_T87 y328 0).f0) = 3 then (some (((rd_T87 y328 0).f1).toList == a0.toList)) else (some false)) else (none))) = some r := by first | (rw [hy328]; with_reducible exact H) | (have H2_ := (Option.bind_some _ _).symm.trans H; rw [hy328]; with_reducible exact H2_) | (have H2_ := (Option.bind_some _ _).symm.trans H; with_reducible exact H2_) | with_reducible exact H | (rw [hy328]; exact H) | exact H
       have Ny328 := Aside0.mk hy328
       clear hy328
       by_cases c24 : (y328.length : Int) = 0
       ·rw [if_pos c24] at H
        have c24b0 : ((y328.length : Int) == 0) = true := beq_iff_eq.mpr c24
        have c24b1 : ((y328.length : Int) != 0) = false := bne_eq_false_iff_eq.mpr c24
        clear c24
        obtain rfl := Option.some.inj H
        have p319 : 0 ≤ (0 : Int) := (by omega)
        have q319 : 0 < (l1.length : Int) := dt_
        obtain ⟨ad319, A319_2, c319_2, e319, hx319_0, hx319_1, hx319_2, hx319_3, hx319_4, hl319_2, hi319_2⟩ := at_T87 HR1.out 0 p319 q319
        cases e319
        have qi319 : (0 < l1.length) = True := eq_true (by omega)
        (try rw [show ((0 : Int)).toNat = 0 from rfl] at hx319_0)
        (try rw [show 0 * 5 = 0 from rfl] at hx319_0)
        (try rw [Addr.add_zero'] at hx319_0)
        (try rw [show ((0 : Int)).toNat = 0 from rfl] at hx319_1)
        (try rw [show 0 * 5 = 0 from rfl] at hx319_1)
        (try rw [Addr.add_zero'] at hx319_1)
        (try rw [show ((0 : Int)).toNat = 0 from rfl] at hx319_2)
        (try rw [show 0 * 5 = 0 from rfl] at hx319_2)
        (try rw [Addr.add_zero'] at hx319_2)
        (try rw [show ((0 : Int)).toNat = 0 from rfl] at hx319_3)
        (try rw [show 0 * 5 = 0 from rfl] at hx319_3)
        (try rw [Addr.add_zero'] at hx319_3)
        (try rw [show ((0 : Int)).toNat = 0 from rfl] at hx319_4)
        (try rw [show 0 * 5 = 0 from rfl] at hx319_4)
        (try rw [Addr.add_zero'] at hx319_4)
        replace hx319_0 := pw_cell_below HB.out hx319_0
        replace hx319_1 := pw_cell_below HB.out hx319_1
        replace hx319_2 := pw_cell_below HB.out hx319_2
        replace hx319_3 := pw_cell_below HB.out hx319_3
        replace hx319_4 := pw_cell_below HB.out hx319_4
        have HR319_2 := Aside0.mk hi319_2
        have HC319_2 := Aside0.mk hl319_2
        clear hi319_2 hl319_2
        replace p319 := eq_true p319
        replace q319 := eq_true q319
        go_wp2_with (first | ((with_reducible refine gate_callee (f := 130) rfl ?_); refine goesL_ (some 21) rfl rfl Try.func130 (by kernel_rfl) rfl #[.string a0] rfl (by (try simp only [List.map_toArray, List.map_cons, List.map_nil]); first | done | rfl | (simp only [List.length_drop, List.length_take]; rfl)) ?_; (with_reducible refine (impl_isPlainRaw.calls a0 false _ A8.out).mono ?_); rintro e w' ⟨rfl, ⟨nd, rfl⟩⟩; refine ⟨_, rfl, ?_⟩; have q25 : (1 : Int) ≤ ((l1.length : Int) : Int) := dt_; obtain ⟨i025, hi025, _, hsz25, _⟩ := info_parts info87; have hroom25 : l1.length ≤ c1 := HC1.out; have hC25 : Kd.C k87 _ (some ad319) l1.length l1 := HR1.out; have hcut25 := cut_from (P := Try.prog) 46 87 .i64 Try.underlying46 hi025 5 hsz25 (some ad319) l1.length c1 1 (by omega) q25; have hr25 := Kd.C_drop (m := (1 : Int).toNat) (c := c1) hC25 (by omega) hroom25; obtain ⟨A25, hA25⟩ : ∃ A1, A1 = (if c1 = (1 : Int).toNat then (some ad319) else ((some ad319) : Option Addr).map (·.add ((1 : Int).toNat * 5))) := ⟨_, rfl⟩; obtain ⟨c25, hc25⟩ : ∃ cc_, cc_ = c1 - (1 : Int).toNat := ⟨_, rfl⟩; have hy25 : y328.length = l1.length - (1 : Int).toNat := (by rw [Ny328.out, List.length_drop] <;> omega); rw [show (l1).drop (1 : Int).toNat = y328 from Ny328.out.symm] at hr25; replace hr25 : Kd.C k87 _ A25 y328.length y328 := (by rw [hA25]; exact hr25); rw [← hy25, ← hA25, ← hc25] at hcut25; have HR331 := Aside0.mk hr25; have HC331 := Aside0.mk (show y328.length ≤ c25 from by rw [hy25, hc25]; exact Nat.sub_le_sub_right hroom25 _); clear hr25 hC25 hroom25 hi025 hsz25 hc25; have KY25 := Aside0.mk hy25; have KA25 := Aside0.mk hA25; clear hy25 hA25; replace q25 := eq_true q25))
        go_ret
        exact ⟨by first | rfl | (simp [errW_none, errW_some] <;> rfl) | (simp [*, errW_none, errW_some] <;> rfl), hb_⟩
       ·rw [if_neg c24] at H
        have c24b0 : ((y328.length : Int) == 0) = false := beq_eq_false_iff_ne.mpr c24
        have c24b1 : ((y328.length : Int) != 0) = true := bne_iff_ne.mpr c24
        have c24b2 : ¬ (y328 = []) := fun h_ => c24 (by rw [h_]; rfl)
        by_cases c26 : 0 < (y328.length : Int)
        ·rw [if_pos c26] at H
         have c26b0 : decide (0 < (y328.length : Int)) = true := decide_eq_true c26
         have c26b1 : decide (0 < y328.length) = true := decide_eq_true (by omega)
         clear c26
         by_cases c27 : ((rd_T87 y328 0).f0) = 3
         ·rw [if_pos c27] at H
          have c27b0 : (((rd_T87 y328 0).f0) == 3) = true := beq_iff_eq.mpr c27
          have c27b1 : (((rd_T87 y328 0).f0) != 3) = false := bne_eq_false_iff_eq.mpr c27
          clear c27
          obtain rfl := Option.some.inj H
          have p319 : 0 ≤ (0 : Int) := (by omega)
          have q319 : 0 < (l1.length : Int) := dt_
          obtain ⟨ad319, A319_2, c319_2, e319, hx319_0, hx319_1, hx319_2, hx319_3, hx319_4, hl319_2, hi319_2⟩ := at_T87 HR1.out 0 p319 q319
          cases e319
          have qi319 : (0 < l1.length) = True := eq_true (by omega)
          (try rw [show ((0 : Int)).toNat = 0 from rfl] at hx319_0)
          (try rw [show 0 * 5 = 0 from rfl] at hx319_0)
          (try rw [Addr.add_zero'] at hx319_0)
          (try rw [show ((0 : Int)).toNat = 0 from rfl] at hx319_1)
          (try rw [show 0 * 5 = 0 from rfl] at hx319_1)
          (try rw [Addr.add_zero'] at hx319_1)
          (try rw [show ((0 : Int)).toNat = 0 from rfl] at hx319_2)
          (try rw [show 0 * 5 = 0 from rfl] at hx319_2)
          (try rw [Addr.add_zero'] at hx319_2)
          (try rw [show ((0 : Int)).toNat = 0 from rfl] at hx319_3)
          (try rw [show 0 * 5 = 0 from rfl] at hx319_3)
          (try rw [Addr.add_zero'] at hx319_3)
          (try rw [show ((0 : Int)).toNat = 0 from rfl] at hx319_4)
          (try rw [show 0 * 5 = 0 from rfl] at hx319_4)
          (try rw [Addr.add_zero'] at hx319_4)
          replace hx319_0 := pw_cell_below HB.out hx319_0
          replace hx319_1 := pw_cell_below HB.out hx319_1
          replace hx319_2 := pw_cell_below HB.out hx319_2
          replace hx319_3 := pw_cell_below HB.out hx319_3
          replace hx319_4 := pw_cell_below HB.out hx319_4
          have HR319_2 := Aside0.mk hi319_2
          have HC319_2 := Aside0.mk hl319_2
          clear hi319_2 hl319_2
          replace p319 := eq_true p319
          replace q319 := eq_true q319
          go_wp2_with (first | ((with_reducible refine gate_callee (f := 130) rfl ?_); refine goesL_ (some 21) rfl rfl Try.func130 (by kernel_rfl) rfl #[.string a0] rfl (by (try simp only [List.map_toArray, List.map_cons, List.map_nil]); first | done | rfl | (simp only [List.length_drop, List.length_take]; rfl)) ?_; (with_reducible refine (impl_isPlainRaw.calls a0 false _ A8.out).mono ?_); rintro e w' ⟨rfl, ⟨nd, rfl⟩⟩; refine ⟨_, rfl, ?_⟩; have q28 : (1 : Int) ≤ ((l1.length : Int) : Int) := dt_; obtain ⟨i028, hi028, _, hsz28, _⟩ := info_parts info87; have hroom28 : l1.length ≤ c1 := HC1.out; have hC28 : Kd.C k87 _ (some ad319) l1.length l1 := HR1.out; have hcut28 := cut_from (P := Try.prog) 46 87 .i64 Try.underlying46 hi028 5 hsz28 (some ad319) l1.length c1 1 (by omega) q28; have hr28 := Kd.C_drop (m := (1 : Int).toNat) (c := c1) hC28 (by omega) hroom28; obtain ⟨A28, hA28⟩ : ∃ A1, A1 = (if c1 = (1 : Int).toNat then (some ad319) else ((some ad319) : Option Addr).map (·.add ((1 : Int).toNat * 5))) := ⟨_, rfl⟩; obtain ⟨c28, hc28⟩ : ∃ cc_, cc_ = c1 - (1 : Int).toNat := ⟨_, rfl⟩; have hy28 : y328.length = l1.length - (1 : Int).toNat := (by rw [Ny328.out, List.length_drop] <;> omega); rw [show (l1).drop (1 : Int).toNat = y328 from Ny328.out.symm] at hr28; replace hr28 : Kd.C k87 _ A28 y328.length y328 := (by rw [hA28]; exact hr28); rw [← hy28, ← hA28, ← hc28] at hcut28; have HR331 := Aside0.mk hr28; have HC331 := Aside0.mk (show y328.length ≤ c28 from by rw [hy28, hc28]; exact Nat.sub_le_sub_right hroom28 _); clear hr28 hC28 hroom28 hi028 hsz28 hc28; have KY28 := Aside0.mk hy28; have KA28 := Aside0.mk hA28; clear hy28 hA28; replace q28 := eq_true q28; have p332 : 0 ≤ (0 : Int) := (by omega); have q332 : 0 < (y328.length : Int) := dt_; obtain ⟨ad332, A332_2, c332_2, e332, hx332_0, hx332_1, hx332_2, hx332_3, hx332_4, hl332_2, hi332_2⟩ := at_T87 HR331.out 0 p332 q332; cases e332; have qi332 : (0 < y328.length) = True := eq_true (by omega); (try rw [show ((0 : Int)).toNat = 0 from rfl] at hx332_0); (try rw [show 0 * 5 = 0 from rfl] at hx332_0); (try rw [Addr.add_zero'] at hx332_0); (try rw [show ((0 : Int)).toNat = 0 from rfl] at hx332_1); (try rw [show 0 * 5 = 0 from rfl] at hx332_1); (try rw [Addr.add_zero'] at hx332_1); (try rw [show ((0 : Int)).toNat = 0 from rfl] at hx332_2); (try rw [show 0 * 5 = 0 from rfl] at hx332_2); (try rw [Addr.add_zero'] at hx332_2); (try rw [show ((0 : Int)).toNat = 0 from rfl] at hx332_3); (try rw [show 0 * 5 = 0 from rfl] at hx332_3); (try rw [Addr.add_zero'] at hx332_3); (try rw [show ((0 : Int)).toNat = 0 from rfl] at hx332_4); (try rw [show 0 * 5 = 0 from rfl] at hx332_4); (try rw [Addr.add_zero'] at hx332_4); replace hx332_0 := pw_cell_below HB.out hx332_0; replace hx332_1 := pw_cell_below HB.out hx332_1; replace hx332_2 := pw_cell_below HB.out hx332_2; replace hx332_3 := pw_cell_below HB.out hx332_3; replace hx332_4 := pw_cell_below HB.out hx332_4; have HR332_2 := Aside0.mk hi332_2; have HC332_2 := Aside0.mk hl332_2; clear hi332_2 hl332_2; replace p332 := eq_true p332; replace q332 := eq_true q332; have p333 : 0 ≤ (0 : Int) := (by omega); have q333 : 0 < (y328.length : Int) := dt_; obtain ⟨ad333, A333_2, c333_2, e333, hx333_0, hx333_1, hx333_2, hx333_3, hx333_4, hl333_2, hi333_2⟩ := at_T87 HR331.out 0 p333 q333; obtain rfl : ad332 = ad333 := (by injection e333); have qi333 : (0 < y328.length) = True := eq_true (by omega); (try rw [show ((0 : Int)).toNat = 0 from rfl] at hx333_0); (try rw [show 0 * 5 = 0 from rfl] at hx333_0); (try rw [Addr.add_zero'] at hx333_0); (try rw [show ((0 : Int)).toNat = 0 from rfl] at hx333_1); (try rw [show 0 * 5 = 0 from rfl] at hx333_1); (try rw [Addr.add_zero'] at hx333_1); (try rw [show ((0 : Int)).toNat = 0 from rfl] at hx333_2); (try rw [show 0 * 5 = 0 from rfl] at hx333_2); (try rw [Addr.add_zero'] at hx333_2); (try rw [show ((0 : Int)).toNat = 0 from rfl] at hx333_3); (try rw [show 0 * 5 = 0 from rfl] at hx333_3); (try rw [Addr.add_zero'] at hx333_3); (try rw [show ((0 : Int)).toNat = 0 from rfl] at hx333_4); (try rw [show 0 * 5 = 0 from rfl] at hx333_4); (try rw [Addr.add_zero'] at hx333_4); replace hx333_0 := pw_cell_below HB.out hx333_0; replace hx333_1 := pw_cell_below HB.out hx333_1; replace hx333_2 := pw_cell_below HB.out hx333_2; replace hx333_3 := pw_cell_below HB.out hx333_3; replace hx333_4 := pw_cell_below HB.out hx333_4; have HR333_2 := Aside0.mk hi333_2; have HC333_2 := Aside0.mk hl333_2; clear hi333_2 hl333_2; replace p333 := eq_true p333; replace q333 := eq_true q333; have ea_ := Option.some.inj (hx332_2.symm.trans hx333_2); injection ea_ with ea_ en_ ec_; subst ea_; subst ec_; clear en_))
          go_ret
          exact ⟨by first | rfl | (simp [errW_none, errW_some] <;> rfl) | (simp [*, errW_none, errW_some] <;> rfl), hb_⟩
         ·rw [if_neg c27] at H
          have c27b0 : (((rd_T87 y328 0).f0) == 3) = false := beq_eq_false_iff_ne.mpr c27
          have c27b1 : (((rd_T87 y328 0).f0) != 3) = true := bne_iff_ne.mpr c27
          obtain rfl := Option.some.inj H
          have p319 : 0 ≤ (0 : Int) := (by omega)
          have q319 : 0 < (l1.length : Int) := dt_
          obtain ⟨ad319, A319_2, c319_2, e319, hx319_0, hx319_1, hx319_2, hx319_3, hx319_4, hl319_2, hi319_2⟩ := at_T87 HR1.out 0 p319 q319
          cases e319
          have qi319 : (0 < l1.length) = True := eq_true (by omega)
          (try rw [show ((0 : Int)).toNat = 0 from rfl] at hx319_0)
          (try rw [show 0 * 5 = 0 from rfl] at hx319_0)
          (try rw [Addr.add_zero'] at hx319_0)
          (try rw [show ((0 : Int)).toNat = 0 from rfl] at hx319_1)
          (try rw [show 0 * 5 = 0 from rfl] at hx319_1)
          (try rw [Addr.add_zero'] at hx319_1)
          (try rw [show ((0 : Int)).toNat = 0 from rfl] at hx319_2)
          (try rw [show 0 * 5 = 0 from rfl] at hx319_2)
          (try rw [Addr.add_zero'] at hx319_2)
          (try rw [show ((0 : Int)).toNat = 0 from rfl] at hx319_3)
          (try rw [show 0 * 5 = 0 from rfl] at hx319_3)
          (try rw [Addr.add_zero'] at hx319_3)
          (try rw [show ((0 : Int)).toNat = 0 from rfl] at hx319_4)
          (try rw [show 0 * 5 = 0 from rfl] at hx319_4)
          (try rw [Addr.add_zero'] at hx319_4)
          replace hx319_0 := pw_cell_below HB.out hx319_0
          replace hx319_1 := pw_cell_below HB.out hx319_1
          replace hx319_2 := pw_cell_below HB.out hx319_2
          replace hx319_3 := pw_cell_below HB.out hx319_3
          replace hx319_4 := pw_cell_below HB.out hx319_4
          have HR319_2 := Aside0.mk hi319_2
          have HC319_2 := Aside0.mk hl319_2
          clear hi319_2 hl319_2
          replace p319 := eq_true p319
          replace q319 := eq_true q319
          go_wp2_with (first | ((with_reducible refine gate_callee (f := 130) rfl ?_); refine goesL_ (some 21) rfl rfl Try.func130 (by kernel_rfl) rfl #[.string a0] rfl (by (try simp only [List.map_toArray, List.map_cons, List.map_nil]); first | done | rfl | (simp only [List.length_drop, List.length_take]; rfl)) ?_; (with_reducible refine (impl_isPlainRaw.calls a0 false _ A8.out).mono ?_); rintro e w' ⟨rfl, ⟨nd, rfl⟩⟩; refine ⟨_, rfl, ?_⟩; have q29 : (1 : Int) ≤ ((l1.length : Int) : Int) := dt_; obtain ⟨i029, hi029, _, hsz29, _⟩ := info_parts info87; have hroom29 : l1.length ≤ c1 := HC1.out; have hC29 : Kd.C k87 _ (some ad319) l1.length l1 := HR1.out; have hcut29 := cut_from (P := Try.prog) 46 87 .i64 Try.underlying46 hi029 5 hsz29 (some ad319) l1.length c1 1 (by omega) q29; have hr29 := Kd.C_drop (m := (1 : Int).toNat) (c := c1) hC29 (by omega) hroom29; obtain ⟨A29, hA29⟩ : ∃ A1, A1 = (if c1 = (1 : Int).toNat then (some ad319) else ((some ad319) : Option Addr).map (·.add ((1 : Int).toNat * 5))) := ⟨_, rfl⟩; obtain ⟨c29, hc29⟩ : ∃ cc_, cc_ = c1 - (1 : Int).toNat := ⟨_, rfl⟩; have hy29 : y328.length = l1.length - (1 : Int).toNat := (by rw [Ny328.out, List.length_drop] <;> omega); rw [show (l1).drop (1 : Int).toNat = y328 from Ny328.out.symm] at hr29; replace hr29 : Kd.C k87 _ A29 y328.length y328 := (by rw [hA29]; exact hr29); rw [← hy29, ← hA29, ← hc29] at hcut29; have HR331 := Aside0.mk hr29; have HC331 := Aside0.mk (show y328.length ≤ c29 from by rw [hy29, hc29]; exact Nat.sub_le_sub_right hroom29 _); clear hr29 hC29 hroom29 hi029 hsz29 hc29; have KY29 := Aside0.mk hy29; have KA29 := Aside0.mk hA29; clear hy29 hA29; replace q29 := eq_true q29; have p332 : 0 ≤ (0 : Int) := (by omega); have q332 : 0 < (y328.length : Int) := dt_; obtain ⟨ad332, A332_2, c332_2, e332, hx332_0, hx332_1, hx332_2, hx332_3, hx332_4, hl332_2, hi332_2⟩ := at_T87 HR331.out 0 p332 q332; cases e332; have qi332 : (0 < y328.length) = True := eq_true (by omega); (try rw [show ((0 : Int)).toNat = 0 from rfl] at hx332_0); (try rw [show 0 * 5 = 0 from rfl] at hx332_0); (try rw [Addr.add_zero'] at hx332_0); (try rw [show ((0 : Int)).toNat = 0 from rfl] at hx332_1); (try rw [show 0 * 5 = 0 from rfl] at hx332_1); (try rw [Addr.add_zero'] at hx332_1); (try rw [show ((0 : Int)).toNat = 0 from rfl] at hx332_2); (try rw [show 0 * 5 = 0 from rfl] at hx332_2); (try rw [Addr.add_zero'] at hx332_2); (try rw [show ((0 : Int)).toNat = 0 from rfl] at hx332_3); (try rw [show 0 * 5 = 0 from rfl] at hx332_3); (try rw [Addr.add_zero'] at hx332_3); (try rw [show ((0 : Int)).toNat = 0 from rfl] at hx332_4); (try rw [show 0 * 5 = 0 from rfl] at hx332_4); (try rw [Addr.add_zero'] at hx332_4); replace hx332_0 := pw_cell_below HB.out hx332_0; replace hx332_1 := pw_cell_below HB.out hx332_1; replace hx332_2 := pw_cell_below HB.out hx332_2; replace hx332_3 := pw_cell_below HB.out hx332_3; replace hx332_4 := pw_cell_below HB.out hx332_4; have HR332_2 := Aside0.mk hi332_2; have HC332_2 := Aside0.mk hl332_2; clear hi332_2 hl332_2; replace p332 := eq_true p332; replace q332 := eq_true q332))
          go_ret
          exact ⟨by first | rfl | (simp [errW_none, errW_some] <;> rfl) | (simp [*, errW_none, errW_some] <;> rfl), hb_⟩
        ·rw [if_neg c26] at H
         exact absurd H (by simp)
      ·rw [if_neg c23] at H
       exact absurd H (by simp)
    ·rw [if_neg c7] at H
     exact absurd H (by simp)
   ·replace c6 := Bool.eq_false_iff.mpr c6
    subst c6
    have H1 : (if (l1.length : Int) = 0 then (some true) else (if 0 < (l1.length : Int) then (if ((rd_T87 l1 0).f0) = 3 then (some (((rd_T87 l1 0).f1).toList == a0.toList)) else (some false)) else (none))) = some r := by rw [if_neg (show ¬ (false = true) by decide)] at H; exact H
    clear H
    have H := H1
    clear H1
    by_cases c30 : (l1.length : Int) = 0
    ·rw [if_pos c30] at H
     have c30b0 : ((l1.length : Int) == 0) = true := beq_iff_eq.mpr c30
     have c30b1 : ((l1.length : Int) != 0) = false := bne_eq_false_iff_eq.mpr c30
     clear c30
     obtain rfl := Option.some.inj H
     go_wp2
     go_ret
     exact ⟨by first | rfl | (simp [errW_none, errW_some] <;> rfl) | (simp [*, errW_none, errW_some] <;> rfl), hb_⟩
    ·rw [if_neg c30] at H
     have c30b0 : ((l1.length : Int) == 0) = false := beq_eq_false_iff_ne.mpr c30
     have c30b1 : ((l1.length : Int) != 0) = true := bne_iff_ne.mpr c30
     have c30b2 : ¬ (l1 = []) := fun h_ => c30 (by rw [h_]; rfl)
     by_cases c31 : 0 < (l1.length : Int)
     ·rw [if_pos c31] at H
      have c31b0 : decide (0 < (l1.length : Int)) = true := decide_eq_true c31
      have c31b1 : decide (0 < l1.length) = true := decide_eq_true (by omega)
      clear c31
      by_cases c32 : ((rd_T87 l1 0).f0) = 3
      ·rw [if_pos c32] at H
       have c32b0 : (((rd_T87 l1 0).f0) == 3) = true := beq_iff_eq.mpr c32
       have c32b1 : (((rd_T87 l1 0).f0) != 3) = false := bne_eq_false_iff_eq.mpr c32
       clear c32
       obtain rfl := Option.some.inj H
       have p334 : 0 ≤ (0 : Int) := (by omega)
       have q334 : 0 < (l1.length : Int) := dt_
       obtain ⟨ad334, A334_2, c334_2, e334, hx334_0, hx334_1, hx334_2, hx334_3, hx334_4, hl334_2, hi334_2⟩ := at_T87 HR1.out 0 p334 q334
       cases e334
       have qi334 : (0 < l1.length) = True := eq_true (by omega)
       (try rw [show ((0 : Int)).toNat = 0 from rfl] at hx334_0)
       (try rw [show 0 * 5 = 0 from rfl] at hx334_0)
       (try rw [Addr.add_zero'] at hx334_0)
       (try rw [show ((0 : Int)).toNat = 0 from rfl] at hx334_1)
       (try rw [show 0 * 5 = 0 from rfl] at hx334_1)
       (try rw [Addr.add_zero'] at hx334_1)
       (try rw [show ((0 : Int)).toNat = 0 from rfl] at hx334_2)
       (try rw [show 0 * 5 = 0 from rfl] at hx334_2)
       (try rw [Addr.add_zero'] at hx334_2)
       (try rw [show ((0 : Int)).toNat = 0 from rfl] at hx334_3)
       (try rw [show 0 * 5 = 0 from rfl] at hx334_3)
       (try rw [Addr.add_zero'] at hx334_3)
       (try rw [show ((0 : Int)).toNat = 0 from rfl] at hx334_4)
       (try rw [show 0 * 5 = 0 from rfl] at hx334_4)
       (try rw [Addr.add_zero'] at hx334_4)
       replace hx334_0 := pw_cell_below HB.out hx334_0
       replace hx334_1 := pw_cell_below HB.out hx334_1
       replace hx334_2 := pw_cell_below HB.out hx334_2
       replace hx334_3 := pw_cell_below HB.out hx334_3
       replace hx334_4 := pw_cell_below HB.out hx334_4
       have HR334_2 := Aside0.mk hi334_2
       have HC334_2 := Aside0.mk hl334_2
       clear hi334_2 hl334_2
       replace p334 := eq_true p334
       replace q334 := eq_true q334
       have p335 : 0 ≤ (0 : Int) := (by omega)
       have q335 : 0 < (l1.length : Int) := dt_
       obtain ⟨ad335, A335_2, c335_2, e335, hx335_0, hx335_1, hx335_2, hx335_3, hx335_4, hl335_2, hi335_2⟩ := at_T87 HR1.out 0 p335 q335
       obtain rfl : ad334 = ad335 := (by injection e335)
       have qi335 : (0 < l1.length) = True := eq_true (by omega)
       (try rw [show ((0 : Int)).toNat = 0 from rfl] at hx335_0)
       (try rw [show 0 * 5 = 0 from rfl] at hx335_0)
       (try rw [Addr.add_zero'] at hx335_0)
       (try rw [show ((0 : Int)).toNat = 0 from rfl] at hx335_1)
       (try rw [show 0 * 5 = 0 from rfl] at hx335_1)
       (try rw [Addr.add_zero'] at hx335_1)
       (try rw [show ((0 : Int)).toNat = 0 from rfl] at hx335_2)
       (try rw [show 0 * 5 = 0 from rfl] at hx335_2)
       (try rw [Addr.add_zero'] at hx335_2)
       (try rw [show ((0 : Int)).toNat = 0 from rfl] at hx335_3)
       (try rw [show 0 * 5 = 0 from rfl] at hx335_3)
       (try rw [Addr.add_zero'] at hx335_3)
       (try rw [show ((0 : Int)).toNat = 0 from rfl] at hx335_4)
       (try rw [show 0 * 5 = 0 from rfl] at hx335_4)
       (try rw [Addr.add_zero'] at hx335_4)
       replace hx335_0 := pw_cell_below HB.out hx335_0
       replace hx335_1 := pw_cell_below HB.out hx335_1
       replace hx335_2 := pw_cell_below HB.out hx335_2
       replace hx335_3 := pw_cell_below HB.out hx335_3
       replace hx335_4 := pw_cell_below HB.out hx335_4
       have HR335_2 := Aside0.mk hi335_2
       have HC335_2 := Aside0.mk hl335_2
       clear hi335_2 hl335_2
       replace p335 := eq_true p335
       replace q335 := eq_true q335
       have ea_ := Option.some.inj (hx334_2.symm.trans hx335_2)
       injection ea_ with ea_ en_ ec_
       subst ea_
       subst ec_
       clear en_
       go_wp2
       go_ret
       exact ⟨by first | rfl | (simp [errW_none, errW_some] <;> rfl) | (simp [*, errW_none, errW_some] <;> rfl), hb_⟩
      ·rw [if_neg c32] at H
       have c32b0 : (((rd_T87 l1 0).f0) == 3) = false := beq_eq_false_iff_ne.mpr c32
       have c32b1 : (((rd_T87 l1 0).f0) != 3) = true := bne_iff_ne.mpr c32
       obtain rfl := Option.some.inj H
       have p334 : 0 ≤ (0 : Int) := (by omega)
       have q334 : 0 < (l1.length : Int) := dt_
       obtain ⟨ad334, A334_2, c334_2, e334, hx334_0, hx334_1, hx334_2, hx334_3, hx334_4, hl334_2, hi334_2⟩ := at_T87 HR1.out 0 p334 q334
       cases e334
       have qi334 : (0 < l1.length) = True := eq_true (by omega)
       (try rw [show ((0 : Int)).toNat = 0 from rfl] at hx334_0)
       (try rw [show 0 * 5 = 0 from rfl] at hx334_0)
       (try rw [Addr.add_zero'] at hx334_0)
       (try rw [show ((0 : Int)).toNat = 0 from rfl] at hx334_1)
       (try rw [show 0 * 5 = 0 from rfl] at hx334_1)
       (try rw [Addr.add_zero'] at hx334_1)
       (try rw [show ((0 : Int)).toNat = 0 from rfl] at hx334_2)
       (try rw [show 0 * 5 = 0 from rfl] at hx334_2)
       (try rw [Addr.add_zero'] at hx334_2)
       (try rw [show ((0 : Int)).toNat = 0 from rfl] at hx334_3)
       (try rw [show 0 * 5 = 0 from rfl] at hx334_3)
       (try rw [Addr.add_zero'] at hx334_3)
       (try rw [show ((0 : Int)).toNat = 0 from rfl] at hx334_4)
       (try rw [show 0 * 5 = 0 from rfl] at hx334_4)
       (try rw [Addr.add_zero'] at hx334_4)
       replace hx334_0 := pw_cell_below HB.out hx334_0
       replace hx334_1 := pw_cell_below HB.out hx334_1
       replace hx334_2 := pw_cell_below HB.out hx334_2
       replace hx334_3 := pw_cell_below HB.out hx334_3
       replace hx334_4 := pw_cell_below HB.out hx334_4
       have HR334_2 := Aside0.mk hi334_2
       have HC334_2 := Aside0.mk hl334_2
       clear hi334_2 hl334_2
       replace p334 := eq_true p334
       replace q334 := eq_true q334
       go_wp2
       go_ret
       exact ⟨by first | rfl | (simp [errW_none, errW_some] <;> rfl) | (simp [*, errW_none, errW_some] <;> rfl), hb_⟩
     ·rw [if_neg c31] at H
      exact absurd H (by simp)
end Go.Proofs.Yteafgjebaedjbaa.PFnExactTokensOk
