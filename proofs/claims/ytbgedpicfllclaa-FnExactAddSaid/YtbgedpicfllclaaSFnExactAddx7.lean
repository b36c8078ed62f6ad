-- Written by this session's program wip/slim.py out of the print's texts. Lean checks it.
import Derived.Test.YtbgedpicfllclaaSFnExactAddx0
import Derived.Test.YtbgedpicfllclaaSFnExactAddx5
import Derived.Test.YtbgedpicfllclaaSFnExactAddx6
namespace Go.Proofs.Ytbgedpicfllclaa.PFnExactAdd
open Go.RowKit Go.Proofs.YtbgedpicfllclaaW.PrintWords Go.Proofs.YtbgedpicfllclaaW.PrintLast Go.Proofs.YtbgedpicfllclaaW.PrintMore
attribute [local go_sem] max2_int min2_int max_two min_two max_three min_three max_four min_four
set_option linter.unusedVariables false
set_option linter.unusedSimpArgs false
def spec_l6Count.l0 : Nat → List Int → Int → Int → Int → Option (Int)
 | 0, _, _, _, _ => none
 | k + 1, x0, x1, x5, x6 => if x6 < (x0.length : Int) then (if 0 ≤ x6 then ((spec_l1Bit.f ((rd x0 x6) == x1)).bind fun t177 => (spec_l6Count.l0 k x0 x1 (wrap64 (x5 + t177)) (wrap64 (x6 + 1)))) else (none)) else (some x5)
def spec_l6Count.f (k : Nat) (l0 : List Int) (a1 : Int) : Option (Int) := spec_l6Count.l0 k l0 a1 0 0
theorem spec_l6Count.mono_l : ∀ k, (∀ y0 y1 y2 y3, LeO (spec_l6Count.l0 k y0 y1 y2 y3) (spec_l6Count.l0 (k + 1) y0 y1 y2 y3))
 | 0 => fun _ _ _ _ r h => by simp [spec_l6Count.l0] at h
 | k + 1 => by
  have ih0 := spec_l6Count.mono_l k
  ·intro y0 y1 y2 y3
   unfold spec_l6Count.l0
   repeat' first
   | (with_reducible exact ih0 _ _ _ _)
   | (with_reducible exact LeO.refl _)
   | (with_reducible exact LeO.none _)
   | (with_reducible refine LeO.ite ?_ ?_)
   | (with_reducible refine LeO.bind ?_ (fun _ => ?_))
theorem spec_l6Count.mono : ∀ a0 a1 k, LeO (spec_l6Count.f k a0 a1) (spec_l6Count.f (k + 1) a0 a1) := by
 intro a0 a1 k
 have ih0 := spec_l6Count.mono_l k
 unfold spec_l6Count.f
 repeat' first
   | (with_reducible exact ih0 _ _ _ _)
   | (with_reducible exact LeO.refl _)
   | (with_reducible exact LeO.none _)
   | (with_reducible refine LeO.ite ?_ ?_)
   | (with_reducible refine LeO.bind ?_ (fun _ => ?_))
set_option maxHeartbeats 8000000 in
set_option maxRecDepth 100000 in
theorem spec_l6Count.calls (k : Nat) (A0 : Option Addr) (c0 : Nat) (l0 : List Int) (a1 : Int) (r : Int) (w : World) (hr0 : Kd.C (Kd.int .i64) w A0 l0.length l0) (hc0 : l0.length ≤ c0) (h : spec_l6Count.f k l0 a1 = some r) :
  Calls Try.prog 41 #[.slice A0 l0.length c0, .int .i64 a1] w fun e w' => e = .returned (.int .i64 r) ∧ Drawn0 w w' := by
 have HR0 := Aside0.mk hr0
 have HC0 := Aside0.mk hc0
 clear hr0 hc0
 have H : (spec_l6Count.l0 k l0 a1 0 0) = some r := h
 clear h
 have H' := Aside0.mk H
 clear H
 go_enter Try.func41, Try.ntmps41
 go_wp2
 go_loopg [5, 6] k (fun kq v5 v6 w' => ∃ (x5_1 : Int) (x6_1 : Int), v5 = .int .i64 x5_1 ∧ v6 = .int .i64 x6_1 ∧ Aside0 (spec_l6Count.l0 kq l0 a1 x5_1 x6_1 = some r) ∧ Aside0 (kq ≤ k) ∧ Drawn0 w w')
 case atStart => exact ⟨(0), (0), (by first | rfl | (simp; done) | (simp [*]; done)), (by first | rfl | (simp; done) | (simp [*]; done)), H', ⟨Nat.le_refl _⟩, by repeat (first | exact Drawn0.refl _ | apply Drawn0.step)⟩
 case round =>
  clear H'
  obtain ⟨x5_1, x6_1, rfl, rfl, HA, HK1, ⟨m1, rfl⟩⟩ := hrel
  cases gk with
  | zero => exact absurd HA.out (by simp [spec_l6Count.l0])
  | succ k1 =>
   have H := HA.out
   clear HA
   simp only [spec_l6Count.l0] at H
   by_cases c3 : x6_1 < (l0.length : Int)
   ·rw [if_pos c3] at H
    have c3b0 : decide (x6_1 < (l0.length : Int)) = true := decide_eq_true c3
    clear c3
    by_cases c4 : 0 ≤ x6_1
    ·rw [if_pos c4] at H
     have c4b0 : decide (0 ≤ x6_1) = true := decide_eq_true c4
     clear c4
     replace H := Option.bind_eq_some_iff.mp H
     obtain ⟨t177, A50, H⟩ := H
     replace H : (spec_l6Count.l0 k1 l0 a1 (wrap64 (x5_1 + t177)) (wrap64 (x6_1 + 1))) = some r := H
     have A5 := Aside0.mk A50
     clear A50
     have H' := Aside0.mk H
     clear H
     have p176 : 0 ≤ (x6_1 : Int) := dq_ (by assumption)
     have q176 : x6_1 < (l0.length : Int) := dq_ (by assumption)
     obtain ⟨ad176, e176, hx176_0⟩ := Kd.at_int HR0.out x6_1 p176 q176
     cases e176
     replace p176 := eq_true p176
     replace q176 := eq_true q176
     go_wp2_with (first | ((with_reducible refine gate_callee (f := 72) rfl ?_); refine goesL_ (some 20) rfl rfl Try.func72 (by kernel_rfl) rfl #[.bool ((rd l0 x6_1) == a1)] rfl (by (try simp only [List.map_toArray, List.map_cons, List.map_nil]); first | done | rfl | (simp only [List.length_drop, List.length_take]; rfl)) ?_; (with_reducible refine (spec_l1Bit.calls ((rd l0 x6_1) == a1) t177 _ A5.out).mono ?_); rintro e w' ⟨rfl, ⟨nd, rfl⟩⟩; refine ⟨_, rfl, ?_⟩))
     go_roundg k1
     case measure => have := HK1.out; omega
     case rel => exact ⟨(wrap64 (x5_1 + t177)), (wrap64 (x6_1 + 1)), (by first | rfl | (simp; done) | (simp [*]; done)), (by first | rfl | (simp; done) | (simp [*]; done)), H', ⟨by have := HK1.out; omega⟩, by repeat (first | exact Drawn0.refl _ | apply Drawn0.step)⟩
    ·rw [if_neg c4] at H
     exact absurd H (by simp)
   ·rw [if_neg c3] at H
    have c3b0 : decide (x6_1 < (l0.length : Int)) = false := decide_eq_false c3
    clear c3
    obtain rfl := Option.some.inj H
    go_wp2
    go_ret
    exact ⟨by first | rfl | (simp; done) | (simp [*]; done), by repeat (first | exact Drawn0.refl _ | apply Drawn0.step)⟩
mutual
def spec_l6Links.l0 : Nat → List (S44) → Int → Option (Bool)
 | 0, _, _ => none
 | k + 1, x0, x3 => if x3 < (x0.length : Int) then (if 0 ≤ x3 then (if x3 = 0 then (if ((rd_T44 x0 x3).f5) = (-1) then (if x3 > 0 then ((spec_l1In.f ((rd_T44 x0 x3).f5) 0 (wrap64 ((x0.length : Int) - 1))).bind fun t179 => (if t179 = true then (if 0 ≤ ((rd_T44 x0 x3).f5) then (if ((rd_T44 x0 x3).f5) < (x0.length : Int) then ((spec_l6Count.f k ((rd_T44 x0 ((rd_T44 x0 x3).f5)).f6) x3).bind fun t181 => (spec_l6Links.j1 k x0 x3 (t181 != 1))) else (none)) else (none)) else (spec_l6Links.j1 k x0 x3 true))) else (spec_l6Links.j1 k x0 x3 false)) else (spec_l6Links.j1 k x0 x3 true)) else (if x3 > 0 then ((spec_l1In.f ((rd_T44 x0 x3).f5) 0 (wrap64 ((x0.length : Int) - 1))).bind fun t182 => (if t182 = true then (if 0 ≤ ((rd_T44 x0 x3).f5) then (if ((rd_T44 x0 x3).f5) < (x0.length : Int) then ((spec_l6Count.f k ((rd_T44 x0 ((rd_T44 x0 x3).f5)).f6) x3).bind fun t184 => (spec_l6Links.j1 k x0 x3 (t184 != 1))) else (none)) else (none)) else (spec_l6Links.j1 k x0 x3 true))) else (spec_l6Links.j1 k x0 x3 false))) else (none)) else (some true)
def spec_l6Links.j1 : Nat → List (S44) → Int → Bool → Option (Bool)
 | 0, _, _, _ => none
 | k + 1, x0, x3, x45 => if x45 = true then (some false) else (spec_l6Links.l1 k x0 x3 0)
def spec_l6Links.l1 : Nat → List (S44) → Int → Int → Option (Bool)
 | 0, _, _, _ => none
 | k + 1, x0, x3, x5 => if 0 ≤ x3 then (if x3 < (x0.length : Int) then (if x5 < (((rd_T44 x0 x3).f6).length : Int) then (if 0 ≤ x5 then ((spec_l1In.f (rd ((rd_T44 x0 x3).f6) x5) 1 (wrap64 ((x0.length : Int) - 1))).bind fun t188 => (if t188 = true then (if 0 ≤ (rd ((rd_T44 x0 x3).f6) x5) then (if (rd ((rd_T44 x0 x3).f6) x5) < (x0.length : Int) then (if ((rd_T44 x0 (rd ((rd_T44 x0 x3).f6) x5)).f5) = x3 then (spec_l6Links.l1 k x0 x3 (wrap64 (x5 + 1))) else (some false)) else (none)) else (none)) else (some false))) else (none)) else (spec_l6Links.l0 k x0 (wrap64 (x3 + 1)))) else (none)) else (none)
end
def spec_l6Links.f (k : Nat) (l0 : List (S44)) : Option (Bool) := spec_l6Links.l0 k l0 0
theorem spec_l6Links.mono_l : ∀ k, (∀ y0 y1, LeO (spec_l6Links.l0 k y0 y1) (spec_l6Links.l0 (k + 1) y0 y1)) ∧ (∀ y0 y1 y2, LeO (spec_l6Links.j1 k y0 y1 y2) (spec_l6Links.j1 (k + 1) y0 y1 y2)) ∧ (∀ y0 y1 y2, LeO (spec_l6Links.l1 k y0 y1 y2) (spec_l6Links.l1 (k + 1) y0 y1 y2))
 | 0 => ⟨fun _ _ r h => by simp [spec_l6Links.l0] at h, fun _ _ _ r h => by simp [spec_l6Links.j1] at h, fun _ _ _ r h => by simp [spec_l6Links.l1] at h⟩
 | k + 1 => by
  obtain ⟨ih0, ih1, ih2⟩ := spec_l6Links.mono_l k
  refine ⟨?_, ?_, ?_⟩
  ·intro y0 y1
   unfold spec_l6Links.l0
   repeat' first
   | (with_reducible exact ih0 _ _)
   | (with_reducible exact ih1 _ _ _)
   | (with_reducible exact ih2 _ _ _)
   | (with_reducible exact spec_l6Count.mono _ _ _)
   | (with_reducible exact LeO.refl _)
   | (with_reducible exact LeO.none _)
   | (with_reducible refine LeO.ite ?_ ?_)
   | (with_reducible refine LeO.bind ?_ (fun _ => ?_))
  ·intro y0 y1 y2
   unfold spec_l6Links.j1
   repeat' first
   | (with_reducible exact ih0 _ _)
   | (with_reducible exact ih1 _ _ _)
   | (with_reducible exact ih2 _ _ _)
   | (with_reducible exact spec_l6Count.mono _ _ _)
   | (with_reducible exact LeO.refl _)
   | (with_reducible exact LeO.none _)
   | (with_reducible refine LeO.ite ?_ ?_)
   | (with_reducible refine LeO.bind ?_ (fun _ => ?_))
  ·intro y0 y1 y2
   unfold spec_l6Links.l1
   repeat' first
   | (with_reducible exact ih0 _ _)
   | (with_reducible exact ih1 _ _ _)
   | (with_reducible exact ih2 _ _ _)
   | (with_reducible exact spec_l6Count.mono _ _ _)
   | (with_reducible exact LeO.refl _)
   | (with_reducible exact LeO.none _)
   | (with_reducible refine LeO.ite ?_ ?_)
   | (with_reducible refine LeO.bind ?_ (fun _ => ?_))
theorem spec_l6Links.mono : ∀ a0 k, LeO (spec_l6Links.f k a0) (spec_l6Links.f (k + 1) a0) := by
 intro a0 k
 obtain ⟨ih0, ih1, ih2⟩ := spec_l6Links.mono_l k
 unfold spec_l6Links.f
 repeat' first
   | (with_reducible exact ih0 _ _)
   | (with_reducible exact ih1 _ _ _)
   | (with_reducible exact ih2 _ _ _)
   | (with_reducible exact spec_l6Count.mono _ _ _)
   | (with_reducible exact LeO.refl _)
   | (with_reducible exact LeO.none _)
   | (with_reducible refine LeO.ite ?_ ?_)
   | (with_reducible refine LeO.bind ?_ (fun _ => ?_))
set_option maxHeartbeats 8000000 in
set_option maxRecDepth 100000 in
theorem spec_l6Links.calls (k : Nat) (A0 : Option Addr) (c0 : Nat) (l0 : List (S44)) (r : Bool) (w : World) (hr0 : Kd.C k44 w A0 l0.length l0) (hc0 : l0.length ≤ c0) (h : spec_l6Links.f k l0 = some r) :
  Calls Try.prog 63 #[.slice A0 l0.length c0] w fun e w' => e = .returned (.bool r) ∧ Drawn0 w w' := by
 have HR0 := Aside0.mk hr0
 have HC0 := Aside0.mk hc0
 clear hr0 hc0
 have H : (spec_l6Links.l0 k l0 0) = some r := h
 clear h
 have H' := Aside0.mk H
 clear H
 go_enter Try.func63, Try.ntmps63
 go_wp2
 go_loopg [3] k (fun kq v3 w' => ∃ (x3_1 : Int), v3 = .int .i64 x3_1 ∧ Aside0 (spec_l6Links.l0 kq l0 x3_1 = some r) ∧ Aside0 (kq ≤ k) ∧ Drawn0 w w')
 case atStart => exact ⟨(0), (by first | rfl | (simp; done) | (simp [*]; done)), H', ⟨Nat.le_refl _⟩, by repeat (first | exact Drawn0.refl _ | apply Drawn0.step)⟩
 case round =>
  clear H'
  obtain ⟨x3_1, rfl, HA, HK1, ⟨m1, rfl⟩⟩ := hrel
  cases gk with
  | zero => exact absurd HA.out (by simp [spec_l6Links.l0])
  | succ k1 =>
   have H := HA.out
   clear HA
   simp only [spec_l6Links.l0] at H
   by_cases c2 : x3_1 < (l0.length : Int)
   ·rw [if_pos c2] at H
    have c2b0 : decide (x3_1 < (l0.length : Int)) = true := decide_eq_true c2
    clear c2
    by_cases c3 : 0 ≤ x3_1
    ·rw [if_pos c3] at H
     have c3b0 : decide (0 ≤ x3_1) = true := decide_eq_true c3
     clear c3
     have HC4 := Aside0.mk H
     clear H
     have p178 : 0 ≤ (x3_1 : Int) := dq_ (by assumption)
     have q178 : x3_1 < (l0.length : Int) := dq_ (by assumption)
     obtain ⟨ad178, A178_3, c178_3, A178_6, c178_6, e178, hx178_0, hx178_1, hx178_2, hx178_3, hx178_4, hx178_5, hx178_6, hl178_3, hi178_3, hl178_6, hi178_6⟩ := at_T44 HR0.out x3_1 p178 q178
     cases e178
     have HR178_3 := Aside0.mk hi178_3
     have HC178_3 := Aside0.mk hl178_3
     clear hi178_3 hl178_3
     have HR178_6 := Aside0.mk hi178_6
     have HC178_6 := Aside0.mk hl178_6
     clear hi178_6 hl178_6
     replace p178 := eq_true p178
     replace q178 := eq_true q178
     go_upto_region 5 with (fail)
     go_cut [45] (fun v45 wc => ∃ (kq : Nat) (x45_3 : Bool), v45 = .bool x45_3 ∧ Aside0 (spec_l6Links.j1 kq l0 x3_1 x45_3 = some r) ∧ Aside0 (kq ≤ k1) ∧ Drawn0 w wc)
     case first =>
      have H := HC4.out
      clear HC4
      by_cases c5 : x3_1 = 0
      ·rw [if_pos c5] at H
       have c5b0 : (x3_1 == 0) = true := beq_iff_eq.mpr c5
       have c5b1 : (x3_1 != 0) = false := bne_eq_false_iff_eq.mpr c5
       clear c5
       (first | rw [c5b0] | (simp only [i64_w, i32_w]; rw [c5b0]) | skip)
       by_cases c6 : ((rd_T44 l0 x3_1).f5) = (-1)
       ·rw [if_pos c6] at H
        have c6b0 : (((rd_T44 l0 x3_1).f5) == (-1)) = true := beq_iff_eq.mpr c6
        have c6b1 : (((rd_T44 l0 x3_1).f5) != (-1)) = false := bne_eq_false_iff_eq.mpr c6
        clear c6
        by_cases c7 : x3_1 > 0
        ·rw [if_pos c7] at H
         have c7b0 : decide (0 < x3_1) = true := decide_eq_true c7
         clear c7
         replace H := Option.bind_eq_some_iff.mp H
         obtain ⟨t179, A80, H⟩ := H
         replace H : (if t179 = true then (if 0 ≤ ((rd_T44 l0 x3_1).f5) then (if ((rd_T44 l0 x3_1).f5) < (l0.length : Int) then ((spec_l6Count.f k1 ((rd_T44 l0 ((rd_T44 l0 x3_1).f5)).f6) x3_1).bind fun t181 => (spec_l6Links.j1 k1 l0 x3_1 (t181 != 1))) else (none)) else (none)) else (spec_l6Links.j1 k1 l0 x3_1 true)) = some r := H
         have A8 := Aside0.mk A80
         clear A80
         by_cases c9 : t179 = true
         ·subst c9
          have H1 : (if 0 ≤ ((rd_T44 l0 x3_1).f5) then (if ((rd_T44 l0 x3_1).f5) < (l0.length : Int) then ((spec_l6Count.f k1 ((rd_T44 l0 ((rd_T44 l0 x3_1).f5)).f6) x3_1).bind fun t181 => (spec_l6Links.j1 k1 l0 x3_1 (t181 != 1))) else (none)) else (none)) = some r := by rw [if_pos rfl] at H; exact H
          clear H
          have H := H1
          clear H1
          by_cases c10 : 0 ≤ ((rd_T44 l0 x3_1).f5)
          ·rw [if_pos c10] at H
           have c10b0 : decide (0 ≤ ((rd_T44 l0 x3_1).f5)) = true := decide_eq_true c10
           clear c10
           by_cases c11 : ((rd_T44 l0 x3_1).f5) < (l0.length : Int)
           ·rw [if_pos c11] at H
            have c11b0 : decide (((rd_T44 l0 x3_1).f5) < (l0.length : Int)) = true := decide_eq_true c11
            clear c11
            replace H := Option.bind_eq_some_iff.mp H
            obtain ⟨t181, A120, H⟩ := H
            replace H : (spec_l6Links.j1 k1 l0 x3_1 (t181 != 1)) = some r := H
            have A12 := Aside0.mk A120
            clear A120
            have H' := Aside0.mk H
            clear H
            go_wp2_with (first | (go_at_call 49; (with_reducible refine (spec_l1In.calls ((rd_T44 l0 x3_1).f5) 0 (wrap64 ((l0.length : Int) - 1)) true _ A8.out).mono ?_); rintro e w' ⟨rfl, ⟨nd, rfl⟩⟩; have p180 : 0 ≤ (((rd_T44 l0 x3_1).f5) : Int) := dq_ (by assumption); have q180 : ((rd_T44 l0 x3_1).f5) < (l0.length : Int) := dq_ (by assumption); obtain ⟨ad180, A180_3, c180_3, A180_6, c180_6, e180, hx180_0, hx180_1, hx180_2, hx180_3, hx180_4, hx180_5, hx180_6, hl180_3, hi180_3, hl180_6, hi180_6⟩ := at_T44 HR0.out ((rd_T44 l0 x3_1).f5) p180 q180; obtain rfl : ad178 = ad180 := (by injection e180); have HR180_3 := Aside0.mk hi180_3; have HC180_3 := Aside0.mk hl180_3; clear hi180_3 hl180_3; have HR180_6 := Aside0.mk hi180_6; have HC180_6 := Aside0.mk hl180_6; clear hi180_6 hl180_6; replace p180 := eq_true p180; replace q180 := eq_true q180) | (go_at_call 41; (with_reducible refine (spec_l6Count.calls k1 _ _ ((rd_T44 l0 ((rd_T44 l0 x3_1).f5)).f6) x3_1 t181 _ ?side1 ?side2 A12.out).mono ?_); (case side1 => repeat (first | exact HR180_6.out | (with_reducible refine ca_ ?_ _) | (with_reducible refine cn_ ?_ _) | (with_reducible refine cd_ ?_))); (case side2 => exact HC180_6.out); rintro e w' ⟨rfl, ⟨nd, rfl⟩⟩))
            go_meet
            case rel => exact ⟨_, ((t181 != 1)), (by first | rfl | (simp; done) | (simp [*]; done)), H', ⟨by have := HK1.out; first | omega | exact Nat.le_refl _⟩, by repeat (first | exact Drawn0.refl _ | apply Drawn0.step)⟩
           ·rw [if_neg c11] at H
            exact absurd H (by simp)
          ·rw [if_neg c10] at H
           exact absurd H (by simp)
         ·replace c9 := Bool.eq_false_iff.mpr c9
          subst c9
          have H1 : (spec_l6Links.j1 k1 l0 x3_1 true) = some r := by rw [if_neg (show ¬ (false = true) by decide)] at H; exact H
          clear H
          have H := H1
          clear H1
          have H' := Aside0.mk H
          clear H
          go_wp2_with (first | (go_at_call 49; (with_reducible refine (spec_l1In.calls ((rd_T44 l0 x3_1).f5) 0 (wrap64 ((l0.length : Int) - 1)) false _ A8.out).mono ?_); rintro e w' ⟨rfl, ⟨nd, rfl⟩⟩))
          go_meet
          case rel => exact ⟨_, (true), (by first | rfl | (simp; done) | (simp [*]; done)), H', ⟨by have := HK1.out; first | omega | exact Nat.le_refl _⟩, by repeat (first | exact Drawn0.refl _ | apply Drawn0.step)⟩
        ·rw [if_neg c7] at H
         have c7b0 : decide (0 < x3_1) = false := decide_eq_false c7
         clear c7
         have H' := Aside0.mk H
         clear H
         go_wp2
         go_meet
         case rel => exact ⟨_, (false), (by first | rfl | (simp; done) | (simp [*]; done)), H', ⟨by have := HK1.out; first | omega | exact Nat.le_refl _⟩, by repeat (first | exact Drawn0.refl _ | apply Drawn0.step)⟩
       ·rw [if_neg c6] at H
        have c6b0 : (((rd_T44 l0 x3_1).f5) == (-1)) = false := beq_eq_false_iff_ne.mpr c6
        have c6b1 : (((rd_T44 l0 x3_1).f5) != (-1)) = true := bne_iff_ne.mpr c6
        have H' := Aside0.mk H
        clear H
        go_wp2
        go_meet
        case rel => exact ⟨_, (true), (by first | rfl | (simp; done) | (simp [*]; done)), H', ⟨by have := HK1.out; first | omega | exact Nat.le_refl _⟩, by repeat (first | exact Drawn0.refl _ | apply Drawn0.step)⟩
      ·rw [if_neg c5] at H
       have c5b0 : (x3_1 == 0) = false := beq_eq_false_iff_ne.mpr c5
       have c5b1 : (x3_1 != 0) = true := bne_iff_ne.mpr c5
       (first | rw [c5b0] | (simp only [i64_w, i32_w]; rw [c5b0]) | skip)
       by_cases c13 : x3_1 > 0
       ·rw [if_pos c13] at H
        have c13b0 : decide (0 < x3_1) = true := decide_eq_true c13
        clear c13
        replace H := Option.bind_eq_some_iff.mp H
        obtain ⟨t182, A140, H⟩ := H
        replace H : (if t182 = true then (if 0 ≤ ((rd_T44 l0 x3_1).f5) then (if ((rd_T44 l0 x3_1).f5) < (l0.length : Int) then ((spec_l6Count.f k1 ((rd_T44 l0 ((rd_T44 l0 x3_1).f5)).f6) x3_1).bind fun t184 => (spec_l6Links.j1 k1 l0 x3_1 (t184 != 1))) else (none)) else (none)) else (spec_l6Links.j1 k1 l0 x3_1 true)) = some r := H
        have A14 := Aside0.mk A140
        clear A140
        by_cases c15 : t182 = true
        ·subst c15
         have H1 : (if 0 ≤ ((rd_T44 l0 x3_1).f5) then (if ((rd_T44 l0 x3_1).f5) < (l0.length : Int) then ((spec_l6Count.f k1 ((rd_T44 l0 ((rd_T44 l0 x3_1).f5)).f6) x3_1).bind fun t184 => (spec_l6Links.j1 k1 l0 x3_1 (t184 != 1))) else (none)) else (none)) = some r := by rw [if_pos rfl] at H; exact H
         clear H
         have H := H1
         clear H1
         by_cases c16 : 0 ≤ ((rd_T44 l0 x3_1).f5)
         ·rw [if_pos c16] at H
          have c16b0 : decide (0 ≤ ((rd_T44 l0 x3_1).f5)) = true := decide_eq_true c16
          clear c16
          by_cases c17 : ((rd_T44 l0 x3_1).f5) < (l0.length : Int)
          ·rw [if_pos c17] at H
           have c17b0 : decide (((rd_T44 l0 x3_1).f5) < (l0.length : Int)) = true := decide_eq_true c17
           clear c17
           replace H := Option.bind_eq_some_iff.mp H
           obtain ⟨t184, A180, H⟩ := H
           replace H : (spec_l6Links.j1 k1 l0 x3_1 (t184 != 1)) = some r := H
           have A18 := Aside0.mk A180
           clear A180
           have H' := Aside0.mk H
           clear H
           go_wp2_with (first | (go_at_call 49; (with_reducible refine (spec_l1In.calls ((rd_T44 l0 x3_1).f5) 0 (wrap64 ((l0.length : Int) - 1)) true _ A14.out).mono ?_); rintro e w' ⟨rfl, ⟨nd, rfl⟩⟩; have p183 : 0 ≤ (((rd_T44 l0 x3_1).f5) : Int) := dq_ (by assumption); have q183 : ((rd_T44 l0 x3_1).f5) < (l0.length : Int) := dq_ (by assumption); obtain ⟨ad183, A183_3, c183_3, A183_6, c183_6, e183, hx183_0, hx183_1, hx183_2, hx183_3, hx183_4, hx183_5, hx183_6, hl183_3, hi183_3, hl183_6, hi183_6⟩ := at_T44 HR0.out ((rd_T44 l0 x3_1).f5) p183 q183; obtain rfl : ad178 = ad183 := (by injection e183); have HR183_3 := Aside0.mk hi183_3; have HC183_3 := Aside0.mk hl183_3; clear hi183_3 hl183_3; have HR183_6 := Aside0.mk hi183_6; have HC183_6 := Aside0.mk hl183_6; clear hi183_6 hl183_6; replace p183 := eq_true p183; replace q183 := eq_true q183) | (go_at_call 41; (with_reducible refine (spec_l6Count.calls k1 _ _ ((rd_T44 l0 ((rd_T44 l0 x3_1).f5)).f6) x3_1 t184 _ ?side1 ?side2 A18.out).mono ?_); (case side1 => repeat (first | exact HR183_6.out | (with_reducible refine ca_ ?_ _) | (with_reducible refine cn_ ?_ _) | (with_reducible refine cd_ ?_))); (case side2 => exact HC183_6.out); rintro e w' ⟨rfl, ⟨nd, rfl⟩⟩))
           go_meet
           case rel => exact ⟨_, ((t184 != 1)), (by first | rfl | (simp; done) | (simp [*]; done)), H', ⟨by have := HK1.out; first | omega | exact Nat.le_refl _⟩, by repeat (first | exact Drawn0.refl _ | apply Drawn0.step)⟩
          ·rw [if_neg c17] at H
           exact absurd H (by simp)
         ·rw [if_neg c16] at H
          exact absurd H (by simp)
        ·replace c15 := Bool.eq_false_iff.mpr c15
         subst c15
         have H1 : (spec_l6Links.j1 k1 l0 x3_1 true) = some r := by rw [if_neg (show ¬ (false = true) by decide)] at H; exact H
         clear H
         have H := H1
         clear H1
         have H' := Aside0.mk H
         clear H
         go_wp2_with (first | (go_at_call 49; (with_reducible refine (spec_l1In.calls ((rd_T44 l0 x3_1).f5) 0 (wrap64 ((l0.length : Int) - 1)) false _ A14.out).mono ?_); rintro e w' ⟨rfl, ⟨nd, rfl⟩⟩))
         go_meet
         case rel => exact ⟨_, (true), (by first | rfl | (simp; done) | (simp [*]; done)), H', ⟨by have := HK1.out; first | omega | exact Nat.le_refl _⟩, by repeat (first | exact Drawn0.refl _ | apply Drawn0.step)⟩
       ·rw [if_neg c13] at H
        have c13b0 : decide (0 < x3_1) = false := decide_eq_false c13
        clear c13
        have H' := Aside0.mk H
        clear H
        go_wp2
        go_meet
        case rel => exact ⟨_, (false), (by first | rfl | (simp; done) | (simp [*]; done)), H', ⟨by have := HK1.out; first | omega | exact Nat.le_refl _⟩, by repeat (first | exact Drawn0.refl _ | apply Drawn0.step)⟩
     case rest =>
      clear HC4
      try clear c2
      try clear c2b0
      try clear c3
      try clear c3b0
      try clear c5
      try clear c5b0
      try clear c5b1
      try clear c6
      try clear c6b0
      try clear c6b1
      try clear c7
      try clear c7b0
      try clear c9
      try clear c10
      try clear c10b0
      try clear c11
      try clear c11b0
      try clear c13
      try clear c13b0
      try clear c15
      try clear c16
      try clear c16b0
      try clear c17
      try clear c17b0
      try clear hx178_0
      try clear hx178_1
      try clear hx178_2
      try clear hx178_3
      try clear hx178_4
      try clear hx178_5
      try clear hx178_6
      try clear hx180_0
      try clear hx180_1
      try clear hx180_2
      try clear hx180_3
      try clear hx180_4
      try clear hx180_5
      try clear hx180_6
      try clear hx183_0
      try clear hx183_1
      try clear hx183_2
      try clear hx183_3
      try clear hx183_4
      try clear hx183_5
      try clear hx183_6
      try clear p178
      try clear p180
      try clear p183
      try clear q178
      try clear q180
      try clear q183
      obtain ⟨kq, x45_3, rfl, HA, HJ3, ⟨mc3, rfl⟩⟩ := hcut
      cases kq with
      | zero => exact absurd HA.out (by simp [spec_l6Links.j1])
      | succ kj3 =>
       have H := HA.out
       clear HA
       simp only [spec_l6Links.j1] at H
       by_cases c19 : x45_3 = true
       ·subst c19
        have H1 : (some false) = some r := by rw [if_pos rfl] at H; exact H
        clear H
        have H := H1
        clear H1
        obtain rfl := Option.some.inj H
        go_wp2
        go_ret
        exact ⟨by first | rfl | (simp; done) | (simp [*]; done), by repeat (first | exact Drawn0.refl _ | apply Drawn0.step)⟩
       ·replace c19 := Bool.eq_false_iff.mpr c19
        subst c19
        have H1 : (spec_l6Links.l1 kj3 l0 x3_1 0) = some r := by rw [if_neg (show ¬ (false = true) by decide)] at H; exact H
        clear H
        have H := H1
        clear H1
        have H' := Aside0.mk H
        clear H
        go_wp2
        go_loopg [5] kj3 (fun kq v5 w' => ∃ (x5_3 : Int), v5 = .int .i64 x5_3 ∧ Aside0 (spec_l6Links.l1 kq l0 x3_1 x5_3 = some r) ∧ Aside0 (kq ≤ kj3) ∧ Drawn0 w w')
        case atStart => exact ⟨(0), (by first | rfl | (simp; done) | (simp [*]; done)), H', ⟨Nat.le_refl _⟩, by repeat (first | exact Drawn0.refl _ | apply Drawn0.step)⟩
        case round =>
         clear H'
         try clear c2
         try clear c2b0
         try clear c3
         try clear c3b0
         try clear c5
         try clear c5b0
         try clear c5b1
         try clear c6
         try clear c6b0
         try clear c6b1
         try clear c7
         try clear c7b0
         try clear c9
         try clear c10
         try clear c10b0
         try clear c11
         try clear c11b0
         try clear c13
         try clear c13b0
         try clear c15
         try clear c16
         try clear c16b0
         try clear c17
         try clear c17b0
         try clear c19
         try clear hx178_0
         try clear hx178_1
         try clear hx178_2
         try clear hx178_3
         try clear hx178_4
         try clear hx178_5
         try clear hx178_6
         try clear hx180_0
         try clear hx180_1
         try clear hx180_2
         try clear hx180_3
         try clear hx180_4
         try clear hx180_5
         try clear hx180_6
         try clear hx183_0
         try clear hx183_1
         try clear hx183_2
         try clear hx183_3
         try clear hx183_4
         try clear hx183_5
         try clear hx183_6
         try clear p178
         try clear p180
         try clear p183
         try clear q178
         try clear q180
         try clear q183
         obtain ⟨x5_3, rfl, HA, HK3, ⟨m3, rfl⟩⟩ := hrel
         cases gk with
         | zero => exact absurd HA.out (by simp [spec_l6Links.l1])
         | succ k3 =>
          have H := HA.out
          clear HA
          simp only [spec_l6Links.l1] at H
          by_cases c20 : 0 ≤ x3_1
          ·rw [if_pos c20] at H
           have c20b0 : decide (0 ≤ x3_1) = true := decide_eq_true c20
           clear c20
           by_cases c21 : x3_1 < (l0.length : Int)
           ·rw [if_pos c21] at H
            have c21b0 : decide (x3_1 < (l0.length : Int)) = true := decide_eq_true c21
            clear c21
            by_cases c22 : x5_3 < (((rd_T44 l0 x3_1).f6).length : Int)
            ·rw [if_pos c22] at H
             have c22b0 : decide (x5_3 < (((rd_T44 l0 x3_1).f6).length : Int)) = true := decide_eq_true c22
             clear c22
             by_cases c23 : 0 ≤ x5_3
             ·rw [if_pos c23] at H
              have c23b0 : decide (0 ≤ x5_3) = true := decide_eq_true c23
              clear c23
              replace H := Option.bind_eq_some_iff.mp H
              obtain ⟨t188, A240, H⟩ := H
              replace H : (if t188 = true then (if 0 ≤ (rd ((rd_T44 l0 x3_1).f6) x5_3) then (if (rd ((rd_T44 l0 x3_1).f6) x5_3) < (l0.length : Int) then (if ((rd_T44 l0 (rd ((rd_T44 l0 x3_1).f6) x5_3)).f5) = x3_1 then (spec_l6Links.l1 k3 l0 x3_1 (wrap64 (x5_3 + 1))) else (some false)) else (none)) else (none)) else (some false)) = some r := H
              have A24 := Aside0.mk A240
              clear A240
              by_cases c25 : t188 = true
              ·subst c25
               have H1 : (if 0 ≤ (rd ((rd_T44 l0 x3_1).f6) x5_3) then (if (rd ((rd_T44 l0 x3_1).f6) x5_3) < (l0.length : Int) then (if ((rd_T44 l0 (rd ((rd_T44 l0 x3_1).f6) x5_3)).f5) = x3_1 then (spec_l6Links.l1 k3 l0 x3_1 (wrap64 (x5_3 + 1))) else (some false)) else (none)) else (none)) = some r := by rw [if_pos rfl] at H; exact H
               clear H
               have H := H1
               clear H1
               by_cases c26 : 0 ≤ (rd ((rd_T44 l0 x3_1).f6) x5_3)
               ·rw [if_pos c26] at H
                have c26b0 : decide (0 ≤ (rd ((rd_T44 l0 x3_1).f6) x5_3)) = true := decide_eq_true c26
                clear c26
                by_cases c27 : (rd ((rd_T44 l0 x3_1).f6) x5_3) < (l0.length : Int)
                ·rw [if_pos c27] at H
                 have c27b0 : decide ((rd ((rd_T44 l0 x3_1).f6) x5_3) < (l0.length : Int)) = true := decide_eq_true c27
                 clear c27
                 by_cases c28 : ((rd_T44 l0 (rd ((rd_T44 l0 x3_1).f6) x5_3)).f5) = x3_1
                 ·rw [if_pos c28] at H
                  have c28b0 : (((rd_T44 l0 (rd ((rd_T44 l0 x3_1).f6) x5_3)).f5) == x3_1) = true := beq_iff_eq.mpr c28
                  have c28b1 : (((rd_T44 l0 (rd ((rd_T44 l0 x3_1).f6) x5_3)).f5) != x3_1) = false := bne_eq_false_iff_eq.mpr c28
                  clear c28
                  have H' := Aside0.mk H
                  clear H
                  have p185 : 0 ≤ (x3_1 : Int) := dq_ (by assumption)
                  have q185 : x3_1 < (l0.length : Int) := dq_ (by assumption)
                  obtain ⟨ad185, A185_3, c185_3, A185_6, c185_6, e185, hx185_0, hx185_1, hx185_2, hx185_3, hx185_4, hx185_5, hx185_6, hl185_3, hi185_3, hl185_6, hi185_6⟩ := at_T44 HR0.out x3_1 p185 q185
                  obtain rfl : ad178 = ad185 := (by injection e185)
                  have HR185_3 := Aside0.mk hi185_3
                  have HC185_3 := Aside0.mk hl185_3
                  clear hi185_3 hl185_3
                  have HR185_6 := Aside0.mk hi185_6
                  have HC185_6 := Aside0.mk hl185_6
                  clear hi185_6 hl185_6
                  replace p185 := eq_true p185
                  replace q185 := eq_true q185
                  have p186 : 0 ≤ (x3_1 : Int) := dq_ (by assumption)
                  have q186 : x3_1 < (l0.length : Int) := dq_ (by assumption)
                  obtain ⟨ad186, A186_3, c186_3, A186_6, c186_6, e186, hx186_0, hx186_1, hx186_2, hx186_3, hx186_4, hx186_5, hx186_6, hl186_3, hi186_3, hl186_6, hi186_6⟩ := at_T44 HR0.out x3_1 p186 q186
                  obtain rfl : ad178 = ad186 := (by injection e186)
                  have HR186_3 := Aside0.mk hi186_3
                  have HC186_3 := Aside0.mk hl186_3
                  clear hi186_3 hl186_3
                  have HR186_6 := Aside0.mk hi186_6
                  have HC186_6 := Aside0.mk hl186_6
                  clear hi186_6 hl186_6
                  replace p186 := eq_true p186
                  replace q186 := eq_true q186
                  have ea_ := Option.some.inj (hx185_3.symm.trans hx186_3)
                  injection ea_ with ea_ en_ ec_
                  subst ea_
                  subst ec_
                  clear en_
                  have ea_ := Option.some.inj (hx185_6.symm.trans hx186_6)
                  injection ea_ with ea_ en_ ec_
                  subst ea_
                  subst ec_
                  clear en_
                  have p187 : 0 ≤ (x5_3 : Int) := dq_ (by assumption)
                  have q187 : x5_3 < (((rd_T44 l0 x3_1).f6).length : Int) := dq_ (by assumption)
                  obtain ⟨ad187, e187, hx187_0⟩ := Kd.at_int HR186_6.out x5_3 p187 q187
                  cases e187
                  replace p187 := eq_true p187
                  replace q187 := eq_true q187
                  go_wp2_with (first | ((with_reducible refine gate_callee (f := 49) rfl ?_); refine goesL_ (some 68) rfl rfl Try.func49 (by kernel_rfl) rfl #[.int .i64 (rd ((rd_T44 l0 x3_1).f6) x5_3), .int .i64 1, .int .i64 (wrap64 ((l0.length : Int) - 1))] rfl (by (try simp only [List.map_toArray, List.map_cons, List.map_nil]); first | done | rfl | (simp only [List.length_drop, List.length_take]; rfl)) ?_; (with_reducible refine (spec_l1In.calls (rd ((rd_T44 l0 x3_1).f6) x5_3) 1 (wrap64 ((l0.length : Int) - 1)) true _ A24.out).mono ?_); rintro e w' ⟨rfl, ⟨nd, rfl⟩⟩; refine ⟨_, rfl, ?_⟩; have p189 : 0 ≤ ((rd ((rd_T44 l0 x3_1).f6) x5_3) : Int) := dq_ (by assumption); have q189 : (rd ((rd_T44 l0 x3_1).f6) x5_3) < (l0.length : Int) := dq_ (by assumption); obtain ⟨ad189, A189_3, c189_3, A189_6, c189_6, e189, hx189_0, hx189_1, hx189_2, hx189_3, hx189_4, hx189_5, hx189_6, hl189_3, hi189_3, hl189_6, hi189_6⟩ := at_T44 HR0.out (rd ((rd_T44 l0 x3_1).f6) x5_3) p189 q189; obtain rfl : ad178 = ad189 := (by injection e189); have HR189_3 := Aside0.mk hi189_3; have HC189_3 := Aside0.mk hl189_3; clear hi189_3 hl189_3; have HR189_6 := Aside0.mk hi189_6; have HC189_6 := Aside0.mk hl189_6; clear hi189_6 hl189_6; replace p189 := eq_true p189; replace q189 := eq_true q189))
                  go_roundg k3
                  case measure => have := HK1.out; have := HJ3.out; have := HK3.out; omega
                  case rel => exact ⟨(wrap64 (x5_3 + 1)), (by first | rfl | (simp; done) | (simp [*]; done)), H', ⟨by have := HK1.out; have := HJ3.out; have := HK3.out; omega⟩, by repeat (first | exact Drawn0.refl _ | apply Drawn0.step)⟩
                 ·rw [if_neg c28] at H
                  have c28b0 : (((rd_T44 l0 (rd ((rd_T44 l0 x3_1).f6) x5_3)).f5) == x3_1) = false := beq_eq_false_iff_ne.mpr c28
                  have c28b1 : (((rd_T44 l0 (rd ((rd_T44 l0 x3_1).f6) x5_3)).f5) != x3_1) = true := bne_iff_ne.mpr c28
                  obtain rfl := Option.some.inj H
                  have p185 : 0 ≤ (x3_1 : Int) := dq_ (by assumption)
                  have q185 : x3_1 < (l0.length : Int) := dq_ (by assumption)
                  obtain ⟨ad185, A185_3, c185_3, A185_6, c185_6, e185, hx185_0, hx185_1, hx185_2, hx185_3, hx185_4, hx185_5, hx185_6, hl185_3, hi185_3, hl185_6, hi185_6⟩ := at_T44 HR0.out x3_1 p185 q185
                  obtain rfl : ad178 = ad185 := (by injection e185)
                  have HR185_3 := Aside0.mk hi185_3
                  have HC185_3 := Aside0.mk hl185_3
                  clear hi185_3 hl185_3
                  have HR185_6 := Aside0.mk hi185_6
                  have HC185_6 := Aside0.mk hl185_6
                  clear hi185_6 hl185_6
                  replace p185 := eq_true p185
                  replace q185 := eq_true q185
                  have p186 : 0 ≤ (x3_1 : Int) := dq_ (by assumption)
                  have q186 : x3_1 < (l0.length : Int) := dq_ (by assumption)
                  obtain ⟨ad186, A186_3, c186_3, A186_6, c186_6, e186, hx186_0, hx186_1, hx186_2, hx186_3, hx186_4, hx186_5, hx186_6, hl186_3, hi186_3, hl186_6, hi186_6⟩ := at_T44 HR0.out x3_1 p186 q186
                  obtain rfl : ad178 = ad186 := (by injection e186)
                  have HR186_3 := Aside0.mk hi186_3
                  have HC186_3 := Aside0.mk hl186_3
                  clear hi186_3 hl186_3
                  have HR186_6 := Aside0.mk hi186_6
                  have HC186_6 := Aside0.mk hl186_6
                  clear hi186_6 hl186_6
                  replace p186 := eq_true p186
                  replace q186 := eq_true q186
                  have ea_ := Option.some.inj (hx185_3.symm.trans hx186_3)
                  injection ea_ with ea_ en_ ec_
                  subst ea_
                  subst ec_
                  clear en_
                  have ea_ := Option.some.inj (hx185_6.symm.trans hx186_6)
                  injection ea_ with ea_ en_ ec_
                  subst ea_
                  subst ec_
                  clear en_
                  have p187 : 0 ≤ (x5_3 : Int) := dq_ (by assumption)
                  have q187 : x5_3 < (((rd_T44 l0 x3_1).f6).length : Int) := dq_ (by assumption)
                  obtain ⟨ad187, e187, hx187_0⟩ := Kd.at_int HR186_6.out x5_3 p187 q187
                  cases e187
                  replace p187 := eq_true p187
                  replace q187 := eq_true q187
                  go_wp2_with (first | ((with_reducible refine gate_callee (f := 49) rfl ?_); refine goesL_ (some 68) rfl rfl Try.func49 (by kernel_rfl) rfl #[.int .i64 (rd ((rd_T44 l0 x3_1).f6) x5_3), .int .i64 1, .int .i64 (wrap64 ((l0.length : Int) - 1))] rfl (by (try simp only [List.map_toArray, List.map_cons, List.map_nil]); first | done | rfl | (simp only [List.length_drop, List.length_take]; rfl)) ?_; (with_reducible refine (spec_l1In.calls (rd ((rd_T44 l0 x3_1).f6) x5_3) 1 (wrap64 ((l0.length : Int) - 1)) true _ A24.out).mono ?_); rintro e w' ⟨rfl, ⟨nd, rfl⟩⟩; refine ⟨_, rfl, ?_⟩; have p189 : 0 ≤ ((rd ((rd_T44 l0 x3_1).f6) x5_3) : Int) := dq_ (by assumption); have q189 : (rd ((rd_T44 l0 x3_1).f6) x5_3) < (l0.length : Int) := dq_ (by assumption); obtain ⟨ad189, A189_3, c189_3, A189_6, c189_6, e189, hx189_0, hx189_1, hx189_2, hx189_3, hx189_4, hx189_5, hx189_6, hl189_3, hi189_3, hl189_6, hi189_6⟩ := at_T44 HR0.out (rd ((rd_T44 l0 x3_1).f6) x5_3) p189 q189; obtain rfl : ad178 = ad189 := (by injection e189); have HR189_3 := Aside0.mk hi189_3; have HC189_3 := Aside0.mk hl189_3; clear hi189_3 hl189_3; have HR189_6 := Aside0.mk hi189_6; have HC189_6 := Aside0.mk hl189_6; clear hi189_6 hl189_6; replace p189 := eq_true p189; replace q189 := eq_true q189))
                  go_ret
                  exact ⟨by first | rfl | (simp; done) | (simp [*]; done), by repeat (first | exact Drawn0.refl _ | apply Drawn0.step)⟩
                ·rw [if_neg c27] at H
                 exact absurd H (by simp)
               ·rw [if_neg c26] at H
                exact absurd H (by simp)
              ·replace c25 := Bool.eq_false_iff.mpr c25
               subst c25
               have H1 : (some false) = some r := by rw [if_neg (show ¬ (false = true) by decide)] at H; exact H
               clear H
               have H := H1
               clear H1
               obtain rfl := Option.some.inj H
               have p185 : 0 ≤ (x3_1 : Int) := dq_ (by assumption)
               have q185 : x3_1 < (l0.length : Int) := dq_ (by assumption)
               obtain ⟨ad185, A185_3, c185_3, A185_6, c185_6, e185, hx185_0, hx185_1, hx185_2, hx185_3, hx185_4, hx185_5, hx185_6, hl185_3, hi185_3, hl185_6, hi185_6⟩ := at_T44 HR0.out x3_1 p185 q185
               obtain rfl : ad178 = ad185 := (by injection e185)
               have HR185_3 := Aside0.mk hi185_3
               have HC185_3 := Aside0.mk hl185_3
               clear hi185_3 hl185_3
               have HR185_6 := Aside0.mk hi185_6
               have HC185_6 := Aside0.mk hl185_6
               clear hi185_6 hl185_6
               replace p185 := eq_true p185
               replace q185 := eq_true q185
               have p186 : 0 ≤ (x3_1 : Int) := dq_ (by assumption)
               have q186 : x3_1 < (l0.length : Int) := dq_ (by assumption)
               obtain ⟨ad186, A186_3, c186_3, A186_6, c186_6, e186, hx186_0, hx186_1, hx186_2, hx186_3, hx186_4, hx186_5, hx186_6, hl186_3, hi186_3, hl186_6, hi186_6⟩ := at_T44 HR0.out x3_1 p186 q186
               obtain rfl : ad178 = ad186 := (by injection e186)
               have HR186_3 := Aside0.mk hi186_3
               have HC186_3 := Aside0.mk hl186_3
               clear hi186_3 hl186_3
               have HR186_6 := Aside0.mk hi186_6
               have HC186_6 := Aside0.mk hl186_6
               clear hi186_6 hl186_6
               replace p186 := eq_true p186
               replace q186 := eq_true q186
               have ea_ := Option.some.inj (hx185_3.symm.trans hx186_3)
               injection ea_ with ea_ en_ ec_
               subst ea_
               subst ec_
               clear en_
               have ea_ := Option.some.inj (hx185_6.symm.trans hx186_6)
               injection ea_ with ea_ en_ ec_
               subst ea_
               subst ec_
               clear en_
               have p187 : 0 ≤ (x5_3 : Int) := dq_ (by assumption)
               have q187 : x5_3 < (((rd_T44 l0 x3_1).f6).length : Int) := dq_ (by assumption)
               obtain ⟨ad187, e187, hx187_0⟩ := Kd.at_int HR186_6.out x5_3 p187 q187
               cases e187
               replace p187 := eq_true p187
               replace q187 := eq_true q187
               go_wp2_with (first | ((with_reducible refine gate_callee (f := 49) rfl ?_); refine goesL_ (some 68) rfl rfl Try.func49 (by kernel_rfl) rfl #[.int .i64 (rd ((rd_T44 l0 x3_1).f6) x5_3), .int .i64 1, .int .i64 (wrap64 ((l0.length : Int) - 1))] rfl (by (try simp only [List.map_toArray, List.map_cons, List.map_nil]); first | done | rfl | (simp only [List.length_drop, List.length_take]; rfl)) ?_; (with_reducible refine (spec_l1In.calls (rd ((rd_T44 l0 x3_1).f6) x5_3) 1 (wrap64 ((l0.length : Int) - 1)) false _ A24.out).mono ?_); rintro e w' ⟨rfl, ⟨nd, rfl⟩⟩; refine ⟨_, rfl, ?_⟩))
               go_ret
               exact ⟨by first | rfl | (simp; done) | (simp [*]; done), by repeat (first | exact Drawn0.refl _ | apply Drawn0.step)⟩
             ·rw [if_neg c23] at H
              exact absurd H (by simp)
            ·rw [if_neg c22] at H
             have c22b0 : decide (x5_3 < (((rd_T44 l0 x3_1).f6).length : Int)) = false := decide_eq_false c22
             clear c22
             have H' := Aside0.mk H
             clear H
             have p185 : 0 ≤ (x3_1 : Int) := dq_ (by assumption)
             have q185 : x3_1 < (l0.length : Int) := dq_ (by assumption)
             obtain ⟨ad185, A185_3, c185_3, A185_6, c185_6, e185, hx185_0, hx185_1, hx185_2, hx185_3, hx185_4, hx185_5, hx185_6, hl185_3, hi185_3, hl185_6, hi185_6⟩ := at_T44 HR0.out x3_1 p185 q185
             obtain rfl : ad178 = ad185 := (by injection e185)
             have HR185_3 := Aside0.mk hi185_3
             have HC185_3 := Aside0.mk hl185_3
             clear hi185_3 hl185_3
             have HR185_6 := Aside0.mk hi185_6
             have HC185_6 := Aside0.mk hl185_6
             clear hi185_6 hl185_6
             replace p185 := eq_true p185
             replace q185 := eq_true q185
             go_wp2
             go_roundg k3
             case measure => have := HK1.out; have := HJ3.out; have := HK3.out; omega
             case rel => exact ⟨(wrap64 (x3_1 + 1)), (by first | rfl | (simp; done) | (simp [*]; done)), H', ⟨by have := HK1.out; have := HJ3.out; have := HK3.out; omega⟩, by repeat (first | exact Drawn0.refl _ | apply Drawn0.step)⟩
           ·rw [if_neg c21] at H
            exact absurd H (by simp)
          ·rw [if_neg c20] at H
           exact absurd H (by simp)
    ·rw [if_neg c3] at H
     exact absurd H (by simp)
   ·rw [if_neg c2] at H
    have c2b0 : decide (x3_1 < (l0.length : Int)) = false := decide_eq_false c2
    clear c2
    obtain rfl := Option.some.inj H
    go_wp2
    go_ret
    exact ⟨by first | rfl | (simp; done) | (simp [*]; done), by repeat (first | exact Drawn0.refl _ | apply Drawn0.step)⟩
end Go.Proofs.Ytbgedpicfllclaa.PFnExactAdd
