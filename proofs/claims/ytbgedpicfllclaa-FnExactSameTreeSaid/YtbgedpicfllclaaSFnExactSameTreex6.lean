-- Written by this session's program wip/slim.py: the print's texts (with contracts of our own), only what this row needs, shortened. Lean checks it.
import Derived.Test.YtbgedpicfllclaaSFnExactSameTreex0
import Derived.Test.YtbgedpicfllclaaSFnExactSameTreex4
import Derived.Test.YtbgedpicfllclaaSFnExactSameTreex5
namespace Go.Proofs.Ytbgedpicfllclaa.PFnExactSameTree
open Go.RowKit Go.Proofs.YtbgedpicfllclaaW.PrintWords Go.Proofs.YtbgedpicfllclaaW.PrintLast Go.Proofs.YtbgedpicfllclaaW.PrintMore
attribute [local go_sem] max2_int min2_int max_two min_two max_three min_three max_four min_four
set_option linter.unusedVariables false
set_option linter.unusedSimpArgs false
def spec_l6Count.l0 : Nat → List Int → Int → Int → Int → Option (Int)
 | 0, _, _, _, _ => none
 | k + 1, x0, x1, x5, x6 => if x6 < (x0.length : Int) then (if 0 ≤ x6 then ((spec_l1Bit.f ((rd x0 x6) == x1)).bind fun t173 => (spec_l6Count.l0 k x0 x1 (wrap64 (x5 + t173)) (wrap64 (x6 + 1)))) else (none)) else (some x5)
def spec_l6Count.f (k : Nat) (l0 : List Int) (a1 : Int) : Option (Int) := spec_l6Count.l0 k l0 a1 0 0
theorem spec_l6Count.mono_l : ∀ k, (∀ y0 y1 y2 y3, LeO (spec_l6Count.l0 k y0 y1 y2 y3) (spec_l6Count.l0 (k + 1) y0 y1 y2 y3))
 | 0 => fun _ _ _ _ r h => by simp [spec_l6Count.l0] at h
 | k + 1 => by
  have ih0 := spec_l6Count.mono_l k
  ·intro y0 y1 y2 y3
   unfold spec_l6Count.l0
   repeat' first
   | (with_reducible exact ih0 _ _ _ _)
   | (with_reducible exact LeO.refl _)
   | (with_reducible exact LeO.none _)
   | (with_reducible refine LeO.ite ?_ ?_)
   | (with_reducible refine LeO.bind ?_ (fun _ => ?_))
theorem spec_l6Count.mono : ∀ a0 a1 k, LeO (spec_l6Count.f k a0 a1) (spec_l6Count.f (k + 1) a0 a1) := by
 intro a0 a1 k
 have ih0 := spec_l6Count.mono_l k
 unfold spec_l6Count.f
 repeat' first
   | (with_reducible exact ih0 _ _ _ _)
   | (with_reducible exact LeO.refl _)
   | (with_reducible exact LeO.none _)
   | (with_reducible refine LeO.ite ?_ ?_)
   | (with_reducible refine LeO.bind ?_ (fun _ => ?_))
set_option maxHeartbeats 8000000 in
set_option maxRecDepth 100000 in
theorem spec_l6Count.calls (k : Nat) (A0 : Option Addr) (c0 : Nat) (l0 : List Int) (a1 : Int) (r : Int) (w : World) (hr0 : Kd.C (Kd.int .i64) w A0 l0.length l0) (hc0 : l0.length ≤ c0) (h : spec_l6Count.f k l0 a1 = some r) :
  Calls Try.prog 41 #[.slice A0 l0.length c0, .int .i64 a1] w fun e w' => e = .returned (.int .i64 r) ∧ Drawn0 w w' := by
 have HR0 := Aside0.mk hr0
 have HC0 := Aside0.mk hc0
 clear hr0 hc0
 have H : (spec_l6Count.l0 k l0 a1 0 0) = some r := h
 clear h
 have H' := Aside0.mk H
 clear H
 go_enter Try.func41, Try.ntmps41
 go_wp2
 go_loopg [5, 6] k (fun kq v5 v6 w' => ∃ (x5_1 : Int) (x6_1 : Int), v5 = .int .i64 x5_1 ∧ v6 = .int .i64 x6_1 ∧ Aside0 (spec_l6Count.l0 kq l0 a1 x5_1 x6_1 = some r) ∧ Aside0 (kq ≤ k) ∧ Drawn0 w w')
 case atStart => exact ⟨(0), (0), (by first | rfl | (simp; done) | (simp [*]; done)), (by first | rfl | (simp; done) | (simp [*]; done)), H', ⟨Nat.le_refl _⟩, by repeat (first | exact Drawn0.refl _ | apply Drawn0.step)⟩
 case round =>
  clear H'
  try clear p2
  obtain ⟨x5_1, x6_1, rfl, rfl, HA, HK1, ⟨m1, rfl⟩⟩ := hrel
  cases gk with
  | zero => exact absurd HA.out (by simp [spec_l6Count.l0])
  | succ k1 =>
   have H := HA.out
   clear HA
   simp only [spec_l6Count.l0] at H
   by_cases c3 : x6_1 < (l0.length : Int)
   ·rw [if_pos c3] at H
    have c3b0 : decide (x6_1 < (l0.length : Int)) = true := decide_eq_true c3
    clear c3
    by_cases c4 : 0 ≤ x6_1
    ·rw [if_pos c4] at H
     have c4b0 : decide (0 ≤ x6_1) = true := decide_eq_true c4
     clear c4
     replace H := Option.bind_eq_some_iff.mp H
     obtain ⟨t173, A50, H⟩ := H
     replace H : (spec_l6Count.l0 k1 l0 a1 (wrap64 (x5_1 + t173)) (wrap64 (x6_1 + 1))) = some r := H
     have A5 := Aside0.mk A50
     clear A50
     have H' := Aside0.mk H
     clear H
     have p172 : 0 ≤ (x6_1 : Int) := of_decide_eq_true (by first | (with_reducible assumption) | assumption)
     have q172 : x6_1 < (l0.length : Int) := of_decide_eq_true (by first | (with_reducible assumption) | assumption)
     obtain ⟨ad172, e172, hx172_0⟩ := Kd.at_int HR0.out x6_1 p172 q172
     cases e172
     replace p172 := eq_true p172
     replace q172 := eq_true q172
     go_wp2_with (first | ((with_reducible refine gate_callee (f := 72) rfl ?_); refine goesL_ (some 20) rfl rfl Try.func72 (by kernel_rfl) rfl #[.bool ((rd l0 x6_1) == a1)] rfl (by (try simp only [List.map_toArray, List.map_cons, List.map_nil]); first | done | rfl | (simp only [List.length_drop, List.length_take]; rfl)) ?_; (with_reducible refine (spec_l1Bit.calls ((rd l0 x6_1) == a1) t173 _ A5.out).mono ?_); rintro e w' ⟨rfl, ⟨nd, rfl⟩⟩; refine ⟨_, rfl, ?_⟩))
     go_roundg k1
     case measure => have := HK1.out; omega
     case rel => exact ⟨(wrap64 (x5_1 + t173)), (wrap64 (x6_1 + 1)), (by first | rfl | (simp; done) | (simp [*]; done)), (by first | rfl | (simp; done) | (simp [*]; done)), H', ⟨by have := HK1.out; omega⟩, by repeat (first | exact Drawn0.refl _ | apply Drawn0.step)⟩
    ·rw [if_neg c4] at H
     exact absurd H (by simp)
   ·rw [if_neg c3] at H
    have c3b0 : decide (x6_1 < (l0.length : Int)) = false := decide_eq_false c3
    clear c3
    obtain rfl := Option.some.inj H
    go_wp2
    go_ret
    exact ⟨by first | rfl | (simp; done) | (simp [*]; done), by repeat (first | exact Drawn0.refl _ | apply Drawn0.step)⟩
mutual
def spec_l6Links.l0 : Nat → List (S44) → Int → Option (Bool)
 | 0, _, _ => none
 | k + 1, x0, x3 => if x3 < (x0.length : Int) then (if 0 ≤ x3 then (if x3 = 0 then (if ((rd_T44 x0 x3).f5) = (-1) then (if x3 > 0 then ((spec_l1In.f ((rd_T44 x0 x3).f5) 0 (wrap64 ((x0.length : Int) - 1))).bind fun t175 => (if t175 = true then (if 0 ≤ ((rd_T44 x0 x3).f5) then (if ((rd_T44 x0 x3).f5) < (x0.length : Int) then ((spec_l6Count.f k ((rd_T44 x0 ((rd_T44 x0 x3).f5)).f6) x3).bind fun t177 => (spec_l6Links.j1 k x0 x3 (t177 != 1))) else (none)) else (none)) else (spec_l6Links.j1 k x0 x3 true))) else (spec_l6Links.j1 k x0 x3 false)) else (spec_l6Links.j1 k x0 x3 true)) else (if x3 > 0 then ((spec_l1In.f ((rd_T44 x0 x3).f5) 0 (wrap64 ((x0.length : Int) - 1))).bind fun t178 => (if t178 = true then (if 0 ≤ ((rd_T44 x0 x3).f5) then (if ((rd_T44 x0 x3).f5) < (x0.length : Int) then ((spec_l6Count.f k ((rd_T44 x0 ((rd_T44 x0 x3).f5)).f6) x3).bind fun t180 => (spec_l6Links.j1 k x0 x3 (t180 != 1))) else (none)) else (none)) else (spec_l6Links.j1 k x0 x3 true))) else (spec_l6Links.j1 k x0 x3 false))) else (none)) else (some true)
def spec_l6Links.j1 : Nat → List (S44) → Int → Bool → Option (Bool)
 | 0, _, _, _ => none
 | k + 1, x0, x3, x45 => if x45 = true then (some false) else (spec_l6Links.l1 k x0 x3 0)
def spec_l6Links.l1 : Nat → List (S44) → Int → Int → Option (Bool)
 | 0, _, _, _ => none
 | k + 1, x0, x3, x5 => if 0 ≤ x3 then (if x3 < (x0.length : Int) then (if x5 < (((rd_T44 x0 x3).f6).length : Int) then (if 0 ≤ x5 then ((spec_l1In.f (rd ((rd_T44 x0 x3).f6) x5) 1 (wrap64 ((x0.length : Int) - 1))).bind fun t184 => (if t184 = true then (if 0 ≤ (rd ((rd_T44 x0 x3).f6) x5) then (if (rd ((rd_T44 x0 x3).f6) x5) < (x0.length : Int) then (if ((rd_T44 x0 (rd ((rd_T44 x0 x3).f6) x5)).f5) = x3 then (spec_l6Links.l1 k x0 x3 (wrap64 (x5 + 1))) else (some false)) else (none)) else (none)) else (some false))) else (none)) else (spec_l6Links.l0 k x0 (wrap64 (x3 + 1)))) else (none)) else (none)
end
def spec_l6Links.f (k : Nat) (l0 : List (S44)) : Option (Bool) := spec_l6Links.l0 k l0 0
theorem spec_l6Links.mono_l : ∀ k, (∀ y0 y1, LeO (spec_l6Links.l0 k y0 y1) (spec_l6Links.l0 (k + 1) y0 y1)) ∧ (∀ y0 y1 y2, LeO (spec_l6Links.j1 k y0 y1 y2) (spec_l6Links.j1 (k + 1) y0 y1 y2)) ∧ (∀ y0 y1 y2, LeO (spec_l6Links.l1 k y0 y1 y2) (spec_l6Links.l1 (k + 1) y0 y1 y2))
 | 0 => ⟨fun _ _ r h => by simp [spec_l6Links.l0] at h, fun _ _ _ r h => by simp [spec_l6Links.j1] at h, fun _ _ _ r h => by simp [spec_l6Links.l1] at h⟩
 | k + 1 => by
  obtain ⟨ih0, ih1, ih2⟩ := spec_l6Links.mono_l k
  refine ⟨?_, ?_, ?_⟩
  ·intro y0 y1
   unfold spec_l6Links.l0
   repeat' first
   | (with_reducible exact ih0 _ _)
   | (with_reducible exact ih1 _ _ _)
   | (with_reducible exact ih2 _ _ _)
   | (with_reducible exact spec_l6Count.mono _ _ _)
   | (with_reducible exact LeO.refl _)
   | (with_reducible exact LeO.none _)
   | (with_reducible refine LeO.ite ?_ ?_)
   | (with_reducible refine LeO.bind ?_ (fun _ => ?_))
  ·intro y0 y1 y2
   unfold spec_l6Links.j1
   repeat' first
   | (with_reducible exact ih0 _ _)
   | (with_reducible exact ih1 _ _ _)
   | (with_reducible exact ih2 _ _ _)
   | (with_reducible exact spec_l6Count.mono _ _ _)
   | (with_reducible exact LeO.refl _)
   | (with_reducible exact LeO.none _)
   | (with_reducible refine LeO.ite ?_ ?_)
   | (with_reducible refine LeO.bind ?_ (fun _ => ?_))
  ·intro y0 y1 y2
   unfold spec_l6Links.l1
   repeat' first
   | (with_reducible exact ih0 _ _)
   | (with_reducible exact ih1 _ _ _)
   | (with_reducible exact ih2 _ _ _)
   | (with_reducible exact spec_l6Count.mono _ _ _)
   | (with_reducible exact LeO.refl _)
   | (with_reducible exact LeO.none _)
   | (with_reducible refine LeO.ite ?_ ?_)
   | (with_reducible refine LeO.bind ?_ (fun _ => ?_))
theorem spec_l6Links.mono : ∀ a0 k, LeO (spec_l6Links.f k a0) (spec_l6Links.f (k + 1) a0) := by
 intro a0 k
 obtain ⟨ih0, ih1, ih2⟩ := spec_l6Links.mono_l k
 unfold spec_l6Links.f
 repeat' first
   | (with_reducible exact ih0 _ _)
   | (with_reducible exact ih1 _ _ _)
   | (with_reducible exact ih2 _ _ _)
   | (with_reducible exact spec_l6Count.mono _ _ _)
   | (with_reducible exact LeO.refl _)
   | (with_reducible exact LeO.none _)
   | (with_reducible refine LeO.ite ?_ ?_)
   | (with_reducible refine LeO.bind ?_ (fun _ => ?_))
set_option maxHeartbeats 8000000 in
set_option maxRecDepth 100000 in
theorem spec_l6Links.calls (k : Nat) (A0 : Option Addr) (c0 : Nat) (l0 : List (S44)) (r : Bool) (w : World) (hr0 : Kd.C k44 w A0 l0.length l0) (hc0 : l0.length ≤ c0) (h : spec_l6Links.f k l0 = some r) :
  Calls Try.prog 63 #[.slice A0 l0.length c0] w fun e w' => e = .returned (.bool r) ∧ Drawn0 w w' := by
 have HR0 := Aside0.mk hr0
 have HC0 := Aside0.mk hc0
 clear hr0 hc0
 have H : (spec_l6Links.l0 k l0 0) = some r := h
 clear h
 have H' := Aside0.mk H
 clear H
 go_enter Try.func63, Try.ntmps63
 go_wp2
 go_loopg [3] k (fun kq v3 w' => ∃ (x3_1 : Int), v3 = .int .i64 x3_1 ∧ Aside0 (spec_l6Links.l0 kq l0 x3_1 = some r) ∧ Aside0 (kq ≤ k) ∧ Drawn0 w w')
 case atStart => exact ⟨(0), (by first | rfl | (simp; done) | (simp [*]; done)), H', ⟨Nat.le_refl _⟩, by repeat (first | exact Drawn0.refl _ | apply Drawn0.step)⟩
 case round =>
  clear H'
  obtain ⟨x3_1, rfl, HA, HK1, ⟨m1, rfl⟩⟩ := hrel
  cases gk with
  | zero => exact absurd HA.out (by simp [spec_l6Links.l0])
  | succ k1 =>
   have H := HA.out
   clear HA
   simp only [spec_l6Links.l0] at H
   by_cases c2 : x3_1 < (l0.length : Int)
   ·rw [if_pos c2] at H
    have c2b0 : decide (x3_1 < (l0.length : Int)) = true := decide_eq_true c2
    clear c2
    by_cases c3 : 0 ≤ x3_1
    ·rw [if_pos c3] at H
     have c3b0 : decide (0 ≤ x3_1) = true := decide_eq_true c3
     clear c3
     have HC4 := Aside0.mk H
     clear H
     have p174 : 0 ≤ (x3_1 : Int) := of_decide_eq_true (by first | (with_reducible assumption) | assumption)
     have q174 : x3_1 < (l0.length : Int) := of_decide_eq_true (by first | (with_reducible assumption) | assumption)
     obtain ⟨ad174, A174_3, c174_3, A174_6, c174_6, e174, hx174_0, hx174_1, hx174_2, hx174_3, hx174_4, hx174_5, hx174_6, hl174_3, hi174_3, hl174_6, hi174_6⟩ := at_T44 HR0.out x3_1 p174 q174
     cases e174
     have HR174_3 := Aside0.mk hi174_3
     have HC174_3 := Aside0.mk hl174_3
     clear hi174_3 hl174_3
     have HR174_6 := Aside0.mk hi174_6
     have HC174_6 := Aside0.mk hl174_6
     clear hi174_6 hl174_6
     replace p174 := eq_true p174
     replace q174 := eq_true q174
     go_upto_region 5 with (fail)
     go_cut [45] (fun v45 wc => ∃ (kq : Nat) (x45_3 : Bool), v45 = .bool x45_3 ∧ Aside0 (spec_l6Links.j1 kq l0 x3_1 x45_3 = some r) ∧ Aside0 (kq ≤ k1) ∧ Drawn0 w wc)
     case first =>
      have H := HC4.out
      clear HC4
      by_cases c5 : x3_1 = 0
      ·rw [if_pos c5] at H
       have c5b0 : (x3_1 == 0) = true := beq_iff_eq.mpr c5
       have c5b1 : (x3_1 != 0) = false := bne_eq_false_iff_eq.mpr c5
       clear c5
       (first | rw [c5b0] | (simp only [i64_w, i32_w]; rw [c5b0]) | skip)
       by_cases c6 : ((rd_T44 l0 x3_1).f5) = (-1)
       ·rw [if_pos c6] at H
        have c6b0 : (((rd_T44 l0 x3_1).f5) == (-1)) = true := beq_iff_eq.mpr c6
        have c6b1 : (((rd_T44 l0 x3_1).f5) != (-1)) = false := bne_eq_false_iff_eq.mpr c6
        clear c6
        by_cases c7 : x3_1 > 0
        ·rw [if_pos c7] at H
         have c7b0 : decide (0 < x3_1) = true := decide_eq_true c7
         clear c7
         replace H := Option.bind_eq_some_iff.mp H
         obtain ⟨t175, A80, H⟩ := H
         replace H : (if t175 = true then (if 0 ≤ ((rd_T44 l0 x3_1).f5) then (if ((rd_T44 l0 x3_1).f5) < (l0.length : Int) then ((spec_l6Count.f k1 ((rd_T44 l0 ((rd_T44 l0 x3_1).f5)).f6) x3_1).bind fun t177 => (spec_l6Links.j1 k1 l0 x3_1 (t177 != 1))) else (none)) else (none)) else (spec_l6Links.j1 k1 l0 x3_1 true)) = some r := H
         have A8 := Aside0.mk A80
         clear A80
         by_cases c9 : t175 = true
         ·subst c9
          have H1 : (if 0 ≤ ((rd_T44 l0 x3_1).f5) then (if ((rd_T44 l0 x3_1).f5) < (l0.length : Int) then ((spec_l6Count.f k1 ((rd_T44 l0 ((rd_T44 l0 x3_1).f5)).f6) x3_1).bind fun t177 => (spec_l6Links.j1 k1 l0 x3_1 (t177 != 1))) else (none)) else (none)) = some r := by rw [if_pos rfl] at H; exact H
          clear H
          have H := H1
          clear H1
          by_cases c10 : 0 ≤ ((rd_T44 l0 x3_1).f5)
          ·rw [if_pos c10] at H
           have c10b0 : decide (0 ≤ ((rd_T44 l0 x3_1).f5)) = true := decide_eq_true c10
           clear c10
           by_cases c11 : ((rd_T44 l0 x3_1).f5) < (l0.length : Int)
           ·rw [if_pos c11] at H
            have c11b0 : decide (((rd_T44 l0 x3_1).f5) < (l0.length : Int)) = true := decide_eq_true c11
            clear c11
            replace H := Option.bind_eq_some_iff.mp H
            obtain ⟨t177, A120, H⟩ := H
            replace H : (spec_l6Links.j1 k1 l0 x3_1 (t177 != 1)) = some r := H
            have A12 := Aside0.mk A120
            clear A120
            have H' := Aside0.mk H
            clear H
            go_wp2_with (first | (go_at_call 49; (with_reducible refine (spec_l1In.calls ((rd_T44 l0 x3_1).f5) 0 (wrap64 ((l0.length : Int) - 1)) true _ A8.out).mono ?_); rintro e w' ⟨rfl, ⟨nd, rfl⟩⟩; have p176 : 0 ≤ (((rd_T44 l0 x3_1).f5) : Int) := of_decide_eq_true (by first | (with_reducible assumption) | assumption); have q176 : ((rd_T44 l0 x3_1).f5) < (l0.length : Int) := of_decide_eq_true (by first | (with_reducible assumption) | assumption); obtain ⟨ad176, A176_3, c176_3, A176_6, c176_6, e176, hx176_0, hx176_1, hx176_2, hx176_3, hx176_4, hx176_5, hx176_6, hl176_3, hi176_3, hl176_6, hi176_6⟩ := at_T44 HR0.out ((rd_T44 l0 x3_1).f5) p176 q176; obtain rfl : ad174 = ad176 := (by injection e176); have HR176_3 := Aside0.mk hi176_3; have HC176_3 := Aside0.mk hl176_3; clear hi176_3 hl176_3; have HR176_6 := Aside0.mk hi176_6; have HC176_6 := Aside0.mk hl176_6; clear hi176_6 hl176_6; replace p176 := eq_true p176; replace q176 := eq_true q176) | (go_at_call 41; (with_reducible refine (spec_l6Count.calls k1 _ _ ((rd_T44 l0 ((rd_T44 l0 x3_1).f5)).f6) x3_1 t177 _ ?side1 ?side2 A12.out).mono ?_); (case side1 => repeat (first | exact HR176_6.out | (with_reducible refine ca_ ?_ _) | (with_reducible refine cn_ ?_ _) | (with_reducible refine cd_ ?_))); (case side2 => exact HC176_6.out); rintro e w' ⟨rfl, ⟨nd, rfl⟩⟩))
            go_meet
            case rel => exact ⟨_, ((t177 != 1)), (by first | rfl | (simp; done) | (simp [*]; done)), H', ⟨by have := HK1.out; first | omega | exact Nat.le_refl _⟩, by repeat (first | exact Drawn0.refl _ | apply Drawn0.step)⟩
           ·rw [if_neg c11] at H
            exact absurd H (by simp)
          ·rw [if_neg c10] at H
           exact absurd H (by simp)
         ·replace c9 := Bool.eq_false_iff.mpr c9
          subst c9
          have H1 : (spec_l6Links.j1 k1 l0 x3_1 true) = some r := by rw [if_neg (show ¬ (false = true) by decide)] at H; exact H
          clear H
          have H := H1
          clear H1
          have H' := Aside0.mk H
          clear H
          go_wp2_with (first | (go_at_call 49; (with_reducible refine (spec_l1In.calls ((rd_T44 l0 x3_1).f5) 0 (wrap64 ((l0.length : Int) - 1)) false _ A8.out).mono ?_); rintro e w' ⟨rfl, ⟨nd, rfl⟩⟩))
          go_meet
          case rel => exact ⟨_, (true), (by first | rfl | (simp; done) | (simp [*]; done)), H', ⟨by have := HK1.out; first | omega | exact Nat.le_refl _⟩, by repeat (first | exact Drawn0.refl _ | apply Drawn0.step)⟩
        ·rw [if_neg c7] at H
         have c7b0 : decide (0 < x3_1) = false := decide_eq_false c7
         clear c7
         have H' := Aside0.mk H
         clear H
         go_wp2
         go_meet
         case rel => exact ⟨_, (false), (by first | rfl | (simp; done) | (simp [*]; done)), H', ⟨by have := HK1.out; first | omega | exact Nat.le_refl _⟩, by repeat (first | exact Drawn0.refl _ | apply Drawn0.step)⟩
       ·rw [if_neg c6] at H
        have c6b0 : (((rd_T44 l0 x3_1).f5) == (-1)) = false := beq_eq_false_iff_ne.mpr c6
        have c6b1 : (((rd_T44 l0 x3_1).f5) != (-1)) = true := bne_iff_ne.mpr c6
        have H' := Aside0.mk H
        clear H
        go_wp2
        go_meet
        case rel => exact ⟨_, (true), (by first | rfl | (simp; done) | (simp [*]; done)), H', ⟨by have := HK1.out; first | omega | exact Nat.le_refl _⟩, by repeat (first | exact Drawn0.refl _ | apply Drawn0.step)⟩
      ·rw [if_neg c5] at H
       have c5b0 : (x3_1 == 0) = false := beq_eq_false_iff_ne.mpr c5
       have c5b1 : (x3_1 != 0) = true := bne_iff_ne.mpr c5
       (first | rw [c5b0] | (simp only [i64_w, i32_w]; rw [c5b0]) | skip)
       by_cases c13 : x3_1 > 0
       ·rw [if_pos c13] at H
        have c13b0 : decide (0 < x3_1) = true := decide_eq_true c13
        clear c13
        replace H := Option.bind_eq_some_iff.mp H
        obtain ⟨t178, A140, H⟩ := H
        replace H : (if t178 = true then (if 0 ≤ ((rd_T44 l0 x3_1).f5) then (if ((rd_T44 l0 x3_1).f5) < (l0.length : Int) then ((spec_l6Count.f k1 ((rd_T44 l0 ((rd_T44 l0 x3_1).f5)).f6) x3_1).bind fun t180 => (spec_l6Links.j1 k1 l0 x3_1 (t180 != 1))) else (none)) else (none)) else (spec_l6Links.j1 k1 l0 x3_1 true)) = some r := H
        have A14 := Aside0.mk A140
        clear A140
        by_cases c15 : t178 = true
        ·subst c15
         have H1 : (if 0 ≤ ((rd_T44 l0 x3_1).f5) then (if ((rd_T44 l0 x3_1).f5) < (l0.length : Int) then ((spec_l6Count.f k1 ((rd_T44 l0 ((rd_T44 l0 x3_1).f5)).f6) x3_1).bind fun t180 => (spec_l6Links.j1 k1 l0 x3_1 (t180 != 1))) else (none)) else (none)) = some r := by rw [if_pos rfl] at H; exact H
         clear H
         have H := H1
         clear H1
         by_cases c16 : 0 ≤ ((rd_T44 l0 x3_1).f5)
         ·rw [if_pos c16] at H
          have c16b0 : decide (0 ≤ ((rd_T44 l0 x3_1).f5)) = true := decide_eq_true c16
          clear c16
          by_cases c17 : ((rd_T44 l0 x3_1).f5) < (l0.length : Int)
          ·rw [if_pos c17] at H
           have c17b0 : decide (((rd_T44 l0 x3_1).f5) < (l0.length : Int)) = true := decide_eq_true c17
           clear c17
           replace H := Option.bind_eq_some_iff.mp H
           obtain ⟨t180, A180, H⟩ := H
           replace H : (spec_l6Links.j1 k1 l0 x3_1 (t180 != 1)) = some r := H
           have A18 := Aside0.mk A180
           clear A180
           have H' := Aside0.mk H
           clear H
           go_wp2_with (first | (go_at_call 49; (with_reducible refine (spec_l1In.calls ((rd_T44 l0 x3_1).f5) 0 (wrap64 ((l0.length : Int) - 1)) true _ A14.out).mono ?_); rintro e w' ⟨rfl, ⟨nd, rfl⟩⟩; have p179 : 0 ≤ (((rd_T44 l0 x3_1).f5) : Int) := of_decide_eq_true (by first | (with_reducible assumption) | assumption); have q179 : ((rd_T44 l0 x3_1).f5) < (l0.length : Int) := of_decide_eq_true (by first | (with_reducible assumption) | assumption); obtain ⟨ad179, A179_3, c179_3, A179_6, c179_6, e179, hx179_0, hx179_1, hx179_2, hx179_3, hx179_4, hx179_5, hx179_6, hl179_3, hi179_3, hl179_6, hi179_6⟩ := at_T44 HR0.out ((rd_T44 l0 x3_1).f5) p179 q179; obtain rfl : ad174 = ad179 := (by injection e179); have HR179_3 := Aside0.mk hi179_3; have HC179_3 := Aside0.mk hl179_3; clear hi179_3 hl179_3; have HR179_6 := Aside0.mk hi179_6; have HC179_6 := Aside0.mk hl179_6; clear hi179_6 hl179_6; replace p179 := eq_true p179; replace q179 := eq_true q179) | (go_at_call 41; (with_reducible refine (spec_l6Count.calls k1 _ _ ((rd_T44 l0 ((rd_T44 l0 x3_1).f5)).f6) x3_1 t180 _ ?side1 ?side2 A18.out).mono ?_); (case side1 => repeat (first | exact HR179_6.out | (with_reducible refine ca_ ?_ _) | (with_reducible refine cn_ ?_ _) | (with_reducible refine cd_ ?_))); (case side2 => exact HC179_6.out); rintro e w' ⟨rfl, ⟨nd, rfl⟩⟩))
           go_meet
           case rel => exact ⟨_, ((t180 != 1)), (by first | rfl | (simp; done) | (simp [*]; done)), H', ⟨by have := HK1.out; first | omega | exact Nat.le_refl _⟩, by repeat (first | exact Drawn0.refl _ | apply Drawn0.step)⟩
          ·rw [if_neg c17] at H
           exact absurd H (by simp)
         ·rw [if_neg c16] at H
          exact absurd H (by simp)
        ·replace c15 := Bool.eq_false_iff.mpr c15
         subst c15
         have H1 : (spec_l6Links.j1 k1 l0 x3_1 true) = some r := by rw [if_neg (show ¬ (false = true) by decide)] at H; exact H
         clear H
         have H := H1
         clear H1
         have H' := Aside0.mk H
         clear H
         go_wp2_with (first | (go_at_call 49; (with_reducible refine (spec_l1In.calls ((rd_T44 l0 x3_1).f5) 0 (wrap64 ((l0.length : Int) - 1)) false _ A14.out).mono ?_); rintro e w' ⟨rfl, ⟨nd, rfl⟩⟩))
         go_meet
         case rel => exact ⟨_, (true), (by first | rfl | (simp; done) | (simp [*]; done)), H', ⟨by have := HK1.out; first | omega | exact Nat.le_refl _⟩, by repeat (first | exact Drawn0.refl _ | apply Drawn0.step)⟩
       ·rw [if_neg c13] at H
        have c13b0 : decide (0 < x3_1) = false := decide_eq_false c13
        clear c13
        have H' := Aside0.mk H
        clear H
        go_wp2
        go_meet
        case rel => exact ⟨_, (false), (by first | rfl | (simp; done) | (simp [*]; done)), H', ⟨by have := HK1.out; first | omega | exact Nat.le_refl _⟩, by repeat (first | exact Drawn0.refl _ | apply Drawn0.step)⟩
     case rest =>
      clear HC4
      try clear c1
      try clear p1
      try clear q1
      try clear hx1
      try clear c2
      try clear c2b0
      try clear p2
      try clear c3
      try clear c3b0
      try clear c5
      try clear c5b0
      try clear c5b1
      try clear c6
      try clear c6b0
      try clear c6b1
      try clear p6
      try clear c7
      try clear c7b0
      try clear c9
      try clear c10
      try clear c10b0
      try clear c11
      try clear c11b0
      try clear c13
      try clear c13b0
      try clear c15
      try clear c16
      try clear c16b0
      try clear c17
      try clear c17b0
      try clear p17
      try clear q17
      try clear hx17
      try clear hx174_0
      try clear hx174_1
      try clear hx174_2
      try clear hx174_3
      try clear hx174_4
      try clear hx174_5
      try clear hx174_6
      try clear hx176_0
      try clear hx176_1
      try clear hx176_2
      try clear hx176_3
      try clear hx176_4
      try clear hx176_5
      try clear hx176_6
      try clear hx179_0
      try clear hx179_1
      try clear hx179_2
      try clear hx179_3
      try clear hx179_4
      try clear hx179_5
      try clear hx179_6
      try clear p174
      try clear p176
      try clear p179
      try clear q174
      try clear q176
      try clear q179
      obtain ⟨kq, x45_3, rfl, HA, HJ3, ⟨mc3, rfl⟩⟩ := hcut
      cases kq with
      | zero => exact absurd HA.out (by simp [spec_l6Links.j1])
      | succ kj3 =>
       have H := HA.out
       clear HA
       simp only [spec_l6Links.j1] at H
       by_cases c19 : x45_3 = true
       ·subst c19
        have H1 : (some false) = some r := by rw [if_pos rfl] at H; exact H
        clear H
        have H := H1
        clear H1
        obtain rfl := Option.some.inj H
        go_wp2
        go_ret
        exact ⟨by first | rfl | (simp; done) | (simp [*]; done), by repeat (first | exact Drawn0.refl _ | apply Drawn0.step)⟩
       ·replace c19 := Bool.eq_false_iff.mpr c19
        subst c19
        have H1 : (spec_l6Links.l1 kj3 l0 x3_1 0) = some r := by rw [if_neg (show ¬ (false = true) by decide)] at H; exact H
        clear H
        have H := H1
        clear H1
        have H' := Aside0.mk H
        clear H
        go_wp2
        go_loopg [5] kj3 (fun kq v5 w' => ∃ (x5_3 : Int), v5 = .int .i64 x5_3 ∧ Aside0 (spec_l6Links.l1 kq l0 x3_1 x5_3 = some r) ∧ Aside0 (kq ≤ kj3) ∧ Drawn0 w w')
        case atStart => exact ⟨(0), (by first | rfl | (simp; done) | (simp [*]; done)), H', ⟨Nat.le_refl _⟩, by repeat (first | exact Drawn0.refl _ | apply Drawn0.step)⟩
        case round =>
         clear H'
         try clear c1
         try clear p1
         try clear q1
         try clear hx1
         try clear c2
         try clear c2b0
         try clear p2
         try clear c3
         try clear c3b0
         try clear c5
         try clear c5b0
         try clear c5b1
         try clear c6
         try clear c6b0
         try clear c6b1
         try clear p6
         try clear c7
         try clear c7b0
         try clear c9
         try clear c10
         try clear c10b0
         try clear c11
         try clear c11b0
         try clear c13
         try clear c13b0
         try clear c15
         try clear c16
         try clear c16b0
         try clear c17
         try clear c17b0
         try clear p17
         try clear q17
         try clear hx17
         try clear c19
         try clear hx174_0
         try clear hx174_1
         try clear hx174_2
         try clear hx174_3
         try clear hx174_4
         try clear hx174_5
         try clear hx174_6
         try clear hx176_0
         try clear hx176_1
         try clear hx176_2
         try clear hx176_3
         try clear hx176_4
         try clear hx176_5
         try clear hx176_6
         try clear hx179_0
         try clear hx179_1
         try clear hx179_2
         try clear hx179_3
         try clear hx179_4
         try clear hx179_5
         try clear hx179_6
         try clear p1
         try clear p17
         try clear p174
         try clear p176
         try clear p179
         try clear p2
         try clear p6
         try clear q1
         try clear q17
         try clear q174
         try clear q176
         try clear q179
         obtain ⟨x5_3, rfl, HA, HK3, ⟨m3, rfl⟩⟩ := hrel
         cases gk with
         | zero => exact absurd HA.out (by simp [spec_l6Links.l1])
         | succ k3 =>
          have H := HA.out
          clear HA
          simp only [spec_l6Links.l1] at H
          by_cases c20 : 0 ≤ x3_1
          ·rw [if_pos c20] at H
           have c20b0 : decide (0 ≤ x3_1) = true := decide_eq_true c20
           clear c20
           by_cases c21 : x3_1 < (l0.length : Int)
           ·rw [if_pos c21] at H
            have c21b0 : decide (x3_1 < (l0.length : Int)) = true := decide_eq_true c21
            clear c21
            by_cases c22 : x5_3 < (((rd_T44 l0 x3_1).f6).length : Int)
            ·rw [if_pos c22] at H
             have c22b0 : decide (x5_3 < (((rd_T44 l0 x3_1).f6).length : Int)) = true := decide_eq_true c22
             clear c22
             by_cases c23 : 0 ≤ x5_3
             ·rw [if_pos c23] at H
              have c23b0 : decide (0 ≤ x5_3) = true := decide_eq_true c23
              clear c23
              replace H := Option.bind_eq_some_iff.mp H
              obtain ⟨t184, A240, H⟩ := H
              replace H : (if t184 = true then (if 0 ≤ (rd ((rd_T44 l0 x3_1).f6) x5_3) then (if (rd ((rd_T44 l0 x3_1).f6) x5_3) < (l0.length : Int) then (if ((rd_T44 l0 (rd ((rd_T44 l0 x3_1).f6) x5_3)).f5) = x3_1 then (spec_l6Links.l1 k3 l0 x3_1 (wrap64 (x5_3 + 1))) else (some false)) else (none)) else (none)) else (some false)) = some r := H
              have A24 := Aside0.mk A240
              clear A240
              by_cases c25 : t184 = true
              ·subst c25
               have H1 : (if 0 ≤ (rd ((rd_T44 l0 x3_1).f6) x5_3) then (if (rd ((rd_T44 l0 x3_1).f6) x5_3) < (l0.length : Int) then (if ((rd_T44 l0 (rd ((rd_T44 l0 x3_1).f6) x5_3)).f5) = x3_1 then (spec_l6Links.l1 k3 l0 x3_1 (wrap64 (x5_3 + 1))) else (some false)) else (none)) else (none)) = some r := by rw [if_pos rfl] at H; exact H
               clear H
               have H := H1
               clear H1
               by_cases c26 : 0 ≤ (rd ((rd_T44 l0 x3_1).f6) x5_3)
               ·rw [if_pos c26] at H
                have c26b0 : decide (0 ≤ (rd ((rd_T44 l0 x3_1).f6) x5_3)) = true := decide_eq_true c26
                clear c26
                by_cases c27 : (rd ((rd_T44 l0 x3_1).f6) x5_3) < (l0.length : Int)
                ·rw [if_pos c27] at H
                 have c27b0 : decide ((rd ((rd_T44 l0 x3_1).f6) x5_3) < (l0.length : Int)) = true := decide_eq_true c27
                 clear c27
                 by_cases c28 : ((rd_T44 l0 (rd ((rd_T44 l0 x3_1).f6) x5_3)).f5) = x3_1
                 ·rw [if_pos c28] at H
                  have c28b0 : (((rd_T44 l0 (rd ((rd_T44 l0 x3_1).f6) x5_3)).f5) == x3_1) = true := beq_iff_eq.mpr c28
                  have c28b1 : (((rd_T44 l0 (rd ((rd_T44 l0 x3_1).f6) x5_3)).f5) != x3_1) = false := bne_eq_false_iff_eq.mpr c28
                  clear c28
                  have H' := Aside0.mk H
                  clear H
                  have p181 : 0 ≤ (x3_1 : Int) := of_decide_eq_true (by first | (with_reducible assumption) | assumption)
                  have q181 : x3_1 < (l0.length : Int) := of_decide_eq_true (by first | (with_reducible assumption) | assumption)
                  obtain ⟨ad181, A181_3, c181_3, A181_6, c181_6, e181, hx181_0, hx181_1, hx181_2, hx181_3, hx181_4, hx181_5, hx181_6, hl181_3, hi181_3, hl181_6, hi181_6⟩ := at_T44 HR0.out x3_1 p181 q181
                  obtain rfl : ad174 = ad181 := (by injection e181)
                  have HR181_3 := Aside0.mk hi181_3
                  have HC181_3 := Aside0.mk hl181_3
                  clear hi181_3 hl181_3
                  have HR181_6 := Aside0.mk hi181_6
                  have HC181_6 := Aside0.mk hl181_6
                  clear hi181_6 hl181_6
                  replace p181 := eq_true p181
                  replace q181 := eq_true q181
                  have p182 : 0 ≤ (x3_1 : Int) := of_decide_eq_true (by first | (with_reducible assumption) | assumption)
                  have q182 : x3_1 < (l0.length : Int) := of_decide_eq_true (by first | (with_reducible assumption) | assumption)
                  obtain ⟨ad182, A182_3, c182_3, A182_6, c182_6, e182, hx182_0, hx182_1, hx182_2, hx182_3, hx182_4, hx182_5, hx182_6, hl182_3, hi182_3, hl182_6, hi182_6⟩ := at_T44 HR0.out x3_1 p182 q182
                  obtain rfl : ad174 = ad182 := (by injection e182)
                  have HR182_3 := Aside0.mk hi182_3
                  have HC182_3 := Aside0.mk hl182_3
                  clear hi182_3 hl182_3
                  have HR182_6 := Aside0.mk hi182_6
                  have HC182_6 := Aside0.mk hl182_6
                  clear hi182_6 hl182_6
                  replace p182 := eq_true p182
                  replace q182 := eq_true q182
                  have ea_ := Option.some.inj (hx181_3.symm.trans hx182_3)
                  injection ea_ with ea_ en_ ec_
                  subst ea_
                  subst ec_
                  clear en_
                  have ea_ := Option.some.inj (hx181_6.symm.trans hx182_6)
                  injection ea_ with ea_ en_ ec_
                  subst ea_
                  subst ec_
                  clear en_
                  have p183 : 0 ≤ (x5_3 : Int) := of_decide_eq_true (by first | (with_reducible assumption) | assumption)
                  have q183 : x5_3 < (((rd_T44 l0 x3_1).f6).length : Int) := of_decide_eq_true (by first | (with_reducible assumption) | assumption)
                  obtain ⟨ad183, e183, hx183_0⟩ := Kd.at_int HR182_6.out x5_3 p183 q183
                  cases e183
                  replace p183 := eq_true p183
                  replace q183 := eq_true q183
                  go_wp2_with (first | ((with_reducible refine gate_callee (f := 49) rfl ?_); refine goesL_ (some 68) rfl rfl Try.func49 (by kernel_rfl) rfl #[.int .i64 (rd ((rd_T44 l0 x3_1).f6) x5_3), .int .i64 1, .int .i64 (wrap64 ((l0.length : Int) - 1))] rfl (by (try simp only [List.map_toArray, List.map_cons, List.map_nil]); first | done | rfl | (simp only [List.length_drop, List.length_take]; rfl)) ?_; (with_reducible refine (spec_l1In.calls (rd ((rd_T44 l0 x3_1).f6) x5_3) 1 (wrap64 ((l0.length : Int) - 1)) true _ A24.out).mono ?_); rintro e w' ⟨rfl, ⟨nd, rfl⟩⟩; refine ⟨_, rfl, ?_⟩; have p185 : 0 ≤ ((rd ((rd_T44 l0 x3_1).f6) x5_3) : Int) := of_decide_eq_true (by first | (with_reducible assumption) | assumption); have q185 : (rd ((rd_T44 l0 x3_1).f6) x5_3) < (l0.length : Int) := of_decide_eq_true (by first | (with_reducible assumption) | assumption); obtain ⟨ad185, A185_3, c185_3, A185_6, c185_6, e185, hx185_0, hx185_1, hx185_2, hx185_3, hx185_4, hx185_5, hx185_6, hl185_3, hi185_3, hl185_6, hi185_6⟩ := at_T44 HR0.out (rd ((rd_T44 l0 x3_1).f6) x5_3) p185 q185; obtain rfl : ad174 = ad185 := (by injection e185); have HR185_3 := Aside0.mk hi185_3; have HC185_3 := Aside0.mk hl185_3; clear hi185_3 hl185_3; have HR185_6 := Aside0.mk hi185_6; have HC185_6 := Aside0.mk hl185_6; clear hi185_6 hl185_6; replace p185 := eq_true p185; replace q185 := eq_true q185))
                  go_roundg k3
                  case measure => have := HK1.out; have := HJ3.out; have := HK3.out; omega
                  case rel => exact ⟨(wrap64 (x5_3 + 1)), (by first | rfl | (simp; done) | (simp [*]; done)), H', ⟨by have := HK1.out; have := HJ3.out; have := HK3.out; omega⟩, by repeat (first | exact Drawn0.refl _ | apply Drawn0.step)⟩
                 ·rw [if_neg c28] at H
                  have c28b0 : (((rd_T44 l0 (rd ((rd_T44 l0 x3_1).f6) x5_3)).f5) == x3_1) = false := beq_eq_false_iff_ne.mpr c28
                  have c28b1 : (((rd_T44 l0 (rd ((rd_T44 l0 x3_1).f6) x5_3)).f5) != x3_1) = true := bne_iff_ne.mpr c28
                  obtain rfl := Option.some.inj H
                  have p181 : 0 ≤ (x3_1 : Int) := of_decide_eq_true (by first | (with_reducible assumption) | assumption)
                  have q181 : x3_1 < (l0.length : Int) := of_decide_eq_true (by first | (with_reducible assumption) | assumption)
                  obtain ⟨ad181, A181_3, c181_3, A181_6, c181_6, e181, hx181_0, hx181_1, hx181_2, hx181_3, hx181_4, hx181_5, hx181_6, hl181_3, hi181_3, hl181_6, hi181_6⟩ := at_T44 HR0.out x3_1 p181 q181
                  obtain rfl : ad174 = ad181 := (by injection e181)
                  have HR181_3 := Aside0.mk hi181_3
                  have HC181_3 := Aside0.mk hl181_3
                  clear hi181_3 hl181_3
                  have HR181_6 := Aside0.mk hi181_6
                  have HC181_6 := Aside0.mk hl181_6
                  clear hi181_6 hl181_6
                  replace p181 := eq_true p181
                  replace q181 := eq_true q181
                  have p182 : 0 ≤ (x3_1 : Int) := of_decide_eq_true (by first | (with_reducible assumption) | assumption)
                  have q182 : x3_1 < (l0.length : Int) := of_decide_eq_true (by first | (with_reducible assumption) | assumption)
                  obtain ⟨ad182, A182_3, c182_3, A182_6, c182_6, e182, hx182_0, hx182_1, hx182_2, hx182_3, hx182_4, hx182_5, hx182_6, hl182_3, hi182_3, hl182_6, hi182_6⟩ := at_T44 HR0.out x3_1 p182 q182
                  obtain rfl : ad174 = ad182 := (by injection e182)
                  have HR182_3 := Aside0.mk hi182_3
                  have HC182_3 := Aside0.mk hl182_3
                  clear hi182_3 hl182_3
                  have HR182_6 := Aside0.mk hi182_6
                  have HC182_6 := Aside0.mk hl182_6
                  clear hi182_6 hl182_6
                  replace p182 := eq_true p182
                  replace q182 := eq_true q182
                  have ea_ := Option.some.inj (hx181_3.symm.trans hx182_3)
                  injection ea_ with ea_ en_ ec_
                  subst ea_
                  subst ec_
                  clear en_
                  have ea_ := Option.some.inj (hx181_6.symm.trans hx182_6)
                  injection ea_ with ea_ en_ ec_
                  subst ea_
                  subst ec_
                  clear en_
                  have p183 : 0 ≤ (x5_3 : Int) := of_decide_eq_true (by first | (with_reducible assumption) | assumption)
                  have q183 : x5_3 < (((rd_T44 l0 x3_1).f6).length : Int) := of_decide_eq_true (by first | (with_reducible assumption) | assumption)
                  obtain ⟨ad183, e183, hx183_0⟩ := Kd.at_int HR182_6.out x5_3 p183 q183
                  cases e183
                  replace p183 := eq_true p183
                  replace q183 := eq_true q183
                  go_wp2_with (first | ((with_reducible refine gate_callee (f := 49) rfl ?_); refine goesL_ (some 68) rfl rfl Try.func49 (by kernel_rfl) rfl #[.int .i64 (rd ((rd_T44 l0 x3_1).f6) x5_3), .int .i64 1, .int .i64 (wrap64 ((l0.length : Int) - 1))] rfl (by (try simp only [List.map_toArray, List.map_cons, List.map_nil]); first | done | rfl | (simp only [List.length_drop, List.length_take]; rfl)) ?_; (with_reducible refine (spec_l1In.calls (rd ((rd_T44 l0 x3_1).f6) x5_3) 1 (wrap64 ((l0.length : Int) - 1)) true _ A24.out).mono ?_); rintro e w' ⟨rfl, ⟨nd, rfl⟩⟩; refine ⟨_, rfl, ?_⟩; have p185 : 0 ≤ ((rd ((rd_T44 l0 x3_1).f6) x5_3) : Int) := of_decide_eq_true (by first | (with_reducible assumption) | assumption); have q185 : (rd ((rd_T44 l0 x3_1).f6) x5_3) < (l0.length : Int) := of_decide_eq_true (by first | (with_reducible assumption) | assumption); obtain ⟨ad185, A185_3, c185_3, A185_6, c185_6, e185, hx185_0, hx185_1, hx185_2, hx185_3, hx185_4, hx185_5, hx185_6, hl185_3, hi185_3, hl185_6, hi185_6⟩ := at_T44 HR0.out (rd ((rd_T44 l0 x3_1).f6) x5_3) p185 q185; obtain rfl : ad174 = ad185 := (by injection e185); have HR185_3 := Aside0.mk hi185_3; have HC185_3 := Aside0.mk hl185_3; clear hi185_3 hl185_3; have HR185_6 := Aside0.mk hi185_6; have HC185_6 := Aside0.mk hl185_6; clear hi185_6 hl185_6; replace p185 := eq_true p185; replace q185 := eq_true q185))
                  go_ret
                  exact ⟨by first | rfl | (simp; done) | (simp [*]; done), by repeat (first | exact Drawn0.refl _ | apply Drawn0.step)⟩
                ·rw [if_neg c27] at H
                 exact absurd H (by simp)
               ·rw [if_neg c26] at H
                exact absurd H (by simp)
              ·replace c25 := Bool.eq_false_iff.mpr c25
               subst c25
               have H1 : (some false) = some r := by rw [if_neg (show ¬ (false = true) by decide)] at H; exact H
               clear H
               have H := H1
               clear H1
               obtain rfl := Option.some.inj H
               have p181 : 0 ≤ (x3_1 : Int) := of_decide_eq_true (by first | (with_reducible assumption) | assumption)
               have q181 : x3_1 < (l0.length : Int) := of_decide_eq_true (by first | (with_reducible assumption) | assumption)
               obtain ⟨ad181, A181_3, c181_3, A181_6, c181_6, e181, hx181_0, hx181_1, hx181_2, hx181_3, hx181_4, hx181_5, hx181_6, hl181_3, hi181_3, hl181_6, hi181_6⟩ := at_T44 HR0.out x3_1 p181 q181
               obtain rfl : ad174 = ad181 := (by injection e181)
               have HR181_3 := Aside0.mk hi181_3
               have HC181_3 := Aside0.mk hl181_3
               clear hi181_3 hl181_3
               have HR181_6 := Aside0.mk hi181_6
               have HC181_6 := Aside0.mk hl181_6
               clear hi181_6 hl181_6
               replace p181 := eq_true p181
               replace q181 := eq_true q181
               have p182 : 0 ≤ (x3_1 : Int) := of_decide_eq_true (by first | (with_reducible assumption) | assumption)
               have q182 : x3_1 < (l0.length : Int) := of_decide_eq_true (by first | (with_reducible assumption) | assumption)
               obtain ⟨ad182, A182_3, c182_3, A182_6, c182_6, e182, hx182_0, hx182_1, hx182_2, hx182_3, hx182_4, hx182_5, hx182_6, hl182_3, hi182_3, hl182_6, hi182_6⟩ := at_T44 HR0.out x3_1 p182 q182
               obtain rfl : ad174 = ad182 := (by injection e182)
               have HR182_3 := Aside0.mk hi182_3
               have HC182_3 := Aside0.mk hl182_3
               clear hi182_3 hl182_3
               have HR182_6 := Aside0.mk hi182_6
               have HC182_6 := Aside0.mk hl182_6
               clear hi182_6 hl182_6
               replace p182 := eq_true p182
               replace q182 := eq_true q182
               have ea_ := Option.some.inj (hx181_3.symm.trans hx182_3)
               injection ea_ with ea_ en_ ec_
               subst ea_
               subst ec_
               clear en_
               have ea_ := Option.some.inj (hx181_6.symm.trans hx182_6)
               injection ea_ with ea_ en_ ec_
               subst ea_
               subst ec_
               clear en_
               have p183 : 0 ≤ (x5_3 : Int) := of_decide_eq_true (by first | (with_reducible assumption) | assumption)
               have q183 : x5_3 < (((rd_T44 l0 x3_1).f6).length : Int) := of_decide_eq_true (by first | (with_reducible assumption) | assumption)
               obtain ⟨ad183, e183, hx183_0⟩ := Kd.at_int HR182_6.out x5_3 p183 q183
               cases e183
               replace p183 := eq_true p183
               replace q183 := eq_true q183
               go_wp2_with (first | ((with_reducible refine gate_callee (f := 49) rfl ?_); refine goesL_ (some 68) rfl rfl Try.func49 (by kernel_rfl) rfl #[.int .i64 (rd ((rd_T44 l0 x3_1).f6) x5_3), .int .i64 1, .int .i64 (wrap64 ((l0.length : Int) - 1))] rfl (by (try simp only [List.map_toArray, List.map_cons, List.map_nil]); first | done | rfl | (simp only [List.length_drop, List.length_take]; rfl)) ?_; (with_reducible refine (spec_l1In.calls (rd ((rd_T44 l0 x3_1).f6) x5_3) 1 (wrap64 ((l0.length : Int) - 1)) false _ A24.out).mono ?_); rintro e w' ⟨rfl, ⟨nd, rfl⟩⟩; refine ⟨_, rfl, ?_⟩))
               go_ret
               exact ⟨by first | rfl | (simp; done) | (simp [*]; done), by repeat (first | exact Drawn0.refl _ | apply Drawn0.step)⟩
             ·rw [if_neg c23] at H
              exact absurd H (by simp)
            ·rw [if_neg c22] at H
             have c22b0 : decide (x5_3 < (((rd_T44 l0 x3_1).f6).length : Int)) = false := decide_eq_false c22
             clear c22
             have H' := Aside0.mk H
             clear H
             have p181 : 0 ≤ (x3_1 : Int) := of_decide_eq_true (by first | (with_reducible assumption) | assumption)
             have q181 : x3_1 < (l0.length : Int) := of_decide_eq_true (by first | (with_reducible assumption) | assumption)
             obtain ⟨ad181, A181_3, c181_3, A181_6, c181_6, e181, hx181_0, hx181_1, hx181_2, hx181_3, hx181_4, hx181_5, hx181_6, hl181_3, hi181_3, hl181_6, hi181_6⟩ := at_T44 HR0.out x3_1 p181 q181
             obtain rfl : ad174 = ad181 := (by injection e181)
             have HR181_3 := Aside0.mk hi181_3
             have HC181_3 := Aside0.mk hl181_3
             clear hi181_3 hl181_3
             have HR181_6 := Aside0.mk hi181_6
             have HC181_6 := Aside0.mk hl181_6
             clear hi181_6 hl181_6
             replace p181 := eq_true p181
             replace q181 := eq_true q181
             go_wp2
             go_roundg k3
             case measure => have := HK1.out; have := HJ3.out; have := HK3.out; omega
             case rel => exact ⟨(wrap64 (x3_1 + 1)), (by first | rfl | (simp; done) | (simp [*]; done)), H', ⟨by have := HK1.out; have := HJ3.out; have := HK3.out; omega⟩, by repeat (first | exact Drawn0.refl _ | apply Drawn0.step)⟩
           ·rw [if_neg c21] at H
            exact absurd H (by simp)
          ·rw [if_neg c20] at H
           exact absurd H (by simp)
    ·rw [if_neg c3] at H
     exact absurd H (by simp)
   ·rw [if_neg c2] at H
    have c2b0 : decide (x3_1 < (l0.length : Int)) = false := decide_eq_false c2
    clear c2
    obtain rfl := Option.some.inj H
    go_wp2
    go_ret
    exact ⟨by first | rfl | (simp; done) | (simp [*]; done), by repeat (first | exact Drawn0.refl _ | apply Drawn0.step)⟩
end Go.Proofs.Ytbgedpicfllclaa.PFnExactSameTree
