-- Written by this session's program wip/gen (the print, with contracts of our own beside it). Lean checks it.
import Derived.Test.YteafgjebaedjbaaPFnExactRefsx0
import Derived.Test.YteafgjebaedjbaaPFnExactRefsx1
import Derived.Test.YteafgjebaedjbaaPFnExactRefsx2
import Derived.Test.YteafgjebaedjbaaPFnExactRefsx3
namespace Go.Proofs.Yteafgjebaedjbaa.PFnExactRefs
open Go.RowKit Go.Proofs.YteafgjebaedjbaaW.PrintWords Go.Proofs.YteafgjebaedjbaaW.PrintLast Go.Proofs.YteafgjebaedjbaaW.PrintMore
attribute [local go_sem] max2_int min2_int max_two min_two max_three min_three max_four min_four   -- for this text's walks alone
set_option linter.unusedVariables false
set_option linter.unusedSimpArgs false

/-! ### spec_Ref: function 33 -/
mutual
def spec_Ref.j0 : Nat → ByteArray → Int → Bool → Bool → Option (ByteArray × Int)
  | 0, _, _, _, _ => none
  | k + 1, x0, x1, x2, x25 => if x25 = true then (some ((⟨#[]⟩ : ByteArray), 0)) else (if (wrap64 (x1 + 1)) < (x0.size : Int) then (if 0 ≤ (wrap64 (x1 + 1)) then (spec_Ref.j1 k x0 x1 x2 ((bt x0 (wrap64 (x1 + 1))) == 35)) else (none)) else (spec_Ref.j1 k x0 x1 x2 false))
def spec_Ref.j1 : Nat → ByteArray → Int → Bool → Bool → Option (ByteArray × Int)
  | 0, _, _, _, _ => none
  | k + 1, x0, x1, x2, x37 => if x37 = true then ((spec_l3Number.f k x0 x1).bind fun bt148 => (some (bt148.1, bt148.2))) else ((spec_l3Longest.f k x0 (wrap64 (x1 + 1))).bind fun t150 => (if t150.toList = ([] : List UInt8) then (some ((⟨#[]⟩ : ByteArray), 0)) else (if (wrap64 ((wrap64 (x1 + 1)) + (t150.size : Int))) < (x0.size : Int) then (if 0 ≤ (wrap64 ((wrap64 (x1 + 1)) + (t150.size : Int))) then (spec_Ref.j2 k x0 x1 x2 t150 (wrap64 ((wrap64 (x1 + 1)) + (t150.size : Int))) ((bt x0 (wrap64 ((wrap64 (x1 + 1)) + (t150.size : Int)))) == 59)) else (none)) else (spec_Ref.j2 k x0 x1 x2 t150 (wrap64 ((wrap64 (x1 + 1)) + (t150.size : Int))) false))))
def spec_Ref.j2 : Nat → ByteArray → Int → Bool → ByteArray → Int → Bool → Option (ByteArray × Int)
  | 0, _, _, _, _, _, _ => none
  | k + 1, x0, x1, x2, x10, x11, x66 => if x66 = true then ((spec_NameSign.f k x10).bind fun t151 => ((spec_PutSign.f k t151).bind fun t152 => (some (t152, wrap64 ((wrap64 (x11 + 1)) - x1))))) else (if x2 = true then (if x11 < (x0.size : Int) then (if 0 ≤ x11 then (if (bt x0 x11) = 61 then (spec_Ref.j3 k x1 x10 x11 true) else ((spec_IsLetter.f (wrap64 (bt x0 x11))).bind fun t153 => (if t153 = true then (spec_Ref.j3 k x1 x10 x11 true) else ((spec_l3Digit.f k (bt x0 x11) false).bind fun t154 => (spec_Ref.j3 k x1 x10 x11 (decide (t154 ≥ 0))))))) else (none)) else (spec_Ref.j3 k x1 x10 x11 false)) else (spec_Ref.j3 k x1 x10 x11 false))
def spec_Ref.j3 : Nat → Int → ByteArray → Int → Bool → Option (ByteArray × Int)
  | 0, _, _, _, _ => none
  | k + 1, x1, x10, x11, x100 => if x100 = true then (some ((⟨#[]⟩ : ByteArray), 0)) else ((spec_NameSign.f k x10).bind fun t155 => ((spec_PutSign.f k t155).bind fun t156 => (some (t156, wrap64 (x11 - x1)))))
end
def spec_Ref.f (k : Nat) (a0 : ByteArray) (a1 : Int) (a2 : Bool) : Option (ByteArray × Int) := if a1 < 0 then (spec_Ref.j0 k a0 a1 a2 true) else (if a1 ≥ (a0.size : Int) then (spec_Ref.j0 k a0 a1 a2 true) else (if 0 ≤ a1 then (if a1 < (a0.size : Int) then (spec_Ref.j0 k a0 a1 a2 ((bt a0 a1) != 38)) else (none)) else (none)))
theorem spec_Ref.mono_l : ∀ k, (∀ y0 y1 y2 y3, LeO (spec_Ref.j0 k y0 y1 y2 y3) (spec_Ref.j0 (k + 1) y0 y1 y2 y3)) ∧ (∀ y0 y1 y2 y3, LeO (spec_Ref.j1 k y0 y1 y2 y3) (spec_Ref.j1 (k + 1) y0 y1 y2 y3)) ∧ (∀ y0 y1 y2 y3 y4 y5, LeO (spec_Ref.j2 k y0 y1 y2 y3 y4 y5) (spec_Ref.j2 (k + 1) y0 y1 y2 y3 y4 y5)) ∧ (∀ y0 y1 y2 y3, LeO (spec_Ref.j3 k y0 y1 y2 y3) (spec_Ref.j3 (k + 1) y0 y1 y2 y3))
  | 0 => ⟨fun _ _ _ _ r h => by simp [spec_Ref.j0] at h, fun _ _ _ _ r h => by simp [spec_Ref.j1] at h, fun _ _ _ _ _ _ r h => by simp [spec_Ref.j2] at h, fun _ _ _ _ r h => by simp [spec_Ref.j3] at h⟩
  | k + 1 => by
    obtain ⟨ih0, ih1, ih2, ih3⟩ := spec_Ref.mono_l k
    refine ⟨?_, ?_, ?_, ?_⟩
    · intro y0 y1 y2 y3
      unfold spec_Ref.j0
      repeat' first
      | (with_reducible exact ih0 _ _ _ _)
      | (with_reducible exact ih1 _ _ _ _)
      | (with_reducible exact ih2 _ _ _ _ _ _)
      | (with_reducible exact ih3 _ _ _ _)
      | (with_reducible exact spec_NameSign.mono _ _)
      | (with_reducible exact spec_PutSign.mono _ _)
      | (with_reducible exact spec_l3Digit.mono _ _ _)
      | (with_reducible exact spec_l3Longest.mono _ _ _)
      | (with_reducible exact spec_l3Number.mono _ _ _)
      | (with_reducible exact LeO.refl _)
      | (with_reducible exact LeO.none _)
      | (with_reducible refine LeO.ite ?_ ?_)
      | (with_reducible refine LeO.bind ?_ (fun _ => ?_))
      | exact ih0 _ _ _ _
      | exact ih1 _ _ _ _
      | exact ih2 _ _ _ _ _ _
      | exact ih3 _ _ _ _
      | exact spec_NameSign.mono _ _
      | exact spec_PutSign.mono _ _
      | exact spec_l3Digit.mono _ _ _
      | exact spec_l3Longest.mono _ _ _
      | exact spec_l3Number.mono _ _ _
      | exact LeO.none _
      | refine LeO.ite ?_ ?_
      | refine LeO.bind ?_ (fun _ => ?_)
    · intro y0 y1 y2 y3
      unfold spec_Ref.j1
      repeat' first
      | (with_reducible exact ih0 _ _ _ _)
      | (with_reducible exact ih1 _ _ _ _)
      | (with_reducible exact ih2 _ _ _ _ _ _)
      | (with_reducible exact ih3 _ _ _ _)
      | (with_reducible exact spec_NameSign.mono _ _)
      | (with_reducible exact spec_PutSign.mono _ _)
      | (with_reducible exact spec_l3Digit.mono _ _ _)
      | (with_reducible exact spec_l3Longest.mono _ _ _)
      | (with_reducible exact spec_l3Number.mono _ _ _)
      | (with_reducible exact LeO.refl _)
      | (with_reducible exact LeO.none _)
      | (with_reducible refine LeO.ite ?_ ?_)
      | (with_reducible refine LeO.bind ?_ (fun _ => ?_))
      | exact ih0 _ _ _ _
      | exact ih1 _ _ _ _
      | exact ih2 _ _ _ _ _ _
      | exact ih3 _ _ _ _
      | exact spec_NameSign.mono _ _
      | exact spec_PutSign.mono _ _
      | exact spec_l3Digit.mono _ _ _
      | exact spec_l3Longest.mono _ _ _
      | exact spec_l3Number.mono _ _ _
      | exact LeO.none _
      | refine LeO.ite ?_ ?_
      | refine LeO.bind ?_ (fun _ => ?_)
    · intro y0 y1 y2 y3 y4 y5
      unfold spec_Ref.j2
      repeat' first
      | (with_reducible exact ih0 _ _ _ _)
      | (with_reducible exact ih1 _ _ _ _)
      | (with_reducible exact ih2 _ _ _ _ _ _)
      | (with_reducible exact ih3 _ _ _ _)
      | (with_reducible exact spec_NameSign.mono _ _)
      | (with_reducible exact spec_PutSign.mono _ _)
      | (with_reducible exact spec_l3Digit.mono _ _ _)
      | (with_reducible exact spec_l3Longest.mono _ _ _)
      | (with_reducible exact spec_l3Number.mono _ _ _)
      | (with_reducible exact LeO.refl _)
      | (with_reducible exact LeO.none _)
      | (with_reducible refine LeO.ite ?_ ?_)
      | (with_reducible refine LeO.bind ?_ (fun _ => ?_))
      | exact ih0 _ _ _ _
      | exact ih1 _ _ _ _
      | exact ih2 _ _ _ _ _ _
      | exact ih3 _ _ _ _
      | exact spec_NameSign.mono _ _
      | exact spec_PutSign.mono _ _
      | exact spec_l3Digit.mono _ _ _
      | exact spec_l3Longest.mono _ _ _
      | exact spec_l3Number.mono _ _ _
      | exact LeO.none _
      | refine LeO.ite ?_ ?_
      | refine LeO.bind ?_ (fun _ => ?_)
    · intro y0 y1 y2 y3
      unfold spec_Ref.j3
      repeat' first
      | (with_reducible exact ih0 _ _ _ _)
      | (with_reducible exact ih1 _ _ _ _)
      | (with_reducible exact ih2 _ _ _ _ _ _)
      | (with_reducible exact ih3 _ _ _ _)
      | (with_reducible exact spec_NameSign.mono _ _)
      | (with_reducible exact spec_PutSign.mono _ _)
      | (with_reducible exact spec_l3Digit.mono _ _ _)
      | (with_reducible exact spec_l3Longest.mono _ _ _)
      | (with_reducible exact spec_l3Number.mono _ _ _)
      | (with_reducible exact LeO.refl _)
      | (with_reducible exact LeO.none _)
      | (with_reducible refine LeO.ite ?_ ?_)
      | (with_reducible refine LeO.bind ?_ (fun _ => ?_))
      | exact ih0 _ _ _ _
      | exact ih1 _ _ _ _
      | exact ih2 _ _ _ _ _ _
      | exact ih3 _ _ _ _
      | exact spec_NameSign.mono _ _
      | exact spec_PutSign.mono _ _
      | exact spec_l3Digit.mono _ _ _
      | exact spec_l3Longest.mono _ _ _
      | exact spec_l3Number.mono _ _ _
      | exact LeO.none _
      | refine LeO.ite ?_ ?_
      | refine LeO.bind ?_ (fun _ => ?_)
theorem spec_Ref.mono : ∀ a0 a1 a2 k, LeO (spec_Ref.f k a0 a1 a2) (spec_Ref.f (k + 1) a0 a1 a2) := by
  intro a0 a1 a2 k
  obtain ⟨ih0, ih1, ih2, ih3⟩ := spec_Ref.mono_l k
  unfold spec_Ref.f
  repeat' first
      | (with_reducible exact ih0 _ _ _ _)
      | (with_reducible exact ih1 _ _ _ _)
      | (with_reducible exact ih2 _ _ _ _ _ _)
      | (with_reducible exact ih3 _ _ _ _)
      | (with_reducible exact spec_NameSign.mono _ _)
      | (with_reducible exact spec_PutSign.mono _ _)
      | (with_reducible exact spec_l3Digit.mono _ _ _)
      | (with_reducible exact spec_l3Longest.mono _ _ _)
      | (with_reducible exact spec_l3Number.mono _ _ _)
      | (with_reducible exact LeO.refl _)
      | (with_reducible exact LeO.none _)
      | (with_reducible refine LeO.ite ?_ ?_)
      | (with_reducible refine LeO.bind ?_ (fun _ => ?_))
      | exact ih0 _ _ _ _
      | exact ih1 _ _ _ _
      | exact ih2 _ _ _ _ _ _
      | exact ih3 _ _ _ _
      | exact spec_NameSign.mono _ _
      | exact spec_PutSign.mono _ _
      | exact spec_l3Digit.mono _ _ _
      | exact spec_l3Longest.mono _ _ _
      | exact spec_l3Number.mono _ _ _
      | exact LeO.none _
      | refine LeO.ite ?_ ?_
      | refine LeO.bind ?_ (fun _ => ?_)
set_option maxHeartbeats 8000000 in
set_option maxRecDepth 100000 in
theorem spec_Ref.calls (k : Nat) (a0 : ByteArray) (a1 : Int) (a2 : Bool) (r1 : ByteArray) (r2 : Int) (w : World) (h : spec_Ref.f k a0 a1 a2 = some (r1, r2)) :
    Calls Try.prog 33 #[.string a0, .int .i64 a1, .bool a2] w fun e w' => e = .returned (.tuple #[.string r1, .int .i64 r2]) ∧ Below w.heap.size w w' := by
  have HB := Aside0.mk (Below.refl w.heap.size w)
  have H : (if a1 < 0 then (spec_Ref.j0 k a0 a1 a2 true) else (if a1 ≥ (a0.size : Int) then (spec_Ref.j0 k a0 a1 a2 true) else (if 0 ≤ a1 then (if a1 < (a0.size : Int) then (spec_Ref.j0 k a0 a1 a2 ((bt a0 a1) != 38)) else (none)) else (none)))) = some (r1, r2) := h
  clear h
  have HC4 := Aside0.mk H
  clear H
  go_enter Try.func33, Try.ntmps33
  go_upto_region 1 with (fail)
  go_cut [25] (fun v25 wc => ∃ (kq : Nat) (x25_3 : Bool), v25 = .bool x25_3 ∧ Aside0 (spec_Ref.j0 kq a0 a1 a2 x25_3 = some (r1, r2)) ∧ Aside0 (kq ≤ k) ∧ Aside0 (Below w.heap.size w wc))
  case first =>
    have H := HC4.out
    clear HC4
    by_cases c5 : a1 < 0
    · rw [if_pos c5] at H
      have c5b0 : decide (a1 < 0) = true := decide_eq_true c5
      clear c5
      (first | rw [c5b0] | (simp only [i64_w, i32_w]; rw [c5b0]) | skip)
      have H' := Aside0.mk H
      clear H
      go_wp2
      go_meet
      case rel => exact ⟨_, (true), (by first | rfl | (simp; done) | (simp [*]; done)), H', ⟨by first | omega | exact Nat.le_refl _⟩, ⟨by repeat (first | (with_reducible first | exact HB.out | apply below_alloc | apply pw_below_drewN | apply below_drew1) | exact HB.out)⟩⟩
    · rw [if_neg c5] at H
      have c5b0 : decide (a1 < 0) = false := decide_eq_false c5
      clear c5
      (first | rw [c5b0] | (simp only [i64_w, i32_w]; rw [c5b0]) | skip)
      by_cases c6 : a1 ≥ (a0.size : Int)
      · rw [if_pos c6] at H
        have c6b0 : decide ((a0.size : Int) ≤ a1) = true := decide_eq_true c6
        clear c6
        have H' := Aside0.mk H
        clear H
        go_wp2
        go_meet
        case rel => exact ⟨_, (true), (by first | rfl | (simp; done) | (simp [*]; done)), H', ⟨by first | omega | exact Nat.le_refl _⟩, ⟨by repeat (first | (with_reducible first | exact HB.out | apply below_alloc | apply pw_below_drewN | apply below_drew1) | exact HB.out)⟩⟩
      · rw [if_neg c6] at H
        have c6b0 : decide ((a0.size : Int) ≤ a1) = false := decide_eq_false c6
        clear c6
        by_cases c7 : 0 ≤ a1
        · rw [if_pos c7] at H
          have c7b0 : decide (0 ≤ a1) = true := decide_eq_true c7
          clear c7
          by_cases c8 : a1 < (a0.size : Int)
          · rw [if_pos c8] at H
            have c8b0 : decide (a1 < (a0.size : Int)) = true := decide_eq_true c8
            clear c8
            have H' := Aside0.mk H
            clear H
            have p9 : 0 ≤ (a1 : Int) := of_decide_eq_true (by first | (with_reducible assumption) | assumption)
            have q9 : a1 < (a0.size : Int) := of_decide_eq_true (by first | (with_reducible assumption) | assumption)
            have hx9 := bt_at a0 a1
            replace p9 := eq_true p9
            replace q9 := eq_true q9
            go_wp2
            go_meet
            case rel => exact ⟨_, (((bt a0 a1) != 38)), (by first | rfl | (simp; done) | (simp [*]; done)), H', ⟨by first | omega | exact Nat.le_refl _⟩, ⟨by repeat (first | (with_reducible first | exact HB.out | apply below_alloc | apply pw_below_drewN | apply below_drew1) | exact HB.out)⟩⟩
          · rw [if_neg c8] at H
            exact absurd H (by simp)
        · rw [if_neg c7] at H
          exact absurd H (by simp)
  case rest =>
    clear HC4
    try clear p2
    try clear c3
    try clear c5
    try clear c5b0
    try clear c6
    try clear c6b0
    try clear c7
    try clear c7b0
    try clear c8
    try clear c8b0
    try clear p9
    try clear q9
    try clear hx9
    try clear p9
    try clear q9
    obtain ⟨kq, x25_3, rfl, HA, HJ3, HB⟩ := hcut
    cases kq with
    | zero => exact absurd HA.out (by simp [spec_Ref.j0])
    | succ kj3 =>
      have H := HA.out
      clear HA
      simp only [spec_Ref.j0] at H
      by_cases c10 : x25_3 = true
      · subst c10
        have H1 : (some ((⟨#[]⟩ : ByteArray), 0)) = some (r1, r2) := by rw [if_pos rfl] at H; exact H
        clear H
        have H := H1
        clear H1
        simp only [Option.some.injEq, Prod.mk.injEq] at H
        obtain ⟨rfl, rfl⟩ := H
        go_wp2
        go_ret2
        exact ⟨by first | rfl | (rw [← ZA29_A46.out]; rfl) | (rw [← ZA46_A29.out]; rfl) | (simp [errW_none, errW_some] <;> rfl) | (simp [*, errW_none, errW_some] <;> rfl), by repeat (first | (with_reducible first | exact HB.out | apply below_alloc | apply pw_below_drewN | apply below_drew1) | exact HB.out)⟩
      · replace c10 := Bool.eq_false_iff.mpr c10
        subst c10
        have H1 : (if (wrap64 (a1 + 1)) < (a0.size : Int) then (if 0 ≤ (wrap64 (a1 + 1)) then (spec_Ref.j1 kj3 a0 a1 a2 ((bt a0 (wrap64 (a1 + 1))) == 35)) else (none)) else (spec_Ref.j1 kj3 a0 a1 a2 false)) = some (r1, r2) := by rw [if_neg (show ¬ (false = true) by decide)] at H; exact H
        clear H
        have H := H1
        clear H1
        have HC11 := Aside0.mk H
        clear H
        go_upto_region 3 with (fail)
        go_cut [37] (fun v37 wc => ∃ (kq : Nat) (x37_10 : Bool), v37 = .bool x37_10 ∧ Aside0 (spec_Ref.j1 kq a0 a1 a2 x37_10 = some (r1, r2)) ∧ Aside0 (kq ≤ kj3) ∧ Aside0 (Below w.heap.size w wc))
        case first =>
          have H := HC11.out
          clear HC11
          by_cases c12 : (wrap64 (a1 + 1)) < (a0.size : Int)
          · rw [if_pos c12] at H
            have c12b0 : decide ((wrap64 (a1 + 1)) < (a0.size : Int)) = true := decide_eq_true c12
            clear c12
            (first | rw [c12b0] | (simp only [i64_w, i32_w]; rw [c12b0]) | skip)
            obtain ⟨ji13, hji13⟩ : ∃ j_ : Int, (wrap64 (a1 + 1)) = j_ := ⟨_, rfl⟩
            replace H : (if 0 ≤ (ji13) then (spec_Ref.j1 kj3 a0 a1 a2 ((bt a0 (ji13)) == 35)) else (none)) = some (r1, r2) := by first | (rw [hji13] at H; exact H) | (simp only [hji13] at H ⊢; exact H)
            (try rw [hji13] at c12b0)
            have hji13w : (IntKind.i64.wrap (a1 + 1)) = ji13 := (i64_w _).trans hji13
            by_cases c14 : 0 ≤ (ji13)
            · rw [if_pos c14] at H
              have c14b0 : decide (0 ≤ (ji13)) = true := decide_eq_true c14
              clear c14
              have H' := Aside0.mk H
              clear H
              have p15 : 0 ≤ ((ji13) : Int) := of_decide_eq_true (by first | (with_reducible assumption) | assumption)
              have q15 : (ji13) < (a0.size : Int) := of_decide_eq_true (by first | (with_reducible assumption) | assumption)
              have hx15 := bt_at a0 (ji13)
              replace p15 := eq_true p15
              replace q15 := eq_true q15
              go_wp2
              (try subst hji13)
              go_meet
              case rel => exact ⟨_, (((bt a0 ((wrap64 (a1 + 1)))) == 35)), (by first | rfl | (simp; done) | (simp only [← hji13] <;> (first | rfl | simp)) | (simp [*]; done)), H', ⟨by have := HJ3.out; first | omega | exact Nat.le_refl _⟩, ⟨by repeat (first | (with_reducible first | exact HB.out | apply below_alloc | apply pw_below_drewN | apply below_drew1) | exact HB.out)⟩⟩
            · rw [if_neg c14] at H
              exact absurd H (by simp)
          · rw [if_neg c12] at H
            have c12b0 : decide ((wrap64 (a1 + 1)) < (a0.size : Int)) = false := decide_eq_false c12
            clear c12
            (first | rw [c12b0] | (simp only [i64_w, i32_w]; rw [c12b0]) | skip)
            have H' := Aside0.mk H
            clear H
            go_wp2
            (try subst hji13)
            go_meet
            case rel => exact ⟨_, (false), (by first | rfl | (simp; done) | (simp [*]; done)), H', ⟨by have := HJ3.out; first | omega | exact Nat.le_refl _⟩, ⟨by repeat (first | (with_reducible first | exact HB.out | apply below_alloc | apply pw_below_drewN | apply below_drew1) | exact HB.out)⟩⟩
        case rest =>
          clear HC11
          try clear c1
          try clear p1
          try clear q1
          try clear hx1
          try clear p2
          try clear c3
          try clear c5
          try clear c5b0
          try clear c6
          try clear c6b0
          try clear p6
          try clear c7
          try clear c7b0
          try clear c8
          try clear c8b0
          try clear p9
          try clear q9
          try clear hx9
          try clear c10
          try clear c12
          try clear c12b0
          try clear c14
          try clear c14b0
          try clear p15
          try clear q15
          try clear hx15
          try clear p15
          try clear p2
          try clear p9
          try clear q15
          try clear q9
          obtain ⟨kq, x37_10, rfl, HA, HJ10, HB⟩ := hcut
          cases kq with
          | zero => exact absurd HA.out (by simp [spec_Ref.j1])
          | succ kj10 =>
            have H := HA.out
            clear HA
            simp only [spec_Ref.j1] at H
            by_cases c16 : x37_10 = true
            · subst c16
              have H1 : ((spec_l3Number.f kj10 a0 a1).bind fun bt148 => (some (bt148.1, bt148.2))) = some (r1, r2) := by rw [if_pos rfl] at H; exact H
              clear H
              have H := H1
              clear H1
              replace H := Option.bind_eq_some_iff.mp H
              obtain ⟨⟨t148, t149⟩, A170, H⟩ := H
              replace H : (some (t148, t149)) = some (r1, r2) := H
              have A17 := Aside0.mk A170
              clear A170
              simp only [Option.some.injEq, Prod.mk.injEq] at H
              obtain ⟨rfl, rfl⟩ := H
              go_wp2_with (first | ((with_reducible refine gate_callee (f := 66) rfl ?_); refine goesL_ (some 41) rfl rfl Try.func66 (by kernel_rfl) rfl #[.string a0, .int .i64 a1] rfl (by (try simp only [List.map_toArray, List.map_cons, List.map_nil]); first | done | rfl | (simp only [List.length_drop, List.length_take]; rfl)) ?_; (with_reducible refine (spec_l3Number.calls kj10 a0 a1 t148 t149 _ A17.out).mono ?_); rintro e w18 ⟨rfl, hb⟩; refine ⟨_, rfl, ?_⟩; have n0_ := Aside0.mk (below_step (by repeat (first | (with_reducible first | exact HB.out | apply below_alloc | apply pw_below_drewN | apply below_drew1) | exact HB.out)) hb); clear HB; have HB := n0_; clear n0_; (try clear hb); (try clear hb2); (try clear hk); (try clear hi)))
              go_ret2
              exact ⟨by first | rfl | (rw [← ZA29_A46.out]; rfl) | (rw [← ZA46_A29.out]; rfl) | (simp [errW_none, errW_some] <;> rfl) | (simp [*, errW_none, errW_some] <;> rfl), by repeat (first | (with_reducible first | exact HB.out | apply below_alloc | apply pw_below_drewN | apply below_drew1) | exact HB.out)⟩
            · replace c16 := Bool.eq_false_iff.mpr c16
              subst c16
              have H1 : ((spec_l3Longest.f kj10 a0 (wrap64 (a1 + 1))).bind fun t150 => (if t150.toList = ([] : List UInt8) then (some ((⟨#[]⟩ : ByteArray), 0)) else (if (wrap64 ((wrap64 (a1 + 1)) + (t150.size : Int))) < (a0.size : Int) then (if 0 ≤ (wrap64 ((wrap64 (a1 + 1)) + (t150.size : Int))) then (spec_Ref.j2 kj10 a0 a1 a2 t150 (wrap64 ((wrap64 (a1 + 1)) + (t150.size : Int))) ((bt a0 (wrap64 ((wrap64 (a1 + 1)) + (t150.size : Int)))) == 59)) else (none)) else (spec_Ref.j2 kj10 a0 a1 a2 t150 (wrap64 ((wrap64 (a1 + 1)) + (t150.size : Int))) false)))) = some (r1, r2) := by rw [if_neg (show ¬ (false = true) by decide)] at H; exact H
              clear H
              have H := H1
              clear H1
              replace H := Option.bind_eq_some_iff.mp H
              obtain ⟨t150, A190, H⟩ := H
              replace H : (if t150.toList = ([] : List UInt8) then (some ((⟨#[]⟩ : ByteArray), 0)) else (if (wrap64 ((wrap64 (a1 + 1)) + (t150.size : Int))) < (a0.size : Int) then (if 0 ≤ (wrap64 ((wrap64 (a1 + 1)) + (t150.size : Int))) then (spec_Ref.j2 kj10 a0 a1 a2 t150 (wrap64 ((wrap64 (a1 + 1)) + (t150.size : Int))) ((bt a0 (wrap64 ((wrap64 (a1 + 1)) + (t150.size : Int)))) == 59)) else (none)) else (spec_Ref.j2 kj10 a0 a1 a2 t150 (wrap64 ((wrap64 (a1 + 1)) + (t150.size : Int))) false))) = some (r1, r2) := H
              have A19 := Aside0.mk A190
              clear A190
              by_cases c20 : t150.toList = ([] : List UInt8)
              · rw [if_pos c20] at H
                have c20b0 : (t150.toList == ([] : List UInt8)) = true := beq_iff_eq.mpr c20
                have c20b1 : (t150.toList != ([] : List UInt8)) = false := bne_eq_false_iff_eq.mpr c20
                clear c20
                simp only [Option.some.injEq, Prod.mk.injEq] at H
                obtain ⟨rfl, rfl⟩ := H
                go_wp2_with (first | ((with_reducible refine gate_callee (f := 67) rfl ?_); refine goesL_ (some 49) rfl rfl Try.func67 (by kernel_rfl) rfl #[.string a0, .int .i64 (wrap64 (a1 + 1))] rfl (by (try simp only [List.map_toArray, List.map_cons, List.map_nil]); first | done | rfl | (simp only [List.length_drop, List.length_take]; rfl)) ?_; (with_reducible refine (spec_l3Longest.calls kj10 a0 (wrap64 (a1 + 1)) t150 _ A19.out).mono ?_); rintro e w21 ⟨rfl, hb⟩; refine ⟨_, rfl, ?_⟩; have n0_ := Aside0.mk (below_step (by repeat (first | (with_reducible first | exact HB.out | apply below_alloc | apply pw_below_drewN | apply below_drew1) | exact HB.out)) hb); clear HB; have HB := n0_; clear n0_; (try clear hb); (try clear hb2); (try clear hk); (try clear hi)))
                go_ret2
                exact ⟨by first | rfl | (rw [← ZA29_A46.out]; rfl) | (rw [← ZA46_A29.out]; rfl) | (simp [errW_none, errW_some] <;> rfl) | (simp [*, errW_none, errW_some] <;> rfl), by repeat (first | (with_reducible first | exact HB.out | apply below_alloc | apply pw_below_drewN | apply below_drew1) | exact HB.out)⟩
              · rw [if_neg c20] at H
                have c20b0 : (t150.toList == ([] : List UInt8)) = false := beq_eq_false_iff_ne.mpr c20
                have c20b1 : (t150.toList != ([] : List UInt8)) = true := bne_iff_ne.mpr c20
                have HC22 := Aside0.mk H
                clear H
                go_upto_region 10 with (first | ((with_reducible refine gate_callee (f := 67) rfl ?_); refine goesL_ (some 49) rfl rfl Try.func67 (by kernel_rfl) rfl #[.string a0, .int .i64 (wrap64 (a1 + 1))] rfl (by (try simp only [List.map_toArray, List.map_cons, List.map_nil]); first | done | rfl | (simp only [List.length_drop, List.length_take]; rfl)) ?_; (with_reducible refine (spec_l3Longest.calls kj10 a0 (wrap64 (a1 + 1)) t150 _ A19.out).mono ?_); rintro e w23 ⟨rfl, hb⟩; refine ⟨_, rfl, ?_⟩; have n0_ := Aside0.mk (below_step (by repeat (first | (with_reducible first | exact HB.out | apply below_alloc | apply pw_below_drewN | apply below_drew1) | exact HB.out)) hb); clear HB; have HB := n0_; clear n0_; (try clear hb); (try clear hb2); (try clear hk); (try clear hi)))
                (try simp only [Act.put, List.setIfInBounds_toArray, List.set_cons_zero, List.set_cons_succ])
                go_cut [66] (fun v66 wc => ∃ (kq : Nat) (x66_21 : Bool), v66 = .bool x66_21 ∧ Aside0 (spec_Ref.j2 kq a0 a1 a2 t150 (wrap64 ((wrap64 (a1 + 1)) + (t150.size : Int))) x66_21 = some (r1, r2)) ∧ Aside0 (kq ≤ kj10) ∧ Aside0 (Below w.heap.size w wc))
                case first =>
                  have H := HC22.out
                  clear HC22
                  by_cases c24 : (wrap64 ((wrap64 (a1 + 1)) + (t150.size : Int))) < (a0.size : Int)
                  · rw [if_pos c24] at H
                    have c24b0 : decide ((wrap64 ((wrap64 (a1 + 1)) + (t150.size : Int))) < (a0.size : Int)) = true := decide_eq_true c24
                    clear c24
                    (first | rw [c24b0] | (simp only [i64_w, i32_w]; rw [c24b0]) | skip)
                    obtain ⟨ji25, hji25⟩ : ∃ j_ : Int, (wrap64 ((wrap64 (a1 + 1)) + (t150.size : Int))) = j_ := ⟨_, rfl⟩
                    replace H : (if 0 ≤ (ji25) then (spec_Ref.j2 kj10 a0 a1 a2 t150 ji25 ((bt a0 (ji25)) == 59)) else (none)) = some (r1, r2) := by first | (rw [hji25] at H; exact H) | (simp only [hji25] at H ⊢; exact H)
                    (try rw [hji25] at c24b0)
                    have hji25w : (IntKind.i64.wrap ((wrap64 (a1 + 1)) + (t150.size : Int))) = ji25 := (i64_w _).trans hji25
                    by_cases c26 : 0 ≤ (ji25)
                    · rw [if_pos c26] at H
                      have c26b0 : decide (0 ≤ (ji25)) = true := decide_eq_true c26
                      clear c26
                      have H' := Aside0.mk H
                      clear H
                      have p27 : 0 ≤ ((ji25) : Int) := of_decide_eq_true (by first | (with_reducible assumption) | assumption)
                      have q27 : (ji25) < (a0.size : Int) := of_decide_eq_true (by first | (with_reducible assumption) | assumption)
                      have hx27 := bt_at a0 (ji25)
                      replace p27 := eq_true p27
                      replace q27 := eq_true q27
                      go_wp2
                      (try subst hji25)
                      go_meet
                      case rel => exact ⟨_, (((bt a0 ((wrap64 ((wrap64 (a1 + 1)) + (t150.size : Int))))) == 59)), (by first | rfl | (simp; done) | (simp only [← hji25] <;> (first | rfl | simp)) | (simp [*]; done)), H', ⟨by have := HJ3.out; have := HJ10.out; first | omega | exact Nat.le_refl _⟩, ⟨by repeat (first | (with_reducible first | exact HB.out | apply below_alloc | apply pw_below_drewN | apply below_drew1) | exact HB.out)⟩⟩
                    · rw [if_neg c26] at H
                      exact absurd H (by simp)
                  · rw [if_neg c24] at H
                    have c24b0 : decide ((wrap64 ((wrap64 (a1 + 1)) + (t150.size : Int))) < (a0.size : Int)) = false := decide_eq_false c24
                    clear c24
                    (first | rw [c24b0] | (simp only [i64_w, i32_w]; rw [c24b0]) | skip)
                    have H' := Aside0.mk H
                    clear H
                    go_wp2
                    (try subst hji25)
                    go_meet
                    case rel => exact ⟨_, (false), (by first | rfl | (simp; done) | (simp [*]; done)), H', ⟨by have := HJ3.out; have := HJ10.out; first | omega | exact Nat.le_refl _⟩, ⟨by repeat (first | (with_reducible first | exact HB.out | apply below_alloc | apply pw_below_drewN | apply below_drew1) | exact HB.out)⟩⟩
                case rest =>
                  clear HC22
                  try clear c1
                  try clear p1
                  try clear q1
                  try clear hx1
                  try clear c2
                  try clear p2
                  try clear q2
                  try clear hx2
                  try clear c3
                  try clear c5
                  try clear c5b0
                  try clear c6
                  try clear c6b0
                  try clear p6
                  try clear c7
                  try clear c7b0
                  try clear c8
                  try clear c8b0
                  try clear p9
                  try clear q9
                  try clear hx9
                  try clear c10
                  try clear c12
                  try clear c12b0
                  try clear c14
                  try clear c14b0
                  try clear p15
                  try clear q15
                  try clear hx15
                  try clear c16
                  try clear c20
                  try clear c20b0
                  try clear c20b1
                  try clear c24
                  try clear c24b0
                  try clear c26
                  try clear c26b0
                  try clear p27
                  try clear q27
                  try clear hx27
                  try clear p1
                  try clear p15
                  try clear p2
                  try clear p27
                  try clear p6
                  try clear p9
                  try clear q1
                  try clear q15
                  try clear q27
                  try clear q9
                  obtain ⟨kq, x66_21, rfl, HA, HJ21, HB⟩ := hcut
                  cases kq with
                  | zero => exact absurd HA.out (by simp [spec_Ref.j2])
                  | succ kj21 =>
                    have H := HA.out
                    clear HA
                    simp only [spec_Ref.j2] at H
                    by_cases c28 : x66_21 = true
                    · subst c28
                      have H1 : ((spec_NameSign.f kj21 t150).bind fun t151 => ((spec_PutSign.f kj21 t151).bind fun t152 => (some (t152, wrap64 ((wrap64 ((wrap64 ((wrap64 (a1 + 1)) + (t150.size : Int))) + 1)) - a1))))) = some (r1, r2) := by rw [if_pos rfl] at H; exact H
                      clear H
                      have H := H1
                      clear H1
                      replace H := Option.bind_eq_some_iff.mp H
                      obtain ⟨t151, A290, H⟩ := H
                      replace H : ((spec_PutSign.f kj21 t151).bind fun t152 => (some (t152, wrap64 ((wrap64 ((wrap64 ((wrap64 (a1 + 1)) + (t150.size : Int))) + 1)) - a1)))) = some (r1, r2) := H
                      have A29 := Aside0.mk A290
                      clear A290
                      try have ZA29_A46 := Aside0.mk (Option.some.inj (A46.out.symm.trans A29.out))
                      replace H := Option.bind_eq_some_iff.mp H
                      obtain ⟨t152, A300, H⟩ := H
                      replace H : (some (t152, wrap64 ((wrap64 ((wrap64 ((wrap64 (a1 + 1)) + (t150.size : Int))) + 1)) - a1))) = some (r1, r2) := H
                      have A30 := Aside0.mk A300
                      clear A300
                      simp only [Option.some.injEq, Prod.mk.injEq] at H
                      obtain ⟨rfl, rfl⟩ := H
                      go_wp2_with (first | ((with_reducible refine gate_callee (f := 68) rfl ?_); refine goesL_ (some 68) rfl rfl Try.func68 (by kernel_rfl) rfl #[.string t150] rfl (by (try simp only [List.map_toArray, List.map_cons, List.map_nil]); first | done | rfl | (simp only [List.length_drop, List.length_take]; rfl)) ?_; (with_reducible refine (spec_NameSign.calls kj21 t150 t151 _ A29.out).mono ?_); rintro e w31 ⟨rfl, hb⟩; refine ⟨_, rfl, ?_⟩; have n0_ := Aside0.mk (below_step (by repeat (first | (with_reducible first | exact HB.out | apply below_alloc | apply pw_below_drewN | apply below_drew1) | exact HB.out)) hb); clear HB; have HB := n0_; clear n0_; (try clear hb); (try clear hb2); (try clear hk); (try clear hi)) | ((with_reducible refine gate_callee (f := 48) rfl ?_); refine goesL_ (some 69) rfl rfl Try.func48 (by kernel_rfl) rfl #[.int .i64 t151] rfl (by (try simp only [List.map_toArray, List.map_cons, List.map_nil]); first | done | rfl | (simp only [List.length_drop, List.length_take]; rfl)) ?_; (with_reducible refine (spec_PutSign.calls kj21 t151 t152 _ A30.out).mono ?_); rintro e w32 ⟨rfl, hb⟩; refine ⟨_, rfl, ?_⟩; have n0_ := Aside0.mk (below_step (by repeat (first | (with_reducible first | exact HB.out | apply below_alloc | apply pw_below_drewN | apply below_drew1) | exact HB.out)) hb); clear HB; have HB := n0_; clear n0_; (try clear hb); (try clear hb2); (try clear hk); (try clear hi)))
                      go_ret2
                      exact ⟨by first | rfl | (rw [← ZA29_A46.out]; rfl) | (rw [← ZA46_A29.out]; rfl) | (simp [errW_none, errW_some] <;> rfl) | (simp [*, errW_none, errW_some] <;> rfl), by repeat (first | (with_reducible first | exact HB.out | apply below_alloc | apply pw_below_drewN | apply below_drew1) | exact HB.out)⟩
                    · replace c28 := Bool.eq_false_iff.mpr c28
                      subst c28
                      have H1 : (if a2 = true then (if (wrap64 ((wrap64 (a1 + 1)) + (t150.size : Int))) < (a0.size : Int) then (if 0 ≤ (wrap64 ((wrap64 (a1 + 1)) + (t150.size : Int))) then (if (bt a0 (wrap64 ((wrap64 (a1 + 1)) + (t150.size : Int)))) = 61 then (spec_Ref.j3 kj21 a1 t150 (wrap64 ((wrap64 (a1 + 1)) + (t150.size : Int))) true) else ((spec_IsLetter.f (wrap64 (bt a0 (wrap64 ((wrap64 (a1 + 1)) + (t150.size : Int)))))).bind fun t153 => (if t153 = true then (spec_Ref.j3 kj21 a1 t150 (wrap64 ((wrap64 (a1 + 1)) + (t150.size : Int))) true) else ((spec_l3Digit.f kj21 (bt a0 (wrap64 ((wrap64 (a1 + 1)) + (t150.size : Int)))) false).bind fun t154 => (spec_Ref.j3 kj21 a1 t150 (wrap64 ((wrap64 (a1 + 1)) + (t150.size : Int))) (decide (t154 ≥ 0))))))) else (none)) else (spec_Ref.j3 kj21 a1 t150 (wrap64 ((wrap64 (a1 + 1)) + (t150.size : Int))) false)) else (spec_Ref.j3 kj21 a1 t150 (wrap64 ((wrap64 (a1 + 1)) + (t150.size : Int))) false)) = some (r1, r2) := by rw [if_neg (show ¬ (false = true) by decide)] at H; exact H
                      clear H
                      have H := H1
                      clear H1
                      have HC33 := Aside0.mk H
                      clear H
                      go_upto_region 12 with (fail)
                      go_cut [100] (fun v100 wc => ∃ (kq : Nat) (x100_32 : Bool), v100 = .bool x100_32 ∧ Aside0 (spec_Ref.j3 kq a1 t150 (wrap64 ((wrap64 (a1 + 1)) + (t150.size : Int))) x100_32 = some (r1, r2)) ∧ Aside0 (kq ≤ kj21) ∧ Aside0 (Below w.heap.size w wc))
                      case first =>
                        have H := HC33.out
                        clear HC33
                        by_cases c34 : a2 = true
                        · subst c34
                          have H1 : (if (wrap64 ((wrap64 (a1 + 1)) + (t150.size : Int))) < (a0.size : Int) then (if 0 ≤ (wrap64 ((wrap64 (a1 + 1)) + (t150.size : Int))) then (if (bt a0 (wrap64 ((wrap64 (a1 + 1)) + (t150.size : Int)))) = 61 then (spec_Ref.j3 kj21 a1 t150 (wrap64 ((wrap64 (a1 + 1)) + (t150.size : Int))) true) else ((spec_IsLetter.f (wrap64 (bt a0 (wrap64 ((wrap64 (a1 + 1)) + (t150.size : Int)))))).bind fun t153 => (if t153 = true then (spec_Ref.j3 kj21 a1 t150 (wrap64 ((wrap64 (a1 + 1)) + (t150.size : Int))) true) else ((spec_l3Digit.f kj21 (bt a0 (wrap64 ((wrap64 (a1 + 1)) + (t150.size : Int)))) false).bind fun t154 => (spec_Ref.j3 kj21 a1 t150 (wrap64 ((wrap64 (a1 + 1)) + (t150.size : Int))) (decide (t154 ≥ 0))))))) else (none)) else (spec_Ref.j3 kj21 a1 t150 (wrap64 ((wrap64 (a1 + 1)) + (t150.size : Int))) false)) = some (r1, r2) := by rw [if_pos rfl] at H; exact H
                          clear H
                          have H := H1
                          clear H1
                          by_cases c35 : (wrap64 ((wrap64 (a1 + 1)) + (t150.size : Int))) < (a0.size : Int)
                          · rw [if_pos c35] at H
                            have c35b0 : decide ((wrap64 ((wrap64 (a1 + 1)) + (t150.size : Int))) < (a0.size : Int)) = true := decide_eq_true c35
                            clear c35
                            (first | rw [c35b0] | (simp only [i64_w, i32_w]; rw [c35b0]) | skip)
                            obtain ⟨ji36, hji36⟩ : ∃ j_ : Int, (wrap64 ((wrap64 (a1 + 1)) + (t150.size : Int))) = j_ := ⟨_, rfl⟩
                            replace H : (if 0 ≤ (ji36) then (if (bt a0 (ji36)) = 61 then (spec_Ref.j3 kj21 a1 t150 (ji36) true) else ((spec_IsLetter.f (wrap64 (bt a0 (ji36)))).bind fun t153 => (if t153 = true then (spec_Ref.j3 kj21 a1 t150 (ji36) true) else ((spec_l3Digit.f kj21 (bt a0 (ji36)) false).bind fun t154 => (spec_Ref.j3 kj21 a1 t150 (ji36) (decide (t154 ≥ 0))))))) else (none)) = some (r1, r2) := by first | (rw [hji36] at H; exact H) | (simp only [hji36] at H ⊢; exact H)
                            (try rw [hji36] at c35b0)
                            have hji36w : (IntKind.i64.wrap ((wrap64 (a1 + 1)) + (t150.size : Int))) = ji36 := (i64_w _).trans hji36
                            by_cases c37 : 0 ≤ (ji36)
                            · rw [if_pos c37] at H
                              have c37b0 : decide (0 ≤ (ji36)) = true := decide_eq_true c37
                              clear c37
                              by_cases c39 : (bt a0 (ji36)) = 61
                              · rw [if_pos c39] at H
                                have c39b0 : ((bt a0 (ji36)) == 61) = true := beq_iff_eq.mpr c39
                                have c39b1 : ((bt a0 (ji36)) != 61) = false := bne_eq_false_iff_eq.mpr c39
                                clear c39
                                have H' := Aside0.mk H
                                clear H
                                have p38 : 0 ≤ ((ji36) : Int) := of_decide_eq_true (by first | (with_reducible assumption) | assumption)
                                have q38 : (ji36) < (a0.size : Int) := of_decide_eq_true (by first | (with_reducible assumption) | assumption)
                                have hx38 := bt_at a0 (ji36)
                                replace p38 := eq_true p38
                                replace q38 := eq_true q38
                                go_wp2
                                (try subst hji36)
                                go_meet
                                case rel => exact ⟨_, (true), (by first | rfl | (simp; done) | (simp [*]; done)), H', ⟨by have := HJ3.out; have := HJ10.out; have := HJ21.out; first | omega | exact Nat.le_refl _⟩, ⟨by repeat (first | (with_reducible first | exact HB.out | apply below_alloc | apply pw_below_drewN | apply below_drew1) | exact HB.out)⟩⟩
                              · rw [if_neg c39] at H
                                have c39b0 : ((bt a0 (ji36)) == 61) = false := beq_eq_false_iff_ne.mpr c39
                                have c39b1 : ((bt a0 (ji36)) != 61) = true := bne_iff_ne.mpr c39
                                replace H := Option.bind_eq_some_iff.mp H
                                obtain ⟨t153, A410, H⟩ := H
                                replace H : (if t153 = true then (spec_Ref.j3 kj21 a1 t150 (ji36) true) else ((spec_l3Digit.f kj21 (bt a0 (ji36)) false).bind fun t154 => (spec_Ref.j3 kj21 a1 t150 (ji36) (decide (t154 ≥ 0))))) = some (r1, r2) := H
                                have A41 := Aside0.mk A410
                                clear A410
                                by_cases c42 : t153 = true
                                · subst c42
                                  have H1 : (spec_Ref.j3 kj21 a1 t150 (ji36) true) = some (r1, r2) := by rw [if_pos rfl] at H; exact H
                                  clear H
                                  have H := H1
                                  clear H1
                                  have H' := Aside0.mk H
                                  clear H
                                  have p38 : 0 ≤ ((ji36) : Int) := of_decide_eq_true (by first | (with_reducible assumption) | assumption)
                                  have q38 : (ji36) < (a0.size : Int) := of_decide_eq_true (by first | (with_reducible assumption) | assumption)
                                  have hx38 := bt_at a0 (ji36)
                                  replace p38 := eq_true p38
                                  replace q38 := eq_true q38
                                  have p40 : 0 ≤ ((ji36) : Int) := of_decide_eq_true (by first | (with_reducible assumption) | assumption)
                                  have q40 : (ji36) < (a0.size : Int) := of_decide_eq_true (by first | (with_reducible assumption) | assumption)
                                  have hx40 := bt_at a0 (ji36)
                                  replace p40 := eq_true p40
                                  replace q40 := eq_true q40
                                  go_wp2_with (first | (go_at_call 69; (with_reducible refine (spec_IsLetter.calls (wrap64 (bt a0 (ji36))) true _ A41.out).mono ?_); rintro e w' ⟨rfl, ⟨nd, rfl⟩⟩))
                                  (try subst hji36)
                                  go_meet
                                  case rel => exact ⟨_, (true), (by first | rfl | (simp; done) | (simp [*]; done)), H', ⟨by have := HJ3.out; have := HJ10.out; have := HJ21.out; first | omega | exact Nat.le_refl _⟩, ⟨by repeat (first | (with_reducible first | exact HB.out | apply below_alloc | apply pw_below_drewN | apply below_drew1) | exact HB.out)⟩⟩
                                · replace c42 := Bool.eq_false_iff.mpr c42
                                  subst c42
                                  have H1 : ((spec_l3Digit.f kj21 (bt a0 (ji36)) false).bind fun t154 => (spec_Ref.j3 kj21 a1 t150 (ji36) (decide (t154 ≥ 0)))) = some (r1, r2) := by rw [if_neg (show ¬ (false = true) by decide)] at H; exact H
                                  clear H
                                  have H := H1
                                  clear H1
                                  replace H := Option.bind_eq_some_iff.mp H
                                  obtain ⟨t154, A440, H⟩ := H
                                  replace H : (spec_Ref.j3 kj21 a1 t150 (ji36) (decide (t154 ≥ 0))) = some (r1, r2) := H
                                  have A44 := Aside0.mk A440
                                  clear A440
                                  have H' := Aside0.mk H
                                  clear H
                                  have p38 : 0 ≤ ((ji36) : Int) := of_decide_eq_true (by first | (with_reducible assumption) | assumption)
                                  have q38 : (ji36) < (a0.size : Int) := of_decide_eq_true (by first | (with_reducible assumption) | assumption)
                                  have hx38 := bt_at a0 (ji36)
                                  replace p38 := eq_true p38
                                  replace q38 := eq_true q38
                                  have p40 : 0 ≤ ((ji36) : Int) := of_decide_eq_true (by first | (with_reducible assumption) | assumption)
                                  have q40 : (ji36) < (a0.size : Int) := of_decide_eq_true (by first | (with_reducible assumption) | assumption)
                                  have hx40 := bt_at a0 (ji36)
                                  replace p40 := eq_true p40
                                  replace q40 := eq_true q40
                                  go_wp2_with (first | (go_at_call 69; (with_reducible refine (spec_IsLetter.calls (wrap64 (bt a0 (ji36))) false _ A41.out).mono ?_); rintro e w' ⟨rfl, ⟨nd, rfl⟩⟩; have p43 : 0 ≤ ((ji36) : Int) := of_decide_eq_true (by first | (with_reducible assumption) | assumption); have q43 : (ji36) < (a0.size : Int) := of_decide_eq_true (by first | (with_reducible assumption) | assumption); have hx43 := bt_at a0 (ji36); replace p43 := eq_true p43; replace q43 := eq_true q43) | (go_at_call 70; (with_reducible refine (spec_l3Digit.calls kj21 (bt a0 (ji36)) false t154 _ A44.out).mono ?_); rintro e w' ⟨rfl, ⟨nd, rfl⟩⟩))
                                  (try subst hji36)
                                  go_meet
                                  case rel => exact ⟨_, (decide (t154 ≥ 0)), (by first | rfl | (simp; done) | (simp [*]; done)), H', ⟨by have := HJ3.out; have := HJ10.out; have := HJ21.out; first | omega | exact Nat.le_refl _⟩, ⟨by repeat (first | (with_reducible first | exact HB.out | apply below_alloc | apply pw_below_drewN | apply below_drew1) | exact HB.out)⟩⟩
                            · rw [if_neg c37] at H
                              exact absurd H (by simp)
                          · rw [if_neg c35] at H
                            have c35b0 : decide ((wrap64 ((wrap64 (a1 + 1)) + (t150.size : Int))) < (a0.size : Int)) = false := decide_eq_false c35
                            clear c35
                            (first | rw [c35b0] | (simp only [i64_w, i32_w]; rw [c35b0]) | skip)
                            have H' := Aside0.mk H
                            clear H
                            go_wp2
                            (try subst hji36)
                            go_meet
                            case rel => exact ⟨_, (false), (by first | rfl | (simp; done) | (simp [*]; done)), H', ⟨by have := HJ3.out; have := HJ10.out; have := HJ21.out; first | omega | exact Nat.le_refl _⟩, ⟨by repeat (first | (with_reducible first | exact HB.out | apply below_alloc | apply pw_below_drewN | apply below_drew1) | exact HB.out)⟩⟩
                        · replace c34 := Bool.eq_false_iff.mpr c34
                          subst c34
                          have H1 : (spec_Ref.j3 kj21 a1 t150 (wrap64 ((wrap64 (a1 + 1)) + (t150.size : Int))) false) = some (r1, r2) := by rw [if_neg (show ¬ (false = true) by decide)] at H; exact H
                          clear H
                          have H := H1
                          clear H1
                          have H' := Aside0.mk H
                          clear H
                          go_wp2
                          go_meet
                          case rel => exact ⟨_, (false), (by first | rfl | (simp; done) | (simp [*]; done)), H', ⟨by have := HJ3.out; have := HJ10.out; have := HJ21.out; first | omega | exact Nat.le_refl _⟩, ⟨by repeat (first | (with_reducible first | exact HB.out | apply below_alloc | apply pw_below_drewN | apply below_drew1) | exact HB.out)⟩⟩
                      case rest =>
                        clear HC33
                        try clear c1
                        try clear p1
                        try clear q1
                        try clear hx1
                        try clear c2
                        try clear p2
                        try clear q2
                        try clear hx2
                        try clear c3
                        try clear p3
                        try clear q3
                        try clear hx3
                        try clear c4
                        try clear p4
                        try clear q4
                        try clear hx4
                        try clear c5
                        try clear c5b0
                        try clear c6
                        try clear c6b0
                        try clear p6
                        try clear c7
                        try clear c7b0
                        try clear c8
                        try clear c8b0
                        try clear p9
                        try clear q9
                        try clear hx9
                        try clear c10
                        try clear c12
                        try clear c12b0
                        try clear c14
                        try clear c14b0
                        try clear p15
                        try clear q15
                        try clear hx15
                        try clear c16
                        try clear c20
                        try clear c20b0
                        try clear c20b1
                        try clear c24
                        try clear c24b0
                        try clear c26
                        try clear c26b0
                        try clear p27
                        try clear q27
                        try clear hx27
                        try clear c28
                        try clear c33
                        try clear c34
                        try clear c35
                        try clear c35b0
                        try clear c37
                        try clear c37b0
                        try clear p38
                        try clear q38
                        try clear hx38
                        try clear c39
                        try clear c39b0
                        try clear c39b1
                        try clear p40
                        try clear q40
                        try clear hx40
                        try clear c42
                        try clear p43
                        try clear q43
                        try clear hx43
                        try clear p1
                        try clear p15
                        try clear p2
                        try clear p27
                        try clear p38
                        try clear p40
                        try clear p43
                        try clear p6
                        try clear p9
                        try clear q1
                        try clear q15
                        try clear q2
                        try clear q27
                        try clear q38
                        try clear q40
                        try clear q43
                        try clear q9
                        obtain ⟨kq, x100_32, rfl, HA, HJ32, HB⟩ := hcut
                        cases kq with
                        | zero => exact absurd HA.out (by simp [spec_Ref.j3])
                        | succ kj32 =>
                          have H := HA.out
                          clear HA
                          simp only [spec_Ref.j3] at H
                          by_cases c45 : x100_32 = true
                          · subst c45
                            have H1 : (some ((⟨#[]⟩ : ByteArray), 0)) = some (r1, r2) := by rw [if_pos rfl] at H; exact H
                            clear H
                            have H := H1
                            clear H1
                            simp only [Option.some.injEq, Prod.mk.injEq] at H
                            obtain ⟨rfl, rfl⟩ := H
                            go_wp2
                            go_ret2
                            exact ⟨by first | rfl | (rw [← ZA29_A46.out]; rfl) | (rw [← ZA46_A29.out]; rfl) | (simp [errW_none, errW_some] <;> rfl) | (simp [*, errW_none, errW_some] <;> rfl), by repeat (first | (with_reducible first | exact HB.out | apply below_alloc | apply pw_below_drewN | apply below_drew1) | exact HB.out)⟩
                          · replace c45 := Bool.eq_false_iff.mpr c45
                            subst c45
                            have H1 : ((spec_NameSign.f kj32 t150).bind fun t155 => ((spec_PutSign.f kj32 t155).bind fun t156 => (some (t156, wrap64 ((wrap64 ((wrap64 (a1 + 1)) + (t150.size : Int))) - a1))))) = some (r1, r2) := by rw [if_neg (show ¬ (false = true) by decide)] at H; exact H
                            clear H
                            have H := H1
                            clear H1
                            replace H := Option.bind_eq_some_iff.mp H
                            obtain ⟨t155, A460, H⟩ := H
                            replace H : ((spec_PutSign.f kj32 t155).bind fun t156 => (some (t156, wrap64 ((wrap64 ((wrap64 (a1 + 1)) + (t150.size : Int))) - a1)))) = some (r1, r2) := H
                            have A46 := Aside0.mk A460
                            clear A460
                            try have ZA46_A29 := Aside0.mk (Option.some.inj (A29.out.symm.trans A46.out))
                            replace H := Option.bind_eq_some_iff.mp H
                            obtain ⟨t156, A470, H⟩ := H
                            replace H : (some (t156, wrap64 ((wrap64 ((wrap64 (a1 + 1)) + (t150.size : Int))) - a1))) = some (r1, r2) := H
                            have A47 := Aside0.mk A470
                            clear A470
                            simp only [Option.some.injEq, Prod.mk.injEq] at H
                            obtain ⟨rfl, rfl⟩ := H
                            go_wp2_with (first | ((with_reducible refine gate_callee (f := 68) rfl ?_); refine goesL_ (some 102) rfl rfl Try.func68 (by kernel_rfl) rfl #[.string t150] rfl (by (try simp only [List.map_toArray, List.map_cons, List.map_nil]); first | done | rfl | (simp only [List.length_drop, List.length_take]; rfl)) ?_; (with_reducible refine (spec_NameSign.calls kj32 t150 t155 _ A46.out).mono ?_); rintro e w48 ⟨rfl, hb⟩; refine ⟨_, rfl, ?_⟩; have n0_ := Aside0.mk (below_step (by repeat (first | (with_reducible first | exact HB.out | apply below_alloc | apply pw_below_drewN | apply below_drew1) | exact HB.out)) hb); clear HB; have HB := n0_; clear n0_; (try clear hb); (try clear hb2); (try clear hk); (try clear hi)) | ((with_reducible refine gate_callee (f := 48) rfl ?_); refine goesL_ (some 103) rfl rfl Try.func48 (by kernel_rfl) rfl #[.int .i64 t155] rfl (by (try simp only [List.map_toArray, List.map_cons, List.map_nil]); first | done | rfl | (simp only [List.length_drop, List.length_take]; rfl)) ?_; (with_reducible refine (spec_PutSign.calls kj32 t155 t156 _ A47.out).mono ?_); rintro e w49 ⟨rfl, hb⟩; refine ⟨_, rfl, ?_⟩; have n0_ := Aside0.mk (below_step (by repeat (first | (with_reducible first | exact HB.out | apply below_alloc | apply pw_below_drewN | apply below_drew1) | exact HB.out)) hb); clear HB; have HB := n0_; clear n0_; (try clear hb); (try clear hb2); (try clear hk); (try clear hi)))
                            go_ret2
                            exact ⟨by first | rfl | (rw [← ZA29_A46.out]; rfl) | (rw [← ZA46_A29.out]; rfl) | (simp [errW_none, errW_some] <;> rfl) | (simp [*, errW_none, errW_some] <;> rfl), by repeat (first | (with_reducible first | exact HB.out | apply below_alloc | apply pw_below_drewN | apply below_drew1) | exact HB.out)⟩

/-! ### spec_Refs: function 55, given (spec.Refs.tpl) -/
/-- One byte of a text. -/
def byteAt (s : ByteArray) (i : Int) : UInt8 := UInt8.ofNat (bt s i).toNat
theorem byteAt_toNat (s : ByteArray) (i : Int) : ((byteAt s i).toNat : Int) = bt s i := by
  have h : 0 ≤ bt s i ∧ bt s i < 256 := by
    unfold bt
    split
    · exact ⟨by omega, by have := (s[i.toNat]).toNat_lt; omega⟩
    · exact ⟨by omega, by omega⟩
  unfold byteAt
  rw [UInt8.toNat_ofNat']
  omega
/-- Bytes as numbers. -/
def byteNums (l : List UInt8) : List Int := l.map fun b => (b.toNat : Int)
theorem byteNums_length (l : List UInt8) : (byteNums l).length = l.length := List.length_map _
theorem byteNums_text (l : List UInt8) (s : ByteArray) : byteNums (l ++ s.data.toList) = byteNums l ++ bytesOf s := by unfold byteNums bytesOf; rw [List.map_append]
theorem byteNums_one (l : List UInt8) (s : ByteArray) (i : Int) : byteNums (l ++ [byteAt s i]) = byteNums l ++ [bt s i] := by
  unfold byteNums
  rw [List.map_append]
  simp only [List.map_cons, List.map_nil, byteAt_toNat]
theorem byteNums_str (l : List UInt8) : strOfNums (byteNums l) = ⟨l.toArray⟩ := Lib.Lz.strOfNums_map l
theorem byteCells_one (l : List UInt8) (b : UInt8) : Lib.byteCells (l ++ [b]) = Lib.byteCells l ++ [.int .u8 (b.toNat : Int)] := by simp [Lib.byteCells]
theorem byteCells_append (l r : List UInt8) : Lib.byteCells (l ++ r) = Lib.byteCells l ++ Lib.byteCells r := by simp [Lib.byteCells]

theorem refs_byte : (Try.prog.info? 5).map (fun i => (i.zero, i.size, i.bytes)) = some (some (.int .u8 0), 1, 1) := by kernel_rfl

def spec_Refs.l0 : Nat → ByteArray → Bool → List UInt8 → Int → Option ByteArray
  | 0, _, _, _, _ => none
  | k + 1, s, v, acc, at_ => if at_ < (s.size : Int) then ((spec_Ref.f k s at_ v).bind fun b => (if b.2 > 0 then (if acc.length + b.1.size ≤ 140737488355328 then (spec_Refs.l0 k s v (acc ++ b.1.data.toList) (wrap64 (at_ + b.2))) else none) else (if 0 ≤ at_ then (if acc.length + 1 ≤ 140737488355328 then (spec_Refs.l0 k s v (acc ++ [byteAt s at_]) (wrap64 (at_ + 1))) else none) else none))) else (some (⟨acc.toArray⟩ : ByteArray))
def spec_Refs.f (k : Nat) (s : ByteArray) (v : Bool) : Option ByteArray := spec_Refs.l0 k s v [] 0
theorem spec_Refs.mono_l : ∀ k, (∀ y0 y1 y2 y3, LeO (spec_Refs.l0 k y0 y1 y2 y3) (spec_Refs.l0 (k + 1) y0 y1 y2 y3))
  | 0 => fun _ _ _ _ r h => by simp [spec_Refs.l0] at h
  | k + 1 => by
    have ih0 := spec_Refs.mono_l k
    intro y0 y1 y2 y3
    unfold spec_Refs.l0
    repeat' first
        | (with_reducible exact ih0 _ _ _ _)
        | (with_reducible exact spec_Ref.mono _ _ _ _)
        | (with_reducible exact LeO.refl _)
        | (with_reducible exact LeO.none _)
        | (with_reducible refine LeO.ite ?_ ?_)
        | (with_reducible refine LeO.bind ?_ (fun _ => ?_))
        | exact ih0 _ _ _ _
        | exact spec_Ref.mono _ _ _ _

theorem spec_Refs.mono : ∀ a0 a1 k, LeO (spec_Refs.f k a0 a1) (spec_Refs.f (k + 1) a0 a1) := fun a0 a1 k => spec_Refs.mono_l k a0 a1 [] 0
set_option maxHeartbeats 8000000 in
set_option maxRecDepth 100000 in
theorem spec_Refs.calls (k : Nat) (s : ByteArray) (v : Bool) (r : ByteArray) (w : World) (h : spec_Refs.f k s v = some r) :
    Calls Try.prog 55 #[.string s, .bool v] w fun e w' => e = .returned (.string r) ∧ Below w.heap.size w w' := by
  have H' := Aside0.mk (show spec_Refs.l0 k s v [] 0 = some r from h)
  clear h
  have HB := Aside0.mk ((Below.refl w.heap.size w).alloc (Nat.le_refl _) (.cells #[] 5))
  have HO := Aside0.mk (show (w.alloc (.cells #[] 5)).ownsRow w.heap.size 5 1 _ (byteNums []).length (nums .u8 (byteNums [])) from own_lit w w.heap.size 5 .u8 [] (Nat.le_refl _) (by decide))
  go_enter Try.func55, Try.ntmps55
  go_wp2
  go_loopg [5, 6] k (fun kq v5 v6 w' => ∃ (acc : List UInt8) (at_ : Int), v6 = .int .i64 at_ ∧ Aside0 (spec_Refs.l0 kq s v acc at_ = some r) ∧ Aside0 (kq ≤ k) ∧ Aside0 (w'.ownsRow w.heap.size 5 1 v5 (byteNums acc).length (nums .u8 (byteNums acc))) ∧ Aside0 (Below w.heap.size w w'))
  case atStart => exact ⟨[], 0, rfl, H', ⟨Nat.le_refl _⟩, HO, HB⟩
  case round =>
    clear H' HO HB
    obtain ⟨acc, at_, rfl, HA, HK1, HO, HB⟩ := hrel
    cases gk with
    | zero => exact absurd HA.out (by simp [spec_Refs.l0])
    | succ k1 =>
      have H := HA.out
      clear HA
      simp only [spec_Refs.l0] at H
      by_cases c2 : at_ < (s.size : Int)
      · rw [if_pos c2] at H
        have c2b0 : decide (at_ < (s.size : Int)) = true := decide_eq_true c2
        obtain ⟨⟨t, u⟩, AR0, H⟩ := Option.bind_eq_some_iff.mp H
        have AR := Aside0.mk AR0
        clear AR0
        simp only [] at H
        by_cases c3 : u > 0
        · rw [if_pos c3] at H
          have d3 : decide (0 < u) = true := decide_eq_true c3
          clear c3
          by_cases c4 : acc.length + t.size ≤ 140737488355328
          · rw [if_pos c4] at H
            have LN := Aside0.mk (show ((byteNums acc).length + t.size) * 1 ≤ 140737488355328 by rw [byteNums_length]; omega)
            have HS := Aside0.mk (show t.size ≤ 9223372036854775807 by omega)
            have kb := fun W => print_bytes (P := Try.prog) 9 23 5 Try.underlying9 Try.underlying23 Try.underlying5 t W
            have H' := Aside0.mk H
            clear H c4 c2
            go_wp2_with (first | (go_at_call 33; (with_reducible refine (spec_Ref.calls k1 s at_ v t u _ AR.out).mono ?_); rintro e w1 ⟨rfl, hb1⟩; have HO1 := Aside0.mk (pw_own_below (pw_own_below HO.out hb1) (bytes_below (Below.refl w1.heap.size w1) (Nat.le_refl _) 5 t)); have HB1 := Aside0.mk (bytes_below (below_step HB.out hb1) (below_size (below_step HB.out hb1)) 5 t); have HR1 := Aside0.mk (bytes_reads w1 5 t HS.out); clear hb1) | (at_builtin; refine print_append_row w.heap.size rfl _ _ 23 5 .u8 1 rfl Try.underlying23 refs_byte (by decide) _ _ (bytesOf t) _ _ _ rfl rfl HO1.out HR1.out HB1.out (below_size HB1.out) LN.out ?_; intro v1 w2 ho2 hb2 hg2 ha2; have HO2 := Aside0.mk ho2; have HB2 := Aside0.mk hb2; clear ho2 hb2 hg2 ha2))
            go_roundg k1
            case measure => have := HK1.out; omega
            case rel => exact ⟨acc ++ t.data.toList, wrap64 (at_ + u), by first | rfl | (simp; done), H', ⟨by have := HK1.out; omega⟩, ⟨by have e := HO2.out; rw [← byteNums_text] at e; exact e⟩, HB2⟩
          · rw [if_neg c4] at H; exact absurd H (by simp)
        · rw [if_neg c3] at H
          have d3 : decide (0 < u) = false := decide_eq_false c3
          clear c3
          by_cases c5 : 0 ≤ at_
          · rw [if_pos c5] at H
            by_cases c4 : acc.length + 1 ≤ 140737488355328
            · rw [if_pos c4] at H
              have LN := Aside0.mk (show ((byteNums acc).length + 1) * 1 ≤ 140737488355328 by rw [byteNums_length]; omega)
              have H' := Aside0.mk H
              clear H c4
              have hx7 := bt_at s at_
              have p7 := eq_true c5
              have q7 := eq_true c2
              clear c5 c2
              go_wp2_with (first | (go_at_call 33; (with_reducible refine (spec_Ref.calls k1 s at_ v t u _ AR.out).mono ?_); rintro e w1 ⟨rfl, hb1⟩; have HO1 := Aside0.mk (pw_own_below HO.out hb1); have HB1 := Aside0.mk (below_step HB.out hb1); clear hb1) | (at_builtin; refine print_append_num w.heap.size rfl (.tmp 30) (.tmp 34) 23 5 .u8 1 rfl Try.underlying23 refs_byte (by decide) u5 (byteNums acc) (bt s at_) rfl rfl HO1.out HB1.out (below_size HB1.out) LN.out ?_; intro v1 w2 ho2 hb2 hg2 ha2; have HO2 := Aside0.mk ho2; have HB2 := Aside0.mk hb2; clear ho2 hb2 hg2 ha2))
              go_roundg k1
              case measure => have := HK1.out; omega
              case rel => exact ⟨acc ++ [byteAt s at_], wrap64 (at_ + 1), by first | rfl | (simp; done), H', ⟨by have := HK1.out; omega⟩, ⟨by have e := HO2.out; rw [← byteNums_one] at e; exact e⟩, HB2⟩
            · rw [if_neg c4] at H; exact absurd H (by simp)
          · rw [if_neg c5] at H; exact absurd H (by simp)
      · rw [if_neg c2] at H
        have c2b0 : decide (at_ < (s.size : Int)) = false := decide_eq_false c2
        clear c2
        obtain rfl := Option.some.inj H
        have ks := own_string (P := Try.prog) Try.underlying23 Try.underlying5 Try.underlying9 HO.out
        have HE := Aside0.mk (byteNums_str acc)
        go_wp2
        go_ret
        exact ⟨by first | (rw [HE.out]; done) | (rw [HE.out]; rfl), HB.out⟩

end Go.Proofs.Yteafgjebaedjbaa.PFnExactRefs
