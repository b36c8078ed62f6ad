-- Written by this session's program wip/slim.py out of the print's texts. Lean checks it.
import Derived.Test.YtbgedpicfllclaaSFnExactAddx0
import Derived.Test.YtbgedpicfllclaaSFnExactAddx1
import Derived.Test.YtbgedpicfllclaaSFnExactAddx2
import Derived.Test.YtbgedpicfllclaaSFnExactAddx3
namespace Go.Proofs.Ytbgedpicfllclaa.PFnExactAdd
open Go.RowKit Go.Proofs.YtbgedpicfllclaaW.PrintWords Go.Proofs.YtbgedpicfllclaaW.PrintLast Go.Proofs.YtbgedpicfllclaaW.PrintMore
attribute [local go_sem] max2_int min2_int max_two min_two max_three min_three max_four min_four
set_option linter.unusedVariables false
set_option linter.unusedSimpArgs false
mutual
def impl_TreeOk.j0 : Nat → List (S44) → Bool → Option (Bool)
 | 0, _, _ => none
 | k + 1, x0, x15 => if x15 = true then (some false) else (if 1 ≤ (x0.length : Int) then ((some (x0.drop 1 : List (S44))).bind fun y150 => (impl_TreeOk.l0 k x0 y150 (y150.length : Int) 0)) else (none))
def impl_TreeOk.l0 : Nat → List (S44) → List (S44) → Int → Int → Option (Bool)
 | 0, _, _, _, _ => none
 | k + 1, x0, x17, x18, x19 => if x19 < x18 then (if 0 ≤ x19 then (if x19 < (x17.length : Int) then ((impl_itemOk.f k ((rd_T44 x17 x19).f0) ((rd_T44 x17 x19).f1) ((rd_T44 x17 x19).f2) ((rd_T44 x17 x19).f3) ((rd_T44 x17 x19).f4) ((rd_T44 x17 x19).f5) ((rd_T44 x17 x19).f6)).bind fun t160 => (if t160 = true then ((impl_inRange.f ((rd_T44 x17 x19).f5) 0 (wrap64 ((x0.length : Int) - 1))).bind fun t161 => (if t161 = true then (if 0 ≤ ((rd_T44 x17 x19).f5) then (if ((rd_T44 x17 x19).f5) < (x0.length : Int) then ((impl_hasKids.f ((rd_T44 x0 ((rd_T44 x17 x19).f5)).f0)).bind fun t163 => (if t163 = true then (impl_TreeOk.l0 k x0 x17 x18 (wrap64 (x19 + 1))) else (some false))) else (none)) else (none)) else (some false))) else (some false))) else (none)) else (none)) else ((impl_kidsOk.f k x0).bind fun t154 => (if t154 = true then ((impl_order.f k x0).bind fun t155 => (some ((t155.length : Int) == (x0.length : Int)))) else (some false)))
end
def impl_TreeOk.f (k : Nat) (l0 : List (S44)) : Option (Bool) := (impl_inRange.f (l0.length : Int) 1 3000).bind fun t147 => (if t147 = true then (if 0 < (l0.length : Int) then ((impl_pageOk.f ((rd_T44 l0 0).f0) ((rd_T44 l0 0).f1) ((rd_T44 l0 0).f2) ((rd_T44 l0 0).f3) ((rd_T44 l0 0).f4) ((rd_T44 l0 0).f5) ((rd_T44 l0 0).f6)).bind fun t149 => (impl_TreeOk.j0 k l0 (!t149))) else (none)) else (impl_TreeOk.j0 k l0 true))
theorem impl_TreeOk.mono_l : ∀ k, (∀ y0 y1, LeO (impl_TreeOk.j0 k y0 y1) (impl_TreeOk.j0 (k + 1) y0 y1)) ∧ (∀ y0 y1 y2 y3, LeO (impl_TreeOk.l0 k y0 y1 y2 y3) (impl_TreeOk.l0 (k + 1) y0 y1 y2 y3))
 | 0 => ⟨fun _ _ r h => by simp [impl_TreeOk.j0] at h, fun _ _ _ _ r h => by simp [impl_TreeOk.l0] at h⟩
 | k + 1 => by
  obtain ⟨ih0, ih1⟩ := impl_TreeOk.mono_l k
  refine ⟨?_, ?_⟩
  ·intro y0 y1
   unfold impl_TreeOk.j0
   repeat' first
   | (with_reducible exact ih0 _ _)
   | (with_reducible exact ih1 _ _ _ _)
   | (with_reducible exact impl_itemOk.mono _ _ _ _ _ _ _ _)
   | (with_reducible exact impl_kidsOk.mono _ _)
   | (with_reducible exact impl_order.mono _ _)
   | (with_reducible exact LeO.refl _)
   | (with_reducible exact LeO.none _)
   | (with_reducible refine LeO.ite ?_ ?_)
   | (with_reducible refine LeO.bind ?_ (fun _ => ?_))
  ·intro y0 y1 y2 y3
   unfold impl_TreeOk.l0
   repeat' first
   | (with_reducible exact ih0 _ _)
   | (with_reducible exact ih1 _ _ _ _)
   | (with_reducible exact impl_itemOk.mono _ _ _ _ _ _ _ _)
   | (with_reducible exact impl_kidsOk.mono _ _)
   | (with_reducible exact impl_order.mono _ _)
   | (with_reducible exact LeO.refl _)
   | (with_reducible exact LeO.none _)
   | (with_reducible refine LeO.ite ?_ ?_)
   | (with_reducible refine LeO.bind ?_ (fun _ => ?_))
theorem impl_TreeOk.mono : ∀ a0 k, LeO (impl_TreeOk.f k a0) (impl_TreeOk.f (k + 1) a0) := by
 intro a0 k
 obtain ⟨ih0, ih1⟩ := impl_TreeOk.mono_l k
 unfold impl_TreeOk.f
 repeat' first
   | (with_reducible exact ih0 _ _)
   | (with_reducible exact ih1 _ _ _ _)
   | (with_reducible exact impl_itemOk.mono _ _ _ _ _ _ _ _)
   | (with_reducible exact impl_kidsOk.mono _ _)
   | (with_reducible exact impl_order.mono _ _)
   | (with_reducible exact LeO.refl _)
   | (with_reducible exact LeO.none _)
   | (with_reducible refine LeO.ite ?_ ?_)
   | (with_reducible refine LeO.bind ?_ (fun _ => ?_))
set_option maxHeartbeats 8000000 in
set_option maxRecDepth 100000 in
theorem impl_TreeOk.calls (k : Nat) (A0 : Option Addr) (c0 : Nat) (l0 : List (S44)) (r : Bool) (w : World) (hr0 : Kd.C k44 w A0 l0.length l0) (hc0 : l0.length ≤ c0) (h : impl_TreeOk.f k l0 = some r) :
  Calls Try.prog 27 #[.slice A0 l0.length c0] w fun e w' => e = .returned (.bool r) ∧ Below w.heap.size w w' := by
 have hu44 := Try.underlying44
 have HR0 := Aside0.mk hr0
 have HC0 := Aside0.mk hc0
 clear hr0 hc0
 have HB := Aside0.mk (Below.refl w.heap.size w)
 have H : ((impl_inRange.f (l0.length : Int) 1 3000).bind fun t147 => (if t147 = true then (if 0 < (l0.length : Int) then ((impl_pageOk.f ((rd_T44 l0 0).f0) ((rd_T44 l0 0).f1) ((rd_T44 l0 0).f2) ((rd_T44 l0 0).f3) ((rd_T44 l0 0).f4) ((rd_T44 l0 0).f5) ((rd_T44 l0 0).f6)).bind fun t149 => (impl_TreeOk.j0 k l0 (!t149))) else (none)) else (impl_TreeOk.j0 k l0 true))) = some r := h
 clear h
 have HC2 := Aside0.mk H
 clear H
 go_enter Try.func27, Try.ntmps27
 go_upto_region 1 with (fail)
 go_cut [15] (fun v15 wc => ∃ (kq : Nat) (x15_1 : Bool), v15 = .bool x15_1 ∧ Aside0 (impl_TreeOk.j0 kq l0 x15_1 = some r) ∧ Aside0 (kq ≤ k) ∧ Aside0 (Below w.heap.size w wc))
 case first =>
  have H := HC2.out
  clear HC2
  replace H := Option.bind_eq_some_iff.mp H
  obtain ⟨t147, A30, H⟩ := H
  replace H : (if t147 = true then (if 0 < (l0.length : Int) then ((impl_pageOk.f ((rd_T44 l0 0).f0) ((rd_T44 l0 0).f1) ((rd_T44 l0 0).f2) ((rd_T44 l0 0).f3) ((rd_T44 l0 0).f4) ((rd_T44 l0 0).f5) ((rd_T44 l0 0).f6)).bind fun t149 => (impl_TreeOk.j0 k l0 (!t149))) else (none)) else (impl_TreeOk.j0 k l0 true)) = some r := H
  have A3 := Aside0.mk A30
  clear A30
  by_cases c4 : t147 = true
  ·subst c4
   have H1 : (if 0 < (l0.length : Int) then ((impl_pageOk.f ((rd_T44 l0 0).f0) ((rd_T44 l0 0).f1) ((rd_T44 l0 0).f2) ((rd_T44 l0 0).f3) ((rd_T44 l0 0).f4) ((rd_T44 l0 0).f5) ((rd_T44 l0 0).f6)).bind fun t149 => (impl_TreeOk.j0 k l0 (!t149))) else (none)) = some r := by rw [if_pos rfl] at H; exact H
   clear H
   have H := H1
   clear H1
   by_cases c5 : 0 < (l0.length : Int)
   ·rw [if_pos c5] at H
    have c5b0 : decide (0 < (l0.length : Int)) = true := decide_eq_true c5
    have c5b1 : decide (0 < l0.length) = true := decide_eq_true (by omega)
    clear c5
    (first | rw [c5b0] | (simp only [i64_w, i32_w]; rw [c5b0]) | skip)
    replace H := Option.bind_eq_some_iff.mp H
    obtain ⟨t149, A60, H⟩ := H
    replace H : (impl_TreeOk.j0 k l0 (!t149)) = some r := H
    have A6 := Aside0.mk A60
    clear A60
    have H' := Aside0.mk H
    clear H
    go_wp2_with (first | ((with_reducible refine gate_callee (f := 55) rfl ?_); refine goesL_ (some 7) rfl rfl Try.func55 (by kernel_rfl) rfl #[.int .i64 (l0.length : Int), .int .i64 1, .int .i64 3000] rfl (by (try simp only [List.map_toArray, List.map_cons, List.map_nil]); first | done | rfl | (simp only [List.length_drop, List.length_take]; rfl)) ?_; (with_reducible refine (impl_inRange.calls (l0.length : Int) 1 3000 true _ A3.out).mono ?_); rintro e w' ⟨rfl, ⟨nd, rfl⟩⟩; refine ⟨_, rfl, ?_⟩; have p148 : 0 ≤ (0 : Int) := (by omega); have q148 : 0 < (l0.length : Int) := dq_ (by assumption); obtain ⟨ad148, A148_3, c148_3, A148_6, c148_6, e148, hx148_0, hx148_1, hx148_2, hx148_3, hx148_4, hx148_5, hx148_6, hl148_3, hi148_3, hl148_6, hi148_6⟩ := at_T44 HR0.out 0 p148 q148; cases e148; have qi148 : (0 < l0.length) = True := eq_true (by omega); (try rw [show ((0 : Int)).toNat = 0 from rfl] at hx148_0); (try rw [show 0 * 7 = 0 from rfl] at hx148_0); (try rw [Addr.add_zero'] at hx148_0); (try rw [show ((0 : Int)).toNat = 0 from rfl] at hx148_1); (try rw [show 0 * 7 = 0 from rfl] at hx148_1); (try rw [Addr.add_zero'] at hx148_1); (try rw [show ((0 : Int)).toNat = 0 from rfl] at hx148_2); (try rw [show 0 * 7 = 0 from rfl] at hx148_2); (try rw [Addr.add_zero'] at hx148_2); (try rw [show ((0 : Int)).toNat = 0 from rfl] at hx148_3); (try rw [show 0 * 7 = 0 from rfl] at hx148_3); (try rw [Addr.add_zero'] at hx148_3); (try rw [show ((0 : Int)).toNat = 0 from rfl] at hx148_4); (try rw [show 0 * 7 = 0 from rfl] at hx148_4); (try rw [Addr.add_zero'] at hx148_4); (try rw [show ((0 : Int)).toNat = 0 from rfl] at hx148_5); (try rw [show 0 * 7 = 0 from rfl] at hx148_5); (try rw [Addr.add_zero'] at hx148_5); (try rw [show ((0 : Int)).toNat = 0 from rfl] at hx148_6); (try rw [show 0 * 7 = 0 from rfl] at hx148_6); (try rw [Addr.add_zero'] at hx148_6); replace hx148_0 := pw_cell_below HB.out hx148_0; replace hx148_1 := pw_cell_below HB.out hx148_1; replace hx148_2 := pw_cell_below HB.out hx148_2; replace hx148_3 := pw_cell_below HB.out hx148_3; replace hx148_4 := pw_cell_below HB.out hx148_4; replace hx148_5 := pw_cell_below HB.out hx148_5; replace hx148_6 := pw_cell_below HB.out hx148_6; have HR148_3 := Aside0.mk hi148_3; have HC148_3 := Aside0.mk hl148_3; clear hi148_3 hl148_3; have HR148_6 := Aside0.mk hi148_6; have HC148_6 := Aside0.mk hl148_6; clear hi148_6 hl148_6; replace p148 := eq_true p148; replace q148 := eq_true q148) | (go_at_call 65; (with_reducible refine (impl_pageOk.calls ((rd_T44 l0 0).f0) ((rd_T44 l0 0).f1) ((rd_T44 l0 0).f2) _ _ ((rd_T44 l0 0).f3) ((rd_T44 l0 0).f4) ((rd_T44 l0 0).f5) _ _ ((rd_T44 l0 0).f6) t149 _ ?side1 ?side2 ?side3 ?side4 A6.out).mono ?_); (case side1 => repeat (first | exact (Kd.C_below HR148_3.out (by repeat (first | (with_reducible first | exact HB.out | apply ba_ | apply bn_ | apply b1_) | exact HB.out))) | (with_reducible refine ca_ ?_ _) | (with_reducible refine cn_ ?_ _) | (with_reducible refine cd_ ?_))); (case side2 => exact HC148_3.out); (case side3 => repeat (first | exact (Kd.C_below HR148_6.out (by repeat (first | (with_reducible first | exact HB.out | apply ba_ | apply bn_ | apply b1_) | exact HB.out))) | (with_reducible refine ca_ ?_ _) | (with_reducible refine cn_ ?_ _) | (with_reducible refine cd_ ?_))); (case side4 => exact HC148_6.out); rintro e w7 ⟨rfl, hb⟩; have n0_ := Aside0.mk (below_step (by repeat (first | (with_reducible first | exact HB.out | apply ba_ | apply bn_ | apply b1_) | exact HB.out)) hb); clear HB; have HB := n0_; clear n0_; (try clear hb)))
    go_meet
    case rel => exact ⟨_, (!t149), (by first | rfl | (simp; done) | (simp [*]; done)), H', ⟨by first | omega | exact Nat.le_refl _⟩, ⟨by repeat (first | (with_reducible first | exact HB.out | apply ba_ | apply bn_ | apply b1_) | exact HB.out)⟩⟩
   ·rw [if_neg c5] at H
    exact absurd H (by simp)
  ·replace c4 := Bool.eq_false_iff.mpr c4
   subst c4
   have H1 : (impl_TreeOk.j0 k l0 true) = some r := by rw [if_neg (show ¬ (false = true) by decide)] at H; exact H
   clear H
   have H := H1
   clear H1
   have H' := Aside0.mk H
   clear H
   go_wp2_with (first | ((with_reducible refine gate_callee (f := 55) rfl ?_); refine goesL_ (some 7) rfl rfl Try.func55 (by kernel_rfl) rfl #[.int .i64 (l0.length : Int), .int .i64 1, .int .i64 3000] rfl (by (try simp only [List.map_toArray, List.map_cons, List.map_nil]); first | done | rfl | (simp only [List.length_drop, List.length_take]; rfl)) ?_; (with_reducible refine (impl_inRange.calls (l0.length : Int) 1 3000 false _ A3.out).mono ?_); rintro e w' ⟨rfl, ⟨nd, rfl⟩⟩; refine ⟨_, rfl, ?_⟩))
   go_meet
   case rel => exact ⟨_, (true), (by first | rfl | (simp; done) | (simp [*]; done)), H', ⟨by first | omega | exact Nat.le_refl _⟩, ⟨by repeat (first | (with_reducible first | exact HB.out | apply ba_ | apply bn_ | apply b1_) | exact HB.out)⟩⟩
 case rest =>
  clear HC2
  try clear c1
  try clear c4
  try clear c5
  try clear c5b0
  try clear c5b1
  try clear hx148_0
  try clear hx148_1
  try clear hx148_2
  try clear hx148_3
  try clear hx148_4
  try clear hx148_5
  try clear hx148_6
  try clear p148
  try clear q148
  obtain ⟨kq, x15_1, rfl, HA, HJ1, HB⟩ := hcut
  cases kq with
  | zero => exact absurd HA.out (by simp [impl_TreeOk.j0])
  | succ kj1 =>
   have H := HA.out
   clear HA
   simp only [impl_TreeOk.j0] at H
   by_cases c8 : x15_1 = true
   ·subst c8
    have H1 : (some false) = some r := by rw [if_pos rfl] at H; exact H
    clear H
    have H := H1
    clear H1
    obtain rfl := Option.some.inj H
    go_wp2
    go_ret
    exact ⟨by first | rfl | (simp [errW_none, errW_some] <;> rfl) | (simp [*, errW_none, errW_some] <;> rfl), by repeat (first | (with_reducible first | exact HB.out | apply ba_ | apply bn_ | apply b1_) | exact HB.out)⟩
   ·replace c8 := Bool.eq_false_iff.mpr c8
    subst c8
    have H1 : (if 1 ≤ (l0.length : Int) then ((some (l0.drop 1 : List (S44))).bind fun y150 => (impl_TreeOk.l0 kj1 l0 y150 (y150.length : Int) 0)) else (none)) = some r := by rw [if_neg (show ¬ (false = true) by decide)] at H; exact H
    clear H
    have H := H1
    clear H1
    by_cases c9 : 1 ≤ (l0.length : Int)
    ·rw [if_pos c9] at H
     have c9b0 := eq_true c9
     have c9b1 : decide (1 ≤ (l0.length : Int)) = true := decide_eq_true c9
     clear c9
     obtain ⟨y150, hy150⟩ : ∃ y_ : List (S44), y_ = (l0.drop 1) := ⟨_, rfl⟩
     replace H : (impl_TreeOk.l0 kj1 l0 y150 (y150.length : Int) 0) = some r := by first | (rw [hy150]; with_reducible exact H) | (have H2_ := (Option.bind_some _ _).symm.trans H; rw [hy150]; with_reducible exact H2_) | (have H2_ := (Option.bind_some _ _).symm.trans H; with_reducible exact H2_) | with_reducible exact H | (rw [hy150]; exact H) | exact H
     have Ny150 := Aside0.mk hy150
     clear hy150
     have H' := Aside0.mk H
     clear H
     have q10 : (1 : Int) ≤ ((l0.length : Int) : Int) := dq_ (by assumption)
     obtain ⟨i010, hi010, _, hsz10, _⟩ := info_parts info44
     have hroom10 : l0.length ≤ c0 := HC0.out
     have hC10 : Kd.C k44 _ A0 l0.length l0 := HR0.out
     have hcut10 := cut_from (P := Try.prog) 28 44 .i64 Try.underlying28 hi010 7 hsz10 A0 l0.length c0 1 (by omega) q10
     have hr10 := Kd.C_drop (m := (1 : Int).toNat) (c := c0) hC10 (by omega) hroom10
     obtain ⟨A10, hA10⟩ : ∃ A1, A1 = (if c0 = (1 : Int).toNat then A0 else (A0 : Option Addr).map (·.add ((1 : Int).toNat * 7))) := ⟨_, rfl⟩
     obtain ⟨c10, hc10⟩ : ∃ c1, c1 = c0 - (1 : Int).toNat := ⟨_, rfl⟩
     have hy10 : y150.length = l0.length - (1 : Int).toNat := (by rw [Ny150.out, List.length_drop] <;> omega)
     rw [show (l0).drop (1 : Int).toNat = y150 from Ny150.out.symm] at hr10
     replace hr10 : Kd.C k44 _ A10 y150.length y150 := (by rw [hA10]; exact hr10)
     rw [← hy10, ← hA10, ← hc10] at hcut10
     have HR153 := Aside0.mk hr10
     have HC153 := Aside0.mk (show y150.length ≤ c10 from by rw [hy10, hc10]; exact Nat.sub_le_sub_right hroom10 _)
     clear hr10 hC10 hroom10 hi010 hsz10 hc10
     have KY10 := Aside0.mk hy10
     have KA10 := Aside0.mk hA10
     clear hy10 hA10
     replace q10 := eq_true q10
     go_wp2
     go_loopg [19] kj1 (fun kq v19 w' => ∃ (x19_2 : Int), v19 = .int .i64 x19_2 ∧ Aside0 (impl_TreeOk.l0 kq l0 y150 (y150.length : Int) x19_2 = some r) ∧ Aside0 (kq ≤ kj1) ∧ Aside0 (Below w.heap.size w w'))
     case atStart => exact ⟨(0), (by first | rfl | (simp; done) | (simp [*]; done)), H', ⟨Nat.le_refl _⟩, ⟨by repeat (first | (with_reducible first | exact HB.out | apply ba_ | apply bn_ | apply b1_) | exact HB.out)⟩⟩
     case round =>
      clear H'
      try clear c1
      try clear c4
      try clear c5
      try clear c5b0
      try clear c5b1
      try clear c8
      try clear c9
      try clear c9b0
      try clear c9b1
      try clear c10
      try clear q10
      try clear hx148_0
      try clear hx148_1
      try clear hx148_2
      try clear hx148_3
      try clear hx148_4
      try clear hx148_5
      try clear hx148_6
      try clear p148
      try clear q10
      try clear q148
      obtain ⟨x19_2, rfl, HA, HK2, HB⟩ := hrel
      cases gk with
      | zero => exact absurd HA.out (by simp [impl_TreeOk.l0])
      | succ k2 =>
       have H := HA.out
       clear HA
       simp only [impl_TreeOk.l0] at H
       by_cases c11 : x19_2 < (y150.length : Int)
       ·rw [if_pos c11] at H
        have c11b0 : decide (x19_2 < (y150.length : Int)) = true := decide_eq_true c11
        clear c11
        by_cases c12 : 0 ≤ x19_2
        ·rw [if_pos c12] at H
         have c12b0 : decide (0 ≤ x19_2) = true := decide_eq_true c12
         clear c12
         by_cases c13 : x19_2 < (y150.length : Int)
         ·rw [if_pos c13] at H
          have c13b0 : decide (x19_2 < (y150.length : Int)) = true := decide_eq_true c13
          clear c13
          replace H := Option.bind_eq_some_iff.mp H
          obtain ⟨t160, A140, H⟩ := H
          replace H : (if t160 = true then ((impl_inRange.f ((rd_T44 y150 x19_2).f5) 0 (wrap64 ((l0.length : Int) - 1))).bind fun t161 => (if t161 = true then (if 0 ≤ ((rd_T44 y150 x19_2).f5) then (if ((rd_T44 y150 x19_2).f5) < (l0.length : Int) then ((impl_hasKids.f ((rd_T44 l0 ((rd_T44 y150 x19_2).f5)).f0)).bind fun t163 => (if t163 = true then (impl_TreeOk.l0 k2 l0 y150 (y150.length : Int) (wrap64 (x19_2 + 1))) else (some false))) else (none)) else (none)) else (some false))) else (some false)) = some r := H
          have A14 := Aside0.mk A140
          clear A140
          by_cases c15 : t160 = true
          ·subst c15
           have H1 : ((impl_inRange.f ((rd_T44 y150 x19_2).f5) 0 (wrap64 ((l0.length : Int) - 1))).bind fun t161 => (if t161 = true then (if 0 ≤ ((rd_T44 y150 x19_2).f5) then (if ((rd_T44 y150 x19_2).f5) < (l0.length : Int) then ((impl_hasKids.f ((rd_T44 l0 ((rd_T44 y150 x19_2).f5)).f0)).bind fun t163 => (if t163 = true then (impl_TreeOk.l0 k2 l0 y150 (y150.length : Int) (wrap64 (x19_2 + 1))) else (some false))) else (none)) else (none)) else (some false))) = some r := by rw [if_pos rfl] at H; exact H
           clear H
           have H := H1
           clear H1
           replace H := Option.bind_eq_some_iff.mp H
           obtain ⟨t161, A160, H⟩ := H
           replace H : (if t161 = true then (if 0 ≤ ((rd_T44 y150 x19_2).f5) then (if ((rd_T44 y150 x19_2).f5) < (l0.length : Int) then ((impl_hasKids.f ((rd_T44 l0 ((rd_T44 y150 x19_2).f5)).f0)).bind fun t163 => (if t163 = true then (impl_TreeOk.l0 k2 l0 y150 (y150.length : Int) (wrap64 (x19_2 + 1))) else (some false))) else (none)) else (none)) else (some false)) = some r := H
           have A16 := Aside0.mk A160
           clear A160
           by_cases c17 : t161 = true
           ·subst c17
            have H1 : (if 0 ≤ ((rd_T44 y150 x19_2).f5) then (if ((rd_T44 y150 x19_2).f5) < (l0.length : Int) then ((impl_hasKids.f ((rd_T44 l0 ((rd_T44 y150 x19_2).f5)).f0)).bind fun t163 => (if t163 = true then (impl_TreeOk.l0 k2 l0 y150 (y150.length : Int) (wrap64 (x19_2 + 1))) else (some false))) else (none)) else (none)) = some r := by rw [if_pos rfl] at H; exact H
            clear H
            have H := H1
            clear H1
            by_cases c18 : 0 ≤ ((rd_T44 y150 x19_2).f5)
            ·rw [if_pos c18] at H
             have c18b0 : decide (0 ≤ ((rd_T44 y150 x19_2).f5)) = true := decide_eq_true c18
             clear c18
             by_cases c19 : ((rd_T44 y150 x19_2).f5) < (l0.length : Int)
             ·rw [if_pos c19] at H
              have c19b0 : decide (((rd_T44 y150 x19_2).f5) < (l0.length : Int)) = true := decide_eq_true c19
              clear c19
              replace H := Option.bind_eq_some_iff.mp H
              obtain ⟨t163, A200, H⟩ := H
              replace H : (if t163 = true then (impl_TreeOk.l0 k2 l0 y150 (y150.length : Int) (wrap64 (x19_2 + 1))) else (some false)) = some r := H
              have A20 := Aside0.mk A200
              clear A200
              by_cases c21 : t163 = true
              ·subst c21
               have H1 : (impl_TreeOk.l0 k2 l0 y150 (y150.length : Int) (wrap64 (x19_2 + 1))) = some r := by rw [if_pos rfl] at H; exact H
               clear H
               have H := H1
               clear H1
               have H' := Aside0.mk H
               clear H
               have p158 : 0 ≤ (x19_2 : Int) := dq_ (by assumption)
               have q158 : x19_2 < (y150.length : Int) := dq_ (by assumption)
               obtain ⟨ad158, A158_3, c158_3, A158_6, c158_6, e158, hx158_0, hx158_1, hx158_2, hx158_3, hx158_4, hx158_5, hx158_6, hl158_3, hi158_3, hl158_6, hi158_6⟩ := at_T44 HR153.out x19_2 p158 q158
               cases e158
               replace hx158_0 := pw_cell_below HB.out hx158_0
               replace hx158_1 := pw_cell_below HB.out hx158_1
               replace hx158_2 := pw_cell_below HB.out hx158_2
               replace hx158_3 := pw_cell_below HB.out hx158_3
               replace hx158_4 := pw_cell_below HB.out hx158_4
               replace hx158_5 := pw_cell_below HB.out hx158_5
               replace hx158_6 := pw_cell_below HB.out hx158_6
               have HR158_3 := Aside0.mk hi158_3
               have HC158_3 := Aside0.mk hl158_3
               clear hi158_3 hl158_3
               have HR158_6 := Aside0.mk hi158_6
               have HC158_6 := Aside0.mk hl158_6
               clear hi158_6 hl158_6
               replace p158 := eq_true p158
               replace q158 := eq_true q158
               go_wp2_with (first | ((with_reducible refine gate_dst (N := 4) rfl ?_); (try (refine gate_guard (by rfl) ?_; dsimp only)); refine box_event ?hg (N := 4) ?hd (cs := #[.int .i64 0, .int .i64 0, .string (⟨#[]⟩ : ByteArray), .slice none 0 0, .string (⟨#[]⟩ : ByteArray), .int .i64 0, .slice none 0 0]) (t := 44) ?hr ?_; (case hd => rfl); (case hg => rfl); (case hr => first | (go_simp; done) | (go_simp; rfl)); intro gb159 hg w22 hbox hb; have n0_ := Aside0.mk (below_step (by repeat (first | (with_reducible first | exact HB.out | apply ba_ | apply bn_ | apply b1_) | exact HB.out)) hb); have n1_ := Aside0.mk (hbox); have n2_ := Aside0.mk ((by rw [hg]; exact (below_size (by repeat (first | (with_reducible first | exact HB.out | apply ba_ | apply bn_ | apply b1_) | exact HB.out))) : w.heap.size ≤ gb159)); have n3_ := Aside0.mk ((by rw [hg]; exact (below_size (by repeat (first | (with_reducible first | exact HB.out | apply ba_ | apply bn_ | apply b1_) | exact HB.out))) : w.heap.size ≤ gb159)); clear HB; have HB := n0_; have BK159 := n1_; have GW159 := n2_; have GE159 := n3_; clear n0_ n1_ n2_ n3_; clear hb hbox hg; have hcz23_0 : w22.cell? ⟨gb159, 0, none⟩ = some (.int .i64 0) := (bc_ BK159.out 0).trans rfl; have hcz23_1 : w22.cell? ⟨gb159, 1, none⟩ = some (.int .i64 0) := (bc_ BK159.out 1).trans rfl; have hcz23_2 : w22.cell? ⟨gb159, 2, none⟩ = some (.string (⟨#[]⟩ : ByteArray)) := (bc_ BK159.out 2).trans rfl; have hcz23_3 : w22.cell? ⟨gb159, 3, none⟩ = some (.slice none 0 0) := (bc_ BK159.out 3).trans rfl; have hcz23_4 : w22.cell? ⟨gb159, 4, none⟩ = some (.string (⟨#[]⟩ : ByteArray)) := (bc_ BK159.out 4).trans rfl; have hcz23_5 : w22.cell? ⟨gb159, 5, none⟩ = some (.int .i64 0) := (bc_ BK159.out 5).trans rfl; have hcz23_6 : w22.cell? ⟨gb159, 6, none⟩ = some (.slice none 0 0) := (bc_ BK159.out 6).trans rfl; have hfz23_0 := blk_frozen BK159.out 0; have hfz23_1 := blk_frozen BK159.out 1; have hfz23_2 := blk_frozen BK159.out 2; have hfz23_3 := blk_frozen BK159.out 3; have hfz23_4 := blk_frozen BK159.out 4; have hfz23_5 := blk_frozen BK159.out 5; have hfz23_6 := blk_frozen BK159.out 6) | ((with_reducible refine gate_callee (f := 54) rfl ?_); refine goesL_ (some 24) rfl rfl Try.func54 (by kernel_rfl) rfl #[.agg #[.int .i64 ((rd_T44 y150 x19_2).f0), .int .i64 ((rd_T44 y150 x19_2).f1), .string ((rd_T44 y150 x19_2).f2), .slice A158_3 ((rd_T44 y150 x19_2).f3).length c158_3, .string ((rd_T44 y150 x19_2).f4), .int .i64 ((rd_T44 y150 x19_2).f5), .slice A158_6 ((rd_T44 y150 x19_2).f6).length c158_6]] rfl (by (try simp only [List.map_toArray, List.map_cons, List.map_nil]); first | done | rfl | (simp only [List.length_drop, List.length_take]; rfl)) ?_; (with_reducible refine (impl_itemOk.calls k2 ((rd_T44 y150 x19_2).f0) ((rd_T44 y150 x19_2).f1) ((rd_T44 y150 x19_2).f2) _ _ ((rd_T44 y150 x19_2).f3) ((rd_T44 y150 x19_2).f4) ((rd_T44 y150 x19_2).f5) _ _ ((rd_T44 y150 x19_2).f6) true _ ?side1 ?side2 ?side3 ?side4 A14.out).mono ?_); (case side1 => exact Kd.C_below HR158_3.out (by repeat (first | (with_reducible first | exact HB.out | apply ba_ | apply bn_ | apply b1_ | refine below_set ?_ GE159.out) | exact HB.out))); (case side2 => exact HC158_3.out); (case side3 => exact Kd.C_below HR158_6.out (by repeat (first | (with_reducible first | exact HB.out | apply ba_ | apply bn_ | apply b1_ | refine below_set ?_ GE159.out) | exact HB.out))); (case side4 => exact HC158_6.out); rintro e w24 ⟨rfl, hb⟩; refine ⟨_, rfl, ?_⟩; have n0_ := Aside0.mk (blk_below (g := gb159) (o := .cells #[.int .i64 ((rd_T44 y150 x19_2).f0), .int .i64 ((rd_T44 y150 x19_2).f1), .string ((rd_T44 y150 x19_2).f2), .slice A158_3 ((rd_T44 y150 x19_2).f3).length c158_3, .string ((rd_T44 y150 x19_2).f4), .int .i64 ((rd_T44 y150 x19_2).f5), .slice A158_6 ((rd_T44 y150 x19_2).f6).length c158_6] 44 (0, 0)) (by (with_reducible repeat (first | refine dn_ ?_ _ | refine dd_ ?_ | refine da_ ?_ _)); refine blk_put (cs := #[.int .i64 ((rd_T44 y150 x19_2).f0), .int .i64 ((rd_T44 y150 x19_2).f1), .string ((rd_T44 y150 x19_2).f2), .slice A158_3 ((rd_T44 y150 x19_2).f3).length c158_3, .string ((rd_T44 y150 x19_2).f4), .int .i64 ((rd_T44 y150 x19_2).f5), .slice none 0 0]) ?_ 6 _ rfl; (with_reducible repeat (first | refine dn_ ?_ _ | refine dd_ ?_ | refine da_ ?_ _)); refine blk_put (cs := #[.int .i64 ((rd_T44 y150 x19_2).f0), .int .i64 ((rd_T44 y150 x19_2).f1), .string ((rd_T44 y150 x19_2).f2), .slice A158_3 ((rd_T44 y150 x19_2).f3).length c158_3, .string ((rd_T44 y150 x19_2).f4), .int .i64 0, .slice none 0 0]) ?_ 5 _ rfl; (with_reducible repeat (first | refine dn_ ?_ _ | refine dd_ ?_ | refine da_ ?_ _)); refine blk_put (cs := #[.int .i64 ((rd_T44 y150 x19_2).f0), .int .i64 ((rd_T44 y150 x19_2).f1), .string ((rd_T44 y150 x19_2).f2), .slice A158_3 ((rd_T44 y150 x19_2).f3).length c158_3, .string (⟨#[]⟩ : ByteArray), .int .i64 0, .slice none 0 0]) ?_ 4 _ rfl; (with_reducible repeat (first | refine dn_ ?_ _ | refine dd_ ?_ | refine da_ ?_ _)); refine blk_put (cs := #[.int .i64 ((rd_T44 y150 x19_2).f0), .int .i64 ((rd_T44 y150 x19_2).f1), .string ((rd_T44 y150 x19_2).f2), .slice none 0 0, .string (⟨#[]⟩ : ByteArray), .int .i64 0, .slice none 0 0]) ?_ 3 _ rfl; (with_reducible repeat (first | refine dn_ ?_ _ | refine dd_ ?_ | refine da_ ?_ _)); refine blk_put (cs := #[.int .i64 ((rd_T44 y150 x19_2).f0), .int .i64 ((rd_T44 y150 x19_2).f1), .string (⟨#[]⟩ : ByteArray), .slice none 0 0, .string (⟨#[]⟩ : ByteArray), .int .i64 0, .slice none 0 0]) ?_ 2 _ rfl; (with_reducible repeat (first | refine dn_ ?_ _ | refine dd_ ?_ | refine da_ ?_ _)); refine blk_put (cs := #[.int .i64 ((rd_T44 y150 x19_2).f0), .int .i64 0, .string (⟨#[]⟩ : ByteArray), .slice none 0 0, .string (⟨#[]⟩ : ByteArray), .int .i64 0, .slice none 0 0]) ?_ 1 _ rfl; (with_reducible repeat (first | refine dn_ ?_ _ | refine dd_ ?_ | refine da_ ?_ _)); refine blk_put (cs := #[.int .i64 0, .int .i64 0, .string (⟨#[]⟩ : ByteArray), .slice none 0 0, .string (⟨#[]⟩ : ByteArray), .int .i64 0, .slice none 0 0]) ?_ 0 _ rfl; (with_reducible repeat (first | refine dn_ ?_ _ | refine dd_ ?_ | refine da_ ?_ _)); exact BK159.out) hb); have n1_ := Aside0.mk (below_step (by repeat (first | (with_reducible first | exact HB.out | apply ba_ | apply bn_ | apply b1_ | refine below_set ?_ GE159.out) | exact HB.out)) hb); clear BK159; clear HB; have BK159 := n0_; have HB := n1_; clear n0_ n1_; (try clear hb); have hcz25_0 : w24.cell? ⟨gb159, 0, none⟩ = some (.int .i64 ((rd_T44 y150 x19_2).f0)) := (bc_ BK159.out 0).trans rfl; have hcz25_1 : w24.cell? ⟨gb159, 1, none⟩ = some (.int .i64 ((rd_T44 y150 x19_2).f1)) := (bc_ BK159.out 1).trans rfl; have hcz25_2 : w24.cell? ⟨gb159, 2, none⟩ = some (.string ((rd_T44 y150 x19_2).f2)) := (bc_ BK159.out 2).trans rfl; have hcz25_3 : w24.cell? ⟨gb159, 3, none⟩ = some (.slice A158_3 ((rd_T44 y150 x19_2).f3).length c158_3) := (bc_ BK159.out 3).trans rfl; have hcz25_4 : w24.cell? ⟨gb159, 4, none⟩ = some (.string ((rd_T44 y150 x19_2).f4)) := (bc_ BK159.out 4).trans rfl; have hcz25_5 : w24.cell? ⟨gb159, 5, none⟩ = some (.int .i64 ((rd_T44 y150 x19_2).f5)) := (bc_ BK159.out 5).trans rfl; have hcz25_6 : w24.cell? ⟨gb159, 6, none⟩ = some (.slice A158_6 ((rd_T44 y150 x19_2).f6).length c158_6) := (bc_ BK159.out 6).trans rfl; have hfz25_0 := blk_frozen BK159.out 0; have hfz25_1 := blk_frozen BK159.out 1; have hfz25_2 := blk_frozen BK159.out 2; have hfz25_3 := blk_frozen BK159.out 3; have hfz25_4 := blk_frozen BK159.out 4; have hfz25_5 := blk_frozen BK159.out 5; have hfz25_6 := blk_frozen BK159.out 6) | (go_at_call 55; (with_reducible refine (impl_inRange.calls ((rd_T44 y150 x19_2).f5) 0 (wrap64 ((l0.length : Int) - 1)) true _ A16.out).mono ?_); rintro e w' ⟨rfl, ⟨nd, rfl⟩⟩; have p162 : 0 ≤ (((rd_T44 y150 x19_2).f5) : Int) := dq_ (by assumption); have q162 : ((rd_T44 y150 x19_2).f5) < (l0.length : Int) := dq_ (by assumption); obtain ⟨ad162, A162_3, c162_3, A162_6, c162_6, e162, hx162_0, hx162_1, hx162_2, hx162_3, hx162_4, hx162_5, hx162_6, hl162_3, hi162_3, hl162_6, hi162_6⟩ := at_T44 HR0.out ((rd_T44 y150 x19_2).f5) p162 q162; cases e162; replace hx162_0 := pw_cell_below HB.out hx162_0; replace hx162_1 := pw_cell_below HB.out hx162_1; replace hx162_2 := pw_cell_below HB.out hx162_2; replace hx162_3 := pw_cell_below HB.out hx162_3; replace hx162_4 := pw_cell_below HB.out hx162_4; replace hx162_5 := pw_cell_below HB.out hx162_5; replace hx162_6 := pw_cell_below HB.out hx162_6; have HR162_3 := Aside0.mk hi162_3; have HC162_3 := Aside0.mk hl162_3; clear hi162_3 hl162_3; have HR162_6 := Aside0.mk hi162_6; have HC162_6 := Aside0.mk hl162_6; clear hi162_6 hl162_6; replace p162 := eq_true p162; replace q162 := eq_true q162) | (go_at_call 56; (with_reducible refine (impl_hasKids.calls ((rd_T44 l0 ((rd_T44 y150 x19_2).f5)).f0) true _ A20.out).mono ?_); rintro e w' ⟨rfl, ⟨nd, rfl⟩⟩))
               go_roundg k2
               case measure => have := HJ1.out; have := HK2.out; omega
               case rel => exact ⟨(wrap64 (x19_2 + 1)), (by first | rfl | (simp; done) | (simp [*]; done)), H', ⟨by have := HJ1.out; have := HK2.out; omega⟩, ⟨by repeat (first | (with_reducible first | exact HB.out | apply ba_ | apply bn_ | apply b1_ | refine below_set ?_ GE159.out) | exact HB.out)⟩⟩
              ·replace c21 := Bool.eq_false_iff.mpr c21
               subst c21
               have H1 : (some false) = some r := by rw [if_neg (show ¬ (false = true) by decide)] at H; exact H
               clear H
               have H := H1
               clear H1
               obtain rfl := Option.some.inj H
               have p158 : 0 ≤ (x19_2 : Int) := dq_ (by assumption)
               have q158 : x19_2 < (y150.length : Int) := dq_ (by assumption)
               obtain ⟨ad158, A158_3, c158_3, A158_6, c158_6, e158, hx158_0, hx158_1, hx158_2, hx158_3, hx158_4, hx158_5, hx158_6, hl158_3, hi158_3, hl158_6, hi158_6⟩ := at_T44 HR153.out x19_2 p158 q158
               cases e158
               replace hx158_0 := pw_cell_below HB.out hx158_0
               replace hx158_1 := pw_cell_below HB.out hx158_1
               replace hx158_2 := pw_cell_below HB.out hx158_2
               replace hx158_3 := pw_cell_below HB.out hx158_3
               replace hx158_4 := pw_cell_below HB.out hx158_4
               replace hx158_5 := pw_cell_below HB.out hx158_5
               replace hx158_6 := pw_cell_below HB.out hx158_6
               have HR158_3 := Aside0.mk hi158_3
               have HC158_3 := Aside0.mk hl158_3
               clear hi158_3 hl158_3
               have HR158_6 := Aside0.mk hi158_6
               have HC158_6 := Aside0.mk hl158_6
               clear hi158_6 hl158_6
               replace p158 := eq_true p158
               replace q158 := eq_true q158
               go_wp2_with (first | ((with_reducible refine gate_dst (N := 4) rfl ?_); (try (refine gate_guard (by rfl) ?_; dsimp only)); refine box_event ?hg (N := 4) ?hd (cs := #[.int .i64 0, .int .i64 0, .string (⟨#[]⟩ : ByteArray), .slice none 0 0, .string (⟨#[]⟩ : ByteArray), .int .i64 0, .slice none 0 0]) (t := 44) ?hr ?_; (case hd => rfl); (case hg => rfl); (case hr => first | (go_simp; done) | (go_simp; rfl)); intro gb159 hg w26 hbox hb; have n0_ := Aside0.mk (below_step (by repeat (first | (with_reducible first | exact HB.out | apply ba_ | apply bn_ | apply b1_) | exact HB.out)) hb); have n1_ := Aside0.mk (hbox); have n2_ := Aside0.mk ((by rw [hg]; exact (below_size (by repeat (first | (with_reducible first | exact HB.out | apply ba_ | apply bn_ | apply b1_) | exact HB.out))) : w.heap.size ≤ gb159)); have n3_ := Aside0.mk ((by rw [hg]; exact (below_size (by repeat (first | (with_reducible first | exact HB.out | apply ba_ | apply bn_ | apply b1_) | exact HB.out))) : w.heap.size ≤ gb159)); clear HB; have HB := n0_; have BK159 := n1_; have GW159 := n2_; have GE159 := n3_; clear n0_ n1_ n2_ n3_; clear hb hbox hg; have hcz27_0 : w26.cell? ⟨gb159, 0, none⟩ = some (.int .i64 0) := (bc_ BK159.out 0).trans rfl; have hcz27_1 : w26.cell? ⟨gb159, 1, none⟩ = some (.int .i64 0) := (bc_ BK159.out 1).trans rfl; have hcz27_2 : w26.cell? ⟨gb159, 2, none⟩ = some (.string (⟨#[]⟩ : ByteArray)) := (bc_ BK159.out 2).trans rfl; have hcz27_3 : w26.cell? ⟨gb159, 3, none⟩ = some (.slice none 0 0) := (bc_ BK159.out 3).trans rfl; have hcz27_4 : w26.cell? ⟨gb159, 4, none⟩ = some (.string (⟨#[]⟩ : ByteArray)) := (bc_ BK159.out 4).trans rfl; have hcz27_5 : w26.cell? ⟨gb159, 5, none⟩ = some (.int .i64 0) := (bc_ BK159.out 5).trans rfl; have hcz27_6 : w26.cell? ⟨gb159, 6, none⟩ = some (.slice none 0 0) := (bc_ BK159.out 6).trans rfl; have hfz27_0 := blk_frozen BK159.out 0; have hfz27_1 := blk_frozen BK159.out 1; have hfz27_2 := blk_frozen BK159.out 2; have hfz27_3 := blk_frozen BK159.out 3; have hfz27_4 := blk_frozen BK159.out 4; have hfz27_5 := blk_frozen BK159.out 5; have hfz27_6 := blk_frozen BK159.out 6) | ((with_reducible refine gate_callee (f := 54) rfl ?_); refine goesL_ (some 24) rfl rfl Try.func54 (by kernel_rfl) rfl #[.agg #[.int .i64 ((rd_T44 y150 x19_2).f0), .int .i64 ((rd_T44 y150 x19_2).f1), .string ((rd_T44 y150 x19_2).f2), .slice A158_3 ((rd_T44 y150 x19_2).f3).length c158_3, .string ((rd_T44 y150 x19_2).f4), .int .i64 ((rd_T44 y150 x19_2).f5), .slice A158_6 ((rd_T44 y150 x19_2).f6).length c158_6]] rfl (by (try simp only [List.map_toArray, List.map_cons, List.map_nil]); first | done | rfl | (simp only [List.length_drop, List.length_take]; rfl)) ?_; (with_reducible refine (impl_itemOk.calls k2 ((rd_T44 y150 x19_2).f0) ((rd_T44 y150 x19_2).f1) ((rd_T44 y150 x19_2).f2) _ _ ((rd_T44 y150 x19_2).f3) ((rd_T44 y150 x19_2).f4) ((rd_T44 y150 x19_2).f5) _ _ ((rd_T44 y150 x19_2).f6) true _ ?side1 ?side2 ?side3 ?side4 A14.out).mono ?_); (case side1 => exact Kd.C_below HR158_3.out (by repeat (first | (with_reducible first | exact HB.out | apply ba_ | apply bn_ | apply b1_ | refine below_set ?_ GE159.out) | exact HB.out))); (case side2 => exact HC158_3.out); (case side3 => exact Kd.C_below HR158_6.out (by repeat (first | (with_reducible first | exact HB.out | apply ba_ | apply bn_ | apply b1_ | refine below_set ?_ GE159.out) | exact HB.out))); (case side4 => exact HC158_6.out); rintro e w28 ⟨rfl, hb⟩; refine ⟨_, rfl, ?_⟩; have n0_ := Aside0.mk (blk_below (g := gb159) (o := .cells #[.int .i64 ((rd_T44 y150 x19_2).f0), .int .i64 ((rd_T44 y150 x19_2).f1), .string ((rd_T44 y150 x19_2).f2), .slice A158_3 ((rd_T44 y150 x19_2).f3).length c158_3, .string ((rd_T44 y150 x19_2).f4), .int .i64 ((rd_T44 y150 x19_2).f5), .slice A158_6 ((rd_T44 y150 x19_2).f6).length c158_6] 44 (0, 0)) (by (with_reducible repeat (first | refine dn_ ?_ _ | refine dd_ ?_ | refine da_ ?_ _)); refine blk_put (cs := #[.int .i64 ((rd_T44 y150 x19_2).f0), .int .i64 ((rd_T44 y150 x19_2).f1), .string ((rd_T44 y150 x19_2).f2), .slice A158_3 ((rd_T44 y150 x19_2).f3).length c158_3, .string ((rd_T44 y150 x19_2).f4), .int .i64 ((rd_T44 y150 x19_2).f5), .slice none 0 0]) ?_ 6 _ rfl; (with_reducible repeat (first | refine dn_ ?_ _ | refine dd_ ?_ | refine da_ ?_ _)); refine blk_put (cs := #[.int .i64 ((rd_T44 y150 x19_2).f0), .int .i64 ((rd_T44 y150 x19_2).f1), .string ((rd_T44 y150 x19_2).f2), .slice A158_3 ((rd_T44 y150 x19_2).f3).length c158_3, .string ((rd_T44 y150 x19_2).f4), .int .i64 0, .slice none 0 0]) ?_ 5 _ rfl; (with_reducible repeat (first | refine dn_ ?_ _ | refine dd_ ?_ | refine da_ ?_ _)); refine blk_put (cs := #[.int .i64 ((rd_T44 y150 x19_2).f0), .int .i64 ((rd_T44 y150 x19_2).f1), .string ((rd_T44 y150 x19_2).f2), .slice A158_3 ((rd_T44 y150 x19_2).f3).length c158_3, .string (⟨#[]⟩ : ByteArray), .int .i64 0, .slice none 0 0]) ?_ 4 _ rfl; (with_reducible repeat (first | refine dn_ ?_ _ | refine dd_ ?_ | refine da_ ?_ _)); refine blk_put (cs := #[.int .i64 ((rd_T44 y150 x19_2).f0), .int .i64 ((rd_T44 y150 x19_2).f1), .string ((rd_T44 y150 x19_2).f2), .slice none 0 0, .string (⟨#[]⟩ : ByteArray), .int .i64 0, .slice none 0 0]) ?_ 3 _ rfl; (with_reducible repeat (first | refine dn_ ?_ _ | refine dd_ ?_ | refine da_ ?_ _)); refine blk_put (cs := #[.int .i64 ((rd_T44 y150 x19_2).f0), .int .i64 ((rd_T44 y150 x19_2).f1), .string (⟨#[]⟩ : ByteArray), .slice none 0 0, .string (⟨#[]⟩ : ByteArray), .int .i64 0, .slice none 0 0]) ?_ 2 _ rfl; (with_reducible repeat (first | refine dn_ ?_ _ | refine dd_ ?_ | refine da_ ?_ _)); refine blk_put (cs := #[.int .i64 ((rd_T44 y150 x19_2).f0), .int .i64 0, .string (⟨#[]⟩ : ByteArray), .slice none 0 0, .string (⟨#[]⟩ : ByteArray), .int .i64 0, .slice none 0 0]) ?_ 1 _ rfl; (with_reducible repeat (first | refine dn_ ?_ _ | refine dd_ ?_ | refine da_ ?_ _)); refine blk_put (cs := #[.int .i64 0, .int .i64 0, .string (⟨#[]⟩ : ByteArray), .slice none 0 0, .string (⟨#[]⟩ : ByteArray), .int .i64 0, .slice none 0 0]) ?_ 0 _ rfl; (with_reducible repeat (first | refine dn_ ?_ _ | refine dd_ ?_ | refine da_ ?_ _)); exact BK159.out) hb); have n1_ := Aside0.mk (below_step (by repeat (first | (with_reducible first | exact HB.out | apply ba_ | apply bn_ | apply b1_ | refine below_set ?_ GE159.out) | exact HB.out)) hb); clear BK159; clear HB; have BK159 := n0_; have HB := n1_; clear n0_ n1_; (try clear hb); have hcz29_0 : w28.cell? ⟨gb159, 0, none⟩ = some (.int .i64 ((rd_T44 y150 x19_2).f0)) := (bc_ BK159.out 0).trans rfl; have hcz29_1 : w28.cell? ⟨gb159, 1, none⟩ = some (.int .i64 ((rd_T44 y150 x19_2).f1)) := (bc_ BK159.out 1).trans rfl; have hcz29_2 : w28.cell? ⟨gb159, 2, none⟩ = some (.string ((rd_T44 y150 x19_2).f2)) := (bc_ BK159.out 2).trans rfl; have hcz29_3 : w28.cell? ⟨gb159, 3, none⟩ = some (.slice A158_3 ((rd_T44 y150 x19_2).f3).length c158_3) := (bc_ BK159.out 3).trans rfl; have hcz29_4 : w28.cell? ⟨gb159, 4, none⟩ = some (.string ((rd_T44 y150 x19_2).f4)) := (bc_ BK159.out 4).trans rfl; have hcz29_5 : w28.cell? ⟨gb159, 5, none⟩ = some (.int .i64 ((rd_T44 y150 x19_2).f5)) := (bc_ BK159.out 5).trans rfl; have hcz29_6 : w28.cell? ⟨gb159, 6, none⟩ = some (.slice A158_6 ((rd_T44 y150 x19_2).f6).length c158_6) := (bc_ BK159.out 6).trans rfl; have hfz29_0 := blk_frozen BK159.out 0; have hfz29_1 := blk_frozen BK159.out 1; have hfz29_2 := blk_frozen BK159.out 2; have hfz29_3 := blk_frozen BK159.out 3; have hfz29_4 := blk_frozen BK159.out 4; have hfz29_5 := blk_frozen BK159.out 5; have hfz29_6 := blk_frozen BK159.out 6) | (go_at_call 55; (with_reducible refine (impl_inRange.calls ((rd_T44 y150 x19_2).f5) 0 (wrap64 ((l0.length : Int) - 1)) true _ A16.out).mono ?_); rintro e w' ⟨rfl, ⟨nd, rfl⟩⟩; have p162 : 0 ≤ (((rd_T44 y150 x19_2).f5) : Int) := dq_ (by assumption); have q162 : ((rd_T44 y150 x19_2).f5) < (l0.length : Int) := dq_ (by assumption); obtain ⟨ad162, A162_3, c162_3, A162_6, c162_6, e162, hx162_0, hx162_1, hx162_2, hx162_3, hx162_4, hx162_5, hx162_6, hl162_3, hi162_3, hl162_6, hi162_6⟩ := at_T44 HR0.out ((rd_T44 y150 x19_2).f5) p162 q162; cases e162; replace hx162_0 := pw_cell_below HB.out hx162_0; replace hx162_1 := pw_cell_below HB.out hx162_1; replace hx162_2 := pw_cell_below HB.out hx162_2; replace hx162_3 := pw_cell_below HB.out hx162_3; replace hx162_4 := pw_cell_below HB.out hx162_4; replace hx162_5 := pw_cell_below HB.out hx162_5; replace hx162_6 := pw_cell_below HB.out hx162_6; have HR162_3 := Aside0.mk hi162_3; have HC162_3 := Aside0.mk hl162_3; clear hi162_3 hl162_3; have HR162_6 := Aside0.mk hi162_6; have HC162_6 := Aside0.mk hl162_6; clear hi162_6 hl162_6; replace p162 := eq_true p162; replace q162 := eq_true q162) | (go_at_call 56; (with_reducible refine (impl_hasKids.calls ((rd_T44 l0 ((rd_T44 y150 x19_2).f5)).f0) false _ A20.out).mono ?_); rintro e w' ⟨rfl, ⟨nd, rfl⟩⟩))
               go_ret
               exact ⟨by first | rfl | (simp [errW_none, errW_some] <;> rfl) | (simp [*, errW_none, errW_some] <;> rfl), by repeat (first | (with_reducible first | exact HB.out | apply ba_ | apply bn_ | apply b1_ | refine below_set ?_ GE159.out) | exact HB.out)⟩
             ·rw [if_neg c19] at H
              exact absurd H (by simp)
            ·rw [if_neg c18] at H
             exact absurd H (by simp)
           ·replace c17 := Bool.eq_false_iff.mpr c17
            subst c17
            have H1 : (some false) = some r := by rw [if_neg (show ¬ (false = true) by decide)] at H; exact H
            clear H
            have H := H1
            clear H1
            obtain rfl := Option.some.inj H
            have p158 : 0 ≤ (x19_2 : Int) := dq_ (by assumption)
            have q158 : x19_2 < (y150.length : Int) := dq_ (by assumption)
            obtain ⟨ad158, A158_3, c158_3, A158_6, c158_6, e158, hx158_0, hx158_1, hx158_2, hx158_3, hx158_4, hx158_5, hx158_6, hl158_3, hi158_3, hl158_6, hi158_6⟩ := at_T44 HR153.out x19_2 p158 q158
            cases e158
            replace hx158_0 := pw_cell_below HB.out hx158_0
            replace hx158_1 := pw_cell_below HB.out hx158_1
            replace hx158_2 := pw_cell_below HB.out hx158_2
            replace hx158_3 := pw_cell_below HB.out hx158_3
            replace hx158_4 := pw_cell_below HB.out hx158_4
            replace hx158_5 := pw_cell_below HB.out hx158_5
            replace hx158_6 := pw_cell_below HB.out hx158_6
            have HR158_3 := Aside0.mk hi158_3
            have HC158_3 := Aside0.mk hl158_3
            clear hi158_3 hl158_3
            have HR158_6 := Aside0.mk hi158_6
            have HC158_6 := Aside0.mk hl158_6
            clear hi158_6 hl158_6
            replace p158 := eq_true p158
            replace q158 := eq_true q158
            go_wp2_with (first | ((with_reducible refine gate_dst (N := 4) rfl ?_); (try (refine gate_guard (by rfl) ?_; dsimp only)); refine box_event ?hg (N := 4) ?hd (cs := #[.int .i64 0, .int .i64 0, .string (⟨#[]⟩ : ByteArray), .slice none 0 0, .string (⟨#[]⟩ : ByteArray), .int .i64 0, .slice none 0 0]) (t := 44) ?hr ?_; (case hd => rfl); (case hg => rfl); (case hr => first | (go_simp; done) | (go_simp; rfl)); intro gb159 hg w30 hbox hb; have n0_ := Aside0.mk (below_step (by repeat (first | (with_reducible first | exact HB.out | apply ba_ | apply bn_ | apply b1_) | exact HB.out)) hb); have n1_ := Aside0.mk (hbox); have n2_ := Aside0.mk ((by rw [hg]; exact (below_size (by repeat (first | (with_reducible first | exact HB.out | apply ba_ | apply bn_ | apply b1_) | exact HB.out))) : w.heap.size ≤ gb159)); have n3_ := Aside0.mk ((by rw [hg]; exact (below_size (by repeat (first | (with_reducible first | exact HB.out | apply ba_ | apply bn_ | apply b1_) | exact HB.out))) : w.heap.size ≤ gb159)); clear HB; have HB := n0_; have BK159 := n1_; have GW159 := n2_; have GE159 := n3_; clear n0_ n1_ n2_ n3_; clear hb hbox hg; have hcz31_0 : w30.cell? ⟨gb159, 0, none⟩ = some (.int .i64 0) := (bc_ BK159.out 0).trans rfl; have hcz31_1 : w30.cell? ⟨gb159, 1, none⟩ = some (.int .i64 0) := (bc_ BK159.out 1).trans rfl; have hcz31_2 : w30.cell? ⟨gb159, 2, none⟩ = some (.string (⟨#[]⟩ : ByteArray)) := (bc_ BK159.out 2).trans rfl; have hcz31_3 : w30.cell? ⟨gb159, 3, none⟩ = some (.slice none 0 0) := (bc_ BK159.out 3).trans rfl; have hcz31_4 : w30.cell? ⟨gb159, 4, none⟩ = some (.string (⟨#[]⟩ : ByteArray)) := (bc_ BK159.out 4).trans rfl; have hcz31_5 : w30.cell? ⟨gb159, 5, none⟩ = some (.int .i64 0) := (bc_ BK159.out 5).trans rfl; have hcz31_6 : w30.cell? ⟨gb159, 6, none⟩ = some (.slice none 0 0) := (bc_ BK159.out 6).trans rfl; have hfz31_0 := blk_frozen BK159.out 0; have hfz31_1 := blk_frozen BK159.out 1; have hfz31_2 := blk_frozen BK159.out 2; have hfz31_3 := blk_frozen BK159.out 3; have hfz31_4 := blk_frozen BK159.out 4; have hfz31_5 := blk_frozen BK159.out 5; have hfz31_6 := blk_frozen BK159.out 6) | ((with_reducible refine gate_callee (f := 54) rfl ?_); refine goesL_ (some 24) rfl rfl Try.func54 (by kernel_rfl) rfl #[.agg #[.int .i64 ((rd_T44 y150 x19_2).f0), .int .i64 ((rd_T44 y150 x19_2).f1), .string ((rd_T44 y150 x19_2).f2), .slice A158_3 ((rd_T44 y150 x19_2).f3).length c158_3, .string ((rd_T44 y150 x19_2).f4), .int .i64 ((rd_T44 y150 x19_2).f5), .slice A158_6 ((rd_T44 y150 x19_2).f6).length c158_6]] rfl (by (try simp only [List.map_toArray, List.map_cons, List.map_nil]); first | done | rfl | (simp only [List.length_drop, List.length_take]; rfl)) ?_; (with_reducible refine (impl_itemOk.calls k2 ((rd_T44 y150 x19_2).f0) ((rd_T44 y150 x19_2).f1) ((rd_T44 y150 x19_2).f2) _ _ ((rd_T44 y150 x19_2).f3) ((rd_T44 y150 x19_2).f4) ((rd_T44 y150 x19_2).f5) _ _ ((rd_T44 y150 x19_2).f6) true _ ?side1 ?side2 ?side3 ?side4 A14.out).mono ?_); (case side1 => exact Kd.C_below HR158_3.out (by repeat (first | (with_reducible first | exact HB.out | apply ba_ | apply bn_ | apply b1_ | refine below_set ?_ GE159.out) | exact HB.out))); (case side2 => exact HC158_3.out); (case side3 => exact Kd.C_below HR158_6.out (by repeat (first | (with_reducible first | exact HB.out | apply ba_ | apply bn_ | apply b1_ | refine below_set ?_ GE159.out) | exact HB.out))); (case side4 => exact HC158_6.out); rintro e w32 ⟨rfl, hb⟩; refine ⟨_, rfl, ?_⟩; have n0_ := Aside0.mk (blk_below (g := gb159) (o := .cells #[.int .i64 ((rd_T44 y150 x19_2).f0), .int .i64 ((rd_T44 y150 x19_2).f1), .string ((rd_T44 y150 x19_2).f2), .slice A158_3 ((rd_T44 y150 x19_2).f3).length c158_3, .string ((rd_T44 y150 x19_2).f4), .int .i64 ((rd_T44 y150 x19_2).f5), .slice A158_6 ((rd_T44 y150 x19_2).f6).length c158_6] 44 (0, 0)) (by (with_reducible repeat (first | refine dn_ ?_ _ | refine dd_ ?_ | refine da_ ?_ _)); refine blk_put (cs := #[.int .i64 ((rd_T44 y150 x19_2).f0), .int .i64 ((rd_T44 y150 x19_2).f1), .string ((rd_T44 y150 x19_2).f2), .slice A158_3 ((rd_T44 y150 x19_2).f3).length c158_3, .string ((rd_T44 y150 x19_2).f4), .int .i64 ((rd_T44 y150 x19_2).f5), .slice none 0 0]) ?_ 6 _ rfl; (with_reducible repeat (first | refine dn_ ?_ _ | refine dd_ ?_ | refine da_ ?_ _)); refine blk_put (cs := #[.int .i64 ((rd_T44 y150 x19_2).f0), .int .i64 ((rd_T44 y150 x19_2).f1), .string ((rd_T44 y150 x19_2).f2), .slice A158_3 ((rd_T44 y150 x19_2).f3).length c158_3, .string ((rd_T44 y150 x19_2).f4), .int .i64 0, .slice none 0 0]) ?_ 5 _ rfl; (with_reducible repeat (first | refine dn_ ?_ _ | refine dd_ ?_ | refine da_ ?_ _)); refine blk_put (cs := #[.int .i64 ((rd_T44 y150 x19_2).f0), .int .i64 ((rd_T44 y150 x19_2).f1), .string ((rd_T44 y150 x19_2).f2), .slice A158_3 ((rd_T44 y150 x19_2).f3).length c158_3, .string (⟨#[]⟩ : ByteArray), .int .i64 0, .slice none 0 0]) ?_ 4 _ rfl; (with_reducible repeat (first | refine dn_ ?_ _ | refine dd_ ?_ | refine da_ ?_ _)); refine blk_put (cs := #[.int .i64 ((rd_T44 y150 x19_2).f0), .int .i64 ((rd_T44 y150 x19_2).f1), .string ((rd_T44 y150 x19_2).f2), .slice none 0 0, .string (⟨#[]⟩ : ByteArray), .int .i64 0, .slice none 0 0]) ?_ 3 _ rfl; (with_reducible repeat (first | refine dn_ ?_ _ | refine dd_ ?_ | refine da_ ?_ _)); refine blk_put (cs := #[.int .i64 ((rd_T44 y150 x19_2).f0), .int .i64 ((rd_T44 y150 x19_2).f1), .string (⟨#[]⟩ : ByteArray), .slice none 0 0, .string (⟨#[]⟩ : ByteArray), .int .i64 0, .slice none 0 0]) ?_ 2 _ rfl; (with_reducible repeat (first | refine dn_ ?_ _ | refine dd_ ?_ | refine da_ ?_ _)); refine blk_put (cs := #[.int .i64 ((rd_T44 y150 x19_2).f0), .int .i64 0, .string (⟨#[]⟩ : ByteArray), .slice none 0 0, .string (⟨#[]⟩ : ByteArray), .int .i64 0, .slice none 0 0]) ?_ 1 _ rfl; (with_reducible repeat (first | refine dn_ ?_ _ | refine dd_ ?_ | refine da_ ?_ _)); refine blk_put (cs := #[.int .i64 0, .int .i64 0, .string (⟨#[]⟩ : ByteArray), .slice none 0 0, .string (⟨#[]⟩ : ByteArray), .int .i64 0, .slice none 0 0]) ?_ 0 _ rfl; (with_reducible repeat (first | refine dn_ ?_ _ | refine dd_ ?_ | refine da_ ?_ _)); exact BK159.out) hb); have n1_ := Aside0.mk (below_step (by repeat (first | (with_reducible first | exact HB.out | apply ba_ | apply bn_ | apply b1_ | refine below_set ?_ GE159.out) | exact HB.out)) hb); clear BK159; clear HB; have BK159 := n0_; have HB := n1_; clear n0_ n1_; (try clear hb); have hcz33_0 : w32.cell? ⟨gb159, 0, none⟩ = some (.int .i64 ((rd_T44 y150 x19_2).f0)) := (bc_ BK159.out 0).trans rfl; have hcz33_1 : w32.cell? ⟨gb159, 1, none⟩ = some (.int .i64 ((rd_T44 y150 x19_2).f1)) := (bc_ BK159.out 1).trans rfl; have hcz33_2 : w32.cell? ⟨gb159, 2, none⟩ = some (.string ((rd_T44 y150 x19_2).f2)) := (bc_ BK159.out 2).trans rfl; have hcz33_3 : w32.cell? ⟨gb159, 3, none⟩ = some (.slice A158_3 ((rd_T44 y150 x19_2).f3).length c158_3) := (bc_ BK159.out 3).trans rfl; have hcz33_4 : w32.cell? ⟨gb159, 4, none⟩ = some (.string ((rd_T44 y150 x19_2).f4)) := (bc_ BK159.out 4).trans rfl; have hcz33_5 : w32.cell? ⟨gb159, 5, none⟩ = some (.int .i64 ((rd_T44 y150 x19_2).f5)) := (bc_ BK159.out 5).trans rfl; have hcz33_6 : w32.cell? ⟨gb159, 6, none⟩ = some (.slice A158_6 ((rd_T44 y150 x19_2).f6).length c158_6) := (bc_ BK159.out 6).trans rfl; have hfz33_0 := blk_frozen BK159.out 0; have hfz33_1 := blk_frozen BK159.out 1; have hfz33_2 := blk_frozen BK159.out 2; have hfz33_3 := blk_frozen BK159.out 3; have hfz33_4 := blk_frozen BK159.out 4; have hfz33_5 := blk_frozen BK159.out 5; have hfz33_6 := blk_frozen BK159.out 6) | (go_at_call 55; (with_reducible refine (impl_inRange.calls ((rd_T44 y150 x19_2).f5) 0 (wrap64 ((l0.length : Int) - 1)) false _ A16.out).mono ?_); rintro e w' ⟨rfl, ⟨nd, rfl⟩⟩))
            go_ret
            exact ⟨by first | rfl | (simp [errW_none, errW_some] <;> rfl) | (simp [*, errW_none, errW_some] <;> rfl), by repeat (first | (with_reducible first | exact HB.out | apply ba_ | apply bn_ | apply b1_ | refine below_set ?_ GE159.out) | exact HB.out)⟩
          ·replace c15 := Bool.eq_false_iff.mpr c15
           subst c15
           have H1 : (some false) = some r := by rw [if_neg (show ¬ (false = true) by decide)] at H; exact H
           clear H
           have H := H1
           clear H1
           obtain rfl := Option.some.inj H
           have p158 : 0 ≤ (x19_2 : Int) := dq_ (by assumption)
           have q158 : x19_2 < (y150.length : Int) := dq_ (by assumption)
           obtain ⟨ad158, A158_3, c158_3, A158_6, c158_6, e158, hx158_0, hx158_1, hx158_2, hx158_3, hx158_4, hx158_5, hx158_6, hl158_3, hi158_3, hl158_6, hi158_6⟩ := at_T44 HR153.out x19_2 p158 q158
           cases e158
           replace hx158_0 := pw_cell_below HB.out hx158_0
           replace hx158_1 := pw_cell_below HB.out hx158_1
           replace hx158_2 := pw_cell_below HB.out hx158_2
           replace hx158_3 := pw_cell_below HB.out hx158_3
           replace hx158_4 := pw_cell_below HB.out hx158_4
           replace hx158_5 := pw_cell_below HB.out hx158_5
           replace hx158_6 := pw_cell_below HB.out hx158_6
           have HR158_3 := Aside0.mk hi158_3
           have HC158_3 := Aside0.mk hl158_3
           clear hi158_3 hl158_3
           have HR158_6 := Aside0.mk hi158_6
           have HC158_6 := Aside0.mk hl158_6
           clear hi158_6 hl158_6
           replace p158 := eq_true p158
           replace q158 := eq_true q158
           go_wp2_with (first | ((with_reducible refine gate_dst (N := 4) rfl ?_); (try (refine gate_guard (by rfl) ?_; dsimp only)); refine box_event ?hg (N := 4) ?hd (cs := #[.int .i64 0, .int .i64 0, .string (⟨#[]⟩ : ByteArray), .slice none 0 0, .string (⟨#[]⟩ : ByteArray), .int .i64 0, .slice none 0 0]) (t := 44) ?hr ?_; (case hd => rfl); (case hg => rfl); (case hr => first | (go_simp; done) | (go_simp; rfl)); intro gb159 hg w34 hbox hb; have n0_ := Aside0.mk (below_step (by repeat (first | (with_reducible first | exact HB.out | apply ba_ | apply bn_ | apply b1_) | exact HB.out)) hb); have n1_ := Aside0.mk (hbox); have n2_ := Aside0.mk ((by rw [hg]; exact (below_size (by repeat (first | (with_reducible first | exact HB.out | apply ba_ | apply bn_ | apply b1_) | exact HB.out))) : w.heap.size ≤ gb159)); have n3_ := Aside0.mk ((by rw [hg]; exact (below_size (by repeat (first | (with_reducible first | exact HB.out | apply ba_ | apply bn_ | apply b1_) | exact HB.out))) : w.heap.size ≤ gb159)); clear HB; have HB := n0_; have BK159 := n1_; have GW159 := n2_; have GE159 := n3_; clear n0_ n1_ n2_ n3_; clear hb hbox hg; have hcz35_0 : w34.cell? ⟨gb159, 0, none⟩ = some (.int .i64 0) := (bc_ BK159.out 0).trans rfl; have hcz35_1 : w34.cell? ⟨gb159, 1, none⟩ = some (.int .i64 0) := (bc_ BK159.out 1).trans rfl; have hcz35_2 : w34.cell? ⟨gb159, 2, none⟩ = some (.string (⟨#[]⟩ : ByteArray)) := (bc_ BK159.out 2).trans rfl; have hcz35_3 : w34.cell? ⟨gb159, 3, none⟩ = some (.slice none 0 0) := (bc_ BK159.out 3).trans rfl; have hcz35_4 : w34.cell? ⟨gb159, 4, none⟩ = some (.string (⟨#[]⟩ : ByteArray)) := (bc_ BK159.out 4).trans rfl; have hcz35_5 : w34.cell? ⟨gb159, 5, none⟩ = some (.int .i64 0) := (bc_ BK159.out 5).trans rfl; have hcz35_6 : w34.cell? ⟨gb159, 6, none⟩ = some (.slice none 0 0) := (bc_ BK159.out 6).trans rfl; have hfz35_0 := blk_frozen BK159.out 0; have hfz35_1 := blk_frozen BK159.out 1; have hfz35_2 := blk_frozen BK159.out 2; have hfz35_3 := blk_frozen BK159.out 3; have hfz35_4 := blk_frozen BK159.out 4; have hfz35_5 := blk_frozen BK159.out 5; have hfz35_6 := blk_frozen BK159.out 6) | ((with_reducible refine gate_callee (f := 54) rfl ?_); refine goesL_ (some 24) rfl rfl Try.func54 (by kernel_rfl) rfl #[.agg #[.int .i64 ((rd_T44 y150 x19_2).f0), .int .i64 ((rd_T44 y150 x19_2).f1), .string ((rd_T44 y150 x19_2).f2), .slice A158_3 ((rd_T44 y150 x19_2).f3).length c158_3, .string ((rd_T44 y150 x19_2).f4), .int .i64 ((rd_T44 y150 x19_2).f5), .slice A158_6 ((rd_T44 y150 x19_2).f6).length c158_6]] rfl (by (try simp only [List.map_toArray, List.map_cons, List.map_nil]); first | done | rfl | (simp only [List.length_drop, List.length_take]; rfl)) ?_; (with_reducible refine (impl_itemOk.calls k2 ((rd_T44 y150 x19_2).f0) ((rd_T44 y150 x19_2).f1) ((rd_T44 y150 x19_2).f2) _ _ ((rd_T44 y150 x19_2).f3) ((rd_T44 y150 x19_2).f4) ((rd_T44 y150 x19_2).f5) _ _ ((rd_T44 y150 x19_2).f6) false _ ?side1 ?side2 ?side3 ?side4 A14.out).mono ?_); (case side1 => exact Kd.C_below HR158_3.out (by repeat (first | (with_reducible first | exact HB.out | apply ba_ | apply bn_ | apply b1_ | refine below_set ?_ GE159.out) | exact HB.out))); (case side2 => exact HC158_3.out); (case side3 => exact Kd.C_below HR158_6.out (by repeat (first | (with_reducible first | exact HB.out | apply ba_ | apply bn_ | apply b1_ | refine below_set ?_ GE159.out) | exact HB.out))); (case side4 => exact HC158_6.out); rintro e w36 ⟨rfl, hb⟩; refine ⟨_, rfl, ?_⟩; have n0_ := Aside0.mk (blk_below (g := gb159) (o := .cells #[.int .i64 ((rd_T44 y150 x19_2).f0), .int .i64 ((rd_T44 y150 x19_2).f1), .string ((rd_T44 y150 x19_2).f2), .slice A158_3 ((rd_T44 y150 x19_2).f3).length c158_3, .string ((rd_T44 y150 x19_2).f4), .int .i64 ((rd_T44 y150 x19_2).f5), .slice A158_6 ((rd_T44 y150 x19_2).f6).length c158_6] 44 (0, 0)) (by (with_reducible repeat (first | refine dn_ ?_ _ | refine dd_ ?_ | refine da_ ?_ _)); refine blk_put (cs := #[.int .i64 ((rd_T44 y150 x19_2).f0), .int .i64 ((rd_T44 y150 x19_2).f1), .string ((rd_T44 y150 x19_2).f2), .slice A158_3 ((rd_T44 y150 x19_2).f3).length c158_3, .string ((rd_T44 y150 x19_2).f4), .int .i64 ((rd_T44 y150 x19_2).f5), .slice none 0 0]) ?_ 6 _ rfl; (with_reducible repeat (first | refine dn_ ?_ _ | refine dd_ ?_ | refine da_ ?_ _)); refine blk_put (cs := #[.int .i64 ((rd_T44 y150 x19_2).f0), .int .i64 ((rd_T44 y150 x19_2).f1), .string ((rd_T44 y150 x19_2).f2), .slice A158_3 ((rd_T44 y150 x19_2).f3).length c158_3, .string ((rd_T44 y150 x19_2).f4), .int .i64 0, .slice none 0 0]) ?_ 5 _ rfl; (with_reducible repeat (first | refine dn_ ?_ _ | refine dd_ ?_ | refine da_ ?_ _)); refine blk_put (cs := #[.int .i64 ((rd_T44 y150 x19_2).f0), .int .i64 ((rd_T44 y150 x19_2).f1), .string ((rd_T44 y150 x19_2).f2), .slice A158_3 ((rd_T44 y150 x19_2).f3).length c158_3, .string (⟨#[]⟩ : ByteArray), .int .i64 0, .slice none 0 0]) ?_ 4 _ rfl; (with_reducible repeat (first | refine dn_ ?_ _ | refine dd_ ?_ | refine da_ ?_ _)); refine blk_put (cs := #[.int .i64 ((rd_T44 y150 x19_2).f0), .int .i64 ((rd_T44 y150 x19_2).f1), .string ((rd_T44 y150 x19_2).f2), .slice none 0 0, .string (⟨#[]⟩ : ByteArray), .int .i64 0, .slice none 0 0]) ?_ 3 _ rfl; (with_reducible repeat (first | refine dn_ ?_ _ | refine dd_ ?_ | refine da_ ?_ _)); refine blk_put (cs := #[.int .i64 ((rd_T44 y150 x19_2).f0), .int .i64 ((rd_T44 y150 x19_2).f1), .string (⟨#[]⟩ : ByteArray), .slice none 0 0, .string (⟨#[]⟩ : ByteArray), .int .i64 0, .slice none 0 0]) ?_ 2 _ rfl; (with_reducible repeat (first | refine dn_ ?_ _ | refine dd_ ?_ | refine da_ ?_ _)); refine blk_put (cs := #[.int .i64 ((rd_T44 y150 x19_2).f0), .int .i64 0, .string (⟨#[]⟩ : ByteArray), .slice none 0 0, .string (⟨#[]⟩ : ByteArray), .int .i64 0, .slice none 0 0]) ?_ 1 _ rfl; (with_reducible repeat (first | refine dn_ ?_ _ | refine dd_ ?_ | refine da_ ?_ _)); refine blk_put (cs := #[.int .i64 0, .int .i64 0, .string (⟨#[]⟩ : ByteArray), .slice none 0 0, .string (⟨#[]⟩ : ByteArray), .int .i64 0, .slice none 0 0]) ?_ 0 _ rfl; (with_reducible repeat (first | refine dn_ ?_ _ | refine dd_ ?_ | refine da_ ?_ _)); exact BK159.out) hb); have n1_ := Aside0.mk (below_step (by repeat (first | (with_reducible first | exact HB.out | apply ba_ | apply bn_ | apply b1_ | refine below_set ?_ GE159.out) | exact HB.out)) hb); clear BK159; clear HB; have BK159 := n0_; have HB := n1_; clear n0_ n1_; (try clear hb)))
           go_ret
           exact ⟨by first | rfl | (simp [errW_none, errW_some] <;> rfl) | (simp [*, errW_none, errW_some] <;> rfl), by repeat (first | (with_reducible first | exact HB.out | apply ba_ | apply bn_ | apply b1_ | refine below_set ?_ GE159.out) | exact HB.out)⟩
         ·rw [if_neg c13] at H
          exact absurd H (by simp)
        ·rw [if_neg c12] at H
         exact absurd H (by simp)
       ·rw [if_neg c11] at H
        have c11b0 : decide (x19_2 < (y150.length : Int)) = false := decide_eq_false c11
        clear c11
        replace H := Option.bind_eq_some_iff.mp H
        obtain ⟨t154, A370, H⟩ := H
        replace H : (if t154 = true then ((impl_order.f k2 l0).bind fun t155 => (some ((t155.length : Int) == (l0.length : Int)))) else (some false)) = some r := H
        have A37 := Aside0.mk A370
        clear A370
        by_cases c38 : t154 = true
        ·subst c38
         have H1 : ((impl_order.f k2 l0).bind fun t155 => (some ((t155.length : Int) == (l0.length : Int)))) = some r := by rw [if_pos rfl] at H; exact H
         clear H
         have H := H1
         clear H1
         replace H := Option.bind_eq_some_iff.mp H
         obtain ⟨t155, A390, H⟩ := H
         replace H : (some ((t155.length : Int) == (l0.length : Int))) = some r := H
         have A39 := Aside0.mk A390
         clear A390
         obtain rfl := Option.some.inj H
         go_wp2_with (first | ((with_reducible refine gate_callee (f := 66) rfl ?_); refine goesL_ (some 47) rfl rfl Try.func66 (by kernel_rfl) rfl #[.slice A0 l0.length c0] rfl (by (try simp only [List.map_toArray, List.map_cons, List.map_nil]); first | done | rfl | (simp only [List.length_drop, List.length_take]; rfl)) ?_; (with_reducible refine (impl_kidsOk.calls k2 _ _ l0 true _ ?side1 ?side2 A37.out).mono ?_); (case side1 => repeat (first | exact (Kd.C_below HR0.out HB.out) | (with_reducible refine ca_ ?_ _) | (with_reducible refine cn_ ?_ _) | (with_reducible refine cd_ ?_))); (case side2 => exact HC0.out); rintro e w40 ⟨rfl, hb⟩; refine ⟨_, rfl, ?_⟩; have n0_ := Aside0.mk (below_step (by repeat (first | (with_reducible first | exact HB.out | apply ba_ | apply bn_ | apply b1_) | exact HB.out)) hb); clear HB; have HB := n0_; clear n0_; (try clear hb)) | (go_at_call 67; (with_reducible refine (impl_order.calls k2 _ _ l0 t155 _ ?side1 ?side2 A39.out).mono ?_); (case side1 => repeat (first | exact (Kd.C_below HR0.out HB.out) | (with_reducible refine ca_ ?_ _) | (with_reducible refine cn_ ?_ _) | (with_reducible refine cd_ ?_))); (case side2 => exact HC0.out); rintro e w41 ⟨v156, rfl, ho0, hb⟩; have n0_ := Aside0.mk (Kd.R_lower ho0 (below_size (by repeat (first | (with_reducible first | exact HB.out | apply ba_ | apply bn_ | apply b1_) | exact HB.out)))); have n1_ := Aside0.mk (below_step (by repeat (first | (with_reducible first | exact HB.out | apply ba_ | apply bn_ | apply b1_) | exact HB.out)) hb); clear HB; have HO157 := n0_; have HB := n1_; clear n0_ n1_; (try clear hb); (try clear ho0); obtain ⟨Ao42, co42, eo42⟩ := Kd.R_slice HO157.out; subst eo42))
         go_ret
         exact ⟨by first | rfl | (simp [errW_none, errW_some] <;> rfl) | (simp [*, errW_none, errW_some] <;> rfl), by repeat (first | (with_reducible first | exact HB.out | apply ba_ | apply bn_ | apply b1_) | exact HB.out)⟩
        ·replace c38 := Bool.eq_false_iff.mpr c38
         subst c38
         have H1 : (some false) = some r := by rw [if_neg (show ¬ (false = true) by decide)] at H; exact H
         clear H
         have H := H1
         clear H1
         obtain rfl := Option.some.inj H
         go_wp2_with (first | ((with_reducible refine gate_callee (f := 66) rfl ?_); refine goesL_ (some 47) rfl rfl Try.func66 (by kernel_rfl) rfl #[.slice A0 l0.length c0] rfl (by (try simp only [List.map_toArray, List.map_cons, List.map_nil]); first | done | rfl | (simp only [List.length_drop, List.length_take]; rfl)) ?_; (with_reducible refine (impl_kidsOk.calls k2 _ _ l0 false _ ?side1 ?side2 A37.out).mono ?_); (case side1 => repeat (first | exact (Kd.C_below HR0.out HB.out) | (with_reducible refine ca_ ?_ _) | (with_reducible refine cn_ ?_ _) | (with_reducible refine cd_ ?_))); (case side2 => exact HC0.out); rintro e w43 ⟨rfl, hb⟩; refine ⟨_, rfl, ?_⟩; have n0_ := Aside0.mk (below_step (by repeat (first | (with_reducible first | exact HB.out | apply ba_ | apply bn_ | apply b1_) | exact HB.out)) hb); clear HB; have HB := n0_; clear n0_; (try clear hb)))
         go_ret
         exact ⟨by first | rfl | (simp [errW_none, errW_some] <;> rfl) | (simp [*, errW_none, errW_some] <;> rfl), by repeat (first | (with_reducible first | exact HB.out | apply ba_ | apply bn_ | apply b1_) | exact HB.out)⟩
    ·rw [if_neg c9] at H
     exact absurd H (by simp)
def impl_Item.f (l0 : List (S44)) : Option (List (S44)) := if l0.length < 1353245080339 then some l0 else none
def CI (w W : World) (base : Nat) (v : Value) (l : List (S44)) : Prop := (l = [] ∧ v = .slice none 0 0) ∨ ∃ g cap cells, v = .slice (some ⟨g, 0, none⟩) l.length cap ∧ base ≤ g ∧ W.heap[g]? = some (.cells cells 44 (0, 0)) ∧ l.length ≤ cap ∧ cap ≤ maxLen ∧ cells.size = cap * 7 ∧ ∀ j p, l[j]? = some p → ∃ cs, k44.K w p cs ∧ ∀ i u, cs[i]? = some u → cells[j * 7 + i]? = some u
theorem CI.of_raw {w W : World} {base : Nat} {ok : Nat → Prop} {v : Value} {l : List (S44)} {news : List (List Value)} (h : Kd.R (Kd.raw 7) 44 W base ok v news) (hl : news.length = l.length) (hn : ∀ (j : Nat) (x : S44) (c : List Value), l[j]? = some x → news[j]? = some c → k44.K w x c) : CI w W base v l := by
 obtain ⟨_, inner, ⟨hil, ho⟩, hr⟩ := h
 have hn7 : (Kd.raw 7).sz = 7 := rfl
 rw [hn7] at hil ho hr
 rcases ho with ⟨rfl, h0⟩ | ⟨g, cap, cur, rfl, hb, hc, hcap, hmx, hsz, htk⟩
 ·exact .inl ⟨List.length_eq_zero_iff.1 (by omega), rfl⟩
 ·refine .inr ⟨g, cap, cur, by rw [hl], hb, hc, by omega, hmx, hsz, fun j p hp => ?_⟩
  have hj := (List.getElem?_eq_some_iff.1 hp).1
  have hjn : j < news.length := by omega
  have hK := hn j p _ hp (List.getElem?_eq_getElem hjn)
  obtain ⟨e1, e2, _⟩ := hr.2 j _ (List.getElem?_eq_getElem hjn)
  refine ⟨_, hK, fun i u hu => ?_⟩
  rw [← e1, List.getElem?_take] at hu
  split at hu
  ·rw [List.getElem?_drop, ← htk, List.getElem?_take] at hu
   split at hu
   ·rw [← Array.getElem?_toList]; exact hu
   ·cases hu
  ·cases hu
theorem CI.slice {w W : World} {base : Nat} {v : Value} {l : List (S44)} (h : CI w W base v l) : ∃ A c, v = .slice A l.length c := by
 rcases h with ⟨rfl, rfl⟩ | ⟨g, cap, cells, rfl, _⟩
 ·exact ⟨_, _, rfl⟩
 ·exact ⟨_, _, rfl⟩
set_option maxHeartbeats 1000000 in
set_option maxRecDepth 100000 in
theorem impl_Item.calls (A0 : Option Addr) (c0 : Nat) (l0 : List (S44)) (r : List (S44)) (w : World) (hr0 : Kd.C k44 w A0 l0.length l0) (hc0 : l0.length ≤ c0) (h : impl_Item.f l0 = some r) :
  Calls Try.prog 78 #[.slice A0 l0.length c0] w fun e w' => ∃ v0_ : Value, e = .returned (v0_) ∧ CI w w' w.heap.size v0_ r ∧ Below w.heap.size w w' := by
 unfold impl_Item.f at h
 by_cases c1 : l0.length < 1353245080339
 rotate_left
 ·rw [if_neg c1] at h; exact absurd h (by simp)
 rw [if_pos c1] at h
 obtain rfl := Option.some.inj h
 have HL := Aside0.mk c1
 clear h c1
 have HB := Aside0.mk (Below.refl w.heap.size w)
 rcases A0 with _ | ad
 ·have e0 : l0 = [] := by
   rcases Nat.eq_zero_or_pos l0.length with h0 | h0
   ·exact List.length_eq_zero_iff.1 h0
   ·obtain ⟨ad, h, _⟩ := hr0.2.2 h0; cases h
  subst e0
  have hq : ∀ W, (binOp .eql 28 (.slice none 0 c0) (.slice none 0 0)).run Try.prog W = .ok (.bool true) W := fun _ => rfl
  go_enter Try.func78, Try.ntmps78
  go_wp2
  go_ret
  exact ⟨_, by first | rfl | (simp; done), .inl ⟨rfl, rfl⟩, HB.out⟩
 ·obtain ⟨news, hnl, hnr, hnf⟩ := Kd.reads_raw hr0 (fun x c hk => ⟨k44.K_len hk, k44.K_one hk⟩)
  have HR := Aside0.mk (show ReadsRow ((Kd.raw 7).K w) 7 w (some ad) l0.length news from hnr)
  have HNL := Aside0.mk hnl
  have HNF := Aside0.mk hnf
  clear hr0 hnl hnr hnf
  have hq : ∀ W, (binOp .eql 28 (.slice (some ad) l0.length c0) (.slice none 0 0)).run Try.prog W = .ok (.bool false) W := fun _ => rfl
  go_enter Try.func78, Try.ntmps78
  go_wp2_with (first | ((with_reducible refine gate_dst (N := 5) rfl ?_); refine Kd.R_lit (Kd.raw 7) _ 44 ?hg (N := 5) ?hd (xs := ([] : List (List Value))) (inner := []) (ok := fun _ => True) (okp := fun _ => True) ?hr ?hp (fun _ hk => hk) trivial (Below.refl _ _) (Nat.le_refl _) (by simp) ?_; (case hd => rfl); (case hg => rfl); (case hr => first | (go_simp; done) | (go_simp; rfl)); (case hp => exact (Reps.none _ _)); intro v1 w1 ho hb hg_ hnew_; have HO := Aside0.mk ho; have n0_ := Aside0.mk (below_step HB.out hb); have HR1 := Aside0.mk (Kd.C_below (d := Kd.raw 7) HR.out hb); clear HB HR; have HB := n0_; have HR := HR1; clear n0_ HR1 ho hb hg_ hnew_) | ((with_reducible refine gate_builtin (b := .append) (xs := #[.tmp 5, .tmp 6]) rfl ?_); at_builtin; refine Kd.R_append_rows (Kd.raw 7) (w0 := w) w.heap.size rfl (.tmp 5) (.tmp 6) 28 44 (.agg #[(.int .i64 0), (.int .i64 0), (.string ⟨#[]⟩), (.slice none 0 0), (.string ⟨#[]⟩), (.int .i64 0), (.slice none 0 0)]) 104 rfl Try.underlying28 info44 rfl (by decide) (by omega) v1 [] news _ _ _ (fun _ => True) (fun _ => False) rfl rfl HO.out HR.out (fun _ _ h => h) (fun _ h => h.elim) (fun _ _ => trivial) HB.out HB.out.size (by have := HL.out; simp only [List.length_nil]; omega) ?_; intro v2 w2 ho hb hg hat; have HO2 := Aside0.mk ho; have HB2 := Aside0.mk hb; clear ho hb hg hat))
  go_ret
  exact ⟨_, by first | rfl | (simp; done), CI.of_raw HO2.out HNL.out HNF.out, HB2.out⟩
def impl_Attr.f (l0 : List S91) : Option (List S91) := if l0.length < 4398046511104 then some l0 else none
set_option maxHeartbeats 1000000 in
set_option maxRecDepth 100000 in
theorem impl_Attr.calls (A0 : Option Addr) (c0 : Nat) (l0 : List S91) (r : List S91) (w : World) (hr0 : Kd.C k91 w A0 l0.length l0) (hc0 : l0.length ≤ c0) (h : impl_Attr.f l0 = some r) :
  Calls Try.prog 88 #[.slice A0 l0.length c0] w fun e w' => ∃ v0_ : Value, e = .returned (v0_) ∧ Kd.R k91 91 w' w.heap.size (fun _ => True) v0_ r ∧ Below w.heap.size w w' := by
 unfold impl_Attr.f at h
 by_cases c1 : l0.length < 4398046511104
 rotate_left
 ·rw [if_neg c1] at h; exact absurd h (by simp)
 rw [if_pos c1] at h
 obtain rfl := Option.some.inj h
 have HL := Aside0.mk c1
 have HR := Aside0.mk hr0
 clear h c1
 have HB := Aside0.mk (Below.refl w.heap.size w)
 rcases A0 with _ | ad
 ·have e0 : l0 = [] := by
   rcases Nat.eq_zero_or_pos l0.length with h0 | h0
   ·exact List.length_eq_zero_iff.1 h0
   ·obtain ⟨ad, h, _⟩ := HR.out.2.2 h0; cases h
  subst e0
  have hq : ∀ W, (binOp .eql 42 (.slice none 0 c0) (.slice none 0 0)).run Try.prog W = .ok (.bool true) W := fun _ => rfl
  go_enter Try.func88, Try.ntmps88
  go_wp2
  go_ret
  exact ⟨_, by first | rfl | (simp; done), Kd.R_nil _ _ _ _ _, HB.out⟩
 ·have hq : ∀ W, (binOp .eql 42 (.slice (some ad) l0.length c0) (.slice none 0 0)).run Try.prog W = .ok (.bool false) W := fun _ => rfl
  go_enter Try.func88, Try.ntmps88
  go_wp2_with (first | ((with_reducible refine gate_dst (N := 5) rfl ?_); refine Kd.R_lit k91 _ 91 ?hg (N := 5) ?hd (xs := ([] : List S91)) (inner := []) (ok := fun _ => True) (okp := fun _ => True) ?hr ?hp (fun _ hk => hk) trivial (Below.refl _ _) (Nat.le_refl _) (by simp) ?_; (case hd => rfl); (case hg => rfl); (case hr => first | (go_simp; done) | (go_simp; rfl)); (case hp => exact (Reps.none _ _)); intro v1 w1 ho hb hg_ hnew_; have HO := Aside0.mk ho; have n0_ := Aside0.mk (below_step HB.out hb); have HR1 := Aside0.mk (Kd.C_below HR.out hb); clear HB HR; have HB := n0_; have HR := HR1; clear n0_ HR1 ho hb hg_ hnew_) | ((with_reducible refine gate_builtin (b := .append) (xs := #[.tmp 5, .tmp 6]) rfl ?_); at_builtin; refine Kd.R_append_rows k91 (w0 := w) w.heap.size rfl (.tmp 5) (.tmp 6) 42 91 (.agg #[(.string ⟨#[]⟩), (.string ⟨#[]⟩)]) 32 rfl Try.underlying42 info91 rfl (by decide) (by omega) v1 [] l0 _ _ _ (fun _ => True) (fun _ => False) rfl rfl HO.out HR.out (fun _ _ h => h) (fun _ h => h.elim) (fun _ _ => trivial) HB.out HB.out.size (by have := HL.out; simp only [List.length_nil]; omega) ?_; intro v2 w2 ho hb hg hat; have HO2 := Aside0.mk ho; have HB2 := Aside0.mk hb; clear ho hb hg hat))
  go_ret
  exact ⟨_, by first | rfl | (simp; done), HO2.out, HB2.out⟩
def impl_copyAttrs.f (l0 : List (S91)) : Option ((List (S91))) := (impl_Attr.f l0).bind fun t164 => (some t164)
set_option maxHeartbeats 8000000 in
set_option maxRecDepth 100000 in
theorem impl_copyAttrs.calls (A0 : Option Addr) (c0 : Nat) (l0 : List (S91)) (r : List (S91)) (w : World) (hr0 : Kd.C k91 w A0 l0.length l0) (hc0 : l0.length ≤ c0) (h : impl_copyAttrs.f l0 = some r) :
  Calls Try.prog 79 #[.slice A0 l0.length c0] w fun e w' => ∃ v0_ : Value, e = .returned (v0_) ∧ Kd.R k91 91 w' w.heap.size (fun _ => True) v0_ r ∧ Below w.heap.size w w' := by
 have HR0 := Aside0.mk hr0
 have HC0 := Aside0.mk hc0
 clear hr0 hc0
 have HB := Aside0.mk (Below.refl w.heap.size w)
 have H : ((impl_Attr.f l0).bind fun t164 => (some t164)) = some r := h
 clear h
 replace H := Option.bind_eq_some_iff.mp H
 obtain ⟨t164, A20, H⟩ := H
 replace H : (some t164) = some r := H
 have A2 := Aside0.mk A20
 clear A20
 obtain rfl := Option.some.inj H
 go_enter Try.func79, Try.ntmps79
 go_wp2_with (first | ((with_reducible refine gate_callee (f := 88) rfl ?_); refine goesL_ (some 4) rfl rfl Try.func88 (by kernel_rfl) rfl #[.slice A0 l0.length c0] rfl (by (try simp only [List.map_toArray, List.map_cons, List.map_nil]); first | done | rfl | (simp only [List.length_drop, List.length_take]; rfl)) ?_; (with_reducible refine (impl_Attr.calls _ _ l0 t164 _ ?side1 ?side2 A2.out).mono ?_); (case side1 => repeat (first | exact HR0.out | (with_reducible refine ca_ ?_ _) | (with_reducible refine cn_ ?_ _) | (with_reducible refine cd_ ?_))); (case side2 => exact HC0.out); rintro e w3 ⟨v165, rfl, ho0, hb⟩; refine ⟨_, rfl, ?_⟩; have n0_ := Aside0.mk (Kd.R_lower ho0 (below_size (by repeat (first | (with_reducible first | exact HB.out | apply ba_ | apply bn_ | apply b1_) | exact HB.out)))); have n1_ := Aside0.mk (below_step (by repeat (first | (with_reducible first | exact HB.out | apply ba_ | apply bn_ | apply b1_) | exact HB.out)) hb); clear HB; have HO166 := n0_; have HB := n1_; clear n0_ n1_; (try clear hb); (try clear ho0)))
 go_ret
 exact ⟨_, by first | rfl | (simp [errW_none, errW_some] <;> rfl) | (simp [*, errW_none, errW_some] <;> rfl), by (with_reducible repeat (first | apply Kd.R_alloc | apply Kd.R_drewN | apply Kd.R_drew)); exact HO166.out, by repeat (first | (with_reducible first | exact HB.out | apply ba_ | apply bn_ | apply b1_) | exact HB.out)⟩
def slices_Clone_int_int.f (l0 : List Int) : Option (List Int) := if l0.length < 17592186044416 then some l0 else none
set_option maxHeartbeats 1000000 in
set_option maxRecDepth 100000 in
theorem slices_Clone_int_int.calls (A0 : Option Addr) (c0 : Nat) (l0 : List Int) (r : List Int) (w : World) (hr0 : Kd.C (Kd.int .i64) w A0 l0.length l0) (hc0 : l0.length ≤ c0) (h : slices_Clone_int_int.f l0 = some r) :
  Calls Try.prog 80 #[.slice A0 l0.length c0] w fun e w' => ∃ v0_ : Value, e = .returned (v0_) ∧ Kd.R (Kd.int .i64) 3 w' w.heap.size (fun _ => True) v0_ r ∧ Below w.heap.size w w' := by
 unfold slices_Clone_int_int.f at h
 by_cases c1 : l0.length < 17592186044416
 rotate_left
 ·rw [if_neg c1] at h; exact absurd h (by simp)
 rw [if_pos c1] at h
 obtain rfl := Option.some.inj h
 have HL := Aside0.mk c1
 have HR := Aside0.mk hr0
 clear h c1
 have HB := Aside0.mk (Below.refl w.heap.size w)
 rcases A0 with _ | ad
 ·have e0 : l0 = [] := by
   rcases Nat.eq_zero_or_pos l0.length with h0 | h0
   ·exact List.length_eq_zero_iff.1 h0
   ·obtain ⟨ad, h, _⟩ := HR.out.2.2 h0; cases h
  subst e0
  have hq : ∀ W, (binOp .eql 23 (.slice none 0 c0) (.slice none 0 0)).run Try.prog W = .ok (.bool true) W := fun _ => rfl
  go_enter Try.func80, Try.ntmps80
  go_wp2
  go_ret
  exact ⟨_, by first | rfl | (simp; done), Kd.R_nil _ _ _ _ _, HB.out⟩
 ·have hq : ∀ W, (binOp .eql 23 (.slice (some ad) l0.length c0) (.slice none 0 0)).run Try.prog W = .ok (.bool false) W := fun _ => rfl
  go_enter Try.func80, Try.ntmps80
  go_wp2_with (first | ((with_reducible refine gate_dst (N := 5) rfl ?_); refine Kd.R_lit (Kd.int .i64) _ 3 ?hg (N := 5) ?hd (xs := ([] : List Int)) (inner := []) (ok := fun _ => True) (okp := fun _ => True) ?hr ?hp (fun _ hk => hk) trivial (Below.refl _ _) (Nat.le_refl _) (by simp) ?_; (case hd => rfl); (case hg => rfl); (case hr => first | (go_simp; done) | (go_simp; rfl)); (case hp => exact (Reps.none _ _)); intro v1 w1 ho hb hg_ hnew_; have HO := Aside0.mk ho; have n0_ := Aside0.mk (below_step HB.out hb); have HR1 := Aside0.mk (Kd.C_below HR.out hb); clear HB HR; have HB := n0_; have HR := HR1; clear n0_ HR1 ho hb hg_ hnew_) | ((with_reducible refine gate_builtin (b := .append) (xs := #[.tmp 5, .tmp 6]) rfl ?_); at_builtin; refine Kd.R_append_rows (Kd.int .i64) (w0 := w) w.heap.size rfl (.tmp 5) (.tmp 6) 23 3 (.int .i64 0) 8 rfl Try.underlying23 info3 rfl (by decide) (by omega) v1 [] l0 _ _ _ (fun _ => True) (fun _ => False) rfl rfl HO.out HR.out (fun _ _ h => h) (fun _ h => h.elim) (fun _ _ => trivial) HB.out HB.out.size (by have := HL.out; simp only [List.length_nil]; omega) ?_; intro v2 w2 ho hb hg hat; have HO2 := Aside0.mk ho; have HB2 := Aside0.mk hb; clear ho hb hg hat))
  go_ret
  exact ⟨_, by first | rfl | (simp; done), HO2.out, HB2.out⟩
def PRGc (W : World) (g n : Nat) (p : List (Nat × Value)) : Prop := ∀ x ∈ p, W.cell? ⟨g, n * 7 + x.1, none⟩ = some x.2
theorem PRGc.none_ (W : World) (g n : Nat) : PRGc W g n [] := fun x hx => absurd hx (by simp)
theorem PRGc.add {W : World} {g n o : Nat} {p : List (Nat × Value)} {u : Value} (h : PRGc W g n p) (hc : W.cell? ⟨g, n * 7 + o, none⟩ = some u) : PRGc W g n ((o, u) :: p) := fun x hx => by
 rcases List.mem_cons.1 hx with e | hx
 ·subst e; exact hc
 ·exact h x hx
theorem PRGc.set {W : World} {g n o : Nat} {p : List (Nat × Value)} {u u0 : Value} (h : PRGc W g n p) (ho : ∀ x ∈ p, x.1 ≠ o) (hc : W.cell? ⟨g, n * 7 + o, none⟩ = some u0) : PRGc (W.setCell ⟨g, n * 7 + o, none⟩ u) g n ((o, u) :: p) := fun x hx => by
 rcases List.mem_cons.1 hx with e | hx
 ·subst e; exact World.cell?_setCell_same _ _ _ hc
 ·rw [World.cell?_setCell_other _ _ _ _ (fun e => ho x hx (by injection e with _ e _; omega))]
  exact h x hx
theorem PRGc.below {W W1 : World} {g n : Nat} {p : List (Nat × Value)} (h : PRGc W g n p) (hb : Below W.heap.size W W1) : PRGc W1 g n p := fun x hx => pw_cell_below hb (h x hx)
def MDc (W : World) (base g : Nat) (Q : Nat → Nat → Prop) (M : List (S44)) : Prop := ∀ j, j < M.length → ∃ va vk, PRGc W g j [(0, .int .i64 (rd_T44 M (j : Int)).f0), (1, .int .i64 (rd_T44 M (j : Int)).f1), (2, .string (rd_T44 M (j : Int)).f2), (3, va), (4, .string (rd_T44 M (j : Int)).f4), (5, .int .i64 (rd_T44 M (j : Int)).f5), (6, vk)] ∧ Kd.R k91 91 W base (Q j) va (rd_T44 M (j : Int)).f3 ∧ Kd.R (Kd.int .i64) 3 W base (Q j) vk (rd_T44 M (j : Int)).f6
theorem MDc.set {W : World} {base g o : Nat} {Q : Nat → Nat → Prop} {M : List (S44)} {u : Value} (h : MDc W base g Q M) (hQ : ∀ j k, Q j k → k ≠ g) (ho : M.length * 7 ≤ o) : MDc (W.setCell ⟨g, o, none⟩ u) base g Q M := fun j hj => by
 obtain ⟨va, vk, hp, hA, hK⟩ := h j hj
 refine ⟨va, vk, fun x hx => ?_, Kd.R_far (p := ⟨g, o, none⟩) hA (fun k hk => hQ j k hk) u, Kd.R_far (p := ⟨g, o, none⟩) hK (fun k hk => hQ j k hk) u⟩
 have hx7 : x.1 < 7 := by
  simp only [List.mem_cons, List.not_mem_nil, or_false] at hx
  rcases hx with e | e | e | e | e | e | e <;> (subst e; show _ < 7; omega)
 rw [World.cell?_setCell_other _ _ _ _ (fun e => by injection e with _ e _; omega)]
 exact hp x hx
theorem MDc.below {W W1 : World} {base g : Nat} {Q : Nat → Nat → Prop} {M : List (S44)} (h : MDc W base g Q M) (hb : Below W.heap.size W W1) : MDc W1 base g Q M := fun j hj => by
 obtain ⟨va, vk, hp, hA, hK⟩ := h j hj
 exact ⟨va, vk, hp.below hb, Kd.R_below hA hb, Kd.R_below hK hb⟩
theorem MDc.snoc {W : World} {base g : Nat} {Q : Nat → Nat → Prop} {M : List (S44)} (h : MDc W base g Q M) (x : S44) {va vk : Value} (hp : PRGc W g M.length [(0, .int .i64 x.f0), (1, .int .i64 x.f1), (2, .string x.f2), (3, va), (4, .string x.f4), (5, .int .i64 x.f5), (6, vk)]) (hA : Kd.R k91 91 W base (Q M.length) va x.f3) (hK : Kd.R (Kd.int .i64) 3 W base (Q M.length) vk x.f6) : MDc W base g Q (M ++ [x]) := fun j hj => by
 rw [List.length_append] at hj
 simp only [List.length_cons, List.length_nil] at hj
 by_cases c : j < M.length
 ·have e : rd_T44 (M ++ [x]) (j : Int) = rd_T44 M (j : Int) := by
   unfold rd_T44
   rw [Int.toNat_natCast, List.getD_eq_getElem?_getD, List.getD_eq_getElem?_getD, List.getElem?_append_left c]
  rw [e]
  exact h j c
 ·have c2 : j = M.length := by omega
  subst c2
  have e : rd_T44 (M ++ [x]) ((M.length : Nat) : Int) = x := by
   unfold rd_T44
   rw [Int.toNat_natCast, List.getD_eq_getElem?_getD, List.getElem?_append_right (Nat.le_refl _), Nat.sub_self]
   rfl
  rw [e]
  exact ⟨va, vk, hp, hA, hK⟩
theorem cell_setc {W : World} {g o o2 : Nat} {u v : Value} (h : W.cell? ⟨g, o, none⟩ = some v) (ho : o ≠ o2) : (W.setCell ⟨g, o2, none⟩ u).cell? ⟨g, o, none⟩ = some v := (World.cell?_setCell_other _ _ _ _ (fun e => ho (by injection e with _ e _; exact e.symm))).trans h
theorem size_setc {W : World} {n : Nat} (h : n ≤ W.heap.size) (p : Addr) (u : Value) : n ≤ (W.setCell p u).heap.size := by simpa using h
theorem MDc.mono {W : World} {base g : Nat} {Q Q' : Nat → Nat → Prop} {M : List (S44)} (h : MDc W base g Q M) (hQ : ∀ j k, j < M.length → Q j k → Q' j k) : MDc W base g Q' M := fun j hj => by
 obtain ⟨va, vk, hp, hA, hK⟩ := h j hj
 exact ⟨va, vk, hp, Kd.R_mono hA (fun k hk => hQ j k hj hk), Kd.R_mono hK (fun k hk => hQ j k hj hk)⟩
theorem rdc_at {l : List (S44)} {j : Nat} {p : S44} (hp : l[j]? = some p) : rd_T44 l (j : Int) = p := by
 unfold rd_T44
 rw [Int.toNat_natCast, List.getD_eq_getElem?_getD, hp]
 rfl
theorem rdc_take {l : List (S44)} {n : Nat} (hn : n < l.length) : l.take (n + 1) = l.take n ++ [rd_T44 l (n : Int)] := by
 rw [rdc_at (List.getElem?_eq_getElem hn), List.take_add_one, List.getElem?_eq_getElem hn]
 rfl
def RDc (w W : World) (g n : Nat) (l : List (S44)) : Prop := ∀ j p, n ≤ j → l[j]? = some p → ∃ cs, k44.K w p cs ∧ ∀ i u, cs[i]? = some u → W.cell? ⟨g, j * 7 + i, none⟩ = some u
theorem RDc.below {w W W1 : World} {g n : Nat} {l : List (S44)} (h : RDc w W g n l) (hb : Below W.heap.size W W1) : RDc w W1 g n l := fun j p hn hp => by
 obtain ⟨cs, hk, hc⟩ := h j p hn hp
 exact ⟨cs, hk, fun i u hu => pw_cell_below hb (hc i u hu)⟩
theorem RDc.set {w W : World} {g n : Nat} {l : List (S44)} (h : RDc w W g n l) (o : Nat) (ho : o < n * 7) (u0 : Value) : RDc w (W.setCell ⟨g, o, none⟩ u0) g n l := fun j p hn hp => by
 obtain ⟨cs, hk, hc⟩ := h j p hn hp
 refine ⟨cs, hk, fun i u hu => ?_⟩
 rw [World.cell?_setCell_other _ _ _ _ (fun e => by injection e with _ e _; omega)]
 exact hc i u hu
theorem RDc.next {w W : World} {g n : Nat} {l : List (S44)} (h : RDc w W g n l) : RDc w W g (n + 1) l := fun j p hn hp => h j p (by omega) hp
theorem RDc.at_ {w W : World} {g n : Nat} {l : List (S44)} (h : RDc w W g n l) (hn : n < l.length) : ∃ A3 c3 A6 c6, PRGc W g n [(0, .int .i64 (rd_T44 l (n : Int)).f0), (1, .int .i64 (rd_T44 l (n : Int)).f1), (2, .string (rd_T44 l (n : Int)).f2), (4, .string (rd_T44 l (n : Int)).f4), (5, .int .i64 (rd_T44 l (n : Int)).f5)] ∧ W.cell? ⟨g, n * 7 + 3, none⟩ = some (.slice A3 (rd_T44 l (n : Int)).f3.length c3) ∧ W.cell? ⟨g, n * 7 + 6, none⟩ = some (.slice A6 (rd_T44 l (n : Int)).f6.length c6) ∧ (rd_T44 l (n : Int)).f3.length ≤ c3 ∧ k91.C w A3 (rd_T44 l (n : Int)).f3.length (rd_T44 l (n : Int)).f3 ∧ (rd_T44 l (n : Int)).f6.length ≤ c6 ∧ (Kd.int .i64).C w A6 (rd_T44 l (n : Int)).f6.length (rd_T44 l (n : Int)).f6 := by
 rw [rdc_at (List.getElem?_eq_getElem hn)]
 obtain ⟨cs, hk, hc⟩ := h n _ (Nat.le_refl _) (List.getElem?_eq_getElem hn)
 obtain ⟨A3, c3, A6, c6, rfl, l3, g3, l6, g6⟩ := k44_open hk
 refine ⟨A3, c3, A6, c6, fun x hx => ?_, hc 3 _ rfl, hc 6 _ rfl, l3, g3, l6, g6⟩
 simp only [List.mem_cons, List.not_mem_nil, or_false] at hx
 rcases hx with e | e | e | e | e <;> subst e
 ·exact hc 0 _ rfl
 ·exact hc 1 _ rfl
 ·exact hc 2 _ rfl
 ·exact hc 4 _ rfl
 ·exact hc 5 _ rfl
def CGc (W : World) (g cap : Nat) : Prop := ∃ cells : Array Value, W.heap[g]? = some (.cells cells 44 (0, 0)) ∧ cells.size = cap * 7
theorem CGc.below {W W1 : World} {g cap : Nat} (h : CGc W g cap) (hb : Below W.heap.size W W1) : CGc W1 g cap := by
 obtain ⟨cells, hc, hs⟩ := h
 exact ⟨cells, blk_below hc hb, hs⟩
theorem CGc.set {W : World} {g cap : Nat} (h : CGc W g cap) (o : Nat) (u : Value) : CGc (W.setCell ⟨g, o, none⟩ u) g cap := by
 obtain ⟨cells, hc, hs⟩ := h
 exact ⟨cells.setIfInBounds o u, blk_set hc o u, by simpa using hs⟩
theorem CGc.lt {W : World} {g cap : Nat} (h : CGc W g cap) : g < W.heap.size := by
 obtain ⟨cells, hc, _⟩ := h
 exact blk_lt hc
theorem CGc.cell {W : World} {g cap : Nat} (h : CGc W g cap) (o : Nat) (ho : o < cap * 7) : ∃ u, W.cell? ⟨g, o, none⟩ = some u := by
 obtain ⟨cells, hc, hs⟩ := h
 exact ⟨cells[o]'(by omega), (bc_ hc o).trans (Array.getElem?_eq_getElem (by omega))⟩
theorem CGc.frozen {W : World} {g cap : Nat} (h : CGc W g cap) (o : Nat) : W.frozen? ⟨g, o, none⟩ = false := by
 obtain ⟨cells, hc, _⟩ := h
 exact blk_frozen hc o
def QOc (W : World) (g : Nat) (Q : Nat → Nat → Prop) : Prop := (∀ i j k, Q i k → Q j k → i = j) ∧ ∀ j k, Q j k → k < W.heap.size ∧ k ≠ g
theorem S_of_MDc {W : World} {base g cap : Nat} {Q : Nat → Nat → Prop} {l : List (S44)} (hg : CGc W g cap) (hcap : l.length ≤ cap) (hmx : cap ≤ maxLen) (hb : base ≤ g) (hQ : QOc W g Q) (h : MDc W base g Q l) : Kd.S k44 44 W base (fun _ => True) (.slice (some ⟨g, 0, none⟩) l.length cap) l := by
 classical
 obtain ⟨cells, hc, hsz⟩ := hg
 have hl7 : (cells.toList.take (l.length * 7)).length = l.length * 7 := by
  rw [List.length_take, Array.length_toList (xs := cells), hsz]
  omega
 refine ⟨fun k => if h : ∃ j, Q j k then Classical.choose h else 0, fun _ _ => trivial, cells.toList.take (l.length * 7), ⟨by rw [List.length_zipIdx]; exact hl7, .inr ⟨g, cap, cells, by rw [List.length_zipIdx], hb, hc, by rw [List.length_zipIdx]; exact hcap, hmx, hsz, by rw [List.length_zipIdx]; rfl⟩⟩, by rw [List.length_zipIdx]; exact hl7, fun j p hp => ?_⟩
 ·rw [List.getElem?_zipIdx] at hp
  obtain ⟨x, hx, rfl⟩ := Option.map_eq_some_iff.1 hp
  have hj := (List.getElem?_eq_some_iff.1 hx).1
  obtain ⟨va, vk, hpr, hA, hK⟩ := h j hj
  rw [rdc_at hx] at hpr hA hK
  have e7 : (Kd.tag (fun k => if h : ∃ j, Q j k then Classical.choose h else 0) k44).sz = 7 := rfl
  rw [e7]
  have el : (List.drop (j * 7) (cells.toList.take (l.length * 7))).take 7 = [.int .i64 x.f0, .int .i64 x.f1, .string x.f2, va, .string x.f4, .int .i64 x.f5, vk] := by
   have hat : ∀ i, i < 7 → ((List.drop (j * 7) (cells.toList.take (l.length * 7))).take 7)[i]? = W.cell? ⟨g, j * 7 + i, none⟩ := fun i hi => by
    rw [List.getElem?_take, if_pos hi, List.getElem?_drop, List.getElem?_take, if_pos (by omega), Array.getElem?_toList, bc_ hc]
   apply List.ext_getElem?
   intro i
   by_cases hi : i < 7
   ·rw [hat i hi]
    match i, hi with
    | 0, _ => exact hpr (0, _) (by simp)
    | 1, _ => exact hpr (1, _) (by simp)
    | 2, _ => exact hpr (2, _) (by simp)
    | 3, _ => exact hpr (3, _) (by simp)
    | 4, _ => exact hpr (4, _) (by simp)
    | 5, _ => exact hpr (5, _) (by simp)
    | 6, _ => exact hpr (6, _) (by simp)
   ·rw [List.getElem?_eq_none (by rw [List.length_take]; omega), List.getElem?_eq_none (by simp; omega)]
  rw [el]
  have hf : ∀ k, Q j k → (if h : ∃ j, Q j k then Classical.choose h else 0) = j := fun k hk => by
   rw [dif_pos ⟨j, hk⟩]
   exact hQ.1 _ _ k (Classical.choose_spec (⟨j, hk⟩ : ∃ j, Q j k)) hk
  have hq : ∀ k, Q j k → ((True ∧ some k ≠ (Value.slice (some ⟨g, 0, none⟩) l.length cap).ownBlock) ∧ (if h : ∃ j, Q j k then Classical.choose h else 0) = (x, 0 + j).2) := fun k hk => ⟨⟨trivial, fun e => (hQ.2 j k hk).2 (by simpa [Value.ownBlock] using e)⟩, by rw [hf k hk]; exact (Nat.zero_add j).symm⟩
  exact k44_mkM W base _ x (Kd.R_mono hA hq) (Kd.R_mono hK hq)
def impl_copyItems.f (l0 : List (S44)) : Option (List (S44)) := if l0.length < 1353245080339 ∧ ∀ x ∈ l0, x.f3.length < 4398046511104 ∧ x.f6.length < 17592186044416 then some l0 else none
set_option maxHeartbeats 8000000 in
set_option maxRecDepth 100000 in
theorem impl_copyItems.calls (A0 : Option Addr) (c0 : Nat) (l0 : List (S44)) (r : List (S44)) (w : World) (hr0 : Kd.C k44 w A0 l0.length l0) (hc0 : l0.length ≤ c0) (h : impl_copyItems.f l0 = some r) :
  Calls Try.prog 53 #[.slice A0 l0.length c0] w fun e w' => ∃ v0_ : Value, e = .returned (v0_) ∧ Kd.S k44 44 w' w.heap.size (fun _ => True) v0_ r ∧ Below w.heap.size w w' := by
 unfold impl_copyItems.f at h
 by_cases c1 : l0.length < 1353245080339 ∧ ∀ x ∈ l0, x.f3.length < 4398046511104 ∧ x.f6.length < 17592186044416
 rotate_left
 ·rw [if_neg c1] at h; exact absurd h (by simp)
 rw [if_pos c1] at h
 obtain rfl := Option.some.inj h
 have HL := Aside0.mk c1
 have HX := Aside0.mk (show impl_Item.f l0 = some l0 by unfold impl_Item.f; rw [if_pos c1.1])
 have HR := Aside0.mk hr0
 have HC := Aside0.mk hc0
 clear h c1 hr0 hc0
 go_enter Try.func53, Try.ntmps53
 go_wp2_with (go_at_call 78; refine (impl_Item.calls A0 c0 l0 l0 _ HR.out HC.out HX.out).mono ?_; rintro e w1 ⟨v, rfl, hci, hb⟩; obtain ⟨A1, c1, rfl⟩ := CI.slice hci; have HCI := Aside0.mk hci; have HB := Aside0.mk hb; clear hci hb)
 rcases HCI.out with ⟨e0, e1⟩ | ⟨g, cap, cells, e1, hbg, hc, hcap, hmx, hsz, hcl⟩
 ·subst e0
  injection e1 with e1 _ e2
  subst e1
  subst e2
  go_loopg [9] 0 (fun kq v9 w' => v9 = .int .i64 0 ∧ w' = w1)
  case atStart => exact ⟨rfl, rfl⟩
  case round =>
   obtain ⟨rfl, rfl⟩ := hrel
   go_wp2
   go_ret
   exact ⟨_, by first | rfl | (simp; done), ⟨fun _ => 0, Kd.R_nil _ _ _ _ _⟩, HB.out⟩
 injection e1 with e1 _ e2
 subst e1
 replace e2 := e2.symm
 subst e2
 have HBG := Aside0.mk hbg
 have HCAP := Aside0.mk hcap
 have HMX := Aside0.mk hmx
 have HG := Aside0.mk (show CGc w1 g cap from ⟨cells, hc, hsz⟩)
 have HD := Aside0.mk (show RDc w w1 g 0 l0 from fun j p _ hp => by obtain ⟨cs, hk, hu⟩ := hcl j p hp; exact ⟨cs, hk, fun i u h => (bc_ hc _).trans (hu i u h)⟩)
 clear HCI hbg hc hcap hmx hsz hcl HX
 go_loopg [9] l0.length (fun kq v9 w' => ∃ (n : Nat) (Q : Nat → Nat → Prop), v9 = .int .i64 (n : Int) ∧ Aside0 (kq + n = l0.length) ∧ Aside0 (Below w.heap.size w w') ∧ Aside0 (CGc w' g cap) ∧ Aside0 (RDc w w' g n l0) ∧ Aside0 (QOc w' g Q) ∧ Aside0 (MDc w' w.heap.size g Q (l0.take n)))
 case atStart => exact ⟨0, fun _ _ => False, rfl, ⟨rfl⟩, HB, HG, HD, ⟨fun _ _ _ h => h.elim, fun _ _ h => h.elim⟩, ⟨fun j hj => absurd hj (by simp)⟩⟩
 case round =>
  clear HB HG HD
  obtain ⟨n, Q, rfl, HN, HB, HG, HD, HQ, HMD⟩ := hrel
  by_cases ct : (n : Int) < (l0.length : Int)
  rotate_left
  ·have c3b0 : decide ((n : Int) < (l0.length : Int)) = false := decide_eq_false ct
   have c3b1 : decide (n < l0.length) = false := decide_eq_false (by omega)
   have HE := Aside0.mk (show l0.take n = l0 from List.take_of_length_le (by omega))
   clear ct
   go_wp2
   go_ret
   exact ⟨_, by first | rfl | (simp; done), S_of_MDc HG.out HCAP.out HMX.out HBG.out HQ.out (by have h := HMD.out; rw [HE.out] at h; exact h), HB.out⟩
  have c3b0 : decide ((n : Int) < (l0.length : Int)) = true := decide_eq_true ct
  have c3b1 : decide (n < l0.length) = true := decide_eq_true (by omega)
  have HNL := Aside0.mk (show n < l0.length by omega)
  have HNC := Aside0.mk (show n < cap by have := HCAP.out; omega)
  have HTL := Aside0.mk (show (l0.take n).length = n by rw [List.length_take]; omega)
  have p0 : ((0 : Int) ≤ (n : Int)) = True := eq_true (by omega)
  have q0 : ((n : Int) < (l0.length : Int)) = True := eq_true ct
  have HW := Aside0.mk (show wrap64 ((n : Int) + 1) = ((n + 1 : Nat) : Int) by have := HL.out.1; unfold wrap64; omega)
  obtain ⟨A3, c3, A6, c6, hpr, hv3, hv6, hl3, hg3, hl6, hg6⟩ := RDc.at_ HD.out HNL.out
  have hin : (rd_T44 l0 (n : Int)) ∈ l0 := by
   rw [rdc_at (List.getElem?_eq_getElem HNL.out)]
   exact List.getElem_mem _
  have HAX := Aside0.mk (show impl_copyAttrs.f (rd_T44 l0 (n : Int)).f3 = some (rd_T44 l0 (n : Int)).f3 by unfold impl_copyAttrs.f impl_Attr.f; rw [if_pos (HL.out.2 _ hin).1]; rfl)
  have HKX := Aside0.mk (show slices_Clone_int_int.f (rd_T44 l0 (n : Int)).f6 = some (rd_T44 l0 (n : Int)).f6 by unfold slices_Clone_int_int.f; rw [if_pos (HL.out.2 _ hin).2])
  have HAC := Aside0.mk hg3
  have HAL := Aside0.mk hl3
  have HKC := Aside0.mk hg6
  have HKL := Aside0.mk hl6
  have HF := Aside0.mk hpr
  have HV6 := Aside0.mk hv6
  have HZ := Aside0.mk (Nat.le_refl wr.heap.size)
  have HGW := Aside0.mk (CGc.lt HG.out)
  have n0_ := Aside0.mk (RDc.next HD.out)
  clear HD
  have HD := n0_
  clear n0_ ct hpr hv6 hl3 hg3 hl6 hg6 hin
  go_wp2_with (first | (go_at_call 79; refine (impl_copyAttrs.calls A3 c3 (rd_T44 l0 (n : Int)).f3 (rd_T44 l0 (n : Int)).f3 _ (Kd.C_below HAC.out HB.out) HAL.out HAX.out).mono ?_; rintro e w2 ⟨vA, rfl, hr_, hb⟩; obtain ⟨AA7, cA7, rfl⟩ := Kd.R_slice hr_; have HRA := Aside0.mk (Kd.R_mono (ok' := fun k => wr.heap.size ≤ k) (Kd.R_lower (Kd.R_bound hr_) HB.out.size) (fun k hk => Nat.le_trans HZ.out hk.2.1)); have n0_ := Aside0.mk (CGc.below HG.out hb); have n1_ := Aside0.mk (RDc.below HD.out hb); have n2_ := Aside0.mk (MDc.below HMD.out hb); have n3_ := Aside0.mk (PRGc.below HF.out hb); have n4_ := Aside0.mk (below_step HB.out hb); have n5_ := Aside0.mk (Nat.le_trans HZ.out hb.size); have n6_ := Aside0.mk (pw_cell_below hb HV6.out); clear HG HD HMD HF HB HZ HV6; have HG := n0_; have HD := n1_; have HMD := n2_; have HF := n3_; have HB := n4_; have HZ := n5_; have HV6 := n6_; clear n0_ n1_ n2_ n3_ n4_ n5_ n6_; clear hr_ hb) | ((with_reducible refine gate_store (t := 42) (p := 21) rfl ?_); obtain ⟨u3_, hu3_⟩ := CGc.cell HG.out (n * 7 + 3) (by have := HNC.out; omega); have hf3_ := CGc.frozen HG.out (n * 7 + 3); refine store_event (t := 42) (p := 21) (v := ?vo_3) (w1 := ?w1_3) ?hg ?ho ?hn ?hr ?_; (case ho => rfl); (case hg => rfl); (case hn => rfl); (case hr => go_simp; rfl); intro w3 hw3; subst hw3; have n0_ := Aside0.mk (CGc.set HG.out (n * 7 + 3) ((.slice AA7 (rd_T44 l0 (n : Int)).f3.length cA7))); have n1_ := Aside0.mk (RDc.set HD.out (n * 7 + 3) (by omega) ((.slice AA7 (rd_T44 l0 (n : Int)).f3.length cA7))); have n2_ := Aside0.mk (MDc.set (o := n * 7 + 3) (u := (.slice AA7 (rd_T44 l0 (n : Int)).f3.length cA7)) HMD.out (fun j k hk => (HQ.out.2 j k hk).2) (by have := HTL.out; omega)); have n3_ := Aside0.mk (PRGc.set (o := 3) (u := (.slice AA7 (rd_T44 l0 (n : Int)).f3.length cA7)) HF.out (by simp) hu3_); have n4_ := Aside0.mk (Below.setCell HB.out (p := ⟨g, n * 7 + 3, none⟩) HBG.out ((.slice AA7 (rd_T44 l0 (n : Int)).f3.length cA7))); have n5_ := Aside0.mk (size_setc HZ.out ⟨g, n * 7 + 3, none⟩ ((.slice AA7 (rd_T44 l0 (n : Int)).f3.length cA7))); have n6_ := Aside0.mk (Kd.R_far (p := ⟨g, n * 7 + 3, none⟩) HRA.out (fun k hk => Nat.ne_of_gt (Nat.lt_of_lt_of_le HGW.out hk)) ((.slice AA7 (rd_T44 l0 (n : Int)).f3.length cA7))); have n7_ := Aside0.mk (cell_setc (o2 := n * 7 + 3) (u := (.slice AA7 (rd_T44 l0 (n : Int)).f3.length cA7)) HV6.out (by omega)); clear HG HD HMD HF HB HZ HRA HV6; have HG := n0_; have HD := n1_; have HMD := n2_; have HF := n3_; have HB := n4_; have HZ := n5_; have HRA := n6_; have HV6 := n7_; clear n0_ n1_ n2_ n3_ n4_ n5_ n6_ n7_; clear hu3_ hf3_; have hv6 := HV6.out) | (go_at_call 80; refine (slices_Clone_int_int.calls A6 c6 (rd_T44 l0 (n : Int)).f6 (rd_T44 l0 (n : Int)).f6 _ (Kd.C_below HKC.out HB.out) HKL.out HKX.out).mono ?_; rintro e w4 ⟨vK, rfl, hr_, hb⟩; obtain ⟨AK7, cK7, rfl⟩ := Kd.R_slice hr_; have HRK := Aside0.mk (Kd.R_mono (ok' := fun k => wr.heap.size ≤ k) (Kd.R_lower (Kd.R_bound hr_) HB.out.size) (fun k hk => Nat.le_trans HZ.out hk.2.1)); have n0_ := Aside0.mk (CGc.below HG.out hb); have n1_ := Aside0.mk (RDc.below HD.out hb); have n2_ := Aside0.mk (MDc.below HMD.out hb); have n3_ := Aside0.mk (PRGc.below HF.out hb); have n4_ := Aside0.mk (below_step HB.out hb); have n5_ := Aside0.mk (Nat.le_trans HZ.out hb.size); have n6_ := Aside0.mk (Kd.R_below HRA.out hb); clear HG HD HMD HF HB HZ HRA; have HG := n0_; have HD := n1_; have HMD := n2_; have HF := n3_; have HB := n4_; have HZ := n5_; have HRA := n6_; clear n0_ n1_ n2_ n3_ n4_ n5_ n6_; clear hr_ hb) | ((with_reducible refine gate_store (t := 23) (p := 31) rfl ?_); obtain ⟨u5_, hu5_⟩ := CGc.cell HG.out (n * 7 + 6) (by have := HNC.out; omega); have hf5_ := CGc.frozen HG.out (n * 7 + 6); refine store_event (t := 23) (p := 31) (v := ?vo_5) (w1 := ?w1_5) ?hg ?ho ?hn ?hr ?_; (case ho => rfl); (case hg => rfl); (case hn => rfl); (case hr => go_simp; rfl); intro w5 hw5; subst hw5; have n0_ := Aside0.mk (CGc.set HG.out (n * 7 + 6) ((.slice AK7 (rd_T44 l0 (n : Int)).f6.length cK7))); have n1_ := Aside0.mk (RDc.set HD.out (n * 7 + 6) (by omega) ((.slice AK7 (rd_T44 l0 (n : Int)).f6.length cK7))); have n2_ := Aside0.mk (MDc.set (o := n * 7 + 6) (u := (.slice AK7 (rd_T44 l0 (n : Int)).f6.length cK7)) HMD.out (fun j k hk => (HQ.out.2 j k hk).2) (by have := HTL.out; omega)); have n3_ := Aside0.mk (PRGc.set (o := 6) (u := (.slice AK7 (rd_T44 l0 (n : Int)).f6.length cK7)) HF.out (by simp) hu5_); have n4_ := Aside0.mk (Below.setCell HB.out (p := ⟨g, n * 7 + 6, none⟩) HBG.out ((.slice AK7 (rd_T44 l0 (n : Int)).f6.length cK7))); have n5_ := Aside0.mk (size_setc HZ.out ⟨g, n * 7 + 6, none⟩ ((.slice AK7 (rd_T44 l0 (n : Int)).f6.length cK7))); have n6_ := Aside0.mk (Kd.R_far (p := ⟨g, n * 7 + 6, none⟩) HRA.out (fun k hk => Nat.ne_of_gt (Nat.lt_of_lt_of_le HGW.out hk)) ((.slice AK7 (rd_T44 l0 (n : Int)).f6.length cK7))); have n7_ := Aside0.mk (Kd.R_far (p := ⟨g, n * 7 + 6, none⟩) HRK.out (fun k hk => Nat.ne_of_gt (Nat.lt_of_lt_of_le HGW.out hk)) ((.slice AK7 (rd_T44 l0 (n : Int)).f6.length cK7))); clear HG HD HMD HF HB HZ HRA HRK; have HG := n0_; have HD := n1_; have HMD := n2_; have HF := n3_; have HB := n4_; have HZ := n5_; have HRA := n6_; have HRK := n7_; clear n0_ n1_ n2_ n3_ n4_ n5_ n6_ n7_; clear hu5_ hf5_))
  have HRA2 := Aside0.mk (Kd.R_bound HRA.out)
  have HRK2 := Aside0.mk (Kd.R_bound HRK.out)
  have HMD2 := Aside0.mk (MDc.snoc (MDc.mono (Q' := (fun j k => (j = n ∧ wr.heap.size ≤ k ∧ k < (World.setCell w4 ⟨g, n * 7 + 6, none⟩ (.slice AK7 (rd_T44 l0 (n : Int)).f6.length cK7)).heap.size) ∨ (j ≠ n ∧ Q j k))) HMD.out (fun j k hj hq => .inr ⟨by have := HTL.out; omega, hq⟩)) (rd_T44 l0 (n : Int)) (va := .slice AA7 (rd_T44 l0 (n : Int)).f3.length cA7) (vk := .slice AK7 (rd_T44 l0 (n : Int)).f6.length cK7) (by rw [HTL.out]; intro x hx; exact HF.out x (by simp only [List.mem_cons, List.not_mem_nil, or_false] at hx ⊢; rcases hx with e | e | e | e | e | e | e <;> (subst e; simp))) (by rw [HTL.out]; exact Kd.R_mono HRA2.out (fun k hk => .inl ⟨rfl, hk.1, hk.2.2.1⟩)) (by rw [HTL.out]; exact Kd.R_mono HRK2.out (fun k hk => .inl ⟨rfl, hk.1, hk.2.2.1⟩)))
  go_roundg (gk - 1)
  case measure => have := HN.out; have := HNL.out; omega
  case rel => exact ⟨n + 1, (fun j k => (j = n ∧ wr.heap.size ≤ k ∧ k < (World.setCell w4 ⟨g, n * 7 + 6, none⟩ (.slice AK7 (rd_T44 l0 (n : Int)).f6.length cK7)).heap.size) ∨ (j ≠ n ∧ Q j k)), by rw [HW.out], ⟨by have := HN.out; have := HNL.out; omega⟩, HB, HG, HD, ⟨fun i j k h1 h2 => by
    rcases h1 with ⟨e1, h1, _⟩ | ⟨e1, h1⟩ <;> rcases h2 with ⟨e2, h2, _⟩ | ⟨e2, h2⟩
    ·omega
    ·exact absurd (HQ.out.2 j k h2).1 (Nat.not_lt.2 h1)
    ·exact absurd (HQ.out.2 i k h1).1 (Nat.not_lt.2 h2)
    ·exact HQ.out.1 i j k h1 h2, fun j k h1 => by
    rcases h1 with ⟨_, h1, h2⟩ | ⟨_, h1⟩
    ·exact ⟨h2, Nat.ne_of_gt (Nat.lt_of_lt_of_le HGW.out h1)⟩
    ·exact ⟨Nat.lt_of_lt_of_le (HQ.out.2 j k h1).1 HZ.out, (HQ.out.2 j k h1).2⟩⟩, ⟨by rw [rdc_take HNL.out]; exact HMD2.out⟩⟩
end Go.Proofs.Ytbgedpicfllclaa.PFnExactAdd
