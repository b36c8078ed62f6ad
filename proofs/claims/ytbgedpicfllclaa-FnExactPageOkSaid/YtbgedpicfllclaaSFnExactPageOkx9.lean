-- Written by this session's program wip/slim.py: the print's texts (with contracts of our own), only what this row needs, shortened. Lean checks it.
import Derived.Test.YtbgedpicfllclaaSFnExactPageOkx0
import Derived.Test.YtbgedpicfllclaaSFnExactPageOkx6
import Derived.Test.YtbgedpicfllclaaSFnExactPageOkx7
import Derived.Test.YtbgedpicfllclaaSFnExactPageOkx8
namespace Go.Proofs.Ytbgedpicfllclaa.PFnExactPageOk
open Go.RowKit Go.Proofs.YtbgedpicfllclaaW.PrintWords Go.Proofs.YtbgedpicfllclaaW.PrintLast Go.Proofs.YtbgedpicfllclaaW.PrintMore
attribute [local go_sem] max2_int min2_int max_two min_two max_three min_three max_four min_four
set_option linter.unusedVariables false
set_option linter.unusedSimpArgs false
mutual
def impl_TreeOk.j0 : Nat → List (S44) → Bool → Option (Bool)
 | 0, _, _ => none
 | k + 1, x0, x15 => if x15 = true then (some false) else (if 1 ≤ (x0.length : Int) then ((some (x0.drop 1 : List (S44))).bind fun y273 => (impl_TreeOk.l0 k x0 y273 (y273.length : Int) 0)) else (none))
def impl_TreeOk.l0 : Nat → List (S44) → List (S44) → Int → Int → Option (Bool)
 | 0, _, _, _, _ => none
 | k + 1, x0, x17, x18, x19 => if x19 < x18 then (if 0 ≤ x19 then (if x19 < (x17.length : Int) then ((impl_itemOk.f k ((rd_T44 x17 x19).f0) ((rd_T44 x17 x19).f1) ((rd_T44 x17 x19).f2) ((rd_T44 x17 x19).f3) ((rd_T44 x17 x19).f4) ((rd_T44 x17 x19).f5) ((rd_T44 x17 x19).f6)).bind fun t283 => (if t283 = true then ((impl_inRange.f ((rd_T44 x17 x19).f5) 0 (wrap64 ((x0.length : Int) - 1))).bind fun t284 => (if t284 = true then (if 0 ≤ ((rd_T44 x17 x19).f5) then (if ((rd_T44 x17 x19).f5) < (x0.length : Int) then ((impl_hasKids.f ((rd_T44 x0 ((rd_T44 x17 x19).f5)).f0)).bind fun t286 => (if t286 = true then (impl_TreeOk.l0 k x0 x17 x18 (wrap64 (x19 + 1))) else (some false))) else (none)) else (none)) else (some false))) else (some false))) else (none)) else (none)) else ((impl_kidsOk.f k x0).bind fun t277 => (if t277 = true then ((impl_order.f k x0).bind fun t278 => (some ((t278.length : Int) == (x0.length : Int)))) else (some false)))
end
def impl_TreeOk.f (k : Nat) (l0 : List (S44)) : Option (Bool) := (impl_inRange.f (l0.length : Int) 1 3000).bind fun t270 => (if t270 = true then (if 0 < (l0.length : Int) then ((impl_pageOk.f ((rd_T44 l0 0).f0) ((rd_T44 l0 0).f1) ((rd_T44 l0 0).f2) ((rd_T44 l0 0).f3) ((rd_T44 l0 0).f4) ((rd_T44 l0 0).f5) ((rd_T44 l0 0).f6)).bind fun t272 => (impl_TreeOk.j0 k l0 (!t272))) else (none)) else (impl_TreeOk.j0 k l0 true))
theorem impl_TreeOk.mono_l : ∀ k, (∀ y0 y1, LeO (impl_TreeOk.j0 k y0 y1) (impl_TreeOk.j0 (k + 1) y0 y1)) ∧ (∀ y0 y1 y2 y3, LeO (impl_TreeOk.l0 k y0 y1 y2 y3) (impl_TreeOk.l0 (k + 1) y0 y1 y2 y3))
 | 0 => ⟨fun _ _ r h => by simp [impl_TreeOk.j0] at h, fun _ _ _ _ r h => by simp [impl_TreeOk.l0] at h⟩
 | k + 1 => by
  obtain ⟨ih0, ih1⟩ := impl_TreeOk.mono_l k
  refine ⟨?_, ?_⟩
  ·intro y0 y1
   unfold impl_TreeOk.j0
   repeat' first
   | (with_reducible exact ih0 _ _)
   | (with_reducible exact ih1 _ _ _ _)
   | (with_reducible exact impl_itemOk.mono _ _ _ _ _ _ _ _)
   | (with_reducible exact impl_kidsOk.mono _ _)
   | (with_reducible exact impl_order.mono _ _)
   | (with_reducible exact LeO.refl _)
   | (with_reducible exact LeO.none _)
   | (with_reducible refine LeO.ite ?_ ?_)
   | (with_reducible refine LeO.bind ?_ (fun _ => ?_))
  ·intro y0 y1 y2 y3
   unfold impl_TreeOk.l0
   repeat' first
   | (with_reducible exact ih0 _ _)
   | (with_reducible exact ih1 _ _ _ _)
   | (with_reducible exact impl_itemOk.mono _ _ _ _ _ _ _ _)
   | (with_reducible exact impl_kidsOk.mono _ _)
   | (with_reducible exact impl_order.mono _ _)
   | (with_reducible exact LeO.refl _)
   | (with_reducible exact LeO.none _)
   | (with_reducible refine LeO.ite ?_ ?_)
   | (with_reducible refine LeO.bind ?_ (fun _ => ?_))
theorem impl_TreeOk.mono : ∀ a0 k, LeO (impl_TreeOk.f k a0) (impl_TreeOk.f (k + 1) a0) := by
 intro a0 k
 obtain ⟨ih0, ih1⟩ := impl_TreeOk.mono_l k
 unfold impl_TreeOk.f
 repeat' first
   | (with_reducible exact ih0 _ _)
   | (with_reducible exact ih1 _ _ _ _)
   | (with_reducible exact impl_itemOk.mono _ _ _ _ _ _ _ _)
   | (with_reducible exact impl_kidsOk.mono _ _)
   | (with_reducible exact impl_order.mono _ _)
   | (with_reducible exact LeO.refl _)
   | (with_reducible exact LeO.none _)
   | (with_reducible refine LeO.ite ?_ ?_)
   | (with_reducible refine LeO.bind ?_ (fun _ => ?_))
set_option maxHeartbeats 8000000 in
set_option maxRecDepth 100000 in
theorem impl_TreeOk.calls (k : Nat) (A0 : Option Addr) (c0 : Nat) (l0 : List (S44)) (r : Bool) (w : World) (hr0 : Kd.C k44 w A0 l0.length l0) (hc0 : l0.length ≤ c0) (h : impl_TreeOk.f k l0 = some r) :
  Calls Try.prog 27 #[.slice A0 l0.length c0] w fun e w' => e = .returned (.bool r) ∧ Below w.heap.size w w' := by
 have hu44 := Try.underlying44
 have HR0 := Aside0.mk hr0
 have HC0 := Aside0.mk hc0
 clear hr0 hc0
 have HB := Aside0.mk (Below.refl w.heap.size w)
 have H : ((impl_inRange.f (l0.length : Int) 1 3000).bind fun t270 => (if t270 = true then (if 0 < (l0.length : Int) then ((impl_pageOk.f ((rd_T44 l0 0).f0) ((rd_T44 l0 0).f1) ((rd_T44 l0 0).f2) ((rd_T44 l0 0).f3) ((rd_T44 l0 0).f4) ((rd_T44 l0 0).f5) ((rd_T44 l0 0).f6)).bind fun t272 => (impl_TreeOk.j0 k l0 (!t272))) else (none)) else (impl_TreeOk.j0 k l0 true))) = some r := h
 clear h
 have HC2 := Aside0.mk H
 clear H
 go_enter Try.func27, Try.ntmps27
 go_upto_region 1 with (fail)
 go_cut [15] (fun v15 wc => ∃ (kq : Nat) (x15_1 : Bool), v15 = .bool x15_1 ∧ Aside0 (impl_TreeOk.j0 kq l0 x15_1 = some r) ∧ Aside0 (kq ≤ k) ∧ Aside0 (Below w.heap.size w wc))
 case first =>
  have H := HC2.out
  clear HC2
  replace H := Option.bind_eq_some_iff.mp H
  obtain ⟨t270, A30, H⟩ := H
  replace H : (if t270 = true then (if 0 < (l0.length : Int) then ((impl_pageOk.f ((rd_T44 l0 0).f0) ((rd_T44 l0 0).f1) ((rd_T44 l0 0).f2) ((rd_T44 l0 0).f3) ((rd_T44 l0 0).f4) ((rd_T44 l0 0).f5) ((rd_T44 l0 0).f6)).bind fun t272 => (impl_TreeOk.j0 k l0 (!t272))) else (none)) else (impl_TreeOk.j0 k l0 true)) = some r := H
  have A3 := Aside0.mk A30
  clear A30
  by_cases c4 : t270 = true
  ·subst c4
   have H1 : (if 0 < (l0.length : Int) then ((impl_pageOk.f ((rd_T44 l0 0).f0) ((rd_T44 l0 0).f1) ((rd_T44 l0 0).f2) ((rd_T44 l0 0).f3) ((rd_T44 l0 0).f4) ((rd_T44 l0 0).f5) ((rd_T44 l0 0).f6)).bind fun t272 => (impl_TreeOk.j0 k l0 (!t272))) else (none)) = some r := by rw [if_pos rfl] at H; exact H
   clear H
   have H := H1
   clear H1
   by_cases c5 : 0 < (l0.length : Int)
   ·rw [if_pos c5] at H
    have c5b0 : decide (0 < (l0.length : Int)) = true := decide_eq_true c5
    have c5b1 : decide (0 < l0.length) = true := decide_eq_true (by omega)
    clear c5
    (first | rw [c5b0] | (simp only [i64_w, i32_w]; rw [c5b0]) | skip)
    replace H := Option.bind_eq_some_iff.mp H
    obtain ⟨t272, A60, H⟩ := H
    replace H : (impl_TreeOk.j0 k l0 (!t272)) = some r := H
    have A6 := Aside0.mk A60
    clear A60
    have H' := Aside0.mk H
    clear H
    go_wp2_with (first | ((with_reducible refine gate_callee (f := 55) rfl ?_); refine goesL_ (some 7) rfl rfl Try.func55 (by kernel_rfl) rfl #[.int .i64 (l0.length : Int), .int .i64 1, .int .i64 3000] rfl (by (try simp only [List.map_toArray, List.map_cons, List.map_nil]); first | done | rfl | (simp only [List.length_drop, List.length_take]; rfl)) ?_; (with_reducible refine (impl_inRange.calls (l0.length : Int) 1 3000 true _ A3.out).mono ?_); rintro e w' ⟨rfl, ⟨nd, rfl⟩⟩; refine ⟨_, rfl, ?_⟩; have p271 : 0 ≤ (0 : Int) := (by omega); have q271 : 0 < (l0.length : Int) := of_decide_eq_true (by first | (with_reducible assumption) | assumption); obtain ⟨ad271, A271_3, c271_3, A271_6, c271_6, e271, hx271_0, hx271_1, hx271_2, hx271_3, hx271_4, hx271_5, hx271_6, hl271_3, hi271_3, hl271_6, hi271_6⟩ := at_T44 HR0.out 0 p271 q271; cases e271; have qi271 : (0 < l0.length) = True := eq_true (by omega); (try rw [show ((0 : Int)).toNat = 0 from rfl] at hx271_0); (try rw [show 0 * 7 = 0 from rfl] at hx271_0); (try rw [Addr.add_zero'] at hx271_0); (try rw [show ((0 : Int)).toNat = 0 from rfl] at hx271_1); (try rw [show 0 * 7 = 0 from rfl] at hx271_1); (try rw [Addr.add_zero'] at hx271_1); (try rw [show ((0 : Int)).toNat = 0 from rfl] at hx271_2); (try rw [show 0 * 7 = 0 from rfl] at hx271_2); (try rw [Addr.add_zero'] at hx271_2); (try rw [show ((0 : Int)).toNat = 0 from rfl] at hx271_3); (try rw [show 0 * 7 = 0 from rfl] at hx271_3); (try rw [Addr.add_zero'] at hx271_3); (try rw [show ((0 : Int)).toNat = 0 from rfl] at hx271_4); (try rw [show 0 * 7 = 0 from rfl] at hx271_4); (try rw [Addr.add_zero'] at hx271_4); (try rw [show ((0 : Int)).toNat = 0 from rfl] at hx271_5); (try rw [show 0 * 7 = 0 from rfl] at hx271_5); (try rw [Addr.add_zero'] at hx271_5); (try rw [show ((0 : Int)).toNat = 0 from rfl] at hx271_6); (try rw [show 0 * 7 = 0 from rfl] at hx271_6); (try rw [Addr.add_zero'] at hx271_6); replace hx271_0 := pw_cell_below HB.out hx271_0; replace hx271_1 := pw_cell_below HB.out hx271_1; replace hx271_2 := pw_cell_below HB.out hx271_2; replace hx271_3 := pw_cell_below HB.out hx271_3; replace hx271_4 := pw_cell_below HB.out hx271_4; replace hx271_5 := pw_cell_below HB.out hx271_5; replace hx271_6 := pw_cell_below HB.out hx271_6; have HR271_3 := Aside0.mk hi271_3; have HC271_3 := Aside0.mk hl271_3; clear hi271_3 hl271_3; have HR271_6 := Aside0.mk hi271_6; have HC271_6 := Aside0.mk hl271_6; clear hi271_6 hl271_6; replace p271 := eq_true p271; replace q271 := eq_true q271) | (go_at_call 65; (with_reducible refine (impl_pageOk.calls ((rd_T44 l0 0).f0) ((rd_T44 l0 0).f1) ((rd_T44 l0 0).f2) _ _ ((rd_T44 l0 0).f3) ((rd_T44 l0 0).f4) ((rd_T44 l0 0).f5) _ _ ((rd_T44 l0 0).f6) t272 _ ?side1 ?side2 ?side3 ?side4 A6.out).mono ?_); (case side1 => repeat (first | exact (Kd.C_below HR271_3.out (by repeat (first | (with_reducible first | exact HB.out | apply ba_ | apply bn_ | apply b1_) | exact HB.out))) | (with_reducible refine ca_ ?_ _) | (with_reducible refine cn_ ?_ _) | (with_reducible refine cd_ ?_))); (case side2 => exact HC271_3.out); (case side3 => repeat (first | exact (Kd.C_below HR271_6.out (by repeat (first | (with_reducible first | exact HB.out | apply ba_ | apply bn_ | apply b1_) | exact HB.out))) | (with_reducible refine ca_ ?_ _) | (with_reducible refine cn_ ?_ _) | (with_reducible refine cd_ ?_))); (case side4 => exact HC271_6.out); rintro e w7 ⟨rfl, hb⟩; have n0_ := Aside0.mk (below_step (by repeat (first | (with_reducible first | exact HB.out | apply ba_ | apply bn_ | apply b1_) | exact HB.out)) hb); clear HB; have HB := n0_; clear n0_; (try clear hb); (try clear hb2); (try clear hk); (try clear hi)))
    go_meet
    case rel => exact ⟨_, (!t272), (by first | rfl | (simp; done) | (simp [*]; done)), H', ⟨by first | omega | exact Nat.le_refl _⟩, ⟨by repeat (first | (with_reducible first | exact HB.out | apply ba_ | apply bn_ | apply b1_) | exact HB.out)⟩⟩
   ·rw [if_neg c5] at H
    exact absurd H (by simp)
  ·replace c4 := Bool.eq_false_iff.mpr c4
   subst c4
   have H1 : (impl_TreeOk.j0 k l0 true) = some r := by rw [if_neg (show ¬ (false = true) by decide)] at H; exact H
   clear H
   have H := H1
   clear H1
   have H' := Aside0.mk H
   clear H
   go_wp2_with (first | ((with_reducible refine gate_callee (f := 55) rfl ?_); refine goesL_ (some 7) rfl rfl Try.func55 (by kernel_rfl) rfl #[.int .i64 (l0.length : Int), .int .i64 1, .int .i64 3000] rfl (by (try simp only [List.map_toArray, List.map_cons, List.map_nil]); first | done | rfl | (simp only [List.length_drop, List.length_take]; rfl)) ?_; (with_reducible refine (impl_inRange.calls (l0.length : Int) 1 3000 false _ A3.out).mono ?_); rintro e w' ⟨rfl, ⟨nd, rfl⟩⟩; refine ⟨_, rfl, ?_⟩))
   go_meet
   case rel => exact ⟨_, (true), (by first | rfl | (simp; done) | (simp [*]; done)), H', ⟨by first | omega | exact Nat.le_refl _⟩, ⟨by repeat (first | (with_reducible first | exact HB.out | apply ba_ | apply bn_ | apply b1_) | exact HB.out)⟩⟩
 case rest =>
  clear HC2
  try clear c2
  try clear p2
  try clear q2
  try clear hx2
  try clear qi2
  try clear c4
  try clear c5
  try clear c5b0
  try clear c5b1
  try clear hx271_0
  try clear hx271_1
  try clear hx271_2
  try clear hx271_3
  try clear hx271_4
  try clear hx271_5
  try clear hx271_6
  try clear p271
  try clear q271
  obtain ⟨kq, x15_1, rfl, HA, HJ1, HB⟩ := hcut
  cases kq with
  | zero => exact absurd HA.out (by simp [impl_TreeOk.j0])
  | succ kj1 =>
   have H := HA.out
   clear HA
   simp only [impl_TreeOk.j0] at H
   by_cases c8 : x15_1 = true
   ·subst c8
    have H1 : (some false) = some r := by rw [if_pos rfl] at H; exact H
    clear H
    have H := H1
    clear H1
    obtain rfl := Option.some.inj H
    go_wp2
    go_ret
    exact ⟨by first | rfl | (simp [errW_none, errW_some] <;> rfl) | (simp [*, errW_none, errW_some] <;> rfl), by repeat (first | (with_reducible first | exact HB.out | apply ba_ | apply bn_ | apply b1_) | exact HB.out)⟩
   ·replace c8 := Bool.eq_false_iff.mpr c8
    subst c8
    have H1 : (if 1 ≤ (l0.length : Int) then ((some (l0.drop 1 : List (S44))).bind fun y273 => (impl_TreeOk.l0 kj1 l0 y273 (y273.length : Int) 0)) else (none)) = some r := by rw [if_neg (show ¬ (false = true) by decide)] at H; exact H
    clear H
    have H := H1
    clear H1
    by_cases c9 : 1 ≤ (l0.length : Int)
    ·rw [if_pos c9] at H
     have c9b0 := eq_true c9
     have c9b1 : decide (1 ≤ (l0.length : Int)) = true := decide_eq_true c9
     clear c9
     obtain ⟨y273, hy273⟩ : ∃ y_ : List (S44), y_ = (l0.drop 1) := ⟨_, rfl⟩
     replace H : (impl_TreeOk.l0 kj1 l0 y273 (y273.length : Int) 0) = some r := by first | (rw [hy273]; with_reducible exact H) | (have H2_ := (Option.bind_some _ _).symm.trans H; rw [hy273]; with_reducible exact H2_) | (have H2_ := (Option.bind_some _ _).symm.trans H; with_reducible exact H2_) | with_reducible exact H | (rw [hy273]; exact H) | exact H
     have Ny273 := Aside0.mk hy273
     clear hy273
     have H' := Aside0.mk H
     clear H
     have q10 : (1 : Int) ≤ ((l0.length : Int) : Int) := of_decide_eq_true (by first | (with_reducible assumption) | assumption)
     obtain ⟨i010, hi010, _, hsz10, _⟩ := info_parts info44
     have hroom10 : l0.length ≤ c0 := HC0.out
     have hC10 : Kd.C k44 _ A0 l0.length l0 := HR0.out
     have hcut10 := cut_from (P := Try.prog) 28 44 .i64 Try.underlying28 hi010 7 hsz10 A0 l0.length c0 1 (by omega) q10
     have hr10 := Kd.C_drop (m := (1 : Int).toNat) (c := c0) hC10 (by omega) hroom10
     obtain ⟨A10, hA10⟩ : ∃ A1, A1 = (if c0 = (1 : Int).toNat then A0 else (A0 : Option Addr).map (·.add ((1 : Int).toNat * 7))) := ⟨_, rfl⟩
     obtain ⟨c10, hc10⟩ : ∃ c1, c1 = c0 - (1 : Int).toNat := ⟨_, rfl⟩
     have hy10 : y273.length = l0.length - (1 : Int).toNat := (by rw [Ny273.out, List.length_drop] <;> omega)
     rw [show (l0).drop (1 : Int).toNat = y273 from Ny273.out.symm] at hr10
     replace hr10 : Kd.C k44 _ A10 y273.length y273 := (by rw [hA10]; exact hr10)
     rw [← hy10, ← hA10, ← hc10] at hcut10
     have HR276 := Aside0.mk hr10
     have HC276 := Aside0.mk (show y273.length ≤ c10 from by rw [hy10, hc10]; exact Nat.sub_le_sub_right hroom10 _)
     clear hr10 hC10 hroom10 hi010 hsz10 hc10
     have KY10 := Aside0.mk hy10
     have KA10 := Aside0.mk hA10
     clear hy10 hA10
     replace q10 := eq_true q10
     go_wp2
     go_loopg [19] kj1 (fun kq v19 w' => ∃ (x19_2 : Int), v19 = .int .i64 x19_2 ∧ Aside0 (impl_TreeOk.l0 kq l0 y273 (y273.length : Int) x19_2 = some r) ∧ Aside0 (kq ≤ kj1) ∧ Aside0 (Below w.heap.size w w'))
     case atStart => exact ⟨(0), (by first | rfl | (simp; done) | (simp [*]; done)), H', ⟨Nat.le_refl _⟩, ⟨by repeat (first | (with_reducible first | exact HB.out | apply ba_ | apply bn_ | apply b1_) | exact HB.out)⟩⟩
     case round =>
      clear H'
      try clear c1
      try clear q1
      try clear c2
      try clear p2
      try clear q2
      try clear hx2
      try clear qi2
      try clear c4
      try clear c5
      try clear c5b0
      try clear c5b1
      try clear c8
      try clear c9
      try clear c9b0
      try clear c9b1
      try clear c10
      try clear q10
      try clear hx271_0
      try clear hx271_1
      try clear hx271_2
      try clear hx271_3
      try clear hx271_4
      try clear hx271_5
      try clear hx271_6
      try clear p2
      try clear p271
      try clear q10
      try clear q2
      try clear q271
      obtain ⟨x19_2, rfl, HA, HK2, HB⟩ := hrel
      cases gk with
      | zero => exact absurd HA.out (by simp [impl_TreeOk.l0])
      | succ k2 =>
       have H := HA.out
       clear HA
       simp only [impl_TreeOk.l0] at H
       by_cases c11 : x19_2 < (y273.length : Int)
       ·rw [if_pos c11] at H
        have c11b0 : decide (x19_2 < (y273.length : Int)) = true := decide_eq_true c11
        clear c11
        by_cases c12 : 0 ≤ x19_2
        ·rw [if_pos c12] at H
         have c12b0 : decide (0 ≤ x19_2) = true := decide_eq_true c12
         clear c12
         by_cases c13 : x19_2 < (y273.length : Int)
         ·rw [if_pos c13] at H
          have c13b0 : decide (x19_2 < (y273.length : Int)) = true := decide_eq_true c13
          clear c13
          replace H := Option.bind_eq_some_iff.mp H
          obtain ⟨t283, A140, H⟩ := H
          replace H : (if t283 = true then ((impl_inRange.f ((rd_T44 y273 x19_2).f5) 0 (wrap64 ((l0.length : Int) - 1))).bind fun t284 => (if t284 = true then (if 0 ≤ ((rd_T44 y273 x19_2).f5) then (if ((rd_T44 y273 x19_2).f5) < (l0.length : Int) then ((impl_hasKids.f ((rd_T44 l0 ((rd_T44 y273 x19_2).f5)).f0)).bind fun t286 => (if t286 = true then (impl_TreeOk.l0 k2 l0 y273 (y273.length : Int) (wrap64 (x19_2 + 1))) else (some false))) else (none)) else (none)) else (some false))) else (some false)) = some r := H
          have A14 := Aside0.mk A140
          clear A140
          by_cases c15 : t283 = true
          ·subst c15
           have H1 : ((impl_inRange.f ((rd_T44 y273 x19_2).f5) 0 (wrap64 ((l0.length : Int) - 1))).bind fun t284 => (if t284 = true then (if 0 ≤ ((rd_T44 y273 x19_2).f5) then (if ((rd_T44 y273 x19_2).f5) < (l0.length : Int) then ((impl_hasKids.f ((rd_T44 l0 ((rd_T44 y273 x19_2).f5)).f0)).bind fun t286 => (if t286 = true then (impl_TreeOk.l0 k2 l0 y273 (y273.length : Int) (wrap64 (x19_2 + 1))) else (some false))) else (none)) else (none)) else (some false))) = some r := by rw [if_pos rfl] at H; exact H
           clear H
           have H := H1
           clear H1
           replace H := Option.bind_eq_some_iff.mp H
           obtain ⟨t284, A160, H⟩ := H
           replace H : (if t284 = true then (if 0 ≤ ((rd_T44 y273 x19_2).f5) then (if ((rd_T44 y273 x19_2).f5) < (l0.length : Int) then ((impl_hasKids.f ((rd_T44 l0 ((rd_T44 y273 x19_2).f5)).f0)).bind fun t286 => (if t286 = true then (impl_TreeOk.l0 k2 l0 y273 (y273.length : Int) (wrap64 (x19_2 + 1))) else (some false))) else (none)) else (none)) else (some false)) = some r := H
           have A16 := Aside0.mk A160
           clear A160
           by_cases c17 : t284 = true
           ·subst c17
            have H1 : (if 0 ≤ ((rd_T44 y273 x19_2).f5) then (if ((rd_T44 y273 x19_2).f5) < (l0.length : Int) then ((impl_hasKids.f ((rd_T44 l0 ((rd_T44 y273 x19_2).f5)).f0)).bind fun t286 => (if t286 = true then (impl_TreeOk.l0 k2 l0 y273 (y273.length : Int) (wrap64 (x19_2 + 1))) else (some false))) else (none)) else (none)) = some r := by rw [if_pos rfl] at H; exact H
            clear H
            have H := H1
            clear H1
            by_cases c18 : 0 ≤ ((rd_T44 y273 x19_2).f5)
            ·rw [if_pos c18] at H
             have c18b0 : decide (0 ≤ ((rd_T44 y273 x19_2).f5)) = true := decide_eq_true c18
             clear c18
             by_cases c19 : ((rd_T44 y273 x19_2).f5) < (l0.length : Int)
             ·rw [if_pos c19] at H
              have c19b0 : decide (((rd_T44 y273 x19_2).f5) < (l0.length : Int)) = true := decide_eq_true c19
              clear c19
              replace H := Option.bind_eq_some_iff.mp H
              obtain ⟨t286, A200, H⟩ := H
              replace H : (if t286 = true then (impl_TreeOk.l0 k2 l0 y273 (y273.length : Int) (wrap64 (x19_2 + 1))) else (some false)) = some r := H
              have A20 := Aside0.mk A200
              clear A200
              by_cases c21 : t286 = true
              ·subst c21
               have H1 : (impl_TreeOk.l0 k2 l0 y273 (y273.length : Int) (wrap64 (x19_2 + 1))) = some r := by rw [if_pos rfl] at H; exact H
               clear H
               have H := H1
               clear H1
               have H' := Aside0.mk H
               clear H
               have p281 : 0 ≤ (x19_2 : Int) := of_decide_eq_true (by first | (with_reducible assumption) | assumption)
               have q281 : x19_2 < (y273.length : Int) := of_decide_eq_true (by first | (with_reducible assumption) | assumption)
               obtain ⟨ad281, A281_3, c281_3, A281_6, c281_6, e281, hx281_0, hx281_1, hx281_2, hx281_3, hx281_4, hx281_5, hx281_6, hl281_3, hi281_3, hl281_6, hi281_6⟩ := at_T44 HR276.out x19_2 p281 q281
               cases e281
               replace hx281_0 := pw_cell_below HB.out hx281_0
               replace hx281_1 := pw_cell_below HB.out hx281_1
               replace hx281_2 := pw_cell_below HB.out hx281_2
               replace hx281_3 := pw_cell_below HB.out hx281_3
               replace hx281_4 := pw_cell_below HB.out hx281_4
               replace hx281_5 := pw_cell_below HB.out hx281_5
               replace hx281_6 := pw_cell_below HB.out hx281_6
               have HR281_3 := Aside0.mk hi281_3
               have HC281_3 := Aside0.mk hl281_3
               clear hi281_3 hl281_3
               have HR281_6 := Aside0.mk hi281_6
               have HC281_6 := Aside0.mk hl281_6
               clear hi281_6 hl281_6
               replace p281 := eq_true p281
               replace q281 := eq_true q281
               go_wp2_with (first | ((with_reducible refine gate_dst (N := 4) rfl ?_); (try (refine gate_guard (by rfl) ?_; dsimp only)); refine box_event ?hg (N := 4) ?hd (cs := #[.int .i64 0, .int .i64 0, .string (⟨#[]⟩ : ByteArray), .slice none 0 0, .string (⟨#[]⟩ : ByteArray), .int .i64 0, .slice none 0 0]) (t := 44) ?hr ?_; (case hd => rfl); (case hg => rfl); (case hr => first | (go_simp; done) | (go_simp; rfl)); intro gb282 hg w22 hbox hb; have n0_ := Aside0.mk (below_step (by repeat (first | (with_reducible first | exact HB.out | apply ba_ | apply bn_ | apply b1_) | exact HB.out)) hb); have n1_ := Aside0.mk (hbox); have n2_ := Aside0.mk ((by rw [hg]; exact (below_size (by repeat (first | (with_reducible first | exact HB.out | apply ba_ | apply bn_ | apply b1_) | exact HB.out))) : w.heap.size ≤ gb282)); have n3_ := Aside0.mk ((by rw [hg]; exact (below_size (by repeat (first | (with_reducible first | exact HB.out | apply ba_ | apply bn_ | apply b1_) | exact HB.out))) : w.heap.size ≤ gb282)); clear HB; have HB := n0_; have BK282 := n1_; have GW282 := n2_; have GE282 := n3_; clear n0_ n1_ n2_ n3_; clear hb hbox hg; have hcz23_0 : w22.cell? ⟨gb282, 0, none⟩ = some (.int .i64 0) := (bc_ BK282.out 0).trans rfl; have hcz23_1 : w22.cell? ⟨gb282, 1, none⟩ = some (.int .i64 0) := (bc_ BK282.out 1).trans rfl; have hcz23_2 : w22.cell? ⟨gb282, 2, none⟩ = some (.string (⟨#[]⟩ : ByteArray)) := (bc_ BK282.out 2).trans rfl; have hcz23_3 : w22.cell? ⟨gb282, 3, none⟩ = some (.slice none 0 0) := (bc_ BK282.out 3).trans rfl; have hcz23_4 : w22.cell? ⟨gb282, 4, none⟩ = some (.string (⟨#[]⟩ : ByteArray)) := (bc_ BK282.out 4).trans rfl; have hcz23_5 : w22.cell? ⟨gb282, 5, none⟩ = some (.int .i64 0) := (bc_ BK282.out 5).trans rfl; have hcz23_6 : w22.cell? ⟨gb282, 6, none⟩ = some (.slice none 0 0) := (bc_ BK282.out 6).trans rfl; have hfz23_0 := blk_frozen BK282.out 0; have hfz23_1 := blk_frozen BK282.out 1; have hfz23_2 := blk_frozen BK282.out 2; have hfz23_3 := blk_frozen BK282.out 3; have hfz23_4 := blk_frozen BK282.out 4; have hfz23_5 := blk_frozen BK282.out 5; have hfz23_6 := blk_frozen BK282.out 6) | ((with_reducible refine gate_callee (f := 54) rfl ?_); refine goesL_ (some 24) rfl rfl Try.func54 (by kernel_rfl) rfl #[.agg #[.int .i64 ((rd_T44 y273 x19_2).f0), .int .i64 ((rd_T44 y273 x19_2).f1), .string ((rd_T44 y273 x19_2).f2), .slice A281_3 ((rd_T44 y273 x19_2).f3).length c281_3, .string ((rd_T44 y273 x19_2).f4), .int .i64 ((rd_T44 y273 x19_2).f5), .slice A281_6 ((rd_T44 y273 x19_2).f6).length c281_6]] rfl (by (try simp only [List.map_toArray, List.map_cons, List.map_nil]); first | done | rfl | (simp only [List.length_drop, List.length_take]; rfl)) ?_; (with_reducible refine (impl_itemOk.calls k2 ((rd_T44 y273 x19_2).f0) ((rd_T44 y273 x19_2).f1) ((rd_T44 y273 x19_2).f2) _ _ ((rd_T44 y273 x19_2).f3) ((rd_T44 y273 x19_2).f4) ((rd_T44 y273 x19_2).f5) _ _ ((rd_T44 y273 x19_2).f6) true _ ?side1 ?side2 ?side3 ?side4 A14.out).mono ?_); (case side1 => exact Kd.C_below HR281_3.out (by repeat (first | (with_reducible first | exact HB.out | apply ba_ | apply bn_ | apply b1_ | refine below_set ?_ GE282.out) | exact HB.out))); (case side2 => exact HC281_3.out); (case side3 => exact Kd.C_below HR281_6.out (by repeat (first | (with_reducible first | exact HB.out | apply ba_ | apply bn_ | apply b1_ | refine below_set ?_ GE282.out) | exact HB.out))); (case side4 => exact HC281_6.out); rintro e w24 ⟨rfl, hb⟩; refine ⟨_, rfl, ?_⟩; have n0_ := Aside0.mk (blk_below (g := gb282) (o := .cells #[.int .i64 ((rd_T44 y273 x19_2).f0), .int .i64 ((rd_T44 y273 x19_2).f1), .string ((rd_T44 y273 x19_2).f2), .slice A281_3 ((rd_T44 y273 x19_2).f3).length c281_3, .string ((rd_T44 y273 x19_2).f4), .int .i64 ((rd_T44 y273 x19_2).f5), .slice A281_6 ((rd_T44 y273 x19_2).f6).length c281_6] 44 (0, 0)) (by (with_reducible repeat (first | refine dn_ ?_ _ | refine dd_ ?_ | refine da_ ?_ _)); refine blk_put (cs := #[.int .i64 ((rd_T44 y273 x19_2).f0), .int .i64 ((rd_T44 y273 x19_2).f1), .string ((rd_T44 y273 x19_2).f2), .slice A281_3 ((rd_T44 y273 x19_2).f3).length c281_3, .string ((rd_T44 y273 x19_2).f4), .int .i64 ((rd_T44 y273 x19_2).f5), .slice none 0 0]) ?_ 6 _ rfl; (with_reducible repeat (first | refine dn_ ?_ _ | refine dd_ ?_ | refine da_ ?_ _)); refine blk_put (cs := #[.int .i64 ((rd_T44 y273 x19_2).f0), .int .i64 ((rd_T44 y273 x19_2).f1), .string ((rd_T44 y273 x19_2).f2), .slice A281_3 ((rd_T44 y273 x19_2).f3).length c281_3, .string ((rd_T44 y273 x19_2).f4), .int .i64 0, .slice none 0 0]) ?_ 5 _ rfl; (with_reducible repeat (first | refine dn_ ?_ _ | refine dd_ ?_ | refine da_ ?_ _)); refine blk_put (cs := #[.int .i64 ((rd_T44 y273 x19_2).f0), .int .i64 ((rd_T44 y273 x19_2).f1), .string ((rd_T44 y273 x19_2).f2), .slice A281_3 ((rd_T44 y273 x19_2).f3).length c281_3, .string (⟨#[]⟩ : ByteArray), .int .i64 0, .slice none 0 0]) ?_ 4 _ rfl; (with_reducible repeat (first | refine dn_ ?_ _ | refine dd_ ?_ | refine da_ ?_ _)); refine blk_put (cs := #[.int .i64 ((rd_T44 y273 x19_2).f0), .int .i64 ((rd_T44 y273 x19_2).f1), .string ((rd_T44 y273 x19_2).f2), .slice none 0 0, .string (⟨#[]⟩ : ByteArray), .int .i64 0, .slice none 0 0]) ?_ 3 _ rfl; (with_reducible repeat (first | refine dn_ ?_ _ | refine dd_ ?_ | refine da_ ?_ _)); refine blk_put (cs := #[.int .i64 ((rd_T44 y273 x19_2).f0), .int .i64 ((rd_T44 y273 x19_2).f1), .string (⟨#[]⟩ : ByteArray), .slice none 0 0, .string (⟨#[]⟩ : ByteArray), .int .i64 0, .slice none 0 0]) ?_ 2 _ rfl; (with_reducible repeat (first | refine dn_ ?_ _ | refine dd_ ?_ | refine da_ ?_ _)); refine blk_put (cs := #[.int .i64 ((rd_T44 y273 x19_2).f0), .int .i64 0, .string (⟨#[]⟩ : ByteArray), .slice none 0 0, .string (⟨#[]⟩ : ByteArray), .int .i64 0, .slice none 0 0]) ?_ 1 _ rfl; (with_reducible repeat (first | refine dn_ ?_ _ | refine dd_ ?_ | refine da_ ?_ _)); refine blk_put (cs := #[.int .i64 0, .int .i64 0, .string (⟨#[]⟩ : ByteArray), .slice none 0 0, .string (⟨#[]⟩ : ByteArray), .int .i64 0, .slice none 0 0]) ?_ 0 _ rfl; (with_reducible repeat (first | refine dn_ ?_ _ | refine dd_ ?_ | refine da_ ?_ _)); exact BK282.out) hb); have n1_ := Aside0.mk (below_step (by repeat (first | (with_reducible first | exact HB.out | apply ba_ | apply bn_ | apply b1_ | refine below_set ?_ GE282.out) | exact HB.out)) hb); clear BK282; clear HB; have BK282 := n0_; have HB := n1_; clear n0_ n1_; (try clear hb); (try clear hb2); (try clear hk); (try clear hi); have hcz25_0 : w24.cell? ⟨gb282, 0, none⟩ = some (.int .i64 ((rd_T44 y273 x19_2).f0)) := (bc_ BK282.out 0).trans rfl; have hcz25_1 : w24.cell? ⟨gb282, 1, none⟩ = some (.int .i64 ((rd_T44 y273 x19_2).f1)) := (bc_ BK282.out 1).trans rfl; have hcz25_2 : w24.cell? ⟨gb282, 2, none⟩ = some (.string ((rd_T44 y273 x19_2).f2)) := (bc_ BK282.out 2).trans rfl; have hcz25_3 : w24.cell? ⟨gb282, 3, none⟩ = some (.slice A281_3 ((rd_T44 y273 x19_2).f3).length c281_3) := (bc_ BK282.out 3).trans rfl; have hcz25_4 : w24.cell? ⟨gb282, 4, none⟩ = some (.string ((rd_T44 y273 x19_2).f4)) := (bc_ BK282.out 4).trans rfl; have hcz25_5 : w24.cell? ⟨gb282, 5, none⟩ = some (.int .i64 ((rd_T44 y273 x19_2).f5)) := (bc_ BK282.out 5).trans rfl; have hcz25_6 : w24.cell? ⟨gb282, 6, none⟩ = some (.slice A281_6 ((rd_T44 y273 x19_2).f6).length c281_6) := (bc_ BK282.out 6).trans rfl; have hfz25_0 := blk_frozen BK282.out 0; have hfz25_1 := blk_frozen BK282.out 1; have hfz25_2 := blk_frozen BK282.out 2; have hfz25_3 := blk_frozen BK282.out 3; have hfz25_4 := blk_frozen BK282.out 4; have hfz25_5 := blk_frozen BK282.out 5; have hfz25_6 := blk_frozen BK282.out 6) | (go_at_call 55; (with_reducible refine (impl_inRange.calls ((rd_T44 y273 x19_2).f5) 0 (wrap64 ((l0.length : Int) - 1)) true _ A16.out).mono ?_); rintro e w' ⟨rfl, ⟨nd, rfl⟩⟩; have p285 : 0 ≤ (((rd_T44 y273 x19_2).f5) : Int) := of_decide_eq_true (by first | (with_reducible assumption) | assumption); have q285 : ((rd_T44 y273 x19_2).f5) < (l0.length : Int) := of_decide_eq_true (by first | (with_reducible assumption) | assumption); obtain ⟨ad285, A285_3, c285_3, A285_6, c285_6, e285, hx285_0, hx285_1, hx285_2, hx285_3, hx285_4, hx285_5, hx285_6, hl285_3, hi285_3, hl285_6, hi285_6⟩ := at_T44 HR0.out ((rd_T44 y273 x19_2).f5) p285 q285; cases e285; replace hx285_0 := pw_cell_below HB.out hx285_0; replace hx285_1 := pw_cell_below HB.out hx285_1; replace hx285_2 := pw_cell_below HB.out hx285_2; replace hx285_3 := pw_cell_below HB.out hx285_3; replace hx285_4 := pw_cell_below HB.out hx285_4; replace hx285_5 := pw_cell_below HB.out hx285_5; replace hx285_6 := pw_cell_below HB.out hx285_6; have HR285_3 := Aside0.mk hi285_3; have HC285_3 := Aside0.mk hl285_3; clear hi285_3 hl285_3; have HR285_6 := Aside0.mk hi285_6; have HC285_6 := Aside0.mk hl285_6; clear hi285_6 hl285_6; replace p285 := eq_true p285; replace q285 := eq_true q285) | (go_at_call 56; (with_reducible refine (impl_hasKids.calls ((rd_T44 l0 ((rd_T44 y273 x19_2).f5)).f0) true _ A20.out).mono ?_); rintro e w' ⟨rfl, ⟨nd, rfl⟩⟩))
               go_roundg k2
               case measure => have := HJ1.out; have := HK2.out; omega
               case rel => exact ⟨(wrap64 (x19_2 + 1)), (by first | rfl | (simp; done) | (simp [*]; done)), H', ⟨by have := HJ1.out; have := HK2.out; omega⟩, ⟨by repeat (first | (with_reducible first | exact HB.out | apply ba_ | apply bn_ | apply b1_ | refine below_set ?_ GE282.out) | exact HB.out)⟩⟩
              ·replace c21 := Bool.eq_false_iff.mpr c21
               subst c21
               have H1 : (some false) = some r := by rw [if_neg (show ¬ (false = true) by decide)] at H; exact H
               clear H
               have H := H1
               clear H1
               obtain rfl := Option.some.inj H
               have p281 : 0 ≤ (x19_2 : Int) := of_decide_eq_true (by first | (with_reducible assumption) | assumption)
               have q281 : x19_2 < (y273.length : Int) := of_decide_eq_true (by first | (with_reducible assumption) | assumption)
               obtain ⟨ad281, A281_3, c281_3, A281_6, c281_6, e281, hx281_0, hx281_1, hx281_2, hx281_3, hx281_4, hx281_5, hx281_6, hl281_3, hi281_3, hl281_6, hi281_6⟩ := at_T44 HR276.out x19_2 p281 q281
               cases e281
               replace hx281_0 := pw_cell_below HB.out hx281_0
               replace hx281_1 := pw_cell_below HB.out hx281_1
               replace hx281_2 := pw_cell_below HB.out hx281_2
               replace hx281_3 := pw_cell_below HB.out hx281_3
               replace hx281_4 := pw_cell_below HB.out hx281_4
               replace hx281_5 := pw_cell_below HB.out hx281_5
               replace hx281_6 := pw_cell_below HB.out hx281_6
               have HR281_3 := Aside0.mk hi281_3
               have HC281_3 := Aside0.mk hl281_3
               clear hi281_3 hl281_3
               have HR281_6 := Aside0.mk hi281_6
               have HC281_6 := Aside0.mk hl281_6
               clear hi281_6 hl281_6
               replace p281 := eq_true p281
               replace q281 := eq_true q281
               go_wp2_with (first | ((with_reducible refine gate_dst (N := 4) rfl ?_); (try (refine gate_guard (by rfl) ?_; dsimp only)); refine box_event ?hg (N := 4) ?hd (cs := #[.int .i64 0, .int .i64 0, .string (⟨#[]⟩ : ByteArray), .slice none 0 0, .string (⟨#[]⟩ : ByteArray), .int .i64 0, .slice none 0 0]) (t := 44) ?hr ?_; (case hd => rfl); (case hg => rfl); (case hr => first | (go_simp; done) | (go_simp; rfl)); intro gb282 hg w26 hbox hb; have n0_ := Aside0.mk (below_step (by repeat (first | (with_reducible first | exact HB.out | apply ba_ | apply bn_ | apply b1_) | exact HB.out)) hb); have n1_ := Aside0.mk (hbox); have n2_ := Aside0.mk ((by rw [hg]; exact (below_size (by repeat (first | (with_reducible first | exact HB.out | apply ba_ | apply bn_ | apply b1_) | exact HB.out))) : w.heap.size ≤ gb282)); have n3_ := Aside0.mk ((by rw [hg]; exact (below_size (by repeat (first | (with_reducible first | exact HB.out | apply ba_ | apply bn_ | apply b1_) | exact HB.out))) : w.heap.size ≤ gb282)); clear HB; have HB := n0_; have BK282 := n1_; have GW282 := n2_; have GE282 := n3_; clear n0_ n1_ n2_ n3_; clear hb hbox hg; have hcz27_0 : w26.cell? ⟨gb282, 0, none⟩ = some (.int .i64 0) := (bc_ BK282.out 0).trans rfl; have hcz27_1 : w26.cell? ⟨gb282, 1, none⟩ = some (.int .i64 0) := (bc_ BK282.out 1).trans rfl; have hcz27_2 : w26.cell? ⟨gb282, 2, none⟩ = some (.string (⟨#[]⟩ : ByteArray)) := (bc_ BK282.out 2).trans rfl; have hcz27_3 : w26.cell? ⟨gb282, 3, none⟩ = some (.slice none 0 0) := (bc_ BK282.out 3).trans rfl; have hcz27_4 : w26.cell? ⟨gb282, 4, none⟩ = some (.string (⟨#[]⟩ : ByteArray)) := (bc_ BK282.out 4).trans rfl; have hcz27_5 : w26.cell? ⟨gb282, 5, none⟩ = some (.int .i64 0) := (bc_ BK282.out 5).trans rfl; have hcz27_6 : w26.cell? ⟨gb282, 6, none⟩ = some (.slice none 0 0) := (bc_ BK282.out 6).trans rfl; have hfz27_0 := blk_frozen BK282.out 0; have hfz27_1 := blk_frozen BK282.out 1; have hfz27_2 := blk_frozen BK282.out 2; have hfz27_3 := blk_frozen BK282.out 3; have hfz27_4 := blk_frozen BK282.out 4; have hfz27_5 := blk_frozen BK282.out 5; have hfz27_6 := blk_frozen BK282.out 6) | ((with_reducible refine gate_callee (f := 54) rfl ?_); refine goesL_ (some 24) rfl rfl Try.func54 (by kernel_rfl) rfl #[.agg #[.int .i64 ((rd_T44 y273 x19_2).f0), .int .i64 ((rd_T44 y273 x19_2).f1), .string ((rd_T44 y273 x19_2).f2), .slice A281_3 ((rd_T44 y273 x19_2).f3).length c281_3, .string ((rd_T44 y273 x19_2).f4), .int .i64 ((rd_T44 y273 x19_2).f5), .slice A281_6 ((rd_T44 y273 x19_2).f6).length c281_6]] rfl (by (try simp only [List.map_toArray, List.map_cons, List.map_nil]); first | done | rfl | (simp only [List.length_drop, List.length_take]; rfl)) ?_; (with_reducible refine (impl_itemOk.calls k2 ((rd_T44 y273 x19_2).f0) ((rd_T44 y273 x19_2).f1) ((rd_T44 y273 x19_2).f2) _ _ ((rd_T44 y273 x19_2).f3) ((rd_T44 y273 x19_2).f4) ((rd_T44 y273 x19_2).f5) _ _ ((rd_T44 y273 x19_2).f6) true _ ?side1 ?side2 ?side3 ?side4 A14.out).mono ?_); (case side1 => exact Kd.C_below HR281_3.out (by repeat (first | (with_reducible first | exact HB.out | apply ba_ | apply bn_ | apply b1_ | refine below_set ?_ GE282.out) | exact HB.out))); (case side2 => exact HC281_3.out); (case side3 => exact Kd.C_below HR281_6.out (by repeat (first | (with_reducible first | exact HB.out | apply ba_ | apply bn_ | apply b1_ | refine below_set ?_ GE282.out) | exact HB.out))); (case side4 => exact HC281_6.out); rintro e w28 ⟨rfl, hb⟩; refine ⟨_, rfl, ?_⟩; have n0_ := Aside0.mk (blk_below (g := gb282) (o := .cells #[.int .i64 ((rd_T44 y273 x19_2).f0), .int .i64 ((rd_T44 y273 x19_2).f1), .string ((rd_T44 y273 x19_2).f2), .slice A281_3 ((rd_T44 y273 x19_2).f3).length c281_3, .string ((rd_T44 y273 x19_2).f4), .int .i64 ((rd_T44 y273 x19_2).f5), .slice A281_6 ((rd_T44 y273 x19_2).f6).length c281_6] 44 (0, 0)) (by (with_reducible repeat (first | refine dn_ ?_ _ | refine dd_ ?_ | refine da_ ?_ _)); refine blk_put (cs := #[.int .i64 ((rd_T44 y273 x19_2).f0), .int .i64 ((rd_T44 y273 x19_2).f1), .string ((rd_T44 y273 x19_2).f2), .slice A281_3 ((rd_T44 y273 x19_2).f3).length c281_3, .string ((rd_T44 y273 x19_2).f4), .int .i64 ((rd_T44 y273 x19_2).f5), .slice none 0 0]) ?_ 6 _ rfl; (with_reducible repeat (first | refine dn_ ?_ _ | refine dd_ ?_ | refine da_ ?_ _)); refine blk_put (cs := #[.int .i64 ((rd_T44 y273 x19_2).f0), .int .i64 ((rd_T44 y273 x19_2).f1), .string ((rd_T44 y273 x19_2).f2), .slice A281_3 ((rd_T44 y273 x19_2).f3).length c281_3, .string ((rd_T44 y273 x19_2).f4), .int .i64 0, .slice none 0 0]) ?_ 5 _ rfl; (with_reducible repeat (first | refine dn_ ?_ _ | refine dd_ ?_ | refine da_ ?_ _)); refine blk_put (cs := #[.int .i64 ((rd_T44 y273 x19_2).f0), .int .i64 ((rd_T44 y273 x19_2).f1), .string ((rd_T44 y273 x19_2).f2), .slice A281_3 ((rd_T44 y273 x19_2).f3).length c281_3, .string (⟨#[]⟩ : ByteArray), .int .i64 0, .slice none 0 0]) ?_ 4 _ rfl; (with_reducible repeat (first | refine dn_ ?_ _ | refine dd_ ?_ | refine da_ ?_ _)); refine blk_put (cs := #[.int .i64 ((rd_T44 y273 x19_2).f0), .int .i64 ((rd_T44 y273 x19_2).f1), .string ((rd_T44 y273 x19_2).f2), .slice none 0 0, .string (⟨#[]⟩ : ByteArray), .int .i64 0, .slice none 0 0]) ?_ 3 _ rfl; (with_reducible repeat (first | refine dn_ ?_ _ | refine dd_ ?_ | refine da_ ?_ _)); refine blk_put (cs := #[.int .i64 ((rd_T44 y273 x19_2).f0), .int .i64 ((rd_T44 y273 x19_2).f1), .string (⟨#[]⟩ : ByteArray), .slice none 0 0, .string (⟨#[]⟩ : ByteArray), .int .i64 0, .slice none 0 0]) ?_ 2 _ rfl; (with_reducible repeat (first | refine dn_ ?_ _ | refine dd_ ?_ | refine da_ ?_ _)); refine blk_put (cs := #[.int .i64 ((rd_T44 y273 x19_2).f0), .int .i64 0, .string (⟨#[]⟩ : ByteArray), .slice none 0 0, .string (⟨#[]⟩ : ByteArray), .int .i64 0, .slice none 0 0]) ?_ 1 _ rfl; (with_reducible repeat (first | refine dn_ ?_ _ | refine dd_ ?_ | refine da_ ?_ _)); refine blk_put (cs := #[.int .i64 0, .int .i64 0, .string (⟨#[]⟩ : ByteArray), .slice none 0 0, .string (⟨#[]⟩ : ByteArray), .int .i64 0, .slice none 0 0]) ?_ 0 _ rfl; (with_reducible repeat (first | refine dn_ ?_ _ | refine dd_ ?_ | refine da_ ?_ _)); exact BK282.out) hb); have n1_ := Aside0.mk (below_step (by repeat (first | (with_reducible first | exact HB.out | apply ba_ | apply bn_ | apply b1_ | refine below_set ?_ GE282.out) | exact HB.out)) hb); clear BK282; clear HB; have BK282 := n0_; have HB := n1_; clear n0_ n1_; (try clear hb); (try clear hb2); (try clear hk); (try clear hi); have hcz29_0 : w28.cell? ⟨gb282, 0, none⟩ = some (.int .i64 ((rd_T44 y273 x19_2).f0)) := (bc_ BK282.out 0).trans rfl; have hcz29_1 : w28.cell? ⟨gb282, 1, none⟩ = some (.int .i64 ((rd_T44 y273 x19_2).f1)) := (bc_ BK282.out 1).trans rfl; have hcz29_2 : w28.cell? ⟨gb282, 2, none⟩ = some (.string ((rd_T44 y273 x19_2).f2)) := (bc_ BK282.out 2).trans rfl; have hcz29_3 : w28.cell? ⟨gb282, 3, none⟩ = some (.slice A281_3 ((rd_T44 y273 x19_2).f3).length c281_3) := (bc_ BK282.out 3).trans rfl; have hcz29_4 : w28.cell? ⟨gb282, 4, none⟩ = some (.string ((rd_T44 y273 x19_2).f4)) := (bc_ BK282.out 4).trans rfl; have hcz29_5 : w28.cell? ⟨gb282, 5, none⟩ = some (.int .i64 ((rd_T44 y273 x19_2).f5)) := (bc_ BK282.out 5).trans rfl; have hcz29_6 : w28.cell? ⟨gb282, 6, none⟩ = some (.slice A281_6 ((rd_T44 y273 x19_2).f6).length c281_6) := (bc_ BK282.out 6).trans rfl; have hfz29_0 := blk_frozen BK282.out 0; have hfz29_1 := blk_frozen BK282.out 1; have hfz29_2 := blk_frozen BK282.out 2; have hfz29_3 := blk_frozen BK282.out 3; have hfz29_4 := blk_frozen BK282.out 4; have hfz29_5 := blk_frozen BK282.out 5; have hfz29_6 := blk_frozen BK282.out 6) | (go_at_call 55; (with_reducible refine (impl_inRange.calls ((rd_T44 y273 x19_2).f5) 0 (wrap64 ((l0.length : Int) - 1)) true _ A16.out).mono ?_); rintro e w' ⟨rfl, ⟨nd, rfl⟩⟩; have p285 : 0 ≤ (((rd_T44 y273 x19_2).f5) : Int) := of_decide_eq_true (by first | (with_reducible assumption) | assumption); have q285 : ((rd_T44 y273 x19_2).f5) < (l0.length : Int) := of_decide_eq_true (by first | (with_reducible assumption) | assumption); obtain ⟨ad285, A285_3, c285_3, A285_6, c285_6, e285, hx285_0, hx285_1, hx285_2, hx285_3, hx285_4, hx285_5, hx285_6, hl285_3, hi285_3, hl285_6, hi285_6⟩ := at_T44 HR0.out ((rd_T44 y273 x19_2).f5) p285 q285; cases e285; replace hx285_0 := pw_cell_below HB.out hx285_0; replace hx285_1 := pw_cell_below HB.out hx285_1; replace hx285_2 := pw_cell_below HB.out hx285_2; replace hx285_3 := pw_cell_below HB.out hx285_3; replace hx285_4 := pw_cell_below HB.out hx285_4; replace hx285_5 := pw_cell_below HB.out hx285_5; replace hx285_6 := pw_cell_below HB.out hx285_6; have HR285_3 := Aside0.mk hi285_3; have HC285_3 := Aside0.mk hl285_3; clear hi285_3 hl285_3; have HR285_6 := Aside0.mk hi285_6; have HC285_6 := Aside0.mk hl285_6; clear hi285_6 hl285_6; replace p285 := eq_true p285; replace q285 := eq_true q285) | (go_at_call 56; (with_reducible refine (impl_hasKids.calls ((rd_T44 l0 ((rd_T44 y273 x19_2).f5)).f0) false _ A20.out).mono ?_); rintro e w' ⟨rfl, ⟨nd, rfl⟩⟩))
               go_ret
               exact ⟨by first | rfl | (simp [errW_none, errW_some] <;> rfl) | (simp [*, errW_none, errW_some] <;> rfl), by repeat (first | (with_reducible first | exact HB.out | apply ba_ | apply bn_ | apply b1_ | refine below_set ?_ GE282.out) | exact HB.out)⟩
             ·rw [if_neg c19] at H
              exact absurd H (by simp)
            ·rw [if_neg c18] at H
             exact absurd H (by simp)
           ·replace c17 := Bool.eq_false_iff.mpr c17
            subst c17
            have H1 : (some false) = some r := by rw [if_neg (show ¬ (false = true) by decide)] at H; exact H
            clear H
            have H := H1
            clear H1
            obtain rfl := Option.some.inj H
            have p281 : 0 ≤ (x19_2 : Int) := of_decide_eq_true (by first | (with_reducible assumption) | assumption)
            have q281 : x19_2 < (y273.length : Int) := of_decide_eq_true (by first | (with_reducible assumption) | assumption)
            obtain ⟨ad281, A281_3, c281_3, A281_6, c281_6, e281, hx281_0, hx281_1, hx281_2, hx281_3, hx281_4, hx281_5, hx281_6, hl281_3, hi281_3, hl281_6, hi281_6⟩ := at_T44 HR276.out x19_2 p281 q281
            cases e281
            replace hx281_0 := pw_cell_below HB.out hx281_0
            replace hx281_1 := pw_cell_below HB.out hx281_1
            replace hx281_2 := pw_cell_below HB.out hx281_2
            replace hx281_3 := pw_cell_below HB.out hx281_3
            replace hx281_4 := pw_cell_below HB.out hx281_4
            replace hx281_5 := pw_cell_below HB.out hx281_5
            replace hx281_6 := pw_cell_below HB.out hx281_6
            have HR281_3 := Aside0.mk hi281_3
            have HC281_3 := Aside0.mk hl281_3
            clear hi281_3 hl281_3
            have HR281_6 := Aside0.mk hi281_6
            have HC281_6 := Aside0.mk hl281_6
            clear hi281_6 hl281_6
            replace p281 := eq_true p281
            replace q281 := eq_true q281
            go_wp2_with (first | ((with_reducible refine gate_dst (N := 4) rfl ?_); (try (refine gate_guard (by rfl) ?_; dsimp only)); refine box_event ?hg (N := 4) ?hd (cs := #[.int .i64 0, .int .i64 0, .string (⟨#[]⟩ : ByteArray), .slice none 0 0, .string (⟨#[]⟩ : ByteArray), .int .i64 0, .slice none 0 0]) (t := 44) ?hr ?_; (case hd => rfl); (case hg => rfl); (case hr => first | (go_simp; done) | (go_simp; rfl)); intro gb282 hg w30 hbox hb; have n0_ := Aside0.mk (below_step (by repeat (first | (with_reducible first | exact HB.out | apply ba_ | apply bn_ | apply b1_) | exact HB.out)) hb); have n1_ := Aside0.mk (hbox); have n2_ := Aside0.mk ((by rw [hg]; exact (below_size (by repeat (first | (with_reducible first | exact HB.out | apply ba_ | apply bn_ | apply b1_) | exact HB.out))) : w.heap.size ≤ gb282)); have n3_ := Aside0.mk ((by rw [hg]; exact (below_size (by repeat (first | (with_reducible first | exact HB.out | apply ba_ | apply bn_ | apply b1_) | exact HB.out))) : w.heap.size ≤ gb282)); clear HB; have HB := n0_; have BK282 := n1_; have GW282 := n2_; have GE282 := n3_; clear n0_ n1_ n2_ n3_; clear hb hbox hg; have hcz31_0 : w30.cell? ⟨gb282, 0, none⟩ = some (.int .i64 0) := (bc_ BK282.out 0).trans rfl; have hcz31_1 : w30.cell? ⟨gb282, 1, none⟩ = some (.int .i64 0) := (bc_ BK282.out 1).trans rfl; have hcz31_2 : w30.cell? ⟨gb282, 2, none⟩ = some (.string (⟨#[]⟩ : ByteArray)) := (bc_ BK282.out 2).trans rfl; have hcz31_3 : w30.cell? ⟨gb282, 3, none⟩ = some (.slice none 0 0) := (bc_ BK282.out 3).trans rfl; have hcz31_4 : w30.cell? ⟨gb282, 4, none⟩ = some (.string (⟨#[]⟩ : ByteArray)) := (bc_ BK282.out 4).trans rfl; have hcz31_5 : w30.cell? ⟨gb282, 5, none⟩ = some (.int .i64 0) := (bc_ BK282.out 5).trans rfl; have hcz31_6 : w30.cell? ⟨gb282, 6, none⟩ = some (.slice none 0 0) := (bc_ BK282.out 6).trans rfl; have hfz31_0 := blk_frozen BK282.out 0; have hfz31_1 := blk_frozen BK282.out 1; have hfz31_2 := blk_frozen BK282.out 2; have hfz31_3 := blk_frozen BK282.out 3; have hfz31_4 := blk_frozen BK282.out 4; have hfz31_5 := blk_frozen BK282.out 5; have hfz31_6 := blk_frozen BK282.out 6) | ((with_reducible refine gate_callee (f := 54) rfl ?_); refine goesL_ (some 24) rfl rfl Try.func54 (by kernel_rfl) rfl #[.agg #[.int .i64 ((rd_T44 y273 x19_2).f0), .int .i64 ((rd_T44 y273 x19_2).f1), .string ((rd_T44 y273 x19_2).f2), .slice A281_3 ((rd_T44 y273 x19_2).f3).length c281_3, .string ((rd_T44 y273 x19_2).f4), .int .i64 ((rd_T44 y273 x19_2).f5), .slice A281_6 ((rd_T44 y273 x19_2).f6).length c281_6]] rfl (by (try simp only [List.map_toArray, List.map_cons, List.map_nil]); first | done | rfl | (simp only [List.length_drop, List.length_take]; rfl)) ?_; (with_reducible refine (impl_itemOk.calls k2 ((rd_T44 y273 x19_2).f0) ((rd_T44 y273 x19_2).f1) ((rd_T44 y273 x19_2).f2) _ _ ((rd_T44 y273 x19_2).f3) ((rd_T44 y273 x19_2).f4) ((rd_T44 y273 x19_2).f5) _ _ ((rd_T44 y273 x19_2).f6) true _ ?side1 ?side2 ?side3 ?side4 A14.out).mono ?_); (case side1 => exact Kd.C_below HR281_3.out (by repeat (first | (with_reducible first | exact HB.out | apply ba_ | apply bn_ | apply b1_ | refine below_set ?_ GE282.out) | exact HB.out))); (case side2 => exact HC281_3.out); (case side3 => exact Kd.C_below HR281_6.out (by repeat (first | (with_reducible first | exact HB.out | apply ba_ | apply bn_ | apply b1_ | refine below_set ?_ GE282.out) | exact HB.out))); (case side4 => exact HC281_6.out); rintro e w32 ⟨rfl, hb⟩; refine ⟨_, rfl, ?_⟩; have n0_ := Aside0.mk (blk_below (g := gb282) (o := .cells #[.int .i64 ((rd_T44 y273 x19_2).f0), .int .i64 ((rd_T44 y273 x19_2).f1), .string ((rd_T44 y273 x19_2).f2), .slice A281_3 ((rd_T44 y273 x19_2).f3).length c281_3, .string ((rd_T44 y273 x19_2).f4), .int .i64 ((rd_T44 y273 x19_2).f5), .slice A281_6 ((rd_T44 y273 x19_2).f6).length c281_6] 44 (0, 0)) (by (with_reducible repeat (first | refine dn_ ?_ _ | refine dd_ ?_ | refine da_ ?_ _)); refine blk_put (cs := #[.int .i64 ((rd_T44 y273 x19_2).f0), .int .i64 ((rd_T44 y273 x19_2).f1), .string ((rd_T44 y273 x19_2).f2), .slice A281_3 ((rd_T44 y273 x19_2).f3).length c281_3, .string ((rd_T44 y273 x19_2).f4), .int .i64 ((rd_T44 y273 x19_2).f5), .slice none 0 0]) ?_ 6 _ rfl; (with_reducible repeat (first | refine dn_ ?_ _ | refine dd_ ?_ | refine da_ ?_ _)); refine blk_put (cs := #[.int .i64 ((rd_T44 y273 x19_2).f0), .int .i64 ((rd_T44 y273 x19_2).f1), .string ((rd_T44 y273 x19_2).f2), .slice A281_3 ((rd_T44 y273 x19_2).f3).length c281_3, .string ((rd_T44 y273 x19_2).f4), .int .i64 0, .slice none 0 0]) ?_ 5 _ rfl; (with_reducible repeat (first | refine dn_ ?_ _ | refine dd_ ?_ | refine da_ ?_ _)); refine blk_put (cs := #[.int .i64 ((rd_T44 y273 x19_2).f0), .int .i64 ((rd_T44 y273 x19_2).f1), .string ((rd_T44 y273 x19_2).f2), .slice A281_3 ((rd_T44 y273 x19_2).f3).length c281_3, .string (⟨#[]⟩ : ByteArray), .int .i64 0, .slice none 0 0]) ?_ 4 _ rfl; (with_reducible repeat (first | refine dn_ ?_ _ | refine dd_ ?_ | refine da_ ?_ _)); refine blk_put (cs := #[.int .i64 ((rd_T44 y273 x19_2).f0), .int .i64 ((rd_T44 y273 x19_2).f1), .string ((rd_T44 y273 x19_2).f2), .slice none 0 0, .string (⟨#[]⟩ : ByteArray), .int .i64 0, .slice none 0 0]) ?_ 3 _ rfl; (with_reducible repeat (first | refine dn_ ?_ _ | refine dd_ ?_ | refine da_ ?_ _)); refine blk_put (cs := #[.int .i64 ((rd_T44 y273 x19_2).f0), .int .i64 ((rd_T44 y273 x19_2).f1), .string (⟨#[]⟩ : ByteArray), .slice none 0 0, .string (⟨#[]⟩ : ByteArray), .int .i64 0, .slice none 0 0]) ?_ 2 _ rfl; (with_reducible repeat (first | refine dn_ ?_ _ | refine dd_ ?_ | refine da_ ?_ _)); refine blk_put (cs := #[.int .i64 ((rd_T44 y273 x19_2).f0), .int .i64 0, .string (⟨#[]⟩ : ByteArray), .slice none 0 0, .string (⟨#[]⟩ : ByteArray), .int .i64 0, .slice none 0 0]) ?_ 1 _ rfl; (with_reducible repeat (first | refine dn_ ?_ _ | refine dd_ ?_ | refine da_ ?_ _)); refine blk_put (cs := #[.int .i64 0, .int .i64 0, .string (⟨#[]⟩ : ByteArray), .slice none 0 0, .string (⟨#[]⟩ : ByteArray), .int .i64 0, .slice none 0 0]) ?_ 0 _ rfl; (with_reducible repeat (first | refine dn_ ?_ _ | refine dd_ ?_ | refine da_ ?_ _)); exact BK282.out) hb); have n1_ := Aside0.mk (below_step (by repeat (first | (with_reducible first | exact HB.out | apply ba_ | apply bn_ | apply b1_ | refine below_set ?_ GE282.out) | exact HB.out)) hb); clear BK282; clear HB; have BK282 := n0_; have HB := n1_; clear n0_ n1_; (try clear hb); (try clear hb2); (try clear hk); (try clear hi); have hcz33_0 : w32.cell? ⟨gb282, 0, none⟩ = some (.int .i64 ((rd_T44 y273 x19_2).f0)) := (bc_ BK282.out 0).trans rfl; have hcz33_1 : w32.cell? ⟨gb282, 1, none⟩ = some (.int .i64 ((rd_T44 y273 x19_2).f1)) := (bc_ BK282.out 1).trans rfl; have hcz33_2 : w32.cell? ⟨gb282, 2, none⟩ = some (.string ((rd_T44 y273 x19_2).f2)) := (bc_ BK282.out 2).trans rfl; have hcz33_3 : w32.cell? ⟨gb282, 3, none⟩ = some (.slice A281_3 ((rd_T44 y273 x19_2).f3).length c281_3) := (bc_ BK282.out 3).trans rfl; have hcz33_4 : w32.cell? ⟨gb282, 4, none⟩ = some (.string ((rd_T44 y273 x19_2).f4)) := (bc_ BK282.out 4).trans rfl; have hcz33_5 : w32.cell? ⟨gb282, 5, none⟩ = some (.int .i64 ((rd_T44 y273 x19_2).f5)) := (bc_ BK282.out 5).trans rfl; have hcz33_6 : w32.cell? ⟨gb282, 6, none⟩ = some (.slice A281_6 ((rd_T44 y273 x19_2).f6).length c281_6) := (bc_ BK282.out 6).trans rfl; have hfz33_0 := blk_frozen BK282.out 0; have hfz33_1 := blk_frozen BK282.out 1; have hfz33_2 := blk_frozen BK282.out 2; have hfz33_3 := blk_frozen BK282.out 3; have hfz33_4 := blk_frozen BK282.out 4; have hfz33_5 := blk_frozen BK282.out 5; have hfz33_6 := blk_frozen BK282.out 6) | (go_at_call 55; (with_reducible refine (impl_inRange.calls ((rd_T44 y273 x19_2).f5) 0 (wrap64 ((l0.length : Int) - 1)) false _ A16.out).mono ?_); rintro e w' ⟨rfl, ⟨nd, rfl⟩⟩))
            go_ret
            exact ⟨by first | rfl | (simp [errW_none, errW_some] <;> rfl) | (simp [*, errW_none, errW_some] <;> rfl), by repeat (first | (with_reducible first | exact HB.out | apply ba_ | apply bn_ | apply b1_ | refine below_set ?_ GE282.out) | exact HB.out)⟩
          ·replace c15 := Bool.eq_false_iff.mpr c15
           subst c15
           have H1 : (some false) = some r := by rw [if_neg (show ¬ (false = true) by decide)] at H; exact H
           clear H
           have H := H1
           clear H1
           obtain rfl := Option.some.inj H
           have p281 : 0 ≤ (x19_2 : Int) := of_decide_eq_true (by first | (with_reducible assumption) | assumption)
           have q281 : x19_2 < (y273.length : Int) := of_decide_eq_true (by first | (with_reducible assumption) | assumption)
           obtain ⟨ad281, A281_3, c281_3, A281_6, c281_6, e281, hx281_0, hx281_1, hx281_2, hx281_3, hx281_4, hx281_5, hx281_6, hl281_3, hi281_3, hl281_6, hi281_6⟩ := at_T44 HR276.out x19_2 p281 q281
           cases e281
           replace hx281_0 := pw_cell_below HB.out hx281_0
           replace hx281_1 := pw_cell_below HB.out hx281_1
           replace hx281_2 := pw_cell_below HB.out hx281_2
           replace hx281_3 := pw_cell_below HB.out hx281_3
           replace hx281_4 := pw_cell_below HB.out hx281_4
           replace hx281_5 := pw_cell_below HB.out hx281_5
           replace hx281_6 := pw_cell_below HB.out hx281_6
           have HR281_3 := Aside0.mk hi281_3
           have HC281_3 := Aside0.mk hl281_3
           clear hi281_3 hl281_3
           have HR281_6 := Aside0.mk hi281_6
           have HC281_6 := Aside0.mk hl281_6
           clear hi281_6 hl281_6
           replace p281 := eq_true p281
           replace q281 := eq_true q281
           go_wp2_with (first | ((with_reducible refine gate_dst (N := 4) rfl ?_); (try (refine gate_guard (by rfl) ?_; dsimp only)); refine box_event ?hg (N := 4) ?hd (cs := #[.int .i64 0, .int .i64 0, .string (⟨#[]⟩ : ByteArray), .slice none 0 0, .string (⟨#[]⟩ : ByteArray), .int .i64 0, .slice none 0 0]) (t := 44) ?hr ?_; (case hd => rfl); (case hg => rfl); (case hr => first | (go_simp; done) | (go_simp; rfl)); intro gb282 hg w34 hbox hb; have n0_ := Aside0.mk (below_step (by repeat (first | (with_reducible first | exact HB.out | apply ba_ | apply bn_ | apply b1_) | exact HB.out)) hb); have n1_ := Aside0.mk (hbox); have n2_ := Aside0.mk ((by rw [hg]; exact (below_size (by repeat (first | (with_reducible first | exact HB.out | apply ba_ | apply bn_ | apply b1_) | exact HB.out))) : w.heap.size ≤ gb282)); have n3_ := Aside0.mk ((by rw [hg]; exact (below_size (by repeat (first | (with_reducible first | exact HB.out | apply ba_ | apply bn_ | apply b1_) | exact HB.out))) : w.heap.size ≤ gb282)); clear HB; have HB := n0_; have BK282 := n1_; have GW282 := n2_; have GE282 := n3_; clear n0_ n1_ n2_ n3_; clear hb hbox hg; have hcz35_0 : w34.cell? ⟨gb282, 0, none⟩ = some (.int .i64 0) := (bc_ BK282.out 0).trans rfl; have hcz35_1 : w34.cell? ⟨gb282, 1, none⟩ = some (.int .i64 0) := (bc_ BK282.out 1).trans rfl; have hcz35_2 : w34.cell? ⟨gb282, 2, none⟩ = some (.string (⟨#[]⟩ : ByteArray)) := (bc_ BK282.out 2).trans rfl; have hcz35_3 : w34.cell? ⟨gb282, 3, none⟩ = some (.slice none 0 0) := (bc_ BK282.out 3).trans rfl; have hcz35_4 : w34.cell? ⟨gb282, 4, none⟩ = some (.string (⟨#[]⟩ : ByteArray)) := (bc_ BK282.out 4).trans rfl; have hcz35_5 : w34.cell? ⟨gb282, 5, none⟩ = some (.int .i64 0) := (bc_ BK282.out 5).trans rfl; have hcz35_6 : w34.cell? ⟨gb282, 6, none⟩ = some (.slice none 0 0) := (bc_ BK282.out 6).trans rfl; have hfz35_0 := blk_frozen BK282.out 0; have hfz35_1 := blk_frozen BK282.out 1; have hfz35_2 := blk_frozen BK282.out 2; have hfz35_3 := blk_frozen BK282.out 3; have hfz35_4 := blk_frozen BK282.out 4; have hfz35_5 := blk_frozen BK282.out 5; have hfz35_6 := blk_frozen BK282.out 6) | ((with_reducible refine gate_callee (f := 54) rfl ?_); refine goesL_ (some 24) rfl rfl Try.func54 (by kernel_rfl) rfl #[.agg #[.int .i64 ((rd_T44 y273 x19_2).f0), .int .i64 ((rd_T44 y273 x19_2).f1), .string ((rd_T44 y273 x19_2).f2), .slice A281_3 ((rd_T44 y273 x19_2).f3).length c281_3, .string ((rd_T44 y273 x19_2).f4), .int .i64 ((rd_T44 y273 x19_2).f5), .slice A281_6 ((rd_T44 y273 x19_2).f6).length c281_6]] rfl (by (try simp only [List.map_toArray, List.map_cons, List.map_nil]); first | done | rfl | (simp only [List.length_drop, List.length_take]; rfl)) ?_; (with_reducible refine (impl_itemOk.calls k2 ((rd_T44 y273 x19_2).f0) ((rd_T44 y273 x19_2).f1) ((rd_T44 y273 x19_2).f2) _ _ ((rd_T44 y273 x19_2).f3) ((rd_T44 y273 x19_2).f4) ((rd_T44 y273 x19_2).f5) _ _ ((rd_T44 y273 x19_2).f6) false _ ?side1 ?side2 ?side3 ?side4 A14.out).mono ?_); (case side1 => exact Kd.C_below HR281_3.out (by repeat (first | (with_reducible first | exact HB.out | apply ba_ | apply bn_ | apply b1_ | refine below_set ?_ GE282.out) | exact HB.out))); (case side2 => exact HC281_3.out); (case side3 => exact Kd.C_below HR281_6.out (by repeat (first | (with_reducible first | exact HB.out | apply ba_ | apply bn_ | apply b1_ | refine below_set ?_ GE282.out) | exact HB.out))); (case side4 => exact HC281_6.out); rintro e w36 ⟨rfl, hb⟩; refine ⟨_, rfl, ?_⟩; have n0_ := Aside0.mk (blk_below (g := gb282) (o := .cells #[.int .i64 ((rd_T44 y273 x19_2).f0), .int .i64 ((rd_T44 y273 x19_2).f1), .string ((rd_T44 y273 x19_2).f2), .slice A281_3 ((rd_T44 y273 x19_2).f3).length c281_3, .string ((rd_T44 y273 x19_2).f4), .int .i64 ((rd_T44 y273 x19_2).f5), .slice A281_6 ((rd_T44 y273 x19_2).f6).length c281_6] 44 (0, 0)) (by (with_reducible repeat (first | refine dn_ ?_ _ | refine dd_ ?_ | refine da_ ?_ _)); refine blk_put (cs := #[.int .i64 ((rd_T44 y273 x19_2).f0), .int .i64 ((rd_T44 y273 x19_2).f1), .string ((rd_T44 y273 x19_2).f2), .slice A281_3 ((rd_T44 y273 x19_2).f3).length c281_3, .string ((rd_T44 y273 x19_2).f4), .int .i64 ((rd_T44 y273 x19_2).f5), .slice none 0 0]) ?_ 6 _ rfl; (with_reducible repeat (first | refine dn_ ?_ _ | refine dd_ ?_ | refine da_ ?_ _)); refine blk_put (cs := #[.int .i64 ((rd_T44 y273 x19_2).f0), .int .i64 ((rd_T44 y273 x19_2).f1), .string ((rd_T44 y273 x19_2).f2), .slice A281_3 ((rd_T44 y273 x19_2).f3).length c281_3, .string ((rd_T44 y273 x19_2).f4), .int .i64 0, .slice none 0 0]) ?_ 5 _ rfl; (with_reducible repeat (first | refine dn_ ?_ _ | refine dd_ ?_ | refine da_ ?_ _)); refine blk_put (cs := #[.int .i64 ((rd_T44 y273 x19_2).f0), .int .i64 ((rd_T44 y273 x19_2).f1), .string ((rd_T44 y273 x19_2).f2), .slice A281_3 ((rd_T44 y273 x19_2).f3).length c281_3, .string (⟨#[]⟩ : ByteArray), .int .i64 0, .slice none 0 0]) ?_ 4 _ rfl; (with_reducible repeat (first | refine dn_ ?_ _ | refine dd_ ?_ | refine da_ ?_ _)); refine blk_put (cs := #[.int .i64 ((rd_T44 y273 x19_2).f0), .int .i64 ((rd_T44 y273 x19_2).f1), .string ((rd_T44 y273 x19_2).f2), .slice none 0 0, .string (⟨#[]⟩ : ByteArray), .int .i64 0, .slice none 0 0]) ?_ 3 _ rfl; (with_reducible repeat (first | refine dn_ ?_ _ | refine dd_ ?_ | refine da_ ?_ _)); refine blk_put (cs := #[.int .i64 ((rd_T44 y273 x19_2).f0), .int .i64 ((rd_T44 y273 x19_2).f1), .string (⟨#[]⟩ : ByteArray), .slice none 0 0, .string (⟨#[]⟩ : ByteArray), .int .i64 0, .slice none 0 0]) ?_ 2 _ rfl; (with_reducible repeat (first | refine dn_ ?_ _ | refine dd_ ?_ | refine da_ ?_ _)); refine blk_put (cs := #[.int .i64 ((rd_T44 y273 x19_2).f0), .int .i64 0, .string (⟨#[]⟩ : ByteArray), .slice none 0 0, .string (⟨#[]⟩ : ByteArray), .int .i64 0, .slice none 0 0]) ?_ 1 _ rfl; (with_reducible repeat (first | refine dn_ ?_ _ | refine dd_ ?_ | refine da_ ?_ _)); refine blk_put (cs := #[.int .i64 0, .int .i64 0, .string (⟨#[]⟩ : ByteArray), .slice none 0 0, .string (⟨#[]⟩ : ByteArray), .int .i64 0, .slice none 0 0]) ?_ 0 _ rfl; (with_reducible repeat (first | refine dn_ ?_ _ | refine dd_ ?_ | refine da_ ?_ _)); exact BK282.out) hb); have n1_ := Aside0.mk (below_step (by repeat (first | (with_reducible first | exact HB.out | apply ba_ | apply bn_ | apply b1_ | refine below_set ?_ GE282.out) | exact HB.out)) hb); clear BK282; clear HB; have BK282 := n0_; have HB := n1_; clear n0_ n1_; (try clear hb); (try clear hb2); (try clear hk); (try clear hi)))
           go_ret
           exact ⟨by first | rfl | (simp [errW_none, errW_some] <;> rfl) | (simp [*, errW_none, errW_some] <;> rfl), by repeat (first | (with_reducible first | exact HB.out | apply ba_ | apply bn_ | apply b1_ | refine below_set ?_ GE282.out) | exact HB.out)⟩
         ·rw [if_neg c13] at H
          exact absurd H (by simp)
        ·rw [if_neg c12] at H
         exact absurd H (by simp)
       ·rw [if_neg c11] at H
        have c11b0 : decide (x19_2 < (y273.length : Int)) = false := decide_eq_false c11
        clear c11
        replace H := Option.bind_eq_some_iff.mp H
        obtain ⟨t277, A370, H⟩ := H
        replace H : (if t277 = true then ((impl_order.f k2 l0).bind fun t278 => (some ((t278.length : Int) == (l0.length : Int)))) else (some false)) = some r := H
        have A37 := Aside0.mk A370
        clear A370
        by_cases c38 : t277 = true
        ·subst c38
         have H1 : ((impl_order.f k2 l0).bind fun t278 => (some ((t278.length : Int) == (l0.length : Int)))) = some r := by rw [if_pos rfl] at H; exact H
         clear H
         have H := H1
         clear H1
         replace H := Option.bind_eq_some_iff.mp H
         obtain ⟨t278, A390, H⟩ := H
         replace H : (some ((t278.length : Int) == (l0.length : Int))) = some r := H
         have A39 := Aside0.mk A390
         clear A390
         obtain rfl := Option.some.inj H
         go_wp2_with (first | ((with_reducible refine gate_callee (f := 66) rfl ?_); refine goesL_ (some 47) rfl rfl Try.func66 (by kernel_rfl) rfl #[.slice A0 l0.length c0] rfl (by (try simp only [List.map_toArray, List.map_cons, List.map_nil]); first | done | rfl | (simp only [List.length_drop, List.length_take]; rfl)) ?_; (with_reducible refine (impl_kidsOk.calls k2 _ _ l0 true _ ?side1 ?side2 A37.out).mono ?_); (case side1 => repeat (first | exact (Kd.C_below HR0.out HB.out) | (with_reducible refine ca_ ?_ _) | (with_reducible refine cn_ ?_ _) | (with_reducible refine cd_ ?_))); (case side2 => exact HC0.out); rintro e w40 ⟨rfl, hb⟩; refine ⟨_, rfl, ?_⟩; have n0_ := Aside0.mk (below_step (by repeat (first | (with_reducible first | exact HB.out | apply ba_ | apply bn_ | apply b1_) | exact HB.out)) hb); clear HB; have HB := n0_; clear n0_; (try clear hb); (try clear hb2); (try clear hk); (try clear hi)) | (go_at_call 67; (with_reducible refine (impl_order.calls k2 _ _ l0 t278 _ ?side1 ?side2 A39.out).mono ?_); (case side1 => repeat (first | exact (Kd.C_below HR0.out HB.out) | (with_reducible refine ca_ ?_ _) | (with_reducible refine cn_ ?_ _) | (with_reducible refine cd_ ?_))); (case side2 => exact HC0.out); rintro e w41 ⟨v279, rfl, ho0, hb⟩; have n0_ := Aside0.mk (Kd.R_lower ho0 (below_size (by repeat (first | (with_reducible first | exact HB.out | apply ba_ | apply bn_ | apply b1_) | exact HB.out)))); have n1_ := Aside0.mk (below_step (by repeat (first | (with_reducible first | exact HB.out | apply ba_ | apply bn_ | apply b1_) | exact HB.out)) hb); clear HB; have HO280 := n0_; have HB := n1_; clear n0_ n1_; (try clear hb); (try clear hb2); (try clear hk); (try clear hi); (try clear ho0); obtain ⟨Ao42, co42, eo42⟩ := Kd.R_slice HO280.out; subst eo42))
         go_ret
         exact ⟨by first | rfl | (simp [errW_none, errW_some] <;> rfl) | (simp [*, errW_none, errW_some] <;> rfl), by repeat (first | (with_reducible first | exact HB.out | apply ba_ | apply bn_ | apply b1_) | exact HB.out)⟩
        ·replace c38 := Bool.eq_false_iff.mpr c38
         subst c38
         have H1 : (some false) = some r := by rw [if_neg (show ¬ (false = true) by decide)] at H; exact H
         clear H
         have H := H1
         clear H1
         obtain rfl := Option.some.inj H
         go_wp2_with (first | ((with_reducible refine gate_callee (f := 66) rfl ?_); refine goesL_ (some 47) rfl rfl Try.func66 (by kernel_rfl) rfl #[.slice A0 l0.length c0] rfl (by (try simp only [List.map_toArray, List.map_cons, List.map_nil]); first | done | rfl | (simp only [List.length_drop, List.length_take]; rfl)) ?_; (with_reducible refine (impl_kidsOk.calls k2 _ _ l0 false _ ?side1 ?side2 A37.out).mono ?_); (case side1 => repeat (first | exact (Kd.C_below HR0.out HB.out) | (with_reducible refine ca_ ?_ _) | (with_reducible refine cn_ ?_ _) | (with_reducible refine cd_ ?_))); (case side2 => exact HC0.out); rintro e w43 ⟨rfl, hb⟩; refine ⟨_, rfl, ?_⟩; have n0_ := Aside0.mk (below_step (by repeat (first | (with_reducible first | exact HB.out | apply ba_ | apply bn_ | apply b1_) | exact HB.out)) hb); clear HB; have HB := n0_; clear n0_; (try clear hb); (try clear hb2); (try clear hk); (try clear hi)))
         go_ret
         exact ⟨by first | rfl | (simp [errW_none, errW_some] <;> rfl) | (simp [*, errW_none, errW_some] <;> rfl), by repeat (first | (with_reducible first | exact HB.out | apply ba_ | apply bn_ | apply b1_) | exact HB.out)⟩
    ·rw [if_neg c9] at H
     exact absurd H (by simp)
def slices_Index_int_int.l0 : Nat → List Int → Int → Int → Int → Option (Int)
 | 0, _, _, _, _ => none
 | k + 1, x0, x1, x7, x8 => if x8 < x7 then (if 0 ≤ x8 then (if x8 < (x0.length : Int) then (if x1 = (rd x0 x8) then (some x8) else (slices_Index_int_int.l0 k x0 x1 x7 (wrap64 (x8 + 1)))) else (none)) else (none)) else (some (-1))
def slices_Index_int_int.f (k : Nat) (l0 : List Int) (a1 : Int) : Option (Int) := slices_Index_int_int.l0 k l0 a1 (l0.length : Int) 0
theorem slices_Index_int_int.mono_l : ∀ k, (∀ y0 y1 y2 y3, LeO (slices_Index_int_int.l0 k y0 y1 y2 y3) (slices_Index_int_int.l0 (k + 1) y0 y1 y2 y3))
 | 0 => fun _ _ _ _ r h => by simp [slices_Index_int_int.l0] at h
 | k + 1 => by
  have ih0 := slices_Index_int_int.mono_l k
  ·intro y0 y1 y2 y3
   unfold slices_Index_int_int.l0
   repeat' first
   | (with_reducible exact ih0 _ _ _ _)
   | (with_reducible exact LeO.refl _)
   | (with_reducible exact LeO.none _)
   | (with_reducible refine LeO.ite ?_ ?_)
   | (with_reducible refine LeO.bind ?_ (fun _ => ?_))
theorem slices_Index_int_int.mono : ∀ a0 a1 k, LeO (slices_Index_int_int.f k a0 a1) (slices_Index_int_int.f (k + 1) a0 a1) := by
 intro a0 a1 k
 have ih0 := slices_Index_int_int.mono_l k
 unfold slices_Index_int_int.f
 repeat' first
   | (with_reducible exact ih0 _ _ _ _)
   | (with_reducible exact LeO.refl _)
   | (with_reducible exact LeO.none _)
   | (with_reducible refine LeO.ite ?_ ?_)
   | (with_reducible refine LeO.bind ?_ (fun _ => ?_))
set_option maxHeartbeats 8000000 in
set_option maxRecDepth 100000 in
theorem slices_Index_int_int.calls (k : Nat) (A0 : Option Addr) (c0 : Nat) (l0 : List Int) (a1 : Int) (r : Int) (w : World) (hr0 : Kd.C (Kd.int .i64) w A0 l0.length l0) (hc0 : l0.length ≤ c0) (h : slices_Index_int_int.f k l0 a1 = some r) :
  Calls Try.prog 45 #[.slice A0 l0.length c0, .int .i64 a1] w fun e w' => e = .returned (.int .i64 r) ∧ Drawn0 w w' := by
 have HR0 := Aside0.mk hr0
 have HC0 := Aside0.mk hc0
 clear hr0 hc0
 have H : (slices_Index_int_int.l0 k l0 a1 (l0.length : Int) 0) = some r := h
 clear h
 have H' := Aside0.mk H
 clear H
 go_enter Try.func45, Try.ntmps45
 go_wp2
 go_loopg [8] k (fun kq v8 w' => ∃ (x8_1 : Int), v8 = .int .i64 x8_1 ∧ Aside0 (slices_Index_int_int.l0 kq l0 a1 (l0.length : Int) x8_1 = some r) ∧ Aside0 (kq ≤ k) ∧ Drawn0 w w')
 case atStart => exact ⟨(0), (by first | rfl | (simp; done) | (simp [*]; done)), H', ⟨Nat.le_refl _⟩, by repeat (first | exact Drawn0.refl _ | apply Drawn0.step)⟩
 case round =>
  clear H'
  try clear p2
  obtain ⟨x8_1, rfl, HA, HK1, ⟨m1, rfl⟩⟩ := hrel
  cases gk with
  | zero => exact absurd HA.out (by simp [slices_Index_int_int.l0])
  | succ k1 =>
   have H := HA.out
   clear HA
   simp only [slices_Index_int_int.l0] at H
   by_cases c3 : x8_1 < (l0.length : Int)
   ·rw [if_pos c3] at H
    have c3b0 : decide (x8_1 < (l0.length : Int)) = true := decide_eq_true c3
    clear c3
    by_cases c4 : 0 ≤ x8_1
    ·rw [if_pos c4] at H
     have c4b0 : decide (0 ≤ x8_1) = true := decide_eq_true c4
     clear c4
     by_cases c5 : x8_1 < (l0.length : Int)
     ·rw [if_pos c5] at H
      have c5b0 : decide (x8_1 < (l0.length : Int)) = true := decide_eq_true c5
      clear c5
      by_cases c6 : a1 = (rd l0 x8_1)
      ·rw [if_pos c6] at H
       have c6b0 : (a1 == (rd l0 x8_1)) = true := beq_iff_eq.mpr c6
       have c6b1 : (a1 != (rd l0 x8_1)) = false := bne_eq_false_iff_eq.mpr c6
       clear c6
       obtain rfl := Option.some.inj H
       have p287 : 0 ≤ (x8_1 : Int) := of_decide_eq_true (by first | (with_reducible assumption) | assumption)
       have q287 : x8_1 < (l0.length : Int) := of_decide_eq_true (by first | (with_reducible assumption) | assumption)
       obtain ⟨ad287, e287, hx287_0⟩ := Kd.at_int HR0.out x8_1 p287 q287
       cases e287
       replace p287 := eq_true p287
       replace q287 := eq_true q287
       go_wp2
       go_ret
       exact ⟨by first | rfl | (simp; done) | (simp [*]; done), by repeat (first | exact Drawn0.refl _ | apply Drawn0.step)⟩
      ·rw [if_neg c6] at H
       have c6b0 : (a1 == (rd l0 x8_1)) = false := beq_eq_false_iff_ne.mpr c6
       have c6b1 : (a1 != (rd l0 x8_1)) = true := bne_iff_ne.mpr c6
       have H' := Aside0.mk H
       clear H
       have p287 : 0 ≤ (x8_1 : Int) := of_decide_eq_true (by first | (with_reducible assumption) | assumption)
       have q287 : x8_1 < (l0.length : Int) := of_decide_eq_true (by first | (with_reducible assumption) | assumption)
       obtain ⟨ad287, e287, hx287_0⟩ := Kd.at_int HR0.out x8_1 p287 q287
       cases e287
       replace p287 := eq_true p287
       replace q287 := eq_true q287
       go_wp2
       go_roundg k1
       case measure => have := HK1.out; omega
       case rel => exact ⟨(wrap64 (x8_1 + 1)), (by first | rfl | (simp; done) | (simp [*]; done)), H', ⟨by have := HK1.out; omega⟩, by repeat (first | exact Drawn0.refl _ | apply Drawn0.step)⟩
     ·rw [if_neg c5] at H
      exact absurd H (by simp)
    ·rw [if_neg c4] at H
     exact absurd H (by simp)
   ·rw [if_neg c3] at H
    have c3b0 : decide (x8_1 < (l0.length : Int)) = false := decide_eq_false c3
    clear c3
    obtain rfl := Option.some.inj H
    go_wp2
    go_ret
    exact ⟨by first | rfl | (simp; done) | (simp [*]; done), by repeat (first | exact Drawn0.refl _ | apply Drawn0.step)⟩
def MaxSeen (w : World) : Prop := ∃ m : Int, w.cell? ⟨0, 0, none⟩ = some (.int .i64 m)
theorem MaxSeen.below {w w1 : World} (h : MaxSeen w) (hb : Below w.heap.size w w1) : MaxSeen w1 := by
 obtain ⟨m, hm⟩ := h
 exact ⟨m, pw_cell_below hb hm⟩
theorem MaxSeen.of_shaped {w : World} (h : w.ShapedOpen Try.prog) : MaxSeen w := Try.laysM144.s1_3 w h
def strings_Contains.f (a0 : ByteArray) (a1 : ByteArray) : Option (Bool) := if a0.size < 4294967281 then some (Lib.contains a0.data.toList a1.data.toList) else none
theorem strings_Contains.calls (a0 : ByteArray) (a1 : ByteArray) (r : Bool) (w : World) (hG : MaxSeen w) (h : strings_Contains.f a0 a1 = some r) :
  Calls Try.prog 93 #[.string a0, .string a1] w fun e w' => e = .returned (.bool r) ∧ Below w.heap.size w w' := by
 unfold strings_Contains.f at h
 split at h
 ·rename_i hs
  obtain ⟨m, hm⟩ := hG
  refine (Try.strings_Contains a0 a1 m w hs hm).mono ?_
  rintro e w' ⟨rfl, rfl⟩
  exact ⟨by rw [Option.some.inj h], Below.refl _ _⟩
 ·cases h
def impl_isOneOf.f (a0 : ByteArray) (a1 : ByteArray) : Option (Bool) := if a0.toList = ([] : List UInt8) then (some false) else ((strings_Contains.f a0 (⟨#[32]⟩ : ByteArray)).bind fun t288 => (if t288 = true then (some false) else (if 1 + a1.size ≤ 9223372036854775807 then (if 1 + a1.size + 1 ≤ 9223372036854775807 then (if 1 + a0.size ≤ 9223372036854775807 then (if 1 + a0.size + 1 ≤ 9223372036854775807 then ((strings_Contains.f (((⟨#[32]⟩ : ByteArray) ++ a1) ++ (⟨#[32]⟩ : ByteArray)) (((⟨#[32]⟩ : ByteArray) ++ a0) ++ (⟨#[32]⟩ : ByteArray))).bind fun t289 => (some t289)) else (none)) else (none)) else (none)) else (none))))
set_option maxHeartbeats 8000000 in
set_option maxRecDepth 100000 in
theorem impl_isOneOf.calls (a0 : ByteArray) (a1 : ByteArray) (r : Bool) (w : World) (hG : MaxSeen w) (h : impl_isOneOf.f a0 a1 = some r) :
  Calls Try.prog 87 #[.string a0, .string a1] w fun e w' => e = .returned (.bool r) ∧ Below w.heap.size w w' := by
 have HB := Aside0.mk (Below.refl w.heap.size w)
 have HG := Aside0.mk hG
 clear hG
 have H : (if a0.toList = ([] : List UInt8) then (some false) else ((strings_Contains.f a0 (⟨#[32]⟩ : ByteArray)).bind fun t288 => (if t288 = true then (some false) else (if 1 + a1.size ≤ 9223372036854775807 then (if 1 + a1.size + 1 ≤ 9223372036854775807 then (if 1 + a0.size ≤ 9223372036854775807 then (if 1 + a0.size + 1 ≤ 9223372036854775807 then ((strings_Contains.f (((⟨#[32]⟩ : ByteArray) ++ a1) ++ (⟨#[32]⟩ : ByteArray)) (((⟨#[32]⟩ : ByteArray) ++ a0) ++ (⟨#[32]⟩ : ByteArray))).bind fun t289 => (some t289)) else (none)) else (none)) else (none)) else (none))))) = some r := h
 clear h
 by_cases c3 : a0.toList = ([] : List UInt8)
 ·rw [if_pos c3] at H
  have c3b0 : (a0.toList == ([] : List UInt8)) = true := beq_iff_eq.mpr c3
  have c3b1 : (a0.toList != ([] : List UInt8)) = false := bne_eq_false_iff_eq.mpr c3
  clear c3
  obtain rfl := Option.some.inj H
  go_enter Try.func87, Try.ntmps87
  go_wp2
  go_ret
  exact ⟨by first | rfl | (simp [errW_none, errW_some] <;> rfl) | (simp [*, errW_none, errW_some] <;> rfl), by repeat (first | (with_reducible first | exact HB.out | apply ba_ | apply bn_ | apply b1_) | exact HB.out)⟩
 ·rw [if_neg c3] at H
  have c3b0 : (a0.toList == ([] : List UInt8)) = false := beq_eq_false_iff_ne.mpr c3
  have c3b1 : (a0.toList != ([] : List UInt8)) = true := bne_iff_ne.mpr c3
  replace H := Option.bind_eq_some_iff.mp H
  obtain ⟨t288, A40, H⟩ := H
  replace H : (if t288 = true then (some false) else (if 1 + a1.size ≤ 9223372036854775807 then (if 1 + a1.size + 1 ≤ 9223372036854775807 then (if 1 + a0.size ≤ 9223372036854775807 then (if 1 + a0.size + 1 ≤ 9223372036854775807 then ((strings_Contains.f (((⟨#[32]⟩ : ByteArray) ++ a1) ++ (⟨#[32]⟩ : ByteArray)) (((⟨#[32]⟩ : ByteArray) ++ a0) ++ (⟨#[32]⟩ : ByteArray))).bind fun t289 => (some t289)) else (none)) else (none)) else (none)) else (none))) = some r := H
  have A4 := Aside0.mk A40
  clear A40
  by_cases c5 : t288 = true
  ·subst c5
   have H1 : (some false) = some r := by rw [if_pos rfl] at H; exact H
   clear H
   have H := H1
   clear H1
   obtain rfl := Option.some.inj H
   go_enter Try.func87, Try.ntmps87
   go_wp2_with (first | (go_at_call 93; (with_reducible refine (strings_Contains.calls a0 (⟨#[32]⟩ : ByteArray) true _ ?side1 A4.out).mono ?_); (case side1 => exact MaxSeen.below HG.out (by repeat (first | (with_reducible first | exact HB.out | apply ba_ | apply bn_ | apply b1_) | exact HB.out))); rintro e w6 ⟨rfl, hb⟩; have n0_ := Aside0.mk (below_step (by repeat (first | (with_reducible first | exact HB.out | apply ba_ | apply bn_ | apply b1_) | exact HB.out)) hb); clear HB; have HB := n0_; clear n0_; (try clear hb); (try clear hb2); (try clear hk); (try clear hi)))
   go_ret
   exact ⟨by first | rfl | (simp [errW_none, errW_some] <;> rfl) | (simp [*, errW_none, errW_some] <;> rfl), by repeat (first | (with_reducible first | exact HB.out | apply ba_ | apply bn_ | apply b1_) | exact HB.out)⟩
  ·replace c5 := Bool.eq_false_iff.mpr c5
   subst c5
   have H1 : (if 1 + a1.size ≤ 9223372036854775807 then (if 1 + a1.size + 1 ≤ 9223372036854775807 then (if 1 + a0.size ≤ 9223372036854775807 then (if 1 + a0.size + 1 ≤ 9223372036854775807 then ((strings_Contains.f (((⟨#[32]⟩ : ByteArray) ++ a1) ++ (⟨#[32]⟩ : ByteArray)) (((⟨#[32]⟩ : ByteArray) ++ a0) ++ (⟨#[32]⟩ : ByteArray))).bind fun t289 => (some t289)) else (none)) else (none)) else (none)) else (none)) = some r := by rw [if_neg (show ¬ (false = true) by decide)] at H; exact H
   clear H
   have H := H1
   clear H1
   by_cases c7 : 1 + a1.size ≤ 9223372036854775807
   ·rw [if_pos c7] at H
    have c7b0 := eq_true c7
    have c7b1 : decide (1 + a1.size ≤ 9223372036854775807) = true := decide_eq_true c7
    try have c7b2 : (9223372036854775807 < 1 + a1.size) = False := eq_false (Nat.not_lt.2 c7)
    by_cases c8 : 1 + a1.size + 1 ≤ 9223372036854775807
    ·rw [if_pos c8] at H
     have c8b0 := eq_true c8
     have c8b1 : decide (1 + a1.size + 1 ≤ 9223372036854775807) = true := decide_eq_true c8
     try have c8b2 : (9223372036854775807 < 1 + a1.size + 1) = False := eq_false (Nat.not_lt.2 c8)
     by_cases c9 : 1 + a0.size ≤ 9223372036854775807
     ·rw [if_pos c9] at H
      have c9b0 := eq_true c9
      have c9b1 : decide (1 + a0.size ≤ 9223372036854775807) = true := decide_eq_true c9
      try have c9b2 : (9223372036854775807 < 1 + a0.size) = False := eq_false (Nat.not_lt.2 c9)
      by_cases c10 : 1 + a0.size + 1 ≤ 9223372036854775807
      ·rw [if_pos c10] at H
       have c10b0 := eq_true c10
       have c10b1 : decide (1 + a0.size + 1 ≤ 9223372036854775807) = true := decide_eq_true c10
       try have c10b2 : (9223372036854775807 < 1 + a0.size + 1) = False := eq_false (Nat.not_lt.2 c10)
       replace H := Option.bind_eq_some_iff.mp H
       obtain ⟨t289, A110, H⟩ := H
       replace H : (some t289) = some r := H
       have A11 := Aside0.mk A110
       clear A110
       obtain rfl := Option.some.inj H
       go_enter Try.func87, Try.ntmps87
       go_wp2_with (first | (go_at_call 93; (with_reducible refine (strings_Contains.calls a0 (⟨#[32]⟩ : ByteArray) false _ ?side1 A4.out).mono ?_); (case side1 => exact MaxSeen.below HG.out (by repeat (first | (with_reducible first | exact HB.out | apply ba_ | apply bn_ | apply b1_) | exact HB.out))); rintro e w12 ⟨rfl, hb⟩; have n0_ := Aside0.mk (below_step (by repeat (first | (with_reducible first | exact HB.out | apply ba_ | apply bn_ | apply b1_) | exact HB.out)) hb); clear HB; have HB := n0_; clear n0_; (try clear hb); (try clear hb2); (try clear hk); (try clear hi)) | ((with_reducible refine gate_callee (f := 93) rfl ?_); refine goesL_ (some 17) rfl rfl Try.func93 (by kernel_rfl) rfl #[.string (((⟨#[32]⟩ : ByteArray) ++ a1) ++ (⟨#[32]⟩ : ByteArray)), .string (((⟨#[32]⟩ : ByteArray) ++ a0) ++ (⟨#[32]⟩ : ByteArray))] rfl (by (try simp only [List.map_toArray, List.map_cons, List.map_nil]); first | done | rfl | (simp only [List.length_drop, List.length_take]; rfl)) ?_; (with_reducible refine (strings_Contains.calls (((⟨#[32]⟩ : ByteArray) ++ a1) ++ (⟨#[32]⟩ : ByteArray)) (((⟨#[32]⟩ : ByteArray) ++ a0) ++ (⟨#[32]⟩ : ByteArray)) t289 _ ?side1 A11.out).mono ?_); (case side1 => exact MaxSeen.below HG.out (by repeat (first | (with_reducible first | exact HB.out | apply ba_ | apply bn_ | apply b1_) | exact HB.out))); rintro e w13 ⟨rfl, hb⟩; refine ⟨_, rfl, ?_⟩; have n0_ := Aside0.mk (below_step (by repeat (first | (with_reducible first | exact HB.out | apply ba_ | apply bn_ | apply b1_) | exact HB.out)) hb); clear HB; have HB := n0_; clear n0_; (try clear hb); (try clear hb2); (try clear hk); (try clear hi)))
       go_ret
       exact ⟨by first | rfl | (simp [errW_none, errW_some] <;> rfl) | (simp [*, errW_none, errW_some] <;> rfl), by repeat (first | (with_reducible first | exact HB.out | apply ba_ | apply bn_ | apply b1_) | exact HB.out)⟩
      ·rw [if_neg c10] at H
       exact absurd H (by simp)
     ·rw [if_neg c9] at H
      exact absurd H (by simp)
    ·rw [if_neg c8] at H
     exact absurd H (by simp)
   ·rw [if_neg c7] at H
    exact absurd H (by simp)
def impl_Format.f (a0 : ByteArray) : Option (Bool) := (impl_isOneOf.f a0 (⟨#[97, 32, 98, 32, 105, 32, 117, 32, 101, 109, 32, 115, 116, 114, 111, 110, 103, 32, 99, 111, 100, 101, 32, 115, 109, 97, 108, 108]⟩ : ByteArray)).bind fun t290 => (some t290)
set_option maxHeartbeats 8000000 in
set_option maxRecDepth 100000 in
theorem impl_Format.calls (a0 : ByteArray) (r : Bool) (w : World) (hG : MaxSeen w) (h : impl_Format.f a0 = some r) :
  Calls Try.prog 74 #[.string a0] w fun e w' => e = .returned (.bool r) ∧ Below w.heap.size w w' := by
 have HB := Aside0.mk (Below.refl w.heap.size w)
 have HG := Aside0.mk hG
 clear hG
 have H : ((impl_isOneOf.f a0 (⟨#[97, 32, 98, 32, 105, 32, 117, 32, 101, 109, 32, 115, 116, 114, 111, 110, 103, 32, 99, 111, 100, 101, 32, 115, 109, 97, 108, 108]⟩ : ByteArray)).bind fun t290 => (some t290)) = some r := h
 clear h
 replace H := Option.bind_eq_some_iff.mp H
 obtain ⟨t290, A20, H⟩ := H
 replace H : (some t290) = some r := H
 have A2 := Aside0.mk A20
 clear A20
 obtain rfl := Option.some.inj H
 go_enter Try.func74, Try.ntmps74
 go_wp2_with (first | ((with_reducible refine gate_callee (f := 87) rfl ?_); refine goesL_ (some 4) rfl rfl Try.func87 (by kernel_rfl) rfl #[.string a0, .string (⟨#[97, 32, 98, 32, 105, 32, 117, 32, 101, 109, 32, 115, 116, 114, 111, 110, 103, 32, 99, 111, 100, 101, 32, 115, 109, 97, 108, 108]⟩ : ByteArray)] rfl (by (try simp only [List.map_toArray, List.map_cons, List.map_nil]); first | done | rfl | (simp only [List.length_drop, List.length_take]; rfl)) ?_; (with_reducible refine (impl_isOneOf.calls a0 (⟨#[97, 32, 98, 32, 105, 32, 117, 32, 101, 109, 32, 115, 116, 114, 111, 110, 103, 32, 99, 111, 100, 101, 32, 115, 109, 97, 108, 108]⟩ : ByteArray) t290 _ ?side1 A2.out).mono ?_); (case side1 => exact MaxSeen.below HG.out (by repeat (first | (with_reducible first | exact HB.out | apply ba_ | apply bn_ | apply b1_) | exact HB.out))); rintro e w3 ⟨rfl, hb⟩; refine ⟨_, rfl, ?_⟩; have n0_ := Aside0.mk (below_step (by repeat (first | (with_reducible first | exact HB.out | apply ba_ | apply bn_ | apply b1_) | exact HB.out)) hb); clear HB; have HB := n0_; clear n0_; (try clear hb); (try clear hb2); (try clear hk); (try clear hi)))
 go_ret
 exact ⟨by first | rfl | (simp [errW_none, errW_some] <;> rfl) | (simp [*, errW_none, errW_some] <;> rfl), by repeat (first | (with_reducible first | exact HB.out | apply ba_ | apply bn_ | apply b1_) | exact HB.out)⟩
end Go.Proofs.Ytbgedpicfllclaa.PFnExactPageOk
