-- Written by this session's program wip/slim.py: the print's texts (with contracts of our own), only what this row needs, shortened. Lean checks it.
import Derived.Test.YtbgedpicfllclaaSFnExactTextsx0
import Derived.Test.YtbgedpicfllclaaSFnExactTextsx7
import Derived.Test.YtbgedpicfllclaaSFnExactTextsx8
namespace Go.Proofs.Ytbgedpicfllclaa.PFnExactTexts
open Go.RowKit Go.Proofs.YtbgedpicfllclaaW.PrintWords Go.Proofs.YtbgedpicfllclaaW.PrintLast Go.Proofs.YtbgedpicfllclaaW.PrintMore
attribute [local go_sem] max2_int min2_int max_two min_two max_three min_three max_four min_four   -- for this text's walks alone
set_option linter.unusedVariables false
set_option linter.unusedSimpArgs false
mutual
def impl_TreeOk.j0 : Nat → List (S44) → Bool → Option (Bool)
 | 0, _, _ => none
 | k + 1, x0, x15 => if x15 = true then (some false) else (if 1 ≤ (x0.length : Int) then ((some (x0.drop 1 : List (S44))).bind fun y265 => (impl_TreeOk.l0 k x0 y265 (y265.length : Int) 0)) else (none))
def impl_TreeOk.l0 : Nat → List (S44) → List (S44) → Int → Int → Option (Bool)
 | 0, _, _, _, _ => none
 | k + 1, x0, x17, x18, x19 => if x19 < x18 then (if 0 ≤ x19 then (if x19 < (x17.length : Int) then ((impl_itemOk.f k ((rd_T44 x17 x19).f0) ((rd_T44 x17 x19).f1) ((rd_T44 x17 x19).f2) ((rd_T44 x17 x19).f3) ((rd_T44 x17 x19).f4) ((rd_T44 x17 x19).f5) ((rd_T44 x17 x19).f6)).bind fun t275 => (if t275 = true then ((impl_inRange.f ((rd_T44 x17 x19).f5) 0 (wrap64 ((x0.length : Int) - 1))).bind fun t276 => (if t276 = true then (if 0 ≤ ((rd_T44 x17 x19).f5) then (if ((rd_T44 x17 x19).f5) < (x0.length : Int) then ((impl_hasKids.f ((rd_T44 x0 ((rd_T44 x17 x19).f5)).f0)).bind fun t278 => (if t278 = true then (impl_TreeOk.l0 k x0 x17 x18 (wrap64 (x19 + 1))) else (some false))) else (none)) else (none)) else (some false))) else (some false))) else (none)) else (none)) else ((impl_kidsOk.f k x0).bind fun t269 => (if t269 = true then ((impl_order.f k x0).bind fun t270 => (some ((t270.length : Int) == (x0.length : Int)))) else (some false)))
end
def impl_TreeOk.f (k : Nat) (l0 : List (S44)) : Option (Bool) := (impl_inRange.f (l0.length : Int) 1 3000).bind fun t262 => (if t262 = true then (if 0 < (l0.length : Int) then ((impl_pageOk.f ((rd_T44 l0 0).f0) ((rd_T44 l0 0).f1) ((rd_T44 l0 0).f2) ((rd_T44 l0 0).f3) ((rd_T44 l0 0).f4) ((rd_T44 l0 0).f5) ((rd_T44 l0 0).f6)).bind fun t264 => (impl_TreeOk.j0 k l0 (!t264))) else (none)) else (impl_TreeOk.j0 k l0 true))
theorem impl_TreeOk.mono_l : ∀ k, (∀ y0 y1, LeO (impl_TreeOk.j0 k y0 y1) (impl_TreeOk.j0 (k + 1) y0 y1)) ∧ (∀ y0 y1 y2 y3, LeO (impl_TreeOk.l0 k y0 y1 y2 y3) (impl_TreeOk.l0 (k + 1) y0 y1 y2 y3))
 | 0 => ⟨fun _ _ r h => by simp [impl_TreeOk.j0] at h, fun _ _ _ _ r h => by simp [impl_TreeOk.l0] at h⟩
 | k + 1 => by
  obtain ⟨ih0, ih1⟩ := impl_TreeOk.mono_l k
  refine ⟨?_, ?_⟩
  ·intro y0 y1
   unfold impl_TreeOk.j0
   repeat' first
   | (with_reducible exact ih0 _ _)
   | (with_reducible exact ih1 _ _ _ _)
   | (with_reducible exact impl_itemOk.mono _ _ _ _ _ _ _ _)
   | (with_reducible exact impl_kidsOk.mono _ _)
   | (with_reducible exact impl_order.mono _ _)
   | (with_reducible exact LeO.refl _)
   | (with_reducible exact LeO.none _)
   | (with_reducible refine LeO.ite ?_ ?_)
   | (with_reducible refine LeO.bind ?_ (fun _ => ?_))
   | exact ih0 _ _
   | exact ih1 _ _ _ _
   | exact impl_itemOk.mono _ _ _ _ _ _ _ _
   | exact impl_kidsOk.mono _ _
   | exact impl_order.mono _ _
   | exact LeO.none _
   | refine LeO.ite ?_ ?_
   | refine LeO.bind ?_ (fun _ => ?_)
  ·intro y0 y1 y2 y3
   unfold impl_TreeOk.l0
   repeat' first
   | (with_reducible exact ih0 _ _)
   | (with_reducible exact ih1 _ _ _ _)
   | (with_reducible exact impl_itemOk.mono _ _ _ _ _ _ _ _)
   | (with_reducible exact impl_kidsOk.mono _ _)
   | (with_reducible exact impl_order.mono _ _)
   | (with_reducible exact LeO.refl _)
   | (with_reducible exact LeO.none _)
   | (with_reducible refine LeO.ite ?_ ?_)
   | (with_reducible refine LeO.bind ?_ (fun _ => ?_))
   | exact ih0 _ _
   | exact ih1 _ _ _ _
   | exact impl_itemOk.mono _ _ _ _ _ _ _ _
   | exact impl_kidsOk.mono _ _
   | exact impl_order.mono _ _
   | exact LeO.none _
   | refine LeO.ite ?_ ?_
   | refine LeO.bind ?_ (fun _ => ?_)
theorem impl_TreeOk.mono : ∀ a0 k, LeO (impl_TreeOk.f k a0) (impl_TreeOk.f (k + 1) a0) := by
 intro a0 k
 obtain ⟨ih0, ih1⟩ := impl_TreeOk.mono_l k
 unfold impl_TreeOk.f
 repeat' first
   | (with_reducible exact ih0 _ _)
   | (with_reducible exact ih1 _ _ _ _)
   | (with_reducible exact impl_itemOk.mono _ _ _ _ _ _ _ _)
   | (with_reducible exact impl_kidsOk.mono _ _)
   | (with_reducible exact impl_order.mono _ _)
   | (with_reducible exact LeO.refl _)
   | (with_reducible exact LeO.none _)
   | (with_reducible refine LeO.ite ?_ ?_)
   | (with_reducible refine LeO.bind ?_ (fun _ => ?_))
   | exact ih0 _ _
   | exact ih1 _ _ _ _
   | exact impl_itemOk.mono _ _ _ _ _ _ _ _
   | exact impl_kidsOk.mono _ _
   | exact impl_order.mono _ _
   | exact LeO.none _
   | refine LeO.ite ?_ ?_
   | refine LeO.bind ?_ (fun _ => ?_)
set_option maxHeartbeats 8000000 in
set_option maxRecDepth 100000 in
theorem impl_TreeOk.calls (k : Nat) (A0 : Option Addr) (c0 : Nat) (l0 : List (S44)) (r : Bool) (w : World) (hr0 : Kd.C k44 w A0 l0.length l0) (hc0 : l0.length ≤ c0) (h : impl_TreeOk.f k l0 = some r) :
  Calls Try.prog 27 #[.slice A0 l0.length c0] w fun e w' => e = .returned (.bool r) ∧ Below w.heap.size w w' := by
 have hu44 := Try.underlying44
 have HR0 := Aside0.mk hr0
 have HC0 := Aside0.mk hc0
 clear hr0 hc0
 have HB := Aside0.mk (Below.refl w.heap.size w)
 have H : ((impl_inRange.f (l0.length : Int) 1 3000).bind fun t262 => (if t262 = true then (if 0 < (l0.length : Int) then ((impl_pageOk.f ((rd_T44 l0 0).f0) ((rd_T44 l0 0).f1) ((rd_T44 l0 0).f2) ((rd_T44 l0 0).f3) ((rd_T44 l0 0).f4) ((rd_T44 l0 0).f5) ((rd_T44 l0 0).f6)).bind fun t264 => (impl_TreeOk.j0 k l0 (!t264))) else (none)) else (impl_TreeOk.j0 k l0 true))) = some r := h
 clear h
 have HC2 := Aside0.mk H
 clear H
 go_enter Try.func27, Try.ntmps27
 go_upto_region 1 with (fail)
 go_cut [15] (fun v15 wc => ∃ (kq : Nat) (x15_1 : Bool), v15 = .bool x15_1 ∧ Aside0 (impl_TreeOk.j0 kq l0 x15_1 = some r) ∧ Aside0 (kq ≤ k) ∧ Aside0 (Below w.heap.size w wc))
 case first =>
  have H := HC2.out
  clear HC2
  replace H := Option.bind_eq_some_iff.mp H
  obtain ⟨t262, A30, H⟩ := H
  replace H : (if t262 = true then (if 0 < (l0.length : Int) then ((impl_pageOk.f ((rd_T44 l0 0).f0) ((rd_T44 l0 0).f1) ((rd_T44 l0 0).f2) ((rd_T44 l0 0).f3) ((rd_T44 l0 0).f4) ((rd_T44 l0 0).f5) ((rd_T44 l0 0).f6)).bind fun t264 => (impl_TreeOk.j0 k l0 (!t264))) else (none)) else (impl_TreeOk.j0 k l0 true)) = some r := H
  have A3 := Aside0.mk A30
  clear A30
  by_cases c4 : t262 = true
  ·subst c4
   have H1 : (if 0 < (l0.length : Int) then ((impl_pageOk.f ((rd_T44 l0 0).f0) ((rd_T44 l0 0).f1) ((rd_T44 l0 0).f2) ((rd_T44 l0 0).f3) ((rd_T44 l0 0).f4) ((rd_T44 l0 0).f5) ((rd_T44 l0 0).f6)).bind fun t264 => (impl_TreeOk.j0 k l0 (!t264))) else (none)) = some r := by rw [if_pos rfl] at H; exact H
   clear H
   have H := H1
   clear H1
   by_cases c5 : 0 < (l0.length : Int)
   ·rw [if_pos c5] at H
    have c5b0 : decide (0 < (l0.length : Int)) = true := decide_eq_true c5
    have c5b1 : decide (0 < l0.length) = true := decide_eq_true (by omega)
    clear c5
    (first | rw [c5b0] | (simp only [i64_w, i32_w]; rw [c5b0]) | skip)
    replace H := Option.bind_eq_some_iff.mp H
    obtain ⟨t264, A60, H⟩ := H
    replace H : (impl_TreeOk.j0 k l0 (!t264)) = some r := H
    have A6 := Aside0.mk A60
    clear A60
    have H' := Aside0.mk H
    clear H
    go_wp2_with (first | ((with_reducible refine gate_callee (f := 55) rfl ?_); refine goesL_ (some 7) rfl rfl Try.func55 (by kernel_rfl) rfl #[.int .i64 (l0.length : Int), .int .i64 1, .int .i64 3000] rfl (by (try simp only [List.map_toArray, List.map_cons, List.map_nil]); first | done | rfl | (simp only [List.length_drop, List.length_take]; rfl)) ?_; (with_reducible refine (impl_inRange.calls (l0.length : Int) 1 3000 true _ A3.out).mono ?_); rintro e w' ⟨rfl, ⟨nd, rfl⟩⟩; refine ⟨_, rfl, ?_⟩; have p263 : 0 ≤ (0 : Int) := (by omega); have q263 : 0 < (l0.length : Int) := of_decide_eq_true (by first | (with_reducible assumption) | assumption); obtain ⟨ad263, A263_3, c263_3, A263_6, c263_6, e263, hx263_0, hx263_1, hx263_2, hx263_3, hx263_4, hx263_5, hx263_6, hl263_3, hi263_3, hl263_6, hi263_6⟩ := at_T44 HR0.out 0 p263 q263; cases e263; have qi263 : (0 < l0.length) = True := eq_true (by omega); (try rw [show ((0 : Int)).toNat = 0 from rfl] at hx263_0); (try rw [show 0 * 7 = 0 from rfl] at hx263_0); (try rw [Addr.add_zero'] at hx263_0); (try rw [show ((0 : Int)).toNat = 0 from rfl] at hx263_1); (try rw [show 0 * 7 = 0 from rfl] at hx263_1); (try rw [Addr.add_zero'] at hx263_1); (try rw [show ((0 : Int)).toNat = 0 from rfl] at hx263_2); (try rw [show 0 * 7 = 0 from rfl] at hx263_2); (try rw [Addr.add_zero'] at hx263_2); (try rw [show ((0 : Int)).toNat = 0 from rfl] at hx263_3); (try rw [show 0 * 7 = 0 from rfl] at hx263_3); (try rw [Addr.add_zero'] at hx263_3); (try rw [show ((0 : Int)).toNat = 0 from rfl] at hx263_4); (try rw [show 0 * 7 = 0 from rfl] at hx263_4); (try rw [Addr.add_zero'] at hx263_4); (try rw [show ((0 : Int)).toNat = 0 from rfl] at hx263_5); (try rw [show 0 * 7 = 0 from rfl] at hx263_5); (try rw [Addr.add_zero'] at hx263_5); (try rw [show ((0 : Int)).toNat = 0 from rfl] at hx263_6); (try rw [show 0 * 7 = 0 from rfl] at hx263_6); (try rw [Addr.add_zero'] at hx263_6); replace hx263_0 := (HB.out.cell (World.block_lt_of_cell? w _ hx263_0)).trans hx263_0; replace hx263_1 := (HB.out.cell (World.block_lt_of_cell? w _ hx263_1)).trans hx263_1; replace hx263_2 := (HB.out.cell (World.block_lt_of_cell? w _ hx263_2)).trans hx263_2; replace hx263_3 := (HB.out.cell (World.block_lt_of_cell? w _ hx263_3)).trans hx263_3; replace hx263_4 := (HB.out.cell (World.block_lt_of_cell? w _ hx263_4)).trans hx263_4; replace hx263_5 := (HB.out.cell (World.block_lt_of_cell? w _ hx263_5)).trans hx263_5; replace hx263_6 := (HB.out.cell (World.block_lt_of_cell? w _ hx263_6)).trans hx263_6; have HR263_3 := Aside0.mk hi263_3; have HC263_3 := Aside0.mk hl263_3; clear hi263_3 hl263_3; have HR263_6 := Aside0.mk hi263_6; have HC263_6 := Aside0.mk hl263_6; clear hi263_6 hl263_6; replace p263 := eq_true p263; replace q263 := eq_true q263) | (go_at_call 65; (with_reducible refine (impl_pageOk.calls ((rd_T44 l0 0).f0) ((rd_T44 l0 0).f1) ((rd_T44 l0 0).f2) _ _ ((rd_T44 l0 0).f3) ((rd_T44 l0 0).f4) ((rd_T44 l0 0).f5) _ _ ((rd_T44 l0 0).f6) t264 _ ?side1 ?side2 ?side3 ?side4 A6.out).mono ?_); (case side1 => repeat (first | exact (Kd.C_below HR263_3.out (by repeat (first | (with_reducible first | exact HB.out | apply below_alloc | apply pw_below_drewN | apply below_drew1) | exact HB.out))) | (with_reducible refine Kd.C_alloc ?_ _) | (with_reducible refine Kd.C_drewN ?_ _) | (with_reducible refine Kd.C_drew ?_))); (case side2 => exact HC263_3.out); (case side3 => repeat (first | exact (Kd.C_below HR263_6.out (by repeat (first | (with_reducible first | exact HB.out | apply below_alloc | apply pw_below_drewN | apply below_drew1) | exact HB.out))) | (with_reducible refine Kd.C_alloc ?_ _) | (with_reducible refine Kd.C_drewN ?_ _) | (with_reducible refine Kd.C_drew ?_))); (case side4 => exact HC263_6.out); rintro e w7 ⟨rfl, hb⟩; have n0_ := Aside0.mk (below_step (by repeat (first | (with_reducible first | exact HB.out | apply below_alloc | apply pw_below_drewN | apply below_drew1) | exact HB.out)) hb); clear HB; have HB := n0_; clear n0_; (try clear hb); (try clear hb2); (try clear hk); (try clear hi)))
    go_meet
    case rel => exact ⟨_, (!t264), (by first | rfl | (simp; done) | (simp [*]; done)), H', ⟨by first | omega | exact Nat.le_refl _⟩, ⟨by repeat (first | (with_reducible first | exact HB.out | apply below_alloc | apply pw_below_drewN | apply below_drew1) | exact HB.out)⟩⟩
   ·rw [if_neg c5] at H
    exact absurd H (by simp)
  ·replace c4 := Bool.eq_false_iff.mpr c4
   subst c4
   have H1 : (impl_TreeOk.j0 k l0 true) = some r := by rw [if_neg (show ¬ (false = true) by decide)] at H; exact H
   clear H
   have H := H1
   clear H1
   have H' := Aside0.mk H
   clear H
   go_wp2_with (first | ((with_reducible refine gate_callee (f := 55) rfl ?_); refine goesL_ (some 7) rfl rfl Try.func55 (by kernel_rfl) rfl #[.int .i64 (l0.length : Int), .int .i64 1, .int .i64 3000] rfl (by (try simp only [List.map_toArray, List.map_cons, List.map_nil]); first | done | rfl | (simp only [List.length_drop, List.length_take]; rfl)) ?_; (with_reducible refine (impl_inRange.calls (l0.length : Int) 1 3000 false _ A3.out).mono ?_); rintro e w' ⟨rfl, ⟨nd, rfl⟩⟩; refine ⟨_, rfl, ?_⟩))
   go_meet
   case rel => exact ⟨_, (true), (by first | rfl | (simp; done) | (simp [*]; done)), H', ⟨by first | omega | exact Nat.le_refl _⟩, ⟨by repeat (first | (with_reducible first | exact HB.out | apply below_alloc | apply pw_below_drewN | apply below_drew1) | exact HB.out)⟩⟩
 case rest =>
  clear HC2
  try clear c2
  try clear p2
  try clear q2
  try clear hx2
  try clear qi2
  try clear c4
  try clear c5
  try clear c5b0
  try clear c5b1
  try clear hx263_0
  try clear hx263_1
  try clear hx263_2
  try clear hx263_3
  try clear hx263_4
  try clear hx263_5
  try clear hx263_6
  try clear p263
  try clear q263
  obtain ⟨kq, x15_1, rfl, HA, HJ1, HB⟩ := hcut
  cases kq with
  | zero => exact absurd HA.out (by simp [impl_TreeOk.j0])
  | succ kj1 =>
   have H := HA.out
   clear HA
   simp only [impl_TreeOk.j0] at H
   by_cases c8 : x15_1 = true
   ·subst c8
    have H1 : (some false) = some r := by rw [if_pos rfl] at H; exact H
    clear H
    have H := H1
    clear H1
    obtain rfl := Option.some.inj H
    go_wp2
    go_ret
    exact ⟨by first | rfl | (simp [errW_none, errW_some] <;> rfl) | (simp [*, errW_none, errW_some] <;> rfl), by repeat (first | (with_reducible first | exact HB.out | apply below_alloc | apply pw_below_drewN | apply below_drew1) | exact HB.out)⟩
   ·replace c8 := Bool.eq_false_iff.mpr c8
    subst c8
    have H1 : (if 1 ≤ (l0.length : Int) then ((some (l0.drop 1 : List (S44))).bind fun y265 => (impl_TreeOk.l0 kj1 l0 y265 (y265.length : Int) 0)) else (none)) = some r := by rw [if_neg (show ¬ (false = true) by decide)] at H; exact H
    clear H
    have H := H1
    clear H1
    by_cases c9 : 1 ≤ (l0.length : Int)
    ·rw [if_pos c9] at H
     have c9b0 := eq_true c9
     have c9b1 : decide (1 ≤ (l0.length : Int)) = true := decide_eq_true c9
     clear c9
     obtain ⟨y265, hy265⟩ : ∃ y_ : List (S44), y_ = (l0.drop 1) := ⟨_, rfl⟩
     replace H : (impl_TreeOk.l0 kj1 l0 y265 (y265.length : Int) 0) = some r := by first | (rw [hy265]; with_reducible exact H) | (have H2_ := (Option.bind_some _ _).symm.trans H; rw [hy265]; with_reducible exact H2_) | (have H2_ := (Option.bind_some _ _).symm.trans H; with_reducible exact H2_) | with_reducible exact H | (rw [hy265]; exact H) | exact H
     have Ny265 := Aside0.mk hy265
     clear hy265
     have H' := Aside0.mk H
     clear H
     have q10 : (1 : Int) ≤ ((l0.length : Int) : Int) := of_decide_eq_true (by first | (with_reducible assumption) | assumption)
     obtain ⟨i010, hi010, _, hsz10, _⟩ := info_parts info44
     have hroom10 : l0.length ≤ c0 := HC0.out
     have hC10 : Kd.C k44 _ A0 l0.length l0 := HR0.out
     have hcut10 := cut_from (P := Try.prog) 28 44 .i64 Try.underlying28 hi010 7 hsz10 A0 l0.length c0 1 (by omega) q10
     have hr10 := Kd.C_drop (m := (1 : Int).toNat) (c := c0) hC10 (by omega) hroom10
     obtain ⟨A10, hA10⟩ : ∃ A1, A1 = (if c0 = (1 : Int).toNat then A0 else (A0 : Option Addr).map (·.add ((1 : Int).toNat * 7))) := ⟨_, rfl⟩
     obtain ⟨c10, hc10⟩ : ∃ c1, c1 = c0 - (1 : Int).toNat := ⟨_, rfl⟩
     have hy10 : y265.length = l0.length - (1 : Int).toNat := (by rw [Ny265.out, List.length_drop] <;> omega)
     rw [show (l0).drop (1 : Int).toNat = y265 from Ny265.out.symm] at hr10
     replace hr10 : Kd.C k44 _ A10 y265.length y265 := (by rw [hA10]; exact hr10)
     rw [← hy10, ← hA10, ← hc10] at hcut10
     have HR268 := Aside0.mk hr10
     have HC268 := Aside0.mk (show y265.length ≤ c10 from by rw [hy10, hc10]; exact Nat.sub_le_sub_right hroom10 _)
     clear hr10 hC10 hroom10 hi010 hsz10 hc10
     have KY10 := Aside0.mk hy10
     have KA10 := Aside0.mk hA10
     clear hy10 hA10
     replace q10 := eq_true q10
     go_wp2
     go_loopg [19] kj1 (fun kq v19 w' => ∃ (x19_2 : Int), v19 = .int .i64 x19_2 ∧ Aside0 (impl_TreeOk.l0 kq l0 y265 (y265.length : Int) x19_2 = some r) ∧ Aside0 (kq ≤ kj1) ∧ Aside0 (Below w.heap.size w w'))
     case atStart => exact ⟨(0), (by first | rfl | (simp; done) | (simp [*]; done)), H', ⟨Nat.le_refl _⟩, ⟨by repeat (first | (with_reducible first | exact HB.out | apply below_alloc | apply pw_below_drewN | apply below_drew1) | exact HB.out)⟩⟩
     case round =>
      clear H'
      try clear c1
      try clear q1
      try clear c2
      try clear p2
      try clear q2
      try clear hx2
      try clear qi2
      try clear c4
      try clear c5
      try clear c5b0
      try clear c5b1
      try clear c8
      try clear c9
      try clear c9b0
      try clear c9b1
      try clear c10
      try clear q10
      try clear hx263_0
      try clear hx263_1
      try clear hx263_2
      try clear hx263_3
      try clear hx263_4
      try clear hx263_5
      try clear hx263_6
      try clear p2
      try clear p263
      try clear q10
      try clear q2
      try clear q263
      obtain ⟨x19_2, rfl, HA, HK2, HB⟩ := hrel
      cases gk with
      | zero => exact absurd HA.out (by simp [impl_TreeOk.l0])
      | succ k2 =>
       have H := HA.out
       clear HA
       simp only [impl_TreeOk.l0] at H
       by_cases c11 : x19_2 < (y265.length : Int)
       ·rw [if_pos c11] at H
        have c11b0 : decide (x19_2 < (y265.length : Int)) = true := decide_eq_true c11
        clear c11
        by_cases c12 : 0 ≤ x19_2
        ·rw [if_pos c12] at H
         have c12b0 : decide (0 ≤ x19_2) = true := decide_eq_true c12
         clear c12
         by_cases c13 : x19_2 < (y265.length : Int)
         ·rw [if_pos c13] at H
          have c13b0 : decide (x19_2 < (y265.length : Int)) = true := decide_eq_true c13
          clear c13
          replace H := Option.bind_eq_some_iff.mp H
          obtain ⟨t275, A140, H⟩ := H
          replace H : (if t275 = true then ((impl_inRange.f ((rd_T44 y265 x19_2).f5) 0 (wrap64 ((l0.length : Int) - 1))).bind fun t276 => (if t276 = true then (if 0 ≤ ((rd_T44 y265 x19_2).f5) then (if ((rd_T44 y265 x19_2).f5) < (l0.length : Int) then ((impl_hasKids.f ((rd_T44 l0 ((rd_T44 y265 x19_2).f5)).f0)).bind fun t278 => (if t278 = true then (impl_TreeOk.l0 k2 l0 y265 (y265.length : Int) (wrap64 (x19_2 + 1))) else (some false))) else (none)) else (none)) else (some false))) else (some false)) = some r := H
          have A14 := Aside0.mk A140
          clear A140
          by_cases c15 : t275 = true
          ·subst c15
           have H1 : ((impl_inRange.f ((rd_T44 y265 x19_2).f5) 0 (wrap64 ((l0.length : Int) - 1))).bind fun t276 => (if t276 = true then (if 0 ≤ ((rd_T44 y265 x19_2).f5) then (if ((rd_T44 y265 x19_2).f5) < (l0.length : Int) then ((impl_hasKids.f ((rd_T44 l0 ((rd_T44 y265 x19_2).f5)).f0)).bind fun t278 => (if t278 = true then (impl_TreeOk.l0 k2 l0 y265 (y265.length : Int) (wrap64 (x19_2 + 1))) else (some false))) else (none)) else (none)) else (some false))) = some r := by rw [if_pos rfl] at H; exact H
           clear H
           have H := H1
           clear H1
           replace H := Option.bind_eq_some_iff.mp H
           obtain ⟨t276, A160, H⟩ := H
           replace H : (if t276 = true then (if 0 ≤ ((rd_T44 y265 x19_2).f5) then (if ((rd_T44 y265 x19_2).f5) < (l0.length : Int) then ((impl_hasKids.f ((rd_T44 l0 ((rd_T44 y265 x19_2).f5)).f0)).bind fun t278 => (if t278 = true then (impl_TreeOk.l0 k2 l0 y265 (y265.length : Int) (wrap64 (x19_2 + 1))) else (some false))) else (none)) else (none)) else (some false)) = some r := H
           have A16 := Aside0.mk A160
           clear A160
           by_cases c17 : t276 = true
           ·subst c17
            have H1 : (if 0 ≤ ((rd_T44 y265 x19_2).f5) then (if ((rd_T44 y265 x19_2).f5) < (l0.length : Int) then ((impl_hasKids.f ((rd_T44 l0 ((rd_T44 y265 x19_2).f5)).f0)).bind fun t278 => (if t278 = true then (impl_TreeOk.l0 k2 l0 y265 (y265.length : Int) (wrap64 (x19_2 + 1))) else (some false))) else (none)) else (none)) = some r := by rw [if_pos rfl] at H; exact H
            clear H
            have H := H1
            clear H1
            by_cases c18 : 0 ≤ ((rd_T44 y265 x19_2).f5)
            ·rw [if_pos c18] at H
             have c18b0 : decide (0 ≤ ((rd_T44 y265 x19_2).f5)) = true := decide_eq_true c18
             clear c18
             by_cases c19 : ((rd_T44 y265 x19_2).f5) < (l0.length : Int)
             ·rw [if_pos c19] at H
              have c19b0 : decide (((rd_T44 y265 x19_2).f5) < (l0.length : Int)) = true := decide_eq_true c19
              clear c19
              replace H := Option.bind_eq_some_iff.mp H
              obtain ⟨t278, A200, H⟩ := H
              replace H : (if t278 = true then (impl_TreeOk.l0 k2 l0 y265 (y265.length : Int) (wrap64 (x19_2 + 1))) else (some false)) = some r := H
              have A20 := Aside0.mk A200
              clear A200
              by_cases c21 : t278 = true
              ·subst c21
               have H1 : (impl_TreeOk.l0 k2 l0 y265 (y265.length : Int) (wrap64 (x19_2 + 1))) = some r := by rw [if_pos rfl] at H; exact H
               clear H
               have H := H1
               clear H1
               have H' := Aside0.mk H
               clear H
               have p273 : 0 ≤ (x19_2 : Int) := of_decide_eq_true (by first | (with_reducible assumption) | assumption)
               have q273 : x19_2 < (y265.length : Int) := of_decide_eq_true (by first | (with_reducible assumption) | assumption)
               obtain ⟨ad273, A273_3, c273_3, A273_6, c273_6, e273, hx273_0, hx273_1, hx273_2, hx273_3, hx273_4, hx273_5, hx273_6, hl273_3, hi273_3, hl273_6, hi273_6⟩ := at_T44 HR268.out x19_2 p273 q273
               cases e273
               replace hx273_0 := (HB.out.cell (World.block_lt_of_cell? w _ hx273_0)).trans hx273_0
               replace hx273_1 := (HB.out.cell (World.block_lt_of_cell? w _ hx273_1)).trans hx273_1
               replace hx273_2 := (HB.out.cell (World.block_lt_of_cell? w _ hx273_2)).trans hx273_2
               replace hx273_3 := (HB.out.cell (World.block_lt_of_cell? w _ hx273_3)).trans hx273_3
               replace hx273_4 := (HB.out.cell (World.block_lt_of_cell? w _ hx273_4)).trans hx273_4
               replace hx273_5 := (HB.out.cell (World.block_lt_of_cell? w _ hx273_5)).trans hx273_5
               replace hx273_6 := (HB.out.cell (World.block_lt_of_cell? w _ hx273_6)).trans hx273_6
               have HR273_3 := Aside0.mk hi273_3
               have HC273_3 := Aside0.mk hl273_3
               clear hi273_3 hl273_3
               have HR273_6 := Aside0.mk hi273_6
               have HC273_6 := Aside0.mk hl273_6
               clear hi273_6 hl273_6
               replace p273 := eq_true p273
               replace q273 := eq_true q273
               go_wp2_with (first | ((with_reducible refine gate_dst (N := 4) rfl ?_); (try (refine gate_guard (by rfl) ?_; dsimp only)); refine box_event ?hg (N := 4) ?hd (cs := #[.int .i64 0, .int .i64 0, .string (⟨#[]⟩ : ByteArray), .slice none 0 0, .string (⟨#[]⟩ : ByteArray), .int .i64 0, .slice none 0 0]) (t := 44) ?hr ?_; (case hd => rfl); (case hg => rfl); (case hr => first | (go_simp; done) | (go_simp; rfl)); intro gb274 hg w22 hbox hb; have n0_ := Aside0.mk (below_step (by repeat (first | (with_reducible first | exact HB.out | apply below_alloc | apply pw_below_drewN | apply below_drew1) | exact HB.out)) hb); have n1_ := Aside0.mk (hbox); have n2_ := Aside0.mk ((by rw [hg]; exact (below_size (by repeat (first | (with_reducible first | exact HB.out | apply below_alloc | apply pw_below_drewN | apply below_drew1) | exact HB.out))) : w.heap.size ≤ gb274)); have n3_ := Aside0.mk ((by rw [hg]; exact (below_size (by repeat (first | (with_reducible first | exact HB.out | apply below_alloc | apply pw_below_drewN | apply below_drew1) | exact HB.out))) : w.heap.size ≤ gb274)); clear HB; have HB := n0_; have BK274 := n1_; have GW274 := n2_; have GE274 := n3_; clear n0_ n1_ n2_ n3_; clear hb hbox hg; have hcz23_0 : w22.cell? ⟨gb274, 0, none⟩ = some (.int .i64 0) := (blk_cell BK274.out 0).trans rfl; have hcz23_1 : w22.cell? ⟨gb274, 1, none⟩ = some (.int .i64 0) := (blk_cell BK274.out 1).trans rfl; have hcz23_2 : w22.cell? ⟨gb274, 2, none⟩ = some (.string (⟨#[]⟩ : ByteArray)) := (blk_cell BK274.out 2).trans rfl; have hcz23_3 : w22.cell? ⟨gb274, 3, none⟩ = some (.slice none 0 0) := (blk_cell BK274.out 3).trans rfl; have hcz23_4 : w22.cell? ⟨gb274, 4, none⟩ = some (.string (⟨#[]⟩ : ByteArray)) := (blk_cell BK274.out 4).trans rfl; have hcz23_5 : w22.cell? ⟨gb274, 5, none⟩ = some (.int .i64 0) := (blk_cell BK274.out 5).trans rfl; have hcz23_6 : w22.cell? ⟨gb274, 6, none⟩ = some (.slice none 0 0) := (blk_cell BK274.out 6).trans rfl; have hfz23_0 := blk_frozen BK274.out 0; have hfz23_1 := blk_frozen BK274.out 1; have hfz23_2 := blk_frozen BK274.out 2; have hfz23_3 := blk_frozen BK274.out 3; have hfz23_4 := blk_frozen BK274.out 4; have hfz23_5 := blk_frozen BK274.out 5; have hfz23_6 := blk_frozen BK274.out 6) | ((with_reducible refine gate_callee (f := 54) rfl ?_); refine goesL_ (some 24) rfl rfl Try.func54 (by kernel_rfl) rfl #[.agg #[.int .i64 ((rd_T44 y265 x19_2).f0), .int .i64 ((rd_T44 y265 x19_2).f1), .string ((rd_T44 y265 x19_2).f2), .slice A273_3 ((rd_T44 y265 x19_2).f3).length c273_3, .string ((rd_T44 y265 x19_2).f4), .int .i64 ((rd_T44 y265 x19_2).f5), .slice A273_6 ((rd_T44 y265 x19_2).f6).length c273_6]] rfl (by (try simp only [List.map_toArray, List.map_cons, List.map_nil]); first | done | rfl | (simp only [List.length_drop, List.length_take]; rfl)) ?_; (with_reducible refine (impl_itemOk.calls k2 ((rd_T44 y265 x19_2).f0) ((rd_T44 y265 x19_2).f1) ((rd_T44 y265 x19_2).f2) _ _ ((rd_T44 y265 x19_2).f3) ((rd_T44 y265 x19_2).f4) ((rd_T44 y265 x19_2).f5) _ _ ((rd_T44 y265 x19_2).f6) true _ ?side1 ?side2 ?side3 ?side4 A14.out).mono ?_); (case side1 => exact Kd.C_below HR273_3.out (by repeat (first | (with_reducible first | exact HB.out | apply below_alloc | apply pw_below_drewN | apply below_drew1 | refine below_set ?_ GE274.out) | exact HB.out))); (case side2 => exact HC273_3.out); (case side3 => exact Kd.C_below HR273_6.out (by repeat (first | (with_reducible first | exact HB.out | apply below_alloc | apply pw_below_drewN | apply below_drew1 | refine below_set ?_ GE274.out) | exact HB.out))); (case side4 => exact HC273_6.out); rintro e w24 ⟨rfl, hb⟩; refine ⟨_, rfl, ?_⟩; have n0_ := Aside0.mk (blk_below (g := gb274) (o := .cells #[.int .i64 ((rd_T44 y265 x19_2).f0), .int .i64 ((rd_T44 y265 x19_2).f1), .string ((rd_T44 y265 x19_2).f2), .slice A273_3 ((rd_T44 y265 x19_2).f3).length c273_3, .string ((rd_T44 y265 x19_2).f4), .int .i64 ((rd_T44 y265 x19_2).f5), .slice A273_6 ((rd_T44 y265 x19_2).f6).length c273_6] 44 (0, 0)) (by (with_reducible repeat (first | refine blk_drewN ?_ _ | refine blk_drew ?_ | refine blk_alloc ?_ _)); refine blk_put (cs := #[.int .i64 ((rd_T44 y265 x19_2).f0), .int .i64 ((rd_T44 y265 x19_2).f1), .string ((rd_T44 y265 x19_2).f2), .slice A273_3 ((rd_T44 y265 x19_2).f3).length c273_3, .string ((rd_T44 y265 x19_2).f4), .int .i64 ((rd_T44 y265 x19_2).f5), .slice none 0 0]) ?_ 6 _ rfl; (with_reducible repeat (first | refine blk_drewN ?_ _ | refine blk_drew ?_ | refine blk_alloc ?_ _)); refine blk_put (cs := #[.int .i64 ((rd_T44 y265 x19_2).f0), .int .i64 ((rd_T44 y265 x19_2).f1), .string ((rd_T44 y265 x19_2).f2), .slice A273_3 ((rd_T44 y265 x19_2).f3).length c273_3, .string ((rd_T44 y265 x19_2).f4), .int .i64 0, .slice none 0 0]) ?_ 5 _ rfl; (with_reducible repeat (first | refine blk_drewN ?_ _ | refine blk_drew ?_ | refine blk_alloc ?_ _)); refine blk_put (cs := #[.int .i64 ((rd_T44 y265 x19_2).f0), .int .i64 ((rd_T44 y265 x19_2).f1), .string ((rd_T44 y265 x19_2).f2), .slice A273_3 ((rd_T44 y265 x19_2).f3).length c273_3, .string (⟨#[]⟩ : ByteArray), .int .i64 0, .slice none 0 0]) ?_ 4 _ rfl; (with_reducible repeat (first | refine blk_drewN ?_ _ | refine blk_drew ?_ | refine blk_alloc ?_ _)); refine blk_put (cs := #[.int .i64 ((rd_T44 y265 x19_2).f0), .int .i64 ((rd_T44 y265 x19_2).f1), .string ((rd_T44 y265 x19_2).f2), .slice none 0 0, .string (⟨#[]⟩ : ByteArray), .int .i64 0, .slice none 0 0]) ?_ 3 _ rfl; (with_reducible repeat (first | refine blk_drewN ?_ _ | refine blk_drew ?_ | refine blk_alloc ?_ _)); refine blk_put (cs := #[.int .i64 ((rd_T44 y265 x19_2).f0), .int .i64 ((rd_T44 y265 x19_2).f1), .string (⟨#[]⟩ : ByteArray), .slice none 0 0, .string (⟨#[]⟩ : ByteArray), .int .i64 0, .slice none 0 0]) ?_ 2 _ rfl; (with_reducible repeat (first | refine blk_drewN ?_ _ | refine blk_drew ?_ | refine blk_alloc ?_ _)); refine blk_put (cs := #[.int .i64 ((rd_T44 y265 x19_2).f0), .int .i64 0, .string (⟨#[]⟩ : ByteArray), .slice none 0 0, .string (⟨#[]⟩ : ByteArray), .int .i64 0, .slice none 0 0]) ?_ 1 _ rfl; (with_reducible repeat (first | refine blk_drewN ?_ _ | refine blk_drew ?_ | refine blk_alloc ?_ _)); refine blk_put (cs := #[.int .i64 0, .int .i64 0, .string (⟨#[]⟩ : ByteArray), .slice none 0 0, .string (⟨#[]⟩ : ByteArray), .int .i64 0, .slice none 0 0]) ?_ 0 _ rfl; (with_reducible repeat (first | refine blk_drewN ?_ _ | refine blk_drew ?_ | refine blk_alloc ?_ _)); exact BK274.out) hb); have n1_ := Aside0.mk (below_step (by repeat (first | (with_reducible first | exact HB.out | apply below_alloc | apply pw_below_drewN | apply below_drew1 | refine below_set ?_ GE274.out) | exact HB.out)) hb); clear BK274; clear HB; have BK274 := n0_; have HB := n1_; clear n0_ n1_; (try clear hb); (try clear hb2); (try clear hk); (try clear hi); have hcz25_0 : w24.cell? ⟨gb274, 0, none⟩ = some (.int .i64 ((rd_T44 y265 x19_2).f0)) := (blk_cell BK274.out 0).trans rfl; have hcz25_1 : w24.cell? ⟨gb274, 1, none⟩ = some (.int .i64 ((rd_T44 y265 x19_2).f1)) := (blk_cell BK274.out 1).trans rfl; have hcz25_2 : w24.cell? ⟨gb274, 2, none⟩ = some (.string ((rd_T44 y265 x19_2).f2)) := (blk_cell BK274.out 2).trans rfl; have hcz25_3 : w24.cell? ⟨gb274, 3, none⟩ = some (.slice A273_3 ((rd_T44 y265 x19_2).f3).length c273_3) := (blk_cell BK274.out 3).trans rfl; have hcz25_4 : w24.cell? ⟨gb274, 4, none⟩ = some (.string ((rd_T44 y265 x19_2).f4)) := (blk_cell BK274.out 4).trans rfl; have hcz25_5 : w24.cell? ⟨gb274, 5, none⟩ = some (.int .i64 ((rd_T44 y265 x19_2).f5)) := (blk_cell BK274.out 5).trans rfl; have hcz25_6 : w24.cell? ⟨gb274, 6, none⟩ = some (.slice A273_6 ((rd_T44 y265 x19_2).f6).length c273_6) := (blk_cell BK274.out 6).trans rfl; have hfz25_0 := blk_frozen BK274.out 0; have hfz25_1 := blk_frozen BK274.out 1; have hfz25_2 := blk_frozen BK274.out 2; have hfz25_3 := blk_frozen BK274.out 3; have hfz25_4 := blk_frozen BK274.out 4; have hfz25_5 := blk_frozen BK274.out 5; have hfz25_6 := blk_frozen BK274.out 6) | (go_at_call 55; (with_reducible refine (impl_inRange.calls ((rd_T44 y265 x19_2).f5) 0 (wrap64 ((l0.length : Int) - 1)) true _ A16.out).mono ?_); rintro e w' ⟨rfl, ⟨nd, rfl⟩⟩; have p277 : 0 ≤ (((rd_T44 y265 x19_2).f5) : Int) := of_decide_eq_true (by first | (with_reducible assumption) | assumption); have q277 : ((rd_T44 y265 x19_2).f5) < (l0.length : Int) := of_decide_eq_true (by first | (with_reducible assumption) | assumption); obtain ⟨ad277, A277_3, c277_3, A277_6, c277_6, e277, hx277_0, hx277_1, hx277_2, hx277_3, hx277_4, hx277_5, hx277_6, hl277_3, hi277_3, hl277_6, hi277_6⟩ := at_T44 HR0.out ((rd_T44 y265 x19_2).f5) p277 q277; cases e277; replace hx277_0 := (HB.out.cell (World.block_lt_of_cell? w _ hx277_0)).trans hx277_0; replace hx277_1 := (HB.out.cell (World.block_lt_of_cell? w _ hx277_1)).trans hx277_1; replace hx277_2 := (HB.out.cell (World.block_lt_of_cell? w _ hx277_2)).trans hx277_2; replace hx277_3 := (HB.out.cell (World.block_lt_of_cell? w _ hx277_3)).trans hx277_3; replace hx277_4 := (HB.out.cell (World.block_lt_of_cell? w _ hx277_4)).trans hx277_4; replace hx277_5 := (HB.out.cell (World.block_lt_of_cell? w _ hx277_5)).trans hx277_5; replace hx277_6 := (HB.out.cell (World.block_lt_of_cell? w _ hx277_6)).trans hx277_6; have HR277_3 := Aside0.mk hi277_3; have HC277_3 := Aside0.mk hl277_3; clear hi277_3 hl277_3; have HR277_6 := Aside0.mk hi277_6; have HC277_6 := Aside0.mk hl277_6; clear hi277_6 hl277_6; replace p277 := eq_true p277; replace q277 := eq_true q277) | (go_at_call 56; (with_reducible refine (impl_hasKids.calls ((rd_T44 l0 ((rd_T44 y265 x19_2).f5)).f0) true _ A20.out).mono ?_); rintro e w' ⟨rfl, ⟨nd, rfl⟩⟩))
               go_roundg k2
               case measure => have := HJ1.out; have := HK2.out; omega
               case rel => exact ⟨(wrap64 (x19_2 + 1)), (by first | rfl | (simp; done) | (simp [*]; done)), H', ⟨by have := HJ1.out; have := HK2.out; omega⟩, ⟨by repeat (first | (with_reducible first | exact HB.out | apply below_alloc | apply pw_below_drewN | apply below_drew1 | refine below_set ?_ GE274.out) | exact HB.out)⟩⟩
              ·replace c21 := Bool.eq_false_iff.mpr c21
               subst c21
               have H1 : (some false) = some r := by rw [if_neg (show ¬ (false = true) by decide)] at H; exact H
               clear H
               have H := H1
               clear H1
               obtain rfl := Option.some.inj H
               have p273 : 0 ≤ (x19_2 : Int) := of_decide_eq_true (by first | (with_reducible assumption) | assumption)
               have q273 : x19_2 < (y265.length : Int) := of_decide_eq_true (by first | (with_reducible assumption) | assumption)
               obtain ⟨ad273, A273_3, c273_3, A273_6, c273_6, e273, hx273_0, hx273_1, hx273_2, hx273_3, hx273_4, hx273_5, hx273_6, hl273_3, hi273_3, hl273_6, hi273_6⟩ := at_T44 HR268.out x19_2 p273 q273
               cases e273
               replace hx273_0 := (HB.out.cell (World.block_lt_of_cell? w _ hx273_0)).trans hx273_0
               replace hx273_1 := (HB.out.cell (World.block_lt_of_cell? w _ hx273_1)).trans hx273_1
               replace hx273_2 := (HB.out.cell (World.block_lt_of_cell? w _ hx273_2)).trans hx273_2
               replace hx273_3 := (HB.out.cell (World.block_lt_of_cell? w _ hx273_3)).trans hx273_3
               replace hx273_4 := (HB.out.cell (World.block_lt_of_cell? w _ hx273_4)).trans hx273_4
               replace hx273_5 := (HB.out.cell (World.block_lt_of_cell? w _ hx273_5)).trans hx273_5
               replace hx273_6 := (HB.out.cell (World.block_lt_of_cell? w _ hx273_6)).trans hx273_6
               have HR273_3 := Aside0.mk hi273_3
               have HC273_3 := Aside0.mk hl273_3
               clear hi273_3 hl273_3
               have HR273_6 := Aside0.mk hi273_6
               have HC273_6 := Aside0.mk hl273_6
               clear hi273_6 hl273_6
               replace p273 := eq_true p273
               replace q273 := eq_true q273
               go_wp2_with (first | ((with_reducible refine gate_dst (N := 4) rfl ?_); (try (refine gate_guard (by rfl) ?_; dsimp only)); refine box_event ?hg (N := 4) ?hd (cs := #[.int .i64 0, .int .i64 0, .string (⟨#[]⟩ : ByteArray), .slice none 0 0, .string (⟨#[]⟩ : ByteArray), .int .i64 0, .slice none 0 0]) (t := 44) ?hr ?_; (case hd => rfl); (case hg => rfl); (case hr => first | (go_simp; done) | (go_simp; rfl)); intro gb274 hg w26 hbox hb; have n0_ := Aside0.mk (below_step (by repeat (first | (with_reducible first | exact HB.out | apply below_alloc | apply pw_below_drewN | apply below_drew1) | exact HB.out)) hb); have n1_ := Aside0.mk (hbox); have n2_ := Aside0.mk ((by rw [hg]; exact (below_size (by repeat (first | (with_reducible first | exact HB.out | apply below_alloc | apply pw_below_drewN | apply below_drew1) | exact HB.out))) : w.heap.size ≤ gb274)); have n3_ := Aside0.mk ((by rw [hg]; exact (below_size (by repeat (first | (with_reducible first | exact HB.out | apply below_alloc | apply pw_below_drewN | apply below_drew1) | exact HB.out))) : w.heap.size ≤ gb274)); clear HB; have HB := n0_; have BK274 := n1_; have GW274 := n2_; have GE274 := n3_; clear n0_ n1_ n2_ n3_; clear hb hbox hg; have hcz27_0 : w26.cell? ⟨gb274, 0, none⟩ = some (.int .i64 0) := (blk_cell BK274.out 0).trans rfl; have hcz27_1 : w26.cell? ⟨gb274, 1, none⟩ = some (.int .i64 0) := (blk_cell BK274.out 1).trans rfl; have hcz27_2 : w26.cell? ⟨gb274, 2, none⟩ = some (.string (⟨#[]⟩ : ByteArray)) := (blk_cell BK274.out 2).trans rfl; have hcz27_3 : w26.cell? ⟨gb274, 3, none⟩ = some (.slice none 0 0) := (blk_cell BK274.out 3).trans rfl; have hcz27_4 : w26.cell? ⟨gb274, 4, none⟩ = some (.string (⟨#[]⟩ : ByteArray)) := (blk_cell BK274.out 4).trans rfl; have hcz27_5 : w26.cell? ⟨gb274, 5, none⟩ = some (.int .i64 0) := (blk_cell BK274.out 5).trans rfl; have hcz27_6 : w26.cell? ⟨gb274, 6, none⟩ = some (.slice none 0 0) := (blk_cell BK274.out 6).trans rfl; have hfz27_0 := blk_frozen BK274.out 0; have hfz27_1 := blk_frozen BK274.out 1; have hfz27_2 := blk_frozen BK274.out 2; have hfz27_3 := blk_frozen BK274.out 3; have hfz27_4 := blk_frozen BK274.out 4; have hfz27_5 := blk_frozen BK274.out 5; have hfz27_6 := blk_frozen BK274.out 6) | ((with_reducible refine gate_callee (f := 54) rfl ?_); refine goesL_ (some 24) rfl rfl Try.func54 (by kernel_rfl) rfl #[.agg #[.int .i64 ((rd_T44 y265 x19_2).f0), .int .i64 ((rd_T44 y265 x19_2).f1), .string ((rd_T44 y265 x19_2).f2), .slice A273_3 ((rd_T44 y265 x19_2).f3).length c273_3, .string ((rd_T44 y265 x19_2).f4), .int .i64 ((rd_T44 y265 x19_2).f5), .slice A273_6 ((rd_T44 y265 x19_2).f6).length c273_6]] rfl (by (try simp only [List.map_toArray, List.map_cons, List.map_nil]); first | done | rfl | (simp only [List.length_drop, List.length_take]; rfl)) ?_; (with_reducible refine (impl_itemOk.calls k2 ((rd_T44 y265 x19_2).f0) ((rd_T44 y265 x19_2).f1) ((rd_T44 y265 x19_2).f2) _ _ ((rd_T44 y265 x19_2).f3) ((rd_T44 y265 x19_2).f4) ((rd_T44 y265 x19_2).f5) _ _ ((rd_T44 y265 x19_2).f6) true _ ?side1 ?side2 ?side3 ?side4 A14.out).mono ?_); (case side1 => exact Kd.C_below HR273_3.out (by repeat (first | (with_reducible first | exact HB.out | apply below_alloc | apply pw_below_drewN | apply below_drew1 | refine below_set ?_ GE274.out) | exact HB.out))); (case side2 => exact HC273_3.out); (case side3 => exact Kd.C_below HR273_6.out (by repeat (first | (with_reducible first | exact HB.out | apply below_alloc | apply pw_below_drewN | apply below_drew1 | refine below_set ?_ GE274.out) | exact HB.out))); (case side4 => exact HC273_6.out); rintro e w28 ⟨rfl, hb⟩; refine ⟨_, rfl, ?_⟩; have n0_ := Aside0.mk (blk_below (g := gb274) (o := .cells #[.int .i64 ((rd_T44 y265 x19_2).f0), .int .i64 ((rd_T44 y265 x19_2).f1), .string ((rd_T44 y265 x19_2).f2), .slice A273_3 ((rd_T44 y265 x19_2).f3).length c273_3, .string ((rd_T44 y265 x19_2).f4), .int .i64 ((rd_T44 y265 x19_2).f5), .slice A273_6 ((rd_T44 y265 x19_2).f6).length c273_6] 44 (0, 0)) (by (with_reducible repeat (first | refine blk_drewN ?_ _ | refine blk_drew ?_ | refine blk_alloc ?_ _)); refine blk_put (cs := #[.int .i64 ((rd_T44 y265 x19_2).f0), .int .i64 ((rd_T44 y265 x19_2).f1), .string ((rd_T44 y265 x19_2).f2), .slice A273_3 ((rd_T44 y265 x19_2).f3).length c273_3, .string ((rd_T44 y265 x19_2).f4), .int .i64 ((rd_T44 y265 x19_2).f5), .slice none 0 0]) ?_ 6 _ rfl; (with_reducible repeat (first | refine blk_drewN ?_ _ | refine blk_drew ?_ | refine blk_alloc ?_ _)); refine blk_put (cs := #[.int .i64 ((rd_T44 y265 x19_2).f0), .int .i64 ((rd_T44 y265 x19_2).f1), .string ((rd_T44 y265 x19_2).f2), .slice A273_3 ((rd_T44 y265 x19_2).f3).length c273_3, .string ((rd_T44 y265 x19_2).f4), .int .i64 0, .slice none 0 0]) ?_ 5 _ rfl; (with_reducible repeat (first | refine blk_drewN ?_ _ | refine blk_drew ?_ | refine blk_alloc ?_ _)); refine blk_put (cs := #[.int .i64 ((rd_T44 y265 x19_2).f0), .int .i64 ((rd_T44 y265 x19_2).f1), .string ((rd_T44 y265 x19_2).f2), .slice A273_3 ((rd_T44 y265 x19_2).f3).length c273_3, .string (⟨#[]⟩ : ByteArray), .int .i64 0, .slice none 0 0]) ?_ 4 _ rfl; (with_reducible repeat (first | refine blk_drewN ?_ _ | refine blk_drew ?_ | refine blk_alloc ?_ _)); refine blk_put (cs := #[.int .i64 ((rd_T44 y265 x19_2).f0), .int .i64 ((rd_T44 y265 x19_2).f1), .string ((rd_T44 y265 x19_2).f2), .slice none 0 0, .string (⟨#[]⟩ : ByteArray), .int .i64 0, .slice none 0 0]) ?_ 3 _ rfl; (with_reducible repeat (first | refine blk_drewN ?_ _ | refine blk_drew ?_ | refine blk_alloc ?_ _)); refine blk_put (cs := #[.int .i64 ((rd_T44 y265 x19_2).f0), .int .i64 ((rd_T44 y265 x19_2).f1), .string (⟨#[]⟩ : ByteArray), .slice none 0 0, .string (⟨#[]⟩ : ByteArray), .int .i64 0, .slice none 0 0]) ?_ 2 _ rfl; (with_reducible repeat (first | refine blk_drewN ?_ _ | refine blk_drew ?_ | refine blk_alloc ?_ _)); refine blk_put (cs := #[.int .i64 ((rd_T44 y265 x19_2).f0), .int .i64 0, .string (⟨#[]⟩ : ByteArray), .slice none 0 0, .string (⟨#[]⟩ : ByteArray), .int .i64 0, .slice none 0 0]) ?_ 1 _ rfl; (with_reducible repeat (first | refine blk_drewN ?_ _ | refine blk_drew ?_ | refine blk_alloc ?_ _)); refine blk_put (cs := #[.int .i64 0, .int .i64 0, .string (⟨#[]⟩ : ByteArray), .slice none 0 0, .string (⟨#[]⟩ : ByteArray), .int .i64 0, .slice none 0 0]) ?_ 0 _ rfl; (with_reducible repeat (first | refine blk_drewN ?_ _ | refine blk_drew ?_ | refine blk_alloc ?_ _)); exact BK274.out) hb); have n1_ := Aside0.mk (below_step (by repeat (first | (with_reducible first | exact HB.out | apply below_alloc | apply pw_below_drewN | apply below_drew1 | refine below_set ?_ GE274.out) | exact HB.out)) hb); clear BK274; clear HB; have BK274 := n0_; have HB := n1_; clear n0_ n1_; (try clear hb); (try clear hb2); (try clear hk); (try clear hi); have hcz29_0 : w28.cell? ⟨gb274, 0, none⟩ = some (.int .i64 ((rd_T44 y265 x19_2).f0)) := (blk_cell BK274.out 0).trans rfl; have hcz29_1 : w28.cell? ⟨gb274, 1, none⟩ = some (.int .i64 ((rd_T44 y265 x19_2).f1)) := (blk_cell BK274.out 1).trans rfl; have hcz29_2 : w28.cell? ⟨gb274, 2, none⟩ = some (.string ((rd_T44 y265 x19_2).f2)) := (blk_cell BK274.out 2).trans rfl; have hcz29_3 : w28.cell? ⟨gb274, 3, none⟩ = some (.slice A273_3 ((rd_T44 y265 x19_2).f3).length c273_3) := (blk_cell BK274.out 3).trans rfl; have hcz29_4 : w28.cell? ⟨gb274, 4, none⟩ = some (.string ((rd_T44 y265 x19_2).f4)) := (blk_cell BK274.out 4).trans rfl; have hcz29_5 : w28.cell? ⟨gb274, 5, none⟩ = some (.int .i64 ((rd_T44 y265 x19_2).f5)) := (blk_cell BK274.out 5).trans rfl; have hcz29_6 : w28.cell? ⟨gb274, 6, none⟩ = some (.slice A273_6 ((rd_T44 y265 x19_2).f6).length c273_6) := (blk_cell BK274.out 6).trans rfl; have hfz29_0 := blk_frozen BK274.out 0; have hfz29_1 := blk_frozen BK274.out 1; have hfz29_2 := blk_frozen BK274.out 2; have hfz29_3 := blk_frozen BK274.out 3; have hfz29_4 := blk_frozen BK274.out 4; have hfz29_5 := blk_frozen BK274.out 5; have hfz29_6 := blk_frozen BK274.out 6) | (go_at_call 55; (with_reducible refine (impl_inRange.calls ((rd_T44 y265 x19_2).f5) 0 (wrap64 ((l0.length : Int) - 1)) true _ A16.out).mono ?_); rintro e w' ⟨rfl, ⟨nd, rfl⟩⟩; have p277 : 0 ≤ (((rd_T44 y265 x19_2).f5) : Int) := of_decide_eq_true (by first | (with_reducible assumption) | assumption); have q277 : ((rd_T44 y265 x19_2).f5) < (l0.length : Int) := of_decide_eq_true (by first | (with_reducible assumption) | assumption); obtain ⟨ad277, A277_3, c277_3, A277_6, c277_6, e277, hx277_0, hx277_1, hx277_2, hx277_3, hx277_4, hx277_5, hx277_6, hl277_3, hi277_3, hl277_6, hi277_6⟩ := at_T44 HR0.out ((rd_T44 y265 x19_2).f5) p277 q277; cases e277; replace hx277_0 := (HB.out.cell (World.block_lt_of_cell? w _ hx277_0)).trans hx277_0; replace hx277_1 := (HB.out.cell (World.block_lt_of_cell? w _ hx277_1)).trans hx277_1; replace hx277_2 := (HB.out.cell (World.block_lt_of_cell? w _ hx277_2)).trans hx277_2; replace hx277_3 := (HB.out.cell (World.block_lt_of_cell? w _ hx277_3)).trans hx277_3; replace hx277_4 := (HB.out.cell (World.block_lt_of_cell? w _ hx277_4)).trans hx277_4; replace hx277_5 := (HB.out.cell (World.block_lt_of_cell? w _ hx277_5)).trans hx277_5; replace hx277_6 := (HB.out.cell (World.block_lt_of_cell? w _ hx277_6)).trans hx277_6; have HR277_3 := Aside0.mk hi277_3; have HC277_3 := Aside0.mk hl277_3; clear hi277_3 hl277_3; have HR277_6 := Aside0.mk hi277_6; have HC277_6 := Aside0.mk hl277_6; clear hi277_6 hl277_6; replace p277 := eq_true p277; replace q277 := eq_true q277) | (go_at_call 56; (with_reducible refine (impl_hasKids.calls ((rd_T44 l0 ((rd_T44 y265 x19_2).f5)).f0) false _ A20.out).mono ?_); rintro e w' ⟨rfl, ⟨nd, rfl⟩⟩))
               go_ret
               exact ⟨by first | rfl | (simp [errW_none, errW_some] <;> rfl) | (simp [*, errW_none, errW_some] <;> rfl), by repeat (first | (with_reducible first | exact HB.out | apply below_alloc | apply pw_below_drewN | apply below_drew1 | refine below_set ?_ GE274.out) | exact HB.out)⟩
             ·rw [if_neg c19] at H
              exact absurd H (by simp)
            ·rw [if_neg c18] at H
             exact absurd H (by simp)
           ·replace c17 := Bool.eq_false_iff.mpr c17
            subst c17
            have H1 : (some false) = some r := by rw [if_neg (show ¬ (false = true) by decide)] at H; exact H
            clear H
            have H := H1
            clear H1
            obtain rfl := Option.some.inj H
            have p273 : 0 ≤ (x19_2 : Int) := of_decide_eq_true (by first | (with_reducible assumption) | assumption)
            have q273 : x19_2 < (y265.length : Int) := of_decide_eq_true (by first | (with_reducible assumption) | assumption)
            obtain ⟨ad273, A273_3, c273_3, A273_6, c273_6, e273, hx273_0, hx273_1, hx273_2, hx273_3, hx273_4, hx273_5, hx273_6, hl273_3, hi273_3, hl273_6, hi273_6⟩ := at_T44 HR268.out x19_2 p273 q273
            cases e273
            replace hx273_0 := (HB.out.cell (World.block_lt_of_cell? w _ hx273_0)).trans hx273_0
            replace hx273_1 := (HB.out.cell (World.block_lt_of_cell? w _ hx273_1)).trans hx273_1
            replace hx273_2 := (HB.out.cell (World.block_lt_of_cell? w _ hx273_2)).trans hx273_2
            replace hx273_3 := (HB.out.cell (World.block_lt_of_cell? w _ hx273_3)).trans hx273_3
            replace hx273_4 := (HB.out.cell (World.block_lt_of_cell? w _ hx273_4)).trans hx273_4
            replace hx273_5 := (HB.out.cell (World.block_lt_of_cell? w _ hx273_5)).trans hx273_5
            replace hx273_6 := (HB.out.cell (World.block_lt_of_cell? w _ hx273_6)).trans hx273_6
            have HR273_3 := Aside0.mk hi273_3
            have HC273_3 := Aside0.mk hl273_3
            clear hi273_3 hl273_3
            have HR273_6 := Aside0.mk hi273_6
            have HC273_6 := Aside0.mk hl273_6
            clear hi273_6 hl273_6
            replace p273 := eq_true p273
            replace q273 := eq_true q273
            go_wp2_with (first | ((with_reducible refine gate_dst (N := 4) rfl ?_); (try (refine gate_guard (by rfl) ?_; dsimp only)); refine box_event ?hg (N := 4) ?hd (cs := #[.int .i64 0, .int .i64 0, .string (⟨#[]⟩ : ByteArray), .slice none 0 0, .string (⟨#[]⟩ : ByteArray), .int .i64 0, .slice none 0 0]) (t := 44) ?hr ?_; (case hd => rfl); (case hg => rfl); (case hr => first | (go_simp; done) | (go_simp; rfl)); intro gb274 hg w30 hbox hb; have n0_ := Aside0.mk (below_step (by repeat (first | (with_reducible first | exact HB.out | apply below_alloc | apply pw_below_drewN | apply below_drew1) | exact HB.out)) hb); have n1_ := Aside0.mk (hbox); have n2_ := Aside0.mk ((by rw [hg]; exact (below_size (by repeat (first | (with_reducible first | exact HB.out | apply below_alloc | apply pw_below_drewN | apply below_drew1) | exact HB.out))) : w.heap.size ≤ gb274)); have n3_ := Aside0.mk ((by rw [hg]; exact (below_size (by repeat (first | (with_reducible first | exact HB.out | apply below_alloc | apply pw_below_drewN | apply below_drew1) | exact HB.out))) : w.heap.size ≤ gb274)); clear HB; have HB := n0_; have BK274 := n1_; have GW274 := n2_; have GE274 := n3_; clear n0_ n1_ n2_ n3_; clear hb hbox hg; have hcz31_0 : w30.cell? ⟨gb274, 0, none⟩ = some (.int .i64 0) := (blk_cell BK274.out 0).trans rfl; have hcz31_1 : w30.cell? ⟨gb274, 1, none⟩ = some (.int .i64 0) := (blk_cell BK274.out 1).trans rfl; have hcz31_2 : w30.cell? ⟨gb274, 2, none⟩ = some (.string (⟨#[]⟩ : ByteArray)) := (blk_cell BK274.out 2).trans rfl; have hcz31_3 : w30.cell? ⟨gb274, 3, none⟩ = some (.slice none 0 0) := (blk_cell BK274.out 3).trans rfl; have hcz31_4 : w30.cell? ⟨gb274, 4, none⟩ = some (.string (⟨#[]⟩ : ByteArray)) := (blk_cell BK274.out 4).trans rfl; have hcz31_5 : w30.cell? ⟨gb274, 5, none⟩ = some (.int .i64 0) := (blk_cell BK274.out 5).trans rfl; have hcz31_6 : w30.cell? ⟨gb274, 6, none⟩ = some (.slice none 0 0) := (blk_cell BK274.out 6).trans rfl; have hfz31_0 := blk_frozen BK274.out 0; have hfz31_1 := blk_frozen BK274.out 1; have hfz31_2 := blk_frozen BK274.out 2; have hfz31_3 := blk_frozen BK274.out 3; have hfz31_4 := blk_frozen BK274.out 4; have hfz31_5 := blk_frozen BK274.out 5; have hfz31_6 := blk_frozen BK274.out 6) | ((with_reducible refine gate_callee (f := 54) rfl ?_); refine goesL_ (some 24) rfl rfl Try.func54 (by kernel_rfl) rfl #[.agg #[.int .i64 ((rd_T44 y265 x19_2).f0), .int .i64 ((rd_T44 y265 x19_2).f1), .string ((rd_T44 y265 x19_2).f2), .slice A273_3 ((rd_T44 y265 x19_2).f3).length c273_3, .string ((rd_T44 y265 x19_2).f4), .int .i64 ((rd_T44 y265 x19_2).f5), .slice A273_6 ((rd_T44 y265 x19_2).f6).length c273_6]] rfl (by (try simp only [List.map_toArray, List.map_cons, List.map_nil]); first | done | rfl | (simp only [List.length_drop, List.length_take]; rfl)) ?_; (with_reducible refine (impl_itemOk.calls k2 ((rd_T44 y265 x19_2).f0) ((rd_T44 y265 x19_2).f1) ((rd_T44 y265 x19_2).f2) _ _ ((rd_T44 y265 x19_2).f3) ((rd_T44 y265 x19_2).f4) ((rd_T44 y265 x19_2).f5) _ _ ((rd_T44 y265 x19_2).f6) true _ ?side1 ?side2 ?side3 ?side4 A14.out).mono ?_); (case side1 => exact Kd.C_below HR273_3.out (by repeat (first | (with_reducible first | exact HB.out | apply below_alloc | apply pw_below_drewN | apply below_drew1 | refine below_set ?_ GE274.out) | exact HB.out))); (case side2 => exact HC273_3.out); (case side3 => exact Kd.C_below HR273_6.out (by repeat (first | (with_reducible first | exact HB.out | apply below_alloc | apply pw_below_drewN | apply below_drew1 | refine below_set ?_ GE274.out) | exact HB.out))); (case side4 => exact HC273_6.out); rintro e w32 ⟨rfl, hb⟩; refine ⟨_, rfl, ?_⟩; have n0_ := Aside0.mk (blk_below (g := gb274) (o := .cells #[.int .i64 ((rd_T44 y265 x19_2).f0), .int .i64 ((rd_T44 y265 x19_2).f1), .string ((rd_T44 y265 x19_2).f2), .slice A273_3 ((rd_T44 y265 x19_2).f3).length c273_3, .string ((rd_T44 y265 x19_2).f4), .int .i64 ((rd_T44 y265 x19_2).f5), .slice A273_6 ((rd_T44 y265 x19_2).f6).length c273_6] 44 (0, 0)) (by (with_reducible repeat (first | refine blk_drewN ?_ _ | refine blk_drew ?_ | refine blk_alloc ?_ _)); refine blk_put (cs := #[.int .i64 ((rd_T44 y265 x19_2).f0), .int .i64 ((rd_T44 y265 x19_2).f1), .string ((rd_T44 y265 x19_2).f2), .slice A273_3 ((rd_T44 y265 x19_2).f3).length c273_3, .string ((rd_T44 y265 x19_2).f4), .int .i64 ((rd_T44 y265 x19_2).f5), .slice none 0 0]) ?_ 6 _ rfl; (with_reducible repeat (first | refine blk_drewN ?_ _ | refine blk_drew ?_ | refine blk_alloc ?_ _)); refine blk_put (cs := #[.int .i64 ((rd_T44 y265 x19_2).f0), .int .i64 ((rd_T44 y265 x19_2).f1), .string ((rd_T44 y265 x19_2).f2), .slice A273_3 ((rd_T44 y265 x19_2).f3).length c273_3, .string ((rd_T44 y265 x19_2).f4), .int .i64 0, .slice none 0 0]) ?_ 5 _ rfl; (with_reducible repeat (first | refine blk_drewN ?_ _ | refine blk_drew ?_ | refine blk_alloc ?_ _)); refine blk_put (cs := #[.int .i64 ((rd_T44 y265 x19_2).f0), .int .i64 ((rd_T44 y265 x19_2).f1), .string ((rd_T44 y265 x19_2).f2), .slice A273_3 ((rd_T44 y265 x19_2).f3).length c273_3, .string (⟨#[]⟩ : ByteArray), .int .i64 0, .slice none 0 0]) ?_ 4 _ rfl; (with_reducible repeat (first | refine blk_drewN ?_ _ | refine blk_drew ?_ | refine blk_alloc ?_ _)); refine blk_put (cs := #[.int .i64 ((rd_T44 y265 x19_2).f0), .int .i64 ((rd_T44 y265 x19_2).f1), .string ((rd_T44 y265 x19_2).f2), .slice none 0 0, .string (⟨#[]⟩ : ByteArray), .int .i64 0, .slice none 0 0]) ?_ 3 _ rfl; (with_reducible repeat (first | refine blk_drewN ?_ _ | refine blk_drew ?_ | refine blk_alloc ?_ _)); refine blk_put (cs := #[.int .i64 ((rd_T44 y265 x19_2).f0), .int .i64 ((rd_T44 y265 x19_2).f1), .string (⟨#[]⟩ : ByteArray), .slice none 0 0, .string (⟨#[]⟩ : ByteArray), .int .i64 0, .slice none 0 0]) ?_ 2 _ rfl; (with_reducible repeat (first | refine blk_drewN ?_ _ | refine blk_drew ?_ | refine blk_alloc ?_ _)); refine blk_put (cs := #[.int .i64 ((rd_T44 y265 x19_2).f0), .int .i64 0, .string (⟨#[]⟩ : ByteArray), .slice none 0 0, .string (⟨#[]⟩ : ByteArray), .int .i64 0, .slice none 0 0]) ?_ 1 _ rfl; (with_reducible repeat (first | refine blk_drewN ?_ _ | refine blk_drew ?_ | refine blk_alloc ?_ _)); refine blk_put (cs := #[.int .i64 0, .int .i64 0, .string (⟨#[]⟩ : ByteArray), .slice none 0 0, .string (⟨#[]⟩ : ByteArray), .int .i64 0, .slice none 0 0]) ?_ 0 _ rfl; (with_reducible repeat (first | refine blk_drewN ?_ _ | refine blk_drew ?_ | refine blk_alloc ?_ _)); exact BK274.out) hb); have n1_ := Aside0.mk (below_step (by repeat (first | (with_reducible first | exact HB.out | apply below_alloc | apply pw_below_drewN | apply below_drew1 | refine below_set ?_ GE274.out) | exact HB.out)) hb); clear BK274; clear HB; have BK274 := n0_; have HB := n1_; clear n0_ n1_; (try clear hb); (try clear hb2); (try clear hk); (try clear hi); have hcz33_0 : w32.cell? ⟨gb274, 0, none⟩ = some (.int .i64 ((rd_T44 y265 x19_2).f0)) := (blk_cell BK274.out 0).trans rfl; have hcz33_1 : w32.cell? ⟨gb274, 1, none⟩ = some (.int .i64 ((rd_T44 y265 x19_2).f1)) := (blk_cell BK274.out 1).trans rfl; have hcz33_2 : w32.cell? ⟨gb274, 2, none⟩ = some (.string ((rd_T44 y265 x19_2).f2)) := (blk_cell BK274.out 2).trans rfl; have hcz33_3 : w32.cell? ⟨gb274, 3, none⟩ = some (.slice A273_3 ((rd_T44 y265 x19_2).f3).length c273_3) := (blk_cell BK274.out 3).trans rfl; have hcz33_4 : w32.cell? ⟨gb274, 4, none⟩ = some (.string ((rd_T44 y265 x19_2).f4)) := (blk_cell BK274.out 4).trans rfl; have hcz33_5 : w32.cell? ⟨gb274, 5, none⟩ = some (.int .i64 ((rd_T44 y265 x19_2).f5)) := (blk_cell BK274.out 5).trans rfl; have hcz33_6 : w32.cell? ⟨gb274, 6, none⟩ = some (.slice A273_6 ((rd_T44 y265 x19_2).f6).length c273_6) := (blk_cell BK274.out 6).trans rfl; have hfz33_0 := blk_frozen BK274.out 0; have hfz33_1 := blk_frozen BK274.out 1; have hfz33_2 := blk_frozen BK274.out 2; have hfz33_3 := blk_frozen BK274.out 3; have hfz33_4 := blk_frozen BK274.out 4; have hfz33_5 := blk_frozen BK274.out 5; have hfz33_6 := blk_frozen BK274.out 6) | (go_at_call 55; (with_reducible refine (impl_inRange.calls ((rd_T44 y265 x19_2).f5) 0 (wrap64 ((l0.length : Int) - 1)) false _ A16.out).mono ?_); rintro e w' ⟨rfl, ⟨nd, rfl⟩⟩))
            go_ret
            exact ⟨by first | rfl | (simp [errW_none, errW_some] <;> rfl) | (simp [*, errW_none, errW_some] <;> rfl), by repeat (first | (with_reducible first | exact HB.out | apply below_alloc | apply pw_below_drewN | apply below_drew1 | refine below_set ?_ GE274.out) | exact HB.out)⟩
          ·replace c15 := Bool.eq_false_iff.mpr c15
           subst c15
           have H1 : (some false) = some r := by rw [if_neg (show ¬ (false = true) by decide)] at H; exact H
           clear H
           have H := H1
           clear H1
           obtain rfl := Option.some.inj H
           have p273 : 0 ≤ (x19_2 : Int) := of_decide_eq_true (by first | (with_reducible assumption) | assumption)
           have q273 : x19_2 < (y265.length : Int) := of_decide_eq_true (by first | (with_reducible assumption) | assumption)
           obtain ⟨ad273, A273_3, c273_3, A273_6, c273_6, e273, hx273_0, hx273_1, hx273_2, hx273_3, hx273_4, hx273_5, hx273_6, hl273_3, hi273_3, hl273_6, hi273_6⟩ := at_T44 HR268.out x19_2 p273 q273
           cases e273
           replace hx273_0 := (HB.out.cell (World.block_lt_of_cell? w _ hx273_0)).trans hx273_0
           replace hx273_1 := (HB.out.cell (World.block_lt_of_cell? w _ hx273_1)).trans hx273_1
           replace hx273_2 := (HB.out.cell (World.block_lt_of_cell? w _ hx273_2)).trans hx273_2
           replace hx273_3 := (HB.out.cell (World.block_lt_of_cell? w _ hx273_3)).trans hx273_3
           replace hx273_4 := (HB.out.cell (World.block_lt_of_cell? w _ hx273_4)).trans hx273_4
           replace hx273_5 := (HB.out.cell (World.block_lt_of_cell? w _ hx273_5)).trans hx273_5
           replace hx273_6 := (HB.out.cell (World.block_lt_of_cell? w _ hx273_6)).trans hx273_6
           have HR273_3 := Aside0.mk hi273_3
           have HC273_3 := Aside0.mk hl273_3
           clear hi273_3 hl273_3
           have HR273_6 := Aside0.mk hi273_6
           have HC273_6 := Aside0.mk hl273_6
           clear hi273_6 hl273_6
           replace p273 := eq_true p273
           replace q273 := eq_true q273
           go_wp2_with (first | ((with_reducible refine gate_dst (N := 4) rfl ?_); (try (refine gate_guard (by rfl) ?_; dsimp only)); refine box_event ?hg (N := 4) ?hd (cs := #[.int .i64 0, .int .i64 0, .string (⟨#[]⟩ : ByteArray), .slice none 0 0, .string (⟨#[]⟩ : ByteArray), .int .i64 0, .slice none 0 0]) (t := 44) ?hr ?_; (case hd => rfl); (case hg => rfl); (case hr => first | (go_simp; done) | (go_simp; rfl)); intro gb274 hg w34 hbox hb; have n0_ := Aside0.mk (below_step (by repeat (first | (with_reducible first | exact HB.out | apply below_alloc | apply pw_below_drewN | apply below_drew1) | exact HB.out)) hb); have n1_ := Aside0.mk (hbox); have n2_ := Aside0.mk ((by rw [hg]; exact (below_size (by repeat (first | (with_reducible first | exact HB.out | apply below_alloc | apply pw_below_drewN | apply below_drew1) | exact HB.out))) : w.heap.size ≤ gb274)); have n3_ := Aside0.mk ((by rw [hg]; exact (below_size (by repeat (first | (with_reducible first | exact HB.out | apply below_alloc | apply pw_below_drewN | apply below_drew1) | exact HB.out))) : w.heap.size ≤ gb274)); clear HB; have HB := n0_; have BK274 := n1_; have GW274 := n2_; have GE274 := n3_; clear n0_ n1_ n2_ n3_; clear hb hbox hg; have hcz35_0 : w34.cell? ⟨gb274, 0, none⟩ = some (.int .i64 0) := (blk_cell BK274.out 0).trans rfl; have hcz35_1 : w34.cell? ⟨gb274, 1, none⟩ = some (.int .i64 0) := (blk_cell BK274.out 1).trans rfl; have hcz35_2 : w34.cell? ⟨gb274, 2, none⟩ = some (.string (⟨#[]⟩ : ByteArray)) := (blk_cell BK274.out 2).trans rfl; have hcz35_3 : w34.cell? ⟨gb274, 3, none⟩ = some (.slice none 0 0) := (blk_cell BK274.out 3).trans rfl; have hcz35_4 : w34.cell? ⟨gb274, 4, none⟩ = some (.string (⟨#[]⟩ : ByteArray)) := (blk_cell BK274.out 4).trans rfl; have hcz35_5 : w34.cell? ⟨gb274, 5, none⟩ = some (.int .i64 0) := (blk_cell BK274.out 5).trans rfl; have hcz35_6 : w34.cell? ⟨gb274, 6, none⟩ = some (.slice none 0 0) := (blk_cell BK274.out 6).trans rfl; have hfz35_0 := blk_frozen BK274.out 0; have hfz35_1 := blk_frozen BK274.out 1; have hfz35_2 := blk_frozen BK274.out 2; have hfz35_3 := blk_frozen BK274.out 3; have hfz35_4 := blk_frozen BK274.out 4; have hfz35_5 := blk_frozen BK274.out 5; have hfz35_6 := blk_frozen BK274.out 6) | ((with_reducible refine gate_callee (f := 54) rfl ?_); refine goesL_ (some 24) rfl rfl Try.func54 (by kernel_rfl) rfl #[.agg #[.int .i64 ((rd_T44 y265 x19_2).f0), .int .i64 ((rd_T44 y265 x19_2).f1), .string ((rd_T44 y265 x19_2).f2), .slice A273_3 ((rd_T44 y265 x19_2).f3).length c273_3, .string ((rd_T44 y265 x19_2).f4), .int .i64 ((rd_T44 y265 x19_2).f5), .slice A273_6 ((rd_T44 y265 x19_2).f6).length c273_6]] rfl (by (try simp only [List.map_toArray, List.map_cons, List.map_nil]); first | done | rfl | (simp only [List.length_drop, List.length_take]; rfl)) ?_; (with_reducible refine (impl_itemOk.calls k2 ((rd_T44 y265 x19_2).f0) ((rd_T44 y265 x19_2).f1) ((rd_T44 y265 x19_2).f2) _ _ ((rd_T44 y265 x19_2).f3) ((rd_T44 y265 x19_2).f4) ((rd_T44 y265 x19_2).f5) _ _ ((rd_T44 y265 x19_2).f6) false _ ?side1 ?side2 ?side3 ?side4 A14.out).mono ?_); (case side1 => exact Kd.C_below HR273_3.out (by repeat (first | (with_reducible first | exact HB.out | apply below_alloc | apply pw_below_drewN | apply below_drew1 | refine below_set ?_ GE274.out) | exact HB.out))); (case side2 => exact HC273_3.out); (case side3 => exact Kd.C_below HR273_6.out (by repeat (first | (with_reducible first | exact HB.out | apply below_alloc | apply pw_below_drewN | apply below_drew1 | refine below_set ?_ GE274.out) | exact HB.out))); (case side4 => exact HC273_6.out); rintro e w36 ⟨rfl, hb⟩; refine ⟨_, rfl, ?_⟩; have n0_ := Aside0.mk (blk_below (g := gb274) (o := .cells #[.int .i64 ((rd_T44 y265 x19_2).f0), .int .i64 ((rd_T44 y265 x19_2).f1), .string ((rd_T44 y265 x19_2).f2), .slice A273_3 ((rd_T44 y265 x19_2).f3).length c273_3, .string ((rd_T44 y265 x19_2).f4), .int .i64 ((rd_T44 y265 x19_2).f5), .slice A273_6 ((rd_T44 y265 x19_2).f6).length c273_6] 44 (0, 0)) (by (with_reducible repeat (first | refine blk_drewN ?_ _ | refine blk_drew ?_ | refine blk_alloc ?_ _)); refine blk_put (cs := #[.int .i64 ((rd_T44 y265 x19_2).f0), .int .i64 ((rd_T44 y265 x19_2).f1), .string ((rd_T44 y265 x19_2).f2), .slice A273_3 ((rd_T44 y265 x19_2).f3).length c273_3, .string ((rd_T44 y265 x19_2).f4), .int .i64 ((rd_T44 y265 x19_2).f5), .slice none 0 0]) ?_ 6 _ rfl; (with_reducible repeat (first | refine blk_drewN ?_ _ | refine blk_drew ?_ | refine blk_alloc ?_ _)); refine blk_put (cs := #[.int .i64 ((rd_T44 y265 x19_2).f0), .int .i64 ((rd_T44 y265 x19_2).f1), .string ((rd_T44 y265 x19_2).f2), .slice A273_3 ((rd_T44 y265 x19_2).f3).length c273_3, .string ((rd_T44 y265 x19_2).f4), .int .i64 0, .slice none 0 0]) ?_ 5 _ rfl; (with_reducible repeat (first | refine blk_drewN ?_ _ | refine blk_drew ?_ | refine blk_alloc ?_ _)); refine blk_put (cs := #[.int .i64 ((rd_T44 y265 x19_2).f0), .int .i64 ((rd_T44 y265 x19_2).f1), .string ((rd_T44 y265 x19_2).f2), .slice A273_3 ((rd_T44 y265 x19_2).f3).length c273_3, .string (⟨#[]⟩ : ByteArray), .int .i64 0, .slice none 0 0]) ?_ 4 _ rfl; (with_reducible repeat (first | refine blk_drewN ?_ _ | refine blk_drew ?_ | refine blk_alloc ?_ _)); refine blk_put (cs := #[.int .i64 ((rd_T44 y265 x19_2).f0), .int .i64 ((rd_T44 y265 x19_2).f1), .string ((rd_T44 y265 x19_2).f2), .slice none 0 0, .string (⟨#[]⟩ : ByteArray), .int .i64 0, .slice none 0 0]) ?_ 3 _ rfl; (with_reducible repeat (first | refine blk_drewN ?_ _ | refine blk_drew ?_ | refine blk_alloc ?_ _)); refine blk_put (cs := #[.int .i64 ((rd_T44 y265 x19_2).f0), .int .i64 ((rd_T44 y265 x19_2).f1), .string (⟨#[]⟩ : ByteArray), .slice none 0 0, .string (⟨#[]⟩ : ByteArray), .int .i64 0, .slice none 0 0]) ?_ 2 _ rfl; (with_reducible repeat (first | refine blk_drewN ?_ _ | refine blk_drew ?_ | refine blk_alloc ?_ _)); refine blk_put (cs := #[.int .i64 ((rd_T44 y265 x19_2).f0), .int .i64 0, .string (⟨#[]⟩ : ByteArray), .slice none 0 0, .string (⟨#[]⟩ : ByteArray), .int .i64 0, .slice none 0 0]) ?_ 1 _ rfl; (with_reducible repeat (first | refine blk_drewN ?_ _ | refine blk_drew ?_ | refine blk_alloc ?_ _)); refine blk_put (cs := #[.int .i64 0, .int .i64 0, .string (⟨#[]⟩ : ByteArray), .slice none 0 0, .string (⟨#[]⟩ : ByteArray), .int .i64 0, .slice none 0 0]) ?_ 0 _ rfl; (with_reducible repeat (first | refine blk_drewN ?_ _ | refine blk_drew ?_ | refine blk_alloc ?_ _)); exact BK274.out) hb); have n1_ := Aside0.mk (below_step (by repeat (first | (with_reducible first | exact HB.out | apply below_alloc | apply pw_below_drewN | apply below_drew1 | refine below_set ?_ GE274.out) | exact HB.out)) hb); clear BK274; clear HB; have BK274 := n0_; have HB := n1_; clear n0_ n1_; (try clear hb); (try clear hb2); (try clear hk); (try clear hi)))
           go_ret
           exact ⟨by first | rfl | (simp [errW_none, errW_some] <;> rfl) | (simp [*, errW_none, errW_some] <;> rfl), by repeat (first | (with_reducible first | exact HB.out | apply below_alloc | apply pw_below_drewN | apply below_drew1 | refine below_set ?_ GE274.out) | exact HB.out)⟩
         ·rw [if_neg c13] at H
          exact absurd H (by simp)
        ·rw [if_neg c12] at H
         exact absurd H (by simp)
       ·rw [if_neg c11] at H
        have c11b0 : decide (x19_2 < (y265.length : Int)) = false := decide_eq_false c11
        clear c11
        replace H := Option.bind_eq_some_iff.mp H
        obtain ⟨t269, A370, H⟩ := H
        replace H : (if t269 = true then ((impl_order.f k2 l0).bind fun t270 => (some ((t270.length : Int) == (l0.length : Int)))) else (some false)) = some r := H
        have A37 := Aside0.mk A370
        clear A370
        by_cases c38 : t269 = true
        ·subst c38
         have H1 : ((impl_order.f k2 l0).bind fun t270 => (some ((t270.length : Int) == (l0.length : Int)))) = some r := by rw [if_pos rfl] at H; exact H
         clear H
         have H := H1
         clear H1
         replace H := Option.bind_eq_some_iff.mp H
         obtain ⟨t270, A390, H⟩ := H
         replace H : (some ((t270.length : Int) == (l0.length : Int))) = some r := H
         have A39 := Aside0.mk A390
         clear A390
         obtain rfl := Option.some.inj H
         go_wp2_with (first | ((with_reducible refine gate_callee (f := 66) rfl ?_); refine goesL_ (some 47) rfl rfl Try.func66 (by kernel_rfl) rfl #[.slice A0 l0.length c0] rfl (by (try simp only [List.map_toArray, List.map_cons, List.map_nil]); first | done | rfl | (simp only [List.length_drop, List.length_take]; rfl)) ?_; (with_reducible refine (impl_kidsOk.calls k2 _ _ l0 true _ ?side1 ?side2 A37.out).mono ?_); (case side1 => repeat (first | exact (Kd.C_below HR0.out HB.out) | (with_reducible refine Kd.C_alloc ?_ _) | (with_reducible refine Kd.C_drewN ?_ _) | (with_reducible refine Kd.C_drew ?_))); (case side2 => exact HC0.out); rintro e w40 ⟨rfl, hb⟩; refine ⟨_, rfl, ?_⟩; have n0_ := Aside0.mk (below_step (by repeat (first | (with_reducible first | exact HB.out | apply below_alloc | apply pw_below_drewN | apply below_drew1) | exact HB.out)) hb); clear HB; have HB := n0_; clear n0_; (try clear hb); (try clear hb2); (try clear hk); (try clear hi)) | (go_at_call 67; (with_reducible refine (impl_order.calls k2 _ _ l0 t270 _ ?side1 ?side2 A39.out).mono ?_); (case side1 => repeat (first | exact (Kd.C_below HR0.out HB.out) | (with_reducible refine Kd.C_alloc ?_ _) | (with_reducible refine Kd.C_drewN ?_ _) | (with_reducible refine Kd.C_drew ?_))); (case side2 => exact HC0.out); rintro e w41 ⟨v271, rfl, ho0, hb⟩; have n0_ := Aside0.mk (Kd.R_lower ho0 (below_size (by repeat (first | (with_reducible first | exact HB.out | apply below_alloc | apply pw_below_drewN | apply below_drew1) | exact HB.out)))); have n1_ := Aside0.mk (below_step (by repeat (first | (with_reducible first | exact HB.out | apply below_alloc | apply pw_below_drewN | apply below_drew1) | exact HB.out)) hb); clear HB; have HO272 := n0_; have HB := n1_; clear n0_ n1_; (try clear hb); (try clear hb2); (try clear hk); (try clear hi); (try clear ho0); obtain ⟨Ao42, co42, eo42⟩ := Kd.R_slice HO272.out; subst eo42))
         go_ret
         exact ⟨by first | rfl | (simp [errW_none, errW_some] <;> rfl) | (simp [*, errW_none, errW_some] <;> rfl), by repeat (first | (with_reducible first | exact HB.out | apply below_alloc | apply pw_below_drewN | apply below_drew1) | exact HB.out)⟩
        ·replace c38 := Bool.eq_false_iff.mpr c38
         subst c38
         have H1 : (some false) = some r := by rw [if_neg (show ¬ (false = true) by decide)] at H; exact H
         clear H
         have H := H1
         clear H1
         obtain rfl := Option.some.inj H
         go_wp2_with (first | ((with_reducible refine gate_callee (f := 66) rfl ?_); refine goesL_ (some 47) rfl rfl Try.func66 (by kernel_rfl) rfl #[.slice A0 l0.length c0] rfl (by (try simp only [List.map_toArray, List.map_cons, List.map_nil]); first | done | rfl | (simp only [List.length_drop, List.length_take]; rfl)) ?_; (with_reducible refine (impl_kidsOk.calls k2 _ _ l0 false _ ?side1 ?side2 A37.out).mono ?_); (case side1 => repeat (first | exact (Kd.C_below HR0.out HB.out) | (with_reducible refine Kd.C_alloc ?_ _) | (with_reducible refine Kd.C_drewN ?_ _) | (with_reducible refine Kd.C_drew ?_))); (case side2 => exact HC0.out); rintro e w43 ⟨rfl, hb⟩; refine ⟨_, rfl, ?_⟩; have n0_ := Aside0.mk (below_step (by repeat (first | (with_reducible first | exact HB.out | apply below_alloc | apply pw_below_drewN | apply below_drew1) | exact HB.out)) hb); clear HB; have HB := n0_; clear n0_; (try clear hb); (try clear hb2); (try clear hk); (try clear hi)))
         go_ret
         exact ⟨by first | rfl | (simp [errW_none, errW_some] <;> rfl) | (simp [*, errW_none, errW_some] <;> rfl), by repeat (first | (with_reducible first | exact HB.out | apply below_alloc | apply pw_below_drewN | apply below_drew1) | exact HB.out)⟩
    ·rw [if_neg c9] at H
     exact absurd H (by simp)
def impl_Order.f (k : Nat) (l0 : List (S44)) : Option (List Int) := (impl_TreeOk.f k l0).bind fun t279 => (if t279 = true then ((impl_order.f k l0).bind fun t280 => (some t280)) else (some ([] : List Int)))
theorem impl_Order.mono : ∀ a0 k, LeO (impl_Order.f k a0) (impl_Order.f (k + 1) a0) := by
 intro a0 k
 unfold impl_Order.f
 repeat' first
   | (with_reducible exact impl_TreeOk.mono _ _)
   | (with_reducible exact impl_order.mono _ _)
   | (with_reducible exact LeO.refl _)
   | (with_reducible exact LeO.none _)
   | (with_reducible refine LeO.ite ?_ ?_)
   | (with_reducible refine LeO.bind ?_ (fun _ => ?_))
   | exact impl_TreeOk.mono _ _
   | exact impl_order.mono _ _
   | exact LeO.none _
   | refine LeO.ite ?_ ?_
   | refine LeO.bind ?_ (fun _ => ?_)
set_option maxHeartbeats 8000000 in
set_option maxRecDepth 100000 in
theorem impl_Order.calls (k : Nat) (A0 : Option Addr) (c0 : Nat) (l0 : List (S44)) (r : List Int) (w : World) (hr0 : Kd.C k44 w A0 l0.length l0) (hc0 : l0.length ≤ c0) (h : impl_Order.f k l0 = some r) :
  Calls Try.prog 33 #[.slice A0 l0.length c0] w fun e w' => ∃ v0_ : Value, e = .returned (v0_) ∧ Kd.R (Kd.int .i64) 3 w' w.heap.size (fun _ => True) v0_ r ∧ Below w.heap.size w w' := by
 have HR0 := Aside0.mk hr0
 have HC0 := Aside0.mk hc0
 clear hr0 hc0
 have HB := Aside0.mk (Below.refl w.heap.size w)
 have H : ((impl_TreeOk.f k l0).bind fun t279 => (if t279 = true then ((impl_order.f k l0).bind fun t280 => (some t280)) else (some ([] : List Int)))) = some r := h
 clear h
 replace H := Option.bind_eq_some_iff.mp H
 obtain ⟨t279, A20, H⟩ := H
 replace H : (if t279 = true then ((impl_order.f k l0).bind fun t280 => (some t280)) else (some ([] : List Int))) = some r := H
 have A2 := Aside0.mk A20
 clear A20
 by_cases c3 : t279 = true
 ·subst c3
  have H1 : ((impl_order.f k l0).bind fun t280 => (some t280)) = some r := by rw [if_pos rfl] at H; exact H
  clear H
  have H := H1
  clear H1
  replace H := Option.bind_eq_some_iff.mp H
  obtain ⟨t280, A40, H⟩ := H
  replace H : (some t280) = some r := H
  have A4 := Aside0.mk A40
  clear A40
  obtain rfl := Option.some.inj H
  go_enter Try.func33, Try.ntmps33
  go_wp2_with (first | ((with_reducible refine gate_callee (f := 27) rfl ?_); refine goesL_ (some 4) rfl rfl Try.func27 (by kernel_rfl) rfl #[.slice A0 l0.length c0] rfl (by (try simp only [List.map_toArray, List.map_cons, List.map_nil]); first | done | rfl | (simp only [List.length_drop, List.length_take]; rfl)) ?_; (with_reducible refine (impl_TreeOk.calls k _ _ l0 true _ ?side1 ?side2 A2.out).mono ?_); (case side1 => repeat (first | exact HR0.out | (with_reducible refine Kd.C_alloc ?_ _) | (with_reducible refine Kd.C_drewN ?_ _) | (with_reducible refine Kd.C_drew ?_))); (case side2 => exact HC0.out); rintro e w5 ⟨rfl, hb⟩; refine ⟨_, rfl, ?_⟩; have n0_ := Aside0.mk (below_step (by repeat (first | (with_reducible first | exact HB.out | apply below_alloc | apply pw_below_drewN | apply below_drew1) | exact HB.out)) hb); clear HB; have HB := n0_; clear n0_; (try clear hb); (try clear hb2); (try clear hk); (try clear hi)) | ((with_reducible refine gate_callee (f := 67) rfl ?_); refine goesL_ (some 7) rfl rfl Try.func67 (by kernel_rfl) rfl #[.slice A0 l0.length c0] rfl (by (try simp only [List.map_toArray, List.map_cons, List.map_nil]); first | done | rfl | (simp only [List.length_drop, List.length_take]; rfl)) ?_; (with_reducible refine (impl_order.calls k _ _ l0 t280 _ ?side1 ?side2 A4.out).mono ?_); (case side1 => repeat (first | exact (Kd.C_below HR0.out HB.out) | (with_reducible refine Kd.C_alloc ?_ _) | (with_reducible refine Kd.C_drewN ?_ _) | (with_reducible refine Kd.C_drew ?_))); (case side2 => exact HC0.out); rintro e w6 ⟨v281, rfl, ho0, hb⟩; refine ⟨_, rfl, ?_⟩; have n0_ := Aside0.mk (Kd.R_lower ho0 (below_size (by repeat (first | (with_reducible first | exact HB.out | apply below_alloc | apply pw_below_drewN | apply below_drew1) | exact HB.out)))); have n1_ := Aside0.mk (below_step (by repeat (first | (with_reducible first | exact HB.out | apply below_alloc | apply pw_below_drewN | apply below_drew1) | exact HB.out)) hb); clear HB; have HO282 := n0_; have HB := n1_; clear n0_ n1_; (try clear hb); (try clear hb2); (try clear hk); (try clear hi); (try clear ho0)))
  go_ret
  exact ⟨_, by first | rfl | (simp [errW_none, errW_some] <;> rfl) | (simp [*, errW_none, errW_some] <;> rfl), by (with_reducible repeat (first | apply Kd.R_alloc | apply Kd.R_drewN | apply Kd.R_drew)); exact HO282.out, by repeat (first | (with_reducible first | exact HB.out | apply below_alloc | apply pw_below_drewN | apply below_drew1) | exact HB.out)⟩
 ·replace c3 := Bool.eq_false_iff.mpr c3
  subst c3
  have H1 : (some ([] : List Int)) = some r := by rw [if_neg (show ¬ (false = true) by decide)] at H; exact H
  clear H
  have H := H1
  clear H1
  obtain rfl := Option.some.inj H
  go_enter Try.func33, Try.ntmps33
  go_wp2_with (first | ((with_reducible refine gate_callee (f := 27) rfl ?_); refine goesL_ (some 4) rfl rfl Try.func27 (by kernel_rfl) rfl #[.slice A0 l0.length c0] rfl (by (try simp only [List.map_toArray, List.map_cons, List.map_nil]); first | done | rfl | (simp only [List.length_drop, List.length_take]; rfl)) ?_; (with_reducible refine (impl_TreeOk.calls k _ _ l0 false _ ?side1 ?side2 A2.out).mono ?_); (case side1 => repeat (first | exact HR0.out | (with_reducible refine Kd.C_alloc ?_ _) | (with_reducible refine Kd.C_drewN ?_ _) | (with_reducible refine Kd.C_drew ?_))); (case side2 => exact HC0.out); rintro e w7 ⟨rfl, hb⟩; refine ⟨_, rfl, ?_⟩; have n0_ := Aside0.mk (below_step (by repeat (first | (with_reducible first | exact HB.out | apply below_alloc | apply pw_below_drewN | apply below_drew1) | exact HB.out)) hb); clear HB; have HB := n0_; clear n0_; (try clear hb); (try clear hb2); (try clear hk); (try clear hi)))
  go_ret
  exact ⟨_, by first | rfl | (simp [errW_none, errW_some] <;> rfl) | (simp [*, errW_none, errW_some] <;> rfl), by first | exact Kd.R_nil _ _ _ _ _ | exact Kd.N_nil _ _ _ _ _ | exact Kd.V_nil _ _ _ _ _ | exact Kd.Q_nil _ _ _ _ _ | exact Kd.S_nil _ _ _ _ _, by repeat (first | (with_reducible first | exact HB.out | apply below_alloc | apply pw_below_drewN | apply below_drew1) | exact HB.out)⟩
theorem bld_size : (Try.prog.info? 77).map (·.size) = some 2 := by kernel_rfl
theorem bld_lies : liesAt Try.prog Try.prog.depth 77 (2 / Try.prog.cellsOf 77) 0 77 1 = true := by kernel_rfl
theorem bld_byte : (Try.prog.info? 5).map (fun i => (i.zero, i.size, i.bytes)) = some (some (.int .u8 0), 1, 1) := by kernel_rfl
set_option maxHeartbeats 1000000 in
set_option maxRecDepth 100000 in
theorem bld_check_used (b : Nat) (w : World) (h0 : w.cell? ⟨b, 0, none⟩ = some (.pointer (some ⟨b, 0, none⟩))) :
  Calls Try.prog 86 #[.pointer (some ⟨b, 0, none⟩)] w fun e w' => e = .returned (.tuple #[]) ∧ w' = w := by
 obtain ⟨j, hj, _⟩ := Option.map_eq_some_iff.1 bld_size
 go_enter Try.func86, Try.ntmps86
 go_wp2
 rw [Lib.run_neq_ptr_same w _ Try.underlying74 hj]
 go_wp2
 go_end0
 exact ⟨rfl, rfl⟩
set_option maxHeartbeats 1000000 in
set_option maxRecDepth 100000 in
theorem bld_check_fresh (b : Nat) (w : World) (h0 : w.cell? ⟨b, 0, none⟩ = some (.pointer none)) (hsh : w.shape? b = some (77, 2)) (hfz : w.frozen? ⟨b, 0, none⟩ = false) :
  Calls Try.prog 86 #[.pointer (some ⟨b, 0, none⟩)] w fun e w' => e = .returned (.tuple #[]) ∧ w' = w.setCell ⟨b, 0, none⟩ (.pointer (some ⟨b, 0, none⟩)) := by
 obtain ⟨j, hj, hjs⟩ := Option.map_eq_some_iff.1 bld_size
 go_enter Try.func86, Try.ntmps86
 go_wp2
 rw [Lib.run_to_unsafe w ⟨b, 0, none⟩ Try.underlying74 Try.underlying101 hj (by rw [hjs]; decide) hsh (Nat.zero_lt_succ 1)]
 simp only [Result.andThen]
 rw [Oper.upon_value]
 go_wp2
 rw [run_callFunc_extern Try.func92 (by kernel_rfl) (by kernel_rfl) (by kernel_rfl) (e := Extern.AbiNoEscape.same) (by kernel_rfl)]
 rw [Lib.run_noEscape]
 simp only [Result.andThen]
 rw [Oper.upon_value]
 go_wp2
 rw [Lib.run_from_unsafe w ⟨b, 0, none⟩ Try.underlying101 Try.underlying74 hj hsh bld_lies]
 simp only [Result.andThen]
 rw [Oper.upon_value]
 go_wp2
 go_end0
 exact ⟨rfl, rfl⟩
theorem bld_new (B : Nat) (w : World) (h : B ≤ w.heap.size) : Lib.IsBuilder 77 5 B w.heap.size [] (w.alloc (.cells #[.pointer none, .slice none 0 0] 77)) :=
 .inl ⟨h, .slice none 0 0, blk_new _ _, own_nil _ _ _ _, by simp [Value.ownBlock]⟩
theorem strCells_bytes (s : ByteArray) : Lib.strCells s = Lib.byteCells s.data.toList := by rfl
theorem bld_below {B b : Nat} {bs : List Value} {w w1 : World} (h : Lib.IsBuilder 77 5 B b bs w) (hb : Below w.heap.size w w1) : Lib.IsBuilder 77 5 B b bs w1 := by
 rcases h with ⟨hB, v, hk, ho, hn⟩ | ⟨hB, v, hk, ho, hn⟩
 ·exact .inl ⟨hB, v, blk_below hk hb, pw_own_below ho hb, hn⟩
 ·exact .inr ⟨hB, v, blk_below hk hb, pw_own_below ho hb, hn⟩
theorem byteCells_append (l r : List UInt8) : Lib.byteCells (l ++ r) = Lib.byteCells l ++ Lib.byteCells r := by simp [Lib.byteCells]
def KeepT (t : Nat) (w w' : World) : Prop := ∀ (k : Nat) (cells : Array Value), w.heap[k]? = some (.cells cells t (0, 0)) → w'.heap[k]? = w.heap[k]?
theorem KeepT.refl (t : Nat) (w : World) : KeepT t w w := fun _ _ _ => rfl
theorem KeepT.trans {t : Nat} {w w1 w2 : World} (h : KeepT t w w1) (h2 : KeepT t w1 w2) : KeepT t w w2 := fun k cells hk => (h2 k cells ((h k cells hk).trans hk)).trans (h k cells hk)
theorem KeepT.set {t t' : Nat} {w : World} {b : Nat} {cs : Array Value} (hb : w.heap[b]? = some (.cells cs t' (0, 0))) (hne : t ≠ t') (j : Nat) (u : Value) : KeepT t w (w.setCell ⟨b, j, none⟩ u) := fun k cells hk => Below.heap_setCell w ⟨b, j, none⟩ u k (fun e => by
 subst e
 rw [hb] at hk
 injection hk with hk
 injection hk with _ h2 _
 exact hne h2.symm)
theorem KeepT.below {t : Nat} {w w1 : World} (hb : Below w.heap.size w w1) : KeepT t w w1 := fun k _ hk => hb.block k (blk_lt hk)
theorem KeepT.R_int {w w1 : World} {base : Nat} {ok : Nat → Prop} {v : Value} {xs : List Int} (h : Kd.R (Kd.int .i64) 3 w base ok v xs) (hk : KeepT 3 w w1) : Kd.R (Kd.int .i64) 3 w1 base ok v xs :=
 Kd.R_mono (Kd.R_move (Kd.R_bound h) (fun k hk2 => by
  obtain ⟨_, _, _, q, hq, cells, hc⟩ := hk2
  have e : q = 3 := by
   rcases List.mem_cons.1 hq with e | hq
   ·exact e
   ·exact absurd (show q ∈ ([] : List Nat) from hq) (by simp)
  subst e
  exact hk k cells hc)) (fun _ hk2 => hk2.1)
set_option maxHeartbeats 2000000 in
set_option maxRecDepth 100000 in
theorem bld_check_t (B b : Nat) (bs : List Value) (w : World) (h : Lib.IsBuilder 77 5 B b bs w) :
  Calls Try.prog 86 #[.pointer (some ⟨b, 0, none⟩)] w fun e w' => e = .returned (.tuple #[]) ∧ (Lib.BuilderAt 77 5 B b (.pointer (some ⟨b, 0, none⟩)) bs w' ∧ Below B w w' ∧ KeepT 3 w w') := by
 rcases h with h | h
 ·refine (bld_check_fresh b w h.cell0 h.shape h.frozen0).mono ?_
  rintro e w' ⟨rfl, rfl⟩
  have h2 := h
  obtain ⟨_, v, hbk, _, _⟩ := h2
  exact ⟨rfl, h.used _, (Below.refl B w).setCell (p := ⟨b, 0, none⟩) h.1 _, KeepT.set hbk (by decide) _ _⟩
 ·refine (bld_check_used b w h.cell0).mono ?_
  rintro e w' ⟨rfl, rfl⟩
  exact ⟨rfl, h, Below.refl B w', KeepT.refl _ _⟩
set_option maxHeartbeats 2000000 in
set_option maxRecDepth 100000 in
theorem bld_write_t (B b : Nat) (bs : List Value) (s : ByteArray) (w : World) (h : Lib.IsBuilder 77 5 B b bs w) (hlen : bs.length + s.size ≤ 140737488355328) (hBw : B ≤ w.heap.size) :
  Calls Try.prog 70 #[.pointer (some ⟨b, 0, none⟩), .string s] w fun e w' => e = .returned (.tuple #[.int .i64 s.size, .nilIface]) ∧ (Lib.IsBuilder 77 5 B b (bs ++ Lib.strCells s) w' ∧ Below B w w' ∧ KeepT 3 w w') := by
 obtain ⟨i0, hi, hz0, hz1, hz2⟩ := info_parts bld_byte
 go_enter Try.func70, Try.ntmps70
 go_wp2_with (go_at_call 86; refine (bld_check_t B b bs _ h).mono ?_)
 rintro e w1 ⟨rfl, h1, hb1, hk1⟩
 obtain ⟨hB, v, hbk, hown, hne⟩ := h1
 have c0 : w1.cell? ⟨b, 0, none⟩ = some (.pointer (some ⟨b, 0, none⟩)) := by rw [Lib.cell_of_heap hbk]; rfl
 have c1 : w1.cell? ⟨b, 1, none⟩ = some v := by rw [Lib.cell_of_heap hbk]; rfl
 go_wp2_with (at_builtin; refine Lib.wpList_append_own_string _ rfl _ _ 75 9 rfl B 5 i0 Try.underlying75 Try.underlying9 hi hz0 hz1 hz2 _ _ _ rfl hown s rfl ?c3 ?c4 ?c5 ?_)
 case c3 => unfold maxLen; omega
 case c4 => omega
 case c5 => have := hb1.size; omega
 intro v' w2 hown' hgrow _
 have hlt : b < w1.heap.size := blk_lt hbk
 have hk2 : KeepT 3 w1 w2 := fun k cells hk => hgrow.block k (blk_lt hk) (fun e => by
  obtain ⟨cells2, hc2⟩ := own_typed hown k e.symm
  rw [hk] at hc2
  injection hc2 with hc2
  injection hc2 with _ h2 _
  exact absurd h2 (by decide))
 have hb2 : w2.heap[b]? = some (.cells #[.pointer (some ⟨b, 0, none⟩), v] 77 (0, 0)) := by
  rw [hgrow.block b hlt (fun e => hne e.symm)]
  exact hbk
 have d1 : w2.cell? ⟨b, 1, none⟩ = some v := by rw [Lib.cell_of_heap hb2]; rfl
 have f1 : w2.frozen? ⟨b, 1, none⟩ = false := Lib.frozen_of_heap hb2 1
 obtain ⟨ao, n', cap, rfl⟩ : ∃ ao n' cap, v' = .slice ao n' cap := by
  rcases hown'.2 with ⟨hv, _⟩ | ⟨g, cap, cur, hv, _⟩
  ·exact ⟨_, _, _, hv⟩
  ·exact ⟨_, _, _, hv⟩
 go_wp2
 go_ret2
 refine ⟨rfl, ?_, ?_, ?_⟩
 ·exact .inr (Lib.BuilderAt.put (T := 77) (e := 5) hB hb2 (bs' := bs ++ Lib.strCells s) (by simpa [Lib.strCells_length] using hown') (by decide))
 ·exact (hb1.grown hgrow (by have := hb1.size; omega) (fun k hk => (hown.lt k hk).1)).setCell (p := ⟨b, 1, none⟩) hB _
 ·exact (hk1.trans hk2).trans (KeepT.set hb2 (by decide) _ _)
def impl_Texts.l0 : Nat → List (S44) → List Int → List UInt8 → Int → Option ByteArray
 | 0, _, _, _, _ => none
 | k + 1, l, o, acc, x => if x < (o.length : Int) then (if 0 ≤ x then (if 0 ≤ rd o x then (if rd o x < (l.length : Int) then (if (rd_T44 l (rd o x)).f0 = 3 then (if acc.length + (rd_T44 l (rd o x)).f4.size ≤ 140737488355328 then (impl_Texts.l0 k l o (acc ++ (rd_T44 l (rd o x)).f4.data.toList) (wrap64 (x + 1))) else none) else (impl_Texts.l0 k l o acc (wrap64 (x + 1)))) else none) else none) else none) else (some (⟨acc.toArray⟩ : ByteArray))
def impl_Texts.f (k : Nat) (l : List (S44)) : Option ByteArray := (impl_Order.f k l).bind fun o => impl_Texts.l0 k l o [] 0
theorem impl_Texts.mono_l : ∀ k, (∀ y0 y1 y2 y3, LeO (impl_Texts.l0 k y0 y1 y2 y3) (impl_Texts.l0 (k + 1) y0 y1 y2 y3))
 | 0 => fun _ _ _ _ r h => by simp [impl_Texts.l0] at h
 | k + 1 => by
  have ih0 := impl_Texts.mono_l k
  intro y0 y1 y2 y3
  unfold impl_Texts.l0
  repeat' first
    | (with_reducible exact ih0 _ _ _ _)
    | (with_reducible exact LeO.refl _)
    | (with_reducible exact LeO.none _)
    | (with_reducible refine LeO.ite ?_ ?_)
theorem impl_Texts.mono : ∀ a0 k, LeO (impl_Texts.f k a0) (impl_Texts.f (k + 1) a0) := fun a0 k => LeO.bind (impl_Order.mono _ _) (fun o => impl_Texts.mono_l k a0 o [] 0)
set_option maxHeartbeats 8000000 in
set_option maxRecDepth 100000 in
theorem impl_Texts.calls (k : Nat) (A0 : Option Addr) (c0 : Nat) (l0 : List (S44)) (r : ByteArray) (w : World) (hr0 : Kd.C k44 w A0 l0.length l0) (hc0 : l0.length ≤ c0) (h : impl_Texts.f k l0 = some r) :
  Calls Try.prog 31 #[.slice A0 l0.length c0] w fun e w' => e = .returned (.string r) ∧ Below w.heap.size w w' := by
 obtain ⟨o, AO0, h⟩ := Option.bind_eq_some_iff.mp h
 have AO := Aside0.mk AO0
 have H' := Aside0.mk h
 have HR := Aside0.mk hr0
 have HC := Aside0.mk hc0
 have HB := Aside0.mk ((Below.refl w.heap.size w).alloc (Nat.le_refl _) (.cells #[.pointer none, .slice none 0 0] 77))
 have HO := Aside0.mk (show Lib.IsBuilder 77 5 w.heap.size w.heap.size (Lib.byteCells []) _ from bld_new w.heap.size w (Nat.le_refl _))
 clear h AO0 hr0 hc0
 go_enter Try.func31, Try.ntmps31
 go_wp2_with (go_at_call 33; (refine (impl_Order.calls k A0 c0 l0 o _ (Kd.C_alloc HR.out _) HC.out AO.out).mono ?_); rintro e w1 ⟨v1, rfl, hR1, hb1⟩; obtain ⟨A1, c1, rfl⟩ := Kd.R_slice hR1; have HR1 := Aside0.mk hR1; have HB1 := Aside0.mk (below_step HB.out hb1); have HO1 := Aside0.mk (bld_below HO.out hb1); clear hR1 hb1)
 clear HB HO
 go_loopg [9] k (fun kq v9 w' => ∃ (acc : List UInt8) (x : Int), v9 = .int .i64 x ∧ Aside0 (impl_Texts.l0 kq l0 o acc x = some r) ∧ Aside0 (kq ≤ k) ∧ Aside0 (Lib.IsBuilder 77 5 w.heap.size w.heap.size (Lib.byteCells acc) w') ∧ Aside0 (Kd.R (Kd.int .i64) 3 w' (w.heap.size + 1) (fun _ => True) (.slice A1 o.length c1) o) ∧ Aside0 (Below w.heap.size w w'))
 case atStart => exact ⟨[], 0, rfl, H', ⟨Nat.le_refl _⟩, HO1, ⟨by simpa using HR1.out⟩, HB1⟩
 case round =>
  clear H' HO1 HB1 HR1
  obtain ⟨acc, x, rfl, HA, HK1, HO, HRO, HB⟩ := hrel
  cases gk with
  | zero => exact absurd HA.out (by simp [impl_Texts.l0])
  | succ k1 =>
   have H := HA.out
   clear HA
   simp only [impl_Texts.l0] at H
   by_cases c1 : x < (o.length : Int)
   ·rw [if_pos c1] at H
    have c1b0 : decide (x < (o.length : Int)) = true := decide_eq_true c1
    by_cases c2 : 0 ≤ x
    rotate_left
    ·rw [if_neg c2] at H; exact absurd H (by simp)
    rw [if_pos c2] at H
    by_cases c3 : 0 ≤ rd o x
    rotate_left
    ·rw [if_neg c3] at H; exact absurd H (by simp)
    rw [if_pos c3] at H
    by_cases c4 : rd o x < (l0.length : Int)
    rotate_left
    ·rw [if_neg c4] at H; exact absurd H (by simp)
    rw [if_pos c4] at H
    obtain ⟨ad5, e5, hx5⟩ := Kd.at_int (Kd.R_reads' HRO.out).2.2 x c2 c1
    cases e5
    obtain ⟨ad288, A288_3, c288_3, A288_6, c288_6, e288, hx288_0, hx288_1, hx288_2, hx288_3, hx288_4, hx288_5, hx288_6, hl288_3, hi288_3, hl288_6, hi288_6⟩ := at_T44 (Kd.C_below HR.out HB.out) (rd o x) c3 c4
    cases e288
    clear hi288_3 hi288_6 hl288_3 hl288_6 hx288_1 hx288_2 hx288_3 hx288_5 hx288_6
    replace c1 := eq_true c1
    replace c2 := eq_true c2
    replace c3 := eq_true c3
    replace c4 := eq_true c4
    by_cases c5 : (rd_T44 l0 (rd o x)).f0 = 3
    ·rw [if_pos c5] at H
     have c5b0 : ((rd_T44 l0 (rd o x)).f0 == 3) = true := beq_iff_eq.mpr c5
     clear c5
     by_cases c6 : acc.length + (rd_T44 l0 (rd o x)).f4.size ≤ 140737488355328
     rotate_left
     ·rw [if_neg c6] at H; exact absurd H (by simp)
     rw [if_pos c6] at H
     have LN := Aside0.mk (show (Lib.byteCells acc).length + (rd_T44 l0 (rd o x)).f4.size ≤ 140737488355328 by rw [Lib.byteCells_length]; exact c6)
     have H' := Aside0.mk H
     clear H c6
     go_wp2_with (go_at_call 70; refine (bld_write_t w.heap.size w.heap.size _ (rd_T44 l0 (rd o x)).f4 _ HO.out LN.out HB.out.size).mono ?_; rintro e w2 ⟨rfl, hk2, hb2, ht2⟩; have HO2 := Aside0.mk hk2; have HB2 := Aside0.mk (HB.out.trans hb2); have HR2 := Aside0.mk (KeepT.R_int HRO.out ht2); clear hk2 hb2 ht2)
     go_roundg k1
     case measure => have := HK1.out; omega
     case rel => exact ⟨acc ++ (rd_T44 l0 (rd o x)).f4.data.toList, wrap64 (x + 1), by first | rfl | (simp; done), H', ⟨by have := HK1.out; omega⟩, ⟨by have e := HO2.out; rw [strCells_bytes, ← byteCells_append] at e; exact e⟩, HR2, HB2⟩
    ·rw [if_neg c5] at H
     have c5b0 : ((rd_T44 l0 (rd o x)).f0 == 3) = false := beq_eq_false_iff_ne.mpr c5
     clear c5
     have H' := Aside0.mk H
     clear H
     go_wp2
     go_roundg k1
     case measure => have := HK1.out; omega
     case rel => exact ⟨acc, wrap64 (x + 1), by first | rfl | (simp; done), H', ⟨by have := HK1.out; omega⟩, HO, HRO, HB⟩
   ·rw [if_neg c1] at H
    have c1b0 : decide (x < (o.length : Int)) = false := decide_eq_false c1
    clear c1
    obtain rfl := Option.some.inj H
    go_wp2_with (go_at_call 71; refine (Try.Builder_String_any w.heap.size w.heap.size _ _ HO.out HB.out.size).mono ?_; rintro e w1 ⟨rfl, hb1⟩)
    go_ret
    exact ⟨rfl, HB.out.trans hb1⟩
end Go.Proofs.Ytbgedpicfllclaa.PFnExactTexts
