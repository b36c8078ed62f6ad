-- Written by this session's program wip/slim.py: the print's texts (with contracts of our own), only what this row needs, shortened. Lean checks it.
import Derived.Test.YtbgedpicfllclaaSFnExactOrderx0
import Derived.Test.YtbgedpicfllclaaSFnExactOrderx1
import Derived.Test.YtbgedpicfllclaaSFnExactOrderx2
import Derived.Test.YtbgedpicfllclaaSFnExactOrderx3
import Derived.Test.YtbgedpicfllclaaSFnExactOrderx4
import Derived.Test.YtbgedpicfllclaaSFnExactOrderx7
import Derived.Test.YtbgedpicfllclaaSFnExactOrderx8
import Derived.Test.YtbgedpicfllclaaSFnExactOrderx9
namespace Go.Proofs.Ytbgedpicfllclaa.PFnExactOrder
open Go.RowKit Go.Proofs.YtbgedpicfllclaaW.PrintWords Go.Proofs.YtbgedpicfllclaaW.PrintLast Go.Proofs.YtbgedpicfllclaaW.PrintMore
attribute [local go_sem] max2_int min2_int max_two min_two max_three min_three max_four min_four   -- for this text's walks alone
set_option linter.unusedVariables false
set_option linter.unusedSimpArgs false
mutual
def impl_TreeOk.j0 : Nat → List (S44) → Bool → Option (Bool)
 | 0, _, _ => none
 | k + 1, x0, x15 => if x15 = true then (some false) else (if 1 ≤ (x0.length : Int) then ((some (x0.drop 1 : List (S44))).bind fun y266 => (impl_TreeOk.l0 k x0 y266 (y266.length : Int) 0)) else (none))
def impl_TreeOk.l0 : Nat → List (S44) → List (S44) → Int → Int → Option (Bool)
 | 0, _, _, _, _ => none
 | k + 1, x0, x17, x18, x19 => if x19 < x18 then (if 0 ≤ x19 then (if x19 < (x17.length : Int) then ((impl_itemOk.f k ((rd_T44 x17 x19).f0) ((rd_T44 x17 x19).f1) ((rd_T44 x17 x19).f2) ((rd_T44 x17 x19).f3) ((rd_T44 x17 x19).f4) ((rd_T44 x17 x19).f5) ((rd_T44 x17 x19).f6)).bind fun t276 => (if t276 = true then ((impl_inRange.f ((rd_T44 x17 x19).f5) 0 (wrap64 ((x0.length : Int) - 1))).bind fun t277 => (if t277 = true then (if 0 ≤ ((rd_T44 x17 x19).f5) then (if ((rd_T44 x17 x19).f5) < (x0.length : Int) then ((impl_hasKids.f ((rd_T44 x0 ((rd_T44 x17 x19).f5)).f0)).bind fun t279 => (if t279 = true then (impl_TreeOk.l0 k x0 x17 x18 (wrap64 (x19 + 1))) else (some false))) else (none)) else (none)) else (some false))) else (some false))) else (none)) else (none)) else ((impl_kidsOk.f k x0).bind fun t270 => (if t270 = true then ((impl_order.f k x0).bind fun t271 => (some ((t271.length : Int) == (x0.length : Int)))) else (some false)))
end
def impl_TreeOk.f (k : Nat) (l0 : List (S44)) : Option (Bool) := (impl_inRange.f (l0.length : Int) 1 3000).bind fun t263 => (if t263 = true then (if 0 < (l0.length : Int) then ((impl_pageOk.f ((rd_T44 l0 0).f0) ((rd_T44 l0 0).f1) ((rd_T44 l0 0).f2) ((rd_T44 l0 0).f3) ((rd_T44 l0 0).f4) ((rd_T44 l0 0).f5) ((rd_T44 l0 0).f6)).bind fun t265 => (impl_TreeOk.j0 k l0 (!t265))) else (none)) else (impl_TreeOk.j0 k l0 true))
theorem impl_TreeOk.mono_l : ∀ k, (∀ y0 y1, LeO (impl_TreeOk.j0 k y0 y1) (impl_TreeOk.j0 (k + 1) y0 y1)) ∧ (∀ y0 y1 y2 y3, LeO (impl_TreeOk.l0 k y0 y1 y2 y3) (impl_TreeOk.l0 (k + 1) y0 y1 y2 y3))
 | 0 => ⟨fun _ _ r h => by simp [impl_TreeOk.j0] at h, fun _ _ _ _ r h => by simp [impl_TreeOk.l0] at h⟩
 | k + 1 => by
  obtain ⟨ih0, ih1⟩ := impl_TreeOk.mono_l k
  refine ⟨?_, ?_⟩
  ·intro y0 y1
   unfold impl_TreeOk.j0
   repeat' first
   | (with_reducible exact ih0 _ _)
   | (with_reducible exact ih1 _ _ _ _)
   | (with_reducible exact impl_itemOk.mono _ _ _ _ _ _ _ _)
   | (with_reducible exact impl_kidsOk.mono _ _)
   | (with_reducible exact impl_order.mono _ _)
   | (with_reducible exact LeO.refl _)
   | (with_reducible exact LeO.none _)
   | (with_reducible refine LeO.ite ?_ ?_)
   | (with_reducible refine LeO.bind ?_ (fun _ => ?_))
   | exact ih0 _ _
   | exact ih1 _ _ _ _
   | exact impl_itemOk.mono _ _ _ _ _ _ _ _
   | exact impl_kidsOk.mono _ _
   | exact impl_order.mono _ _
   | exact LeO.none _
   | refine LeO.ite ?_ ?_
   | refine LeO.bind ?_ (fun _ => ?_)
  ·intro y0 y1 y2 y3
   unfold impl_TreeOk.l0
   repeat' first
   | (with_reducible exact ih0 _ _)
   | (with_reducible exact ih1 _ _ _ _)
   | (with_reducible exact impl_itemOk.mono _ _ _ _ _ _ _ _)
   | (with_reducible exact impl_kidsOk.mono _ _)
   | (with_reducible exact impl_order.mono _ _)
   | (with_reducible exact LeO.refl _)
   | (with_reducible exact LeO.none _)
   | (with_reducible refine LeO.ite ?_ ?_)
   | (with_reducible refine LeO.bind ?_ (fun _ => ?_))
   | exact ih0 _ _
   | exact ih1 _ _ _ _
   | exact impl_itemOk.mono _ _ _ _ _ _ _ _
   | exact impl_kidsOk.mono _ _
   | exact impl_order.mono _ _
   | exact LeO.none _
   | refine LeO.ite ?_ ?_
   | refine LeO.bind ?_ (fun _ => ?_)
theorem impl_TreeOk.mono : ∀ a0 k, LeO (impl_TreeOk.f k a0) (impl_TreeOk.f (k + 1) a0) := by
 intro a0 k
 obtain ⟨ih0, ih1⟩ := impl_TreeOk.mono_l k
 unfold impl_TreeOk.f
 repeat' first
   | (with_reducible exact ih0 _ _)
   | (with_reducible exact ih1 _ _ _ _)
   | (with_reducible exact impl_itemOk.mono _ _ _ _ _ _ _ _)
   | (with_reducible exact impl_kidsOk.mono _ _)
   | (with_reducible exact impl_order.mono _ _)
   | (with_reducible exact LeO.refl _)
   | (with_reducible exact LeO.none _)
   | (with_reducible refine LeO.ite ?_ ?_)
   | (with_reducible refine LeO.bind ?_ (fun _ => ?_))
   | exact ih0 _ _
   | exact ih1 _ _ _ _
   | exact impl_itemOk.mono _ _ _ _ _ _ _ _
   | exact impl_kidsOk.mono _ _
   | exact impl_order.mono _ _
   | exact LeO.none _
   | refine LeO.ite ?_ ?_
   | refine LeO.bind ?_ (fun _ => ?_)
set_option maxHeartbeats 8000000 in
set_option maxRecDepth 100000 in
theorem impl_TreeOk.calls (k : Nat) (A0 : Option Addr) (c0 : Nat) (l0 : List (S44)) (r : Bool) (w : World) (hr0 : Kd.C k44 w A0 l0.length l0) (hc0 : l0.length ≤ c0) (h : impl_TreeOk.f k l0 = some r) :
  Calls Try.prog 27 #[.slice A0 l0.length c0] w fun e w' => e = .returned (.bool r) ∧ Below w.heap.size w w' := by
 have hu44 := Try.underlying44
 have HR0 := Aside0.mk hr0
 have HC0 := Aside0.mk hc0
 clear hr0 hc0
 have HB := Aside0.mk (Below.refl w.heap.size w)
 have H : ((impl_inRange.f (l0.length : Int) 1 3000).bind fun t263 => (if t263 = true then (if 0 < (l0.length : Int) then ((impl_pageOk.f ((rd_T44 l0 0).f0) ((rd_T44 l0 0).f1) ((rd_T44 l0 0).f2) ((rd_T44 l0 0).f3) ((rd_T44 l0 0).f4) ((rd_T44 l0 0).f5) ((rd_T44 l0 0).f6)).bind fun t265 => (impl_TreeOk.j0 k l0 (!t265))) else (none)) else (impl_TreeOk.j0 k l0 true))) = some r := h
 clear h
 have HC2 := Aside0.mk H
 clear H
 go_enter Try.func27, Try.ntmps27
 go_upto_region 1 with (fail)
 go_cut [15] (fun v15 wc => ∃ (kq : Nat) (x15_1 : Bool), v15 = .bool x15_1 ∧ Aside0 (impl_TreeOk.j0 kq l0 x15_1 = some r) ∧ Aside0 (kq ≤ k) ∧ Aside0 (Below w.heap.size w wc))
 case first =>
  have H := HC2.out
  clear HC2
  replace H := Option.bind_eq_some_iff.mp H
  obtain ⟨t263, A30, H⟩ := H
  replace H : (if t263 = true then (if 0 < (l0.length : Int) then ((impl_pageOk.f ((rd_T44 l0 0).f0) ((rd_T44 l0 0).f1) ((rd_T44 l0 0).f2) ((rd_T44 l0 0).f3) ((rd_T44 l0 0).f4) ((rd_T44 l0 0).f5) ((rd_T44 l0 0).f6)).bind fun t265 => (impl_TreeOk.j0 k l0 (!t265))) else (none)) else (impl_TreeOk.j0 k l0 true)) = some r := H
  have A3 := Aside0.mk A30
  clear A30
  by_cases c4 : t263 = true
  ·subst c4
   have H1 : (if 0 < (l0.length : Int) then ((impl_pageOk.f ((rd_T44 l0 0).f0) ((rd_T44 l0 0).f1) ((rd_T44 l0 0).f2) ((rd_T44 l0 0).f3) ((rd_T44 l0 0).f4) ((rd_T44 l0 0).f5) ((rd_T44 l0 0).f6)).bind fun t265 => (impl_TreeOk.j0 k l0 (!t265))) else (none)) = some r := by rw [if_pos rfl] at H; exact H
   clear H
   have H := H1
   clear H1
   by_cases c5 : 0 < (l0.length : Int)
   ·rw [if_pos c5] at H
    have c5b0 : decide (0 < (l0.length : Int)) = true := decide_eq_true c5
    have c5b1 : decide (0 < l0.length) = true := decide_eq_true (by omega)
    clear c5
    (first | rw [c5b0] | (simp only [i64_w, i32_w]; rw [c5b0]) | skip)
    replace H := Option.bind_eq_some_iff.mp H
    obtain ⟨t265, A60, H⟩ := H
    replace H : (impl_TreeOk.j0 k l0 (!t265)) = some r := H
    have A6 := Aside0.mk A60
    clear A60
    have H' := Aside0.mk H
    clear H
    go_wp2_with (first | ((with_reducible refine gate_callee (f := 55) rfl ?_); refine goesL_ (some 7) rfl rfl Try.func55 (by kernel_rfl) rfl #[.int .i64 (l0.length : Int), .int .i64 1, .int .i64 3000] rfl (by (try simp only [List.map_toArray, List.map_cons, List.map_nil]); first | done | rfl | (simp only [List.length_drop, List.length_take]; rfl)) ?_; (with_reducible refine (impl_inRange.calls (l0.length : Int) 1 3000 true _ A3.out).mono ?_); rintro e w' ⟨rfl, ⟨nd, rfl⟩⟩; refine ⟨_, rfl, ?_⟩; have p264 : 0 ≤ (0 : Int) := (by omega); have q264 : 0 < (l0.length : Int) := of_decide_eq_true (by first | (with_reducible assumption) | assumption); obtain ⟨ad264, A264_3, c264_3, A264_6, c264_6, e264, hx264_0, hx264_1, hx264_2, hx264_3, hx264_4, hx264_5, hx264_6, hl264_3, hi264_3, hl264_6, hi264_6⟩ := at_T44 HR0.out 0 p264 q264; cases e264; have qi264 : (0 < l0.length) = True := eq_true (by omega); (try rw [show ((0 : Int)).toNat = 0 from rfl] at hx264_0); (try rw [show 0 * 7 = 0 from rfl] at hx264_0); (try rw [Addr.add_zero'] at hx264_0); (try rw [show ((0 : Int)).toNat = 0 from rfl] at hx264_1); (try rw [show 0 * 7 = 0 from rfl] at hx264_1); (try rw [Addr.add_zero'] at hx264_1); (try rw [show ((0 : Int)).toNat = 0 from rfl] at hx264_2); (try rw [show 0 * 7 = 0 from rfl] at hx264_2); (try rw [Addr.add_zero'] at hx264_2); (try rw [show ((0 : Int)).toNat = 0 from rfl] at hx264_3); (try rw [show 0 * 7 = 0 from rfl] at hx264_3); (try rw [Addr.add_zero'] at hx264_3); (try rw [show ((0 : Int)).toNat = 0 from rfl] at hx264_4); (try rw [show 0 * 7 = 0 from rfl] at hx264_4); (try rw [Addr.add_zero'] at hx264_4); (try rw [show ((0 : Int)).toNat = 0 from rfl] at hx264_5); (try rw [show 0 * 7 = 0 from rfl] at hx264_5); (try rw [Addr.add_zero'] at hx264_5); (try rw [show ((0 : Int)).toNat = 0 from rfl] at hx264_6); (try rw [show 0 * 7 = 0 from rfl] at hx264_6); (try rw [Addr.add_zero'] at hx264_6); replace hx264_0 := (HB.out.cell (World.block_lt_of_cell? w _ hx264_0)).trans hx264_0; replace hx264_1 := (HB.out.cell (World.block_lt_of_cell? w _ hx264_1)).trans hx264_1; replace hx264_2 := (HB.out.cell (World.block_lt_of_cell? w _ hx264_2)).trans hx264_2; replace hx264_3 := (HB.out.cell (World.block_lt_of_cell? w _ hx264_3)).trans hx264_3; replace hx264_4 := (HB.out.cell (World.block_lt_of_cell? w _ hx264_4)).trans hx264_4; replace hx264_5 := (HB.out.cell (World.block_lt_of_cell? w _ hx264_5)).trans hx264_5; replace hx264_6 := (HB.out.cell (World.block_lt_of_cell? w _ hx264_6)).trans hx264_6; have HR264_3 := Aside0.mk hi264_3; have HC264_3 := Aside0.mk hl264_3; clear hi264_3 hl264_3; have HR264_6 := Aside0.mk hi264_6; have HC264_6 := Aside0.mk hl264_6; clear hi264_6 hl264_6; replace p264 := eq_true p264; replace q264 := eq_true q264) | (go_at_call 65; (with_reducible refine (impl_pageOk.calls ((rd_T44 l0 0).f0) ((rd_T44 l0 0).f1) ((rd_T44 l0 0).f2) _ _ ((rd_T44 l0 0).f3) ((rd_T44 l0 0).f4) ((rd_T44 l0 0).f5) _ _ ((rd_T44 l0 0).f6) t265 _ ?side1 ?side2 ?side3 ?side4 A6.out).mono ?_); (case side1 => repeat (first | exact (Kd.C_below HR264_3.out (by repeat (first | (with_reducible first | exact HB.out | apply below_alloc | apply pw_below_drewN | apply below_drew1) | exact HB.out))) | (with_reducible refine Kd.C_alloc ?_ _) | (with_reducible refine Kd.C_drewN ?_ _) | (with_reducible refine Kd.C_drew ?_))); (case side2 => exact HC264_3.out); (case side3 => repeat (first | exact (Kd.C_below HR264_6.out (by repeat (first | (with_reducible first | exact HB.out | apply below_alloc | apply pw_below_drewN | apply below_drew1) | exact HB.out))) | (with_reducible refine Kd.C_alloc ?_ _) | (with_reducible refine Kd.C_drewN ?_ _) | (with_reducible refine Kd.C_drew ?_))); (case side4 => exact HC264_6.out); rintro e w7 ⟨rfl, hb⟩; have n0_ := Aside0.mk (below_step (by repeat (first | (with_reducible first | exact HB.out | apply below_alloc | apply pw_below_drewN | apply below_drew1) | exact HB.out)) hb); clear HB; have HB := n0_; clear n0_; (try clear hb); (try clear hb2); (try clear hk); (try clear hi)))
    go_meet
    case rel => exact ⟨_, (!t265), (by first | rfl | (simp; done) | (simp [*]; done)), H', ⟨by first | omega | exact Nat.le_refl _⟩, ⟨by repeat (first | (with_reducible first | exact HB.out | apply below_alloc | apply pw_below_drewN | apply below_drew1) | exact HB.out)⟩⟩
   ·rw [if_neg c5] at H
    exact absurd H (by simp)
  ·replace c4 := Bool.eq_false_iff.mpr c4
   subst c4
   have H1 : (impl_TreeOk.j0 k l0 true) = some r := by rw [if_neg (show ¬ (false = true) by decide)] at H; exact H
   clear H
   have H := H1
   clear H1
   have H' := Aside0.mk H
   clear H
   go_wp2_with (first | ((with_reducible refine gate_callee (f := 55) rfl ?_); refine goesL_ (some 7) rfl rfl Try.func55 (by kernel_rfl) rfl #[.int .i64 (l0.length : Int), .int .i64 1, .int .i64 3000] rfl (by (try simp only [List.map_toArray, List.map_cons, List.map_nil]); first | done | rfl | (simp only [List.length_drop, List.length_take]; rfl)) ?_; (with_reducible refine (impl_inRange.calls (l0.length : Int) 1 3000 false _ A3.out).mono ?_); rintro e w' ⟨rfl, ⟨nd, rfl⟩⟩; refine ⟨_, rfl, ?_⟩))
   go_meet
   case rel => exact ⟨_, (true), (by first | rfl | (simp; done) | (simp [*]; done)), H', ⟨by first | omega | exact Nat.le_refl _⟩, ⟨by repeat (first | (with_reducible first | exact HB.out | apply below_alloc | apply pw_below_drewN | apply below_drew1) | exact HB.out)⟩⟩
 case rest =>
  clear HC2
  try clear c2
  try clear p2
  try clear q2
  try clear hx2
  try clear qi2
  try clear c4
  try clear c5
  try clear c5b0
  try clear c5b1
  try clear hx264_0
  try clear hx264_1
  try clear hx264_2
  try clear hx264_3
  try clear hx264_4
  try clear hx264_5
  try clear hx264_6
  try clear p264
  try clear q264
  obtain ⟨kq, x15_1, rfl, HA, HJ1, HB⟩ := hcut
  cases kq with
  | zero => exact absurd HA.out (by simp [impl_TreeOk.j0])
  | succ kj1 =>
   have H := HA.out
   clear HA
   simp only [impl_TreeOk.j0] at H
   by_cases c8 : x15_1 = true
   ·subst c8
    have H1 : (some false) = some r := by rw [if_pos rfl] at H; exact H
    clear H
    have H := H1
    clear H1
    obtain rfl := Option.some.inj H
    go_wp2
    go_ret
    exact ⟨by first | rfl | (simp [errW_none, errW_some] <;> rfl) | (simp [*, errW_none, errW_some] <;> rfl), by repeat (first | (with_reducible first | exact HB.out | apply below_alloc | apply pw_below_drewN | apply below_drew1) | exact HB.out)⟩
   ·replace c8 := Bool.eq_false_iff.mpr c8
    subst c8
    have H1 : (if 1 ≤ (l0.length : Int) then ((some (l0.drop 1 : List (S44))).bind fun y266 => (impl_TreeOk.l0 kj1 l0 y266 (y266.length : Int) 0)) else (none)) = some r := by rw [if_neg (show ¬ (false = true) by decide)] at H; exact H
    clear H
    have H := H1
    clear H1
    by_cases c9 : 1 ≤ (l0.length : Int)
    ·rw [if_pos c9] at H
     have c9b0 := eq_true c9
     have c9b1 : decide (1 ≤ (l0.length : Int)) = true := decide_eq_true c9
     clear c9
     obtain ⟨y266, hy266⟩ : ∃ y_ : List (S44), y_ = (l0.drop 1) := ⟨_, rfl⟩
     replace H : (impl_TreeOk.l0 kj1 l0 y266 (y266.length : Int) 0) = some r := by first | (rw [hy266]; with_reducible exact H) | (have H2_ := (Option.bind_some _ _).symm.trans H; rw [hy266]; with_reducible exact H2_) | (have H2_ := (Option.bind_some _ _).symm.trans H; with_reducible exact H2_) | with_reducible exact H | (rw [hy266]; exact H) | exact H
     have Ny266 := Aside0.mk hy266
     clear hy266
     have H' := Aside0.mk H
     clear H
     have q10 : (1 : Int) ≤ ((l0.length : Int) : Int) := of_decide_eq_true (by first | (with_reducible assumption) | assumption)
     obtain ⟨i010, hi010, _, hsz10, _⟩ := info_parts info44
     have hroom10 : l0.length ≤ c0 := HC0.out
     have hC10 : Kd.C k44 _ A0 l0.length l0 := HR0.out
     have hcut10 := cut_from (P := Try.prog) 28 44 .i64 Try.underlying28 hi010 7 hsz10 A0 l0.length c0 1 (by omega) q10
     have hr10 := Kd.C_drop (m := (1 : Int).toNat) (c := c0) hC10 (by omega) hroom10
     obtain ⟨A10, hA10⟩ : ∃ A1, A1 = (if c0 = (1 : Int).toNat then A0 else (A0 : Option Addr).map (·.add ((1 : Int).toNat * 7))) := ⟨_, rfl⟩
     obtain ⟨c10, hc10⟩ : ∃ c1, c1 = c0 - (1 : Int).toNat := ⟨_, rfl⟩
     have hy10 : y266.length = l0.length - (1 : Int).toNat := (by rw [Ny266.out, List.length_drop] <;> omega)
     rw [show (l0).drop (1 : Int).toNat = y266 from Ny266.out.symm] at hr10
     replace hr10 : Kd.C k44 _ A10 y266.length y266 := (by rw [hA10]; exact hr10)
     rw [← hy10, ← hA10, ← hc10] at hcut10
     have HR269 := Aside0.mk hr10
     have HC269 := Aside0.mk (show y266.length ≤ c10 from by rw [hy10, hc10]; exact Nat.sub_le_sub_right hroom10 _)
     clear hr10 hC10 hroom10 hi010 hsz10 hc10
     have KY10 := Aside0.mk hy10
     have KA10 := Aside0.mk hA10
     clear hy10 hA10
     replace q10 := eq_true q10
     go_wp2
     go_loopg [19] kj1 (fun kq v19 w' => ∃ (x19_2 : Int), v19 = .int .i64 x19_2 ∧ Aside0 (impl_TreeOk.l0 kq l0 y266 (y266.length : Int) x19_2 = some r) ∧ Aside0 (kq ≤ kj1) ∧ Aside0 (Below w.heap.size w w'))
     case atStart => exact ⟨(0), (by first | rfl | (simp; done) | (simp [*]; done)), H', ⟨Nat.le_refl _⟩, ⟨by repeat (first | (with_reducible first | exact HB.out | apply below_alloc | apply pw_below_drewN | apply below_drew1) | exact HB.out)⟩⟩
     case round =>
      clear H'
      try clear c1
      try clear q1
      try clear c2
      try clear p2
      try clear q2
      try clear hx2
      try clear qi2
      try clear c4
      try clear c5
      try clear c5b0
      try clear c5b1
      try clear c8
      try clear c9
      try clear c9b0
      try clear c9b1
      try clear c10
      try clear q10
      try clear hx264_0
      try clear hx264_1
      try clear hx264_2
      try clear hx264_3
      try clear hx264_4
      try clear hx264_5
      try clear hx264_6
      try clear p2
      try clear p264
      try clear q10
      try clear q2
      try clear q264
      obtain ⟨x19_2, rfl, HA, HK2, HB⟩ := hrel
      cases gk with
      | zero => exact absurd HA.out (by simp [impl_TreeOk.l0])
      | succ k2 =>
       have H := HA.out
       clear HA
       simp only [impl_TreeOk.l0] at H
       by_cases c11 : x19_2 < (y266.length : Int)
       ·rw [if_pos c11] at H
        have c11b0 : decide (x19_2 < (y266.length : Int)) = true := decide_eq_true c11
        clear c11
        by_cases c12 : 0 ≤ x19_2
        ·rw [if_pos c12] at H
         have c12b0 : decide (0 ≤ x19_2) = true := decide_eq_true c12
         clear c12
         by_cases c13 : x19_2 < (y266.length : Int)
         ·rw [if_pos c13] at H
          have c13b0 : decide (x19_2 < (y266.length : Int)) = true := decide_eq_true c13
          clear c13
          replace H := Option.bind_eq_some_iff.mp H
          obtain ⟨t276, A140, H⟩ := H
          replace H : (if t276 = true then ((impl_inRange.f ((rd_T44 y266 x19_2).f5) 0 (wrap64 ((l0.length : Int) - 1))).bind fun t277 => (if t277 = true then (if 0 ≤ ((rd_T44 y266 x19_2).f5) then (if ((rd_T44 y266 x19_2).f5) < (l0.length : Int) then ((impl_hasKids.f ((rd_T44 l0 ((rd_T44 y266 x19_2).f5)).f0)).bind fun t279 => (if t279 = true then (impl_TreeOk.l0 k2 l0 y266 (y266.length : Int) (wrap64 (x19_2 + 1))) else (some false))) else (none)) else (none)) else (some false))) else (some false)) = some r := H
          have A14 := Aside0.mk A140
          clear A140
          by_cases c15 : t276 = true
          ·subst c15
           have H1 : ((impl_inRange.f ((rd_T44 y266 x19_2).f5) 0 (wrap64 ((l0.length : Int) - 1))).bind fun t277 => (if t277 = true then (if 0 ≤ ((rd_T44 y266 x19_2).f5) then (if ((rd_T44 y266 x19_2).f5) < (l0.length : Int) then ((impl_hasKids.f ((rd_T44 l0 ((rd_T44 y266 x19_2).f5)).f0)).bind fun t279 => (if t279 = true then (impl_TreeOk.l0 k2 l0 y266 (y266.length : Int) (wrap64 (x19_2 + 1))) else (some false))) else (none)) else (none)) else (some false))) = some r := by rw [if_pos rfl] at H; exact H
           clear H
           have H := H1
           clear H1
           replace H := Option.bind_eq_some_iff.mp H
           obtain ⟨t277, A160, H⟩ := H
           replace H : (if t277 = true then (if 0 ≤ ((rd_T44 y266 x19_2).f5) then (if ((rd_T44 y266 x19_2).f5) < (l0.length : Int) then ((impl_hasKids.f ((rd_T44 l0 ((rd_T44 y266 x19_2).f5)).f0)).bind fun t279 => (if t279 = true then (impl_TreeOk.l0 k2 l0 y266 (y266.length : Int) (wrap64 (x19_2 + 1))) else (some false))) else (none)) else (none)) else (some false)) = some r := H
           have A16 := Aside0.mk A160
           clear A160
           by_cases c17 : t277 = true
           ·subst c17
            have H1 : (if 0 ≤ ((rd_T44 y266 x19_2).f5) then (if ((rd_T44 y266 x19_2).f5) < (l0.length : Int) then ((impl_hasKids.f ((rd_T44 l0 ((rd_T44 y266 x19_2).f5)).f0)).bind fun t279 => (if t279 = true then (impl_TreeOk.l0 k2 l0 y266 (y266.length : Int) (wrap64 (x19_2 + 1))) else (some false))) else (none)) else (none)) = some r := by rw [if_pos rfl] at H; exact H
            clear H
            have H := H1
            clear H1
            by_cases c18 : 0 ≤ ((rd_T44 y266 x19_2).f5)
            ·rw [if_pos c18] at H
             have c18b0 : decide (0 ≤ ((rd_T44 y266 x19_2).f5)) = true := decide_eq_true c18
             clear c18
             by_cases c19 : ((rd_T44 y266 x19_2).f5) < (l0.length : Int)
             ·rw [if_pos c19] at H
              have c19b0 : decide (((rd_T44 y266 x19_2).f5) < (l0.length : Int)) = true := decide_eq_true c19
              clear c19
              replace H := Option.bind_eq_some_iff.mp H
              obtain ⟨t279, A200, H⟩ := H
              replace H : (if t279 = true then (impl_TreeOk.l0 k2 l0 y266 (y266.length : Int) (wrap64 (x19_2 + 1))) else (some false)) = some r := H
              have A20 := Aside0.mk A200
              clear A200
              by_cases c21 : t279 = true
              ·subst c21
               have H1 : (impl_TreeOk.l0 k2 l0 y266 (y266.length : Int) (wrap64 (x19_2 + 1))) = some r := by rw [if_pos rfl] at H; exact H
               clear H
               have H := H1
               clear H1
               have H' := Aside0.mk H
               clear H
               have p274 : 0 ≤ (x19_2 : Int) := of_decide_eq_true (by first | (with_reducible assumption) | assumption)
               have q274 : x19_2 < (y266.length : Int) := of_decide_eq_true (by first | (with_reducible assumption) | assumption)
               obtain ⟨ad274, A274_3, c274_3, A274_6, c274_6, e274, hx274_0, hx274_1, hx274_2, hx274_3, hx274_4, hx274_5, hx274_6, hl274_3, hi274_3, hl274_6, hi274_6⟩ := at_T44 HR269.out x19_2 p274 q274
               cases e274
               replace hx274_0 := (HB.out.cell (World.block_lt_of_cell? w _ hx274_0)).trans hx274_0
               replace hx274_1 := (HB.out.cell (World.block_lt_of_cell? w _ hx274_1)).trans hx274_1
               replace hx274_2 := (HB.out.cell (World.block_lt_of_cell? w _ hx274_2)).trans hx274_2
               replace hx274_3 := (HB.out.cell (World.block_lt_of_cell? w _ hx274_3)).trans hx274_3
               replace hx274_4 := (HB.out.cell (World.block_lt_of_cell? w _ hx274_4)).trans hx274_4
               replace hx274_5 := (HB.out.cell (World.block_lt_of_cell? w _ hx274_5)).trans hx274_5
               replace hx274_6 := (HB.out.cell (World.block_lt_of_cell? w _ hx274_6)).trans hx274_6
               have HR274_3 := Aside0.mk hi274_3
               have HC274_3 := Aside0.mk hl274_3
               clear hi274_3 hl274_3
               have HR274_6 := Aside0.mk hi274_6
               have HC274_6 := Aside0.mk hl274_6
               clear hi274_6 hl274_6
               replace p274 := eq_true p274
               replace q274 := eq_true q274
               go_wp2_with (first | ((with_reducible refine gate_dst (N := 4) rfl ?_); (try (refine gate_guard (by rfl) ?_; dsimp only)); refine box_event ?hg (N := 4) ?hd (cs := #[.int .i64 0, .int .i64 0, .string (⟨#[]⟩ : ByteArray), .slice none 0 0, .string (⟨#[]⟩ : ByteArray), .int .i64 0, .slice none 0 0]) (t := 44) ?hr ?_; (case hd => rfl); (case hg => rfl); (case hr => first | (go_simp; done) | (go_simp; rfl)); intro gb275 hg w22 hbox hb; have n0_ := Aside0.mk (below_step (by repeat (first | (with_reducible first | exact HB.out | apply below_alloc | apply pw_below_drewN | apply below_drew1) | exact HB.out)) hb); have n1_ := Aside0.mk (hbox); have n2_ := Aside0.mk ((by rw [hg]; exact (below_size (by repeat (first | (with_reducible first | exact HB.out | apply below_alloc | apply pw_below_drewN | apply below_drew1) | exact HB.out))) : w.heap.size ≤ gb275)); have n3_ := Aside0.mk ((by rw [hg]; exact (below_size (by repeat (first | (with_reducible first | exact HB.out | apply below_alloc | apply pw_below_drewN | apply below_drew1) | exact HB.out))) : w.heap.size ≤ gb275)); clear HB; have HB := n0_; have BK275 := n1_; have GW275 := n2_; have GE275 := n3_; clear n0_ n1_ n2_ n3_; clear hb hbox hg; have hcz23_0 : w22.cell? ⟨gb275, 0, none⟩ = some (.int .i64 0) := (blk_cell BK275.out 0).trans rfl; have hcz23_1 : w22.cell? ⟨gb275, 1, none⟩ = some (.int .i64 0) := (blk_cell BK275.out 1).trans rfl; have hcz23_2 : w22.cell? ⟨gb275, 2, none⟩ = some (.string (⟨#[]⟩ : ByteArray)) := (blk_cell BK275.out 2).trans rfl; have hcz23_3 : w22.cell? ⟨gb275, 3, none⟩ = some (.slice none 0 0) := (blk_cell BK275.out 3).trans rfl; have hcz23_4 : w22.cell? ⟨gb275, 4, none⟩ = some (.string (⟨#[]⟩ : ByteArray)) := (blk_cell BK275.out 4).trans rfl; have hcz23_5 : w22.cell? ⟨gb275, 5, none⟩ = some (.int .i64 0) := (blk_cell BK275.out 5).trans rfl; have hcz23_6 : w22.cell? ⟨gb275, 6, none⟩ = some (.slice none 0 0) := (blk_cell BK275.out 6).trans rfl; have hfz23_0 := blk_frozen BK275.out 0; have hfz23_1 := blk_frozen BK275.out 1; have hfz23_2 := blk_frozen BK275.out 2; have hfz23_3 := blk_frozen BK275.out 3; have hfz23_4 := blk_frozen BK275.out 4; have hfz23_5 := blk_frozen BK275.out 5; have hfz23_6 := blk_frozen BK275.out 6) | ((with_reducible refine gate_callee (f := 54) rfl ?_); refine goesL_ (some 24) rfl rfl Try.func54 (by kernel_rfl) rfl #[.agg #[.int .i64 ((rd_T44 y266 x19_2).f0), .int .i64 ((rd_T44 y266 x19_2).f1), .string ((rd_T44 y266 x19_2).f2), .slice A274_3 ((rd_T44 y266 x19_2).f3).length c274_3, .string ((rd_T44 y266 x19_2).f4), .int .i64 ((rd_T44 y266 x19_2).f5), .slice A274_6 ((rd_T44 y266 x19_2).f6).length c274_6]] rfl (by (try simp only [List.map_toArray, List.map_cons, List.map_nil]); first | done | rfl | (simp only [List.length_drop, List.length_take]; rfl)) ?_; (with_reducible refine (impl_itemOk.calls k2 ((rd_T44 y266 x19_2).f0) ((rd_T44 y266 x19_2).f1) ((rd_T44 y266 x19_2).f2) _ _ ((rd_T44 y266 x19_2).f3) ((rd_T44 y266 x19_2).f4) ((rd_T44 y266 x19_2).f5) _ _ ((rd_T44 y266 x19_2).f6) true _ ?side1 ?side2 ?side3 ?side4 A14.out).mono ?_); (case side1 => exact Kd.C_below HR274_3.out (by repeat (first | (with_reducible first | exact HB.out | apply below_alloc | apply pw_below_drewN | apply below_drew1 | refine below_set ?_ GE275.out) | exact HB.out))); (case side2 => exact HC274_3.out); (case side3 => exact Kd.C_below HR274_6.out (by repeat (first | (with_reducible first | exact HB.out | apply below_alloc | apply pw_below_drewN | apply below_drew1 | refine below_set ?_ GE275.out) | exact HB.out))); (case side4 => exact HC274_6.out); rintro e w24 ⟨rfl, hb⟩; refine ⟨_, rfl, ?_⟩; have n0_ := Aside0.mk (blk_below (g := gb275) (o := .cells #[.int .i64 ((rd_T44 y266 x19_2).f0), .int .i64 ((rd_T44 y266 x19_2).f1), .string ((rd_T44 y266 x19_2).f2), .slice A274_3 ((rd_T44 y266 x19_2).f3).length c274_3, .string ((rd_T44 y266 x19_2).f4), .int .i64 ((rd_T44 y266 x19_2).f5), .slice A274_6 ((rd_T44 y266 x19_2).f6).length c274_6] 44 (0, 0)) (by (with_reducible repeat (first | refine blk_drewN ?_ _ | refine blk_drew ?_ | refine blk_alloc ?_ _)); refine blk_put (cs := #[.int .i64 ((rd_T44 y266 x19_2).f0), .int .i64 ((rd_T44 y266 x19_2).f1), .string ((rd_T44 y266 x19_2).f2), .slice A274_3 ((rd_T44 y266 x19_2).f3).length c274_3, .string ((rd_T44 y266 x19_2).f4), .int .i64 ((rd_T44 y266 x19_2).f5), .slice none 0 0]) ?_ 6 _ rfl; (with_reducible repeat (first | refine blk_drewN ?_ _ | refine blk_drew ?_ | refine blk_alloc ?_ _)); refine blk_put (cs := #[.int .i64 ((rd_T44 y266 x19_2).f0), .int .i64 ((rd_T44 y266 x19_2).f1), .string ((rd_T44 y266 x19_2).f2), .slice A274_3 ((rd_T44 y266 x19_2).f3).length c274_3, .string ((rd_T44 y266 x19_2).f4), .int .i64 0, .slice none 0 0]) ?_ 5 _ rfl; (with_reducible repeat (first | refine blk_drewN ?_ _ | refine blk_drew ?_ | refine blk_alloc ?_ _)); refine blk_put (cs := #[.int .i64 ((rd_T44 y266 x19_2).f0), .int .i64 ((rd_T44 y266 x19_2).f1), .string ((rd_T44 y266 x19_2).f2), .slice A274_3 ((rd_T44 y266 x19_2).f3).length c274_3, .string (⟨#[]⟩ : ByteArray), .int .i64 0, .slice none 0 0]) ?_ 4 _ rfl; (with_reducible repeat (first | refine blk_drewN ?_ _ | refine blk_drew ?_ | refine blk_alloc ?_ _)); refine blk_put (cs := #[.int .i64 ((rd_T44 y266 x19_2).f0), .int .i64 ((rd_T44 y266 x19_2).f1), .string ((rd_T44 y266 x19_2).f2), .slice none 0 0, .string (⟨#[]⟩ : ByteArray), .int .i64 0, .slice none 0 0]) ?_ 3 _ rfl; (with_reducible repeat (first | refine blk_drewN ?_ _ | refine blk_drew ?_ | refine blk_alloc ?_ _)); refine blk_put (cs := #[.int .i64 ((rd_T44 y266 x19_2).f0), .int .i64 ((rd_T44 y266 x19_2).f1), .string (⟨#[]⟩ : ByteArray), .slice none 0 0, .string (⟨#[]⟩ : ByteArray), .int .i64 0, .slice none 0 0]) ?_ 2 _ rfl; (with_reducible repeat (first | refine blk_drewN ?_ _ | refine blk_drew ?_ | refine blk_alloc ?_ _)); refine blk_put (cs := #[.int .i64 ((rd_T44 y266 x19_2).f0), .int .i64 0, .string (⟨#[]⟩ : ByteArray), .slice none 0 0, .string (⟨#[]⟩ : ByteArray), .int .i64 0, .slice none 0 0]) ?_ 1 _ rfl; (with_reducible repeat (first | refine blk_drewN ?_ _ | refine blk_drew ?_ | refine blk_alloc ?_ _)); refine blk_put (cs := #[.int .i64 0, .int .i64 0, .string (⟨#[]⟩ : ByteArray), .slice none 0 0, .string (⟨#[]⟩ : ByteArray), .int .i64 0, .slice none 0 0]) ?_ 0 _ rfl; (with_reducible repeat (first | refine blk_drewN ?_ _ | refine blk_drew ?_ | refine blk_alloc ?_ _)); exact BK275.out) hb); have n1_ := Aside0.mk (below_step (by repeat (first | (with_reducible first | exact HB.out | apply below_alloc | apply pw_below_drewN | apply below_drew1 | refine below_set ?_ GE275.out) | exact HB.out)) hb); clear BK275; clear HB; have BK275 := n0_; have HB := n1_; clear n0_ n1_; (try clear hb); (try clear hb2); (try clear hk); (try clear hi); have hcz25_0 : w24.cell? ⟨gb275, 0, none⟩ = some (.int .i64 ((rd_T44 y266 x19_2).f0)) := (blk_cell BK275.out 0).trans rfl; have hcz25_1 : w24.cell? ⟨gb275, 1, none⟩ = some (.int .i64 ((rd_T44 y266 x19_2).f1)) := (blk_cell BK275.out 1).trans rfl; have hcz25_2 : w24.cell? ⟨gb275, 2, none⟩ = some (.string ((rd_T44 y266 x19_2).f2)) := (blk_cell BK275.out 2).trans rfl; have hcz25_3 : w24.cell? ⟨gb275, 3, none⟩ = some (.slice A274_3 ((rd_T44 y266 x19_2).f3).length c274_3) := (blk_cell BK275.out 3).trans rfl; have hcz25_4 : w24.cell? ⟨gb275, 4, none⟩ = some (.string ((rd_T44 y266 x19_2).f4)) := (blk_cell BK275.out 4).trans rfl; have hcz25_5 : w24.cell? ⟨gb275, 5, none⟩ = some (.int .i64 ((rd_T44 y266 x19_2).f5)) := (blk_cell BK275.out 5).trans rfl; have hcz25_6 : w24.cell? ⟨gb275, 6, none⟩ = some (.slice A274_6 ((rd_T44 y266 x19_2).f6).length c274_6) := (blk_cell BK275.out 6).trans rfl; have hfz25_0 := blk_frozen BK275.out 0; have hfz25_1 := blk_frozen BK275.out 1; have hfz25_2 := blk_frozen BK275.out 2; have hfz25_3 := blk_frozen BK275.out 3; have hfz25_4 := blk_frozen BK275.out 4; have hfz25_5 := blk_frozen BK275.out 5; have hfz25_6 := blk_frozen BK275.out 6) | (go_at_call 55; (with_reducible refine (impl_inRange.calls ((rd_T44 y266 x19_2).f5) 0 (wrap64 ((l0.length : Int) - 1)) true _ A16.out).mono ?_); rintro e w' ⟨rfl, ⟨nd, rfl⟩⟩; have p278 : 0 ≤ (((rd_T44 y266 x19_2).f5) : Int) := of_decide_eq_true (by first | (with_reducible assumption) | assumption); have q278 : ((rd_T44 y266 x19_2).f5) < (l0.length : Int) := of_decide_eq_true (by first | (with_reducible assumption) | assumption); obtain ⟨ad278, A278_3, c278_3, A278_6, c278_6, e278, hx278_0, hx278_1, hx278_2, hx278_3, hx278_4, hx278_5, hx278_6, hl278_3, hi278_3, hl278_6, hi278_6⟩ := at_T44 HR0.out ((rd_T44 y266 x19_2).f5) p278 q278; cases e278; replace hx278_0 := (HB.out.cell (World.block_lt_of_cell? w _ hx278_0)).trans hx278_0; replace hx278_1 := (HB.out.cell (World.block_lt_of_cell? w _ hx278_1)).trans hx278_1; replace hx278_2 := (HB.out.cell (World.block_lt_of_cell? w _ hx278_2)).trans hx278_2; replace hx278_3 := (HB.out.cell (World.block_lt_of_cell? w _ hx278_3)).trans hx278_3; replace hx278_4 := (HB.out.cell (World.block_lt_of_cell? w _ hx278_4)).trans hx278_4; replace hx278_5 := (HB.out.cell (World.block_lt_of_cell? w _ hx278_5)).trans hx278_5; replace hx278_6 := (HB.out.cell (World.block_lt_of_cell? w _ hx278_6)).trans hx278_6; have HR278_3 := Aside0.mk hi278_3; have HC278_3 := Aside0.mk hl278_3; clear hi278_3 hl278_3; have HR278_6 := Aside0.mk hi278_6; have HC278_6 := Aside0.mk hl278_6; clear hi278_6 hl278_6; replace p278 := eq_true p278; replace q278 := eq_true q278) | (go_at_call 56; (with_reducible refine (impl_hasKids.calls ((rd_T44 l0 ((rd_T44 y266 x19_2).f5)).f0) true _ A20.out).mono ?_); rintro e w' ⟨rfl, ⟨nd, rfl⟩⟩))
               go_roundg k2
               case measure => have := HJ1.out; have := HK2.out; omega
               case rel => exact ⟨(wrap64 (x19_2 + 1)), (by first | rfl | (simp; done) | (simp [*]; done)), H', ⟨by have := HJ1.out; have := HK2.out; omega⟩, ⟨by repeat (first | (with_reducible first | exact HB.out | apply below_alloc | apply pw_below_drewN | apply below_drew1 | refine below_set ?_ GE275.out) | exact HB.out)⟩⟩
              ·replace c21 := Bool.eq_false_iff.mpr c21
               subst c21
               have H1 : (some false) = some r := by rw [if_neg (show ¬ (false = true) by decide)] at H; exact H
               clear H
               have H := H1
               clear H1
               obtain rfl := Option.some.inj H
               have p274 : 0 ≤ (x19_2 : Int) := of_decide_eq_true (by first | (with_reducible assumption) | assumption)
               have q274 : x19_2 < (y266.length : Int) := of_decide_eq_true (by first | (with_reducible assumption) | assumption)
               obtain ⟨ad274, A274_3, c274_3, A274_6, c274_6, e274, hx274_0, hx274_1, hx274_2, hx274_3, hx274_4, hx274_5, hx274_6, hl274_3, hi274_3, hl274_6, hi274_6⟩ := at_T44 HR269.out x19_2 p274 q274
               cases e274
               replace hx274_0 := (HB.out.cell (World.block_lt_of_cell? w _ hx274_0)).trans hx274_0
               replace hx274_1 := (HB.out.cell (World.block_lt_of_cell? w _ hx274_1)).trans hx274_1
               replace hx274_2 := (HB.out.cell (World.block_lt_of_cell? w _ hx274_2)).trans hx274_2
               replace hx274_3 := (HB.out.cell (World.block_lt_of_cell? w _ hx274_3)).trans hx274_3
               replace hx274_4 := (HB.out.cell (World.block_lt_of_cell? w _ hx274_4)).trans hx274_4
               replace hx274_5 := (HB.out.cell (World.block_lt_of_cell? w _ hx274_5)).trans hx274_5
               replace hx274_6 := (HB.out.cell (World.block_lt_of_cell? w _ hx274_6)).trans hx274_6
               have HR274_3 := Aside0.mk hi274_3
               have HC274_3 := Aside0.mk hl274_3
               clear hi274_3 hl274_3
               have HR274_6 := Aside0.mk hi274_6
               have HC274_6 := Aside0.mk hl274_6
               clear hi274_6 hl274_6
               replace p274 := eq_true p274
               replace q274 := eq_true q274
               go_wp2_with (first | ((with_reducible refine gate_dst (N := 4) rfl ?_); (try (refine gate_guard (by rfl) ?_; dsimp only)); refine box_event ?hg (N := 4) ?hd (cs := #[.int .i64 0, .int .i64 0, .string (⟨#[]⟩ : ByteArray), .slice none 0 0, .string (⟨#[]⟩ : ByteArray), .int .i64 0, .slice none 0 0]) (t := 44) ?hr ?_; (case hd => rfl); (case hg => rfl); (case hr => first | (go_simp; done) | (go_simp; rfl)); intro gb275 hg w26 hbox hb; have n0_ := Aside0.mk (below_step (by repeat (first | (with_reducible first | exact HB.out | apply below_alloc | apply pw_below_drewN | apply below_drew1) | exact HB.out)) hb); have n1_ := Aside0.mk (hbox); have n2_ := Aside0.mk ((by rw [hg]; exact (below_size (by repeat (first | (with_reducible first | exact HB.out | apply below_alloc | apply pw_below_drewN | apply below_drew1) | exact HB.out))) : w.heap.size ≤ gb275)); have n3_ := Aside0.mk ((by rw [hg]; exact (below_size (by repeat (first | (with_reducible first | exact HB.out | apply below_alloc | apply pw_below_drewN | apply below_drew1) | exact HB.out))) : w.heap.size ≤ gb275)); clear HB; have HB := n0_; have BK275 := n1_; have GW275 := n2_; have GE275 := n3_; clear n0_ n1_ n2_ n3_; clear hb hbox hg; have hcz27_0 : w26.cell? ⟨gb275, 0, none⟩ = some (.int .i64 0) := (blk_cell BK275.out 0).trans rfl; have hcz27_1 : w26.cell? ⟨gb275, 1, none⟩ = some (.int .i64 0) := (blk_cell BK275.out 1).trans rfl; have hcz27_2 : w26.cell? ⟨gb275, 2, none⟩ = some (.string (⟨#[]⟩ : ByteArray)) := (blk_cell BK275.out 2).trans rfl; have hcz27_3 : w26.cell? ⟨gb275, 3, none⟩ = some (.slice none 0 0) := (blk_cell BK275.out 3).trans rfl; have hcz27_4 : w26.cell? ⟨gb275, 4, none⟩ = some (.string (⟨#[]⟩ : ByteArray)) := (blk_cell BK275.out 4).trans rfl; have hcz27_5 : w26.cell? ⟨gb275, 5, none⟩ = some (.int .i64 0) := (blk_cell BK275.out 5).trans rfl; have hcz27_6 : w26.cell? ⟨gb275, 6, none⟩ = some (.slice none 0 0) := (blk_cell BK275.out 6).trans rfl; have hfz27_0 := blk_frozen BK275.out 0; have hfz27_1 := blk_frozen BK275.out 1; have hfz27_2 := blk_frozen BK275.out 2; have hfz27_3 := blk_frozen BK275.out 3; have hfz27_4 := blk_frozen BK275.out 4; have hfz27_5 := blk_frozen BK275.out 5; have hfz27_6 := blk_frozen BK275.out 6) | ((with_reducible refine gate_callee (f := 54) rfl ?_); refine goesL_ (some 24) rfl rfl Try.func54 (by kernel_rfl) rfl #[.agg #[.int .i64 ((rd_T44 y266 x19_2).f0), .int .i64 ((rd_T44 y266 x19_2).f1), .string ((rd_T44 y266 x19_2).f2), .slice A274_3 ((rd_T44 y266 x19_2).f3).length c274_3, .string ((rd_T44 y266 x19_2).f4), .int .i64 ((rd_T44 y266 x19_2).f5), .slice A274_6 ((rd_T44 y266 x19_2).f6).length c274_6]] rfl (by (try simp only [List.map_toArray, List.map_cons, List.map_nil]); first | done | rfl | (simp only [List.length_drop, List.length_take]; rfl)) ?_; (with_reducible refine (impl_itemOk.calls k2 ((rd_T44 y266 x19_2).f0) ((rd_T44 y266 x19_2).f1) ((rd_T44 y266 x19_2).f2) _ _ ((rd_T44 y266 x19_2).f3) ((rd_T44 y266 x19_2).f4) ((rd_T44 y266 x19_2).f5) _ _ ((rd_T44 y266 x19_2).f6) true _ ?side1 ?side2 ?side3 ?side4 A14.out).mono ?_); (case side1 => exact Kd.C_below HR274_3.out (by repeat (first | (with_reducible first | exact HB.out | apply below_alloc | apply pw_below_drewN | apply below_drew1 | refine below_set ?_ GE275.out) | exact HB.out))); (case side2 => exact HC274_3.out); (case side3 => exact Kd.C_below HR274_6.out (by repeat (first | (with_reducible first | exact HB.out | apply below_alloc | apply pw_below_drewN | apply below_drew1 | refine below_set ?_ GE275.out) | exact HB.out))); (case side4 => exact HC274_6.out); rintro e w28 ⟨rfl, hb⟩; refine ⟨_, rfl, ?_⟩; have n0_ := Aside0.mk (blk_below (g := gb275) (o := .cells #[.int .i64 ((rd_T44 y266 x19_2).f0), .int .i64 ((rd_T44 y266 x19_2).f1), .string ((rd_T44 y266 x19_2).f2), .slice A274_3 ((rd_T44 y266 x19_2).f3).length c274_3, .string ((rd_T44 y266 x19_2).f4), .int .i64 ((rd_T44 y266 x19_2).f5), .slice A274_6 ((rd_T44 y266 x19_2).f6).length c274_6] 44 (0, 0)) (by (with_reducible repeat (first | refine blk_drewN ?_ _ | refine blk_drew ?_ | refine blk_alloc ?_ _)); refine blk_put (cs := #[.int .i64 ((rd_T44 y266 x19_2).f0), .int .i64 ((rd_T44 y266 x19_2).f1), .string ((rd_T44 y266 x19_2).f2), .slice A274_3 ((rd_T44 y266 x19_2).f3).length c274_3, .string ((rd_T44 y266 x19_2).f4), .int .i64 ((rd_T44 y266 x19_2).f5), .slice none 0 0]) ?_ 6 _ rfl; (with_reducible repeat (first | refine blk_drewN ?_ _ | refine blk_drew ?_ | refine blk_alloc ?_ _)); refine blk_put (cs := #[.int .i64 ((rd_T44 y266 x19_2).f0), .int .i64 ((rd_T44 y266 x19_2).f1), .string ((rd_T44 y266 x19_2).f2), .slice A274_3 ((rd_T44 y266 x19_2).f3).length c274_3, .string ((rd_T44 y266 x19_2).f4), .int .i64 0, .slice none 0 0]) ?_ 5 _ rfl; (with_reducible repeat (first | refine blk_drewN ?_ _ | refine blk_drew ?_ | refine blk_alloc ?_ _)); refine blk_put (cs := #[.int .i64 ((rd_T44 y266 x19_2).f0), .int .i64 ((rd_T44 y266 x19_2).f1), .string ((rd_T44 y266 x19_2).f2), .slice A274_3 ((rd_T44 y266 x19_2).f3).length c274_3, .string (⟨#[]⟩ : ByteArray), .int .i64 0, .slice none 0 0]) ?_ 4 _ rfl; (with_reducible repeat (first | refine blk_drewN ?_ _ | refine blk_drew ?_ | refine blk_alloc ?_ _)); refine blk_put (cs := #[.int .i64 ((rd_T44 y266 x19_2).f0), .int .i64 ((rd_T44 y266 x19_2).f1), .string ((rd_T44 y266 x19_2).f2), .slice none 0 0, .string (⟨#[]⟩ : ByteArray), .int .i64 0, .slice none 0 0]) ?_ 3 _ rfl; (with_reducible repeat (first | refine blk_drewN ?_ _ | refine blk_drew ?_ | refine blk_alloc ?_ _)); refine blk_put (cs := #[.int .i64 ((rd_T44 y266 x19_2).f0), .int .i64 ((rd_T44 y266 x19_2).f1), .string (⟨#[]⟩ : ByteArray), .slice none 0 0, .string (⟨#[]⟩ : ByteArray), .int .i64 0, .slice none 0 0]) ?_ 2 _ rfl; (with_reducible repeat (first | refine blk_drewN ?_ _ | refine blk_drew ?_ | refine blk_alloc ?_ _)); refine blk_put (cs := #[.int .i64 ((rd_T44 y266 x19_2).f0), .int .i64 0, .string (⟨#[]⟩ : ByteArray), .slice none 0 0, .string (⟨#[]⟩ : ByteArray), .int .i64 0, .slice none 0 0]) ?_ 1 _ rfl; (with_reducible repeat (first | refine blk_drewN ?_ _ | refine blk_drew ?_ | refine blk_alloc ?_ _)); refine blk_put (cs := #[.int .i64 0, .int .i64 0, .string (⟨#[]⟩ : ByteArray), .slice none 0 0, .string (⟨#[]⟩ : ByteArray), .int .i64 0, .slice none 0 0]) ?_ 0 _ rfl; (with_reducible repeat (first | refine blk_drewN ?_ _ | refine blk_drew ?_ | refine blk_alloc ?_ _)); exact BK275.out) hb); have n1_ := Aside0.mk (below_step (by repeat (first | (with_reducible first | exact HB.out | apply below_alloc | apply pw_below_drewN | apply below_drew1 | refine below_set ?_ GE275.out) | exact HB.out)) hb); clear BK275; clear HB; have BK275 := n0_; have HB := n1_; clear n0_ n1_; (try clear hb); (try clear hb2); (try clear hk); (try clear hi); have hcz29_0 : w28.cell? ⟨gb275, 0, none⟩ = some (.int .i64 ((rd_T44 y266 x19_2).f0)) := (blk_cell BK275.out 0).trans rfl; have hcz29_1 : w28.cell? ⟨gb275, 1, none⟩ = some (.int .i64 ((rd_T44 y266 x19_2).f1)) := (blk_cell BK275.out 1).trans rfl; have hcz29_2 : w28.cell? ⟨gb275, 2, none⟩ = some (.string ((rd_T44 y266 x19_2).f2)) := (blk_cell BK275.out 2).trans rfl; have hcz29_3 : w28.cell? ⟨gb275, 3, none⟩ = some (.slice A274_3 ((rd_T44 y266 x19_2).f3).length c274_3) := (blk_cell BK275.out 3).trans rfl; have hcz29_4 : w28.cell? ⟨gb275, 4, none⟩ = some (.string ((rd_T44 y266 x19_2).f4)) := (blk_cell BK275.out 4).trans rfl; have hcz29_5 : w28.cell? ⟨gb275, 5, none⟩ = some (.int .i64 ((rd_T44 y266 x19_2).f5)) := (blk_cell BK275.out 5).trans rfl; have hcz29_6 : w28.cell? ⟨gb275, 6, none⟩ = some (.slice A274_6 ((rd_T44 y266 x19_2).f6).length c274_6) := (blk_cell BK275.out 6).trans rfl; have hfz29_0 := blk_frozen BK275.out 0; have hfz29_1 := blk_frozen BK275.out 1; have hfz29_2 := blk_frozen BK275.out 2; have hfz29_3 := blk_frozen BK275.out 3; have hfz29_4 := blk_frozen BK275.out 4; have hfz29_5 := blk_frozen BK275.out 5; have hfz29_6 := blk_frozen BK275.out 6) | (go_at_call 55; (with_reducible refine (impl_inRange.calls ((rd_T44 y266 x19_2).f5) 0 (wrap64 ((l0.length : Int) - 1)) true _ A16.out).mono ?_); rintro e w' ⟨rfl, ⟨nd, rfl⟩⟩; have p278 : 0 ≤ (((rd_T44 y266 x19_2).f5) : Int) := of_decide_eq_true (by first | (with_reducible assumption) | assumption); have q278 : ((rd_T44 y266 x19_2).f5) < (l0.length : Int) := of_decide_eq_true (by first | (with_reducible assumption) | assumption); obtain ⟨ad278, A278_3, c278_3, A278_6, c278_6, e278, hx278_0, hx278_1, hx278_2, hx278_3, hx278_4, hx278_5, hx278_6, hl278_3, hi278_3, hl278_6, hi278_6⟩ := at_T44 HR0.out ((rd_T44 y266 x19_2).f5) p278 q278; cases e278; replace hx278_0 := (HB.out.cell (World.block_lt_of_cell? w _ hx278_0)).trans hx278_0; replace hx278_1 := (HB.out.cell (World.block_lt_of_cell? w _ hx278_1)).trans hx278_1; replace hx278_2 := (HB.out.cell (World.block_lt_of_cell? w _ hx278_2)).trans hx278_2; replace hx278_3 := (HB.out.cell (World.block_lt_of_cell? w _ hx278_3)).trans hx278_3; replace hx278_4 := (HB.out.cell (World.block_lt_of_cell? w _ hx278_4)).trans hx278_4; replace hx278_5 := (HB.out.cell (World.block_lt_of_cell? w _ hx278_5)).trans hx278_5; replace hx278_6 := (HB.out.cell (World.block_lt_of_cell? w _ hx278_6)).trans hx278_6; have HR278_3 := Aside0.mk hi278_3; have HC278_3 := Aside0.mk hl278_3; clear hi278_3 hl278_3; have HR278_6 := Aside0.mk hi278_6; have HC278_6 := Aside0.mk hl278_6; clear hi278_6 hl278_6; replace p278 := eq_true p278; replace q278 := eq_true q278) | (go_at_call 56; (with_reducible refine (impl_hasKids.calls ((rd_T44 l0 ((rd_T44 y266 x19_2).f5)).f0) false _ A20.out).mono ?_); rintro e w' ⟨rfl, ⟨nd, rfl⟩⟩))
               go_ret
               exact ⟨by first | rfl | (simp [errW_none, errW_some] <;> rfl) | (simp [*, errW_none, errW_some] <;> rfl), by repeat (first | (with_reducible first | exact HB.out | apply below_alloc | apply pw_below_drewN | apply below_drew1 | refine below_set ?_ GE275.out) | exact HB.out)⟩
             ·rw [if_neg c19] at H
              exact absurd H (by simp)
            ·rw [if_neg c18] at H
             exact absurd H (by simp)
           ·replace c17 := Bool.eq_false_iff.mpr c17
            subst c17
            have H1 : (some false) = some r := by rw [if_neg (show ¬ (false = true) by decide)] at H; exact H
            clear H
            have H := H1
            clear H1
            obtain rfl := Option.some.inj H
            have p274 : 0 ≤ (x19_2 : Int) := of_decide_eq_true (by first | (with_reducible assumption) | assumption)
            have q274 : x19_2 < (y266.length : Int) := of_decide_eq_true (by first | (with_reducible assumption) | assumption)
            obtain ⟨ad274, A274_3, c274_3, A274_6, c274_6, e274, hx274_0, hx274_1, hx274_2, hx274_3, hx274_4, hx274_5, hx274_6, hl274_3, hi274_3, hl274_6, hi274_6⟩ := at_T44 HR269.out x19_2 p274 q274
            cases e274
            replace hx274_0 := (HB.out.cell (World.block_lt_of_cell? w _ hx274_0)).trans hx274_0
            replace hx274_1 := (HB.out.cell (World.block_lt_of_cell? w _ hx274_1)).trans hx274_1
            replace hx274_2 := (HB.out.cell (World.block_lt_of_cell? w _ hx274_2)).trans hx274_2
            replace hx274_3 := (HB.out.cell (World.block_lt_of_cell? w _ hx274_3)).trans hx274_3
            replace hx274_4 := (HB.out.cell (World.block_lt_of_cell? w _ hx274_4)).trans hx274_4
            replace hx274_5 := (HB.out.cell (World.block_lt_of_cell? w _ hx274_5)).trans hx274_5
            replace hx274_6 := (HB.out.cell (World.block_lt_of_cell? w _ hx274_6)).trans hx274_6
            have HR274_3 := Aside0.mk hi274_3
            have HC274_3 := Aside0.mk hl274_3
            clear hi274_3 hl274_3
            have HR274_6 := Aside0.mk hi274_6
            have HC274_6 := Aside0.mk hl274_6
            clear hi274_6 hl274_6
            replace p274 := eq_true p274
            replace q274 := eq_true q274
            go_wp2_with (first | ((with_reducible refine gate_dst (N := 4) rfl ?_); (try (refine gate_guard (by rfl) ?_; dsimp only)); refine box_event ?hg (N := 4) ?hd (cs := #[.int .i64 0, .int .i64 0, .string (⟨#[]⟩ : ByteArray), .slice none 0 0, .string (⟨#[]⟩ : ByteArray), .int .i64 0, .slice none 0 0]) (t := 44) ?hr ?_; (case hd => rfl); (case hg => rfl); (case hr => first | (go_simp; done) | (go_simp; rfl)); intro gb275 hg w30 hbox hb; have n0_ := Aside0.mk (below_step (by repeat (first | (with_reducible first | exact HB.out | apply below_alloc | apply pw_below_drewN | apply below_drew1) | exact HB.out)) hb); have n1_ := Aside0.mk (hbox); have n2_ := Aside0.mk ((by rw [hg]; exact (below_size (by repeat (first | (with_reducible first | exact HB.out | apply below_alloc | apply pw_below_drewN | apply below_drew1) | exact HB.out))) : w.heap.size ≤ gb275)); have n3_ := Aside0.mk ((by rw [hg]; exact (below_size (by repeat (first | (with_reducible first | exact HB.out | apply below_alloc | apply pw_below_drewN | apply below_drew1) | exact HB.out))) : w.heap.size ≤ gb275)); clear HB; have HB := n0_; have BK275 := n1_; have GW275 := n2_; have GE275 := n3_; clear n0_ n1_ n2_ n3_; clear hb hbox hg; have hcz31_0 : w30.cell? ⟨gb275, 0, none⟩ = some (.int .i64 0) := (blk_cell BK275.out 0).trans rfl; have hcz31_1 : w30.cell? ⟨gb275, 1, none⟩ = some (.int .i64 0) := (blk_cell BK275.out 1).trans rfl; have hcz31_2 : w30.cell? ⟨gb275, 2, none⟩ = some (.string (⟨#[]⟩ : ByteArray)) := (blk_cell BK275.out 2).trans rfl; have hcz31_3 : w30.cell? ⟨gb275, 3, none⟩ = some (.slice none 0 0) := (blk_cell BK275.out 3).trans rfl; have hcz31_4 : w30.cell? ⟨gb275, 4, none⟩ = some (.string (⟨#[]⟩ : ByteArray)) := (blk_cell BK275.out 4).trans rfl; have hcz31_5 : w30.cell? ⟨gb275, 5, none⟩ = some (.int .i64 0) := (blk_cell BK275.out 5).trans rfl; have hcz31_6 : w30.cell? ⟨gb275, 6, none⟩ = some (.slice none 0 0) := (blk_cell BK275.out 6).trans rfl; have hfz31_0 := blk_frozen BK275.out 0; have hfz31_1 := blk_frozen BK275.out 1; have hfz31_2 := blk_frozen BK275.out 2; have hfz31_3 := blk_frozen BK275.out 3; have hfz31_4 := blk_frozen BK275.out 4; have hfz31_5 := blk_frozen BK275.out 5; have hfz31_6 := blk_frozen BK275.out 6) | ((with_reducible refine gate_callee (f := 54) rfl ?_); refine goesL_ (some 24) rfl rfl Try.func54 (by kernel_rfl) rfl #[.agg #[.int .i64 ((rd_T44 y266 x19_2).f0), .int .i64 ((rd_T44 y266 x19_2).f1), .string ((rd_T44 y266 x19_2).f2), .slice A274_3 ((rd_T44 y266 x19_2).f3).length c274_3, .string ((rd_T44 y266 x19_2).f4), .int .i64 ((rd_T44 y266 x19_2).f5), .slice A274_6 ((rd_T44 y266 x19_2).f6).length c274_6]] rfl (by (try simp only [List.map_toArray, List.map_cons, List.map_nil]); first | done | rfl | (simp only [List.length_drop, List.length_take]; rfl)) ?_; (with_reducible refine (impl_itemOk.calls k2 ((rd_T44 y266 x19_2).f0) ((rd_T44 y266 x19_2).f1) ((rd_T44 y266 x19_2).f2) _ _ ((rd_T44 y266 x19_2).f3) ((rd_T44 y266 x19_2).f4) ((rd_T44 y266 x19_2).f5) _ _ ((rd_T44 y266 x19_2).f6) true _ ?side1 ?side2 ?side3 ?side4 A14.out).mono ?_); (case side1 => exact Kd.C_below HR274_3.out (by repeat (first | (with_reducible first | exact HB.out | apply below_alloc | apply pw_below_drewN | apply below_drew1 | refine below_set ?_ GE275.out) | exact HB.out))); (case side2 => exact HC274_3.out); (case side3 => exact Kd.C_below HR274_6.out (by repeat (first | (with_reducible first | exact HB.out | apply below_alloc | apply pw_below_drewN | apply below_drew1 | refine below_set ?_ GE275.out) | exact HB.out))); (case side4 => exact HC274_6.out); rintro e w32 ⟨rfl, hb⟩; refine ⟨_, rfl, ?_⟩; have n0_ := Aside0.mk (blk_below (g := gb275) (o := .cells #[.int .i64 ((rd_T44 y266 x19_2).f0), .int .i64 ((rd_T44 y266 x19_2).f1), .string ((rd_T44 y266 x19_2).f2), .slice A274_3 ((rd_T44 y266 x19_2).f3).length c274_3, .string ((rd_T44 y266 x19_2).f4), .int .i64 ((rd_T44 y266 x19_2).f5), .slice A274_6 ((rd_T44 y266 x19_2).f6).length c274_6] 44 (0, 0)) (by (with_reducible repeat (first | refine blk_drewN ?_ _ | refine blk_drew ?_ | refine blk_alloc ?_ _)); refine blk_put (cs := #[.int .i64 ((rd_T44 y266 x19_2).f0), .int .i64 ((rd_T44 y266 x19_2).f1), .string ((rd_T44 y266 x19_2).f2), .slice A274_3 ((rd_T44 y266 x19_2).f3).length c274_3, .string ((rd_T44 y266 x19_2).f4), .int .i64 ((rd_T44 y266 x19_2).f5), .slice none 0 0]) ?_ 6 _ rfl; (with_reducible repeat (first | refine blk_drewN ?_ _ | refine blk_drew ?_ | refine blk_alloc ?_ _)); refine blk_put (cs := #[.int .i64 ((rd_T44 y266 x19_2).f0), .int .i64 ((rd_T44 y266 x19_2).f1), .string ((rd_T44 y266 x19_2).f2), .slice A274_3 ((rd_T44 y266 x19_2).f3).length c274_3, .string ((rd_T44 y266 x19_2).f4), .int .i64 0, .slice none 0 0]) ?_ 5 _ rfl; (with_reducible repeat (first | refine blk_drewN ?_ _ | refine blk_drew ?_ | refine blk_alloc ?_ _)); refine blk_put (cs := #[.int .i64 ((rd_T44 y266 x19_2).f0), .int .i64 ((rd_T44 y266 x19_2).f1), .string ((rd_T44 y266 x19_2).f2), .slice A274_3 ((rd_T44 y266 x19_2).f3).length c274_3, .string (⟨#[]⟩ : ByteArray), .int .i64 0, .slice none 0 0]) ?_ 4 _ rfl; (with_reducible repeat (first | refine blk_drewN ?_ _ | refine blk_drew ?_ | refine blk_alloc ?_ _)); refine blk_put (cs := #[.int .i64 ((rd_T44 y266 x19_2).f0), .int .i64 ((rd_T44 y266 x19_2).f1), .string ((rd_T44 y266 x19_2).f2), .slice none 0 0, .string (⟨#[]⟩ : ByteArray), .int .i64 0, .slice none 0 0]) ?_ 3 _ rfl; (with_reducible repeat (first | refine blk_drewN ?_ _ | refine blk_drew ?_ | refine blk_alloc ?_ _)); refine blk_put (cs := #[.int .i64 ((rd_T44 y266 x19_2).f0), .int .i64 ((rd_T44 y266 x19_2).f1), .string (⟨#[]⟩ : ByteArray), .slice none 0 0, .string (⟨#[]⟩ : ByteArray), .int .i64 0, .slice none 0 0]) ?_ 2 _ rfl; (with_reducible repeat (first | refine blk_drewN ?_ _ | refine blk_drew ?_ | refine blk_alloc ?_ _)); refine blk_put (cs := #[.int .i64 ((rd_T44 y266 x19_2).f0), .int .i64 0, .string (⟨#[]⟩ : ByteArray), .slice none 0 0, .string (⟨#[]⟩ : ByteArray), .int .i64 0, .slice none 0 0]) ?_ 1 _ rfl; (with_reducible repeat (first | refine blk_drewN ?_ _ | refine blk_drew ?_ | refine blk_alloc ?_ _)); refine blk_put (cs := #[.int .i64 0, .int .i64 0, .string (⟨#[]⟩ : ByteArray), .slice none 0 0, .string (⟨#[]⟩ : ByteArray), .int .i64 0, .slice none 0 0]) ?_ 0 _ rfl; (with_reducible repeat (first | refine blk_drewN ?_ _ | refine blk_drew ?_ | refine blk_alloc ?_ _)); exact BK275.out) hb); have n1_ := Aside0.mk (below_step (by repeat (first | (with_reducible first | exact HB.out | apply below_alloc | apply pw_below_drewN | apply below_drew1 | refine below_set ?_ GE275.out) | exact HB.out)) hb); clear BK275; clear HB; have BK275 := n0_; have HB := n1_; clear n0_ n1_; (try clear hb); (try clear hb2); (try clear hk); (try clear hi); have hcz33_0 : w32.cell? ⟨gb275, 0, none⟩ = some (.int .i64 ((rd_T44 y266 x19_2).f0)) := (blk_cell BK275.out 0).trans rfl; have hcz33_1 : w32.cell? ⟨gb275, 1, none⟩ = some (.int .i64 ((rd_T44 y266 x19_2).f1)) := (blk_cell BK275.out 1).trans rfl; have hcz33_2 : w32.cell? ⟨gb275, 2, none⟩ = some (.string ((rd_T44 y266 x19_2).f2)) := (blk_cell BK275.out 2).trans rfl; have hcz33_3 : w32.cell? ⟨gb275, 3, none⟩ = some (.slice A274_3 ((rd_T44 y266 x19_2).f3).length c274_3) := (blk_cell BK275.out 3).trans rfl; have hcz33_4 : w32.cell? ⟨gb275, 4, none⟩ = some (.string ((rd_T44 y266 x19_2).f4)) := (blk_cell BK275.out 4).trans rfl; have hcz33_5 : w32.cell? ⟨gb275, 5, none⟩ = some (.int .i64 ((rd_T44 y266 x19_2).f5)) := (blk_cell BK275.out 5).trans rfl; have hcz33_6 : w32.cell? ⟨gb275, 6, none⟩ = some (.slice A274_6 ((rd_T44 y266 x19_2).f6).length c274_6) := (blk_cell BK275.out 6).trans rfl; have hfz33_0 := blk_frozen BK275.out 0; have hfz33_1 := blk_frozen BK275.out 1; have hfz33_2 := blk_frozen BK275.out 2; have hfz33_3 := blk_frozen BK275.out 3; have hfz33_4 := blk_frozen BK275.out 4; have hfz33_5 := blk_frozen BK275.out 5; have hfz33_6 := blk_frozen BK275.out 6) | (go_at_call 55; (with_reducible refine (impl_inRange.calls ((rd_T44 y266 x19_2).f5) 0 (wrap64 ((l0.length : Int) - 1)) false _ A16.out).mono ?_); rintro e w' ⟨rfl, ⟨nd, rfl⟩⟩))
            go_ret
            exact ⟨by first | rfl | (simp [errW_none, errW_some] <;> rfl) | (simp [*, errW_none, errW_some] <;> rfl), by repeat (first | (with_reducible first | exact HB.out | apply below_alloc | apply pw_below_drewN | apply below_drew1 | refine below_set ?_ GE275.out) | exact HB.out)⟩
          ·replace c15 := Bool.eq_false_iff.mpr c15
           subst c15
           have H1 : (some false) = some r := by rw [if_neg (show ¬ (false = true) by decide)] at H; exact H
           clear H
           have H := H1
           clear H1
           obtain rfl := Option.some.inj H
           have p274 : 0 ≤ (x19_2 : Int) := of_decide_eq_true (by first | (with_reducible assumption) | assumption)
           have q274 : x19_2 < (y266.length : Int) := of_decide_eq_true (by first | (with_reducible assumption) | assumption)
           obtain ⟨ad274, A274_3, c274_3, A274_6, c274_6, e274, hx274_0, hx274_1, hx274_2, hx274_3, hx274_4, hx274_5, hx274_6, hl274_3, hi274_3, hl274_6, hi274_6⟩ := at_T44 HR269.out x19_2 p274 q274
           cases e274
           replace hx274_0 := (HB.out.cell (World.block_lt_of_cell? w _ hx274_0)).trans hx274_0
           replace hx274_1 := (HB.out.cell (World.block_lt_of_cell? w _ hx274_1)).trans hx274_1
           replace hx274_2 := (HB.out.cell (World.block_lt_of_cell? w _ hx274_2)).trans hx274_2
           replace hx274_3 := (HB.out.cell (World.block_lt_of_cell? w _ hx274_3)).trans hx274_3
           replace hx274_4 := (HB.out.cell (World.block_lt_of_cell? w _ hx274_4)).trans hx274_4
           replace hx274_5 := (HB.out.cell (World.block_lt_of_cell? w _ hx274_5)).trans hx274_5
           replace hx274_6 := (HB.out.cell (World.block_lt_of_cell? w _ hx274_6)).trans hx274_6
           have HR274_3 := Aside0.mk hi274_3
           have HC274_3 := Aside0.mk hl274_3
           clear hi274_3 hl274_3
           have HR274_6 := Aside0.mk hi274_6
           have HC274_6 := Aside0.mk hl274_6
           clear hi274_6 hl274_6
           replace p274 := eq_true p274
           replace q274 := eq_true q274
           go_wp2_with (first | ((with_reducible refine gate_dst (N := 4) rfl ?_); (try (refine gate_guard (by rfl) ?_; dsimp only)); refine box_event ?hg (N := 4) ?hd (cs := #[.int .i64 0, .int .i64 0, .string (⟨#[]⟩ : ByteArray), .slice none 0 0, .string (⟨#[]⟩ : ByteArray), .int .i64 0, .slice none 0 0]) (t := 44) ?hr ?_; (case hd => rfl); (case hg => rfl); (case hr => first | (go_simp; done) | (go_simp; rfl)); intro gb275 hg w34 hbox hb; have n0_ := Aside0.mk (below_step (by repeat (first | (with_reducible first | exact HB.out | apply below_alloc | apply pw_below_drewN | apply below_drew1) | exact HB.out)) hb); have n1_ := Aside0.mk (hbox); have n2_ := Aside0.mk ((by rw [hg]; exact (below_size (by repeat (first | (with_reducible first | exact HB.out | apply below_alloc | apply pw_below_drewN | apply below_drew1) | exact HB.out))) : w.heap.size ≤ gb275)); have n3_ := Aside0.mk ((by rw [hg]; exact (below_size (by repeat (first | (with_reducible first | exact HB.out | apply below_alloc | apply pw_below_drewN | apply below_drew1) | exact HB.out))) : w.heap.size ≤ gb275)); clear HB; have HB := n0_; have BK275 := n1_; have GW275 := n2_; have GE275 := n3_; clear n0_ n1_ n2_ n3_; clear hb hbox hg; have hcz35_0 : w34.cell? ⟨gb275, 0, none⟩ = some (.int .i64 0) := (blk_cell BK275.out 0).trans rfl; have hcz35_1 : w34.cell? ⟨gb275, 1, none⟩ = some (.int .i64 0) := (blk_cell BK275.out 1).trans rfl; have hcz35_2 : w34.cell? ⟨gb275, 2, none⟩ = some (.string (⟨#[]⟩ : ByteArray)) := (blk_cell BK275.out 2).trans rfl; have hcz35_3 : w34.cell? ⟨gb275, 3, none⟩ = some (.slice none 0 0) := (blk_cell BK275.out 3).trans rfl; have hcz35_4 : w34.cell? ⟨gb275, 4, none⟩ = some (.string (⟨#[]⟩ : ByteArray)) := (blk_cell BK275.out 4).trans rfl; have hcz35_5 : w34.cell? ⟨gb275, 5, none⟩ = some (.int .i64 0) := (blk_cell BK275.out 5).trans rfl; have hcz35_6 : w34.cell? ⟨gb275, 6, none⟩ = some (.slice none 0 0) := (blk_cell BK275.out 6).trans rfl; have hfz35_0 := blk_frozen BK275.out 0; have hfz35_1 := blk_frozen BK275.out 1; have hfz35_2 := blk_frozen BK275.out 2; have hfz35_3 := blk_frozen BK275.out 3; have hfz35_4 := blk_frozen BK275.out 4; have hfz35_5 := blk_frozen BK275.out 5; have hfz35_6 := blk_frozen BK275.out 6) | ((with_reducible refine gate_callee (f := 54) rfl ?_); refine goesL_ (some 24) rfl rfl Try.func54 (by kernel_rfl) rfl #[.agg #[.int .i64 ((rd_T44 y266 x19_2).f0), .int .i64 ((rd_T44 y266 x19_2).f1), .string ((rd_T44 y266 x19_2).f2), .slice A274_3 ((rd_T44 y266 x19_2).f3).length c274_3, .string ((rd_T44 y266 x19_2).f4), .int .i64 ((rd_T44 y266 x19_2).f5), .slice A274_6 ((rd_T44 y266 x19_2).f6).length c274_6]] rfl (by (try simp only [List.map_toArray, List.map_cons, List.map_nil]); first | done | rfl | (simp only [List.length_drop, List.length_take]; rfl)) ?_; (with_reducible refine (impl_itemOk.calls k2 ((rd_T44 y266 x19_2).f0) ((rd_T44 y266 x19_2).f1) ((rd_T44 y266 x19_2).f2) _ _ ((rd_T44 y266 x19_2).f3) ((rd_T44 y266 x19_2).f4) ((rd_T44 y266 x19_2).f5) _ _ ((rd_T44 y266 x19_2).f6) false _ ?side1 ?side2 ?side3 ?side4 A14.out).mono ?_); (case side1 => exact Kd.C_below HR274_3.out (by repeat (first | (with_reducible first | exact HB.out | apply below_alloc | apply pw_below_drewN | apply below_drew1 | refine below_set ?_ GE275.out) | exact HB.out))); (case side2 => exact HC274_3.out); (case side3 => exact Kd.C_below HR274_6.out (by repeat (first | (with_reducible first | exact HB.out | apply below_alloc | apply pw_below_drewN | apply below_drew1 | refine below_set ?_ GE275.out) | exact HB.out))); (case side4 => exact HC274_6.out); rintro e w36 ⟨rfl, hb⟩; refine ⟨_, rfl, ?_⟩; have n0_ := Aside0.mk (blk_below (g := gb275) (o := .cells #[.int .i64 ((rd_T44 y266 x19_2).f0), .int .i64 ((rd_T44 y266 x19_2).f1), .string ((rd_T44 y266 x19_2).f2), .slice A274_3 ((rd_T44 y266 x19_2).f3).length c274_3, .string ((rd_T44 y266 x19_2).f4), .int .i64 ((rd_T44 y266 x19_2).f5), .slice A274_6 ((rd_T44 y266 x19_2).f6).length c274_6] 44 (0, 0)) (by (with_reducible repeat (first | refine blk_drewN ?_ _ | refine blk_drew ?_ | refine blk_alloc ?_ _)); refine blk_put (cs := #[.int .i64 ((rd_T44 y266 x19_2).f0), .int .i64 ((rd_T44 y266 x19_2).f1), .string ((rd_T44 y266 x19_2).f2), .slice A274_3 ((rd_T44 y266 x19_2).f3).length c274_3, .string ((rd_T44 y266 x19_2).f4), .int .i64 ((rd_T44 y266 x19_2).f5), .slice none 0 0]) ?_ 6 _ rfl; (with_reducible repeat (first | refine blk_drewN ?_ _ | refine blk_drew ?_ | refine blk_alloc ?_ _)); refine blk_put (cs := #[.int .i64 ((rd_T44 y266 x19_2).f0), .int .i64 ((rd_T44 y266 x19_2).f1), .string ((rd_T44 y266 x19_2).f2), .slice A274_3 ((rd_T44 y266 x19_2).f3).length c274_3, .string ((rd_T44 y266 x19_2).f4), .int .i64 0, .slice none 0 0]) ?_ 5 _ rfl; (with_reducible repeat (first | refine blk_drewN ?_ _ | refine blk_drew ?_ | refine blk_alloc ?_ _)); refine blk_put (cs := #[.int .i64 ((rd_T44 y266 x19_2).f0), .int .i64 ((rd_T44 y266 x19_2).f1), .string ((rd_T44 y266 x19_2).f2), .slice A274_3 ((rd_T44 y266 x19_2).f3).length c274_3, .string (⟨#[]⟩ : ByteArray), .int .i64 0, .slice none 0 0]) ?_ 4 _ rfl; (with_reducible repeat (first | refine blk_drewN ?_ _ | refine blk_drew ?_ | refine blk_alloc ?_ _)); refine blk_put (cs := #[.int .i64 ((rd_T44 y266 x19_2).f0), .int .i64 ((rd_T44 y266 x19_2).f1), .string ((rd_T44 y266 x19_2).f2), .slice none 0 0, .string (⟨#[]⟩ : ByteArray), .int .i64 0, .slice none 0 0]) ?_ 3 _ rfl; (with_reducible repeat (first | refine blk_drewN ?_ _ | refine blk_drew ?_ | refine blk_alloc ?_ _)); refine blk_put (cs := #[.int .i64 ((rd_T44 y266 x19_2).f0), .int .i64 ((rd_T44 y266 x19_2).f1), .string (⟨#[]⟩ : ByteArray), .slice none 0 0, .string (⟨#[]⟩ : ByteArray), .int .i64 0, .slice none 0 0]) ?_ 2 _ rfl; (with_reducible repeat (first | refine blk_drewN ?_ _ | refine blk_drew ?_ | refine blk_alloc ?_ _)); refine blk_put (cs := #[.int .i64 ((rd_T44 y266 x19_2).f0), .int .i64 0, .string (⟨#[]⟩ : ByteArray), .slice none 0 0, .string (⟨#[]⟩ : ByteArray), .int .i64 0, .slice none 0 0]) ?_ 1 _ rfl; (with_reducible repeat (first | refine blk_drewN ?_ _ | refine blk_drew ?_ | refine blk_alloc ?_ _)); refine blk_put (cs := #[.int .i64 0, .int .i64 0, .string (⟨#[]⟩ : ByteArray), .slice none 0 0, .string (⟨#[]⟩ : ByteArray), .int .i64 0, .slice none 0 0]) ?_ 0 _ rfl; (with_reducible repeat (first | refine blk_drewN ?_ _ | refine blk_drew ?_ | refine blk_alloc ?_ _)); exact BK275.out) hb); have n1_ := Aside0.mk (below_step (by repeat (first | (with_reducible first | exact HB.out | apply below_alloc | apply pw_below_drewN | apply below_drew1 | refine below_set ?_ GE275.out) | exact HB.out)) hb); clear BK275; clear HB; have BK275 := n0_; have HB := n1_; clear n0_ n1_; (try clear hb); (try clear hb2); (try clear hk); (try clear hi)))
           go_ret
           exact ⟨by first | rfl | (simp [errW_none, errW_some] <;> rfl) | (simp [*, errW_none, errW_some] <;> rfl), by repeat (first | (with_reducible first | exact HB.out | apply below_alloc | apply pw_below_drewN | apply below_drew1 | refine below_set ?_ GE275.out) | exact HB.out)⟩
         ·rw [if_neg c13] at H
          exact absurd H (by simp)
        ·rw [if_neg c12] at H
         exact absurd H (by simp)
       ·rw [if_neg c11] at H
        have c11b0 : decide (x19_2 < (y266.length : Int)) = false := decide_eq_false c11
        clear c11
        replace H := Option.bind_eq_some_iff.mp H
        obtain ⟨t270, A370, H⟩ := H
        replace H : (if t270 = true then ((impl_order.f k2 l0).bind fun t271 => (some ((t271.length : Int) == (l0.length : Int)))) else (some false)) = some r := H
        have A37 := Aside0.mk A370
        clear A370
        by_cases c38 : t270 = true
        ·subst c38
         have H1 : ((impl_order.f k2 l0).bind fun t271 => (some ((t271.length : Int) == (l0.length : Int)))) = some r := by rw [if_pos rfl] at H; exact H
         clear H
         have H := H1
         clear H1
         replace H := Option.bind_eq_some_iff.mp H
         obtain ⟨t271, A390, H⟩ := H
         replace H : (some ((t271.length : Int) == (l0.length : Int))) = some r := H
         have A39 := Aside0.mk A390
         clear A390
         obtain rfl := Option.some.inj H
         go_wp2_with (first | ((with_reducible refine gate_callee (f := 66) rfl ?_); refine goesL_ (some 47) rfl rfl Try.func66 (by kernel_rfl) rfl #[.slice A0 l0.length c0] rfl (by (try simp only [List.map_toArray, List.map_cons, List.map_nil]); first | done | rfl | (simp only [List.length_drop, List.length_take]; rfl)) ?_; (with_reducible refine (impl_kidsOk.calls k2 _ _ l0 true _ ?side1 ?side2 A37.out).mono ?_); (case side1 => repeat (first | exact (Kd.C_below HR0.out HB.out) | (with_reducible refine Kd.C_alloc ?_ _) | (with_reducible refine Kd.C_drewN ?_ _) | (with_reducible refine Kd.C_drew ?_))); (case side2 => exact HC0.out); rintro e w40 ⟨rfl, hb⟩; refine ⟨_, rfl, ?_⟩; have n0_ := Aside0.mk (below_step (by repeat (first | (with_reducible first | exact HB.out | apply below_alloc | apply pw_below_drewN | apply below_drew1) | exact HB.out)) hb); clear HB; have HB := n0_; clear n0_; (try clear hb); (try clear hb2); (try clear hk); (try clear hi)) | (go_at_call 67; (with_reducible refine (impl_order.calls k2 _ _ l0 t271 _ ?side1 ?side2 A39.out).mono ?_); (case side1 => repeat (first | exact (Kd.C_below HR0.out HB.out) | (with_reducible refine Kd.C_alloc ?_ _) | (with_reducible refine Kd.C_drewN ?_ _) | (with_reducible refine Kd.C_drew ?_))); (case side2 => exact HC0.out); rintro e w41 ⟨v272, rfl, ho0, hb⟩; have n0_ := Aside0.mk (Kd.R_lower ho0 (below_size (by repeat (first | (with_reducible first | exact HB.out | apply below_alloc | apply pw_below_drewN | apply below_drew1) | exact HB.out)))); have n1_ := Aside0.mk (below_step (by repeat (first | (with_reducible first | exact HB.out | apply below_alloc | apply pw_below_drewN | apply below_drew1) | exact HB.out)) hb); clear HB; have HO273 := n0_; have HB := n1_; clear n0_ n1_; (try clear hb); (try clear hb2); (try clear hk); (try clear hi); (try clear ho0); obtain ⟨Ao42, co42, eo42⟩ := Kd.R_slice HO273.out; subst eo42))
         go_ret
         exact ⟨by first | rfl | (simp [errW_none, errW_some] <;> rfl) | (simp [*, errW_none, errW_some] <;> rfl), by repeat (first | (with_reducible first | exact HB.out | apply below_alloc | apply pw_below_drewN | apply below_drew1) | exact HB.out)⟩
        ·replace c38 := Bool.eq_false_iff.mpr c38
         subst c38
         have H1 : (some false) = some r := by rw [if_neg (show ¬ (false = true) by decide)] at H; exact H
         clear H
         have H := H1
         clear H1
         obtain rfl := Option.some.inj H
         go_wp2_with (first | ((with_reducible refine gate_callee (f := 66) rfl ?_); refine goesL_ (some 47) rfl rfl Try.func66 (by kernel_rfl) rfl #[.slice A0 l0.length c0] rfl (by (try simp only [List.map_toArray, List.map_cons, List.map_nil]); first | done | rfl | (simp only [List.length_drop, List.length_take]; rfl)) ?_; (with_reducible refine (impl_kidsOk.calls k2 _ _ l0 false _ ?side1 ?side2 A37.out).mono ?_); (case side1 => repeat (first | exact (Kd.C_below HR0.out HB.out) | (with_reducible refine Kd.C_alloc ?_ _) | (with_reducible refine Kd.C_drewN ?_ _) | (with_reducible refine Kd.C_drew ?_))); (case side2 => exact HC0.out); rintro e w43 ⟨rfl, hb⟩; refine ⟨_, rfl, ?_⟩; have n0_ := Aside0.mk (below_step (by repeat (first | (with_reducible first | exact HB.out | apply below_alloc | apply pw_below_drewN | apply below_drew1) | exact HB.out)) hb); clear HB; have HB := n0_; clear n0_; (try clear hb); (try clear hb2); (try clear hk); (try clear hi)))
         go_ret
         exact ⟨by first | rfl | (simp [errW_none, errW_some] <;> rfl) | (simp [*, errW_none, errW_some] <;> rfl), by repeat (first | (with_reducible first | exact HB.out | apply below_alloc | apply pw_below_drewN | apply below_drew1) | exact HB.out)⟩
    ·rw [if_neg c9] at H
     exact absurd H (by simp)
def impl_Order.f (k : Nat) (l0 : List (S44)) : Option (List Int) := (impl_TreeOk.f k l0).bind fun t280 => (if t280 = true then ((impl_order.f k l0).bind fun t281 => (some t281)) else (some ([] : List Int)))
theorem impl_Order.mono : ∀ a0 k, LeO (impl_Order.f k a0) (impl_Order.f (k + 1) a0) := by
 intro a0 k
 unfold impl_Order.f
 repeat' first
   | (with_reducible exact impl_TreeOk.mono _ _)
   | (with_reducible exact impl_order.mono _ _)
   | (with_reducible exact LeO.refl _)
   | (with_reducible exact LeO.none _)
   | (with_reducible refine LeO.ite ?_ ?_)
   | (with_reducible refine LeO.bind ?_ (fun _ => ?_))
   | exact impl_TreeOk.mono _ _
   | exact impl_order.mono _ _
   | exact LeO.none _
   | refine LeO.ite ?_ ?_
   | refine LeO.bind ?_ (fun _ => ?_)
set_option maxHeartbeats 8000000 in
set_option maxRecDepth 100000 in
theorem impl_Order.calls (k : Nat) (A0 : Option Addr) (c0 : Nat) (l0 : List (S44)) (r : List Int) (w : World) (hr0 : Kd.C k44 w A0 l0.length l0) (hc0 : l0.length ≤ c0) (h : impl_Order.f k l0 = some r) :
  Calls Try.prog 33 #[.slice A0 l0.length c0] w fun e w' => ∃ v0_ : Value, e = .returned (v0_) ∧ Kd.R (Kd.int .i64) 3 w' w.heap.size (fun _ => True) v0_ r ∧ Below w.heap.size w w' := by
 have HR0 := Aside0.mk hr0
 have HC0 := Aside0.mk hc0
 clear hr0 hc0
 have HB := Aside0.mk (Below.refl w.heap.size w)
 have H : ((impl_TreeOk.f k l0).bind fun t280 => (if t280 = true then ((impl_order.f k l0).bind fun t281 => (some t281)) else (some ([] : List Int)))) = some r := h
 clear h
 replace H := Option.bind_eq_some_iff.mp H
 obtain ⟨t280, A20, H⟩ := H
 replace H : (if t280 = true then ((impl_order.f k l0).bind fun t281 => (some t281)) else (some ([] : List Int))) = some r := H
 have A2 := Aside0.mk A20
 clear A20
 by_cases c3 : t280 = true
 ·subst c3
  have H1 : ((impl_order.f k l0).bind fun t281 => (some t281)) = some r := by rw [if_pos rfl] at H; exact H
  clear H
  have H := H1
  clear H1
  replace H := Option.bind_eq_some_iff.mp H
  obtain ⟨t281, A40, H⟩ := H
  replace H : (some t281) = some r := H
  have A4 := Aside0.mk A40
  clear A40
  obtain rfl := Option.some.inj H
  go_enter Try.func33, Try.ntmps33
  go_wp2_with (first | ((with_reducible refine gate_callee (f := 27) rfl ?_); refine goesL_ (some 4) rfl rfl Try.func27 (by kernel_rfl) rfl #[.slice A0 l0.length c0] rfl (by (try simp only [List.map_toArray, List.map_cons, List.map_nil]); first | done | rfl | (simp only [List.length_drop, List.length_take]; rfl)) ?_; (with_reducible refine (impl_TreeOk.calls k _ _ l0 true _ ?side1 ?side2 A2.out).mono ?_); (case side1 => repeat (first | exact HR0.out | (with_reducible refine Kd.C_alloc ?_ _) | (with_reducible refine Kd.C_drewN ?_ _) | (with_reducible refine Kd.C_drew ?_))); (case side2 => exact HC0.out); rintro e w5 ⟨rfl, hb⟩; refine ⟨_, rfl, ?_⟩; have n0_ := Aside0.mk (below_step (by repeat (first | (with_reducible first | exact HB.out | apply below_alloc | apply pw_below_drewN | apply below_drew1) | exact HB.out)) hb); clear HB; have HB := n0_; clear n0_; (try clear hb); (try clear hb2); (try clear hk); (try clear hi)) | ((with_reducible refine gate_callee (f := 67) rfl ?_); refine goesL_ (some 7) rfl rfl Try.func67 (by kernel_rfl) rfl #[.slice A0 l0.length c0] rfl (by (try simp only [List.map_toArray, List.map_cons, List.map_nil]); first | done | rfl | (simp only [List.length_drop, List.length_take]; rfl)) ?_; (with_reducible refine (impl_order.calls k _ _ l0 t281 _ ?side1 ?side2 A4.out).mono ?_); (case side1 => repeat (first | exact (Kd.C_below HR0.out HB.out) | (with_reducible refine Kd.C_alloc ?_ _) | (with_reducible refine Kd.C_drewN ?_ _) | (with_reducible refine Kd.C_drew ?_))); (case side2 => exact HC0.out); rintro e w6 ⟨v282, rfl, ho0, hb⟩; refine ⟨_, rfl, ?_⟩; have n0_ := Aside0.mk (Kd.R_lower ho0 (below_size (by repeat (first | (with_reducible first | exact HB.out | apply below_alloc | apply pw_below_drewN | apply below_drew1) | exact HB.out)))); have n1_ := Aside0.mk (below_step (by repeat (first | (with_reducible first | exact HB.out | apply below_alloc | apply pw_below_drewN | apply below_drew1) | exact HB.out)) hb); clear HB; have HO283 := n0_; have HB := n1_; clear n0_ n1_; (try clear hb); (try clear hb2); (try clear hk); (try clear hi); (try clear ho0)))
  go_ret
  exact ⟨_, by first | rfl | (simp [errW_none, errW_some] <;> rfl) | (simp [*, errW_none, errW_some] <;> rfl), by (with_reducible repeat (first | apply Kd.R_alloc | apply Kd.R_drewN | apply Kd.R_drew)); exact HO283.out, by repeat (first | (with_reducible first | exact HB.out | apply below_alloc | apply pw_below_drewN | apply below_drew1) | exact HB.out)⟩
 ·replace c3 := Bool.eq_false_iff.mpr c3
  subst c3
  have H1 : (some ([] : List Int)) = some r := by rw [if_neg (show ¬ (false = true) by decide)] at H; exact H
  clear H
  have H := H1
  clear H1
  obtain rfl := Option.some.inj H
  go_enter Try.func33, Try.ntmps33
  go_wp2_with (first | ((with_reducible refine gate_callee (f := 27) rfl ?_); refine goesL_ (some 4) rfl rfl Try.func27 (by kernel_rfl) rfl #[.slice A0 l0.length c0] rfl (by (try simp only [List.map_toArray, List.map_cons, List.map_nil]); first | done | rfl | (simp only [List.length_drop, List.length_take]; rfl)) ?_; (with_reducible refine (impl_TreeOk.calls k _ _ l0 false _ ?side1 ?side2 A2.out).mono ?_); (case side1 => repeat (first | exact HR0.out | (with_reducible refine Kd.C_alloc ?_ _) | (with_reducible refine Kd.C_drewN ?_ _) | (with_reducible refine Kd.C_drew ?_))); (case side2 => exact HC0.out); rintro e w7 ⟨rfl, hb⟩; refine ⟨_, rfl, ?_⟩; have n0_ := Aside0.mk (below_step (by repeat (first | (with_reducible first | exact HB.out | apply below_alloc | apply pw_below_drewN | apply below_drew1) | exact HB.out)) hb); clear HB; have HB := n0_; clear n0_; (try clear hb); (try clear hb2); (try clear hk); (try clear hi)))
  go_ret
  exact ⟨_, by first | rfl | (simp [errW_none, errW_some] <;> rfl) | (simp [*, errW_none, errW_some] <;> rfl), by first | exact Kd.R_nil _ _ _ _ _ | exact Kd.N_nil _ _ _ _ _ | exact Kd.V_nil _ _ _ _ _ | exact Kd.Q_nil _ _ _ _ _ | exact Kd.S_nil _ _ _ _ _, by repeat (first | (with_reducible first | exact HB.out | apply below_alloc | apply pw_below_drewN | apply below_drew1) | exact HB.out)⟩
def laws_heldIntS.l0 : Nat → List Int → Int → Int → Option (Int)
 | 0, _, _, _ => none
 | k + 1, x0, x1, x5 => if x5 < (x0.length : Int) then (if 0 ≤ x5 then (if (rd x0 x5) = x1 then (laws_heldIntS.l0 k x0 (wrap64 (x1 + 1)) (wrap64 (x5 + 1))) else (some (-1))) else (none)) else (some x1)
def laws_heldIntS.f (k : Nat) (l0 : List Int) (a1 : Int) : Option (Int) := laws_heldIntS.l0 k l0 a1 0
theorem laws_heldIntS.mono_l : ∀ k, (∀ y0 y1 y2, LeO (laws_heldIntS.l0 k y0 y1 y2) (laws_heldIntS.l0 (k + 1) y0 y1 y2))
 | 0 => fun _ _ _ r h => by simp [laws_heldIntS.l0] at h
 | k + 1 => by
  have ih0 := laws_heldIntS.mono_l k
  ·intro y0 y1 y2
   unfold laws_heldIntS.l0
   repeat' first
   | (with_reducible exact ih0 _ _ _)
   | (with_reducible exact LeO.refl _)
   | (with_reducible exact LeO.none _)
   | (with_reducible refine LeO.ite ?_ ?_)
   | (with_reducible refine LeO.bind ?_ (fun _ => ?_))
   | exact ih0 _ _ _
   | exact LeO.none _
   | refine LeO.ite ?_ ?_
   | refine LeO.bind ?_ (fun _ => ?_)
theorem laws_heldIntS.mono : ∀ a0 a1 k, LeO (laws_heldIntS.f k a0 a1) (laws_heldIntS.f (k + 1) a0 a1) := by
 intro a0 a1 k
 have ih0 := laws_heldIntS.mono_l k
 unfold laws_heldIntS.f
 repeat' first
   | (with_reducible exact ih0 _ _ _)
   | (with_reducible exact LeO.refl _)
   | (with_reducible exact LeO.none _)
   | (with_reducible refine LeO.ite ?_ ?_)
   | (with_reducible refine LeO.bind ?_ (fun _ => ?_))
   | exact ih0 _ _ _
   | exact LeO.none _
   | refine LeO.ite ?_ ?_
   | refine LeO.bind ?_ (fun _ => ?_)
set_option maxHeartbeats 8000000 in
set_option maxRecDepth 100000 in
theorem laws_heldIntS.calls (k : Nat) (A0 : Option Addr) (c0 : Nat) (l0 : List Int) (a1 : Int) (r : Int) (w : World) (hr0 : Kd.C (Kd.int .i64) w A0 l0.length l0) (hc0 : l0.length ≤ c0) (h : laws_heldIntS.f k l0 a1 = some r) :
  Calls Try.prog 36 #[.slice A0 l0.length c0, .int .i64 a1] w fun e w' => e = .returned (.int .i64 r) ∧ Drawn0 w w' := by
 have HR0 := Aside0.mk hr0
 have HC0 := Aside0.mk hc0
 clear hr0 hc0
 have H : (laws_heldIntS.l0 k l0 a1 0) = some r := h
 clear h
 have H' := Aside0.mk H
 clear H
 go_enter Try.func36, Try.ntmps36
 go_wp2
 go_loopg [1, 5] k (fun kq v1 v5 w' => ∃ (x1_1 : Int) (x5_1 : Int), v1 = .int .i64 x1_1 ∧ v5 = .int .i64 x5_1 ∧ Aside0 (laws_heldIntS.l0 kq l0 x1_1 x5_1 = some r) ∧ Aside0 (kq ≤ k) ∧ Drawn0 w w')
 case atStart => exact ⟨(a1), (0), (by first | rfl | (simp; done) | (simp [*]; done)), (by first | rfl | (simp; done) | (simp [*]; done)), H', ⟨Nat.le_refl _⟩, by repeat (first | exact Drawn0.refl _ | apply Drawn0.step)⟩
 case round =>
  clear H'
  try clear p2
  obtain ⟨x1_1, x5_1, rfl, rfl, HA, HK1, ⟨m1, rfl⟩⟩ := hrel
  cases gk with
  | zero => exact absurd HA.out (by simp [laws_heldIntS.l0])
  | succ k1 =>
   have H := HA.out
   clear HA
   simp only [laws_heldIntS.l0] at H
   by_cases c3 : x5_1 < (l0.length : Int)
   ·rw [if_pos c3] at H
    have c3b0 : decide (x5_1 < (l0.length : Int)) = true := decide_eq_true c3
    clear c3
    by_cases c4 : 0 ≤ x5_1
    ·rw [if_pos c4] at H
     have c4b0 : decide (0 ≤ x5_1) = true := decide_eq_true c4
     clear c4
     by_cases c5 : (rd l0 x5_1) = x1_1
     ·rw [if_pos c5] at H
      have c5b0 : ((rd l0 x5_1) == x1_1) = true := beq_iff_eq.mpr c5
      have c5b1 : ((rd l0 x5_1) != x1_1) = false := bne_eq_false_iff_eq.mpr c5
      clear c5
      have H' := Aside0.mk H
      clear H
      have p284 : 0 ≤ (x5_1 : Int) := of_decide_eq_true (by first | (with_reducible assumption) | assumption)
      have q284 : x5_1 < (l0.length : Int) := of_decide_eq_true (by first | (with_reducible assumption) | assumption)
      obtain ⟨ad284, e284, hx284_0⟩ := Kd.at_int HR0.out x5_1 p284 q284
      cases e284
      replace p284 := eq_true p284
      replace q284 := eq_true q284
      go_wp2
      go_roundg k1
      case measure => have := HK1.out; omega
      case rel => exact ⟨(wrap64 (x1_1 + 1)), (wrap64 (x5_1 + 1)), (by first | rfl | (simp; done) | (simp [*]; done)), (by first | rfl | (simp; done) | (simp [*]; done)), H', ⟨by have := HK1.out; omega⟩, by repeat (first | exact Drawn0.refl _ | apply Drawn0.step)⟩
     ·rw [if_neg c5] at H
      have c5b0 : ((rd l0 x5_1) == x1_1) = false := beq_eq_false_iff_ne.mpr c5
      have c5b1 : ((rd l0 x5_1) != x1_1) = true := bne_iff_ne.mpr c5
      obtain rfl := Option.some.inj H
      have p284 : 0 ≤ (x5_1 : Int) := of_decide_eq_true (by first | (with_reducible assumption) | assumption)
      have q284 : x5_1 < (l0.length : Int) := of_decide_eq_true (by first | (with_reducible assumption) | assumption)
      obtain ⟨ad284, e284, hx284_0⟩ := Kd.at_int HR0.out x5_1 p284 q284
      cases e284
      replace p284 := eq_true p284
      replace q284 := eq_true q284
      go_wp2
      go_ret
      exact ⟨by first | rfl | (simp; done) | (simp [*]; done), by repeat (first | exact Drawn0.refl _ | apply Drawn0.step)⟩
    ·rw [if_neg c4] at H
     exact absurd H (by simp)
   ·rw [if_neg c3] at H
    have c3b0 : decide (x5_1 < (l0.length : Int)) = false := decide_eq_false c3
    clear c3
    obtain rfl := Option.some.inj H
    go_wp2
    go_ret
    exact ⟨by first | rfl | (simp; done) | (simp [*]; done), by repeat (first | exact Drawn0.refl _ | apply Drawn0.step)⟩
def laws_FnExactOrder.f (k : Nat) (l0 : List (S36)) : Option Bool := (laws_szItemS.f k l0 1048576).bind fun t => (if t < 0 then some true else ((laws_toItemS.f k l0).bind fun x => ((spec_Order.f k x).bind fun o => (if impl_Order.f k x = some o ∧ laws_eqIntS.f k o o = some true ∧ laws_eqItemS.f k x x = some true then ((laws_markItemS.f k x 1).bind fun m1 => (if m1 < 0 then none else ((laws_markIntS.f k o 1).bind fun b => (if laws_heldIntS.f k b.2 1 = some b.1 ∧ 0 ≤ b.1 then some true else none)))) else none))))
set_option maxHeartbeats 8000000 in
set_option maxRecDepth 100000 in
theorem laws_FnExactOrder.calls (k : Nat) (A0 : Option Addr) (c0 : Nat) (l0 : List (S36)) (r : Bool) (w : World) (hr0 : Kd.C k36 w A0 l0.length l0) (hc0 : l0.length ≤ c0) (h : laws_FnExactOrder.f k l0 = some r) :
  Calls Try.prog 8 #[.slice A0 l0.length c0] w fun e w' => e = .returned (.bool r) ∧ Below w.heap.size w w' := by
 have HR := Aside0.mk hr0
 have HC := Aside0.mk hc0
 clear hr0 hc0
 obtain ⟨t, A1, h⟩ := Option.bind_eq_some_iff.mp h
 replace A1 := Aside0.mk A1
 by_cases ct : t < 0
 ·rw [if_pos ct] at h
  obtain rfl := Option.some.inj h
  have ctb : decide (t < 0) = true := decide_eq_true ct
  clear h ct
  go_enter Try.func8, Try.ntmps8
  go_wp2_with (go_at_call 15; refine (laws_szItemS.calls k A0 c0 l0 1048576 t _ HR.out HC.out A1.out).mono ?_; rintro e w1 ⟨rfl, hb⟩; have HB := Aside0.mk hb; clear hb)
  go_ret
  exact ⟨by first | rfl | (simp; done), HB.out⟩
 rw [if_neg ct] at h
 have ctb : decide (t < 0) = false := decide_eq_false ct
 clear ct
 obtain ⟨x, A2, h⟩ := Option.bind_eq_some_iff.mp h
 obtain ⟨o, A3, h⟩ := Option.bind_eq_some_iff.mp h
 by_cases ca : impl_Order.f k x = some o ∧ laws_eqIntS.f k o o = some true ∧ laws_eqItemS.f k x x = some true
 rotate_left
 ·rw [if_neg ca] at h; exact absurd h (by simp)
 rw [if_pos ca] at h
 obtain ⟨A4, A5, A6⟩ := ca
 obtain ⟨m1, A7, h⟩ := Option.bind_eq_some_iff.mp h
 by_cases cm : m1 < 0
 ·rw [if_pos cm] at h; exact absurd h (by simp)
 rw [if_neg cm] at h
 have cmb : decide (m1 < 0) = false := decide_eq_false cm
 clear cm
 obtain ⟨⟨mm, om⟩, A8, h⟩ := Option.bind_eq_some_iff.mp h
 by_cases cq : laws_heldIntS.f k om 1 = some mm ∧ 0 ≤ mm
 rotate_left
 ·rw [if_neg cq] at h; exact absurd h (by simp)
 rw [if_pos cq] at h
 obtain rfl := Option.some.inj h
 obtain ⟨A9, cq⟩ := cq
 have cqb : decide (mm < 0) = false := decide_eq_false (by omega)
 clear h cq
 replace A2 := Aside0.mk A2
 replace A3 := Aside0.mk A3
 replace A4 := Aside0.mk A4
 replace A5 := Aside0.mk A5
 replace A6 := Aside0.mk A6
 replace A7 := Aside0.mk A7
 replace A8 := Aside0.mk A8
 replace A9 := Aside0.mk A9
 go_enter Try.func8, Try.ntmps8
 -- the size, a copy, the reference's order
 go_wp2_with (go_at_call 15; refine (laws_szItemS.calls k A0 c0 l0 1048576 t _ HR.out HC.out A1.out).mono ?_; rintro e w1 ⟨rfl, hb⟩; have B1 := Aside0.mk hb; clear hb)
 go_wp2_with (go_at_call 18; refine (laws_toItemS.calls k A0 c0 l0 x _ (Kd.C_below HR.out B1.out) HC.out A2.out).mono ?_; rintro e w2 ⟨v1, rfl, hS, hb⟩; obtain ⟨a1, n1, rfl⟩ := Kd.S_slice hS; have S1 := Aside0.mk hS; have B2 := Aside0.mk (below_step B1.out hb); clear hS hb)
 go_wp2_with (go_at_call 32; refine (spec_Order.calls k a1 n1 x o _ (Kd.S_reads' S1.out).2.2 (Kd.S_reads' S1.out).2.1 A3.out).mono ?_; rintro e w3 ⟨v2, rfl, hR, hb⟩; obtain ⟨a2, n2, rfl⟩ := Kd.R_slice hR; have R2 := Aside0.mk (Kd.R_mono (ok' := fun k => k < w3.heap.size) (Kd.R_bound hR) (fun k hk => hk.2.2.1)); have B3 := Aside0.mk (below_step B2.out hb); clear hR hb S1)
 -- the copy that is handed over, and its order
 go_wp2_with (go_at_call 18; refine (laws_toItemS.calls k A0 c0 l0 x _ (Kd.C_below HR.out B3.out) HC.out A2.out).mono ?_; rintro e w4 ⟨v3, rfl, hS, hb⟩; obtain ⟨a3, n3, rfl⟩ := Kd.S_slice hS; have S3 := Aside0.mk (Kd.S_mono (ok' := fun k => w3.heap.size ≤ k ∧ k < w4.heap.size) (Kd.S_bound hS) (fun k hk => ⟨hk.2.1, hk.2.2.1⟩)); have B4 := Aside0.mk (below_step B3.out hb); have R2b := Aside0.mk (Kd.R_below R2.out hb); have Z4 := Aside0.mk hb.size; clear R2 hS hb; have R2 := R2b; clear R2b)
 go_wp2_with (go_at_call 33; refine (impl_Order.calls k a3 n3 x o _ (Kd.S_reads' S3.out).2.2 (Kd.S_reads' S3.out).2.1 A4.out).mono ?_; rintro e w5 ⟨v4, rfl, hR, hb⟩; obtain ⟨a4, n4, rfl⟩ := Kd.R_slice hR; have R4 := Aside0.mk (Kd.R_mono (ok' := fun k => w4.heap.size ≤ k ∧ k < w5.heap.size) (Kd.R_bound hR) (fun k hk => ⟨hk.2.1, hk.2.2.1⟩)); have B5 := Aside0.mk (below_step B4.out hb); have R2b := Aside0.mk (Kd.R_below R2.out hb); have S3b := Aside0.mk (Kd.S_below S3.out hb); have Z5 := Aside0.mk hb.size; clear R2 S3 hR hb; have R2 := R2b; have S3 := S3b; clear R2b S3b)
 go_wp2_with (go_at_call 34; refine (laws_eqIntS.calls k a4 n4 o a2 n2 o true _ (Kd.R_reads' R4.out).2.2 (Kd.R_reads' R4.out).2.1 (Kd.R_reads' R2.out).2.2 (Kd.R_reads' R2.out).2.1 A5.out).mono ?_; rintro e w6 ⟨rfl, hd⟩; have hb := (show Below w5.heap.size w5 w6 by obtain ⟨nd, rfl⟩ := hd; exact pw_below_drewN (Below.refl _ _) nd); have B6 := Aside0.mk (below_step B5.out hb); have R2b := Aside0.mk (Kd.R_below R2.out hb); have R4b := Aside0.mk (Kd.R_below R4.out hb); have S3b := Aside0.mk (Kd.S_below S3.out hb); clear R2 R4 S3 hd hb; have R2 := R2b; have R4 := R4b; have S3 := S3b; clear R2b R4b S3b)
 -- what was handed over is as it was
 go_wp2_with (go_at_call 18; refine (laws_toItemS.calls k A0 c0 l0 x _ (Kd.C_below HR.out B6.out) HC.out A2.out).mono ?_; rintro e w7 ⟨v6, rfl, hS, hb⟩; obtain ⟨a6, n6, rfl⟩ := Kd.S_slice hS; have S6 := Aside0.mk hS; have B7 := Aside0.mk (below_step B6.out hb); have R2b := Aside0.mk (Kd.R_below R2.out hb); have R4b := Aside0.mk (Kd.R_below R4.out hb); have S3b := Aside0.mk (Kd.S_below S3.out hb); clear R2 R4 S3 hS hb; have R2 := R2b; have R4 := R4b; have S3 := S3b; clear R2b R4b S3b)
 go_wp2_with (go_at_call 21; refine (laws_eqItemS.calls k a3 n3 x a6 n6 x true _ (Kd.S_reads' S3.out).2.2 (Kd.S_reads' S3.out).2.1 (Kd.S_reads' S6.out).2.2 (Kd.S_reads' S6.out).2.1 A6.out).mono ?_; rintro e w8 ⟨rfl, hb⟩; have B8 := Aside0.mk (below_step B7.out hb); have R2b := Aside0.mk (Kd.R_below R2.out hb); have R4b := Aside0.mk (Kd.R_below R4.out hb); have S3b := Aside0.mk (Kd.S_below S3.out hb); clear R2 R4 S3 S6 hb; have R2 := R2b; have R4 := R4b; have S3 := S3b; clear R2b R4b S3b)
 -- it is marked: the result is as it was
 go_wp2_with (go_at_call 23; refine (laws_markItemS.calls k (fun k => w3.heap.size ≤ k ∧ k < w4.heap.size) _ x 1 m1 w _ B8.out (Kd.S_lower S3.out B3.out.size) A7.out).mono ?_; rintro e w9 ⟨rfl, hb, hk⟩; have B9 := Aside0.mk hb; have R2b := Aside0.mk (Kd.R_step R2.out (fun k h1 h2 => hk.2 k h2 (fun h3 => absurd h1 (Nat.not_lt.2 h3.1)))); have R4b := Aside0.mk (Kd.R_step R4.out (fun k h1 h2 => hk.2 k h2 (fun h3 => absurd h3.2 (Nat.not_lt.2 h1.1)))); clear R2 R4 S3 hb hk; have R2 := R2b; have R4 := R4b; clear R2b R4b)
 go_wp2_with (go_at_call 34; refine (laws_eqIntS.calls k a4 n4 o a2 n2 o true _ (Kd.R_reads' R4.out).2.2 (Kd.R_reads' R4.out).2.1 (Kd.R_reads' R2.out).2.2 (Kd.R_reads' R2.out).2.1 A5.out).mono ?_; rintro e w10 ⟨rfl, hd⟩; have hb := (show Below w9.heap.size w9 w10 by obtain ⟨nd, rfl⟩ := hd; exact pw_below_drewN (Below.refl _ _) nd); have B10 := Aside0.mk (below_step B9.out hb); have R2b := Aside0.mk (Kd.R_below R2.out hb); have R4b := Aside0.mk (Kd.R_below R4.out hb); clear R2 R4 hd hb; have R2 := R2b; have R4 := R4b; clear R2b R4b)
 -- the result is marked, and holds its marks
 go_wp2_with (go_at_call 35; refine (laws_markIntS.calls k (fun k => w4.heap.size ≤ k ∧ k < w5.heap.size) _ o 1 mm om w _ B10.out (Kd.R_lower R4.out B4.out.size) A8.out).mono ?_; rintro e w11 ⟨rfl, hR, hb, hk⟩; have B11 := Aside0.mk hb; have R2b := Aside0.mk (Kd.R_step R2.out (fun k h1 h2 => hk.2 k h2 (fun h3 => absurd h1 (Nat.not_lt.2 (Nat.le_trans Z4.out h3.1))))); have hln := (Kd.R_reads' hR).1; rw [hln] at hR; have R5 := Aside0.mk hR; have HLN := Aside0.mk hln; clear R2 R4 hR hb hk hln; have R2 := R2b; clear R2b)
 go_wp2_with (go_at_call 36; have HH := laws_heldIntS.calls k a4 n4 om 1 mm w11 (Kd.R_reads' R5.out).2.2 (Kd.R_reads' R5.out).2.1 A9.out; rw [← HLN.out] at HH; refine HH.mono ?_; clear HH; rintro e w12 ⟨rfl, hd⟩; have hb := (show Below w11.heap.size w11 w12 by obtain ⟨nd, rfl⟩ := hd; exact pw_below_drewN (Below.refl _ _) nd); have B12 := Aside0.mk (below_step B11.out hb); have R2b := Aside0.mk (Kd.R_below R2.out hb); have R5b := Aside0.mk (Kd.R_below R5.out hb); clear R2 R5 hd hb; have R2 := R2b; have R5 := R5b; clear R2b R5b)
 -- another order is none of its
 go_wp2_with (go_at_call 18; refine (laws_toItemS.calls k A0 c0 l0 x _ (Kd.C_below HR.out B12.out) HC.out A2.out).mono ?_; rintro e w13 ⟨v8, rfl, hS, hb⟩; obtain ⟨a8, n8, rfl⟩ := Kd.S_slice hS; have S8 := Aside0.mk hS; have B13 := Aside0.mk (below_step B12.out hb); have R2b := Aside0.mk (Kd.R_below R2.out hb); have R5b := Aside0.mk (Kd.R_below R5.out hb); clear R2 R5 hS hb; have R2 := R2b; have R5 := R5b; clear R2b R5b)
 go_wp2_with (go_at_call 33; refine (impl_Order.calls k a8 n8 x o _ (Kd.S_reads' S8.out).2.2 (Kd.S_reads' S8.out).2.1 A4.out).mono ?_; rintro e w14 ⟨v9, rfl, hR, hb⟩; obtain ⟨a9, n9, rfl⟩ := Kd.R_slice hR; have R9 := Aside0.mk hR; have B14 := Aside0.mk (below_step B13.out hb); have R2b := Aside0.mk (Kd.R_below R2.out hb); have R5b := Aside0.mk (Kd.R_below R5.out hb); clear R2 R5 S8 hR hb; have R2 := R2b; have R5 := R5b; clear R2b R5b)
 go_wp2_with (go_at_call 34; refine (laws_eqIntS.calls k a9 n9 o a2 n2 o true _ (Kd.R_reads' R9.out).2.2 (Kd.R_reads' R9.out).2.1 (Kd.R_reads' R2.out).2.2 (Kd.R_reads' R2.out).2.1 A5.out).mono ?_; rintro e w15 ⟨rfl, hd⟩; have hb := (show Below w14.heap.size w14 w15 by obtain ⟨nd, rfl⟩ := hd; exact pw_below_drewN (Below.refl _ _) nd); have B15 := Aside0.mk (below_step B14.out hb); have R5b := Aside0.mk (Kd.R_below R5.out hb); clear R2 R5 R9 hd hb; have R5 := R5b; clear R5b)
 go_wp2_with (go_at_call 36; have HH := laws_heldIntS.calls k a4 n4 om 1 mm w15 (Kd.R_reads' R5.out).2.2 (Kd.R_reads' R5.out).2.1 A9.out; rw [← HLN.out] at HH; refine HH.mono ?_; clear HH; rintro e w16 ⟨rfl, hd⟩; have hb := (show Below w15.heap.size w15 w16 by obtain ⟨nd, rfl⟩ := hd; exact pw_below_drewN (Below.refl _ _) nd); have B16 := Aside0.mk (below_step B15.out hb); clear R5 hd hb)
 go_ret
 exact ⟨by first | rfl | (simp; done), B16.out⟩
end Go.Proofs.Ytbgedpicfllclaa.PFnExactOrder
