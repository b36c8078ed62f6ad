-- Written by this session's program wip/slim.py out of the print's texts. Lean checks it.
import Derived.Test.YtbgedpicfllclaaSFnExactAddx0
import Derived.Test.YtbgedpicfllclaaSFnExactAddx1
namespace Go.Proofs.Ytbgedpicfllclaa.PFnExactAdd
open Go.RowKit Go.Proofs.YtbgedpicfllclaaW.PrintWords Go.Proofs.YtbgedpicfllclaaW.PrintLast Go.Proofs.YtbgedpicfllclaaW.PrintMore
attribute [local go_sem] max2_int min2_int max_two min_two max_three min_three max_four min_four
set_option linter.unusedVariables false
set_option linter.unusedSimpArgs false
mutual
def impl_kidsOk.l0 : Nat → List (S44) → List Int → List (S44) → Int → Int → Option (Bool)
 | 0, _, _, _, _, _ => none
 | k + 1, x0, x3, x12, x13, x14 => if x14 < x13 then (if 0 ≤ x14 then (if x14 < (x12.length : Int) then (impl_kidsOk.l1 k x0 x3 x14 x12 x13 x14 ((rd_T44 x12 x14).f6) (((rd_T44 x12 x14).f6).length : Int) 0) else (none)) else (none)) else (impl_kidsOk.l2 k x0 x3 1)
def impl_kidsOk.l1 : Nat → List (S44) → List Int → Int → List (S44) → Int → Int → List Int → Int → Int → Option (Bool)
 | 0, _, _, _, _, _, _, _, _, _ => none
 | k + 1, x0, x3, x4, x12, x13, x14, x20, x21, x22 => if x22 < x21 then (if 0 ≤ x22 then (if x22 < (x20.length : Int) then ((impl_inRange.f (rd x20 x22) 1 (wrap64 ((x0.length : Int) - 1))).bind fun t126 => (if t126 = true then (if 0 ≤ (rd x20 x22) then (if (rd x20 x22) < (x0.length : Int) then (if ((rd_T44 x0 (rd x20 x22)).f5) = x4 then (if (rd x20 x22) < (x3.length : Int) then (impl_kidsOk.l1 k x0 (x3.set ((rd x20 x22) : Int).toNat (wrap64 ((rd x3 (rd x20 x22)) + 1))) x4 x12 x13 x14 x20 x21 (wrap64 (x22 + 1))) else (none)) else (some false)) else (none)) else (none)) else (some false))) else (none)) else (none)) else (impl_kidsOk.l0 k x0 x3 x12 x13 (wrap64 (x14 + 1)))
def impl_kidsOk.l2 : Nat → List (S44) → List Int → Int → Option (Bool)
 | 0, _, _, _ => none
 | k + 1, x0, x3, x8 => if x8 < (x0.length : Int) then (if 0 ≤ x8 then (if x8 < (x3.length : Int) then (if (rd x3 x8) = 1 then (impl_kidsOk.l2 k x0 x3 (wrap64 (x8 + 1))) else (some false)) else (none)) else (none)) else (some true)
end
def impl_kidsOk.f (k : Nat) (l0 : List (S44)) : Option (Bool) := if 0 ≤ (l0.length : Int) then (if ((l0.length : Int) : Int).toNat ≤ 35184372088832 then (impl_kidsOk.l0 k l0 (List.replicate ((l0.length : Int) : Int).toNat 0) l0 (l0.length : Int) 0) else (none)) else (none)
theorem impl_kidsOk.mono_l : ∀ k, (∀ y0 y1 y2 y3 y4, LeO (impl_kidsOk.l0 k y0 y1 y2 y3 y4) (impl_kidsOk.l0 (k + 1) y0 y1 y2 y3 y4)) ∧ (∀ y0 y1 y2 y3 y4 y5 y6 y7 y8, LeO (impl_kidsOk.l1 k y0 y1 y2 y3 y4 y5 y6 y7 y8) (impl_kidsOk.l1 (k + 1) y0 y1 y2 y3 y4 y5 y6 y7 y8)) ∧ (∀ y0 y1 y2, LeO (impl_kidsOk.l2 k y0 y1 y2) (impl_kidsOk.l2 (k + 1) y0 y1 y2))
 | 0 => ⟨fun _ _ _ _ _ r h => by simp [impl_kidsOk.l0] at h, fun _ _ _ _ _ _ _ _ _ r h => by simp [impl_kidsOk.l1] at h, fun _ _ _ r h => by simp [impl_kidsOk.l2] at h⟩
 | k + 1 => by
  obtain ⟨ih0, ih1, ih2⟩ := impl_kidsOk.mono_l k
  refine ⟨?_, ?_, ?_⟩
  ·intro y0 y1 y2 y3 y4
   unfold impl_kidsOk.l0
   repeat' first
   | (with_reducible exact ih0 _ _ _ _ _)
   | (with_reducible exact ih1 _ _ _ _ _ _ _ _ _)
   | (with_reducible exact ih2 _ _ _)
   | (with_reducible exact LeO.refl _)
   | (with_reducible exact LeO.none _)
   | (with_reducible refine LeO.ite ?_ ?_)
   | (with_reducible refine LeO.bind ?_ (fun _ => ?_))
  ·intro y0 y1 y2 y3 y4 y5 y6 y7 y8
   unfold impl_kidsOk.l1
   repeat' first
   | (with_reducible exact ih0 _ _ _ _ _)
   | (with_reducible exact ih1 _ _ _ _ _ _ _ _ _)
   | (with_reducible exact ih2 _ _ _)
   | (with_reducible exact LeO.refl _)
   | (with_reducible exact LeO.none _)
   | (with_reducible refine LeO.ite ?_ ?_)
   | (with_reducible refine LeO.bind ?_ (fun _ => ?_))
  ·intro y0 y1 y2
   unfold impl_kidsOk.l2
   repeat' first
   | (with_reducible exact ih0 _ _ _ _ _)
   | (with_reducible exact ih1 _ _ _ _ _ _ _ _ _)
   | (with_reducible exact ih2 _ _ _)
   | (with_reducible exact LeO.refl _)
   | (with_reducible exact LeO.none _)
   | (with_reducible refine LeO.ite ?_ ?_)
   | (with_reducible refine LeO.bind ?_ (fun _ => ?_))
theorem impl_kidsOk.mono : ∀ a0 k, LeO (impl_kidsOk.f k a0) (impl_kidsOk.f (k + 1) a0) := by
 intro a0 k
 obtain ⟨ih0, ih1, ih2⟩ := impl_kidsOk.mono_l k
 unfold impl_kidsOk.f
 repeat' first
   | (with_reducible exact ih0 _ _ _ _ _)
   | (with_reducible exact ih1 _ _ _ _ _ _ _ _ _)
   | (with_reducible exact ih2 _ _ _)
   | (with_reducible exact LeO.refl _)
   | (with_reducible exact LeO.none _)
   | (with_reducible refine LeO.ite ?_ ?_)
   | (with_reducible refine LeO.bind ?_ (fun _ => ?_))
set_option maxHeartbeats 8000000 in
set_option maxRecDepth 100000 in
theorem impl_kidsOk.calls (k : Nat) (A0 : Option Addr) (c0 : Nat) (l0 : List (S44)) (r : Bool) (w : World) (hr0 : Kd.C k44 w A0 l0.length l0) (hc0 : l0.length ≤ c0) (h : impl_kidsOk.f k l0 = some r) :
  Calls Try.prog 66 #[.slice A0 l0.length c0] w fun e w' => e = .returned (.bool r) ∧ Below w.heap.size w w' := by
 have hu44 := Try.underlying44
 have HR0 := Aside0.mk hr0
 have HC0 := Aside0.mk hc0
 clear hr0 hc0
 have HB := Aside0.mk (Below.refl w.heap.size w)
 have H : (if 0 ≤ (l0.length : Int) then (if ((l0.length : Int) : Int).toNat ≤ 35184372088832 then (impl_kidsOk.l0 k l0 (List.replicate ((l0.length : Int) : Int).toNat 0) l0 (l0.length : Int) 0) else (none)) else (none)) = some r := h
 clear h
 by_cases c2 : 0 ≤ (l0.length : Int)
 ·rw [if_pos c2] at H
  have c2b0 := eq_true c2
  have c2b1 : decide (0 ≤ (l0.length : Int)) = true := decide_eq_true c2
  clear c2
  by_cases c3 : ((l0.length : Int) : Int).toNat ≤ 35184372088832
  ·rw [if_pos c3] at H
   have c3b0 := eq_true c3
   have c3b1 : decide (((l0.length : Int) : Int).toNat ≤ 35184372088832) = true := decide_eq_true c3
   clear c3
   obtain ⟨y120, hy120⟩ : ∃ y_ : List Int, y_ = (List.replicate ((l0.length : Int) : Int).toNat 0) := ⟨_, rfl⟩
   replace H : (impl_kidsOk.l0 k l0 y120 l0 (l0.length : Int) 0) = some r := by first | (rw [hy120]; with_reducible exact H) | (have H2_ := (Option.bind_some _ _).symm.trans H; rw [hy120]; with_reducible exact H2_) | (have H2_ := (Option.bind_some _ _).symm.trans H; with_reducible exact H2_) | with_reducible exact H | (rw [hy120]; exact H) | exact H
   have Ny120 := Aside0.mk hy120
   clear hy120
   have H' := Aside0.mk H
   clear H
   go_enter Try.func66, Try.ntmps66
   go_wp2_with (first | ((with_reducible refine gate_dst (N := 11) rfl ?_); refine Kd.R_make (Kd.int .i64) _ 3 rfl (N := 11) rfl 23 _ _ rfl (l0.length : Int) rfl rfl Try.underlying23 (.int .i64 0) 8 info3 rfl (by decide) (by omega) 0 (ok := fun _ => True) (okp := fun _ => True) rfl (fun _ hk => hk) trivial (dq_ (by assumption)) (Nat.le_trans (Nat.mul_le_mul_right _ (dq_ (by assumption) : (l0.length : Int).toNat ≤ 35184372088832)) (by omega)) (Below.refl _ _) (Nat.le_refl _) ?_; intro v121 w4 ho5 hb hg_ hnew_; clear hg_ hnew_; (first | rw [← Ny120.out] at ho5 | (simp only [Int.reduceToNat] at ho5; rw [← Ny120.out] at ho5)); have n0_ := Aside0.mk (Kd.R_lower ho5 (below_size (by repeat (first | (with_reducible first | exact HB.out | apply ba_ | apply bn_ | apply b1_) | exact HB.out)))); have n1_ := Aside0.mk (below_step (by repeat (first | (with_reducible first | exact HB.out | apply ba_ | apply bn_ | apply b1_) | exact HB.out)) hb); clear HB; have HO122 := n0_; have HB := n1_; clear n0_ n1_; clear hb ho5))
   go_loopg [14] k (fun kq v14 w' => ∃ (x3_1 : List Int) (x14_1 : Int), v14 = .int .i64 x14_1 ∧ Aside0 (impl_kidsOk.l0 kq l0 x3_1 l0 (l0.length : Int) x14_1 = some r) ∧ Aside0 (kq ≤ k) ∧ Aside0 (Kd.R (Kd.int .i64) 3 w' w.heap.size (fun _ => True) v121 x3_1) ∧ Aside0 (Below w.heap.size w w'))
   case atStart => exact ⟨(y120), (0), (by first | rfl | (simp; done) | (simp [*]; done)), H', ⟨Nat.le_refl _⟩, ⟨by (with_reducible repeat (first | apply Kd.R_alloc | apply Kd.R_drewN | apply Kd.R_drew)); exact HO122.out⟩, ⟨by repeat (first | (with_reducible first | exact HB.out | apply ba_ | apply bn_ | apply b1_) | exact HB.out)⟩⟩
   case round =>
    clear H'
    try clear c2
    try clear c2b0
    try clear c2b1
    try clear c3
    try clear c3b0
    try clear c3b1
    obtain ⟨x3_1, x14_1, rfl, HA, HK1, HO_3, HB⟩ := hrel
    cases gk with
    | zero => exact absurd HA.out (by simp [impl_kidsOk.l0])
    | succ k1 =>
     have H := HA.out
     clear HA
     simp only [impl_kidsOk.l0] at H
     by_cases c6 : x14_1 < (l0.length : Int)
     ·rw [if_pos c6] at H
      have c6b0 : decide (x14_1 < (l0.length : Int)) = true := decide_eq_true c6
      clear c6
      by_cases c7 : 0 ≤ x14_1
      ·rw [if_pos c7] at H
       have c7b0 : decide (0 ≤ x14_1) = true := decide_eq_true c7
       clear c7
       by_cases c8 : x14_1 < (l0.length : Int)
       ·rw [if_pos c8] at H
        have c8b0 : decide (x14_1 < (l0.length : Int)) = true := decide_eq_true c8
        clear c8
        have H' := Aside0.mk H
        clear H
        have p123 : 0 ≤ (x14_1 : Int) := dq_ (by assumption)
        have q123 : x14_1 < (l0.length : Int) := dq_ (by assumption)
        obtain ⟨ad123, A123_3, c123_3, A123_6, c123_6, e123, hx123_0, hx123_1, hx123_2, hx123_3, hx123_4, hx123_5, hx123_6, hl123_3, hi123_3, hl123_6, hi123_6⟩ := at_T44 HR0.out x14_1 p123 q123
        cases e123
        replace hx123_0 := pw_cell_below HB.out hx123_0
        replace hx123_1 := pw_cell_below HB.out hx123_1
        replace hx123_2 := pw_cell_below HB.out hx123_2
        replace hx123_3 := pw_cell_below HB.out hx123_3
        replace hx123_4 := pw_cell_below HB.out hx123_4
        replace hx123_5 := pw_cell_below HB.out hx123_5
        replace hx123_6 := pw_cell_below HB.out hx123_6
        have HR123_3 := Aside0.mk hi123_3
        have HC123_3 := Aside0.mk hl123_3
        clear hi123_3 hl123_3
        have HR123_6 := Aside0.mk hi123_6
        have HC123_6 := Aside0.mk hl123_6
        clear hi123_6 hl123_6
        replace p123 := eq_true p123
        replace q123 := eq_true q123
        go_wp2_with (first | ((with_reducible refine gate_dst (N := 5) rfl ?_); refine box_event ?hg (N := 5) ?hd (cs := #[.int .i64 0, .int .i64 0, .string (⟨#[]⟩ : ByteArray), .slice none 0 0, .string (⟨#[]⟩ : ByteArray), .int .i64 0, .slice none 0 0]) (t := 44) ?hr ?_; (case hd => rfl); (case hg => rfl); (case hr => first | (go_simp; done) | (go_simp; rfl)); intro gb124 hg w9 hbox hb; have n0_ := Aside0.mk (Kd.R_below (by (with_reducible repeat (first | apply Kd.R_alloc | apply Kd.R_drewN | apply Kd.R_drew)); exact HO_3.out) hb); have n1_ := Aside0.mk (below_step (by repeat (first | (with_reducible first | exact HB.out | apply ba_ | apply bn_ | apply b1_) | exact HB.out)) hb); have n2_ := Aside0.mk (hbox); have n3_ := Aside0.mk ((by rw [hg]; exact (below_size (by repeat (first | (with_reducible first | exact HB.out | apply ba_ | apply bn_ | apply b1_) | exact HB.out))) : w.heap.size ≤ gb124)); have n4_ := Aside0.mk ((by rw [hg]; exact (below_size (by repeat (first | (with_reducible first | exact HB.out | apply ba_ | apply bn_ | apply b1_) | exact HB.out))) : w.heap.size ≤ gb124)); clear HO_3; clear HB; have HO_3 := n0_; have HB := n1_; have BK124 := n2_; have GW124 := n3_; have GE124 := n4_; clear n0_ n1_ n2_ n3_ n4_; clear hb hbox hg; have hcz10_0 : w9.cell? ⟨gb124, 0, none⟩ = some (.int .i64 0) := (bc_ BK124.out 0).trans rfl; have hcz10_1 : w9.cell? ⟨gb124, 1, none⟩ = some (.int .i64 0) := (bc_ BK124.out 1).trans rfl; have hcz10_2 : w9.cell? ⟨gb124, 2, none⟩ = some (.string (⟨#[]⟩ : ByteArray)) := (bc_ BK124.out 2).trans rfl; have hcz10_3 : w9.cell? ⟨gb124, 3, none⟩ = some (.slice none 0 0) := (bc_ BK124.out 3).trans rfl; have hcz10_4 : w9.cell? ⟨gb124, 4, none⟩ = some (.string (⟨#[]⟩ : ByteArray)) := (bc_ BK124.out 4).trans rfl; have hcz10_5 : w9.cell? ⟨gb124, 5, none⟩ = some (.int .i64 0) := (bc_ BK124.out 5).trans rfl; have hcz10_6 : w9.cell? ⟨gb124, 6, none⟩ = some (.slice none 0 0) := (bc_ BK124.out 6).trans rfl; have hfz10_0 := blk_frozen BK124.out 0; have hfz10_1 := blk_frozen BK124.out 1; have hfz10_2 := blk_frozen BK124.out 2; have hfz10_3 := blk_frozen BK124.out 3; have hfz10_4 := blk_frozen BK124.out 4; have hfz10_5 := blk_frozen BK124.out 5; have hfz10_6 := blk_frozen BK124.out 6))
        go_loopg [22] k1 (fun kq v22 w' => ∃ (x3_2 : List Int) (x22_2 : Int), v22 = .int .i64 x22_2 ∧ Aside0 (impl_kidsOk.l1 kq l0 x3_2 x14_1 l0 (l0.length : Int) x14_1 ((rd_T44 l0 x14_1).f6) (((rd_T44 l0 x14_1).f6).length : Int) x22_2 = some r) ∧ Aside0 (kq ≤ k1) ∧ Aside0 (Kd.R (Kd.int .i64) 3 w' w.heap.size (fun _ => True) v121 x3_2) ∧ Aside0 (w'.heap[gb124]? = some (.cells #[.int .i64 ((rd_T44 l0 x14_1).f0), .int .i64 ((rd_T44 l0 x14_1).f1), .string ((rd_T44 l0 x14_1).f2), (.slice A123_3 ((rd_T44 l0 x14_1).f3).length c123_3), .string ((rd_T44 l0 x14_1).f4), .int .i64 ((rd_T44 l0 x14_1).f5), (.slice A123_6 ((rd_T44 l0 x14_1).f6).length c123_6)] 44 (0, 0))) ∧ Aside0 (Below w.heap.size w w'))
        case atStart => exact ⟨(x3_1), (0), (by first | rfl | (simp; done) | (simp [*]; done)), H', ⟨Nat.le_refl _⟩, ⟨by (with_reducible repeat (first | apply Kd.R_alloc | apply Kd.R_drewN | apply Kd.R_drew)); exact Kd.R_mono (Kd.R_far (p := ⟨gb124, 6, none⟩) (Kd.R_far (p := ⟨gb124, 5, none⟩) (Kd.R_far (p := ⟨gb124, 4, none⟩) (Kd.R_far (p := ⟨gb124, 3, none⟩) (Kd.R_far (p := ⟨gb124, 2, none⟩) (Kd.R_far (p := ⟨gb124, 1, none⟩) (Kd.R_far (p := ⟨gb124, 0, none⟩) (Kd.R_types HO_3.out BK124.out (by decide)) (fun _ hk => hk.2) (.int .i64 ((rd_T44 l0 x14_1).f0))) (fun _ hk => hk.2) (.int .i64 ((rd_T44 l0 x14_1).f1))) (fun _ hk => hk.2) (.string ((rd_T44 l0 x14_1).f2))) (fun _ hk => hk.2) (.slice A123_3 ((rd_T44 l0 x14_1).f3).length c123_3)) (fun _ hk => hk.2) (.string ((rd_T44 l0 x14_1).f4))) (fun _ hk => hk.2) (.int .i64 ((rd_T44 l0 x14_1).f5))) (fun _ hk => hk.2) (.slice A123_6 ((rd_T44 l0 x14_1).f6).length c123_6)) (fun _ hk => trivial)⟩, ⟨by (with_reducible repeat (first | refine dn_ ?_ _ | refine dd_ ?_ | refine da_ ?_ _)); refine blk_put (cs := #[.int .i64 ((rd_T44 l0 x14_1).f0), .int .i64 ((rd_T44 l0 x14_1).f1), .string ((rd_T44 l0 x14_1).f2), .slice A123_3 ((rd_T44 l0 x14_1).f3).length c123_3, .string ((rd_T44 l0 x14_1).f4), .int .i64 ((rd_T44 l0 x14_1).f5), .slice none 0 0]) ?_ 6 _ rfl; (with_reducible repeat (first | refine dn_ ?_ _ | refine dd_ ?_ | refine da_ ?_ _)); refine blk_put (cs := #[.int .i64 ((rd_T44 l0 x14_1).f0), .int .i64 ((rd_T44 l0 x14_1).f1), .string ((rd_T44 l0 x14_1).f2), .slice A123_3 ((rd_T44 l0 x14_1).f3).length c123_3, .string ((rd_T44 l0 x14_1).f4), .int .i64 0, .slice none 0 0]) ?_ 5 _ rfl; (with_reducible repeat (first | refine dn_ ?_ _ | refine dd_ ?_ | refine da_ ?_ _)); refine blk_put (cs := #[.int .i64 ((rd_T44 l0 x14_1).f0), .int .i64 ((rd_T44 l0 x14_1).f1), .string ((rd_T44 l0 x14_1).f2), .slice A123_3 ((rd_T44 l0 x14_1).f3).length c123_3, .string (⟨#[]⟩ : ByteArray), .int .i64 0, .slice none 0 0]) ?_ 4 _ rfl; (with_reducible repeat (first | refine dn_ ?_ _ | refine dd_ ?_ | refine da_ ?_ _)); refine blk_put (cs := #[.int .i64 ((rd_T44 l0 x14_1).f0), .int .i64 ((rd_T44 l0 x14_1).f1), .string ((rd_T44 l0 x14_1).f2), .slice none 0 0, .string (⟨#[]⟩ : ByteArray), .int .i64 0, .slice none 0 0]) ?_ 3 _ rfl; (with_reducible repeat (first | refine dn_ ?_ _ | refine dd_ ?_ | refine da_ ?_ _)); refine blk_put (cs := #[.int .i64 ((rd_T44 l0 x14_1).f0), .int .i64 ((rd_T44 l0 x14_1).f1), .string (⟨#[]⟩ : ByteArray), .slice none 0 0, .string (⟨#[]⟩ : ByteArray), .int .i64 0, .slice none 0 0]) ?_ 2 _ rfl; (with_reducible repeat (first | refine dn_ ?_ _ | refine dd_ ?_ | refine da_ ?_ _)); refine blk_put (cs := #[.int .i64 ((rd_T44 l0 x14_1).f0), .int .i64 0, .string (⟨#[]⟩ : ByteArray), .slice none 0 0, .string (⟨#[]⟩ : ByteArray), .int .i64 0, .slice none 0 0]) ?_ 1 _ rfl; (with_reducible repeat (first | refine dn_ ?_ _ | refine dd_ ?_ | refine da_ ?_ _)); refine blk_put (cs := #[.int .i64 0, .int .i64 0, .string (⟨#[]⟩ : ByteArray), .slice none 0 0, .string (⟨#[]⟩ : ByteArray), .int .i64 0, .slice none 0 0]) ?_ 0 _ rfl; (with_reducible repeat (first | refine dn_ ?_ _ | refine dd_ ?_ | refine da_ ?_ _)); exact BK124.out⟩, ⟨by repeat (first | (with_reducible first | exact HB.out | apply ba_ | apply bn_ | apply b1_ | refine below_set ?_ GE124.out) | exact HB.out)⟩⟩
        case round =>
         clear H'
         try clear c2
         try clear c2b0
         try clear c2b1
         try clear c3
         try clear c3b0
         try clear c3b1
         try clear c6
         try clear c6b0
         try clear c7
         try clear c7b0
         try clear c8
         try clear c8b0
         try clear hcz10_0
         try clear hcz10_1
         try clear hcz10_2
         try clear hcz10_3
         try clear hcz10_4
         try clear hcz10_5
         try clear hcz10_6
         try clear hfz10_0
         try clear hfz10_1
         try clear hfz10_2
         try clear hfz10_3
         try clear hfz10_4
         try clear hfz10_5
         try clear hfz10_6
         try clear hx123_0
         try clear hx123_1
         try clear hx123_2
         try clear hx123_3
         try clear hx123_4
         try clear hx123_5
         try clear hx123_6
         try clear p123
         try clear q123
         obtain ⟨x3_2, x22_2, rfl, HA, HK2, HO_3, BK124, HB⟩ := hrel
         cases gk with
         | zero => exact absurd HA.out (by simp [impl_kidsOk.l1])
         | succ k2 =>
          have H := HA.out
          clear HA
          simp only [impl_kidsOk.l1] at H
          by_cases c11 : x22_2 < (((rd_T44 l0 x14_1).f6).length : Int)
          ·rw [if_pos c11] at H
           have c11b0 : decide (x22_2 < (((rd_T44 l0 x14_1).f6).length : Int)) = true := decide_eq_true c11
           clear c11
           by_cases c12 : 0 ≤ x22_2
           ·rw [if_pos c12] at H
            have c12b0 : decide (0 ≤ x22_2) = true := decide_eq_true c12
            clear c12
            by_cases c13 : x22_2 < (((rd_T44 l0 x14_1).f6).length : Int)
            ·rw [if_pos c13] at H
             have c13b0 : decide (x22_2 < (((rd_T44 l0 x14_1).f6).length : Int)) = true := decide_eq_true c13
             clear c13
             replace H := Option.bind_eq_some_iff.mp H
             obtain ⟨t126, A140, H⟩ := H
             replace H : (if t126 = true then (if 0 ≤ (rd ((rd_T44 l0 x14_1).f6) x22_2) then (if (rd ((rd_T44 l0 x14_1).f6) x22_2) < (l0.length : Int) then (if ((rd_T44 l0 (rd ((rd_T44 l0 x14_1).f6) x22_2)).f5) = x14_1 then (if (rd ((rd_T44 l0 x14_1).f6) x22_2) < (x3_2.length : Int) then (impl_kidsOk.l1 k2 l0 (x3_2.set ((rd ((rd_T44 l0 x14_1).f6) x22_2) : Int).toNat (wrap64 ((rd x3_2 (rd ((rd_T44 l0 x14_1).f6) x22_2)) + 1))) x14_1 l0 (l0.length : Int) x14_1 ((rd_T44 l0 x14_1).f6) (((rd_T44 l0 x14_1).f6).length : Int) (wrap64 (x22_2 + 1))) else (none)) else (some false)) else (none)) else (none)) else (some false)) = some r := H
             have A14 := Aside0.mk A140
             clear A140
             by_cases c15 : t126 = true
             ·subst c15
              have H1 : (if 0 ≤ (rd ((rd_T44 l0 x14_1).f6) x22_2) then (if (rd ((rd_T44 l0 x14_1).f6) x22_2) < (l0.length : Int) then (if ((rd_T44 l0 (rd ((rd_T44 l0 x14_1).f6) x22_2)).f5) = x14_1 then (if (rd ((rd_T44 l0 x14_1).f6) x22_2) < (x3_2.length : Int) then (impl_kidsOk.l1 k2 l0 (x3_2.set ((rd ((rd_T44 l0 x14_1).f6) x22_2) : Int).toNat (wrap64 ((rd x3_2 (rd ((rd_T44 l0 x14_1).f6) x22_2)) + 1))) x14_1 l0 (l0.length : Int) x14_1 ((rd_T44 l0 x14_1).f6) (((rd_T44 l0 x14_1).f6).length : Int) (wrap64 (x22_2 + 1))) else (none)) else (some false)) else (none)) else (none)) = some r := by rw [if_pos rfl] at H; exact H
              clear H
              have H := H1
              clear H1
              by_cases c16 : 0 ≤ (rd ((rd_T44 l0 x14_1).f6) x22_2)
              ·rw [if_pos c16] at H
               have c16b0 : decide (0 ≤ (rd ((rd_T44 l0 x14_1).f6) x22_2)) = true := decide_eq_true c16
               clear c16
               by_cases c17 : (rd ((rd_T44 l0 x14_1).f6) x22_2) < (l0.length : Int)
               ·rw [if_pos c17] at H
                have c17b0 : decide ((rd ((rd_T44 l0 x14_1).f6) x22_2) < (l0.length : Int)) = true := decide_eq_true c17
                clear c17
                by_cases c18 : ((rd_T44 l0 (rd ((rd_T44 l0 x14_1).f6) x22_2)).f5) = x14_1
                ·rw [if_pos c18] at H
                 have c18b0 : (((rd_T44 l0 (rd ((rd_T44 l0 x14_1).f6) x22_2)).f5) == x14_1) = true := beq_iff_eq.mpr c18
                 have c18b1 : (((rd_T44 l0 (rd ((rd_T44 l0 x14_1).f6) x22_2)).f5) != x14_1) = false := bne_eq_false_iff_eq.mpr c18
                 clear c18
                 by_cases c19 : (rd ((rd_T44 l0 x14_1).f6) x22_2) < (x3_2.length : Int)
                 ·rw [if_pos c19] at H
                  have c19b0 : decide ((rd ((rd_T44 l0 x14_1).f6) x22_2) < (x3_2.length : Int)) = true := decide_eq_true c19
                  clear c19
                  obtain ⟨y129, hy129⟩ : ∃ y_ : List Int, y_ = (x3_2.set ((rd ((rd_T44 l0 x14_1).f6) x22_2) : Int).toNat (wrap64 ((rd x3_2 (rd ((rd_T44 l0 x14_1).f6) x22_2)) + 1))) := ⟨_, rfl⟩
                  replace H : (impl_kidsOk.l1 k2 l0 y129 x14_1 l0 (l0.length : Int) x14_1 ((rd_T44 l0 x14_1).f6) (((rd_T44 l0 x14_1).f6).length : Int) (wrap64 (x22_2 + 1))) = some r := by first | (rw [hy129]; with_reducible exact H) | (have H2_ := (Option.bind_some _ _).symm.trans H; rw [hy129]; with_reducible exact H2_) | (have H2_ := (Option.bind_some _ _).symm.trans H; with_reducible exact H2_) | with_reducible exact H | (rw [hy129]; exact H) | exact H
                  have Ny129 := Aside0.mk hy129
                  clear hy129
                  have H' := Aside0.mk H
                  clear H
                  have p125 : 0 ≤ (x22_2 : Int) := dq_ (by assumption)
                  have q125 : x22_2 < (((rd_T44 l0 x14_1).f6).length : Int) := dq_ (by assumption)
                  obtain ⟨ad125, e125, hx125_0⟩ := Kd.at_int HR123_6.out x22_2 p125 q125
                  cases e125
                  replace hx125_0 := pw_cell_below HB.out hx125_0
                  replace p125 := eq_true p125
                  replace q125 := eq_true q125
                  go_wp2_with (first | ((with_reducible refine gate_callee (f := 55) rfl ?_); refine goesL_ (some 30) rfl rfl Try.func55 (by kernel_rfl) rfl #[.int .i64 (rd ((rd_T44 l0 x14_1).f6) x22_2), .int .i64 1, .int .i64 (wrap64 ((l0.length : Int) - 1))] rfl (by (try simp only [List.map_toArray, List.map_cons, List.map_nil]); first | done | rfl | (simp only [List.length_drop, List.length_take]; rfl)) ?_; (with_reducible refine (impl_inRange.calls (rd ((rd_T44 l0 x14_1).f6) x22_2) 1 (wrap64 ((l0.length : Int) - 1)) true _ A14.out).mono ?_); rintro e w' ⟨rfl, ⟨nd, rfl⟩⟩; refine ⟨_, rfl, ?_⟩; (try (rw [drewN_self wr]; generalize hq_ : World.drewN wr _ = wr; have n0_ : Aside0 (Kd.R (Kd.int .i64) 3 wr w.heap.size (fun _ => True) v121 x3_2) := ⟨by rw [← hq_]; exact (by (with_reducible repeat (first | apply Kd.R_alloc | apply Kd.R_drewN | apply Kd.R_drew)); exact HO_3.out)⟩; have n1_ : Aside0 (wr.heap[gb124]? = some (.cells #[.int .i64 ((rd_T44 l0 x14_1).f0), .int .i64 ((rd_T44 l0 x14_1).f1), .string ((rd_T44 l0 x14_1).f2), .slice A123_3 ((rd_T44 l0 x14_1).f3).length c123_3, .string ((rd_T44 l0 x14_1).f4), .int .i64 ((rd_T44 l0 x14_1).f5), .slice (some ad125) ((rd_T44 l0 x14_1).f6).length c123_6] 44 (0, 0))) := ⟨by rw [← hq_]; exact (by (with_reducible repeat (first | refine dn_ ?_ _ | refine dd_ ?_ | refine da_ ?_ _)); exact BK124.out)⟩; have n2_ : Aside0 (Below w.heap.size w wr) := ⟨by rw [← hq_]; exact (by repeat (first | (with_reducible first | exact HB.out | apply ba_ | apply bn_ | apply b1_ | refine below_set ?_ GE124.out) | exact HB.out))⟩; clear HO_3 BK124 HB hq_; have HO_3 := n0_; have BK124 := n1_; have HB := n2_; clear n0_ n1_ n2_)); have p127 : 0 ≤ ((rd ((rd_T44 l0 x14_1).f6) x22_2) : Int) := dq_ (by assumption); have q127 : (rd ((rd_T44 l0 x14_1).f6) x22_2) < (l0.length : Int) := dq_ (by assumption); obtain ⟨ad127, A127_3, c127_3, A127_6, c127_6, e127, hx127_0, hx127_1, hx127_2, hx127_3, hx127_4, hx127_5, hx127_6, hl127_3, hi127_3, hl127_6, hi127_6⟩ := at_T44 HR0.out (rd ((rd_T44 l0 x14_1).f6) x22_2) p127 q127; obtain rfl : ad123 = ad127 := (by injection e127); replace hx127_0 := pw_cell_below HB.out hx127_0; replace hx127_1 := pw_cell_below HB.out hx127_1; replace hx127_2 := pw_cell_below HB.out hx127_2; replace hx127_3 := pw_cell_below HB.out hx127_3; replace hx127_4 := pw_cell_below HB.out hx127_4; replace hx127_5 := pw_cell_below HB.out hx127_5; replace hx127_6 := pw_cell_below HB.out hx127_6; have HR127_3 := Aside0.mk hi127_3; have HC127_3 := Aside0.mk hl127_3; clear hi127_3 hl127_3; have HR127_6 := Aside0.mk hi127_6; have HC127_6 := Aside0.mk hl127_6; clear hi127_6 hl127_6; replace p127 := eq_true p127; replace q127 := eq_true q127; obtain ⟨Ao21, co21, eo21⟩ := Kd.R_slice HO_3.out; subst eo21; have p128 : 0 ≤ ((rd ((rd_T44 l0 x14_1).f6) x22_2) : Int) := dq_ (by assumption); have q128 : (rd ((rd_T44 l0 x14_1).f6) x22_2) < (x3_2.length : Int) := dq_ (by assumption); obtain ⟨ad128, e128, hx128_0⟩ := Kd.at_int (Kd.R_reads' HO_3.out).2.2 (rd ((rd_T44 l0 x14_1).f6) x22_2) p128 q128; cases e128; replace p128 := eq_true p128; replace q128 := eq_true q128; have p20 : 0 ≤ ((rd ((rd_T44 l0 x14_1).f6) x22_2) : Int) := dq_ (by assumption); have q20 : ((rd ((rd_T44 l0 x14_1).f6) x22_2) : Int) < ((x3_2.length : Int) : Int) := dq_ (by assumption); obtain ⟨go20, co20, eo20, gb20, gl20, cl20, HG20⟩ := Kd.R_form HO_3.out (by omega); (first | cases eo20 | (injection eo20 with ea_ en_ ec_; (first | subst ea_ | (injection ea_ with ea_; subst ea_)); subst ec_; clear en_)); have GB20 := Aside0.mk gb20; have GG20 := Aside0.mk HG20; clear gb20 gl20 HG20; (first | simp only [add_plain] at hx128_0 | skip); obtain ⟨hx20_0, hf20_0⟩ := Kd.R_celln 0 HO_3.out ((rd ((rd_T44 l0 x14_1).f6) x22_2) : Int) p20 q20; replace p20 := eq_true p20; replace q20 := eq_true q20; obtain ⟨hy22_, hz22_⟩ := Kd.R_celln 0 HO_3.out ((rd ((rd_T44 l0 x14_1).f6) x22_2) : Int) (dq_ (by assumption)) (dq_ (by assumption)); have HP22 := Kd.R_putg HO_3.out ((rd ((rd_T44 l0 x14_1).f6) x22_2) : Int) (wrap64 ((rd x3_2 (rd ((rd_T44 l0 x14_1).f6) x22_2)) + 1))) | ((with_reducible refine gate_store (t := 3) (p := 46) rfl ?_); refine store_event (t := 3) (p := 46) (v := ?vo_w23) (w1 := (wr.setCell ⟨go20, ((rd ((rd_T44 l0 x14_1).f6) x22_2) : Int).toNat, none⟩ (.int .i64 (wrap64 ((rd x3_2 (rd ((rd_T44 l0 x14_1).f6) x22_2)) + 1))))) ?hg ?ho ?hn ?hr ?_; (case ho => rfl); (case hg => rfl); (case hn => rfl); (case hr => first | (go_simp; done) | (go_simp; rfl)); intro w23 hw; have hg : wr.grownBy w23 (some go20) := (by rw [hw]; exact HP22.2); have hp_ : Kd.R (Kd.int .i64) 3 w23 w.heap.size (fun _ => True) (.slice (some ⟨go20, 0, none⟩) x3_2.length co21) y129 := (by rw [hw, Ny129.out]; exact HP22.1); clear HP22; have n0_ := Aside0.mk (hp_); have n1_ := Aside0.mk (blk_grown (g := gb124) (o := .cells #[.int .i64 ((rd_T44 l0 x14_1).f0), .int .i64 ((rd_T44 l0 x14_1).f1), .string ((rd_T44 l0 x14_1).f2), .slice A123_3 ((rd_T44 l0 x14_1).f3).length c123_3, .string ((rd_T44 l0 x14_1).f4), .int .i64 ((rd_T44 l0 x14_1).f5), .slice (some ad125) ((rd_T44 l0 x14_1).f6).length c123_6] 44 (0, 0)) (by (with_reducible repeat (first | refine dn_ ?_ _ | refine dd_ ?_ | refine da_ ?_ _)); exact BK124.out) hg (Kd.R_ne HO_3.out BK124.out (by decide))); have n2_ := Aside0.mk ((by rw [hw]; exact below_set (HB.out) GB20.out : Below w.heap.size w w23)); clear HO_3; clear BK124; clear HB; have HO_3 := n0_; have BK124 := n1_; have HB := n2_; clear n0_ n1_ n2_; clear hg hw hp_))
                  go_roundg k2
                  case measure => have := HK1.out; have := HK2.out; omega
                  case rel => exact ⟨(y129), (wrap64 (x22_2 + 1)), (by first | rfl | (simp; done) | (simp [*]; done)), H', ⟨by have := HK1.out; have := HK2.out; omega⟩, ⟨by (with_reducible repeat (first | apply Kd.R_alloc | apply Kd.R_drewN | apply Kd.R_drew)); exact HO_3.out⟩, ⟨by (with_reducible repeat (first | refine dn_ ?_ _ | refine dd_ ?_ | refine da_ ?_ _)); exact BK124.out⟩, ⟨by repeat (first | (with_reducible first | exact HB.out | apply ba_ | apply bn_ | apply b1_ | refine below_set ?_ GE124.out) | exact HB.out)⟩⟩
                 ·rw [if_neg c19] at H
                  exact absurd H (by simp)
                ·rw [if_neg c18] at H
                 have c18b0 : (((rd_T44 l0 (rd ((rd_T44 l0 x14_1).f6) x22_2)).f5) == x14_1) = false := beq_eq_false_iff_ne.mpr c18
                 have c18b1 : (((rd_T44 l0 (rd ((rd_T44 l0 x14_1).f6) x22_2)).f5) != x14_1) = true := bne_iff_ne.mpr c18
                 obtain rfl := Option.some.inj H
                 have p125 : 0 ≤ (x22_2 : Int) := dq_ (by assumption)
                 have q125 : x22_2 < (((rd_T44 l0 x14_1).f6).length : Int) := dq_ (by assumption)
                 obtain ⟨ad125, e125, hx125_0⟩ := Kd.at_int HR123_6.out x22_2 p125 q125
                 cases e125
                 replace hx125_0 := pw_cell_below HB.out hx125_0
                 replace p125 := eq_true p125
                 replace q125 := eq_true q125
                 go_wp2_with (first | ((with_reducible refine gate_callee (f := 55) rfl ?_); refine goesL_ (some 30) rfl rfl Try.func55 (by kernel_rfl) rfl #[.int .i64 (rd ((rd_T44 l0 x14_1).f6) x22_2), .int .i64 1, .int .i64 (wrap64 ((l0.length : Int) - 1))] rfl (by (try simp only [List.map_toArray, List.map_cons, List.map_nil]); first | done | rfl | (simp only [List.length_drop, List.length_take]; rfl)) ?_; (with_reducible refine (impl_inRange.calls (rd ((rd_T44 l0 x14_1).f6) x22_2) 1 (wrap64 ((l0.length : Int) - 1)) true _ A14.out).mono ?_); rintro e w' ⟨rfl, ⟨nd, rfl⟩⟩; refine ⟨_, rfl, ?_⟩; have p127 : 0 ≤ ((rd ((rd_T44 l0 x14_1).f6) x22_2) : Int) := dq_ (by assumption); have q127 : (rd ((rd_T44 l0 x14_1).f6) x22_2) < (l0.length : Int) := dq_ (by assumption); obtain ⟨ad127, A127_3, c127_3, A127_6, c127_6, e127, hx127_0, hx127_1, hx127_2, hx127_3, hx127_4, hx127_5, hx127_6, hl127_3, hi127_3, hl127_6, hi127_6⟩ := at_T44 HR0.out (rd ((rd_T44 l0 x14_1).f6) x22_2) p127 q127; obtain rfl : ad123 = ad127 := (by injection e127); replace hx127_0 := pw_cell_below HB.out hx127_0; replace hx127_1 := pw_cell_below HB.out hx127_1; replace hx127_2 := pw_cell_below HB.out hx127_2; replace hx127_3 := pw_cell_below HB.out hx127_3; replace hx127_4 := pw_cell_below HB.out hx127_4; replace hx127_5 := pw_cell_below HB.out hx127_5; replace hx127_6 := pw_cell_below HB.out hx127_6; have HR127_3 := Aside0.mk hi127_3; have HC127_3 := Aside0.mk hl127_3; clear hi127_3 hl127_3; have HR127_6 := Aside0.mk hi127_6; have HC127_6 := Aside0.mk hl127_6; clear hi127_6 hl127_6; replace p127 := eq_true p127; replace q127 := eq_true q127))
                 go_ret
                 exact ⟨by first | rfl | (simp [errW_none, errW_some] <;> rfl) | (simp [*, errW_none, errW_some] <;> rfl), by repeat (first | (with_reducible first | exact HB.out | apply ba_ | apply bn_ | apply b1_ | refine below_set ?_ GE124.out) | exact HB.out)⟩
               ·rw [if_neg c17] at H
                exact absurd H (by simp)
              ·rw [if_neg c16] at H
               exact absurd H (by simp)
             ·replace c15 := Bool.eq_false_iff.mpr c15
              subst c15
              have H1 : (some false) = some r := by rw [if_neg (show ¬ (false = true) by decide)] at H; exact H
              clear H
              have H := H1
              clear H1
              obtain rfl := Option.some.inj H
              have p125 : 0 ≤ (x22_2 : Int) := dq_ (by assumption)
              have q125 : x22_2 < (((rd_T44 l0 x14_1).f6).length : Int) := dq_ (by assumption)
              obtain ⟨ad125, e125, hx125_0⟩ := Kd.at_int HR123_6.out x22_2 p125 q125
              cases e125
              replace hx125_0 := pw_cell_below HB.out hx125_0
              replace p125 := eq_true p125
              replace q125 := eq_true q125
              go_wp2_with (first | ((with_reducible refine gate_callee (f := 55) rfl ?_); refine goesL_ (some 30) rfl rfl Try.func55 (by kernel_rfl) rfl #[.int .i64 (rd ((rd_T44 l0 x14_1).f6) x22_2), .int .i64 1, .int .i64 (wrap64 ((l0.length : Int) - 1))] rfl (by (try simp only [List.map_toArray, List.map_cons, List.map_nil]); first | done | rfl | (simp only [List.length_drop, List.length_take]; rfl)) ?_; (with_reducible refine (impl_inRange.calls (rd ((rd_T44 l0 x14_1).f6) x22_2) 1 (wrap64 ((l0.length : Int) - 1)) false _ A14.out).mono ?_); rintro e w' ⟨rfl, ⟨nd, rfl⟩⟩; refine ⟨_, rfl, ?_⟩))
              go_ret
              exact ⟨by first | rfl | (simp [errW_none, errW_some] <;> rfl) | (simp [*, errW_none, errW_some] <;> rfl), by repeat (first | (with_reducible first | exact HB.out | apply ba_ | apply bn_ | apply b1_ | refine below_set ?_ GE124.out) | exact HB.out)⟩
            ·rw [if_neg c13] at H
             exact absurd H (by simp)
           ·rw [if_neg c12] at H
            exact absurd H (by simp)
          ·rw [if_neg c11] at H
           have c11b0 : decide (x22_2 < (((rd_T44 l0 x14_1).f6).length : Int)) = false := decide_eq_false c11
           clear c11
           have H' := Aside0.mk H
           clear H
           go_wp2
           go_roundg k2
           case measure => have := HK1.out; have := HK2.out; omega
           case rel => exact ⟨(x3_2), (wrap64 (x14_1 + 1)), (by first | rfl | (simp; done) | (simp [*]; done)), H', ⟨by have := HK1.out; have := HK2.out; omega⟩, ⟨by (with_reducible repeat (first | apply Kd.R_alloc | apply Kd.R_drewN | apply Kd.R_drew)); exact HO_3.out⟩, ⟨by repeat (first | (with_reducible first | exact HB.out | apply ba_ | apply bn_ | apply b1_ | refine below_set ?_ GE124.out) | exact HB.out)⟩⟩
       ·rw [if_neg c8] at H
        exact absurd H (by simp)
      ·rw [if_neg c7] at H
       exact absurd H (by simp)
     ·rw [if_neg c6] at H
      have c6b0 : decide (x14_1 < (l0.length : Int)) = false := decide_eq_false c6
      clear c6
      have H' := Aside0.mk H
      clear H
      go_wp2
      go_loopg [8] k1 (fun kq v8 w' => ∃ (x8_2 : Int), v8 = .int .i64 x8_2 ∧ Aside0 (impl_kidsOk.l2 kq l0 x3_1 x8_2 = some r) ∧ Aside0 (kq ≤ k1) ∧ Aside0 (Kd.R (Kd.int .i64) 3 w' w.heap.size (fun _ => True) v121 x3_1) ∧ Aside0 (Below w.heap.size w w'))
      case atStart => exact ⟨(1), (by first | rfl | (simp; done) | (simp [*]; done)), H', ⟨Nat.le_refl _⟩, ⟨by (with_reducible repeat (first | apply Kd.R_alloc | apply Kd.R_drewN | apply Kd.R_drew)); exact HO_3.out⟩, ⟨by repeat (first | (with_reducible first | exact HB.out | apply ba_ | apply bn_ | apply b1_) | exact HB.out)⟩⟩
      case round =>
       clear H'
       try clear c2
       try clear c2b0
       try clear c2b1
       try clear c3
       try clear c3b0
       try clear c3b1
       try clear c6
       try clear c6b0
       try clear c7
       try clear c7b0
       try clear c8
       try clear c8b0
       try clear c11
       try clear c11b0
       try clear c12
       try clear c12b0
       try clear c13
       try clear c13b0
       try clear c15
       try clear c16
       try clear c16b0
       try clear c17
       try clear c17b0
       try clear c18
       try clear c18b0
       try clear c18b1
       try clear c19
       try clear c19b0
       try clear p20
       try clear q20
       try clear hcz10_0
       try clear hcz10_1
       try clear hcz10_2
       try clear hcz10_3
       try clear hcz10_4
       try clear hcz10_5
       try clear hcz10_6
       try clear hfz10_0
       try clear hfz10_1
       try clear hfz10_2
       try clear hfz10_3
       try clear hfz10_4
       try clear hfz10_5
       try clear hfz10_6
       try clear hx123_0
       try clear hx123_1
       try clear hx123_2
       try clear hx123_3
       try clear hx123_4
       try clear hx123_5
       try clear hx123_6
       try clear hx125_0
       try clear hx127_0
       try clear hx127_1
       try clear hx127_2
       try clear hx127_3
       try clear hx127_4
       try clear hx127_5
       try clear hx127_6
       try clear hx128_0
       try clear hx20_0
       try clear p123
       try clear p125
       try clear p127
       try clear p128
       try clear p20
       try clear q123
       try clear q125
       try clear q127
       try clear q128
       try clear q20
       obtain ⟨x8_2, rfl, HA, HK2, HO_3, HB⟩ := hrel
       cases gk with
       | zero => exact absurd HA.out (by simp [impl_kidsOk.l2])
       | succ k2 =>
        have H := HA.out
        clear HA
        simp only [impl_kidsOk.l2] at H
        by_cases c24 : x8_2 < (l0.length : Int)
        ·rw [if_pos c24] at H
         have c24b0 : decide (x8_2 < (l0.length : Int)) = true := decide_eq_true c24
         clear c24
         by_cases c25 : 0 ≤ x8_2
         ·rw [if_pos c25] at H
          have c25b0 : decide (0 ≤ x8_2) = true := decide_eq_true c25
          clear c25
          by_cases c26 : x8_2 < (x3_1.length : Int)
          ·rw [if_pos c26] at H
           have c26b0 : decide (x8_2 < (x3_1.length : Int)) = true := decide_eq_true c26
           clear c26
           by_cases c27 : (rd x3_1 x8_2) = 1
           ·rw [if_pos c27] at H
            have c27b0 : ((rd x3_1 x8_2) == 1) = true := beq_iff_eq.mpr c27
            have c27b1 : ((rd x3_1 x8_2) != 1) = false := bne_eq_false_iff_eq.mpr c27
            clear c27
            have H' := Aside0.mk H
            clear H
            obtain ⟨Ao28, co28, eo28⟩ := Kd.R_slice HO_3.out
            subst eo28
            have p130 : 0 ≤ (x8_2 : Int) := dq_ (by assumption)
            have q130 : x8_2 < (x3_1.length : Int) := dq_ (by assumption)
            obtain ⟨ad130, e130, hx130_0⟩ := Kd.at_int (Kd.R_reads' HO_3.out).2.2 x8_2 p130 q130
            cases e130
            replace p130 := eq_true p130
            replace q130 := eq_true q130
            go_wp2
            go_roundg k2
            case measure => have := HK1.out; have := HK2.out; omega
            case rel => exact ⟨(wrap64 (x8_2 + 1)), (by first | rfl | (simp; done) | (simp [*]; done)), H', ⟨by have := HK1.out; have := HK2.out; omega⟩, ⟨by (with_reducible repeat (first | apply Kd.R_alloc | apply Kd.R_drewN | apply Kd.R_drew)); exact HO_3.out⟩, ⟨by repeat (first | (with_reducible first | exact HB.out | apply ba_ | apply bn_ | apply b1_) | exact HB.out)⟩⟩
           ·rw [if_neg c27] at H
            have c27b0 : ((rd x3_1 x8_2) == 1) = false := beq_eq_false_iff_ne.mpr c27
            have c27b1 : ((rd x3_1 x8_2) != 1) = true := bne_iff_ne.mpr c27
            obtain rfl := Option.some.inj H
            obtain ⟨Ao29, co29, eo29⟩ := Kd.R_slice HO_3.out
            subst eo29
            have p130 : 0 ≤ (x8_2 : Int) := dq_ (by assumption)
            have q130 : x8_2 < (x3_1.length : Int) := dq_ (by assumption)
            obtain ⟨ad130, e130, hx130_0⟩ := Kd.at_int (Kd.R_reads' HO_3.out).2.2 x8_2 p130 q130
            cases e130
            replace p130 := eq_true p130
            replace q130 := eq_true q130
            go_wp2
            go_ret
            exact ⟨by first | rfl | (simp [errW_none, errW_some] <;> rfl) | (simp [*, errW_none, errW_some] <;> rfl), by repeat (first | (with_reducible first | exact HB.out | apply ba_ | apply bn_ | apply b1_) | exact HB.out)⟩
          ·rw [if_neg c26] at H
           exact absurd H (by simp)
         ·rw [if_neg c25] at H
          exact absurd H (by simp)
        ·rw [if_neg c24] at H
         have c24b0 : decide (x8_2 < (l0.length : Int)) = false := decide_eq_false c24
         clear c24
         obtain rfl := Option.some.inj H
         go_wp2
         go_ret
         exact ⟨by first | rfl | (simp [errW_none, errW_some] <;> rfl) | (simp [*, errW_none, errW_some] <;> rfl), by repeat (first | (with_reducible first | exact HB.out | apply ba_ | apply bn_ | apply b1_) | exact HB.out)⟩
  ·rw [if_neg c3] at H
   exact absurd H (by simp)
 ·rw [if_neg c2] at H
  exact absurd H (by simp)
mutual
def impl_order.l0 : Nat → List (S44) → List Int → List Int → Option (List Int)
 | 0, _, _, _ => none
 | k + 1, x0, x3, x4 => if (x4.length : Int) > 0 then (if 0 ≤ (wrap64 ((x4.length : Int) - 1)) then (if (wrap64 ((x4.length : Int) - 1)) < (x4.length : Int) then (if (wrap64 ((x4.length : Int) - 1)) ≤ (x4.length : Int) then (if x3.length < 17592186044416 then (if 0 ≤ (rd x4 (wrap64 ((x4.length : Int) - 1))) then (if (rd x4 (wrap64 ((x4.length : Int) - 1))) < (x0.length : Int) then (impl_order.l1 k x0 (x3 ++ [rd x4 (wrap64 ((x4.length : Int) - 1))]) (x4.take ((wrap64 ((x4.length : Int) - 1)) : Int).toNat) (rd x4 (wrap64 ((x4.length : Int) - 1))) (wrap64 ((((rd_T44 x0 (rd x4 (wrap64 ((x4.length : Int) - 1)))).f6).length : Int) - 1))) else (none)) else (none)) else (none)) else (none)) else (none)) else (none)) else (some x3)
def impl_order.l1 : Nat → List (S44) → List Int → List Int → Int → Int → Option (List Int)
 | 0, _, _, _, _, _ => none
 | k + 1, x0, x3, x4, x6, x7 => if x7 ≥ 0 then (if 0 ≤ x6 then (if x6 < (x0.length : Int) then (if 0 ≤ x7 then (if x7 < (((rd_T44 x0 x6).f6).length : Int) then (if x4.length < 17592186044416 then (impl_order.l1 k x0 x3 (x4 ++ [rd ((rd_T44 x0 x6).f6) x7]) x6 (wrap64 (x7 - 1))) else (none)) else (none)) else (none)) else (none)) else (none)) else (impl_order.l0 k x0 x3 x4)
end
def impl_order.f (k : Nat) (l0 : List (S44)) : Option (List Int) := impl_order.l0 k l0 ([] : List Int) (([0] : List Int))
theorem impl_order.mono_l : ∀ k, (∀ y0 y1 y2, LeO (impl_order.l0 k y0 y1 y2) (impl_order.l0 (k + 1) y0 y1 y2)) ∧ (∀ y0 y1 y2 y3 y4, LeO (impl_order.l1 k y0 y1 y2 y3 y4) (impl_order.l1 (k + 1) y0 y1 y2 y3 y4))
 | 0 => ⟨fun _ _ _ r h => by simp [impl_order.l0] at h, fun _ _ _ _ _ r h => by simp [impl_order.l1] at h⟩
 | k + 1 => by
  obtain ⟨ih0, ih1⟩ := impl_order.mono_l k
  refine ⟨?_, ?_⟩
  ·intro y0 y1 y2
   unfold impl_order.l0
   repeat' first
   | (with_reducible exact ih0 _ _ _)
   | (with_reducible exact ih1 _ _ _ _ _)
   | (with_reducible exact LeO.refl _)
   | (with_reducible exact LeO.none _)
   | (with_reducible refine LeO.ite ?_ ?_)
   | (with_reducible refine LeO.bind ?_ (fun _ => ?_))
  ·intro y0 y1 y2 y3 y4
   unfold impl_order.l1
   repeat' first
   | (with_reducible exact ih0 _ _ _)
   | (with_reducible exact ih1 _ _ _ _ _)
   | (with_reducible exact LeO.refl _)
   | (with_reducible exact LeO.none _)
   | (with_reducible refine LeO.ite ?_ ?_)
   | (with_reducible refine LeO.bind ?_ (fun _ => ?_))
theorem impl_order.mono : ∀ a0 k, LeO (impl_order.f k a0) (impl_order.f (k + 1) a0) := by
 intro a0 k
 obtain ⟨ih0, ih1⟩ := impl_order.mono_l k
 unfold impl_order.f
 repeat' first
   | (with_reducible exact ih0 _ _ _)
   | (with_reducible exact ih1 _ _ _ _ _)
   | (with_reducible exact LeO.refl _)
   | (with_reducible exact LeO.none _)
   | (with_reducible refine LeO.ite ?_ ?_)
   | (with_reducible refine LeO.bind ?_ (fun _ => ?_))
set_option maxHeartbeats 8000000 in
set_option maxRecDepth 100000 in
theorem impl_order.calls (k : Nat) (A0 : Option Addr) (c0 : Nat) (l0 : List (S44)) (r : List Int) (w : World) (hr0 : Kd.C k44 w A0 l0.length l0) (hc0 : l0.length ≤ c0) (h : impl_order.f k l0 = some r) :
  Calls Try.prog 67 #[.slice A0 l0.length c0] w fun e w' => ∃ v0_ : Value, e = .returned (v0_) ∧ Kd.R (Kd.int .i64) 3 w' w.heap.size (fun _ => True) v0_ r ∧ Below w.heap.size w w' := by
 have HR0 := Aside0.mk hr0
 have HC0 := Aside0.mk hc0
 clear hr0 hc0
 have HB := Aside0.mk (Below.refl w.heap.size w)
 have H : (impl_order.l0 k l0 ([] : List Int) (([0] : List Int))) = some r := h
 clear h
 obtain ⟨y131, hy131⟩ : ∃ y_ : List Int, y_ = (([0] : List Int)) := ⟨_, rfl⟩
 replace H : (impl_order.l0 k l0 ([] : List Int) y131) = some r := by first | (rw [hy131]; with_reducible exact H) | (have H2_ := (Option.bind_some _ _).symm.trans H; rw [hy131]; with_reducible exact H2_) | (have H2_ := (Option.bind_some _ _).symm.trans H; with_reducible exact H2_) | with_reducible exact H | (rw [hy131]; exact H) | exact H
 have Ny131 := Aside0.mk hy131
 clear hy131
 have H' := Aside0.mk H
 clear H
 go_enter Try.func67, Try.ntmps67
 go_wp2_with (first | ((with_reducible refine gate_dst (N := 8) rfl ?_); refine Kd.R_lit (Kd.int .i64) _ 3 ?hg (N := 8) ?hd (xs := ([0] : List Int)) (inner := [.int .i64 0]) (ok := fun _ => True) (okp := fun _ => True) ?hr ?hp (fun _ hk => hk) trivial (Below.refl _ _) (Nat.le_refl _) (by simp) ?_; (case hd => rfl); (case hg => rfl); (case hr => first | (go_simp; done) | (go_simp; rfl)); (case hp => exact (Reps.one (show Kd.M (Kd.int .i64) _ _ _ 0 [.int .i64 0] from rfl) (Reps.none _ _))); intro v132 w2 ho3 hb hg_ hnew_; clear hg_ hnew_; (first | rw [← Ny131.out] at ho3 | (simp only [Int.reduceToNat] at ho3; rw [← Ny131.out] at ho3)); have n0_ := Aside0.mk (Kd.R_lower ho3 (below_size (by repeat (first | (with_reducible first | exact HB.out | apply ba_ | apply bn_ | apply b1_) | exact HB.out)))); have n1_ := Aside0.mk (below_step (by repeat (first | (with_reducible first | exact HB.out | apply ba_ | apply bn_ | apply b1_) | exact HB.out)) hb); clear HB; have HO133 := n0_; have HB := n1_; clear n0_ n1_; clear hb ho3))
 go_loopg [3, 4] k (fun kq v3 v4 w' => ∃ (x3_1 : List Int) (x4_1 : List Int), Aside0 (impl_order.l0 kq l0 x3_1 x4_1 = some r) ∧ Aside0 (kq ≤ k) ∧ Aside0 (Kd.R (Kd.int .i64) 3 w' w.heap.size (fun k_ => some k_ ≠ (v4 : Value).ownBlock) v3 x3_1) ∧ Aside0 (Kd.R (Kd.int .i64) 3 w' w.heap.size (fun k_ => some k_ ≠ (v3 : Value).ownBlock) v4 x4_1) ∧ Aside0 (Below w.heap.size w w'))
 case atStart => exact ⟨(([] : List Int)), (y131), H', ⟨Nat.le_refl _⟩, ⟨by first | exact Kd.R_nil _ _ _ _ _ | exact Kd.N_nil _ _ _ _ _ | exact Kd.V_nil _ _ _ _ _ | exact Kd.Q_nil _ _ _ _ _ | exact Kd.S_nil _ _ _ _ _⟩, ⟨by (with_reducible repeat (first | apply Kd.R_alloc | apply Kd.R_drewN | apply Kd.R_drew)); exact Kd.R_mono HO133.out (fun _ hk => (by simp [Value.ownBlock]))⟩, ⟨by repeat (first | (with_reducible first | exact HB.out | apply ba_ | apply bn_ | apply b1_) | exact HB.out)⟩⟩
 case round =>
  clear H'
  obtain ⟨x3_1, x4_1, HA, HK1, HO_3, HO_4, HB⟩ := hrel
  cases gk with
  | zero => exact absurd HA.out (by simp [impl_order.l0])
  | succ k1 =>
   have H := HA.out
   clear HA
   simp only [impl_order.l0] at H
   by_cases c4 : (x4_1.length : Int) > 0
   ·rw [if_pos c4] at H
    have c4b0 : decide (0 < (x4_1.length : Int)) = true := decide_eq_true c4
    have c4b1 : decide (0 < x4_1.length) = true := decide_eq_true (by omega)
    clear c4
    obtain ⟨ji5, hji5⟩ : ∃ j_ : Int, (wrap64 ((x4_1.length : Int) - 1)) = j_ := ⟨_, rfl⟩
    replace H : (if 0 ≤ (ji5) then (if (ji5) < (x4_1.length : Int) then (if (ji5) ≤ (x4_1.length : Int) then (if x3_1.length < 17592186044416 then (if 0 ≤ (rd x4_1 (ji5)) then (if (rd x4_1 (ji5)) < (l0.length : Int) then (impl_order.l1 k1 l0 (x3_1 ++ [rd x4_1 (ji5)]) (x4_1.take ((ji5) : Int).toNat) (rd x4_1 (ji5)) (wrap64 ((((rd_T44 l0 (rd x4_1 (ji5))).f6).length : Int) - 1))) else (none)) else (none)) else (none)) else (none)) else (none)) else (none)) = some r := by first | (rw [hji5] at H; exact H) | (simp only [hji5] at H ⊢; exact H)
    have hji5w : (IntKind.i64.wrap ((x4_1.length : Int) - 1)) = ji5 := (i64_w _).trans hji5
    by_cases c6 : 0 ≤ (ji5)
    ·rw [if_pos c6] at H
     have c6b0 : decide (0 ≤ (ji5)) = true := decide_eq_true c6
     clear c6
     by_cases c7 : (ji5) < (x4_1.length : Int)
     ·rw [if_pos c7] at H
      have c7b0 : decide ((ji5) < (x4_1.length : Int)) = true := decide_eq_true c7
      clear c7
      by_cases c8 : (ji5) ≤ (x4_1.length : Int)
      ·rw [if_pos c8] at H
       have c8b0 := eq_true c8
       have c8b1 : decide ((ji5) ≤ (x4_1.length : Int)) = true := decide_eq_true c8
       clear c8
       obtain ⟨y135, hy135⟩ : ∃ y_ : List Int, y_ = (x4_1.take ((ji5) : Int).toNat) := ⟨_, rfl⟩
       replace H : (if x3_1.length < 17592186044416 then (if 0 ≤ (rd x4_1 (ji5)) then (if (rd x4_1 (ji5)) < (l0.length : Int) then (impl_order.l1 k1 l0 (x3_1 ++ [rd x4_1 (ji5)]) y135 (rd x4_1 (ji5)) (wrap64 ((((rd_T44 l0 (rd x4_1 (ji5))).f6).length : Int) - 1))) else (none)) else (none)) else (none)) = some r := by first | (rw [hy135]; with_reducible exact H) | (have H2_ := (Option.bind_some _ _).symm.trans H; rw [hy135]; with_reducible exact H2_) | (have H2_ := (Option.bind_some _ _).symm.trans H; with_reducible exact H2_) | with_reducible exact H | (rw [hy135]; exact H) | exact H
       have Ny135 := Aside0.mk hy135
       clear hy135
       by_cases c9 : x3_1.length < 17592186044416
       ·rw [if_pos c9] at H
        have LMc9 := Aside0.mk c9
        clear c9
        obtain ⟨y138, hy138⟩ : ∃ y_ : List Int, y_ = (x3_1 ++ [rd x4_1 (ji5)]) := ⟨_, rfl⟩
        replace H : (if 0 ≤ (rd x4_1 (ji5)) then (if (rd x4_1 (ji5)) < (l0.length : Int) then (impl_order.l1 k1 l0 y138 y135 (rd x4_1 (ji5)) (wrap64 ((((rd_T44 l0 (rd x4_1 (ji5))).f6).length : Int) - 1))) else (none)) else (none)) = some r := by first | (rw [hy138]; with_reducible exact H) | (have H2_ := (Option.bind_some _ _).symm.trans H; rw [hy138]; with_reducible exact H2_) | (have H2_ := (Option.bind_some _ _).symm.trans H; with_reducible exact H2_) | with_reducible exact H | (rw [hy138]; exact H) | exact H
        have Ny138 := Aside0.mk hy138
        clear hy138
        by_cases c10 : 0 ≤ (rd x4_1 (ji5))
        ·rw [if_pos c10] at H
         have c10b0 : decide (0 ≤ (rd x4_1 (ji5))) = true := decide_eq_true c10
         clear c10
         by_cases c11 : (rd x4_1 (ji5)) < (l0.length : Int)
         ·rw [if_pos c11] at H
          have c11b0 : decide ((rd x4_1 (ji5)) < (l0.length : Int)) = true := decide_eq_true c11
          clear c11
          have H' := Aside0.mk H
          clear H
          obtain ⟨Ao12, co12, eo12⟩ := Kd.R_slice HO_4.out
          subst eo12
          have p134 : 0 ≤ ((ji5) : Int) := dq_ (by assumption)
          have q134 : (ji5) < (x4_1.length : Int) := dq_ (by assumption)
          obtain ⟨ad134, e134, hx134_0⟩ := Kd.at_int (Kd.R_reads' HO_4.out).2.2 (ji5) p134 q134
          cases e134
          replace p134 := eq_true p134
          replace q134 := eq_true q134
          have q13 : ((ji5) : Int) ≤ ((x4_1.length : Int) : Int) := dq_ (by assumption)
          obtain ⟨i013, hi013, _, hsz13, _⟩ := info_parts info3
          have hcut13 := cut_to (P := Try.prog) 23 3 .i64 Try.underlying23 hi013 (some ad134) x4_1.length co12 (ji5) (dq_ (by assumption)) q13 (Kd.R_reads' HO_4.out).2.1
          have hr13 := Kd.R_take (m := ((ji5) : Int).toNat) HO_4.out (by omega)
          have hy13 : y135.length = ((ji5) : Int).toNat := (by rw [Ny135.out, List.length_take]; omega)
          rw [← Ny135.out] at hr13
          rw [← hy13] at hr13 hcut13
          clear hy13 hi013 hsz13 HO_4
          have HO137 := Aside0.mk hr13
          clear hr13
          replace q13 := eq_true q13
          go_wp2_with (first | ((with_reducible refine gate_builtin (b := .append) (xs := #[.tmp 22, .tmp 24]) rfl ?_); at_builtin; refine Kd.R_append (Kd.int .i64) (w0 := w) w.heap.size rfl (.tmp 22) (.tmp 24) 23 3 (.int .i64 0) 8 rfl Try.underlying23 info3 rfl (by decide) (by omega) u3 x3_1 (rd x4_1 (ji5)) [.int .i64 (rd x4_1 (ji5))] (fun k_ => some k_ ≠ (.slice (some ad134) y135.length co12 : Value).ownBlock) (fun _ => False) rfl rfl ?aP (fun _ hk => hk.elim) ?aF ?aO ?aB ?aS ?aL ?_; (case aP => exact rfl); (case aB => exact (by repeat (first | (with_reducible first | exact HB.out | apply ba_ | apply bn_ | apply b1_) | exact HB.out))); (case aF => exact (fun k_ hk => Kd.fresh' (Kd.R_lt (by (with_reducible repeat (first | apply Kd.R_alloc | apply Kd.R_drewN | apply Kd.R_drew)); exact HO137.out)) k_ hk)); (case aO => exact (by (with_reducible repeat (first | apply Kd.R_alloc | apply Kd.R_drewN | apply Kd.R_drew)); exact HO_3.out)); (case aS => exact (below_size (by repeat (first | (with_reducible first | exact HB.out | apply ba_ | apply bn_ | apply b1_) | exact HB.out)))); (case aL => have := LMc9.out; omega); intro v139 w14 ho hb hg hat; rw [← Ny138.out] at ho; have n0_ := Aside0.mk (Kd.R_after (ok := (fun _ => True)) (by (with_reducible repeat (first | apply Kd.R_alloc | apply Kd.R_drewN | apply Kd.R_drew)); exact Kd.R_mono HO137.out (fun _ hk => ⟨trivial, hk⟩)) hg hat); have n1_ := Aside0.mk (hb); have n2_ := Aside0.mk (ho); clear HO137; clear HB; clear HO_3; have HO137 := n0_; have HB := n1_; have HO140 := n2_; clear n0_ n1_ n2_; clear ho hb hg hat; have p141 : 0 ≤ ((rd x4_1 (ji5)) : Int) := dq_ (by assumption); have q141 : (rd x4_1 (ji5)) < (l0.length : Int) := dq_ (by assumption); obtain ⟨ad141, A141_3, c141_3, A141_6, c141_6, e141, hx141_0, hx141_1, hx141_2, hx141_3, hx141_4, hx141_5, hx141_6, hl141_3, hi141_3, hl141_6, hi141_6⟩ := at_T44 HR0.out (rd x4_1 (ji5)) p141 q141; cases e141; replace hx141_0 := pw_cell_below HB.out hx141_0; replace hx141_1 := pw_cell_below HB.out hx141_1; replace hx141_2 := pw_cell_below HB.out hx141_2; replace hx141_3 := pw_cell_below HB.out hx141_3; replace hx141_4 := pw_cell_below HB.out hx141_4; replace hx141_5 := pw_cell_below HB.out hx141_5; replace hx141_6 := pw_cell_below HB.out hx141_6; have HR141_3 := Aside0.mk hi141_3; have HC141_3 := Aside0.mk hl141_3; clear hi141_3 hl141_3; have HR141_6 := Aside0.mk hi141_6; have HC141_6 := Aside0.mk hl141_6; clear hi141_6 hl141_6; replace p141 := eq_true p141; replace q141 := eq_true q141))
          go_loopg [4, 7] k1 (fun kq v4 v7 w' => ∃ (x4_2 : List Int) (x7_2 : Int), v7 = .int .i64 x7_2 ∧ Aside0 (impl_order.l1 kq l0 y138 x4_2 (rd x4_1 (ji5)) x7_2 = some r) ∧ Aside0 (kq ≤ k1) ∧ Aside0 (Kd.R (Kd.int .i64) 3 w' w.heap.size (fun k_ => some k_ ≠ (v4 : Value).ownBlock) v139 y138) ∧ Aside0 (Kd.R (Kd.int .i64) 3 w' w.heap.size (fun k_ => some k_ ≠ (v139 : Value).ownBlock) v4 x4_2) ∧ Aside0 (Below w.heap.size w w'))
          case atStart => exact ⟨(y135), (wrap64 ((((rd_T44 l0 (rd x4_1 (ji5))).f6).length : Int) - 1)), (by first | rfl | (simp; done) | (simp only [← hji5] <;> (first | rfl | simp)) | (simp [*]; done)), H', ⟨Nat.le_refl _⟩, ⟨by (with_reducible repeat (first | apply Kd.R_alloc | apply Kd.R_drewN | apply Kd.R_drew)); exact HO140.out⟩, ⟨by (with_reducible repeat (first | apply Kd.R_alloc | apply Kd.R_drewN | apply Kd.R_drew)); exact Kd.R_mono HO137.out (fun _ hk => hk.2)⟩, ⟨by repeat (first | (with_reducible first | exact HB.out | apply ba_ | apply bn_ | apply b1_) | exact HB.out)⟩⟩
          case round =>
           (try subst hji5)
           clear H'
           try clear c4
           try clear c4b0
           try clear c4b1
           try clear c6
           try clear c6b0
           try clear c7
           try clear c7b0
           try clear c8
           try clear c8b0
           try clear c8b1
           try clear c9
           try clear c10
           try clear c10b0
           try clear c11
           try clear c11b0
           try clear q13
           try clear hx134_0
           try clear hx141_0
           try clear hx141_1
           try clear hx141_2
           try clear hx141_3
           try clear hx141_4
           try clear hx141_5
           try clear hx141_6
           try clear p134
           try clear p141
           try clear q13
           try clear q134
           try clear q141
           obtain ⟨x4_2, x7_2, rfl, HA, HK2, HO_3, HO_4, HB⟩ := hrel
           cases gk with
           | zero => exact absurd HA.out (by simp [impl_order.l1])
           | succ k2 =>
            have H := HA.out
            clear HA
            simp only [impl_order.l1] at H
            by_cases c15 : x7_2 ≥ 0
            ·rw [if_pos c15] at H
             have c15b0 : decide (0 ≤ x7_2) = true := decide_eq_true c15
             clear c15
             by_cases c16 : 0 ≤ (rd x4_1 ((wrap64 ((x4_1.length : Int) - 1))))
             ·rw [if_pos c16] at H
              have c16b0 : decide (0 ≤ (rd x4_1 ((wrap64 ((x4_1.length : Int) - 1))))) = true := decide_eq_true c16
              clear c16
              by_cases c17 : (rd x4_1 ((wrap64 ((x4_1.length : Int) - 1)))) < (l0.length : Int)
              ·rw [if_pos c17] at H
               have c17b0 : decide ((rd x4_1 ((wrap64 ((x4_1.length : Int) - 1)))) < (l0.length : Int)) = true := decide_eq_true c17
               clear c17
               by_cases c18 : 0 ≤ x7_2
               ·rw [if_pos c18] at H
                have c18b0 : decide (0 ≤ x7_2) = true := decide_eq_true c18
                clear c18
                by_cases c19 : x7_2 < (((rd_T44 l0 (rd x4_1 ((wrap64 ((x4_1.length : Int) - 1))))).f6).length : Int)
                ·rw [if_pos c19] at H
                 have c19b0 : decide (x7_2 < (((rd_T44 l0 (rd x4_1 ((wrap64 ((x4_1.length : Int) - 1))))).f6).length : Int)) = true := decide_eq_true c19
                 clear c19
                 by_cases c20 : x4_2.length < 17592186044416
                 ·rw [if_pos c20] at H
                  have LMc20 := Aside0.mk c20
                  clear c20
                  obtain ⟨y144, hy144⟩ : ∃ y_ : List Int, y_ = (x4_2 ++ [rd ((rd_T44 l0 (rd x4_1 ((wrap64 ((x4_1.length : Int) - 1))))).f6) x7_2]) := ⟨_, rfl⟩
                  replace H : (impl_order.l1 k2 l0 y138 y144 (rd x4_1 ((wrap64 ((x4_1.length : Int) - 1)))) (wrap64 (x7_2 - 1))) = some r := by first | (rw [hy144]; with_reducible exact H) | (have H2_ := (Option.bind_some _ _).symm.trans H; rw [hy144]; with_reducible exact H2_) | (have H2_ := (Option.bind_some _ _).symm.trans H; with_reducible exact H2_) | with_reducible exact H | (rw [hy144]; exact H) | exact H
                  have Ny144 := Aside0.mk hy144
                  clear hy144
                  have H' := Aside0.mk H
                  clear H
                  have p142 : 0 ≤ ((rd x4_1 ((wrap64 ((x4_1.length : Int) - 1)))) : Int) := dq_ (by assumption)
                  have q142 : (rd x4_1 ((wrap64 ((x4_1.length : Int) - 1)))) < (l0.length : Int) := dq_ (by assumption)
                  obtain ⟨ad142, A142_3, c142_3, A142_6, c142_6, e142, hx142_0, hx142_1, hx142_2, hx142_3, hx142_4, hx142_5, hx142_6, hl142_3, hi142_3, hl142_6, hi142_6⟩ := at_T44 HR0.out (rd x4_1 ((wrap64 ((x4_1.length : Int) - 1)))) p142 q142
                  obtain rfl : ad141 = ad142 := (by injection e142)
                  replace hx142_0 := pw_cell_below HB.out hx142_0
                  replace hx142_1 := pw_cell_below HB.out hx142_1
                  replace hx142_2 := pw_cell_below HB.out hx142_2
                  replace hx142_3 := pw_cell_below HB.out hx142_3
                  replace hx142_4 := pw_cell_below HB.out hx142_4
                  replace hx142_5 := pw_cell_below HB.out hx142_5
                  replace hx142_6 := pw_cell_below HB.out hx142_6
                  have HR142_3 := Aside0.mk hi142_3
                  have HC142_3 := Aside0.mk hl142_3
                  clear hi142_3 hl142_3
                  have HR142_6 := Aside0.mk hi142_6
                  have HC142_6 := Aside0.mk hl142_6
                  clear hi142_6 hl142_6
                  replace p142 := eq_true p142
                  replace q142 := eq_true q142
                  have p143 : 0 ≤ (x7_2 : Int) := dq_ (by assumption)
                  have q143 : x7_2 < (((rd_T44 l0 (rd x4_1 ((wrap64 ((x4_1.length : Int) - 1))))).f6).length : Int) := dq_ (by assumption)
                  obtain ⟨ad143, e143, hx143_0⟩ := Kd.at_int HR142_6.out x7_2 p143 q143
                  cases e143
                  replace hx143_0 := pw_cell_below HB.out hx143_0
                  replace p143 := eq_true p143
                  replace q143 := eq_true q143
                  go_wp2_with (first | ((with_reducible refine gate_builtin (b := .append) (xs := #[.tmp 37, .tmp 46]) rfl ?_); at_builtin; refine Kd.R_append (Kd.int .i64) (w0 := w) w.heap.size rfl (.tmp 37) (.tmp 46) 23 3 (.int .i64 0) 8 rfl Try.underlying23 info3 rfl (by decide) (by omega) u4 x4_2 (rd ((rd_T44 l0 (rd x4_1 ((wrap64 ((x4_1.length : Int) - 1))))).f6) x7_2) [.int .i64 (rd ((rd_T44 l0 (rd x4_1 ((wrap64 ((x4_1.length : Int) - 1))))).f6) x7_2)] (fun k_ => some k_ ≠ (v139 : Value).ownBlock) (fun _ => False) rfl rfl ?aP (fun _ hk => hk.elim) ?aF ?aO ?aB ?aS ?aL ?_; (case aP => exact rfl); (case aB => exact (by repeat (first | (with_reducible first | exact HB.out | apply ba_ | apply bn_ | apply b1_) | exact HB.out))); (case aF => exact (fun k_ hk => Kd.fresh' (Kd.R_lt (by (with_reducible repeat (first | apply Kd.R_alloc | apply Kd.R_drewN | apply Kd.R_drew)); exact HO_3.out)) k_ hk)); (case aO => exact (by (with_reducible repeat (first | apply Kd.R_alloc | apply Kd.R_drewN | apply Kd.R_drew)); exact HO_4.out)); (case aS => exact (below_size (by repeat (first | (with_reducible first | exact HB.out | apply ba_ | apply bn_ | apply b1_) | exact HB.out)))); (case aL => have := LMc20.out; omega); intro v145 w21 ho hb hg hat; rw [← Ny144.out] at ho; have n0_ := Aside0.mk (Kd.R_after (ok := (fun _ => True)) (by (with_reducible repeat (first | apply Kd.R_alloc | apply Kd.R_drewN | apply Kd.R_drew)); exact Kd.R_mono HO_3.out (fun _ hk => ⟨trivial, hk⟩)) hg hat); have n1_ := Aside0.mk (hb); have n2_ := Aside0.mk (ho); clear HO_3; clear HB; clear HO_4; have HO_3 := n0_; have HB := n1_; have HO146 := n2_; clear n0_ n1_ n2_; clear ho hb hg hat))
                  go_roundg k2
                  case measure => have := HK1.out; have := HK2.out; omega
                  case rel => exact ⟨(y144), (wrap64 (x7_2 - 1)), (by first | rfl | (simp; done) | (simp [*]; done)), H', ⟨by have := HK1.out; have := HK2.out; omega⟩, ⟨by (with_reducible repeat (first | apply Kd.R_alloc | apply Kd.R_drewN | apply Kd.R_drew)); exact Kd.R_mono HO_3.out (fun _ hk => hk.2)⟩, ⟨by (with_reducible repeat (first | apply Kd.R_alloc | apply Kd.R_drewN | apply Kd.R_drew)); exact HO146.out⟩, ⟨by repeat (first | (with_reducible first | exact HB.out | apply ba_ | apply bn_ | apply b1_) | exact HB.out)⟩⟩
                 ·rw [if_neg c20] at H
                  exact absurd H (by simp)
                ·rw [if_neg c19] at H
                 exact absurd H (by simp)
               ·rw [if_neg c18] at H
                exact absurd H (by simp)
              ·rw [if_neg c17] at H
               exact absurd H (by simp)
             ·rw [if_neg c16] at H
              exact absurd H (by simp)
            ·rw [if_neg c15] at H
             have c15b0 : decide (0 ≤ x7_2) = false := decide_eq_false c15
             clear c15
             have H' := Aside0.mk H
             clear H
             go_wp2
             go_roundg k2
             case measure => have := HK1.out; have := HK2.out; omega
             case rel => exact ⟨(y138), (x4_2), H', ⟨by have := HK1.out; have := HK2.out; omega⟩, ⟨by (with_reducible repeat (first | apply Kd.R_alloc | apply Kd.R_drewN | apply Kd.R_drew)); exact HO_3.out⟩, ⟨by (with_reducible repeat (first | apply Kd.R_alloc | apply Kd.R_drewN | apply Kd.R_drew)); exact HO_4.out⟩, ⟨by repeat (first | (with_reducible first | exact HB.out | apply ba_ | apply bn_ | apply b1_) | exact HB.out)⟩⟩
         ·rw [if_neg c11] at H
          exact absurd H (by simp)
        ·rw [if_neg c10] at H
         exact absurd H (by simp)
       ·rw [if_neg c9] at H
        exact absurd H (by simp)
      ·rw [if_neg c8] at H
       exact absurd H (by simp)
     ·rw [if_neg c7] at H
      exact absurd H (by simp)
    ·rw [if_neg c6] at H
     exact absurd H (by simp)
   ·rw [if_neg c4] at H
    have c4b0 : decide (0 < (x4_1.length : Int)) = false := decide_eq_false c4
    have c4b1 : decide (0 < x4_1.length) = false := decide_eq_false (by omega)
    clear c4
    obtain rfl := Option.some.inj H
    obtain ⟨Ao22, co22, eo22⟩ := Kd.R_slice HO_4.out
    subst eo22
    go_wp2
    go_ret
    exact ⟨_, by first | rfl | (simp [errW_none, errW_some] <;> rfl) | (simp [*, errW_none, errW_some] <;> rfl), by (with_reducible repeat (first | apply Kd.R_alloc | apply Kd.R_drewN | apply Kd.R_drew)); exact Kd.R_mono HO_3.out (fun _ hk => trivial), by repeat (first | (with_reducible first | exact HB.out | apply ba_ | apply bn_ | apply b1_) | exact HB.out)⟩
end Go.Proofs.Ytbgedpicfllclaa.PFnExactAdd
