-- Written by this session's program wip/slim.py out of the print's texts. Lean checks it.
import Derived.Test.YtbgedpicfllclaaSFnExactAddx0
import Derived.Test.YtbgedpicfllclaaSFnExactAddx5
namespace Go.Proofs.Ytbgedpicfllclaa.PFnExactAdd
open Go.RowKit Go.Proofs.YtbgedpicfllclaaW.PrintWords Go.Proofs.YtbgedpicfllclaaW.PrintLast Go.Proofs.YtbgedpicfllclaaW.PrintMore
attribute [local go_sem] max2_int min2_int max_two min_two max_three min_three max_four min_four
set_option linter.unusedVariables false
set_option linter.unusedSimpArgs false
mutual
def spec_l6Plain.j0 : Nat → Bool → Bool → Int → Int → ByteArray → List (S91) → ByteArray → Int → List Int → Option (Bool)
 | 0, _, _, _, _, _, _, _, _, _ => none
 | k + 1, x3, x44, x169000, x169001, x169002, x169003, x169004, x169005, x169006 => if x44 = true then (some false) else (spec_l6Plain.l0 k x3 0 x169000 x169001 x169002 x169003 x169004 x169005 x169006)
def spec_l6Plain.l0 : Nat → Bool → Int → Int → Int → ByteArray → List (S91) → ByteArray → Int → List Int → Option (Bool)
 | 0, _, _, _, _, _, _, _, _, _ => none
 | k + 1, x3, x4, x169000, x169001, x169002, x169003, x169004, x169005, x169006 => if x4 < (x169003.length : Int) then (if 0 ≤ x4 then (if x4 ≤ (x169003.length : Int) then ((spec_l4Has.f k (x169003.take (x4 : Int).toNat) ((rd_T91 x169003 x4).f0)).bind fun t175 => (if t175 = true then (some false) else (spec_l6Plain.l0 k x3 (wrap64 (x4 + 1)) x169000 x169001 x169002 x169003 x169004 x169005 x169006))) else (none)) else (none)) else (if x169000 = 1 then (some (x169004.toList == ([] : List UInt8))) else (if x169000 = 3 then (some ((x169006.length : Int) == 0)) else (if x169000 = 4 then (some ((x169006.length : Int) == 0)) else (if x169000 = 5 then (some ((x169006.length : Int) == 0)) else (some x3)))))
end
def spec_l6Plain.f (k : Nat) (a0_0 : Int) (a0_1 : Int) (a0_2 : ByteArray) (l0_3 : List (S91)) (a0_4 : ByteArray) (a0_5 : Int) (l0_6 : List Int) : Option (Bool) := if a0_0 = 2 then (if a0_2.toList = ([] : List UInt8) then (spec_l6Plain.j0 k (a0_0 == 2) true a0_0 a0_1 a0_2 l0_3 a0_4 a0_5 l0_6) else (if a0_4.toList = ([] : List UInt8) then ((spec_l1In.f a0_1 0 2).bind fun t169 => (spec_l6Plain.j0 k (a0_0 == 2) (!t169) a0_0 a0_1 a0_2 l0_3 a0_4 a0_5 l0_6)) else (spec_l6Plain.j0 k (a0_0 == 2) true a0_0 a0_1 a0_2 l0_3 a0_4 a0_5 l0_6))) else (if a0_2.toList = ([] : List UInt8) then (if (l0_3.length : Int) > 0 then (spec_l6Plain.j0 k (a0_0 == 2) true a0_0 a0_1 a0_2 l0_3 a0_4 a0_5 l0_6) else (if a0_1 = 0 then (spec_l6Plain.j0 k (a0_0 == 2) false a0_0 a0_1 a0_2 l0_3 a0_4 a0_5 l0_6) else (spec_l6Plain.j0 k (a0_0 == 2) true a0_0 a0_1 a0_2 l0_3 a0_4 a0_5 l0_6))) else (spec_l6Plain.j0 k (a0_0 == 2) true a0_0 a0_1 a0_2 l0_3 a0_4 a0_5 l0_6))
theorem spec_l6Plain.mono_l : ∀ k, (∀ y0 y1 y2 y3 y4 y5 y6 y7 y8, LeO (spec_l6Plain.j0 k y0 y1 y2 y3 y4 y5 y6 y7 y8) (spec_l6Plain.j0 (k + 1) y0 y1 y2 y3 y4 y5 y6 y7 y8)) ∧ (∀ y0 y1 y2 y3 y4 y5 y6 y7 y8, LeO (spec_l6Plain.l0 k y0 y1 y2 y3 y4 y5 y6 y7 y8) (spec_l6Plain.l0 (k + 1) y0 y1 y2 y3 y4 y5 y6 y7 y8))
 | 0 => ⟨fun _ _ _ _ _ _ _ _ _ r h => by simp [spec_l6Plain.j0] at h, fun _ _ _ _ _ _ _ _ _ r h => by simp [spec_l6Plain.l0] at h⟩
 | k + 1 => by
  obtain ⟨ih0, ih1⟩ := spec_l6Plain.mono_l k
  refine ⟨?_, ?_⟩
  ·intro y0 y1 y2 y3 y4 y5 y6 y7 y8
   unfold spec_l6Plain.j0
   repeat' first
   | (with_reducible exact ih0 _ _ _ _ _ _ _ _ _)
   | (with_reducible exact ih1 _ _ _ _ _ _ _ _ _)
   | (with_reducible exact spec_l4Has.mono _ _ _)
   | (with_reducible exact LeO.refl _)
   | (with_reducible exact LeO.none _)
   | (with_reducible refine LeO.ite ?_ ?_)
   | (with_reducible refine LeO.bind ?_ (fun _ => ?_))
  ·intro y0 y1 y2 y3 y4 y5 y6 y7 y8
   unfold spec_l6Plain.l0
   repeat' first
   | (with_reducible exact ih0 _ _ _ _ _ _ _ _ _)
   | (with_reducible exact ih1 _ _ _ _ _ _ _ _ _)
   | (with_reducible exact spec_l4Has.mono _ _ _)
   | (with_reducible exact LeO.refl _)
   | (with_reducible exact LeO.none _)
   | (with_reducible refine LeO.ite ?_ ?_)
   | (with_reducible refine LeO.bind ?_ (fun _ => ?_))
theorem spec_l6Plain.mono : ∀ a0 a1 a2 a3 a4 a5 a6 k, LeO (spec_l6Plain.f k a0 a1 a2 a3 a4 a5 a6) (spec_l6Plain.f (k + 1) a0 a1 a2 a3 a4 a5 a6) := by
 intro a0 a1 a2 a3 a4 a5 a6 k
 obtain ⟨ih0, ih1⟩ := spec_l6Plain.mono_l k
 unfold spec_l6Plain.f
 repeat' first
   | (with_reducible exact ih0 _ _ _ _ _ _ _ _ _)
   | (with_reducible exact ih1 _ _ _ _ _ _ _ _ _)
   | (with_reducible exact spec_l4Has.mono _ _ _)
   | (with_reducible exact LeO.refl _)
   | (with_reducible exact LeO.none _)
   | (with_reducible refine LeO.ite ?_ ?_)
   | (with_reducible refine LeO.bind ?_ (fun _ => ?_))
set_option maxHeartbeats 8000000 in
set_option maxRecDepth 100000 in
theorem spec_l6Plain.calls (k : Nat) (a0_0 : Int) (a0_1 : Int) (a0_2 : ByteArray) (A0_3 : Option Addr) (c0_3 : Nat) (l0_3 : List (S91)) (a0_4 : ByteArray) (a0_5 : Int) (A0_6 : Option Addr) (c0_6 : Nat) (l0_6 : List Int) (r : Bool) (w : World) (hr0_3 : Kd.C k91 w A0_3 l0_3.length l0_3) (hc0_3 : l0_3.length ≤ c0_3) (hr0_6 : Kd.C (Kd.int .i64) w A0_6 l0_6.length l0_6) (hc0_6 : l0_6.length ≤ c0_6) (h : spec_l6Plain.f k a0_0 a0_1 a0_2 l0_3 a0_4 a0_5 l0_6 = some r) :
  Calls Try.prog 62 #[.agg #[.int .i64 a0_0, .int .i64 a0_1, .string a0_2, .slice A0_3 l0_3.length c0_3, .string a0_4, .int .i64 a0_5, .slice A0_6 l0_6.length c0_6]] w fun e w' => e = .returned (.bool r) ∧ Below w.heap.size w w' := by
 have hu44 := Try.underlying44
 have HR0_3 := Aside0.mk hr0_3
 have HC0_3 := Aside0.mk hc0_3
 clear hr0_3 hc0_3
 have HR0_6 := Aside0.mk hr0_6
 have HC0_6 := Aside0.mk hc0_6
 clear hr0_6 hc0_6
 have HB := Aside0.mk (Below.refl w.heap.size w)
 have H : (if a0_0 = 2 then (if a0_2.toList = ([] : List UInt8) then (spec_l6Plain.j0 k (a0_0 == 2) true a0_0 a0_1 a0_2 l0_3 a0_4 a0_5 l0_6) else (if a0_4.toList = ([] : List UInt8) then ((spec_l1In.f a0_1 0 2).bind fun t169 => (spec_l6Plain.j0 k (a0_0 == 2) (!t169) a0_0 a0_1 a0_2 l0_3 a0_4 a0_5 l0_6)) else (spec_l6Plain.j0 k (a0_0 == 2) true a0_0 a0_1 a0_2 l0_3 a0_4 a0_5 l0_6))) else (if a0_2.toList = ([] : List UInt8) then (if (l0_3.length : Int) > 0 then (spec_l6Plain.j0 k (a0_0 == 2) true a0_0 a0_1 a0_2 l0_3 a0_4 a0_5 l0_6) else (if a0_1 = 0 then (spec_l6Plain.j0 k (a0_0 == 2) false a0_0 a0_1 a0_2 l0_3 a0_4 a0_5 l0_6) else (spec_l6Plain.j0 k (a0_0 == 2) true a0_0 a0_1 a0_2 l0_3 a0_4 a0_5 l0_6))) else (spec_l6Plain.j0 k (a0_0 == 2) true a0_0 a0_1 a0_2 l0_3 a0_4 a0_5 l0_6))) = some r := h
 clear h
 have HC2 := Aside0.mk H
 clear H
 go_enter Try.func62, Try.ntmps62
 go_upto_region 2 with (first | ((with_reducible refine gate_dst (N := 1) rfl ?_); (try (refine gate_guard (by rfl) ?_; dsimp only)); refine box_event ?hg (N := 1) ?hd (cs := #[.int .i64 a0_0, .int .i64 a0_1, .string a0_2, .slice A0_3 l0_3.length c0_3, .string a0_4, .int .i64 a0_5, .slice A0_6 l0_6.length c0_6]) (t := 44) ?hr ?_; (case hd => rfl); (case hg => rfl); (case hr => first | (go_simp; done) | (go_simp; rfl)); intro gb168 hg w3 hbox hb; have n0_ := Aside0.mk (below_step (by repeat (first | (with_reducible first | exact HB.out | apply ba_ | apply bn_ | apply b1_) | exact HB.out)) hb); have n1_ := Aside0.mk (hbox); have n2_ := Aside0.mk ((by rw [hg]; exact (below_size (by repeat (first | (with_reducible first | exact HB.out | apply ba_ | apply bn_ | apply b1_) | exact HB.out))) : w.heap.size ≤ gb168)); have n3_ := Aside0.mk ((by rw [hg]; exact (below_size (by repeat (first | (with_reducible first | exact HB.out | apply ba_ | apply bn_ | apply b1_) | exact HB.out))) : w.heap.size ≤ gb168)); clear HB; have HB := n0_; have BK168 := n1_; have GW168 := n2_; have GE168 := n3_; clear n0_ n1_ n2_ n3_; clear hb hbox hg; have hcz4_0 : w3.cell? ⟨gb168, 0, none⟩ = some (.int .i64 a0_0) := (bc_ BK168.out 0).trans rfl; have hcz4_1 : w3.cell? ⟨gb168, 1, none⟩ = some (.int .i64 a0_1) := (bc_ BK168.out 1).trans rfl; have hcz4_2 : w3.cell? ⟨gb168, 2, none⟩ = some (.string a0_2) := (bc_ BK168.out 2).trans rfl; have hcz4_3 : w3.cell? ⟨gb168, 3, none⟩ = some (.slice A0_3 l0_3.length c0_3) := (bc_ BK168.out 3).trans rfl; have hcz4_4 : w3.cell? ⟨gb168, 4, none⟩ = some (.string a0_4) := (bc_ BK168.out 4).trans rfl; have hcz4_5 : w3.cell? ⟨gb168, 5, none⟩ = some (.int .i64 a0_5) := (bc_ BK168.out 5).trans rfl; have hcz4_6 : w3.cell? ⟨gb168, 6, none⟩ = some (.slice A0_6 l0_6.length c0_6) := (bc_ BK168.out 6).trans rfl))
 repeat (go_quiet (first | ((with_reducible refine gate_dst (N := 1) rfl ?_); (try (refine gate_guard (by rfl) ?_; dsimp only)); refine box_event ?hg (N := 1) ?hd (cs := #[.int .i64 a0_0, .int .i64 a0_1, .string a0_2, .slice A0_3 l0_3.length c0_3, .string a0_4, .int .i64 a0_5, .slice A0_6 l0_6.length c0_6]) (t := 44) ?hr ?_; (case hd => rfl); (case hg => rfl); (case hr => first | (go_simp; done) | (go_simp; rfl)); intro gb168 hg w3 hbox hb; have n0_ := Aside0.mk (below_step (by repeat (first | (with_reducible first | exact HB.out | apply ba_ | apply bn_ | apply b1_) | exact HB.out)) hb); have n1_ := Aside0.mk (hbox); have n2_ := Aside0.mk ((by rw [hg]; exact (below_size (by repeat (first | (with_reducible first | exact HB.out | apply ba_ | apply bn_ | apply b1_) | exact HB.out))) : w.heap.size ≤ gb168)); have n3_ := Aside0.mk ((by rw [hg]; exact (below_size (by repeat (first | (with_reducible first | exact HB.out | apply ba_ | apply bn_ | apply b1_) | exact HB.out))) : w.heap.size ≤ gb168)); clear HB; have HB := n0_; have BK168 := n1_; have GW168 := n2_; have GE168 := n3_; clear n0_ n1_ n2_ n3_; clear hb hbox hg; have hcz4_0 : w3.cell? ⟨gb168, 0, none⟩ = some (.int .i64 a0_0) := (bc_ BK168.out 0).trans rfl; have hcz4_1 : w3.cell? ⟨gb168, 1, none⟩ = some (.int .i64 a0_1) := (bc_ BK168.out 1).trans rfl; have hcz4_2 : w3.cell? ⟨gb168, 2, none⟩ = some (.string a0_2) := (bc_ BK168.out 2).trans rfl; have hcz4_3 : w3.cell? ⟨gb168, 3, none⟩ = some (.slice A0_3 l0_3.length c0_3) := (bc_ BK168.out 3).trans rfl; have hcz4_4 : w3.cell? ⟨gb168, 4, none⟩ = some (.string a0_4) := (bc_ BK168.out 4).trans rfl; have hcz4_5 : w3.cell? ⟨gb168, 5, none⟩ = some (.int .i64 a0_5) := (bc_ BK168.out 5).trans rfl; have hcz4_6 : w3.cell? ⟨gb168, 6, none⟩ = some (.slice A0_6 l0_6.length c0_6) := (bc_ BK168.out 6).trans rfl)); go_upto_region 2 with (first | ((with_reducible refine gate_dst (N := 1) rfl ?_); (try (refine gate_guard (by rfl) ?_; dsimp only)); refine box_event ?hg (N := 1) ?hd (cs := #[.int .i64 a0_0, .int .i64 a0_1, .string a0_2, .slice A0_3 l0_3.length c0_3, .string a0_4, .int .i64 a0_5, .slice A0_6 l0_6.length c0_6]) (t := 44) ?hr ?_; (case hd => rfl); (case hg => rfl); (case hr => first | (go_simp; done) | (go_simp; rfl)); intro gb168 hg w3 hbox hb; have n0_ := Aside0.mk (below_step (by repeat (first | (with_reducible first | exact HB.out | apply ba_ | apply bn_ | apply b1_) | exact HB.out)) hb); have n1_ := Aside0.mk (hbox); have n2_ := Aside0.mk ((by rw [hg]; exact (below_size (by repeat (first | (with_reducible first | exact HB.out | apply ba_ | apply bn_ | apply b1_) | exact HB.out))) : w.heap.size ≤ gb168)); have n3_ := Aside0.mk ((by rw [hg]; exact (below_size (by repeat (first | (with_reducible first | exact HB.out | apply ba_ | apply bn_ | apply b1_) | exact HB.out))) : w.heap.size ≤ gb168)); clear HB; have HB := n0_; have BK168 := n1_; have GW168 := n2_; have GE168 := n3_; clear n0_ n1_ n2_ n3_; clear hb hbox hg; have hcz4_0 : w3.cell? ⟨gb168, 0, none⟩ = some (.int .i64 a0_0) := (bc_ BK168.out 0).trans rfl; have hcz4_1 : w3.cell? ⟨gb168, 1, none⟩ = some (.int .i64 a0_1) := (bc_ BK168.out 1).trans rfl; have hcz4_2 : w3.cell? ⟨gb168, 2, none⟩ = some (.string a0_2) := (bc_ BK168.out 2).trans rfl; have hcz4_3 : w3.cell? ⟨gb168, 3, none⟩ = some (.slice A0_3 l0_3.length c0_3) := (bc_ BK168.out 3).trans rfl; have hcz4_4 : w3.cell? ⟨gb168, 4, none⟩ = some (.string a0_4) := (bc_ BK168.out 4).trans rfl; have hcz4_5 : w3.cell? ⟨gb168, 5, none⟩ = some (.int .i64 a0_5) := (bc_ BK168.out 5).trans rfl; have hcz4_6 : w3.cell? ⟨gb168, 6, none⟩ = some (.slice A0_6 l0_6.length c0_6) := (bc_ BK168.out 6).trans rfl)))
 (try simp only [Act.put, sa_, sz_, ss_])
 go_cut [44] (fun v44 wc => ∃ (kq : Nat) (x44_1 : Bool), v44 = .bool x44_1 ∧ Aside0 (spec_l6Plain.j0 kq (a0_0 == 2) x44_1 a0_0 a0_1 a0_2 l0_3 a0_4 a0_5 l0_6 = some r) ∧ Aside0 (kq ≤ k) ∧ Aside0 (wc.heap[gb168]? = some (.cells #[.int .i64 a0_0, .int .i64 a0_1, .string a0_2, (.slice A0_3 l0_3.length c0_3), .string a0_4, .int .i64 a0_5, (.slice A0_6 l0_6.length c0_6)] 44 (0, 0))) ∧ Aside0 (Below w.heap.size w wc))
 case first =>
  have H := HC2.out
  clear HC2
  generalize hb2_ : (a0_0 == 2) = b2_ at *
  by_cases c5 : a0_0 = 2
  ·rw [if_pos c5] at H
   have c5b0 : (a0_0 == 2) = true := beq_iff_eq.mpr c5
   have c5b1 : (a0_0 != 2) = false := bne_eq_false_iff_eq.mpr c5
   clear c5
   (first | (have e2_ := hb2_.symm.trans c5b0; subst e2_) | rw [c5b0] | (simp only [i64_w, i32_w]; rw [c5b0]) | skip)
   by_cases c6 : a0_2.toList = ([] : List UInt8)
   ·rw [if_pos c6] at H
    have c6b0 : (a0_2.toList == ([] : List UInt8)) = true := beq_iff_eq.mpr c6
    have c6b1 : (a0_2.toList != ([] : List UInt8)) = false := bne_eq_false_iff_eq.mpr c6
    clear c6
    have H' := Aside0.mk H
    clear H
    have hcz7_0 : w3.cell? ⟨gb168, 0, none⟩ = some (.int .i64 a0_0) := (bc_ BK168.out 0).trans rfl
    have hcz7_1 : w3.cell? ⟨gb168, 1, none⟩ = some (.int .i64 a0_1) := (bc_ BK168.out 1).trans rfl
    have hcz7_2 : w3.cell? ⟨gb168, 2, none⟩ = some (.string a0_2) := (bc_ BK168.out 2).trans rfl
    have hcz7_3 : w3.cell? ⟨gb168, 3, none⟩ = some (.slice A0_3 l0_3.length c0_3) := (bc_ BK168.out 3).trans rfl
    have hcz7_4 : w3.cell? ⟨gb168, 4, none⟩ = some (.string a0_4) := (bc_ BK168.out 4).trans rfl
    have hcz7_5 : w3.cell? ⟨gb168, 5, none⟩ = some (.int .i64 a0_5) := (bc_ BK168.out 5).trans rfl
    have hcz7_6 : w3.cell? ⟨gb168, 6, none⟩ = some (.slice A0_6 l0_6.length c0_6) := (bc_ BK168.out 6).trans rfl
    go_wp2
    repeat (go_quiet (fail); try go_wp2)
    go_meet
    case rel => exact ⟨_, (true), (by first | rfl | (simp; done) | (simp [*]; done)), H', ⟨by first | omega | exact Nat.le_refl _⟩, ⟨by (with_reducible repeat (first | refine dn_ ?_ _ | refine dd_ ?_ | refine da_ ?_ _)); exact BK168.out⟩, ⟨by repeat (first | (with_reducible first | exact HB.out | apply ba_ | apply bn_ | apply b1_ | refine below_set ?_ GE168.out) | exact HB.out)⟩⟩
   ·rw [if_neg c6] at H
    have c6b0 : (a0_2.toList == ([] : List UInt8)) = false := beq_eq_false_iff_ne.mpr c6
    have c6b1 : (a0_2.toList != ([] : List UInt8)) = true := bne_iff_ne.mpr c6
    by_cases c8 : a0_4.toList = ([] : List UInt8)
    ·rw [if_pos c8] at H
     have c8b0 : (a0_4.toList == ([] : List UInt8)) = true := beq_iff_eq.mpr c8
     have c8b1 : (a0_4.toList != ([] : List UInt8)) = false := bne_eq_false_iff_eq.mpr c8
     clear c8
     replace H := Option.bind_eq_some_iff.mp H
     obtain ⟨t169, A90, H⟩ := H
     replace H : (spec_l6Plain.j0 k _ (!t169) a0_0 a0_1 a0_2 l0_3 a0_4 a0_5 l0_6) = some r := H
     have A9 := Aside0.mk A90
     clear A90
     have H' := Aside0.mk H
     clear H
     have hcz10_0 : w3.cell? ⟨gb168, 0, none⟩ = some (.int .i64 a0_0) := (bc_ BK168.out 0).trans rfl
     have hcz10_1 : w3.cell? ⟨gb168, 1, none⟩ = some (.int .i64 a0_1) := (bc_ BK168.out 1).trans rfl
     have hcz10_2 : w3.cell? ⟨gb168, 2, none⟩ = some (.string a0_2) := (bc_ BK168.out 2).trans rfl
     have hcz10_3 : w3.cell? ⟨gb168, 3, none⟩ = some (.slice A0_3 l0_3.length c0_3) := (bc_ BK168.out 3).trans rfl
     have hcz10_4 : w3.cell? ⟨gb168, 4, none⟩ = some (.string a0_4) := (bc_ BK168.out 4).trans rfl
     have hcz10_5 : w3.cell? ⟨gb168, 5, none⟩ = some (.int .i64 a0_5) := (bc_ BK168.out 5).trans rfl
     have hcz10_6 : w3.cell? ⟨gb168, 6, none⟩ = some (.slice A0_6 l0_6.length c0_6) := (bc_ BK168.out 6).trans rfl
     go_wp2_with (first | (go_at_call 49; (with_reducible refine (spec_l1In.calls a0_1 0 2 t169 _ A9.out).mono ?_); rintro e w' ⟨rfl, ⟨nd, rfl⟩⟩; (try first | exact ⟨rfl, _, World.drewN_drewN _ _ _⟩ | exact ⟨rfl, _, Eq.trans (World.drewN_drewN _ _ _) (congrArg (World.drewN _) (Nat.add_assoc _ _ _))⟩)))
     repeat (go_quiet (first | (go_at_call 49; (with_reducible refine (spec_l1In.calls a0_1 0 2 t169 _ A9.out).mono ?_); rintro e w' ⟨rfl, ⟨nd, rfl⟩⟩; (try first | exact ⟨rfl, _, World.drewN_drewN _ _ _⟩ | exact ⟨rfl, _, Eq.trans (World.drewN_drewN _ _ _) (congrArg (World.drewN _) (Nat.add_assoc _ _ _))⟩))); try go_wp2_with (first | (go_at_call 49; (with_reducible refine (spec_l1In.calls a0_1 0 2 t169 _ A9.out).mono ?_); rintro e w' ⟨rfl, ⟨nd, rfl⟩⟩; (try first | exact ⟨rfl, _, World.drewN_drewN _ _ _⟩ | exact ⟨rfl, _, Eq.trans (World.drewN_drewN _ _ _) (congrArg (World.drewN _) (Nat.add_assoc _ _ _))⟩))))
     go_meet
     case rel => exact ⟨_, (!t169), (by first | rfl | (simp; done) | (simp [*]; done)), H', ⟨by first | omega | exact Nat.le_refl _⟩, ⟨by (with_reducible repeat (first | refine dn_ ?_ _ | refine dd_ ?_ | refine da_ ?_ _)); exact BK168.out⟩, ⟨by repeat (first | (with_reducible first | exact HB.out | apply ba_ | apply bn_ | apply b1_ | refine below_set ?_ GE168.out) | exact HB.out)⟩⟩
    ·rw [if_neg c8] at H
     have c8b0 : (a0_4.toList == ([] : List UInt8)) = false := beq_eq_false_iff_ne.mpr c8
     have c8b1 : (a0_4.toList != ([] : List UInt8)) = true := bne_iff_ne.mpr c8
     have H' := Aside0.mk H
     clear H
     have hcz11_0 : w3.cell? ⟨gb168, 0, none⟩ = some (.int .i64 a0_0) := (bc_ BK168.out 0).trans rfl
     have hcz11_1 : w3.cell? ⟨gb168, 1, none⟩ = some (.int .i64 a0_1) := (bc_ BK168.out 1).trans rfl
     have hcz11_2 : w3.cell? ⟨gb168, 2, none⟩ = some (.string a0_2) := (bc_ BK168.out 2).trans rfl
     have hcz11_3 : w3.cell? ⟨gb168, 3, none⟩ = some (.slice A0_3 l0_3.length c0_3) := (bc_ BK168.out 3).trans rfl
     have hcz11_4 : w3.cell? ⟨gb168, 4, none⟩ = some (.string a0_4) := (bc_ BK168.out 4).trans rfl
     have hcz11_5 : w3.cell? ⟨gb168, 5, none⟩ = some (.int .i64 a0_5) := (bc_ BK168.out 5).trans rfl
     have hcz11_6 : w3.cell? ⟨gb168, 6, none⟩ = some (.slice A0_6 l0_6.length c0_6) := (bc_ BK168.out 6).trans rfl
     go_wp2
     repeat (go_quiet (fail); try go_wp2)
     go_meet
     case rel => exact ⟨_, (true), (by first | rfl | (simp; done) | (simp [*]; done)), H', ⟨by first | omega | exact Nat.le_refl _⟩, ⟨by (with_reducible repeat (first | refine dn_ ?_ _ | refine dd_ ?_ | refine da_ ?_ _)); exact BK168.out⟩, ⟨by repeat (first | (with_reducible first | exact HB.out | apply ba_ | apply bn_ | apply b1_ | refine below_set ?_ GE168.out) | exact HB.out)⟩⟩
  ·rw [if_neg c5] at H
   have c5b0 : (a0_0 == 2) = false := beq_eq_false_iff_ne.mpr c5
   have c5b1 : (a0_0 != 2) = true := bne_iff_ne.mpr c5
   (first | (have e2_ := hb2_.symm.trans c5b0; subst e2_) | rw [c5b0] | (simp only [i64_w, i32_w]; rw [c5b0]) | skip)
   by_cases c12 : a0_2.toList = ([] : List UInt8)
   ·rw [if_pos c12] at H
    have c12b0 : (a0_2.toList == ([] : List UInt8)) = true := beq_iff_eq.mpr c12
    have c12b1 : (a0_2.toList != ([] : List UInt8)) = false := bne_eq_false_iff_eq.mpr c12
    clear c12
    by_cases c13 : (l0_3.length : Int) > 0
    ·rw [if_pos c13] at H
     have c13b0 : decide (0 < (l0_3.length : Int)) = true := decide_eq_true c13
     have c13b1 : decide (0 < l0_3.length) = true := decide_eq_true (by omega)
     clear c13
     have H' := Aside0.mk H
     clear H
     have hcz14_0 : w3.cell? ⟨gb168, 0, none⟩ = some (.int .i64 a0_0) := (bc_ BK168.out 0).trans rfl
     have hcz14_1 : w3.cell? ⟨gb168, 1, none⟩ = some (.int .i64 a0_1) := (bc_ BK168.out 1).trans rfl
     have hcz14_2 : w3.cell? ⟨gb168, 2, none⟩ = some (.string a0_2) := (bc_ BK168.out 2).trans rfl
     have hcz14_3 : w3.cell? ⟨gb168, 3, none⟩ = some (.slice A0_3 l0_3.length c0_3) := (bc_ BK168.out 3).trans rfl
     have hcz14_4 : w3.cell? ⟨gb168, 4, none⟩ = some (.string a0_4) := (bc_ BK168.out 4).trans rfl
     have hcz14_5 : w3.cell? ⟨gb168, 5, none⟩ = some (.int .i64 a0_5) := (bc_ BK168.out 5).trans rfl
     have hcz14_6 : w3.cell? ⟨gb168, 6, none⟩ = some (.slice A0_6 l0_6.length c0_6) := (bc_ BK168.out 6).trans rfl
     go_wp2
     repeat (go_quiet (fail); try go_wp2)
     go_meet
     case rel => exact ⟨_, (true), (by first | rfl | (simp; done) | (simp [*]; done)), H', ⟨by first | omega | exact Nat.le_refl _⟩, ⟨by (with_reducible repeat (first | refine dn_ ?_ _ | refine dd_ ?_ | refine da_ ?_ _)); exact BK168.out⟩, ⟨by repeat (first | (with_reducible first | exact HB.out | apply ba_ | apply bn_ | apply b1_ | refine below_set ?_ GE168.out) | exact HB.out)⟩⟩
    ·rw [if_neg c13] at H
     have c13b0 : decide (0 < (l0_3.length : Int)) = false := decide_eq_false c13
     have c13b1 : decide (0 < l0_3.length) = false := decide_eq_false (by omega)
     clear c13
     by_cases c15 : a0_1 = 0
     ·rw [if_pos c15] at H
      have c15b0 : (a0_1 == 0) = true := beq_iff_eq.mpr c15
      have c15b1 : (a0_1 != 0) = false := bne_eq_false_iff_eq.mpr c15
      clear c15
      have H' := Aside0.mk H
      clear H
      have hcz16_0 : w3.cell? ⟨gb168, 0, none⟩ = some (.int .i64 a0_0) := (bc_ BK168.out 0).trans rfl
      have hcz16_1 : w3.cell? ⟨gb168, 1, none⟩ = some (.int .i64 a0_1) := (bc_ BK168.out 1).trans rfl
      have hcz16_2 : w3.cell? ⟨gb168, 2, none⟩ = some (.string a0_2) := (bc_ BK168.out 2).trans rfl
      have hcz16_3 : w3.cell? ⟨gb168, 3, none⟩ = some (.slice A0_3 l0_3.length c0_3) := (bc_ BK168.out 3).trans rfl
      have hcz16_4 : w3.cell? ⟨gb168, 4, none⟩ = some (.string a0_4) := (bc_ BK168.out 4).trans rfl
      have hcz16_5 : w3.cell? ⟨gb168, 5, none⟩ = some (.int .i64 a0_5) := (bc_ BK168.out 5).trans rfl
      have hcz16_6 : w3.cell? ⟨gb168, 6, none⟩ = some (.slice A0_6 l0_6.length c0_6) := (bc_ BK168.out 6).trans rfl
      go_wp2
      repeat (go_quiet (fail); try go_wp2)
      go_meet
      case rel => exact ⟨_, (false), (by first | rfl | (simp; done) | (simp [*]; done)), H', ⟨by first | omega | exact Nat.le_refl _⟩, ⟨by (with_reducible repeat (first | refine dn_ ?_ _ | refine dd_ ?_ | refine da_ ?_ _)); exact BK168.out⟩, ⟨by repeat (first | (with_reducible first | exact HB.out | apply ba_ | apply bn_ | apply b1_ | refine below_set ?_ GE168.out) | exact HB.out)⟩⟩
     ·rw [if_neg c15] at H
      have c15b0 : (a0_1 == 0) = false := beq_eq_false_iff_ne.mpr c15
      have c15b1 : (a0_1 != 0) = true := bne_iff_ne.mpr c15
      have H' := Aside0.mk H
      clear H
      have hcz17_0 : w3.cell? ⟨gb168, 0, none⟩ = some (.int .i64 a0_0) := (bc_ BK168.out 0).trans rfl
      have hcz17_1 : w3.cell? ⟨gb168, 1, none⟩ = some (.int .i64 a0_1) := (bc_ BK168.out 1).trans rfl
      have hcz17_2 : w3.cell? ⟨gb168, 2, none⟩ = some (.string a0_2) := (bc_ BK168.out 2).trans rfl
      have hcz17_3 : w3.cell? ⟨gb168, 3, none⟩ = some (.slice A0_3 l0_3.length c0_3) := (bc_ BK168.out 3).trans rfl
      have hcz17_4 : w3.cell? ⟨gb168, 4, none⟩ = some (.string a0_4) := (bc_ BK168.out 4).trans rfl
      have hcz17_5 : w3.cell? ⟨gb168, 5, none⟩ = some (.int .i64 a0_5) := (bc_ BK168.out 5).trans rfl
      have hcz17_6 : w3.cell? ⟨gb168, 6, none⟩ = some (.slice A0_6 l0_6.length c0_6) := (bc_ BK168.out 6).trans rfl
      go_wp2
      repeat (go_quiet (fail); try go_wp2)
      go_meet
      case rel => exact ⟨_, (true), (by first | rfl | (simp; done) | (simp [*]; done)), H', ⟨by first | omega | exact Nat.le_refl _⟩, ⟨by (with_reducible repeat (first | refine dn_ ?_ _ | refine dd_ ?_ | refine da_ ?_ _)); exact BK168.out⟩, ⟨by repeat (first | (with_reducible first | exact HB.out | apply ba_ | apply bn_ | apply b1_ | refine below_set ?_ GE168.out) | exact HB.out)⟩⟩
   ·rw [if_neg c12] at H
    have c12b0 : (a0_2.toList == ([] : List UInt8)) = false := beq_eq_false_iff_ne.mpr c12
    have c12b1 : (a0_2.toList != ([] : List UInt8)) = true := bne_iff_ne.mpr c12
    have H' := Aside0.mk H
    clear H
    have hcz18_0 : w3.cell? ⟨gb168, 0, none⟩ = some (.int .i64 a0_0) := (bc_ BK168.out 0).trans rfl
    have hcz18_1 : w3.cell? ⟨gb168, 1, none⟩ = some (.int .i64 a0_1) := (bc_ BK168.out 1).trans rfl
    have hcz18_2 : w3.cell? ⟨gb168, 2, none⟩ = some (.string a0_2) := (bc_ BK168.out 2).trans rfl
    have hcz18_3 : w3.cell? ⟨gb168, 3, none⟩ = some (.slice A0_3 l0_3.length c0_3) := (bc_ BK168.out 3).trans rfl
    have hcz18_4 : w3.cell? ⟨gb168, 4, none⟩ = some (.string a0_4) := (bc_ BK168.out 4).trans rfl
    have hcz18_5 : w3.cell? ⟨gb168, 5, none⟩ = some (.int .i64 a0_5) := (bc_ BK168.out 5).trans rfl
    have hcz18_6 : w3.cell? ⟨gb168, 6, none⟩ = some (.slice A0_6 l0_6.length c0_6) := (bc_ BK168.out 6).trans rfl
    go_wp2
    repeat (go_quiet (fail); try go_wp2)
    go_meet
    case rel => exact ⟨_, (true), (by first | rfl | (simp; done) | (simp [*]; done)), H', ⟨by first | omega | exact Nat.le_refl _⟩, ⟨by (with_reducible repeat (first | refine dn_ ?_ _ | refine dd_ ?_ | refine da_ ?_ _)); exact BK168.out⟩, ⟨by repeat (first | (with_reducible first | exact HB.out | apply ba_ | apply bn_ | apply b1_ | refine below_set ?_ GE168.out) | exact HB.out)⟩⟩
 case rest =>
  clear HC2
  try clear c5
  try clear c5b0
  try clear c5b1
  try clear c6
  try clear c6b0
  try clear c6b1
  try clear c8
  try clear c8b0
  try clear c8b1
  try clear c12
  try clear c12b0
  try clear c12b1
  try clear c13
  try clear c13b0
  try clear c13b1
  try clear c15
  try clear c15b0
  try clear c15b1
  try clear hcz10_0
  try clear hcz10_1
  try clear hcz10_2
  try clear hcz10_3
  try clear hcz10_4
  try clear hcz10_5
  try clear hcz10_6
  try clear hcz11_0
  try clear hcz11_1
  try clear hcz11_2
  try clear hcz11_3
  try clear hcz11_4
  try clear hcz11_5
  try clear hcz11_6
  try clear hcz14_0
  try clear hcz14_1
  try clear hcz14_2
  try clear hcz14_3
  try clear hcz14_4
  try clear hcz14_5
  try clear hcz14_6
  try clear hcz16_0
  try clear hcz16_1
  try clear hcz16_2
  try clear hcz16_3
  try clear hcz16_4
  try clear hcz16_5
  try clear hcz16_6
  try clear hcz17_0
  try clear hcz17_1
  try clear hcz17_2
  try clear hcz17_3
  try clear hcz17_4
  try clear hcz17_5
  try clear hcz17_6
  try clear hcz18_0
  try clear hcz18_1
  try clear hcz18_2
  try clear hcz18_3
  try clear hcz18_4
  try clear hcz18_5
  try clear hcz18_6
  try clear hcz4_0
  try clear hcz4_1
  try clear hcz4_2
  try clear hcz4_3
  try clear hcz4_4
  try clear hcz4_5
  try clear hcz4_6
  try clear hcz7_0
  try clear hcz7_1
  try clear hcz7_2
  try clear hcz7_3
  try clear hcz7_4
  try clear hcz7_5
  try clear hcz7_6
  obtain ⟨kq, x44_1, rfl, HA, HJ1, BK168, HB⟩ := hcut
  cases kq with
  | zero => exact absurd HA.out (by simp [spec_l6Plain.j0])
  | succ kj1 =>
   have H := HA.out
   clear HA
   simp only [spec_l6Plain.j0] at H
   by_cases c19 : x44_1 = true
   ·subst c19
    have H1 : (some false) = some r := by rw [if_pos rfl] at H; exact H
    clear H
    have H := H1
    clear H1
    obtain rfl := Option.some.inj H
    go_wp2
    repeat (go_quiet (fail); try go_wp2)
    go_ret
    exact ⟨by first | rfl | (simp [errW_none, errW_some] <;> rfl) | (simp [*, errW_none, errW_some] <;> rfl), by repeat (first | (with_reducible first | exact HB.out | apply ba_ | apply bn_ | apply b1_ | refine below_set ?_ GE168.out) | exact HB.out)⟩
   ·replace c19 := Bool.eq_false_iff.mpr c19
    subst c19
    have H1 : (spec_l6Plain.l0 kj1 (a0_0 == 2) 0 a0_0 a0_1 a0_2 l0_3 a0_4 a0_5 l0_6) = some r := by rw [if_neg (show ¬ (false = true) by decide)] at H; exact H
    clear H
    have H := H1
    clear H1
    have H' := Aside0.mk H
    clear H
    go_wp2
    repeat (go_quiet (fail); try go_wp2)
    go_loopg [4] kj1 (fun kq v4 w' => ∃ (x4_2 : Int), v4 = .int .i64 x4_2 ∧ Aside0 (spec_l6Plain.l0 kq (a0_0 == 2) x4_2 a0_0 a0_1 a0_2 l0_3 a0_4 a0_5 l0_6 = some r) ∧ Aside0 (kq ≤ kj1) ∧ Aside0 (w'.heap[gb168]? = some (.cells #[.int .i64 a0_0, .int .i64 a0_1, .string a0_2, (.slice A0_3 l0_3.length c0_3), .string a0_4, .int .i64 a0_5, (.slice A0_6 l0_6.length c0_6)] 44 (0, 0))) ∧ Aside0 (Below w.heap.size w w'))
    case atStart => exact ⟨(0), (by first | rfl | (simp; done) | (simp [*]; done)), H', ⟨Nat.le_refl _⟩, ⟨by (with_reducible repeat (first | refine dn_ ?_ _ | refine dd_ ?_ | refine da_ ?_ _)); exact BK168.out⟩, ⟨by repeat (first | (with_reducible first | exact HB.out | apply ba_ | apply bn_ | apply b1_ | refine below_set ?_ GE168.out) | exact HB.out)⟩⟩
    case round =>
     clear H'
     try clear c5
     try clear c5b0
     try clear c5b1
     try clear c6
     try clear c6b0
     try clear c6b1
     try clear c8
     try clear c8b0
     try clear c8b1
     try clear c12
     try clear c12b0
     try clear c12b1
     try clear c13
     try clear c13b0
     try clear c13b1
     try clear c15
     try clear c15b0
     try clear c15b1
     try clear c19
     try clear hcz10_0
     try clear hcz10_1
     try clear hcz10_2
     try clear hcz10_3
     try clear hcz10_4
     try clear hcz10_5
     try clear hcz10_6
     try clear hcz11_0
     try clear hcz11_1
     try clear hcz11_2
     try clear hcz11_3
     try clear hcz11_4
     try clear hcz11_5
     try clear hcz11_6
     try clear hcz14_0
     try clear hcz14_1
     try clear hcz14_2
     try clear hcz14_3
     try clear hcz14_4
     try clear hcz14_5
     try clear hcz14_6
     try clear hcz16_0
     try clear hcz16_1
     try clear hcz16_2
     try clear hcz16_3
     try clear hcz16_4
     try clear hcz16_5
     try clear hcz16_6
     try clear hcz17_0
     try clear hcz17_1
     try clear hcz17_2
     try clear hcz17_3
     try clear hcz17_4
     try clear hcz17_5
     try clear hcz17_6
     try clear hcz18_0
     try clear hcz18_1
     try clear hcz18_2
     try clear hcz18_3
     try clear hcz18_4
     try clear hcz18_5
     try clear hcz18_6
     try clear hcz4_0
     try clear hcz4_1
     try clear hcz4_2
     try clear hcz4_3
     try clear hcz4_4
     try clear hcz4_5
     try clear hcz4_6
     try clear hcz7_0
     try clear hcz7_1
     try clear hcz7_2
     try clear hcz7_3
     try clear hcz7_4
     try clear hcz7_5
     try clear hcz7_6
     obtain ⟨x4_2, rfl, HA, HK2, BK168, HB⟩ := hrel
     cases gk with
     | zero => exact absurd HA.out (by simp [spec_l6Plain.l0])
     | succ k2 =>
      have H := HA.out
      clear HA
      simp only [spec_l6Plain.l0] at H
      by_cases c20 : x4_2 < (l0_3.length : Int)
      ·rw [if_pos c20] at H
       have c20b0 : decide (x4_2 < (l0_3.length : Int)) = true := decide_eq_true c20
       clear c20
       by_cases c21 : 0 ≤ x4_2
       ·rw [if_pos c21] at H
        have c21b0 := eq_true c21
        have c21b1 : decide (0 ≤ x4_2) = true := decide_eq_true c21
        clear c21
        by_cases c22 : x4_2 ≤ (l0_3.length : Int)
        ·rw [if_pos c22] at H
         have c22b0 := eq_true c22
         have c22b1 : decide (x4_2 ≤ (l0_3.length : Int)) = true := decide_eq_true c22
         clear c22
         obtain ⟨y170, hy170⟩ : ∃ y_ : List (S91), y_ = (l0_3.take (x4_2 : Int).toNat) := ⟨_, rfl⟩
         replace H : ((spec_l4Has.f k2 y170 ((rd_T91 l0_3 x4_2).f0)).bind fun t175 => (if t175 = true then (some false) else (spec_l6Plain.l0 k2 (a0_0 == 2) (wrap64 (x4_2 + 1)) a0_0 a0_1 a0_2 l0_3 a0_4 a0_5 l0_6))) = some r := by first | (rw [hy170]; with_reducible exact H) | (have H2_ := (Option.bind_some _ _).symm.trans H; rw [hy170]; with_reducible exact H2_) | (have H2_ := (Option.bind_some _ _).symm.trans H; with_reducible exact H2_) | with_reducible exact H | (rw [hy170]; exact H) | exact H
         have Ny170 := Aside0.mk hy170
         clear hy170
         replace H := Option.bind_eq_some_iff.mp H
         obtain ⟨t175, A230, H⟩ := H
         replace H : (if t175 = true then (some false) else (spec_l6Plain.l0 k2 (a0_0 == 2) (wrap64 (x4_2 + 1)) a0_0 a0_1 a0_2 l0_3 a0_4 a0_5 l0_6)) = some r := H
         have A23 := Aside0.mk A230
         clear A230
         by_cases c24 : t175 = true
         ·subst c24
          have H1 : (some false) = some r := by rw [if_pos rfl] at H; exact H
          clear H
          have H := H1
          clear H1
          obtain rfl := Option.some.inj H
          have hcz25_0 : wr.cell? ⟨gb168, 0, none⟩ = some (.int .i64 a0_0) := (bc_ BK168.out 0).trans rfl
          have hcz25_1 : wr.cell? ⟨gb168, 1, none⟩ = some (.int .i64 a0_1) := (bc_ BK168.out 1).trans rfl
          have hcz25_2 : wr.cell? ⟨gb168, 2, none⟩ = some (.string a0_2) := (bc_ BK168.out 2).trans rfl
          have hcz25_3 : wr.cell? ⟨gb168, 3, none⟩ = some (.slice A0_3 l0_3.length c0_3) := (bc_ BK168.out 3).trans rfl
          have hcz25_4 : wr.cell? ⟨gb168, 4, none⟩ = some (.string a0_4) := (bc_ BK168.out 4).trans rfl
          have hcz25_5 : wr.cell? ⟨gb168, 5, none⟩ = some (.int .i64 a0_5) := (bc_ BK168.out 5).trans rfl
          have hcz25_6 : wr.cell? ⟨gb168, 6, none⟩ = some (.slice A0_6 l0_6.length c0_6) := (bc_ BK168.out 6).trans rfl
          have q26 : (x4_2 : Int) ≤ ((l0_3.length : Int) : Int) := dq_ (by assumption)
          obtain ⟨i026, hi026, _, hsz26, _⟩ := info_parts info91
          have hroom26 : l0_3.length ≤ c0_3 := HC0_3.out
          have hC26 : Kd.C k91 _ A0_3 l0_3.length l0_3 := HR0_3.out
          have hcut26 := cut_to (P := Try.prog) 42 91 .i64 Try.underlying42 hi026 A0_3 l0_3.length c0_3 x4_2 (dq_ (by assumption)) q26 hroom26
          have hr26 := Kd.C_take (m := (x4_2 : Int).toNat) hC26 (by omega)
          have hy26 : y170.length = (x4_2 : Int).toNat := (by rw [Ny170.out, List.length_take]; omega)
          rw [← Ny170.out] at hr26
          rw [← hy26] at hcut26
          have HR173 := Aside0.mk hr26
          have HC173 := Aside0.mk (show y170.length ≤ c0_3 from by omega)
          clear hr26 hC26 hroom26 hi026 hsz26
          have KY26 := Aside0.mk hy26
          clear hy26
          replace q26 := eq_true q26
          have p174 : 0 ≤ (x4_2 : Int) := dq_ (by assumption)
          have q174 : x4_2 < (l0_3.length : Int) := dq_ (by assumption)
          obtain ⟨ad174, e174, hx174_0, hx174_1⟩ := at_T91 HR0_3.out x4_2 p174 q174
          cases e174
          replace hx174_0 := pw_cell_below HB.out hx174_0
          replace hx174_1 := pw_cell_below HB.out hx174_1
          replace p174 := eq_true p174
          replace q174 := eq_true q174
          go_wp2_with (first | (go_at_call 84; (with_reducible refine (spec_l4Has.calls k2 _ _ y170 ((rd_T91 l0_3 x4_2).f0) true _ ?side1 ?side2 A23.out).mono ?_); (case side1 => repeat (first | exact (Kd.C_below HR173.out HB.out) | (with_reducible refine ca_ ?_ _) | (with_reducible refine cn_ ?_ _) | (with_reducible refine cd_ ?_))); (case side2 => exact HC173.out); rintro e w' ⟨rfl, ⟨nd, rfl⟩⟩; (try first | exact ⟨rfl, _, World.drewN_drewN _ _ _⟩ | exact ⟨rfl, _, Eq.trans (World.drewN_drewN _ _ _) (congrArg (World.drewN _) (Nat.add_assoc _ _ _))⟩)))
          repeat (go_quiet (first | (go_at_call 84; (with_reducible refine (spec_l4Has.calls k2 _ _ y170 ((rd_T91 l0_3 x4_2).f0) true _ ?side1 ?side2 A23.out).mono ?_); (case side1 => repeat (first | exact (Kd.C_below HR173.out HB.out) | (with_reducible refine ca_ ?_ _) | (with_reducible refine cn_ ?_ _) | (with_reducible refine cd_ ?_))); (case side2 => exact HC173.out); rintro e w' ⟨rfl, ⟨nd, rfl⟩⟩; (try first | exact ⟨rfl, _, World.drewN_drewN _ _ _⟩ | exact ⟨rfl, _, Eq.trans (World.drewN_drewN _ _ _) (congrArg (World.drewN _) (Nat.add_assoc _ _ _))⟩))); try go_wp2_with (first | (go_at_call 84; (with_reducible refine (spec_l4Has.calls k2 _ _ y170 ((rd_T91 l0_3 x4_2).f0) true _ ?side1 ?side2 A23.out).mono ?_); (case side1 => repeat (first | exact (Kd.C_below HR173.out HB.out) | (with_reducible refine ca_ ?_ _) | (with_reducible refine cn_ ?_ _) | (with_reducible refine cd_ ?_))); (case side2 => exact HC173.out); rintro e w' ⟨rfl, ⟨nd, rfl⟩⟩; (try first | exact ⟨rfl, _, World.drewN_drewN _ _ _⟩ | exact ⟨rfl, _, Eq.trans (World.drewN_drewN _ _ _) (congrArg (World.drewN _) (Nat.add_assoc _ _ _))⟩))))
          go_ret
          exact ⟨by first | rfl | (simp [errW_none, errW_some] <;> rfl) | (simp [*, errW_none, errW_some] <;> rfl), by repeat (first | (with_reducible first | exact HB.out | apply ba_ | apply bn_ | apply b1_ | refine below_set ?_ GE168.out) | exact HB.out)⟩
         ·replace c24 := Bool.eq_false_iff.mpr c24
          subst c24
          have H1 : (spec_l6Plain.l0 k2 (a0_0 == 2) (wrap64 (x4_2 + 1)) a0_0 a0_1 a0_2 l0_3 a0_4 a0_5 l0_6) = some r := by rw [if_neg (show ¬ (false = true) by decide)] at H; exact H
          clear H
          have H := H1
          clear H1
          have H' := Aside0.mk H
          clear H
          have hcz27_0 : wr.cell? ⟨gb168, 0, none⟩ = some (.int .i64 a0_0) := (bc_ BK168.out 0).trans rfl
          have hcz27_1 : wr.cell? ⟨gb168, 1, none⟩ = some (.int .i64 a0_1) := (bc_ BK168.out 1).trans rfl
          have hcz27_2 : wr.cell? ⟨gb168, 2, none⟩ = some (.string a0_2) := (bc_ BK168.out 2).trans rfl
          have hcz27_3 : wr.cell? ⟨gb168, 3, none⟩ = some (.slice A0_3 l0_3.length c0_3) := (bc_ BK168.out 3).trans rfl
          have hcz27_4 : wr.cell? ⟨gb168, 4, none⟩ = some (.string a0_4) := (bc_ BK168.out 4).trans rfl
          have hcz27_5 : wr.cell? ⟨gb168, 5, none⟩ = some (.int .i64 a0_5) := (bc_ BK168.out 5).trans rfl
          have hcz27_6 : wr.cell? ⟨gb168, 6, none⟩ = some (.slice A0_6 l0_6.length c0_6) := (bc_ BK168.out 6).trans rfl
          have q28 : (x4_2 : Int) ≤ ((l0_3.length : Int) : Int) := dq_ (by assumption)
          obtain ⟨i028, hi028, _, hsz28, _⟩ := info_parts info91
          have hroom28 : l0_3.length ≤ c0_3 := HC0_3.out
          have hC28 : Kd.C k91 _ A0_3 l0_3.length l0_3 := HR0_3.out
          have hcut28 := cut_to (P := Try.prog) 42 91 .i64 Try.underlying42 hi028 A0_3 l0_3.length c0_3 x4_2 (dq_ (by assumption)) q28 hroom28
          have hr28 := Kd.C_take (m := (x4_2 : Int).toNat) hC28 (by omega)
          have hy28 : y170.length = (x4_2 : Int).toNat := (by rw [Ny170.out, List.length_take]; omega)
          rw [← Ny170.out] at hr28
          rw [← hy28] at hcut28
          have HR173 := Aside0.mk hr28
          have HC173 := Aside0.mk (show y170.length ≤ c0_3 from by omega)
          clear hr28 hC28 hroom28 hi028 hsz28
          have KY28 := Aside0.mk hy28
          clear hy28
          replace q28 := eq_true q28
          have p174 : 0 ≤ (x4_2 : Int) := dq_ (by assumption)
          have q174 : x4_2 < (l0_3.length : Int) := dq_ (by assumption)
          obtain ⟨ad174, e174, hx174_0, hx174_1⟩ := at_T91 HR0_3.out x4_2 p174 q174
          cases e174
          replace hx174_0 := pw_cell_below HB.out hx174_0
          replace hx174_1 := pw_cell_below HB.out hx174_1
          replace p174 := eq_true p174
          replace q174 := eq_true q174
          go_wp2_with (first | (go_at_call 84; (with_reducible refine (spec_l4Has.calls k2 _ _ y170 ((rd_T91 l0_3 x4_2).f0) false _ ?side1 ?side2 A23.out).mono ?_); (case side1 => repeat (first | exact (Kd.C_below HR173.out HB.out) | (with_reducible refine ca_ ?_ _) | (with_reducible refine cn_ ?_ _) | (with_reducible refine cd_ ?_))); (case side2 => exact HC173.out); rintro e w' ⟨rfl, ⟨nd, rfl⟩⟩; (try first | exact ⟨rfl, _, World.drewN_drewN _ _ _⟩ | exact ⟨rfl, _, Eq.trans (World.drewN_drewN _ _ _) (congrArg (World.drewN _) (Nat.add_assoc _ _ _))⟩)))
          repeat (go_quiet (first | (go_at_call 84; (with_reducible refine (spec_l4Has.calls k2 _ _ y170 ((rd_T91 l0_3 x4_2).f0) false _ ?side1 ?side2 A23.out).mono ?_); (case side1 => repeat (first | exact (Kd.C_below HR173.out HB.out) | (with_reducible refine ca_ ?_ _) | (with_reducible refine cn_ ?_ _) | (with_reducible refine cd_ ?_))); (case side2 => exact HC173.out); rintro e w' ⟨rfl, ⟨nd, rfl⟩⟩; (try first | exact ⟨rfl, _, World.drewN_drewN _ _ _⟩ | exact ⟨rfl, _, Eq.trans (World.drewN_drewN _ _ _) (congrArg (World.drewN _) (Nat.add_assoc _ _ _))⟩))); try go_wp2_with (first | (go_at_call 84; (with_reducible refine (spec_l4Has.calls k2 _ _ y170 ((rd_T91 l0_3 x4_2).f0) false _ ?side1 ?side2 A23.out).mono ?_); (case side1 => repeat (first | exact (Kd.C_below HR173.out HB.out) | (with_reducible refine ca_ ?_ _) | (with_reducible refine cn_ ?_ _) | (with_reducible refine cd_ ?_))); (case side2 => exact HC173.out); rintro e w' ⟨rfl, ⟨nd, rfl⟩⟩; (try first | exact ⟨rfl, _, World.drewN_drewN _ _ _⟩ | exact ⟨rfl, _, Eq.trans (World.drewN_drewN _ _ _) (congrArg (World.drewN _) (Nat.add_assoc _ _ _))⟩))))
          go_roundg k2
          case measure => have := HJ1.out; have := HK2.out; omega
          case rel => exact ⟨(wrap64 (x4_2 + 1)), (by first | rfl | (simp; done) | (simp [*]; done)), H', ⟨by have := HJ1.out; have := HK2.out; omega⟩, ⟨by (with_reducible repeat (first | refine dn_ ?_ _ | refine dd_ ?_ | refine da_ ?_ _)); exact BK168.out⟩, ⟨by repeat (first | (with_reducible first | exact HB.out | apply ba_ | apply bn_ | apply b1_ | refine below_set ?_ GE168.out) | exact HB.out)⟩⟩
        ·rw [if_neg c22] at H
         exact absurd H (by simp)
       ·rw [if_neg c21] at H
        exact absurd H (by simp)
      ·rw [if_neg c20] at H
       have c20b0 : decide (x4_2 < (l0_3.length : Int)) = false := decide_eq_false c20
       clear c20
       by_cases c29 : a0_0 = 1
       ·rw [if_pos c29] at H
        have c29b0 : (a0_0 == 1) = true := beq_iff_eq.mpr c29
        have c29b1 : (a0_0 != 1) = false := bne_eq_false_iff_eq.mpr c29
        clear c29
        obtain rfl := Option.some.inj H
        have hcz30_0 : wr.cell? ⟨gb168, 0, none⟩ = some (.int .i64 a0_0) := (bc_ BK168.out 0).trans rfl
        have hcz30_1 : wr.cell? ⟨gb168, 1, none⟩ = some (.int .i64 a0_1) := (bc_ BK168.out 1).trans rfl
        have hcz30_2 : wr.cell? ⟨gb168, 2, none⟩ = some (.string a0_2) := (bc_ BK168.out 2).trans rfl
        have hcz30_3 : wr.cell? ⟨gb168, 3, none⟩ = some (.slice A0_3 l0_3.length c0_3) := (bc_ BK168.out 3).trans rfl
        have hcz30_4 : wr.cell? ⟨gb168, 4, none⟩ = some (.string a0_4) := (bc_ BK168.out 4).trans rfl
        have hcz30_5 : wr.cell? ⟨gb168, 5, none⟩ = some (.int .i64 a0_5) := (bc_ BK168.out 5).trans rfl
        have hcz30_6 : wr.cell? ⟨gb168, 6, none⟩ = some (.slice A0_6 l0_6.length c0_6) := (bc_ BK168.out 6).trans rfl
        go_wp2
        repeat (go_quiet (fail); try go_wp2)
        go_ret
        exact ⟨by first | rfl | (simp [errW_none, errW_some] <;> rfl) | (simp [*, errW_none, errW_some] <;> rfl), by repeat (first | (with_reducible first | exact HB.out | apply ba_ | apply bn_ | apply b1_ | refine below_set ?_ GE168.out) | exact HB.out)⟩
       ·rw [if_neg c29] at H
        have c29b0 : (a0_0 == 1) = false := beq_eq_false_iff_ne.mpr c29
        have c29b1 : (a0_0 != 1) = true := bne_iff_ne.mpr c29
        by_cases c31 : a0_0 = 3
        ·rw [if_pos c31] at H
         have c31b0 : (a0_0 == 3) = true := beq_iff_eq.mpr c31
         have c31b1 : (a0_0 != 3) = false := bne_eq_false_iff_eq.mpr c31
         clear c31
         obtain rfl := Option.some.inj H
         have hcz32_0 : wr.cell? ⟨gb168, 0, none⟩ = some (.int .i64 a0_0) := (bc_ BK168.out 0).trans rfl
         have hcz32_1 : wr.cell? ⟨gb168, 1, none⟩ = some (.int .i64 a0_1) := (bc_ BK168.out 1).trans rfl
         have hcz32_2 : wr.cell? ⟨gb168, 2, none⟩ = some (.string a0_2) := (bc_ BK168.out 2).trans rfl
         have hcz32_3 : wr.cell? ⟨gb168, 3, none⟩ = some (.slice A0_3 l0_3.length c0_3) := (bc_ BK168.out 3).trans rfl
         have hcz32_4 : wr.cell? ⟨gb168, 4, none⟩ = some (.string a0_4) := (bc_ BK168.out 4).trans rfl
         have hcz32_5 : wr.cell? ⟨gb168, 5, none⟩ = some (.int .i64 a0_5) := (bc_ BK168.out 5).trans rfl
         have hcz32_6 : wr.cell? ⟨gb168, 6, none⟩ = some (.slice A0_6 l0_6.length c0_6) := (bc_ BK168.out 6).trans rfl
         go_wp2
         repeat (go_quiet (fail); try go_wp2)
         go_ret
         exact ⟨by first | rfl | (simp [errW_none, errW_some] <;> rfl) | (simp [*, errW_none, errW_some] <;> rfl), by repeat (first | (with_reducible first | exact HB.out | apply ba_ | apply bn_ | apply b1_ | refine below_set ?_ GE168.out) | exact HB.out)⟩
        ·rw [if_neg c31] at H
         have c31b0 : (a0_0 == 3) = false := beq_eq_false_iff_ne.mpr c31
         have c31b1 : (a0_0 != 3) = true := bne_iff_ne.mpr c31
         by_cases c33 : a0_0 = 4
         ·rw [if_pos c33] at H
          have c33b0 : (a0_0 == 4) = true := beq_iff_eq.mpr c33
          have c33b1 : (a0_0 != 4) = false := bne_eq_false_iff_eq.mpr c33
          clear c33
          obtain rfl := Option.some.inj H
          have hcz34_0 : wr.cell? ⟨gb168, 0, none⟩ = some (.int .i64 a0_0) := (bc_ BK168.out 0).trans rfl
          have hcz34_1 : wr.cell? ⟨gb168, 1, none⟩ = some (.int .i64 a0_1) := (bc_ BK168.out 1).trans rfl
          have hcz34_2 : wr.cell? ⟨gb168, 2, none⟩ = some (.string a0_2) := (bc_ BK168.out 2).trans rfl
          have hcz34_3 : wr.cell? ⟨gb168, 3, none⟩ = some (.slice A0_3 l0_3.length c0_3) := (bc_ BK168.out 3).trans rfl
          have hcz34_4 : wr.cell? ⟨gb168, 4, none⟩ = some (.string a0_4) := (bc_ BK168.out 4).trans rfl
          have hcz34_5 : wr.cell? ⟨gb168, 5, none⟩ = some (.int .i64 a0_5) := (bc_ BK168.out 5).trans rfl
          have hcz34_6 : wr.cell? ⟨gb168, 6, none⟩ = some (.slice A0_6 l0_6.length c0_6) := (bc_ BK168.out 6).trans rfl
          go_wp2
          repeat (go_quiet (fail); try go_wp2)
          go_ret
          exact ⟨by first | rfl | (simp [errW_none, errW_some] <;> rfl) | (simp [*, errW_none, errW_some] <;> rfl), by repeat (first | (with_reducible first | exact HB.out | apply ba_ | apply bn_ | apply b1_ | refine below_set ?_ GE168.out) | exact HB.out)⟩
         ·rw [if_neg c33] at H
          have c33b0 : (a0_0 == 4) = false := beq_eq_false_iff_ne.mpr c33
          have c33b1 : (a0_0 != 4) = true := bne_iff_ne.mpr c33
          by_cases c35 : a0_0 = 5
          ·rw [if_pos c35] at H
           have c35b0 : (a0_0 == 5) = true := beq_iff_eq.mpr c35
           have c35b1 : (a0_0 != 5) = false := bne_eq_false_iff_eq.mpr c35
           clear c35
           obtain rfl := Option.some.inj H
           have hcz36_0 : wr.cell? ⟨gb168, 0, none⟩ = some (.int .i64 a0_0) := (bc_ BK168.out 0).trans rfl
           have hcz36_1 : wr.cell? ⟨gb168, 1, none⟩ = some (.int .i64 a0_1) := (bc_ BK168.out 1).trans rfl
           have hcz36_2 : wr.cell? ⟨gb168, 2, none⟩ = some (.string a0_2) := (bc_ BK168.out 2).trans rfl
           have hcz36_3 : wr.cell? ⟨gb168, 3, none⟩ = some (.slice A0_3 l0_3.length c0_3) := (bc_ BK168.out 3).trans rfl
           have hcz36_4 : wr.cell? ⟨gb168, 4, none⟩ = some (.string a0_4) := (bc_ BK168.out 4).trans rfl
           have hcz36_5 : wr.cell? ⟨gb168, 5, none⟩ = some (.int .i64 a0_5) := (bc_ BK168.out 5).trans rfl
           have hcz36_6 : wr.cell? ⟨gb168, 6, none⟩ = some (.slice A0_6 l0_6.length c0_6) := (bc_ BK168.out 6).trans rfl
           go_wp2
           repeat (go_quiet (fail); try go_wp2)
           go_ret
           exact ⟨by first | rfl | (simp [errW_none, errW_some] <;> rfl) | (simp [*, errW_none, errW_some] <;> rfl), by repeat (first | (with_reducible first | exact HB.out | apply ba_ | apply bn_ | apply b1_ | refine below_set ?_ GE168.out) | exact HB.out)⟩
          ·rw [if_neg c35] at H
           have c35b0 : (a0_0 == 5) = false := beq_eq_false_iff_ne.mpr c35
           have c35b1 : (a0_0 != 5) = true := bne_iff_ne.mpr c35
           obtain rfl := Option.some.inj H
           have hcz37_0 : wr.cell? ⟨gb168, 0, none⟩ = some (.int .i64 a0_0) := (bc_ BK168.out 0).trans rfl
           have hcz37_1 : wr.cell? ⟨gb168, 1, none⟩ = some (.int .i64 a0_1) := (bc_ BK168.out 1).trans rfl
           have hcz37_2 : wr.cell? ⟨gb168, 2, none⟩ = some (.string a0_2) := (bc_ BK168.out 2).trans rfl
           have hcz37_3 : wr.cell? ⟨gb168, 3, none⟩ = some (.slice A0_3 l0_3.length c0_3) := (bc_ BK168.out 3).trans rfl
           have hcz37_4 : wr.cell? ⟨gb168, 4, none⟩ = some (.string a0_4) := (bc_ BK168.out 4).trans rfl
           have hcz37_5 : wr.cell? ⟨gb168, 5, none⟩ = some (.int .i64 a0_5) := (bc_ BK168.out 5).trans rfl
           have hcz37_6 : wr.cell? ⟨gb168, 6, none⟩ = some (.slice A0_6 l0_6.length c0_6) := (bc_ BK168.out 6).trans rfl
           go_wp2
           repeat (go_quiet (fail); try go_wp2)
           go_ret
           exact ⟨by first | rfl | (simp [errW_none, errW_some] <;> rfl) | (simp [*, errW_none, errW_some] <;> rfl), by repeat (first | (with_reducible first | exact HB.out | apply ba_ | apply bn_ | apply b1_ | refine below_set ?_ GE168.out) | exact HB.out)⟩
def spec_l1Bit.f (a0 : Bool) : Option (Int) := if a0 = true then (some 1) else (some 0)
set_option maxHeartbeats 8000000 in
set_option maxRecDepth 100000 in
theorem spec_l1Bit.calls (a0 : Bool) (r : Int) (w : World) (h : spec_l1Bit.f a0 = some r) :
  Calls Try.prog 72 #[.bool a0] w fun e w' => e = .returned (.int .i64 r) ∧ Drawn0 w w' := by
 have H : (if a0 = true then (some 1) else (some 0)) = some r := h
 clear h
 by_cases c2 : a0 = true
 ·subst c2
  have H1 : (some 1) = some r := by rw [if_pos rfl] at H; exact H
  clear H
  have H := H1
  clear H1
  obtain rfl := Option.some.inj H
  go_enter Try.func72, Try.ntmps72
  go_wp2
  go_ret
  exact ⟨by first | rfl | (simp; done) | (simp [*]; done), by repeat (first | exact Drawn0.refl _ | apply Drawn0.step)⟩
 ·replace c2 := Bool.eq_false_iff.mpr c2
  subst c2
  have H1 : (some 0) = some r := by rw [if_neg (show ¬ (false = true) by decide)] at H; exact H
  clear H
  have H := H1
  clear H1
  obtain rfl := Option.some.inj H
  go_enter Try.func72, Try.ntmps72
  go_wp2
  go_ret
  exact ⟨by first | rfl | (simp; done) | (simp [*]; done), by repeat (first | exact Drawn0.refl _ | apply Drawn0.step)⟩
end Go.Proofs.Ytbgedpicfllclaa.PFnExactAdd
