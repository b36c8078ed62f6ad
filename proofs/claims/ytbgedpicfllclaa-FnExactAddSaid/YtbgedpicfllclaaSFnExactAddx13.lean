-- Written by this session's program wip/slim.py out of the print's texts. Lean checks it.
import Derived.Test.YtbgedpicfllclaaSFnExactAddx0
import Derived.Test.YtbgedpicfllclaaSFnExactAddx11
namespace Go.Proofs.Ytbgedpicfllclaa.PFnExactAdd
open Go.RowKit Go.Proofs.YtbgedpicfllclaaW.PrintWords Go.Proofs.YtbgedpicfllclaaW.PrintLast Go.Proofs.YtbgedpicfllclaaW.PrintMore
def q13_0 : Array Bool := bz 8 0
def q13_1 : Array Bool := bz 8 1
def q13_2 : Array Bool := bz 8 3
def q13_3 : Array Bool := bz 8 7
def q13_4 : Array Bool := bz 8 15
def q13_5 : Array Bool := bz 8 47
def q13_6 : Array Bool := bz 8 63
def q13_7 : Array Bool := bz 8 127
def q13_8 : Array Bool := bz 8 255
attribute [local go_sem] max2_int min2_int max_two min_two max_three min_three max_four min_four
set_option linter.unusedVariables false
set_option linter.unusedSimpArgs false
def laws_heldAttrS.l0 : Nat → List (S91) → Int → Int → Option (Int)
 | 0, _, _, _ => none
 | k + 1, x0, x1, x5 => if x5 < (x0.length : Int) then (if 0 ≤ x5 then ((laws_markText.f k x1).bind fun t312 => (if ((rd_T91 x0 x5).f0).toList = t312.toList then ((laws_markText.f k (wrap64 (x1 + 1))).bind fun t314 => (if ((rd_T91 x0 x5).f1).toList = t314.toList then (laws_heldAttrS.l0 k x0 (wrap64 ((wrap64 (x1 + 1)) + 1)) (wrap64 (x5 + 1))) else (some (-1)))) else (some (-1)))) else (none)) else (some x1)
def laws_heldAttrS.f (k : Nat) (l0 : List (S91)) (a1 : Int) : Option (Int) := laws_heldAttrS.l0 k l0 a1 0
theorem laws_heldAttrS.mono_l : ∀ k, (∀ y0 y1 y2, LeO (laws_heldAttrS.l0 k y0 y1 y2) (laws_heldAttrS.l0 (k + 1) y0 y1 y2))
 | 0 => fun _ _ _ r h => by simp [laws_heldAttrS.l0] at h
 | k + 1 => by
  have ih0 := laws_heldAttrS.mono_l k
  ·intro y0 y1 y2
   unfold laws_heldAttrS.l0
   repeat' first
   | (with_reducible exact ih0 _ _ _)
   | (with_reducible exact laws_markText.mono _ _)
   | (with_reducible exact LeO.refl _)
   | (with_reducible exact LeO.none _)
   | (with_reducible refine LeO.ite ?_ ?_)
   | (with_reducible refine LeO.bind ?_ (fun _ => ?_))
theorem laws_heldAttrS.mono : ∀ a0 a1 k, LeO (laws_heldAttrS.f k a0 a1) (laws_heldAttrS.f (k + 1) a0 a1) := by
 intro a0 a1 k
 have ih0 := laws_heldAttrS.mono_l k
 unfold laws_heldAttrS.f
 repeat' first
   | (with_reducible exact ih0 _ _ _)
   | (with_reducible exact laws_markText.mono _ _)
   | (with_reducible exact LeO.refl _)
   | (with_reducible exact LeO.none _)
   | (with_reducible refine LeO.ite ?_ ?_)
   | (with_reducible refine LeO.bind ?_ (fun _ => ?_))
def laws_heldAttrS.T4 : Bool × List (List Nat × List Nat) := (true, [([], []), ([], []), ([0, 1], [0, 1]), ([2], [2]), ([3], [3]), ([], []), ([5], [5]), ([4, 6], [4, 6])])
def laws_heldAttrS.B4 : List Nat := [0, 0, 3, 7, 15, 0, 32, 127]
theorem laws_heldAttrS.tab4 : rtab .any (opsOf Try.f61 4) = laws_heldAttrS.T4 := by kernel_rfl
theorem laws_heldAttrS.bits4 : waitsOk laws_heldAttrS.T4.2 laws_heldAttrS.B4 = true := by kernel_rfl
def laws_heldAttrS.T7 : Bool × List (List Nat × List Nat) := (true, [([], []), ([], []), ([0, 1], [0, 1]), ([2], [2]), ([3], [3]), ([], []), ([5], [5]), ([4, 6], [4, 6])])
def laws_heldAttrS.B7 : List Nat := [0, 0, 3, 7, 15, 0, 32, 127]
theorem laws_heldAttrS.tab7 : rtab .any (opsOf Try.f61 7) = laws_heldAttrS.T7 := by kernel_rfl
theorem laws_heldAttrS.bits7 : waitsOk laws_heldAttrS.T7.2 laws_heldAttrS.B7 = true := by kernel_rfl
set_option maxHeartbeats 8000000 in
set_option maxRecDepth 100000 in
theorem laws_heldAttrS.calls (k : Nat) (A0 : Option Addr) (c0 : Nat) (l0 : List (S91)) (a1 : Int) (r : Int) (w : World) (hr0 : Kd.C k91 w A0 l0.length l0) (hc0 : l0.length ≤ c0) (h : laws_heldAttrS.f k l0 a1 = some r) :
  Calls Try.prog 61 #[.slice A0 l0.length c0, .int .i64 a1] w fun e w' => e = .returned (.int .i64 r) ∧ Below w.heap.size w w' := by
 have HR0 := Aside0.mk hr0
 have HC0 := Aside0.mk hc0
 clear hr0 hc0
 have HB := Aside0.mk (Below.refl w.heap.size w)
 have H : (laws_heldAttrS.l0 k l0 a1 0) = some r := h
 clear h
 have H' := Aside0.mk H
 clear H
 go_enter Try.func61, Try.ntmps61
 go_wp2
 go_loopg [1, 5] k (fun kq v1 v5 w' => ∃ (x1_1 : Int) (x5_1 : Int), v1 = .int .i64 x1_1 ∧ v5 = .int .i64 x5_1 ∧ Aside0 (laws_heldAttrS.l0 kq l0 x1_1 x5_1 = some r) ∧ Aside0 (kq ≤ k) ∧ Aside0 (Below w.heap.size w w'))
 case atStart => exact ⟨(a1), (0), (by first | rfl | (simp; done) | (simp [*]; done)), (by first | rfl | (simp; done) | (simp [*]; done)), H', ⟨Nat.le_refl _⟩, ⟨by repeat (first | (with_reducible first | exact HB.out | apply ba_ | apply bn_ | apply b1_) | exact HB.out)⟩⟩
 case round =>
  clear H'
  obtain ⟨x1_1, x5_1, rfl, rfl, HA, HK1, HB⟩ := hrel
  cases gk with
  | zero => exact absurd HA.out (by simp [laws_heldAttrS.l0])
  | succ k1 =>
   have H := HA.out
   clear HA
   simp only [laws_heldAttrS.l0] at H
   by_cases c3 : x5_1 < (l0.length : Int)
   ·rw [if_pos c3] at H
    have c3b0 : decide (x5_1 < (l0.length : Int)) = true := decide_eq_true c3
    clear c3
    by_cases c4 : 0 ≤ x5_1
    ·rw [if_pos c4] at H
     have c4b0 : decide (0 ≤ x5_1) = true := decide_eq_true c4
     clear c4
     replace H := Option.bind_eq_some_iff.mp H
     obtain ⟨t312, A50, H⟩ := H
     replace H : (if ((rd_T91 l0 x5_1).f0).toList = t312.toList then ((laws_markText.f k1 (wrap64 (x1_1 + 1))).bind fun t314 => (if ((rd_T91 l0 x5_1).f1).toList = t314.toList then (laws_heldAttrS.l0 k1 l0 (wrap64 ((wrap64 (x1_1 + 1)) + 1)) (wrap64 (x5_1 + 1))) else (some (-1)))) else (some (-1))) = some r := H
     have A5 := Aside0.mk A50
     clear A50
     by_cases c6 : ((rd_T91 l0 x5_1).f0).toList = t312.toList
     ·rw [if_pos c6] at H
      have c6b0 : (((rd_T91 l0 x5_1).f0).toList == t312.toList) = true := beq_iff_eq.mpr c6
      have c6b1 : (((rd_T91 l0 x5_1).f0).toList != t312.toList) = false := bne_eq_false_iff_eq.mpr c6
      clear c6
      replace H := Option.bind_eq_some_iff.mp H
      obtain ⟨t314, A70, H⟩ := H
      replace H : (if ((rd_T91 l0 x5_1).f1).toList = t314.toList then (laws_heldAttrS.l0 k1 l0 (wrap64 ((wrap64 (x1_1 + 1)) + 1)) (wrap64 (x5_1 + 1))) else (some (-1))) = some r := H
      have A7 := Aside0.mk A70
      clear A70
      by_cases c8 : ((rd_T91 l0 x5_1).f1).toList = t314.toList
      ·rw [if_pos c8] at H
       have c8b0 : (((rd_T91 l0 x5_1).f1).toList == t314.toList) = true := beq_iff_eq.mpr c8
       have c8b1 : (((rd_T91 l0 x5_1).f1).toList != t314.toList) = false := bne_eq_false_iff_eq.mpr c8
       clear c8
       have H' := Aside0.mk H
       clear H
       try go_wp2
       replace HB := Aside0.mk (b1_ HB.out)
       have p311 : 0 ≤ (x5_1 : Int) := dq_ (by assumption)
       have q311 : x5_1 < (l0.length : Int) := dq_ (by assumption)
       obtain ⟨ad311, e311, hx311_0, hx311_1⟩ := at_T91 HR0.out x5_1 p311 q311
       have hw311_1 := hx311_1
       have hw311_0 := hx311_0
       cases e311
       replace hx311_0 := pw_cell_below HB.out hx311_0
       replace hx311_1 := pw_cell_below HB.out hx311_1
       replace p311 := eq_true p311
       replace q311 := eq_true q311
       refine start_ (n := 8) (S := fun w' => w'.cell? (ad311.add ((x5_1).toNat * 2)) = some (.string ((rd_T91 l0 x5_1).f0)) ∧ w'.cell? ⟨(ad311.add ((x5_1).toNat * 2)).block, (ad311.add ((x5_1).toNat * 2)).off + 1, none⟩ = some (.string ((rd_T91 l0 x5_1).f1))) (ds := []) q13_0 (by kernel_rfl) rfl rfl ⟨(pw_cell_below HB.out hw311_0), (pw_cell_below HB.out hw311_1)⟩ (fun hHeld => ?_); refine with_tabW laws_heldAttrS.tab4 laws_heldAttrS.bits4 (fun HT_ HW_ => ?_)
       generalize wr.drew = w9 at HB hx311_0 hx311_1 hHeld ⊢
       refine pn_ HT_ 0 12 ?_ ?_ q13_1 rfl rfl (by kernel_rfl) (fun _ _ _ h => h) (by rfl) ?_ ?_ ?_
       rotate_left 2;(intro w';go_simp;with_reducible rfl);(simp only [Act.put, sa_, sz_, ss_, i64_w, i32_w];rfl)
       refine pn_ HT_ 1 13 ?_ ?_ q13_2 rfl rfl (by kernel_rfl) (fun _ _ _ h => h) (by rfl) ?_ ?_ ?_
       rotate_left 2;(intro w';go_simp;with_reducible rfl);(simp only [Act.put, sa_, sz_, ss_, i64_w, i32_w];rfl)
       refine pn_ HT_ 2 14 ?_ ?_ q13_3 rfl rfl (by kernel_rfl) (fun _ _ _ h => h) (by rfl) ?_ ?_ ?_
       rotate_left 2;(intro w';go_simp;with_reducible rfl);(simp only [Act.put, sa_, sz_, ss_, i64_w, i32_w];rfl)
       refine pn_ HT_ 3 15 ?_ ?_ q13_4 rfl rfl (by kernel_rfl) (fun _ _ _ h => h) (by rfl) ?_ ?_ ?_
       rotate_left 2;(intro w';go_simp;with_reducible rfl);(simp only [Act.put, sa_, sz_, ss_, i64_w, i32_w];rfl)
       refine pn_ HT_ 5 17 ?_ ?_ q13_5 rfl rfl (by kernel_rfl) (fun _ _ _ h => h) (by rfl) ?_ ?_ ?_
       rotate_left 2;(intro w';go_simp;with_reducible rfl);(simp only [Act.put, sa_, sz_, ss_, i64_w, i32_w];rfl)
       refine tn_ HT_ HW_ 4 16 ?_ ?_ q13_6 rfl rfl (by kernel_rfl) (fun _ _ _ h => h) (by rfl) hHeld ?_ ?_ ?_
       rotate_left 2;(rintro w' ⟨s0, s1⟩;go_simp;with_reducible rfl);(simp only [Act.put, sa_, sz_, ss_, i64_w, i32_w];rfl)
       refine on_ HT_ 6 18 q13_7 rfl rfl (by kernel_rfl) (by decide) (fun K hK => ?_)
       refine goes_ Try.func59 (by kernel_rfl) rfl #[.int .i64 x1_1] (by rfl) rfl rfl (by (try simp only [List.map_toArray, List.map_cons, List.map_nil]); first | done | rfl | (simp only [List.length_drop, List.length_take]; rfl)) ?_
       with_reducible refine (laws_markText.calls k1 x1_1 t312 _ A5.out).mono ?_
       rintro e w10 ⟨rfl, hb⟩
       refine ⟨_, rfl, ?_⟩
       replace HB := Aside0.mk (below_step (by repeat (first | (with_reducible first | exact HB.out | apply ba_ | apply bn_ | apply b1_) | exact HB.out)) hb)
       (try clear hb)
       refine hK.out _ _ ⟨(pw_cell_below HB.out hw311_0), (pw_cell_below HB.out hw311_1)⟩ (fun hHeld => ?_)
       clear hK K
       refine norm_ (a' := ?_) ?_ ?_
       rotate_left
       ·show Act.put _ (some 18) _ = _
        simp only [Act.put, sa_, sz_, ss_, i64_w, i32_w]
        rfl
       refine pn_ HT_ 7 19 ?_ ?_ q13_8 rfl rfl (by kernel_rfl) (fun _ _ _ h => h) (by rfl) ?_ ?_ ?_
       rotate_left 2;(intro w';go_simp;with_reducible rfl);(simp only [Act.put, sa_, sz_, ss_, i64_w, i32_w];rfl)
       refine done_ (done_of HT_.out (by kernel_rfl)) ?_
       try go_wp2
       replace HB := Aside0.mk (b1_ HB.out)
       have p313 : 0 ≤ (x5_1 : Int) := dq_ (by assumption)
       have q313 : x5_1 < (l0.length : Int) := dq_ (by assumption)
       obtain ⟨ad313, e313, hx313_0, hx313_1⟩ := at_T91 HR0.out x5_1 p313 q313
       have hw313_1 := hx313_1
       have hw313_0 := hx313_0
       obtain rfl : ad311 = ad313 := (by injection e313)
       replace hx313_0 := pw_cell_below HB.out hx313_0
       replace hx313_1 := pw_cell_below HB.out hx313_1
       replace p313 := eq_true p313
       replace q313 := eq_true q313
       refine start_ (n := 8) (S := fun w' => w'.cell? (ad311.add ((x5_1).toNat * 2)) = some (.string ((rd_T91 l0 x5_1).f0)) ∧ w'.cell? ⟨(ad311.add ((x5_1).toNat * 2)).block, (ad311.add ((x5_1).toNat * 2)).off + 1, none⟩ = some (.string ((rd_T91 l0 x5_1).f1))) (ds := []) q13_0 (by kernel_rfl) rfl rfl ⟨(pw_cell_below HB.out hw313_0), (pw_cell_below HB.out hw313_1)⟩ (fun hHeld => ?_); refine with_tabW laws_heldAttrS.tab7 laws_heldAttrS.bits7 (fun HT_ HW_ => ?_)
       generalize w10.drew = w11 at HB hx313_0 hx313_1 hHeld ⊢
       refine pn_ HT_ 0 22 ?_ ?_ q13_1 rfl rfl (by kernel_rfl) (fun _ _ _ h => h) (by rfl) ?_ ?_ ?_
       rotate_left 2;(intro w';go_simp;with_reducible rfl);(simp only [Act.put, sa_, sz_, ss_, i64_w, i32_w];rfl)
       refine pn_ HT_ 1 23 ?_ ?_ q13_2 rfl rfl (by kernel_rfl) (fun _ _ _ h => h) (by rfl) ?_ ?_ ?_
       rotate_left 2;(intro w';go_simp;with_reducible rfl);(simp only [Act.put, sa_, sz_, ss_, i64_w, i32_w];rfl)
       refine pn_ HT_ 2 24 ?_ ?_ q13_3 rfl rfl (by kernel_rfl) (fun _ _ _ h => h) (by rfl) ?_ ?_ ?_
       rotate_left 2;(intro w';go_simp;with_reducible rfl);(simp only [Act.put, sa_, sz_, ss_, i64_w, i32_w];rfl)
       refine pn_ HT_ 3 25 ?_ ?_ q13_4 rfl rfl (by kernel_rfl) (fun _ _ _ h => h) (by rfl) ?_ ?_ ?_
       rotate_left 2;(intro w';go_simp;with_reducible rfl);(simp only [Act.put, sa_, sz_, ss_, i64_w, i32_w];rfl)
       refine pn_ HT_ 5 27 ?_ ?_ q13_5 rfl rfl (by kernel_rfl) (fun _ _ _ h => h) (by rfl) ?_ ?_ ?_
       rotate_left 2;(intro w';go_simp;with_reducible rfl);(simp only [Act.put, sa_, sz_, ss_, i64_w, i32_w];rfl)
       refine tn_ HT_ HW_ 4 26 ?_ ?_ q13_6 rfl rfl (by kernel_rfl) (fun _ _ _ h => h) (by rfl) hHeld ?_ ?_ ?_
       rotate_left 2;(rintro w' ⟨s0, s1⟩;go_simp;with_reducible rfl);(simp only [Act.put, sa_, sz_, ss_, i64_w, i32_w];rfl)
       refine on_ HT_ 6 28 q13_7 rfl rfl (by kernel_rfl) (by decide) (fun K hK => ?_)
       refine goes_ Try.func59 (by kernel_rfl) rfl #[.int .i64 (wrap64 (x1_1 + 1))] (by rfl) rfl rfl (by (try simp only [List.map_toArray, List.map_cons, List.map_nil]); first | done | rfl | (simp only [List.length_drop, List.length_take]; rfl)) ?_
       with_reducible refine (laws_markText.calls k1 (wrap64 (x1_1 + 1)) t314 _ A7.out).mono ?_
       rintro e w12 ⟨rfl, hb⟩
       refine ⟨_, rfl, ?_⟩
       replace HB := Aside0.mk (below_step (by repeat (first | (with_reducible first | exact HB.out | apply ba_ | apply bn_ | apply b1_) | exact HB.out)) hb)
       (try clear hb)
       refine hK.out _ _ ⟨(pw_cell_below HB.out hw313_0), (pw_cell_below HB.out hw313_1)⟩ (fun hHeld => ?_)
       clear hK K
       refine norm_ (a' := ?_) ?_ ?_
       rotate_left
       ·show Act.put _ (some 28) _ = _
        simp only [Act.put, sa_, sz_, ss_, i64_w, i32_w]
        rfl
       refine pn_ HT_ 7 29 ?_ ?_ q13_8 rfl rfl (by kernel_rfl) (fun _ _ _ h => h) (by rfl) ?_ ?_ ?_
       rotate_left 2;(intro w';go_simp;with_reducible rfl);(simp only [Act.put, sa_, sz_, ss_, i64_w, i32_w];rfl)
       refine done_ (done_of HT_.out (by kernel_rfl)) ?_
       try go_wp2
       go_roundg k1
       case measure => have := HK1.out; omega
       case rel => exact ⟨(wrap64 ((wrap64 (x1_1 + 1)) + 1)), (wrap64 (x5_1 + 1)), (by first | rfl | (simp; done) | (simp [*]; done)), (by first | rfl | (simp; done) | (simp [*]; done)), H', ⟨by have := HK1.out; omega⟩, ⟨by repeat (first | (with_reducible first | exact HB.out | apply ba_ | apply bn_ | apply b1_) | exact HB.out)⟩⟩
      ·rw [if_neg c8] at H
       have c8b0 : (((rd_T91 l0 x5_1).f1).toList == t314.toList) = false := beq_eq_false_iff_ne.mpr c8
       have c8b1 : (((rd_T91 l0 x5_1).f1).toList != t314.toList) = true := bne_iff_ne.mpr c8
       obtain rfl := Option.some.inj H
       try go_wp2
       replace HB := Aside0.mk (b1_ HB.out)
       have p311 : 0 ≤ (x5_1 : Int) := dq_ (by assumption)
       have q311 : x5_1 < (l0.length : Int) := dq_ (by assumption)
       obtain ⟨ad311, e311, hx311_0, hx311_1⟩ := at_T91 HR0.out x5_1 p311 q311
       have hw311_1 := hx311_1
       have hw311_0 := hx311_0
       cases e311
       replace hx311_0 := pw_cell_below HB.out hx311_0
       replace hx311_1 := pw_cell_below HB.out hx311_1
       replace p311 := eq_true p311
       replace q311 := eq_true q311
       refine start_ (n := 8) (S := fun w' => w'.cell? (ad311.add ((x5_1).toNat * 2)) = some (.string ((rd_T91 l0 x5_1).f0)) ∧ w'.cell? ⟨(ad311.add ((x5_1).toNat * 2)).block, (ad311.add ((x5_1).toNat * 2)).off + 1, none⟩ = some (.string ((rd_T91 l0 x5_1).f1))) (ds := []) q13_0 (by kernel_rfl) rfl rfl ⟨(pw_cell_below HB.out hw311_0), (pw_cell_below HB.out hw311_1)⟩ (fun hHeld => ?_); refine with_tabW laws_heldAttrS.tab4 laws_heldAttrS.bits4 (fun HT_ HW_ => ?_)
       generalize wr.drew = w13 at HB hx311_0 hx311_1 hHeld ⊢
       refine pn_ HT_ 0 12 ?_ ?_ q13_1 rfl rfl (by kernel_rfl) (fun _ _ _ h => h) (by rfl) ?_ ?_ ?_
       rotate_left 2;(intro w';go_simp;with_reducible rfl);(simp only [Act.put, sa_, sz_, ss_, i64_w, i32_w];rfl)
       refine pn_ HT_ 1 13 ?_ ?_ q13_2 rfl rfl (by kernel_rfl) (fun _ _ _ h => h) (by rfl) ?_ ?_ ?_
       rotate_left 2;(intro w';go_simp;with_reducible rfl);(simp only [Act.put, sa_, sz_, ss_, i64_w, i32_w];rfl)
       refine pn_ HT_ 2 14 ?_ ?_ q13_3 rfl rfl (by kernel_rfl) (fun _ _ _ h => h) (by rfl) ?_ ?_ ?_
       rotate_left 2;(intro w';go_simp;with_reducible rfl);(simp only [Act.put, sa_, sz_, ss_, i64_w, i32_w];rfl)
       refine pn_ HT_ 3 15 ?_ ?_ q13_4 rfl rfl (by kernel_rfl) (fun _ _ _ h => h) (by rfl) ?_ ?_ ?_
       rotate_left 2;(intro w';go_simp;with_reducible rfl);(simp only [Act.put, sa_, sz_, ss_, i64_w, i32_w];rfl)
       refine pn_ HT_ 5 17 ?_ ?_ q13_5 rfl rfl (by kernel_rfl) (fun _ _ _ h => h) (by rfl) ?_ ?_ ?_
       rotate_left 2;(intro w';go_simp;with_reducible rfl);(simp only [Act.put, sa_, sz_, ss_, i64_w, i32_w];rfl)
       refine tn_ HT_ HW_ 4 16 ?_ ?_ q13_6 rfl rfl (by kernel_rfl) (fun _ _ _ h => h) (by rfl) hHeld ?_ ?_ ?_
       rotate_left 2;(rintro w' ⟨s0, s1⟩;go_simp;with_reducible rfl);(simp only [Act.put, sa_, sz_, ss_, i64_w, i32_w];rfl)
       refine on_ HT_ 6 18 q13_7 rfl rfl (by kernel_rfl) (by decide) (fun K hK => ?_)
       refine goes_ Try.func59 (by kernel_rfl) rfl #[.int .i64 x1_1] (by rfl) rfl rfl (by (try simp only [List.map_toArray, List.map_cons, List.map_nil]); first | done | rfl | (simp only [List.length_drop, List.length_take]; rfl)) ?_
       with_reducible refine (laws_markText.calls k1 x1_1 t312 _ A5.out).mono ?_
       rintro e w14 ⟨rfl, hb⟩
       refine ⟨_, rfl, ?_⟩
       replace HB := Aside0.mk (below_step (by repeat (first | (with_reducible first | exact HB.out | apply ba_ | apply bn_ | apply b1_) | exact HB.out)) hb)
       (try clear hb)
       refine hK.out _ _ ⟨(pw_cell_below HB.out hw311_0), (pw_cell_below HB.out hw311_1)⟩ (fun hHeld => ?_)
       clear hK K
       refine norm_ (a' := ?_) ?_ ?_
       rotate_left
       ·show Act.put _ (some 18) _ = _
        simp only [Act.put, sa_, sz_, ss_, i64_w, i32_w]
        rfl
       refine pn_ HT_ 7 19 ?_ ?_ q13_8 rfl rfl (by kernel_rfl) (fun _ _ _ h => h) (by rfl) ?_ ?_ ?_
       rotate_left 2;(intro w';go_simp;with_reducible rfl);(simp only [Act.put, sa_, sz_, ss_, i64_w, i32_w];rfl)
       refine done_ (done_of HT_.out (by kernel_rfl)) ?_
       try go_wp2
       replace HB := Aside0.mk (b1_ HB.out)
       have p313 : 0 ≤ (x5_1 : Int) := dq_ (by assumption)
       have q313 : x5_1 < (l0.length : Int) := dq_ (by assumption)
       obtain ⟨ad313, e313, hx313_0, hx313_1⟩ := at_T91 HR0.out x5_1 p313 q313
       have hw313_1 := hx313_1
       have hw313_0 := hx313_0
       obtain rfl : ad311 = ad313 := (by injection e313)
       replace hx313_0 := pw_cell_below HB.out hx313_0
       replace hx313_1 := pw_cell_below HB.out hx313_1
       replace p313 := eq_true p313
       replace q313 := eq_true q313
       refine start_ (n := 8) (S := fun w' => w'.cell? (ad311.add ((x5_1).toNat * 2)) = some (.string ((rd_T91 l0 x5_1).f0)) ∧ w'.cell? ⟨(ad311.add ((x5_1).toNat * 2)).block, (ad311.add ((x5_1).toNat * 2)).off + 1, none⟩ = some (.string ((rd_T91 l0 x5_1).f1))) (ds := []) q13_0 (by kernel_rfl) rfl rfl ⟨(pw_cell_below HB.out hw313_0), (pw_cell_below HB.out hw313_1)⟩ (fun hHeld => ?_); refine with_tabW laws_heldAttrS.tab7 laws_heldAttrS.bits7 (fun HT_ HW_ => ?_)
       generalize w14.drew = w15 at HB hx313_0 hx313_1 hHeld ⊢
       refine pn_ HT_ 0 22 ?_ ?_ q13_1 rfl rfl (by kernel_rfl) (fun _ _ _ h => h) (by rfl) ?_ ?_ ?_
       rotate_left 2;(intro w';go_simp;with_reducible rfl);(simp only [Act.put, sa_, sz_, ss_, i64_w, i32_w];rfl)
       refine pn_ HT_ 1 23 ?_ ?_ q13_2 rfl rfl (by kernel_rfl) (fun _ _ _ h => h) (by rfl) ?_ ?_ ?_
       rotate_left 2;(intro w';go_simp;with_reducible rfl);(simp only [Act.put, sa_, sz_, ss_, i64_w, i32_w];rfl)
       refine pn_ HT_ 2 24 ?_ ?_ q13_3 rfl rfl (by kernel_rfl) (fun _ _ _ h => h) (by rfl) ?_ ?_ ?_
       rotate_left 2;(intro w';go_simp;with_reducible rfl);(simp only [Act.put, sa_, sz_, ss_, i64_w, i32_w];rfl)
       refine pn_ HT_ 3 25 ?_ ?_ q13_4 rfl rfl (by kernel_rfl) (fun _ _ _ h => h) (by rfl) ?_ ?_ ?_
       rotate_left 2;(intro w';go_simp;with_reducible rfl);(simp only [Act.put, sa_, sz_, ss_, i64_w, i32_w];rfl)
       refine pn_ HT_ 5 27 ?_ ?_ q13_5 rfl rfl (by kernel_rfl) (fun _ _ _ h => h) (by rfl) ?_ ?_ ?_
       rotate_left 2;(intro w';go_simp;with_reducible rfl);(simp only [Act.put, sa_, sz_, ss_, i64_w, i32_w];rfl)
       refine tn_ HT_ HW_ 4 26 ?_ ?_ q13_6 rfl rfl (by kernel_rfl) (fun _ _ _ h => h) (by rfl) hHeld ?_ ?_ ?_
       rotate_left 2;(rintro w' ⟨s0, s1⟩;go_simp;with_reducible rfl);(simp only [Act.put, sa_, sz_, ss_, i64_w, i32_w];rfl)
       refine on_ HT_ 6 28 q13_7 rfl rfl (by kernel_rfl) (by decide) (fun K hK => ?_)
       refine goes_ Try.func59 (by kernel_rfl) rfl #[.int .i64 (wrap64 (x1_1 + 1))] (by rfl) rfl rfl (by (try simp only [List.map_toArray, List.map_cons, List.map_nil]); first | done | rfl | (simp only [List.length_drop, List.length_take]; rfl)) ?_
       with_reducible refine (laws_markText.calls k1 (wrap64 (x1_1 + 1)) t314 _ A7.out).mono ?_
       rintro e w16 ⟨rfl, hb⟩
       refine ⟨_, rfl, ?_⟩
       replace HB := Aside0.mk (below_step (by repeat (first | (with_reducible first | exact HB.out | apply ba_ | apply bn_ | apply b1_) | exact HB.out)) hb)
       (try clear hb)
       refine hK.out _ _ ⟨(pw_cell_below HB.out hw313_0), (pw_cell_below HB.out hw313_1)⟩ (fun hHeld => ?_)
       clear hK K
       refine norm_ (a' := ?_) ?_ ?_
       rotate_left
       ·show Act.put _ (some 28) _ = _
        simp only [Act.put, sa_, sz_, ss_, i64_w, i32_w]
        rfl
       refine pn_ HT_ 7 29 ?_ ?_ q13_8 rfl rfl (by kernel_rfl) (fun _ _ _ h => h) (by rfl) ?_ ?_ ?_
       rotate_left 2;(intro w';go_simp;with_reducible rfl);(simp only [Act.put, sa_, sz_, ss_, i64_w, i32_w];rfl)
       refine done_ (done_of HT_.out (by kernel_rfl)) ?_
       try go_wp2
       go_ret
       exact ⟨by first | rfl | (simp [errW_none, errW_some] <;> rfl) | (simp [*, errW_none, errW_some] <;> rfl), by repeat (first | (with_reducible first | exact HB.out | apply ba_ | apply bn_ | apply b1_) | exact HB.out)⟩
     ·rw [if_neg c6] at H
      have c6b0 : (((rd_T91 l0 x5_1).f0).toList == t312.toList) = false := beq_eq_false_iff_ne.mpr c6
      have c6b1 : (((rd_T91 l0 x5_1).f0).toList != t312.toList) = true := bne_iff_ne.mpr c6
      obtain rfl := Option.some.inj H
      try go_wp2
      replace HB := Aside0.mk (b1_ HB.out)
      have p311 : 0 ≤ (x5_1 : Int) := dq_ (by assumption)
      have q311 : x5_1 < (l0.length : Int) := dq_ (by assumption)
      obtain ⟨ad311, e311, hx311_0, hx311_1⟩ := at_T91 HR0.out x5_1 p311 q311
      have hw311_1 := hx311_1
      have hw311_0 := hx311_0
      cases e311
      replace hx311_0 := pw_cell_below HB.out hx311_0
      replace hx311_1 := pw_cell_below HB.out hx311_1
      replace p311 := eq_true p311
      replace q311 := eq_true q311
      refine start_ (n := 8) (S := fun w' => w'.cell? (ad311.add ((x5_1).toNat * 2)) = some (.string ((rd_T91 l0 x5_1).f0)) ∧ w'.cell? ⟨(ad311.add ((x5_1).toNat * 2)).block, (ad311.add ((x5_1).toNat * 2)).off + 1, none⟩ = some (.string ((rd_T91 l0 x5_1).f1))) (ds := []) q13_0 (by kernel_rfl) rfl rfl ⟨(pw_cell_below HB.out hw311_0), (pw_cell_below HB.out hw311_1)⟩ (fun hHeld => ?_); refine with_tabW laws_heldAttrS.tab4 laws_heldAttrS.bits4 (fun HT_ HW_ => ?_)
      generalize wr.drew = w17 at HB hx311_0 hx311_1 hHeld ⊢
      refine pn_ HT_ 0 12 ?_ ?_ q13_1 rfl rfl (by kernel_rfl) (fun _ _ _ h => h) (by rfl) ?_ ?_ ?_
      rotate_left 2;(intro w';go_simp;with_reducible rfl);(simp only [Act.put, sa_, sz_, ss_, i64_w, i32_w];rfl)
      refine pn_ HT_ 1 13 ?_ ?_ q13_2 rfl rfl (by kernel_rfl) (fun _ _ _ h => h) (by rfl) ?_ ?_ ?_
      rotate_left 2;(intro w';go_simp;with_reducible rfl);(simp only [Act.put, sa_, sz_, ss_, i64_w, i32_w];rfl)
      refine pn_ HT_ 2 14 ?_ ?_ q13_3 rfl rfl (by kernel_rfl) (fun _ _ _ h => h) (by rfl) ?_ ?_ ?_
      rotate_left 2;(intro w';go_simp;with_reducible rfl);(simp only [Act.put, sa_, sz_, ss_, i64_w, i32_w];rfl)
      refine pn_ HT_ 3 15 ?_ ?_ q13_4 rfl rfl (by kernel_rfl) (fun _ _ _ h => h) (by rfl) ?_ ?_ ?_
      rotate_left 2;(intro w';go_simp;with_reducible rfl);(simp only [Act.put, sa_, sz_, ss_, i64_w, i32_w];rfl)
      refine pn_ HT_ 5 17 ?_ ?_ q13_5 rfl rfl (by kernel_rfl) (fun _ _ _ h => h) (by rfl) ?_ ?_ ?_
      rotate_left 2;(intro w';go_simp;with_reducible rfl);(simp only [Act.put, sa_, sz_, ss_, i64_w, i32_w];rfl)
      refine tn_ HT_ HW_ 4 16 ?_ ?_ q13_6 rfl rfl (by kernel_rfl) (fun _ _ _ h => h) (by rfl) hHeld ?_ ?_ ?_
      rotate_left 2;(rintro w' ⟨s0, s1⟩;go_simp;with_reducible rfl);(simp only [Act.put, sa_, sz_, ss_, i64_w, i32_w];rfl)
      refine on_ HT_ 6 18 q13_7 rfl rfl (by kernel_rfl) (by decide) (fun K hK => ?_)
      refine goes_ Try.func59 (by kernel_rfl) rfl #[.int .i64 x1_1] (by rfl) rfl rfl (by (try simp only [List.map_toArray, List.map_cons, List.map_nil]); first | done | rfl | (simp only [List.length_drop, List.length_take]; rfl)) ?_
      with_reducible refine (laws_markText.calls k1 x1_1 t312 _ A5.out).mono ?_
      rintro e w18 ⟨rfl, hb⟩
      refine ⟨_, rfl, ?_⟩
      replace HB := Aside0.mk (below_step (by repeat (first | (with_reducible first | exact HB.out | apply ba_ | apply bn_ | apply b1_) | exact HB.out)) hb)
      (try clear hb)
      refine hK.out _ _ ⟨(pw_cell_below HB.out hw311_0), (pw_cell_below HB.out hw311_1)⟩ (fun hHeld => ?_)
      clear hK K
      refine norm_ (a' := ?_) ?_ ?_
      rotate_left
      ·show Act.put _ (some 18) _ = _
       simp only [Act.put, sa_, sz_, ss_, i64_w, i32_w]
       rfl
      refine pn_ HT_ 7 19 ?_ ?_ q13_8 rfl rfl (by kernel_rfl) (fun _ _ _ h => h) (by rfl) ?_ ?_ ?_
      rotate_left 2;(intro w';go_simp;with_reducible rfl);(simp only [Act.put, sa_, sz_, ss_, i64_w, i32_w];rfl)
      refine done_ (done_of HT_.out (by kernel_rfl)) ?_
      try go_wp2
      go_ret
      exact ⟨by first | rfl | (simp [errW_none, errW_some] <;> rfl) | (simp [*, errW_none, errW_some] <;> rfl), by repeat (first | (with_reducible first | exact HB.out | apply ba_ | apply bn_ | apply b1_) | exact HB.out)⟩
    ·rw [if_neg c4] at H
     exact absurd H (by simp)
   ·rw [if_neg c3] at H
    have c3b0 : decide (x5_1 < (l0.length : Int)) = false := decide_eq_false c3
    clear c3
    obtain rfl := Option.some.inj H
    go_wp2
    go_ret
    exact ⟨by first | rfl | (simp [errW_none, errW_some] <;> rfl) | (simp [*, errW_none, errW_some] <;> rfl), by repeat (first | (with_reducible first | exact HB.out | apply ba_ | apply bn_ | apply b1_) | exact HB.out)⟩
end Go.Proofs.Ytbgedpicfllclaa.PFnExactAdd
