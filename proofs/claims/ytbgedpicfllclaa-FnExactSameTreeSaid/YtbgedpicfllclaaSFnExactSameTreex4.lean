-- Written by this session's program wip/slim.py: the print's texts (with contracts of our own), only what this row needs, shortened. Lean checks it.
import Derived.Test.YtbgedpicfllclaaSFnExactSameTreex0
import Derived.Test.YtbgedpicfllclaaSFnExactSameTreex3
namespace Go.Proofs.Ytbgedpicfllclaa.PFnExactSameTree
open Go.RowKit Go.Proofs.YtbgedpicfllclaaW.PrintWords Go.Proofs.YtbgedpicfllclaaW.PrintLast Go.Proofs.YtbgedpicfllclaaW.PrintMore
def q4_0 : Array Bool := #[false, false, false, false, false, false, false, false, false, false]
def q4_1 : Array Bool := #[true, false, false, false, false, false, false, false, false, false]
def q4_2 : Array Bool := #[true, true, false, false, false, false, false, false, false, false]
def q4_3 : Array Bool := #[true, true, true, false, false, false, false, false, false, false]
def q4_4 : Array Bool := #[true, true, true, false, true, false, false, false, false, false]
def q4_5 : Array Bool := #[true, true, true, false, true, true, false, false, false, false]
def q4_6 : Array Bool := #[true, true, true, false, true, true, true, false, false, false]
def q4_7 : Array Bool := #[true, true, true, true, true, true, true, false, false, false]
def q4_8 : Array Bool := #[true, true, true, true, true, true, true, true, false, false]
def q4_9 : Array Bool := #[true, true, true, true, true, true, true, true, true, false]
def q4_10 : Array Bool := #[true, true, true, true, true, true, true, true, true, true]
attribute [local go_sem] max2_int min2_int max_two min_two max_three min_three max_four min_four
set_option linter.unusedVariables false
set_option linter.unusedSimpArgs false
def laws_eqItemS.l0 : Nat → List (S44) → List (S44) → Int → Option (Bool)
 | 0, _, _, _ => none
 | k + 1, x0, x1, x5 => if x5 < (x0.length : Int) then (if 0 ≤ x5 then (if x5 < (x1.length : Int) then ((laws_eqItem.f k ((rd_T44 x0 x5).f0) ((rd_T44 x0 x5).f1) ((rd_T44 x0 x5).f2) ((rd_T44 x0 x5).f3) ((rd_T44 x0 x5).f4) ((rd_T44 x0 x5).f5) ((rd_T44 x0 x5).f6) ((rd_T44 x1 x5).f0) ((rd_T44 x1 x5).f1) ((rd_T44 x1 x5).f2) ((rd_T44 x1 x5).f3) ((rd_T44 x1 x5).f4) ((rd_T44 x1 x5).f5) ((rd_T44 x1 x5).f6)).bind fun t162 => (if t162 = true then (laws_eqItemS.l0 k x0 x1 (wrap64 (x5 + 1))) else (some false))) else (none)) else (none)) else (some true)
def laws_eqItemS.f (k : Nat) (l0 : List (S44)) (l1 : List (S44)) : Option (Bool) := if (l0.length : Int) = (l1.length : Int) then (laws_eqItemS.l0 k l0 l1 0) else (some false)
theorem laws_eqItemS.mono_l : ∀ k, (∀ y0 y1 y2, LeO (laws_eqItemS.l0 k y0 y1 y2) (laws_eqItemS.l0 (k + 1) y0 y1 y2))
 | 0 => fun _ _ _ r h => by simp [laws_eqItemS.l0] at h
 | k + 1 => by
  have ih0 := laws_eqItemS.mono_l k
  ·intro y0 y1 y2
   unfold laws_eqItemS.l0
   repeat' first
   | (with_reducible exact ih0 _ _ _)
   | (with_reducible exact laws_eqItem.mono _ _ _ _ _ _ _ _ _ _ _ _ _ _ _)
   | (with_reducible exact LeO.refl _)
   | (with_reducible exact LeO.none _)
   | (with_reducible refine LeO.ite ?_ ?_)
   | (with_reducible refine LeO.bind ?_ (fun _ => ?_))
theorem laws_eqItemS.mono : ∀ a0 a1 k, LeO (laws_eqItemS.f k a0 a1) (laws_eqItemS.f (k + 1) a0 a1) := by
 intro a0 a1 k
 have ih0 := laws_eqItemS.mono_l k
 unfold laws_eqItemS.f
 repeat' first
   | (with_reducible exact ih0 _ _ _)
   | (with_reducible exact laws_eqItem.mono _ _ _ _ _ _ _ _ _ _ _ _ _ _ _)
   | (with_reducible exact LeO.refl _)
   | (with_reducible exact LeO.none _)
   | (with_reducible refine LeO.ite ?_ ?_)
   | (with_reducible refine LeO.bind ?_ (fun _ => ?_))
def laws_eqItemS.T6 : Bool × List (List Nat × List Nat) := (true, [([], []), ([], []), ([0, 1], [0, 1]), ([2], [2]), ([], []), ([], []), ([4, 5], [4, 5]), ([6], [6]), ([3, 7], [3, 7]), ([8], [8])])
def laws_eqItemS.B6 : List Nat := [0, 0, 3, 7, 0, 0, 48, 112, 255, 511]
theorem laws_eqItemS.tab6 : rtab .any (opsOf Try.f21 6) = laws_eqItemS.T6 := by kernel_rfl
theorem laws_eqItemS.bits6 : waitsOk laws_eqItemS.T6.2 laws_eqItemS.B6 = true := by kernel_rfl
set_option maxHeartbeats 8000000 in
set_option maxRecDepth 100000 in
theorem laws_eqItemS.calls (k : Nat) (A0 : Option Addr) (c0 : Nat) (l0 : List (S44)) (A1 : Option Addr) (c1 : Nat) (l1 : List (S44)) (r : Bool) (w : World) (hr0 : Kd.C k44 w A0 l0.length l0) (hc0 : l0.length ≤ c0) (hr1 : Kd.C k44 w A1 l1.length l1) (hc1 : l1.length ≤ c1) (h : laws_eqItemS.f k l0 l1 = some r) :
  Calls Try.prog 21 #[.slice A0 l0.length c0, .slice A1 l1.length c1] w fun e w' => e = .returned (.bool r) ∧ Below w.heap.size w w' := by
 have hu44 := Try.underlying44
 have HR0 := Aside0.mk hr0
 have HC0 := Aside0.mk hc0
 clear hr0 hc0
 have HR1 := Aside0.mk hr1
 have HC1 := Aside0.mk hc1
 clear hr1 hc1
 have HB := Aside0.mk (Below.refl w.heap.size w)
 have H : (if (l0.length : Int) = (l1.length : Int) then (laws_eqItemS.l0 k l0 l1 0) else (some false)) = some r := h
 clear h
 by_cases c3 : (l0.length : Int) = (l1.length : Int)
 ·rw [if_pos c3] at H
  have c3b0 : ((l0.length : Int) == (l1.length : Int)) = true := beq_iff_eq.mpr c3
  have c3b1 : ((l0.length : Int) != (l1.length : Int)) = false := bne_eq_false_iff_eq.mpr c3
  have c3b2 : (l0.length == l1.length) = true := by first | simpa using c3 | (simp at c3 ⊢; omega)
  clear c3
  have H' := Aside0.mk H
  clear H
  go_enter Try.func21, Try.ntmps21
  go_wp2
  go_loopg [5] k (fun kq v5 w' => ∃ (x5_1 : Int), v5 = .int .i64 x5_1 ∧ Aside0 (laws_eqItemS.l0 kq l0 l1 x5_1 = some r) ∧ Aside0 (kq ≤ k) ∧ Aside0 (Below w.heap.size w w'))
  case atStart => exact ⟨(0), (by first | rfl | (simp; done) | (simp [*]; done)), H', ⟨Nat.le_refl _⟩, ⟨by repeat (first | (with_reducible first | exact HB.out | apply ba_ | apply bn_ | apply b1_) | exact HB.out)⟩⟩
  case round =>
   clear H'
   try clear c1
   try clear c2
   try clear p2
   try clear c3
   try clear c3b0
   try clear c3b1
   try clear c3b2
   obtain ⟨x5_1, rfl, HA, HK1, HB⟩ := hrel
   cases gk with
   | zero => exact absurd HA.out (by simp [laws_eqItemS.l0])
   | succ k1 =>
    have H := HA.out
    clear HA
    simp only [laws_eqItemS.l0] at H
    by_cases c4 : x5_1 < (l0.length : Int)
    ·rw [if_pos c4] at H
     have c4b0 : decide (x5_1 < (l0.length : Int)) = true := decide_eq_true c4
     clear c4
     by_cases c5 : 0 ≤ x5_1
     ·rw [if_pos c5] at H
      have c5b0 : decide (0 ≤ x5_1) = true := decide_eq_true c5
      clear c5
      by_cases c6 : x5_1 < (l1.length : Int)
      ·rw [if_pos c6] at H
       have c6b0 : decide (x5_1 < (l1.length : Int)) = true := decide_eq_true c6
       clear c6
       replace H := Option.bind_eq_some_iff.mp H
       obtain ⟨t162, A70, H⟩ := H
       replace H : (if t162 = true then (laws_eqItemS.l0 k1 l0 l1 (wrap64 (x5_1 + 1))) else (some false)) = some r := H
       have A7 := Aside0.mk A70
       clear A70
       by_cases c8 : t162 = true
       ·subst c8
        have H1 : (laws_eqItemS.l0 k1 l0 l1 (wrap64 (x5_1 + 1))) = some r := by rw [if_pos rfl] at H; exact H
        clear H
        have H := H1
        clear H1
        have H' := Aside0.mk H
        clear H
        try go_wp2
        replace HB := Aside0.mk (b1_ HB.out)
        have p160 : 0 ≤ (x5_1 : Int) := of_decide_eq_true (by first | (with_reducible assumption) | assumption)
        have q160 : x5_1 < (l0.length : Int) := of_decide_eq_true (by first | (with_reducible assumption) | assumption)
        obtain ⟨ad160, A160_3, c160_3, A160_6, c160_6, e160, hx160_0, hx160_1, hx160_2, hx160_3, hx160_4, hx160_5, hx160_6, hl160_3, hi160_3, hl160_6, hi160_6⟩ := at_T44 HR0.out x5_1 p160 q160
        have hw160_6 := hx160_6
        have hw160_5 := hx160_5
        have hw160_4 := hx160_4
        have hw160_3 := hx160_3
        have hw160_2 := hx160_2
        have hw160_1 := hx160_1
        have hw160_0 := hx160_0
        cases e160
        replace hx160_0 := pw_cell_below HB.out hx160_0
        replace hx160_1 := pw_cell_below HB.out hx160_1
        replace hx160_2 := pw_cell_below HB.out hx160_2
        replace hx160_3 := pw_cell_below HB.out hx160_3
        replace hx160_4 := pw_cell_below HB.out hx160_4
        replace hx160_5 := pw_cell_below HB.out hx160_5
        replace hx160_6 := pw_cell_below HB.out hx160_6
        have HR160_3 := Aside0.mk hi160_3
        have HC160_3 := Aside0.mk hl160_3
        clear hi160_3 hl160_3
        have HR160_6 := Aside0.mk hi160_6
        have HC160_6 := Aside0.mk hl160_6
        clear hi160_6 hl160_6
        replace p160 := eq_true p160
        replace q160 := eq_true q160
        have p161 : 0 ≤ (x5_1 : Int) := of_decide_eq_true (by first | (with_reducible assumption) | assumption)
        have q161 : x5_1 < (l1.length : Int) := of_decide_eq_true (by first | (with_reducible assumption) | assumption)
        obtain ⟨ad161, A161_3, c161_3, A161_6, c161_6, e161, hx161_0, hx161_1, hx161_2, hx161_3, hx161_4, hx161_5, hx161_6, hl161_3, hi161_3, hl161_6, hi161_6⟩ := at_T44 HR1.out x5_1 p161 q161
        have hw161_6 := hx161_6
        have hw161_5 := hx161_5
        have hw161_4 := hx161_4
        have hw161_3 := hx161_3
        have hw161_2 := hx161_2
        have hw161_1 := hx161_1
        have hw161_0 := hx161_0
        cases e161
        replace hx161_0 := pw_cell_below HB.out hx161_0
        replace hx161_1 := pw_cell_below HB.out hx161_1
        replace hx161_2 := pw_cell_below HB.out hx161_2
        replace hx161_3 := pw_cell_below HB.out hx161_3
        replace hx161_4 := pw_cell_below HB.out hx161_4
        replace hx161_5 := pw_cell_below HB.out hx161_5
        replace hx161_6 := pw_cell_below HB.out hx161_6
        have HR161_3 := Aside0.mk hi161_3
        have HC161_3 := Aside0.mk hl161_3
        clear hi161_3 hl161_3
        have HR161_6 := Aside0.mk hi161_6
        have HC161_6 := Aside0.mk hl161_6
        clear hi161_6 hl161_6
        replace p161 := eq_true p161
        replace q161 := eq_true q161
        refine start_ (n := 10) (S := fun w' => w'.cell? (ad160.add ((x5_1).toNat * 7)) = some (.int .i64 ((rd_T44 l0 x5_1).f0)) ∧ w'.cell? ⟨(ad160.add ((x5_1).toNat * 7)).block, (ad160.add ((x5_1).toNat * 7)).off + 1, none⟩ = some (.int .i64 ((rd_T44 l0 x5_1).f1)) ∧ w'.cell? ⟨(ad160.add ((x5_1).toNat * 7)).block, (ad160.add ((x5_1).toNat * 7)).off + 2, none⟩ = some (.string ((rd_T44 l0 x5_1).f2)) ∧ w'.cell? ⟨(ad160.add ((x5_1).toNat * 7)).block, (ad160.add ((x5_1).toNat * 7)).off + 3, none⟩ = some (.slice A160_3 ((rd_T44 l0 x5_1).f3).length c160_3) ∧ w'.cell? ⟨(ad160.add ((x5_1).toNat * 7)).block, (ad160.add ((x5_1).toNat * 7)).off + 4, none⟩ = some (.string ((rd_T44 l0 x5_1).f4)) ∧ w'.cell? ⟨(ad160.add ((x5_1).toNat * 7)).block, (ad160.add ((x5_1).toNat * 7)).off + 5, none⟩ = some (.int .i64 ((rd_T44 l0 x5_1).f5)) ∧ w'.cell? ⟨(ad160.add ((x5_1).toNat * 7)).block, (ad160.add ((x5_1).toNat * 7)).off + 6, none⟩ = some (.slice A160_6 ((rd_T44 l0 x5_1).f6).length c160_6) ∧ w'.cell? (ad161.add ((x5_1).toNat * 7)) = some (.int .i64 ((rd_T44 l1 x5_1).f0)) ∧ w'.cell? ⟨(ad161.add ((x5_1).toNat * 7)).block, (ad161.add ((x5_1).toNat * 7)).off + 1, none⟩ = some (.int .i64 ((rd_T44 l1 x5_1).f1)) ∧ w'.cell? ⟨(ad161.add ((x5_1).toNat * 7)).block, (ad161.add ((x5_1).toNat * 7)).off + 2, none⟩ = some (.string ((rd_T44 l1 x5_1).f2)) ∧ w'.cell? ⟨(ad161.add ((x5_1).toNat * 7)).block, (ad161.add ((x5_1).toNat * 7)).off + 3, none⟩ = some (.slice A161_3 ((rd_T44 l1 x5_1).f3).length c161_3) ∧ w'.cell? ⟨(ad161.add ((x5_1).toNat * 7)).block, (ad161.add ((x5_1).toNat * 7)).off + 4, none⟩ = some (.string ((rd_T44 l1 x5_1).f4)) ∧ w'.cell? ⟨(ad161.add ((x5_1).toNat * 7)).block, (ad161.add ((x5_1).toNat * 7)).off + 5, none⟩ = some (.int .i64 ((rd_T44 l1 x5_1).f5)) ∧ w'.cell? ⟨(ad161.add ((x5_1).toNat * 7)).block, (ad161.add ((x5_1).toNat * 7)).off + 6, none⟩ = some (.slice A161_6 ((rd_T44 l1 x5_1).f6).length c161_6)) (ds := []) q4_0 (by kernel_rfl) rfl rfl ⟨(pw_cell_below HB.out hw160_0), (pw_cell_below HB.out hw160_1), (pw_cell_below HB.out hw160_2), (pw_cell_below HB.out hw160_3), (pw_cell_below HB.out hw160_4), (pw_cell_below HB.out hw160_5), (pw_cell_below HB.out hw160_6), (pw_cell_below HB.out hw161_0), (pw_cell_below HB.out hw161_1), (pw_cell_below HB.out hw161_2), (pw_cell_below HB.out hw161_3), (pw_cell_below HB.out hw161_4), (pw_cell_below HB.out hw161_5), (pw_cell_below HB.out hw161_6)⟩ (fun hHeld => ?_); refine with_tabW laws_eqItemS.tab6 laws_eqItemS.bits6 (fun HT_ HW_ => ?_)
        generalize wr.drew = w9 at HB HR160_3 HR160_6 HR161_3 HR161_6 hx160_0 hx160_1 hx160_2 hx160_3 hx160_4 hx160_5 hx160_6 hx161_0 hx161_1 hx161_2 hx161_3 hx161_4 hx161_5 hx161_6 hHeld ⊢
        refine pure_ (i := 0) (N := some 17) (v := ?_) (a' := ?_) q4_1 rfl rfl (any_of HT_.out (by kernel_rfl)) (fun _ _ _ h => h) (Or.inl ⟨by rfl, ?_⟩) ?_ ?_
        rotate_left;(intro w';go_simp;with_reducible rfl);rotate_left;(simp only [Act.put, sa_, sz_, ss_, i64_w, i32_w];rfl)
        refine pure_ (i := 1) (N := some 18) (v := ?_) (a' := ?_) q4_2 rfl rfl (any_of HT_.out (by kernel_rfl)) (fun _ _ _ h => h) (Or.inl ⟨by rfl, ?_⟩) ?_ ?_
        rotate_left;(intro w';go_simp;with_reducible rfl);rotate_left;(simp only [Act.put, sa_, sz_, ss_, i64_w, i32_w];rfl)
        refine pure_ (i := 2) (N := some 19) (v := ?_) (a' := ?_) q4_3 rfl rfl (any_of HT_.out (by kernel_rfl)) (fun _ _ _ h => h) (Or.inl ⟨by rfl, ?_⟩) ?_ ?_
        rotate_left;(intro w';go_simp;with_reducible rfl);rotate_left;(simp only [Act.put, sa_, sz_, ss_, i64_w, i32_w];rfl)
        refine pure_ (i := 4) (N := some 21) (v := ?_) (a' := ?_) q4_4 rfl rfl (any_of HT_.out (by kernel_rfl)) (fun _ _ _ h => h) (Or.inl ⟨by rfl, ?_⟩) ?_ ?_
        rotate_left;(intro w';go_simp;with_reducible rfl);rotate_left;(simp only [Act.put, sa_, sz_, ss_, i64_w, i32_w];rfl)
        refine pure_ (i := 5) (N := some 22) (v := ?_) (a' := ?_) q4_5 rfl rfl (any_of HT_.out (by kernel_rfl)) (fun _ _ _ h => h) (Or.inl ⟨by rfl, ?_⟩) ?_ ?_
        rotate_left;(intro w';go_simp;with_reducible rfl);rotate_left;(simp only [Act.put, sa_, sz_, ss_, i64_w, i32_w];rfl)
        refine pure_ (i := 6) (N := some 23) (v := ?_) (a' := ?_) q4_6 rfl rfl (any_of HT_.out (by kernel_rfl)) (fun _ _ _ h => h) (Or.inl ⟨by rfl, ?_⟩) ?_ ?_
        rotate_left;(intro w';go_simp;with_reducible rfl);rotate_left;(simp only [Act.put, sa_, sz_, ss_, i64_w, i32_w];rfl)
        refine take_ (i := 3) (N := some 20) (v := ?_) (a' := ?_) q4_7 rfl rfl (take_ofW HT_.out HW_.out (by kernel_rfl)) (fun _ _ _ h => h) (Or.inl ⟨by rfl, ?_⟩) hHeld ?_ ?_
        rotate_left;(rintro w' ⟨s0, s1, s2, s3, s4, s5, s6, s7, s8, s9, s10, s11, s12, s13⟩;go_simp;with_reducible rfl);rotate_left;(simp only [Act.put, sa_, sz_, ss_, i64_w, i32_w];rfl)
        refine take_ (i := 7) (N := some 24) (v := ?_) (a' := ?_) q4_8 rfl rfl (take_ofW HT_.out HW_.out (by kernel_rfl)) (fun _ _ _ h => h) (Or.inl ⟨by rfl, ?_⟩) hHeld ?_ ?_
        rotate_left;(rintro w' ⟨s0, s1, s2, s3, s4, s5, s6, s7, s8, s9, s10, s11, s12, s13⟩;go_simp;with_reducible rfl);rotate_left;(simp only [Act.put, sa_, sz_, ss_, i64_w, i32_w];rfl)
        refine one_ (i := 8) (N := some 25) q4_9 rfl rfl (one_of HT_.out (by kernel_rfl)) (by decide) (fun K hK => ?_)
        refine goes_ Try.func22 (by kernel_rfl) rfl #[.agg #[.int .i64 ((rd_T44 l0 x5_1).f0), .int .i64 ((rd_T44 l0 x5_1).f1), .string ((rd_T44 l0 x5_1).f2), .slice A160_3 ((rd_T44 l0 x5_1).f3).length c160_3, .string ((rd_T44 l0 x5_1).f4), .int .i64 ((rd_T44 l0 x5_1).f5), .slice A160_6 ((rd_T44 l0 x5_1).f6).length c160_6], .agg #[.int .i64 ((rd_T44 l1 x5_1).f0), .int .i64 ((rd_T44 l1 x5_1).f1), .string ((rd_T44 l1 x5_1).f2), .slice A161_3 ((rd_T44 l1 x5_1).f3).length c161_3, .string ((rd_T44 l1 x5_1).f4), .int .i64 ((rd_T44 l1 x5_1).f5), .slice A161_6 ((rd_T44 l1 x5_1).f6).length c161_6]] (by rfl) rfl rfl (by (try simp only [List.map_toArray, List.map_cons, List.map_nil]); first | done | rfl | (simp only [List.length_drop, List.length_take]; rfl)) ?_
        with_reducible refine (laws_eqItem.calls k1 ((rd_T44 l0 x5_1).f0) ((rd_T44 l0 x5_1).f1) ((rd_T44 l0 x5_1).f2) _ _ ((rd_T44 l0 x5_1).f3) ((rd_T44 l0 x5_1).f4) ((rd_T44 l0 x5_1).f5) _ _ ((rd_T44 l0 x5_1).f6) ((rd_T44 l1 x5_1).f0) ((rd_T44 l1 x5_1).f1) ((rd_T44 l1 x5_1).f2) _ _ ((rd_T44 l1 x5_1).f3) ((rd_T44 l1 x5_1).f4) ((rd_T44 l1 x5_1).f5) _ _ ((rd_T44 l1 x5_1).f6) true _ ?side1 ?side2 ?side3 ?side4 ?side5 ?side6 ?side7 ?side8 A7.out).mono ?_
        (case side1 => repeat (first | exact (Kd.C_below HR160_3.out HB.out) | (with_reducible refine ca_ ?_ _) | (with_reducible refine cn_ ?_ _) | (with_reducible refine cd_ ?_)))
        (case side2 => exact HC160_3.out)
        (case side3 => repeat (first | exact (Kd.C_below HR160_6.out HB.out) | (with_reducible refine ca_ ?_ _) | (with_reducible refine cn_ ?_ _) | (with_reducible refine cd_ ?_)))
        (case side4 => exact HC160_6.out)
        (case side5 => repeat (first | exact (Kd.C_below HR161_3.out HB.out) | (with_reducible refine ca_ ?_ _) | (with_reducible refine cn_ ?_ _) | (with_reducible refine cd_ ?_)))
        (case side6 => exact HC161_3.out)
        (case side7 => repeat (first | exact (Kd.C_below HR161_6.out HB.out) | (with_reducible refine ca_ ?_ _) | (with_reducible refine cn_ ?_ _) | (with_reducible refine cd_ ?_)))
        (case side8 => exact HC161_6.out)
        rintro e w10 ⟨rfl, hb⟩
        refine ⟨_, rfl, ?_⟩
        replace HB := Aside0.mk (below_step (by repeat (first | (with_reducible first | exact HB.out | apply ba_ | apply bn_ | apply b1_) | exact HB.out)) hb)
        (try clear hb)
        (try clear hb2)
        (try clear hk)
        (try clear hi)
        refine hK.out _ _ ⟨(pw_cell_below HB.out hw160_0), (pw_cell_below HB.out hw160_1), (pw_cell_below HB.out hw160_2), (pw_cell_below HB.out hw160_3), (pw_cell_below HB.out hw160_4), (pw_cell_below HB.out hw160_5), (pw_cell_below HB.out hw160_6), (pw_cell_below HB.out hw161_0), (pw_cell_below HB.out hw161_1), (pw_cell_below HB.out hw161_2), (pw_cell_below HB.out hw161_3), (pw_cell_below HB.out hw161_4), (pw_cell_below HB.out hw161_5), (pw_cell_below HB.out hw161_6)⟩ (fun hHeld => ?_)
        clear hK K
        refine norm_ (a' := ?_) ?_ ?_
        rotate_left
        ·show Act.put _ (some 25) _ = _
         simp only [Act.put, sa_, sz_, ss_, i64_w, i32_w]
         rfl
        refine pure_ (i := 9) (N := some 26) (v := ?_) (a' := ?_) q4_10 rfl rfl (any_of HT_.out (by kernel_rfl)) (fun _ _ _ h => h) (Or.inl ⟨by rfl, ?_⟩) ?_ ?_
        rotate_left;(intro w';go_simp;with_reducible rfl);rotate_left;(simp only [Act.put, sa_, sz_, ss_, i64_w, i32_w];rfl)
        refine done_ (done_of HT_.out (by kernel_rfl)) ?_
        try go_wp2
        go_roundg k1
        case measure => have := HK1.out; omega
        case rel => exact ⟨(wrap64 (x5_1 + 1)), (by first | rfl | (simp; done) | (simp [*]; done)), H', ⟨by have := HK1.out; omega⟩, ⟨by repeat (first | (with_reducible first | exact HB.out | apply ba_ | apply bn_ | apply b1_) | exact HB.out)⟩⟩
       ·replace c8 := Bool.eq_false_iff.mpr c8
        subst c8
        have H1 : (some false) = some r := by rw [if_neg (show ¬ (false = true) by decide)] at H; exact H
        clear H
        have H := H1
        clear H1
        obtain rfl := Option.some.inj H
        try go_wp2
        replace HB := Aside0.mk (b1_ HB.out)
        have p160 : 0 ≤ (x5_1 : Int) := of_decide_eq_true (by first | (with_reducible assumption) | assumption)
        have q160 : x5_1 < (l0.length : Int) := of_decide_eq_true (by first | (with_reducible assumption) | assumption)
        obtain ⟨ad160, A160_3, c160_3, A160_6, c160_6, e160, hx160_0, hx160_1, hx160_2, hx160_3, hx160_4, hx160_5, hx160_6, hl160_3, hi160_3, hl160_6, hi160_6⟩ := at_T44 HR0.out x5_1 p160 q160
        have hw160_6 := hx160_6
        have hw160_5 := hx160_5
        have hw160_4 := hx160_4
        have hw160_3 := hx160_3
        have hw160_2 := hx160_2
        have hw160_1 := hx160_1
        have hw160_0 := hx160_0
        cases e160
        replace hx160_0 := pw_cell_below HB.out hx160_0
        replace hx160_1 := pw_cell_below HB.out hx160_1
        replace hx160_2 := pw_cell_below HB.out hx160_2
        replace hx160_3 := pw_cell_below HB.out hx160_3
        replace hx160_4 := pw_cell_below HB.out hx160_4
        replace hx160_5 := pw_cell_below HB.out hx160_5
        replace hx160_6 := pw_cell_below HB.out hx160_6
        have HR160_3 := Aside0.mk hi160_3
        have HC160_3 := Aside0.mk hl160_3
        clear hi160_3 hl160_3
        have HR160_6 := Aside0.mk hi160_6
        have HC160_6 := Aside0.mk hl160_6
        clear hi160_6 hl160_6
        replace p160 := eq_true p160
        replace q160 := eq_true q160
        have p161 : 0 ≤ (x5_1 : Int) := of_decide_eq_true (by first | (with_reducible assumption) | assumption)
        have q161 : x5_1 < (l1.length : Int) := of_decide_eq_true (by first | (with_reducible assumption) | assumption)
        obtain ⟨ad161, A161_3, c161_3, A161_6, c161_6, e161, hx161_0, hx161_1, hx161_2, hx161_3, hx161_4, hx161_5, hx161_6, hl161_3, hi161_3, hl161_6, hi161_6⟩ := at_T44 HR1.out x5_1 p161 q161
        have hw161_6 := hx161_6
        have hw161_5 := hx161_5
        have hw161_4 := hx161_4
        have hw161_3 := hx161_3
        have hw161_2 := hx161_2
        have hw161_1 := hx161_1
        have hw161_0 := hx161_0
        cases e161
        replace hx161_0 := pw_cell_below HB.out hx161_0
        replace hx161_1 := pw_cell_below HB.out hx161_1
        replace hx161_2 := pw_cell_below HB.out hx161_2
        replace hx161_3 := pw_cell_below HB.out hx161_3
        replace hx161_4 := pw_cell_below HB.out hx161_4
        replace hx161_5 := pw_cell_below HB.out hx161_5
        replace hx161_6 := pw_cell_below HB.out hx161_6
        have HR161_3 := Aside0.mk hi161_3
        have HC161_3 := Aside0.mk hl161_3
        clear hi161_3 hl161_3
        have HR161_6 := Aside0.mk hi161_6
        have HC161_6 := Aside0.mk hl161_6
        clear hi161_6 hl161_6
        replace p161 := eq_true p161
        replace q161 := eq_true q161
        refine start_ (n := 10) (S := fun w' => w'.cell? (ad160.add ((x5_1).toNat * 7)) = some (.int .i64 ((rd_T44 l0 x5_1).f0)) ∧ w'.cell? ⟨(ad160.add ((x5_1).toNat * 7)).block, (ad160.add ((x5_1).toNat * 7)).off + 1, none⟩ = some (.int .i64 ((rd_T44 l0 x5_1).f1)) ∧ w'.cell? ⟨(ad160.add ((x5_1).toNat * 7)).block, (ad160.add ((x5_1).toNat * 7)).off + 2, none⟩ = some (.string ((rd_T44 l0 x5_1).f2)) ∧ w'.cell? ⟨(ad160.add ((x5_1).toNat * 7)).block, (ad160.add ((x5_1).toNat * 7)).off + 3, none⟩ = some (.slice A160_3 ((rd_T44 l0 x5_1).f3).length c160_3) ∧ w'.cell? ⟨(ad160.add ((x5_1).toNat * 7)).block, (ad160.add ((x5_1).toNat * 7)).off + 4, none⟩ = some (.string ((rd_T44 l0 x5_1).f4)) ∧ w'.cell? ⟨(ad160.add ((x5_1).toNat * 7)).block, (ad160.add ((x5_1).toNat * 7)).off + 5, none⟩ = some (.int .i64 ((rd_T44 l0 x5_1).f5)) ∧ w'.cell? ⟨(ad160.add ((x5_1).toNat * 7)).block, (ad160.add ((x5_1).toNat * 7)).off + 6, none⟩ = some (.slice A160_6 ((rd_T44 l0 x5_1).f6).length c160_6) ∧ w'.cell? (ad161.add ((x5_1).toNat * 7)) = some (.int .i64 ((rd_T44 l1 x5_1).f0)) ∧ w'.cell? ⟨(ad161.add ((x5_1).toNat * 7)).block, (ad161.add ((x5_1).toNat * 7)).off + 1, none⟩ = some (.int .i64 ((rd_T44 l1 x5_1).f1)) ∧ w'.cell? ⟨(ad161.add ((x5_1).toNat * 7)).block, (ad161.add ((x5_1).toNat * 7)).off + 2, none⟩ = some (.string ((rd_T44 l1 x5_1).f2)) ∧ w'.cell? ⟨(ad161.add ((x5_1).toNat * 7)).block, (ad161.add ((x5_1).toNat * 7)).off + 3, none⟩ = some (.slice A161_3 ((rd_T44 l1 x5_1).f3).length c161_3) ∧ w'.cell? ⟨(ad161.add ((x5_1).toNat * 7)).block, (ad161.add ((x5_1).toNat * 7)).off + 4, none⟩ = some (.string ((rd_T44 l1 x5_1).f4)) ∧ w'.cell? ⟨(ad161.add ((x5_1).toNat * 7)).block, (ad161.add ((x5_1).toNat * 7)).off + 5, none⟩ = some (.int .i64 ((rd_T44 l1 x5_1).f5)) ∧ w'.cell? ⟨(ad161.add ((x5_1).toNat * 7)).block, (ad161.add ((x5_1).toNat * 7)).off + 6, none⟩ = some (.slice A161_6 ((rd_T44 l1 x5_1).f6).length c161_6)) (ds := []) q4_0 (by kernel_rfl) rfl rfl ⟨(pw_cell_below HB.out hw160_0), (pw_cell_below HB.out hw160_1), (pw_cell_below HB.out hw160_2), (pw_cell_below HB.out hw160_3), (pw_cell_below HB.out hw160_4), (pw_cell_below HB.out hw160_5), (pw_cell_below HB.out hw160_6), (pw_cell_below HB.out hw161_0), (pw_cell_below HB.out hw161_1), (pw_cell_below HB.out hw161_2), (pw_cell_below HB.out hw161_3), (pw_cell_below HB.out hw161_4), (pw_cell_below HB.out hw161_5), (pw_cell_below HB.out hw161_6)⟩ (fun hHeld => ?_); refine with_tabW laws_eqItemS.tab6 laws_eqItemS.bits6 (fun HT_ HW_ => ?_)
        generalize wr.drew = w11 at HB HR160_3 HR160_6 HR161_3 HR161_6 hx160_0 hx160_1 hx160_2 hx160_3 hx160_4 hx160_5 hx160_6 hx161_0 hx161_1 hx161_2 hx161_3 hx161_4 hx161_5 hx161_6 hHeld ⊢
        refine pure_ (i := 0) (N := some 17) (v := ?_) (a' := ?_) q4_1 rfl rfl (any_of HT_.out (by kernel_rfl)) (fun _ _ _ h => h) (Or.inl ⟨by rfl, ?_⟩) ?_ ?_
        rotate_left;(intro w';go_simp;with_reducible rfl);rotate_left;(simp only [Act.put, sa_, sz_, ss_, i64_w, i32_w];rfl)
        refine pure_ (i := 1) (N := some 18) (v := ?_) (a' := ?_) q4_2 rfl rfl (any_of HT_.out (by kernel_rfl)) (fun _ _ _ h => h) (Or.inl ⟨by rfl, ?_⟩) ?_ ?_
        rotate_left;(intro w';go_simp;with_reducible rfl);rotate_left;(simp only [Act.put, sa_, sz_, ss_, i64_w, i32_w];rfl)
        refine pure_ (i := 2) (N := some 19) (v := ?_) (a' := ?_) q4_3 rfl rfl (any_of HT_.out (by kernel_rfl)) (fun _ _ _ h => h) (Or.inl ⟨by rfl, ?_⟩) ?_ ?_
        rotate_left;(intro w';go_simp;with_reducible rfl);rotate_left;(simp only [Act.put, sa_, sz_, ss_, i64_w, i32_w];rfl)
        refine pure_ (i := 4) (N := some 21) (v := ?_) (a' := ?_) q4_4 rfl rfl (any_of HT_.out (by kernel_rfl)) (fun _ _ _ h => h) (Or.inl ⟨by rfl, ?_⟩) ?_ ?_
        rotate_left;(intro w';go_simp;with_reducible rfl);rotate_left;(simp only [Act.put, sa_, sz_, ss_, i64_w, i32_w];rfl)
        refine pure_ (i := 5) (N := some 22) (v := ?_) (a' := ?_) q4_5 rfl rfl (any_of HT_.out (by kernel_rfl)) (fun _ _ _ h => h) (Or.inl ⟨by rfl, ?_⟩) ?_ ?_
        rotate_left;(intro w';go_simp;with_reducible rfl);rotate_left;(simp only [Act.put, sa_, sz_, ss_, i64_w, i32_w];rfl)
        refine pure_ (i := 6) (N := some 23) (v := ?_) (a' := ?_) q4_6 rfl rfl (any_of HT_.out (by kernel_rfl)) (fun _ _ _ h => h) (Or.inl ⟨by rfl, ?_⟩) ?_ ?_
        rotate_left;(intro w';go_simp;with_reducible rfl);rotate_left;(simp only [Act.put, sa_, sz_, ss_, i64_w, i32_w];rfl)
        refine take_ (i := 3) (N := some 20) (v := ?_) (a' := ?_) q4_7 rfl rfl (take_ofW HT_.out HW_.out (by kernel_rfl)) (fun _ _ _ h => h) (Or.inl ⟨by rfl, ?_⟩) hHeld ?_ ?_
        rotate_left;(rintro w' ⟨s0, s1, s2, s3, s4, s5, s6, s7, s8, s9, s10, s11, s12, s13⟩;go_simp;with_reducible rfl);rotate_left;(simp only [Act.put, sa_, sz_, ss_, i64_w, i32_w];rfl)
        refine take_ (i := 7) (N := some 24) (v := ?_) (a' := ?_) q4_8 rfl rfl (take_ofW HT_.out HW_.out (by kernel_rfl)) (fun _ _ _ h => h) (Or.inl ⟨by rfl, ?_⟩) hHeld ?_ ?_
        rotate_left;(rintro w' ⟨s0, s1, s2, s3, s4, s5, s6, s7, s8, s9, s10, s11, s12, s13⟩;go_simp;with_reducible rfl);rotate_left;(simp only [Act.put, sa_, sz_, ss_, i64_w, i32_w];rfl)
        refine one_ (i := 8) (N := some 25) q4_9 rfl rfl (one_of HT_.out (by kernel_rfl)) (by decide) (fun K hK => ?_)
        refine goes_ Try.func22 (by kernel_rfl) rfl #[.agg #[.int .i64 ((rd_T44 l0 x5_1).f0), .int .i64 ((rd_T44 l0 x5_1).f1), .string ((rd_T44 l0 x5_1).f2), .slice A160_3 ((rd_T44 l0 x5_1).f3).length c160_3, .string ((rd_T44 l0 x5_1).f4), .int .i64 ((rd_T44 l0 x5_1).f5), .slice A160_6 ((rd_T44 l0 x5_1).f6).length c160_6], .agg #[.int .i64 ((rd_T44 l1 x5_1).f0), .int .i64 ((rd_T44 l1 x5_1).f1), .string ((rd_T44 l1 x5_1).f2), .slice A161_3 ((rd_T44 l1 x5_1).f3).length c161_3, .string ((rd_T44 l1 x5_1).f4), .int .i64 ((rd_T44 l1 x5_1).f5), .slice A161_6 ((rd_T44 l1 x5_1).f6).length c161_6]] (by rfl) rfl rfl (by (try simp only [List.map_toArray, List.map_cons, List.map_nil]); first | done | rfl | (simp only [List.length_drop, List.length_take]; rfl)) ?_
        with_reducible refine (laws_eqItem.calls k1 ((rd_T44 l0 x5_1).f0) ((rd_T44 l0 x5_1).f1) ((rd_T44 l0 x5_1).f2) _ _ ((rd_T44 l0 x5_1).f3) ((rd_T44 l0 x5_1).f4) ((rd_T44 l0 x5_1).f5) _ _ ((rd_T44 l0 x5_1).f6) ((rd_T44 l1 x5_1).f0) ((rd_T44 l1 x5_1).f1) ((rd_T44 l1 x5_1).f2) _ _ ((rd_T44 l1 x5_1).f3) ((rd_T44 l1 x5_1).f4) ((rd_T44 l1 x5_1).f5) _ _ ((rd_T44 l1 x5_1).f6) false _ ?side1 ?side2 ?side3 ?side4 ?side5 ?side6 ?side7 ?side8 A7.out).mono ?_
        (case side1 => repeat (first | exact (Kd.C_below HR160_3.out HB.out) | (with_reducible refine ca_ ?_ _) | (with_reducible refine cn_ ?_ _) | (with_reducible refine cd_ ?_)))
        (case side2 => exact HC160_3.out)
        (case side3 => repeat (first | exact (Kd.C_below HR160_6.out HB.out) | (with_reducible refine ca_ ?_ _) | (with_reducible refine cn_ ?_ _) | (with_reducible refine cd_ ?_)))
        (case side4 => exact HC160_6.out)
        (case side5 => repeat (first | exact (Kd.C_below HR161_3.out HB.out) | (with_reducible refine ca_ ?_ _) | (with_reducible refine cn_ ?_ _) | (with_reducible refine cd_ ?_)))
        (case side6 => exact HC161_3.out)
        (case side7 => repeat (first | exact (Kd.C_below HR161_6.out HB.out) | (with_reducible refine ca_ ?_ _) | (with_reducible refine cn_ ?_ _) | (with_reducible refine cd_ ?_)))
        (case side8 => exact HC161_6.out)
        rintro e w12 ⟨rfl, hb⟩
        refine ⟨_, rfl, ?_⟩
        replace HB := Aside0.mk (below_step (by repeat (first | (with_reducible first | exact HB.out | apply ba_ | apply bn_ | apply b1_) | exact HB.out)) hb)
        (try clear hb)
        (try clear hb2)
        (try clear hk)
        (try clear hi)
        refine hK.out _ _ ⟨(pw_cell_below HB.out hw160_0), (pw_cell_below HB.out hw160_1), (pw_cell_below HB.out hw160_2), (pw_cell_below HB.out hw160_3), (pw_cell_below HB.out hw160_4), (pw_cell_below HB.out hw160_5), (pw_cell_below HB.out hw160_6), (pw_cell_below HB.out hw161_0), (pw_cell_below HB.out hw161_1), (pw_cell_below HB.out hw161_2), (pw_cell_below HB.out hw161_3), (pw_cell_below HB.out hw161_4), (pw_cell_below HB.out hw161_5), (pw_cell_below HB.out hw161_6)⟩ (fun hHeld => ?_)
        clear hK K
        refine norm_ (a' := ?_) ?_ ?_
        rotate_left
        ·show Act.put _ (some 25) _ = _
         simp only [Act.put, sa_, sz_, ss_, i64_w, i32_w]
         rfl
        refine pure_ (i := 9) (N := some 26) (v := ?_) (a' := ?_) q4_10 rfl rfl (any_of HT_.out (by kernel_rfl)) (fun _ _ _ h => h) (Or.inl ⟨by rfl, ?_⟩) ?_ ?_
        rotate_left;(intro w';go_simp;with_reducible rfl);rotate_left;(simp only [Act.put, sa_, sz_, ss_, i64_w, i32_w];rfl)
        refine done_ (done_of HT_.out (by kernel_rfl)) ?_
        try go_wp2
        go_ret
        exact ⟨by first | rfl | (simp [errW_none, errW_some] <;> rfl) | (simp [*, errW_none, errW_some] <;> rfl), by repeat (first | (with_reducible first | exact HB.out | apply ba_ | apply bn_ | apply b1_) | exact HB.out)⟩
      ·rw [if_neg c6] at H
       exact absurd H (by simp)
     ·rw [if_neg c5] at H
      exact absurd H (by simp)
    ·rw [if_neg c4] at H
     have c4b0 : decide (x5_1 < (l0.length : Int)) = false := decide_eq_false c4
     clear c4
     obtain rfl := Option.some.inj H
     go_wp2
     go_ret
     exact ⟨by first | rfl | (simp [errW_none, errW_some] <;> rfl) | (simp [*, errW_none, errW_some] <;> rfl), by repeat (first | (with_reducible first | exact HB.out | apply ba_ | apply bn_ | apply b1_) | exact HB.out)⟩
 ·rw [if_neg c3] at H
  have c3b0 : ((l0.length : Int) == (l1.length : Int)) = false := beq_eq_false_iff_ne.mpr c3
  have c3b1 : ((l0.length : Int) != (l1.length : Int)) = true := bne_iff_ne.mpr c3
  have c3b2 : (l0.length == l1.length) = false := by first | simpa using c3 | (simp at c3 ⊢; omega)
  obtain rfl := Option.some.inj H
  go_enter Try.func21, Try.ntmps21
  go_wp2
  go_ret
  exact ⟨by first | rfl | (simp [errW_none, errW_some] <;> rfl) | (simp [*, errW_none, errW_some] <;> rfl), by repeat (first | (with_reducible first | exact HB.out | apply ba_ | apply bn_ | apply b1_) | exact HB.out)⟩
def spec_l1In.f (a0 : Int) (a1 : Int) (a2 : Int) : Option (Bool) := if a0 ≥ a1 then (some (decide (a0 ≤ a2))) else (some false)
set_option maxHeartbeats 8000000 in
set_option maxRecDepth 100000 in
theorem spec_l1In.calls (a0 : Int) (a1 : Int) (a2 : Int) (r : Bool) (w : World) (h : spec_l1In.f a0 a1 a2 = some r) :
  Calls Try.prog 49 #[.int .i64 a0, .int .i64 a1, .int .i64 a2] w fun e w' => e = .returned (.bool r) ∧ Drawn0 w w' := by
 have H : (if a0 ≥ a1 then (some (decide (a0 ≤ a2))) else (some false)) = some r := h
 clear h
 by_cases c4 : a0 ≥ a1
 ·rw [if_pos c4] at H
  have c4b0 : decide (a1 ≤ a0) = true := decide_eq_true c4
  clear c4
  obtain rfl := Option.some.inj H
  go_enter Try.func49, Try.ntmps49
  go_wp2
  go_ret
  exact ⟨by first | rfl | (simp; done) | (simp [*]; done), by repeat (first | exact Drawn0.refl _ | apply Drawn0.step)⟩
 ·rw [if_neg c4] at H
  have c4b0 : decide (a1 ≤ a0) = false := decide_eq_false c4
  clear c4
  obtain rfl := Option.some.inj H
  go_enter Try.func49, Try.ntmps49
  go_wp2
  go_ret
  exact ⟨by first | rfl | (simp; done) | (simp [*]; done), by repeat (first | exact Drawn0.refl _ | apply Drawn0.step)⟩
def spec_l4Has.l0 : Nat → List (S91) → ByteArray → Int → Option (Bool)
 | 0, _, _, _ => none
 | k + 1, x0, x1, x5 => if x5 < (x0.length : Int) then (if 0 ≤ x5 then (if ((rd_T91 x0 x5).f0).toList = x1.toList then (some true) else (spec_l4Has.l0 k x0 x1 (wrap64 (x5 + 1)))) else (none)) else (some false)
def spec_l4Has.f (k : Nat) (l0 : List (S91)) (a1 : ByteArray) : Option (Bool) := spec_l4Has.l0 k l0 a1 0
theorem spec_l4Has.mono_l : ∀ k, (∀ y0 y1 y2, LeO (spec_l4Has.l0 k y0 y1 y2) (spec_l4Has.l0 (k + 1) y0 y1 y2))
 | 0 => fun _ _ _ r h => by simp [spec_l4Has.l0] at h
 | k + 1 => by
  have ih0 := spec_l4Has.mono_l k
  ·intro y0 y1 y2
   unfold spec_l4Has.l0
   repeat' first
   | (with_reducible exact ih0 _ _ _)
   | (with_reducible exact LeO.refl _)
   | (with_reducible exact LeO.none _)
   | (with_reducible refine LeO.ite ?_ ?_)
   | (with_reducible refine LeO.bind ?_ (fun _ => ?_))
theorem spec_l4Has.mono : ∀ a0 a1 k, LeO (spec_l4Has.f k a0 a1) (spec_l4Has.f (k + 1) a0 a1) := by
 intro a0 a1 k
 have ih0 := spec_l4Has.mono_l k
 unfold spec_l4Has.f
 repeat' first
   | (with_reducible exact ih0 _ _ _)
   | (with_reducible exact LeO.refl _)
   | (with_reducible exact LeO.none _)
   | (with_reducible refine LeO.ite ?_ ?_)
   | (with_reducible refine LeO.bind ?_ (fun _ => ?_))
set_option maxHeartbeats 8000000 in
set_option maxRecDepth 100000 in
theorem spec_l4Has.calls (k : Nat) (A0 : Option Addr) (c0 : Nat) (l0 : List (S91)) (a1 : ByteArray) (r : Bool) (w : World) (hr0 : Kd.C k91 w A0 l0.length l0) (hc0 : l0.length ≤ c0) (h : spec_l4Has.f k l0 a1 = some r) :
  Calls Try.prog 84 #[.slice A0 l0.length c0, .string a1] w fun e w' => e = .returned (.bool r) ∧ Drawn0 w w' := by
 have HR0 := Aside0.mk hr0
 have HC0 := Aside0.mk hc0
 clear hr0 hc0
 have H : (spec_l4Has.l0 k l0 a1 0) = some r := h
 clear h
 have H' := Aside0.mk H
 clear H
 go_enter Try.func84, Try.ntmps84
 go_wp2
 go_loopg [5] k (fun kq v5 w' => ∃ (x5_1 : Int), v5 = .int .i64 x5_1 ∧ Aside0 (spec_l4Has.l0 kq l0 a1 x5_1 = some r) ∧ Aside0 (kq ≤ k) ∧ Drawn0 w w')
 case atStart => exact ⟨(0), (by first | rfl | (simp; done) | (simp [*]; done)), H', ⟨Nat.le_refl _⟩, by repeat (first | exact Drawn0.refl _ | apply Drawn0.step)⟩
 case round =>
  clear H'
  try clear p2
  obtain ⟨x5_1, rfl, HA, HK1, ⟨m1, rfl⟩⟩ := hrel
  cases gk with
  | zero => exact absurd HA.out (by simp [spec_l4Has.l0])
  | succ k1 =>
   have H := HA.out
   clear HA
   simp only [spec_l4Has.l0] at H
   by_cases c3 : x5_1 < (l0.length : Int)
   ·rw [if_pos c3] at H
    have c3b0 : decide (x5_1 < (l0.length : Int)) = true := decide_eq_true c3
    clear c3
    by_cases c4 : 0 ≤ x5_1
    ·rw [if_pos c4] at H
     have c4b0 : decide (0 ≤ x5_1) = true := decide_eq_true c4
     clear c4
     by_cases c5 : ((rd_T91 l0 x5_1).f0).toList = a1.toList
     ·rw [if_pos c5] at H
      have c5b0 : (((rd_T91 l0 x5_1).f0).toList == a1.toList) = true := beq_iff_eq.mpr c5
      have c5b1 : (((rd_T91 l0 x5_1).f0).toList != a1.toList) = false := bne_eq_false_iff_eq.mpr c5
      clear c5
      obtain rfl := Option.some.inj H
      have p163 : 0 ≤ (x5_1 : Int) := of_decide_eq_true (by first | (with_reducible assumption) | assumption)
      have q163 : x5_1 < (l0.length : Int) := of_decide_eq_true (by first | (with_reducible assumption) | assumption)
      obtain ⟨ad163, e163, hx163_0, hx163_1⟩ := at_T91 HR0.out x5_1 p163 q163
      cases e163
      replace p163 := eq_true p163
      replace q163 := eq_true q163
      go_wp2
      go_ret
      exact ⟨by first | rfl | (simp; done) | (simp [*]; done), by repeat (first | exact Drawn0.refl _ | apply Drawn0.step)⟩
     ·rw [if_neg c5] at H
      have c5b0 : (((rd_T91 l0 x5_1).f0).toList == a1.toList) = false := beq_eq_false_iff_ne.mpr c5
      have c5b1 : (((rd_T91 l0 x5_1).f0).toList != a1.toList) = true := bne_iff_ne.mpr c5
      have H' := Aside0.mk H
      clear H
      have p163 : 0 ≤ (x5_1 : Int) := of_decide_eq_true (by first | (with_reducible assumption) | assumption)
      have q163 : x5_1 < (l0.length : Int) := of_decide_eq_true (by first | (with_reducible assumption) | assumption)
      obtain ⟨ad163, e163, hx163_0, hx163_1⟩ := at_T91 HR0.out x5_1 p163 q163
      cases e163
      replace p163 := eq_true p163
      replace q163 := eq_true q163
      go_wp2
      go_roundg k1
      case measure => have := HK1.out; omega
      case rel => exact ⟨(wrap64 (x5_1 + 1)), (by first | rfl | (simp; done) | (simp [*]; done)), H', ⟨by have := HK1.out; omega⟩, by repeat (first | exact Drawn0.refl _ | apply Drawn0.step)⟩
    ·rw [if_neg c4] at H
     exact absurd H (by simp)
   ·rw [if_neg c3] at H
    have c3b0 : decide (x5_1 < (l0.length : Int)) = false := decide_eq_false c3
    clear c3
    obtain rfl := Option.some.inj H
    go_wp2
    go_ret
    exact ⟨by first | rfl | (simp; done) | (simp [*]; done), by repeat (first | exact Drawn0.refl _ | apply Drawn0.step)⟩
end Go.Proofs.Ytbgedpicfllclaa.PFnExactSameTree
