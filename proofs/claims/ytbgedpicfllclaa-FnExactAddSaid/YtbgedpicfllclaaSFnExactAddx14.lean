-- Written by this session's program wip/slim.py out of the print's texts. Lean checks it.
import Derived.Test.YtbgedpicfllclaaSFnExactAddx0
import Derived.Test.YtbgedpicfllclaaSFnExactAddx11
import Derived.Test.YtbgedpicfllclaaSFnExactAddx12
import Derived.Test.YtbgedpicfllclaaSFnExactAddx13
namespace Go.Proofs.Ytbgedpicfllclaa.PFnExactAdd
open Go.RowKit Go.Proofs.YtbgedpicfllclaaW.PrintWords Go.Proofs.YtbgedpicfllclaaW.PrintLast Go.Proofs.YtbgedpicfllclaaW.PrintMore
def q14_0 : Array Bool := bz 8 0
def q14_1 : Array Bool := bz 8 1
def q14_2 : Array Bool := bz 8 3
def q14_3 : Array Bool := bz 8 7
def q14_4 : Array Bool := bz 8 15
def q14_5 : Array Bool := bz 8 47
def q14_6 : Array Bool := bz 8 63
def q14_7 : Array Bool := bz 8 127
def q14_8 : Array Bool := bz 8 255
attribute [local go_sem] max2_int min2_int max_two min_two max_three min_three max_four min_four
set_option linter.unusedVariables false
set_option linter.unusedSimpArgs false
def laws_heldItemS.l0 : Nat → List (S44) → Int → Int → Option (Int)
 | 0, _, _, _ => none
 | k + 1, x0, x1, x5 => if x5 < (x0.length : Int) then (if 0 ≤ x5 then (if ((rd_T44 x0 x5).f0) = x1 then (if ((rd_T44 x0 x5).f1) = (wrap64 (x1 + 1)) then ((laws_markText.f k (wrap64 ((wrap64 (x1 + 1)) + 1))).bind fun t318 => (if ((rd_T44 x0 x5).f2).toList = t318.toList then ((laws_heldAttrS.f k ((rd_T44 x0 x5).f3) (wrap64 ((wrap64 ((wrap64 (x1 + 1)) + 1)) + 1))).bind fun t320 => (if t320 < 0 then (some (-1)) else ((laws_markText.f k t320).bind fun t322 => (if ((rd_T44 x0 x5).f4).toList = t322.toList then (if ((rd_T44 x0 x5).f5) = (wrap64 (t320 + 1)) then ((laws_heldIntS.f k ((rd_T44 x0 x5).f6) (wrap64 ((wrap64 (t320 + 1)) + 1))).bind fun t325 => (if t325 < 0 then (some (-1)) else (laws_heldItemS.l0 k x0 t325 (wrap64 (x5 + 1))))) else (some (-1))) else (some (-1)))))) else (some (-1)))) else (some (-1))) else (some (-1))) else (none)) else (some x1)
def laws_heldItemS.f (k : Nat) (l0 : List (S44)) (a1 : Int) : Option (Int) := laws_heldItemS.l0 k l0 a1 0
theorem laws_heldItemS.mono_l : ∀ k, (∀ y0 y1 y2, LeO (laws_heldItemS.l0 k y0 y1 y2) (laws_heldItemS.l0 (k + 1) y0 y1 y2))
 | 0 => fun _ _ _ r h => by simp [laws_heldItemS.l0] at h
 | k + 1 => by
  have ih0 := laws_heldItemS.mono_l k
  ·intro y0 y1 y2
   unfold laws_heldItemS.l0
   repeat' first
   | (with_reducible exact ih0 _ _ _)
   | (with_reducible exact laws_heldAttrS.mono _ _ _)
   | (with_reducible exact laws_heldIntS.mono _ _ _)
   | (with_reducible exact laws_markText.mono _ _)
   | (with_reducible exact LeO.refl _)
   | (with_reducible exact LeO.none _)
   | (with_reducible refine LeO.ite ?_ ?_)
   | (with_reducible refine LeO.bind ?_ (fun _ => ?_))
theorem laws_heldItemS.mono : ∀ a0 a1 k, LeO (laws_heldItemS.f k a0 a1) (laws_heldItemS.f (k + 1) a0 a1) := by
 intro a0 a1 k
 have ih0 := laws_heldItemS.mono_l k
 unfold laws_heldItemS.f
 repeat' first
   | (with_reducible exact ih0 _ _ _)
   | (with_reducible exact laws_heldAttrS.mono _ _ _)
   | (with_reducible exact laws_heldIntS.mono _ _ _)
   | (with_reducible exact laws_markText.mono _ _)
   | (with_reducible exact LeO.refl _)
   | (with_reducible exact LeO.none _)
   | (with_reducible refine LeO.ite ?_ ?_)
   | (with_reducible refine LeO.bind ?_ (fun _ => ?_))
def laws_heldItemS.T10 : Bool × List (List Nat × List Nat) := (true, [([], []), ([], []), ([0, 1], [0, 1]), ([2], [2]), ([3], [3]), ([], []), ([5], [5]), ([4, 6], [4, 6])])
def laws_heldItemS.B10 : List Nat := [0, 0, 3, 7, 15, 0, 32, 127]
theorem laws_heldItemS.tab10 : rtab .any (opsOf Try.f25 10) = laws_heldItemS.T10 := by kernel_rfl
theorem laws_heldItemS.bits10 : waitsOk laws_heldItemS.T10.2 laws_heldItemS.B10 = true := by kernel_rfl
def laws_heldItemS.T16 : Bool × List (List Nat × List Nat) := (true, [([], []), ([], []), ([0, 1], [0, 1]), ([2], [2]), ([3], [3]), ([], []), ([5], [5]), ([4, 6], [4, 6])])
def laws_heldItemS.B16 : List Nat := [0, 0, 3, 7, 15, 0, 32, 127]
theorem laws_heldItemS.tab16 : rtab .any (opsOf Try.f25 16) = laws_heldItemS.T16 := by kernel_rfl
theorem laws_heldItemS.bits16 : waitsOk laws_heldItemS.T16.2 laws_heldItemS.B16 = true := by kernel_rfl
set_option maxHeartbeats 8000000 in
set_option maxRecDepth 100000 in
theorem laws_heldItemS.calls (k : Nat) (A0 : Option Addr) (c0 : Nat) (l0 : List (S44)) (a1 : Int) (r : Int) (w : World) (hr0 : Kd.C k44 w A0 l0.length l0) (hc0 : l0.length ≤ c0) (h : laws_heldItemS.f k l0 a1 = some r) :
  Calls Try.prog 25 #[.slice A0 l0.length c0, .int .i64 a1] w fun e w' => e = .returned (.int .i64 r) ∧ Below w.heap.size w w' := by
 have HR0 := Aside0.mk hr0
 have HC0 := Aside0.mk hc0
 clear hr0 hc0
 have HB := Aside0.mk (Below.refl w.heap.size w)
 have H : (laws_heldItemS.l0 k l0 a1 0) = some r := h
 clear h
 have H' := Aside0.mk H
 clear H
 go_enter Try.func25, Try.ntmps25
 go_wp2
 go_loopg [1, 5] k (fun kq v1 v5 w' => ∃ (x1_1 : Int) (x5_1 : Int), v1 = .int .i64 x1_1 ∧ v5 = .int .i64 x5_1 ∧ Aside0 (laws_heldItemS.l0 kq l0 x1_1 x5_1 = some r) ∧ Aside0 (kq ≤ k) ∧ Aside0 (Below w.heap.size w w'))
 case atStart => exact ⟨(a1), (0), (by first | rfl | (simp; done) | (simp [*]; done)), (by first | rfl | (simp; done) | (simp [*]; done)), H', ⟨Nat.le_refl _⟩, ⟨by repeat (first | (with_reducible first | exact HB.out | apply ba_ | apply bn_ | apply b1_) | exact HB.out)⟩⟩
 case round =>
  clear H'
  obtain ⟨x1_1, x5_1, rfl, rfl, HA, HK1, HB⟩ := hrel
  cases gk with
  | zero => exact absurd HA.out (by simp [laws_heldItemS.l0])
  | succ k1 =>
   have H := HA.out
   clear HA
   simp only [laws_heldItemS.l0] at H
   by_cases c3 : x5_1 < (l0.length : Int)
   ·rw [if_pos c3] at H
    have c3b0 : decide (x5_1 < (l0.length : Int)) = true := decide_eq_true c3
    clear c3
    by_cases c4 : 0 ≤ x5_1
    ·rw [if_pos c4] at H
     have c4b0 : decide (0 ≤ x5_1) = true := decide_eq_true c4
     clear c4
     by_cases c5 : ((rd_T44 l0 x5_1).f0) = x1_1
     ·rw [if_pos c5] at H
      have c5b0 : (((rd_T44 l0 x5_1).f0) == x1_1) = true := beq_iff_eq.mpr c5
      have c5b1 : (((rd_T44 l0 x5_1).f0) != x1_1) = false := bne_eq_false_iff_eq.mpr c5
      clear c5
      by_cases c6 : ((rd_T44 l0 x5_1).f1) = (wrap64 (x1_1 + 1))
      ·rw [if_pos c6] at H
       have c6b0 : (((rd_T44 l0 x5_1).f1) == (wrap64 (x1_1 + 1))) = true := beq_iff_eq.mpr c6
       have c6b1 : (((rd_T44 l0 x5_1).f1) != (wrap64 (x1_1 + 1))) = false := bne_eq_false_iff_eq.mpr c6
       clear c6
       replace H := Option.bind_eq_some_iff.mp H
       obtain ⟨t318, A70, H⟩ := H
       replace H : (if ((rd_T44 l0 x5_1).f2).toList = t318.toList then ((laws_heldAttrS.f k1 ((rd_T44 l0 x5_1).f3) (wrap64 ((wrap64 ((wrap64 (x1_1 + 1)) + 1)) + 1))).bind fun t320 => (if t320 < 0 then (some (-1)) else ((laws_markText.f k1 t320).bind fun t322 => (if ((rd_T44 l0 x5_1).f4).toList = t322.toList then (if ((rd_T44 l0 x5_1).f5) = (wrap64 (t320 + 1)) then ((laws_heldIntS.f k1 ((rd_T44 l0 x5_1).f6) (wrap64 ((wrap64 (t320 + 1)) + 1))).bind fun t325 => (if t325 < 0 then (some (-1)) else (laws_heldItemS.l0 k1 l0 t325 (wrap64 (x5_1 + 1))))) else (some (-1))) else (some (-1)))))) else (some (-1))) = some r := H
       have A7 := Aside0.mk A70
       clear A70
       by_cases c8 : ((rd_T44 l0 x5_1).f2).toList = t318.toList
       ·rw [if_pos c8] at H
        have c8b0 : (((rd_T44 l0 x5_1).f2).toList == t318.toList) = true := beq_iff_eq.mpr c8
        have c8b1 : (((rd_T44 l0 x5_1).f2).toList != t318.toList) = false := bne_eq_false_iff_eq.mpr c8
        clear c8
        replace H := Option.bind_eq_some_iff.mp H
        obtain ⟨t320, A90, H⟩ := H
        replace H : (if t320 < 0 then (some (-1)) else ((laws_markText.f k1 t320).bind fun t322 => (if ((rd_T44 l0 x5_1).f4).toList = t322.toList then (if ((rd_T44 l0 x5_1).f5) = (wrap64 (t320 + 1)) then ((laws_heldIntS.f k1 ((rd_T44 l0 x5_1).f6) (wrap64 ((wrap64 (t320 + 1)) + 1))).bind fun t325 => (if t325 < 0 then (some (-1)) else (laws_heldItemS.l0 k1 l0 t325 (wrap64 (x5_1 + 1))))) else (some (-1))) else (some (-1))))) = some r := H
        have A9 := Aside0.mk A90
        clear A90
        by_cases c10 : t320 < 0
        ·rw [if_pos c10] at H
         have c10b0 : decide (t320 < 0) = true := decide_eq_true c10
         clear c10
         obtain rfl := Option.some.inj H
         have p315 : 0 ≤ (x5_1 : Int) := dq_ (by assumption)
         have q315 : x5_1 < (l0.length : Int) := dq_ (by assumption)
         obtain ⟨ad315, A315_3, c315_3, A315_6, c315_6, e315, hx315_0, hx315_1, hx315_2, hx315_3, hx315_4, hx315_5, hx315_6, hl315_3, hi315_3, hl315_6, hi315_6⟩ := at_T44 HR0.out x5_1 p315 q315
         cases e315
         replace hx315_0 := pw_cell_below HB.out hx315_0
         replace hx315_1 := pw_cell_below HB.out hx315_1
         replace hx315_2 := pw_cell_below HB.out hx315_2
         replace hx315_3 := pw_cell_below HB.out hx315_3
         replace hx315_4 := pw_cell_below HB.out hx315_4
         replace hx315_5 := pw_cell_below HB.out hx315_5
         replace hx315_6 := pw_cell_below HB.out hx315_6
         have HR315_3 := Aside0.mk hi315_3
         have HC315_3 := Aside0.mk hl315_3
         clear hi315_3 hl315_3
         have HR315_6 := Aside0.mk hi315_6
         have HC315_6 := Aside0.mk hl315_6
         clear hi315_6 hl315_6
         replace p315 := eq_true p315
         replace q315 := eq_true q315
         have p316 : 0 ≤ (x5_1 : Int) := dq_ (by assumption)
         have q316 : x5_1 < (l0.length : Int) := dq_ (by assumption)
         obtain ⟨ad316, A316_3, c316_3, A316_6, c316_6, e316, hx316_0, hx316_1, hx316_2, hx316_3, hx316_4, hx316_5, hx316_6, hl316_3, hi316_3, hl316_6, hi316_6⟩ := at_T44 HR0.out x5_1 p316 q316
         obtain rfl : ad315 = ad316 := (by injection e316)
         replace hx316_0 := pw_cell_below HB.out hx316_0
         replace hx316_1 := pw_cell_below HB.out hx316_1
         replace hx316_2 := pw_cell_below HB.out hx316_2
         replace hx316_3 := pw_cell_below HB.out hx316_3
         replace hx316_4 := pw_cell_below HB.out hx316_4
         replace hx316_5 := pw_cell_below HB.out hx316_5
         replace hx316_6 := pw_cell_below HB.out hx316_6
         have HR316_3 := Aside0.mk hi316_3
         have HC316_3 := Aside0.mk hl316_3
         clear hi316_3 hl316_3
         have HR316_6 := Aside0.mk hi316_6
         have HC316_6 := Aside0.mk hl316_6
         clear hi316_6 hl316_6
         replace p316 := eq_true p316
         replace q316 := eq_true q316
         have ea_ := Option.some.inj (hx315_3.symm.trans hx316_3)
         injection ea_ with ea_ en_ ec_
         subst ea_
         subst ec_
         clear en_
         have ea_ := Option.some.inj (hx315_6.symm.trans hx316_6)
         injection ea_ with ea_ en_ ec_
         subst ea_
         subst ec_
         clear en_
         try go_wp2
         replace HB := Aside0.mk (b1_ HB.out)
         have p317 : 0 ≤ (x5_1 : Int) := dq_ (by assumption)
         have q317 : x5_1 < (l0.length : Int) := dq_ (by assumption)
         ((try clear hHeld); (try clear hx315_0); (try clear hx315_1); (try clear hx315_2); (try clear hx315_3); (try clear hx315_4); (try clear hx315_5); (try clear hx315_6); (try clear hx316_0); (try clear hx316_1); (try clear hx316_2); (try clear hx316_3); (try clear hx316_4); (try clear hx316_5); (try clear hx316_6)) -- MENDOPEN
         obtain ⟨ad317, A317_3, c317_3, A317_6, c317_6, e317, hx317_0, hx317_1, hx317_2, hx317_3, hx317_4, hx317_5, hx317_6, hl317_3, hi317_3, hl317_6, hi317_6⟩ := at_T44 HR0.out x5_1 p317 q317
         have hw317_6 := hx317_6
         have hw317_5 := hx317_5
         have hw317_4 := hx317_4
         have hw317_3 := hx317_3
         have hw317_2 := hx317_2
         have hw317_1 := hx317_1
         have hw317_0 := hx317_0
         obtain rfl : ad315 = ad317 := (by injection e317)
         replace hx317_0 := pw_cell_below HB.out hx317_0
         replace hx317_1 := pw_cell_below HB.out hx317_1
         replace hx317_2 := pw_cell_below HB.out hx317_2
         replace hx317_3 := pw_cell_below HB.out hx317_3
         replace hx317_4 := pw_cell_below HB.out hx317_4
         replace hx317_5 := pw_cell_below HB.out hx317_5
         replace hx317_6 := pw_cell_below HB.out hx317_6
         have HR317_3 := Aside0.mk hi317_3
         have HC317_3 := Aside0.mk hl317_3
         clear hi317_3 hl317_3
         have HR317_6 := Aside0.mk hi317_6
         have HC317_6 := Aside0.mk hl317_6
         clear hi317_6 hl317_6
         replace p317 := eq_true p317
         replace q317 := eq_true q317
         refine start_ (n := 8) (S := fun w' => w'.cell? (ad315.add ((x5_1).toNat * 7)) = some (.int .i64 ((rd_T44 l0 x5_1).f0)) ∧ w'.cell? ⟨(ad315.add ((x5_1).toNat * 7)).block, (ad315.add ((x5_1).toNat * 7)).off + 1, none⟩ = some (.int .i64 ((rd_T44 l0 x5_1).f1)) ∧ w'.cell? ⟨(ad315.add ((x5_1).toNat * 7)).block, (ad315.add ((x5_1).toNat * 7)).off + 2, none⟩ = some (.string ((rd_T44 l0 x5_1).f2)) ∧ w'.cell? ⟨(ad315.add ((x5_1).toNat * 7)).block, (ad315.add ((x5_1).toNat * 7)).off + 3, none⟩ = some (.slice A317_3 ((rd_T44 l0 x5_1).f3).length c317_3) ∧ w'.cell? ⟨(ad315.add ((x5_1).toNat * 7)).block, (ad315.add ((x5_1).toNat * 7)).off + 4, none⟩ = some (.string ((rd_T44 l0 x5_1).f4)) ∧ w'.cell? ⟨(ad315.add ((x5_1).toNat * 7)).block, (ad315.add ((x5_1).toNat * 7)).off + 5, none⟩ = some (.int .i64 ((rd_T44 l0 x5_1).f5)) ∧ w'.cell? ⟨(ad315.add ((x5_1).toNat * 7)).block, (ad315.add ((x5_1).toNat * 7)).off + 6, none⟩ = some (.slice A317_6 ((rd_T44 l0 x5_1).f6).length c317_6)) (ds := []) q14_0 (by kernel_rfl) rfl rfl ⟨(pw_cell_below HB.out hw317_0), (pw_cell_below HB.out hw317_1), (pw_cell_below HB.out hw317_2), (pw_cell_below HB.out hw317_3), (pw_cell_below HB.out hw317_4), (pw_cell_below HB.out hw317_5), (pw_cell_below HB.out hw317_6)⟩ (fun hHeld => ?_); refine with_tabW laws_heldItemS.tab10 laws_heldItemS.bits10 (fun HT_ HW_ => ?_)
         generalize wr.drew = w11 at HB HR317_3 HR317_6 hx317_0 hx317_1 hx317_2 hx317_3 hx317_4 hx317_5 hx317_6 hHeld ⊢
         refine pn_ HT_ 0 30 ?_ ?_ q14_1 rfl rfl (by kernel_rfl) (fun _ _ _ h => h) (by rfl) ?_ ?_ ?_
         rotate_left 2;(intro w';go_simp;with_reducible rfl);(simp only [Act.put, sa_, sz_, ss_, i64_w, i32_w];rfl)
         refine pn_ HT_ 1 31 ?_ ?_ q14_2 rfl rfl (by kernel_rfl) (fun _ _ _ h => h) (by rfl) ?_ ?_ ?_
         rotate_left 2;(intro w';go_simp;with_reducible rfl);(simp only [Act.put, sa_, sz_, ss_, i64_w, i32_w];rfl)
         refine pn_ HT_ 2 32 ?_ ?_ q14_3 rfl rfl (by kernel_rfl) (fun _ _ _ h => h) (by rfl) ?_ ?_ ?_
         rotate_left 2;(intro w';go_simp;with_reducible rfl);(simp only [Act.put, sa_, sz_, ss_, i64_w, i32_w];rfl)
         refine pn_ HT_ 3 33 ?_ ?_ q14_4 rfl rfl (by kernel_rfl) (fun _ _ _ h => h) (by rfl) ?_ ?_ ?_
         rotate_left 2;(intro w';go_simp;with_reducible rfl);(simp only [Act.put, sa_, sz_, ss_, i64_w, i32_w];rfl)
         refine pn_ HT_ 5 35 ?_ ?_ q14_5 rfl rfl (by kernel_rfl) (fun _ _ _ h => h) (by rfl) ?_ ?_ ?_
         rotate_left 2;(intro w';go_simp;with_reducible rfl);(simp only [Act.put, sa_, sz_, ss_, i64_w, i32_w];rfl)
         refine tn_ HT_ HW_ 4 34 ?_ ?_ q14_6 rfl rfl (by kernel_rfl) (fun _ _ _ h => h) (by rfl) hHeld ?_ ?_ ?_
         rotate_left 2;(rintro w' ⟨s0, s1, s2, s3, s4, s5, s6⟩;go_simp;with_reducible rfl);(simp only [Act.put, sa_, sz_, ss_, i64_w, i32_w];rfl)
         refine on_ HT_ 6 36 q14_7 rfl rfl (by kernel_rfl) (by decide) (fun K hK => ?_)
         refine goes_ Try.func59 (by kernel_rfl) rfl #[.int .i64 (wrap64 ((wrap64 (x1_1 + 1)) + 1))] (by rfl) rfl rfl (by (try simp only [List.map_toArray, List.map_cons, List.map_nil]); first | done | rfl | (simp only [List.length_drop, List.length_take]; rfl)) ?_
         with_reducible refine (laws_markText.calls k1 (wrap64 ((wrap64 (x1_1 + 1)) + 1)) t318 _ A7.out).mono ?_
         rintro e w12 ⟨rfl, hb⟩
         refine ⟨_, rfl, ?_⟩
         replace HB := Aside0.mk (below_step (by repeat (first | (with_reducible first | exact HB.out | apply ba_ | apply bn_ | apply b1_) | exact HB.out)) hb)
         (try clear hb)
         refine hK.out _ _ ⟨(pw_cell_below HB.out hw317_0), (pw_cell_below HB.out hw317_1), (pw_cell_below HB.out hw317_2), (pw_cell_below HB.out hw317_3), (pw_cell_below HB.out hw317_4), (pw_cell_below HB.out hw317_5), (pw_cell_below HB.out hw317_6)⟩ (fun hHeld => ?_)
         clear hK K
         refine norm_ (a' := ?_) ?_ ?_
         rotate_left
         ·show Act.put _ (some 36) _ = _
          simp only [Act.put, sa_, sz_, ss_, i64_w, i32_w]
          rfl
         refine pn_ HT_ 7 37 ?_ ?_ q14_8 rfl rfl (by kernel_rfl) (fun _ _ _ h => h) (by rfl) ?_ ?_ ?_
         rotate_left 2;(intro w';go_simp;with_reducible rfl);(simp only [Act.put, sa_, sz_, ss_, i64_w, i32_w];rfl)
         refine done_ (done_of HT_.out (by kernel_rfl)) ?_
         have p319 : 0 ≤ (x5_1 : Int) := dq_ (by assumption)
         have q319 : x5_1 < (l0.length : Int) := dq_ (by assumption)
         ((try clear hHeld); (try clear hx315_0); (try clear hx315_1); (try clear hx315_2); (try clear hx315_3); (try clear hx315_4); (try clear hx315_5); (try clear hx315_6); (try clear hx316_0); (try clear hx316_1); (try clear hx316_2); (try clear hx316_3); (try clear hx316_4); (try clear hx316_5); (try clear hx316_6); (try clear hx317_0); (try clear hx317_1); (try clear hx317_2); (try clear hx317_3); (try clear hx317_4); (try clear hx317_5); (try clear hx317_6)) -- MENDOPEN
         obtain ⟨ad319, A319_3, c319_3, A319_6, c319_6, e319, hx319_0, hx319_1, hx319_2, hx319_3, hx319_4, hx319_5, hx319_6, hl319_3, hi319_3, hl319_6, hi319_6⟩ := at_T44 HR0.out x5_1 p319 q319
         obtain rfl : ad315 = ad319 := (by injection e319)
         replace hx319_0 := pw_cell_below HB.out hx319_0
         replace hx319_1 := pw_cell_below HB.out hx319_1
         replace hx319_2 := pw_cell_below HB.out hx319_2
         replace hx319_3 := pw_cell_below HB.out hx319_3
         replace hx319_4 := pw_cell_below HB.out hx319_4
         replace hx319_5 := pw_cell_below HB.out hx319_5
         replace hx319_6 := pw_cell_below HB.out hx319_6
         have HR319_3 := Aside0.mk hi319_3
         have HC319_3 := Aside0.mk hl319_3
         clear hi319_3 hl319_3
         have HR319_6 := Aside0.mk hi319_6
         have HC319_6 := Aside0.mk hl319_6
         clear hi319_6 hl319_6
         replace p319 := eq_true p319
         replace q319 := eq_true q319
         try go_wp2_with (first | ((with_reducible refine gate_callee (f := 61) rfl ?_); refine goesL_ (some 46) rfl rfl Try.func61 (by kernel_rfl) rfl #[.slice A319_3 ((rd_T44 l0 x5_1).f3).length c319_3, .int .i64 (wrap64 ((wrap64 ((wrap64 (x1_1 + 1)) + 1)) + 1))] rfl (by (try simp only [List.map_toArray, List.map_cons, List.map_nil]); first | done | rfl | (simp only [List.length_drop, List.length_take]; rfl)) ?_; (with_reducible refine (laws_heldAttrS.calls k1 _ _ ((rd_T44 l0 x5_1).f3) (wrap64 ((wrap64 ((wrap64 (x1_1 + 1)) + 1)) + 1)) t320 _ ?side1 ?side2 A9.out).mono ?_); (case side1 => repeat (first | exact (Kd.C_below HR319_3.out HB.out) | (with_reducible refine ca_ ?_ _) | (with_reducible refine cn_ ?_ _) | (with_reducible refine cd_ ?_))); (case side2 => exact HC319_3.out); rintro e w13 ⟨rfl, hb⟩; refine ⟨_, rfl, ?_⟩; have n0_ := Aside0.mk (below_step (by repeat (first | (with_reducible first | exact HB.out | apply ba_ | apply bn_ | apply b1_) | exact HB.out)) hb); clear HB; have HB := n0_; clear n0_; (try clear hb)))
         go_ret
         exact ⟨by first | rfl | (simp [errW_none, errW_some] <;> rfl) | (simp [*, errW_none, errW_some] <;> rfl), by repeat (first | (with_reducible first | exact HB.out | apply ba_ | apply bn_ | apply b1_) | exact HB.out)⟩
        ·rw [if_neg c10] at H
         have c10b0 : decide (t320 < 0) = false := decide_eq_false c10
         clear c10
         replace H := Option.bind_eq_some_iff.mp H
         obtain ⟨t322, A140, H⟩ := H
         replace H : (if ((rd_T44 l0 x5_1).f4).toList = t322.toList then (if ((rd_T44 l0 x5_1).f5) = (wrap64 (t320 + 1)) then ((laws_heldIntS.f k1 ((rd_T44 l0 x5_1).f6) (wrap64 ((wrap64 (t320 + 1)) + 1))).bind fun t325 => (if t325 < 0 then (some (-1)) else (laws_heldItemS.l0 k1 l0 t325 (wrap64 (x5_1 + 1))))) else (some (-1))) else (some (-1))) = some r := H
         have A14 := Aside0.mk A140
         clear A140
         by_cases c15 : ((rd_T44 l0 x5_1).f4).toList = t322.toList
         ·rw [if_pos c15] at H
          have c15b0 : (((rd_T44 l0 x5_1).f4).toList == t322.toList) = true := beq_iff_eq.mpr c15
          have c15b1 : (((rd_T44 l0 x5_1).f4).toList != t322.toList) = false := bne_eq_false_iff_eq.mpr c15
          clear c15
          by_cases c16 : ((rd_T44 l0 x5_1).f5) = (wrap64 (t320 + 1))
          ·rw [if_pos c16] at H
           have c16b0 : (((rd_T44 l0 x5_1).f5) == (wrap64 (t320 + 1))) = true := beq_iff_eq.mpr c16
           have c16b1 : (((rd_T44 l0 x5_1).f5) != (wrap64 (t320 + 1))) = false := bne_eq_false_iff_eq.mpr c16
           clear c16
           replace H := Option.bind_eq_some_iff.mp H
           obtain ⟨t325, A170, H⟩ := H
           replace H : (if t325 < 0 then (some (-1)) else (laws_heldItemS.l0 k1 l0 t325 (wrap64 (x5_1 + 1)))) = some r := H
           have A17 := Aside0.mk A170
           clear A170
           by_cases c18 : t325 < 0
           ·rw [if_pos c18] at H
            have c18b0 : decide (t325 < 0) = true := decide_eq_true c18
            clear c18
            obtain rfl := Option.some.inj H
            have p315 : 0 ≤ (x5_1 : Int) := dq_ (by assumption)
            have q315 : x5_1 < (l0.length : Int) := dq_ (by assumption)
            ((try clear hHeld); (try clear hx315_0); (try clear hx315_1); (try clear hx315_2); (try clear hx315_3); (try clear hx315_4); (try clear hx315_5); (try clear hx315_6); (try clear hx316_0); (try clear hx316_1); (try clear hx316_2); (try clear hx316_3); (try clear hx316_4); (try clear hx316_5); (try clear hx316_6); (try clear hx317_0); (try clear hx317_1); (try clear hx317_2); (try clear hx317_3); (try clear hx317_4); (try clear hx317_5); (try clear hx317_6); (try clear hx319_0); (try clear hx319_1); (try clear hx319_2); (try clear hx319_3); (try clear hx319_4); (try clear hx319_5); (try clear hx319_6)) -- MENDOPEN
            obtain ⟨ad315, A315_3, c315_3, A315_6, c315_6, e315, hx315_0, hx315_1, hx315_2, hx315_3, hx315_4, hx315_5, hx315_6, hl315_3, hi315_3, hl315_6, hi315_6⟩ := at_T44 HR0.out x5_1 p315 q315
            cases e315
            replace hx315_0 := pw_cell_below HB.out hx315_0
            replace hx315_1 := pw_cell_below HB.out hx315_1
            replace hx315_2 := pw_cell_below HB.out hx315_2
            replace hx315_3 := pw_cell_below HB.out hx315_3
            replace hx315_4 := pw_cell_below HB.out hx315_4
            replace hx315_5 := pw_cell_below HB.out hx315_5
            replace hx315_6 := pw_cell_below HB.out hx315_6
            have HR315_3 := Aside0.mk hi315_3
            have HC315_3 := Aside0.mk hl315_3
            clear hi315_3 hl315_3
            have HR315_6 := Aside0.mk hi315_6
            have HC315_6 := Aside0.mk hl315_6
            clear hi315_6 hl315_6
            replace p315 := eq_true p315
            replace q315 := eq_true q315
            have p316 : 0 ≤ (x5_1 : Int) := dq_ (by assumption)
            have q316 : x5_1 < (l0.length : Int) := dq_ (by assumption)
            obtain ⟨ad316, A316_3, c316_3, A316_6, c316_6, e316, hx316_0, hx316_1, hx316_2, hx316_3, hx316_4, hx316_5, hx316_6, hl316_3, hi316_3, hl316_6, hi316_6⟩ := at_T44 HR0.out x5_1 p316 q316
            obtain rfl : ad315 = ad316 := (by injection e316)
            replace hx316_0 := pw_cell_below HB.out hx316_0
            replace hx316_1 := pw_cell_below HB.out hx316_1
            replace hx316_2 := pw_cell_below HB.out hx316_2
            replace hx316_3 := pw_cell_below HB.out hx316_3
            replace hx316_4 := pw_cell_below HB.out hx316_4
            replace hx316_5 := pw_cell_below HB.out hx316_5
            replace hx316_6 := pw_cell_below HB.out hx316_6
            have HR316_3 := Aside0.mk hi316_3
            have HC316_3 := Aside0.mk hl316_3
            clear hi316_3 hl316_3
            have HR316_6 := Aside0.mk hi316_6
            have HC316_6 := Aside0.mk hl316_6
            clear hi316_6 hl316_6
            replace p316 := eq_true p316
            replace q316 := eq_true q316
            have ea_ := Option.some.inj (hx315_3.symm.trans hx316_3)
            injection ea_ with ea_ en_ ec_
            subst ea_
            subst ec_
            clear en_
            have ea_ := Option.some.inj (hx315_6.symm.trans hx316_6)
            injection ea_ with ea_ en_ ec_
            subst ea_
            subst ec_
            clear en_
            try go_wp2
            replace HB := Aside0.mk (b1_ HB.out)
            have p317 : 0 ≤ (x5_1 : Int) := dq_ (by assumption)
            have q317 : x5_1 < (l0.length : Int) := dq_ (by assumption)
            ((try clear hHeld); (try clear hx315_0); (try clear hx315_1); (try clear hx315_2); (try clear hx315_3); (try clear hx315_4); (try clear hx315_5); (try clear hx315_6); (try clear hx316_0); (try clear hx316_1); (try clear hx316_2); (try clear hx316_3); (try clear hx316_4); (try clear hx316_5); (try clear hx316_6); (try clear hx317_0); (try clear hx317_1); (try clear hx317_2); (try clear hx317_3); (try clear hx317_4); (try clear hx317_5); (try clear hx317_6); (try clear hx319_0); (try clear hx319_1); (try clear hx319_2); (try clear hx319_3); (try clear hx319_4); (try clear hx319_5); (try clear hx319_6)) -- MENDOPEN
            obtain ⟨ad317, A317_3, c317_3, A317_6, c317_6, e317, hx317_0, hx317_1, hx317_2, hx317_3, hx317_4, hx317_5, hx317_6, hl317_3, hi317_3, hl317_6, hi317_6⟩ := at_T44 HR0.out x5_1 p317 q317
            have hw317_6 := hx317_6
            have hw317_5 := hx317_5
            have hw317_4 := hx317_4
            have hw317_3 := hx317_3
            have hw317_2 := hx317_2
            have hw317_1 := hx317_1
            have hw317_0 := hx317_0
            obtain rfl : ad315 = ad317 := (by injection e317)
            replace hx317_0 := pw_cell_below HB.out hx317_0
            replace hx317_1 := pw_cell_below HB.out hx317_1
            replace hx317_2 := pw_cell_below HB.out hx317_2
            replace hx317_3 := pw_cell_below HB.out hx317_3
            replace hx317_4 := pw_cell_below HB.out hx317_4
            replace hx317_5 := pw_cell_below HB.out hx317_5
            replace hx317_6 := pw_cell_below HB.out hx317_6
            have HR317_3 := Aside0.mk hi317_3
            have HC317_3 := Aside0.mk hl317_3
            clear hi317_3 hl317_3
            have HR317_6 := Aside0.mk hi317_6
            have HC317_6 := Aside0.mk hl317_6
            clear hi317_6 hl317_6
            replace p317 := eq_true p317
            replace q317 := eq_true q317
            refine start_ (n := 8) (S := fun w' => w'.cell? (ad315.add ((x5_1).toNat * 7)) = some (.int .i64 ((rd_T44 l0 x5_1).f0)) ∧ w'.cell? ⟨(ad315.add ((x5_1).toNat * 7)).block, (ad315.add ((x5_1).toNat * 7)).off + 1, none⟩ = some (.int .i64 ((rd_T44 l0 x5_1).f1)) ∧ w'.cell? ⟨(ad315.add ((x5_1).toNat * 7)).block, (ad315.add ((x5_1).toNat * 7)).off + 2, none⟩ = some (.string ((rd_T44 l0 x5_1).f2)) ∧ w'.cell? ⟨(ad315.add ((x5_1).toNat * 7)).block, (ad315.add ((x5_1).toNat * 7)).off + 3, none⟩ = some (.slice A317_3 ((rd_T44 l0 x5_1).f3).length c317_3) ∧ w'.cell? ⟨(ad315.add ((x5_1).toNat * 7)).block, (ad315.add ((x5_1).toNat * 7)).off + 4, none⟩ = some (.string ((rd_T44 l0 x5_1).f4)) ∧ w'.cell? ⟨(ad315.add ((x5_1).toNat * 7)).block, (ad315.add ((x5_1).toNat * 7)).off + 5, none⟩ = some (.int .i64 ((rd_T44 l0 x5_1).f5)) ∧ w'.cell? ⟨(ad315.add ((x5_1).toNat * 7)).block, (ad315.add ((x5_1).toNat * 7)).off + 6, none⟩ = some (.slice A317_6 ((rd_T44 l0 x5_1).f6).length c317_6)) (ds := []) q14_0 (by kernel_rfl) rfl rfl ⟨(pw_cell_below HB.out hw317_0), (pw_cell_below HB.out hw317_1), (pw_cell_below HB.out hw317_2), (pw_cell_below HB.out hw317_3), (pw_cell_below HB.out hw317_4), (pw_cell_below HB.out hw317_5), (pw_cell_below HB.out hw317_6)⟩ (fun hHeld => ?_); refine with_tabW laws_heldItemS.tab10 laws_heldItemS.bits10 (fun HT_ HW_ => ?_)
            generalize wr.drew = w19 at HB HR317_3 HR317_6 hx317_0 hx317_1 hx317_2 hx317_3 hx317_4 hx317_5 hx317_6 hHeld ⊢
            refine pn_ HT_ 0 30 ?_ ?_ q14_1 rfl rfl (by kernel_rfl) (fun _ _ _ h => h) (by rfl) ?_ ?_ ?_
            rotate_left 2;(intro w';go_simp;with_reducible rfl);(simp only [Act.put, sa_, sz_, ss_, i64_w, i32_w];rfl)
            refine pn_ HT_ 1 31 ?_ ?_ q14_2 rfl rfl (by kernel_rfl) (fun _ _ _ h => h) (by rfl) ?_ ?_ ?_
            rotate_left 2;(intro w';go_simp;with_reducible rfl);(simp only [Act.put, sa_, sz_, ss_, i64_w, i32_w];rfl)
            refine pn_ HT_ 2 32 ?_ ?_ q14_3 rfl rfl (by kernel_rfl) (fun _ _ _ h => h) (by rfl) ?_ ?_ ?_
            rotate_left 2;(intro w';go_simp;with_reducible rfl);(simp only [Act.put, sa_, sz_, ss_, i64_w, i32_w];rfl)
            refine pn_ HT_ 3 33 ?_ ?_ q14_4 rfl rfl (by kernel_rfl) (fun _ _ _ h => h) (by rfl) ?_ ?_ ?_
            rotate_left 2;(intro w';go_simp;with_reducible rfl);(simp only [Act.put, sa_, sz_, ss_, i64_w, i32_w];rfl)
            refine pn_ HT_ 5 35 ?_ ?_ q14_5 rfl rfl (by kernel_rfl) (fun _ _ _ h => h) (by rfl) ?_ ?_ ?_
            rotate_left 2;(intro w';go_simp;with_reducible rfl);(simp only [Act.put, sa_, sz_, ss_, i64_w, i32_w];rfl)
            refine tn_ HT_ HW_ 4 34 ?_ ?_ q14_6 rfl rfl (by kernel_rfl) (fun _ _ _ h => h) (by rfl) hHeld ?_ ?_ ?_
            rotate_left 2;(rintro w' ⟨s0, s1, s2, s3, s4, s5, s6⟩;go_simp;with_reducible rfl);(simp only [Act.put, sa_, sz_, ss_, i64_w, i32_w];rfl)
            refine on_ HT_ 6 36 q14_7 rfl rfl (by kernel_rfl) (by decide) (fun K hK => ?_)
            refine goes_ Try.func59 (by kernel_rfl) rfl #[.int .i64 (wrap64 ((wrap64 (x1_1 + 1)) + 1))] (by rfl) rfl rfl (by (try simp only [List.map_toArray, List.map_cons, List.map_nil]); first | done | rfl | (simp only [List.length_drop, List.length_take]; rfl)) ?_
            with_reducible refine (laws_markText.calls k1 (wrap64 ((wrap64 (x1_1 + 1)) + 1)) t318 _ A7.out).mono ?_
            rintro e w20 ⟨rfl, hb⟩
            refine ⟨_, rfl, ?_⟩
            replace HB := Aside0.mk (below_step (by repeat (first | (with_reducible first | exact HB.out | apply ba_ | apply bn_ | apply b1_) | exact HB.out)) hb)
            (try clear hb)
            refine hK.out _ _ ⟨(pw_cell_below HB.out hw317_0), (pw_cell_below HB.out hw317_1), (pw_cell_below HB.out hw317_2), (pw_cell_below HB.out hw317_3), (pw_cell_below HB.out hw317_4), (pw_cell_below HB.out hw317_5), (pw_cell_below HB.out hw317_6)⟩ (fun hHeld => ?_)
            clear hK K
            refine norm_ (a' := ?_) ?_ ?_
            rotate_left
            ·show Act.put _ (some 36) _ = _
             simp only [Act.put, sa_, sz_, ss_, i64_w, i32_w]
             rfl
            refine pn_ HT_ 7 37 ?_ ?_ q14_8 rfl rfl (by kernel_rfl) (fun _ _ _ h => h) (by rfl) ?_ ?_ ?_
            rotate_left 2;(intro w';go_simp;with_reducible rfl);(simp only [Act.put, sa_, sz_, ss_, i64_w, i32_w];rfl)
            refine done_ (done_of HT_.out (by kernel_rfl)) ?_
            have p319 : 0 ≤ (x5_1 : Int) := dq_ (by assumption)
            have q319 : x5_1 < (l0.length : Int) := dq_ (by assumption)
            ((try clear hHeld); (try clear hx315_0); (try clear hx315_1); (try clear hx315_2); (try clear hx315_3); (try clear hx315_4); (try clear hx315_5); (try clear hx315_6); (try clear hx316_0); (try clear hx316_1); (try clear hx316_2); (try clear hx316_3); (try clear hx316_4); (try clear hx316_5); (try clear hx316_6); (try clear hx317_0); (try clear hx317_1); (try clear hx317_2); (try clear hx317_3); (try clear hx317_4); (try clear hx317_5); (try clear hx317_6); (try clear hx319_0); (try clear hx319_1); (try clear hx319_2); (try clear hx319_3); (try clear hx319_4); (try clear hx319_5); (try clear hx319_6)) -- MENDOPEN
            obtain ⟨ad319, A319_3, c319_3, A319_6, c319_6, e319, hx319_0, hx319_1, hx319_2, hx319_3, hx319_4, hx319_5, hx319_6, hl319_3, hi319_3, hl319_6, hi319_6⟩ := at_T44 HR0.out x5_1 p319 q319
            obtain rfl : ad315 = ad319 := (by injection e319)
            replace hx319_0 := pw_cell_below HB.out hx319_0
            replace hx319_1 := pw_cell_below HB.out hx319_1
            replace hx319_2 := pw_cell_below HB.out hx319_2
            replace hx319_3 := pw_cell_below HB.out hx319_3
            replace hx319_4 := pw_cell_below HB.out hx319_4
            replace hx319_5 := pw_cell_below HB.out hx319_5
            replace hx319_6 := pw_cell_below HB.out hx319_6
            have HR319_3 := Aside0.mk hi319_3
            have HC319_3 := Aside0.mk hl319_3
            clear hi319_3 hl319_3
            have HR319_6 := Aside0.mk hi319_6
            have HC319_6 := Aside0.mk hl319_6
            clear hi319_6 hl319_6
            replace p319 := eq_true p319
            replace q319 := eq_true q319
            try go_wp2_with (first | ((with_reducible refine gate_callee (f := 61) rfl ?_); refine goesL_ (some 46) rfl rfl Try.func61 (by kernel_rfl) rfl #[.slice A319_3 ((rd_T44 l0 x5_1).f3).length c319_3, .int .i64 (wrap64 ((wrap64 ((wrap64 (x1_1 + 1)) + 1)) + 1))] rfl (by (try simp only [List.map_toArray, List.map_cons, List.map_nil]); first | done | rfl | (simp only [List.length_drop, List.length_take]; rfl)) ?_; (with_reducible refine (laws_heldAttrS.calls k1 _ _ ((rd_T44 l0 x5_1).f3) (wrap64 ((wrap64 ((wrap64 (x1_1 + 1)) + 1)) + 1)) t320 _ ?side1 ?side2 A9.out).mono ?_); (case side1 => repeat (first | exact (Kd.C_below HR319_3.out HB.out) | (with_reducible refine ca_ ?_ _) | (with_reducible refine cn_ ?_ _) | (with_reducible refine cd_ ?_))); (case side2 => exact HC319_3.out); rintro e w21 ⟨rfl, hb⟩; refine ⟨_, rfl, ?_⟩; have n0_ := Aside0.mk (below_step (by repeat (first | (with_reducible first | exact HB.out | apply ba_ | apply bn_ | apply b1_) | exact HB.out)) hb); clear HB; have HB := n0_; clear n0_; (try clear hb)))
            replace HB := Aside0.mk (b1_ HB.out)
            have p321 : 0 ≤ (x5_1 : Int) := dq_ (by assumption)
            have q321 : x5_1 < (l0.length : Int) := dq_ (by assumption)
            ((try clear hHeld); (try clear hx315_0); (try clear hx315_1); (try clear hx315_2); (try clear hx315_3); (try clear hx315_4); (try clear hx315_5); (try clear hx315_6); (try clear hx316_0); (try clear hx316_1); (try clear hx316_2); (try clear hx316_3); (try clear hx316_4); (try clear hx316_5); (try clear hx316_6); (try clear hx317_0); (try clear hx317_1); (try clear hx317_2); (try clear hx317_3); (try clear hx317_4); (try clear hx317_5); (try clear hx317_6); (try clear hx319_0); (try clear hx319_1); (try clear hx319_2); (try clear hx319_3); (try clear hx319_4); (try clear hx319_5); (try clear hx319_6)) -- MENDOPEN
            obtain ⟨ad321, A321_3, c321_3, A321_6, c321_6, e321, hx321_0, hx321_1, hx321_2, hx321_3, hx321_4, hx321_5, hx321_6, hl321_3, hi321_3, hl321_6, hi321_6⟩ := at_T44 HR0.out x5_1 p321 q321
            have hw321_6 := hx321_6
            have hw321_5 := hx321_5
            have hw321_4 := hx321_4
            have hw321_3 := hx321_3
            have hw321_2 := hx321_2
            have hw321_1 := hx321_1
            have hw321_0 := hx321_0
            obtain rfl : ad315 = ad321 := (by injection e321)
            replace hx321_0 := pw_cell_below HB.out hx321_0
            replace hx321_1 := pw_cell_below HB.out hx321_1
            replace hx321_2 := pw_cell_below HB.out hx321_2
            replace hx321_3 := pw_cell_below HB.out hx321_3
            replace hx321_4 := pw_cell_below HB.out hx321_4
            replace hx321_5 := pw_cell_below HB.out hx321_5
            replace hx321_6 := pw_cell_below HB.out hx321_6
            have HR321_3 := Aside0.mk hi321_3
            have HC321_3 := Aside0.mk hl321_3
            clear hi321_3 hl321_3
            have HR321_6 := Aside0.mk hi321_6
            have HC321_6 := Aside0.mk hl321_6
            clear hi321_6 hl321_6
            replace p321 := eq_true p321
            replace q321 := eq_true q321
            refine start_ (n := 8) (S := fun w' => w'.cell? (ad315.add ((x5_1).toNat * 7)) = some (.int .i64 ((rd_T44 l0 x5_1).f0)) ∧ w'.cell? ⟨(ad315.add ((x5_1).toNat * 7)).block, (ad315.add ((x5_1).toNat * 7)).off + 1, none⟩ = some (.int .i64 ((rd_T44 l0 x5_1).f1)) ∧ w'.cell? ⟨(ad315.add ((x5_1).toNat * 7)).block, (ad315.add ((x5_1).toNat * 7)).off + 2, none⟩ = some (.string ((rd_T44 l0 x5_1).f2)) ∧ w'.cell? ⟨(ad315.add ((x5_1).toNat * 7)).block, (ad315.add ((x5_1).toNat * 7)).off + 3, none⟩ = some (.slice A321_3 ((rd_T44 l0 x5_1).f3).length c321_3) ∧ w'.cell? ⟨(ad315.add ((x5_1).toNat * 7)).block, (ad315.add ((x5_1).toNat * 7)).off + 4, none⟩ = some (.string ((rd_T44 l0 x5_1).f4)) ∧ w'.cell? ⟨(ad315.add ((x5_1).toNat * 7)).block, (ad315.add ((x5_1).toNat * 7)).off + 5, none⟩ = some (.int .i64 ((rd_T44 l0 x5_1).f5)) ∧ w'.cell? ⟨(ad315.add ((x5_1).toNat * 7)).block, (ad315.add ((x5_1).toNat * 7)).off + 6, none⟩ = some (.slice A321_6 ((rd_T44 l0 x5_1).f6).length c321_6)) (ds := []) q14_0 (by kernel_rfl) rfl rfl ⟨(pw_cell_below HB.out hw321_0), (pw_cell_below HB.out hw321_1), (pw_cell_below HB.out hw321_2), (pw_cell_below HB.out hw321_3), (pw_cell_below HB.out hw321_4), (pw_cell_below HB.out hw321_5), (pw_cell_below HB.out hw321_6)⟩ (fun hHeld => ?_); refine with_tabW laws_heldItemS.tab16 laws_heldItemS.bits16 (fun HT_ HW_ => ?_)
            generalize w21.drew = w22 at HB HR321_3 HR321_6 hx321_0 hx321_1 hx321_2 hx321_3 hx321_4 hx321_5 hx321_6 hHeld ⊢
            refine pn_ HT_ 0 49 ?_ ?_ q14_1 rfl rfl (by kernel_rfl) (fun _ _ _ h => h) (by rfl) ?_ ?_ ?_
            rotate_left 2;(intro w';go_simp;with_reducible rfl);(simp only [Act.put, sa_, sz_, ss_, i64_w, i32_w];rfl)
            refine pn_ HT_ 1 50 ?_ ?_ q14_2 rfl rfl (by kernel_rfl) (fun _ _ _ h => h) (by rfl) ?_ ?_ ?_
            rotate_left 2;(intro w';go_simp;with_reducible rfl);(simp only [Act.put, sa_, sz_, ss_, i64_w, i32_w];rfl)
            refine pn_ HT_ 2 51 ?_ ?_ q14_3 rfl rfl (by kernel_rfl) (fun _ _ _ h => h) (by rfl) ?_ ?_ ?_
            rotate_left 2;(intro w';go_simp;with_reducible rfl);(simp only [Act.put, sa_, sz_, ss_, i64_w, i32_w];rfl)
            refine pn_ HT_ 3 52 ?_ ?_ q14_4 rfl rfl (by kernel_rfl) (fun _ _ _ h => h) (by rfl) ?_ ?_ ?_
            rotate_left 2;(intro w';go_simp;with_reducible rfl);(simp only [Act.put, sa_, sz_, ss_, i64_w, i32_w];rfl)
            refine pn_ HT_ 5 54 ?_ ?_ q14_5 rfl rfl (by kernel_rfl) (fun _ _ _ h => h) (by rfl) ?_ ?_ ?_
            rotate_left 2;(intro w';go_simp;with_reducible rfl);(simp only [Act.put, sa_, sz_, ss_, i64_w, i32_w];rfl)
            refine tn_ HT_ HW_ 4 53 ?_ ?_ q14_6 rfl rfl (by kernel_rfl) (fun _ _ _ h => h) (by rfl) hHeld ?_ ?_ ?_
            rotate_left 2;(rintro w' ⟨s0, s1, s2, s3, s4, s5, s6⟩;go_simp;with_reducible rfl);(simp only [Act.put, sa_, sz_, ss_, i64_w, i32_w];rfl)
            refine on_ HT_ 6 55 q14_7 rfl rfl (by kernel_rfl) (by decide) (fun K hK => ?_)
            refine goes_ Try.func59 (by kernel_rfl) rfl #[.int .i64 t320] (by rfl) rfl rfl (by (try simp only [List.map_toArray, List.map_cons, List.map_nil]); first | done | rfl | (simp only [List.length_drop, List.length_take]; rfl)) ?_
            with_reducible refine (laws_markText.calls k1 t320 t322 _ A14.out).mono ?_
            rintro e w23 ⟨rfl, hb⟩
            refine ⟨_, rfl, ?_⟩
            replace HB := Aside0.mk (below_step (by repeat (first | (with_reducible first | exact HB.out | apply ba_ | apply bn_ | apply b1_) | exact HB.out)) hb)
            (try clear hb)
            refine hK.out _ _ ⟨(pw_cell_below HB.out hw321_0), (pw_cell_below HB.out hw321_1), (pw_cell_below HB.out hw321_2), (pw_cell_below HB.out hw321_3), (pw_cell_below HB.out hw321_4), (pw_cell_below HB.out hw321_5), (pw_cell_below HB.out hw321_6)⟩ (fun hHeld => ?_)
            clear hK K
            refine norm_ (a' := ?_) ?_ ?_
            rotate_left
            ·show Act.put _ (some 55) _ = _
             simp only [Act.put, sa_, sz_, ss_, i64_w, i32_w]
             rfl
            refine pn_ HT_ 7 56 ?_ ?_ q14_8 rfl rfl (by kernel_rfl) (fun _ _ _ h => h) (by rfl) ?_ ?_ ?_
            rotate_left 2;(intro w';go_simp;with_reducible rfl);(simp only [Act.put, sa_, sz_, ss_, i64_w, i32_w];rfl)
            refine done_ (done_of HT_.out (by kernel_rfl)) ?_
            have p323 : 0 ≤ (x5_1 : Int) := dq_ (by assumption)
            have q323 : x5_1 < (l0.length : Int) := dq_ (by assumption)
            ((try clear hHeld); (try clear hx315_0); (try clear hx315_1); (try clear hx315_2); (try clear hx315_3); (try clear hx315_4); (try clear hx315_5); (try clear hx315_6); (try clear hx316_0); (try clear hx316_1); (try clear hx316_2); (try clear hx316_3); (try clear hx316_4); (try clear hx316_5); (try clear hx316_6); (try clear hx317_0); (try clear hx317_1); (try clear hx317_2); (try clear hx317_3); (try clear hx317_4); (try clear hx317_5); (try clear hx317_6); (try clear hx319_0); (try clear hx319_1); (try clear hx319_2); (try clear hx319_3); (try clear hx319_4); (try clear hx319_5); (try clear hx319_6); (try clear hx321_0); (try clear hx321_1); (try clear hx321_2); (try clear hx321_3); (try clear hx321_4); (try clear hx321_5); (try clear hx321_6)) -- MENDOPEN
            obtain ⟨ad323, A323_3, c323_3, A323_6, c323_6, e323, hx323_0, hx323_1, hx323_2, hx323_3, hx323_4, hx323_5, hx323_6, hl323_3, hi323_3, hl323_6, hi323_6⟩ := at_T44 HR0.out x5_1 p323 q323
            obtain rfl : ad315 = ad323 := (by injection e323)
            replace hx323_0 := pw_cell_below HB.out hx323_0
            replace hx323_1 := pw_cell_below HB.out hx323_1
            replace hx323_2 := pw_cell_below HB.out hx323_2
            replace hx323_3 := pw_cell_below HB.out hx323_3
            replace hx323_4 := pw_cell_below HB.out hx323_4
            replace hx323_5 := pw_cell_below HB.out hx323_5
            replace hx323_6 := pw_cell_below HB.out hx323_6
            have HR323_3 := Aside0.mk hi323_3
            have HC323_3 := Aside0.mk hl323_3
            clear hi323_3 hl323_3
            have HR323_6 := Aside0.mk hi323_6
            have HC323_6 := Aside0.mk hl323_6
            clear hi323_6 hl323_6
            replace p323 := eq_true p323
            replace q323 := eq_true q323
            have p324 : 0 ≤ (x5_1 : Int) := dq_ (by assumption)
            have q324 : x5_1 < (l0.length : Int) := dq_ (by assumption)
            obtain ⟨ad324, A324_3, c324_3, A324_6, c324_6, e324, hx324_0, hx324_1, hx324_2, hx324_3, hx324_4, hx324_5, hx324_6, hl324_3, hi324_3, hl324_6, hi324_6⟩ := at_T44 HR0.out x5_1 p324 q324
            obtain rfl : ad315 = ad324 := (by injection e324)
            replace hx324_0 := pw_cell_below HB.out hx324_0
            replace hx324_1 := pw_cell_below HB.out hx324_1
            replace hx324_2 := pw_cell_below HB.out hx324_2
            replace hx324_3 := pw_cell_below HB.out hx324_3
            replace hx324_4 := pw_cell_below HB.out hx324_4
            replace hx324_5 := pw_cell_below HB.out hx324_5
            replace hx324_6 := pw_cell_below HB.out hx324_6
            have HR324_3 := Aside0.mk hi324_3
            have HC324_3 := Aside0.mk hl324_3
            clear hi324_3 hl324_3
            have HR324_6 := Aside0.mk hi324_6
            have HC324_6 := Aside0.mk hl324_6
            clear hi324_6 hl324_6
            replace p324 := eq_true p324
            replace q324 := eq_true q324
            have ea_ := Option.some.inj (hx323_3.symm.trans hx324_3)
            injection ea_ with ea_ en_ ec_
            subst ea_
            subst ec_
            clear en_
            have ea_ := Option.some.inj (hx323_6.symm.trans hx324_6)
            injection ea_ with ea_ en_ ec_
            subst ea_
            subst ec_
            clear en_
            try go_wp2_with (first | ((with_reducible refine gate_callee (f := 36) rfl ?_); refine goesL_ (some 74) rfl rfl Try.func36 (by kernel_rfl) rfl #[.slice A323_6 ((rd_T44 l0 x5_1).f6).length c323_6, .int .i64 (wrap64 ((wrap64 (t320 + 1)) + 1))] rfl (by (try simp only [List.map_toArray, List.map_cons, List.map_nil]); first | done | rfl | (simp only [List.length_drop, List.length_take]; rfl)) ?_; (with_reducible refine (laws_heldIntS.calls k1 _ _ ((rd_T44 l0 x5_1).f6) (wrap64 ((wrap64 (t320 + 1)) + 1)) t325 _ ?side1 ?side2 A17.out).mono ?_); (case side1 => repeat (first | exact (Kd.C_below HR324_6.out HB.out) | (with_reducible refine ca_ ?_ _) | (with_reducible refine cn_ ?_ _) | (with_reducible refine cd_ ?_))); (case side2 => exact HC324_6.out); rintro e w' ⟨rfl, ⟨nd, rfl⟩⟩; refine ⟨_, rfl, ?_⟩))
            go_ret
            exact ⟨by first | rfl | (simp [errW_none, errW_some] <;> rfl) | (simp [*, errW_none, errW_some] <;> rfl), by repeat (first | (with_reducible first | exact HB.out | apply ba_ | apply bn_ | apply b1_) | exact HB.out)⟩
           ·rw [if_neg c18] at H
            have c18b0 : decide (t325 < 0) = false := decide_eq_false c18
            clear c18
            have H' := Aside0.mk H
            clear H
            have p315 : 0 ≤ (x5_1 : Int) := dq_ (by assumption)
            have q315 : x5_1 < (l0.length : Int) := dq_ (by assumption)
            ((try clear hHeld); (try clear hx315_0); (try clear hx315_1); (try clear hx315_2); (try clear hx315_3); (try clear hx315_4); (try clear hx315_5); (try clear hx315_6); (try clear hx316_0); (try clear hx316_1); (try clear hx316_2); (try clear hx316_3); (try clear hx316_4); (try clear hx316_5); (try clear hx316_6); (try clear hx317_0); (try clear hx317_1); (try clear hx317_2); (try clear hx317_3); (try clear hx317_4); (try clear hx317_5); (try clear hx317_6); (try clear hx319_0); (try clear hx319_1); (try clear hx319_2); (try clear hx319_3); (try clear hx319_4); (try clear hx319_5); (try clear hx319_6); (try clear hx321_0); (try clear hx321_1); (try clear hx321_2); (try clear hx321_3); (try clear hx321_4); (try clear hx321_5); (try clear hx321_6); (try clear hx323_0); (try clear hx323_1); (try clear hx323_2); (try clear hx323_3); (try clear hx323_4); (try clear hx323_5); (try clear hx323_6); (try clear hx324_0); (try clear hx324_1); (try clear hx324_2); (try clear hx324_3); (try clear hx324_4); (try clear hx324_5); (try clear hx324_6)) -- MENDOPEN
            obtain ⟨ad315, A315_3, c315_3, A315_6, c315_6, e315, hx315_0, hx315_1, hx315_2, hx315_3, hx315_4, hx315_5, hx315_6, hl315_3, hi315_3, hl315_6, hi315_6⟩ := at_T44 HR0.out x5_1 p315 q315
            cases e315
            replace hx315_0 := pw_cell_below HB.out hx315_0
            replace hx315_1 := pw_cell_below HB.out hx315_1
            replace hx315_2 := pw_cell_below HB.out hx315_2
            replace hx315_3 := pw_cell_below HB.out hx315_3
            replace hx315_4 := pw_cell_below HB.out hx315_4
            replace hx315_5 := pw_cell_below HB.out hx315_5
            replace hx315_6 := pw_cell_below HB.out hx315_6
            have HR315_3 := Aside0.mk hi315_3
            have HC315_3 := Aside0.mk hl315_3
            clear hi315_3 hl315_3
            have HR315_6 := Aside0.mk hi315_6
            have HC315_6 := Aside0.mk hl315_6
            clear hi315_6 hl315_6
            replace p315 := eq_true p315
            replace q315 := eq_true q315
            have p316 : 0 ≤ (x5_1 : Int) := dq_ (by assumption)
            have q316 : x5_1 < (l0.length : Int) := dq_ (by assumption)
            obtain ⟨ad316, A316_3, c316_3, A316_6, c316_6, e316, hx316_0, hx316_1, hx316_2, hx316_3, hx316_4, hx316_5, hx316_6, hl316_3, hi316_3, hl316_6, hi316_6⟩ := at_T44 HR0.out x5_1 p316 q316
            obtain rfl : ad315 = ad316 := (by injection e316)
            replace hx316_0 := pw_cell_below HB.out hx316_0
            replace hx316_1 := pw_cell_below HB.out hx316_1
            replace hx316_2 := pw_cell_below HB.out hx316_2
            replace hx316_3 := pw_cell_below HB.out hx316_3
            replace hx316_4 := pw_cell_below HB.out hx316_4
            replace hx316_5 := pw_cell_below HB.out hx316_5
            replace hx316_6 := pw_cell_below HB.out hx316_6
            have HR316_3 := Aside0.mk hi316_3
            have HC316_3 := Aside0.mk hl316_3
            clear hi316_3 hl316_3
            have HR316_6 := Aside0.mk hi316_6
            have HC316_6 := Aside0.mk hl316_6
            clear hi316_6 hl316_6
            replace p316 := eq_true p316
            replace q316 := eq_true q316
            have ea_ := Option.some.inj (hx315_3.symm.trans hx316_3)
            injection ea_ with ea_ en_ ec_
            subst ea_
            subst ec_
            clear en_
            have ea_ := Option.some.inj (hx315_6.symm.trans hx316_6)
            injection ea_ with ea_ en_ ec_
            subst ea_
            subst ec_
            clear en_
            try go_wp2
            replace HB := Aside0.mk (b1_ HB.out)
            have p317 : 0 ≤ (x5_1 : Int) := dq_ (by assumption)
            have q317 : x5_1 < (l0.length : Int) := dq_ (by assumption)
            ((try clear hHeld); (try clear hx315_0); (try clear hx315_1); (try clear hx315_2); (try clear hx315_3); (try clear hx315_4); (try clear hx315_5); (try clear hx315_6); (try clear hx316_0); (try clear hx316_1); (try clear hx316_2); (try clear hx316_3); (try clear hx316_4); (try clear hx316_5); (try clear hx316_6); (try clear hx317_0); (try clear hx317_1); (try clear hx317_2); (try clear hx317_3); (try clear hx317_4); (try clear hx317_5); (try clear hx317_6); (try clear hx319_0); (try clear hx319_1); (try clear hx319_2); (try clear hx319_3); (try clear hx319_4); (try clear hx319_5); (try clear hx319_6); (try clear hx321_0); (try clear hx321_1); (try clear hx321_2); (try clear hx321_3); (try clear hx321_4); (try clear hx321_5); (try clear hx321_6); (try clear hx323_0); (try clear hx323_1); (try clear hx323_2); (try clear hx323_3); (try clear hx323_4); (try clear hx323_5); (try clear hx323_6); (try clear hx324_0); (try clear hx324_1); (try clear hx324_2); (try clear hx324_3); (try clear hx324_4); (try clear hx324_5); (try clear hx324_6)) -- MENDOPEN
            obtain ⟨ad317, A317_3, c317_3, A317_6, c317_6, e317, hx317_0, hx317_1, hx317_2, hx317_3, hx317_4, hx317_5, hx317_6, hl317_3, hi317_3, hl317_6, hi317_6⟩ := at_T44 HR0.out x5_1 p317 q317
            have hw317_6 := hx317_6
            have hw317_5 := hx317_5
            have hw317_4 := hx317_4
            have hw317_3 := hx317_3
            have hw317_2 := hx317_2
            have hw317_1 := hx317_1
            have hw317_0 := hx317_0
            obtain rfl : ad315 = ad317 := (by injection e317)
            replace hx317_0 := pw_cell_below HB.out hx317_0
            replace hx317_1 := pw_cell_below HB.out hx317_1
            replace hx317_2 := pw_cell_below HB.out hx317_2
            replace hx317_3 := pw_cell_below HB.out hx317_3
            replace hx317_4 := pw_cell_below HB.out hx317_4
            replace hx317_5 := pw_cell_below HB.out hx317_5
            replace hx317_6 := pw_cell_below HB.out hx317_6
            have HR317_3 := Aside0.mk hi317_3
            have HC317_3 := Aside0.mk hl317_3
            clear hi317_3 hl317_3
            have HR317_6 := Aside0.mk hi317_6
            have HC317_6 := Aside0.mk hl317_6
            clear hi317_6 hl317_6
            replace p317 := eq_true p317
            replace q317 := eq_true q317
            refine start_ (n := 8) (S := fun w' => w'.cell? (ad315.add ((x5_1).toNat * 7)) = some (.int .i64 ((rd_T44 l0 x5_1).f0)) ∧ w'.cell? ⟨(ad315.add ((x5_1).toNat * 7)).block, (ad315.add ((x5_1).toNat * 7)).off + 1, none⟩ = some (.int .i64 ((rd_T44 l0 x5_1).f1)) ∧ w'.cell? ⟨(ad315.add ((x5_1).toNat * 7)).block, (ad315.add ((x5_1).toNat * 7)).off + 2, none⟩ = some (.string ((rd_T44 l0 x5_1).f2)) ∧ w'.cell? ⟨(ad315.add ((x5_1).toNat * 7)).block, (ad315.add ((x5_1).toNat * 7)).off + 3, none⟩ = some (.slice A317_3 ((rd_T44 l0 x5_1).f3).length c317_3) ∧ w'.cell? ⟨(ad315.add ((x5_1).toNat * 7)).block, (ad315.add ((x5_1).toNat * 7)).off + 4, none⟩ = some (.string ((rd_T44 l0 x5_1).f4)) ∧ w'.cell? ⟨(ad315.add ((x5_1).toNat * 7)).block, (ad315.add ((x5_1).toNat * 7)).off + 5, none⟩ = some (.int .i64 ((rd_T44 l0 x5_1).f5)) ∧ w'.cell? ⟨(ad315.add ((x5_1).toNat * 7)).block, (ad315.add ((x5_1).toNat * 7)).off + 6, none⟩ = some (.slice A317_6 ((rd_T44 l0 x5_1).f6).length c317_6)) (ds := []) q14_0 (by kernel_rfl) rfl rfl ⟨(pw_cell_below HB.out hw317_0), (pw_cell_below HB.out hw317_1), (pw_cell_below HB.out hw317_2), (pw_cell_below HB.out hw317_3), (pw_cell_below HB.out hw317_4), (pw_cell_below HB.out hw317_5), (pw_cell_below HB.out hw317_6)⟩ (fun hHeld => ?_); refine with_tabW laws_heldItemS.tab10 laws_heldItemS.bits10 (fun HT_ HW_ => ?_)
            generalize wr.drew = w24 at HB HR317_3 HR317_6 hx317_0 hx317_1 hx317_2 hx317_3 hx317_4 hx317_5 hx317_6 hHeld ⊢
            refine pn_ HT_ 0 30 ?_ ?_ q14_1 rfl rfl (by kernel_rfl) (fun _ _ _ h => h) (by rfl) ?_ ?_ ?_
            rotate_left 2;(intro w';go_simp;with_reducible rfl);(simp only [Act.put, sa_, sz_, ss_, i64_w, i32_w];rfl)
            refine pn_ HT_ 1 31 ?_ ?_ q14_2 rfl rfl (by kernel_rfl) (fun _ _ _ h => h) (by rfl) ?_ ?_ ?_
            rotate_left 2;(intro w';go_simp;with_reducible rfl);(simp only [Act.put, sa_, sz_, ss_, i64_w, i32_w];rfl)
            refine pn_ HT_ 2 32 ?_ ?_ q14_3 rfl rfl (by kernel_rfl) (fun _ _ _ h => h) (by rfl) ?_ ?_ ?_
            rotate_left 2;(intro w';go_simp;with_reducible rfl);(simp only [Act.put, sa_, sz_, ss_, i64_w, i32_w];rfl)
            refine pn_ HT_ 3 33 ?_ ?_ q14_4 rfl rfl (by kernel_rfl) (fun _ _ _ h => h) (by rfl) ?_ ?_ ?_
            rotate_left 2;(intro w';go_simp;with_reducible rfl);(simp only [Act.put, sa_, sz_, ss_, i64_w, i32_w];rfl)
            refine pn_ HT_ 5 35 ?_ ?_ q14_5 rfl rfl (by kernel_rfl) (fun _ _ _ h => h) (by rfl) ?_ ?_ ?_
            rotate_left 2;(intro w';go_simp;with_reducible rfl);(simp only [Act.put, sa_, sz_, ss_, i64_w, i32_w];rfl)
            refine tn_ HT_ HW_ 4 34 ?_ ?_ q14_6 rfl rfl (by kernel_rfl) (fun _ _ _ h => h) (by rfl) hHeld ?_ ?_ ?_
            rotate_left 2;(rintro w' ⟨s0, s1, s2, s3, s4, s5, s6⟩;go_simp;with_reducible rfl);(simp only [Act.put, sa_, sz_, ss_, i64_w, i32_w];rfl)
            refine on_ HT_ 6 36 q14_7 rfl rfl (by kernel_rfl) (by decide) (fun K hK => ?_)
            refine goes_ Try.func59 (by kernel_rfl) rfl #[.int .i64 (wrap64 ((wrap64 (x1_1 + 1)) + 1))] (by rfl) rfl rfl (by (try simp only [List.map_toArray, List.map_cons, List.map_nil]); first | done | rfl | (simp only [List.length_drop, List.length_take]; rfl)) ?_
            with_reducible refine (laws_markText.calls k1 (wrap64 ((wrap64 (x1_1 + 1)) + 1)) t318 _ A7.out).mono ?_
            rintro e w25 ⟨rfl, hb⟩
            refine ⟨_, rfl, ?_⟩
            replace HB := Aside0.mk (below_step (by repeat (first | (with_reducible first | exact HB.out | apply ba_ | apply bn_ | apply b1_) | exact HB.out)) hb)
            (try clear hb)
            refine hK.out _ _ ⟨(pw_cell_below HB.out hw317_0), (pw_cell_below HB.out hw317_1), (pw_cell_below HB.out hw317_2), (pw_cell_below HB.out hw317_3), (pw_cell_below HB.out hw317_4), (pw_cell_below HB.out hw317_5), (pw_cell_below HB.out hw317_6)⟩ (fun hHeld => ?_)
            clear hK K
            refine norm_ (a' := ?_) ?_ ?_
            rotate_left
            ·show Act.put _ (some 36) _ = _
             simp only [Act.put, sa_, sz_, ss_, i64_w, i32_w]
             rfl
            refine pn_ HT_ 7 37 ?_ ?_ q14_8 rfl rfl (by kernel_rfl) (fun _ _ _ h => h) (by rfl) ?_ ?_ ?_
            rotate_left 2;(intro w';go_simp;with_reducible rfl);(simp only [Act.put, sa_, sz_, ss_, i64_w, i32_w];rfl)
            refine done_ (done_of HT_.out (by kernel_rfl)) ?_
            have p319 : 0 ≤ (x5_1 : Int) := dq_ (by assumption)
            have q319 : x5_1 < (l0.length : Int) := dq_ (by assumption)
            ((try clear hHeld); (try clear hx315_0); (try clear hx315_1); (try clear hx315_2); (try clear hx315_3); (try clear hx315_4); (try clear hx315_5); (try clear hx315_6); (try clear hx316_0); (try clear hx316_1); (try clear hx316_2); (try clear hx316_3); (try clear hx316_4); (try clear hx316_5); (try clear hx316_6); (try clear hx317_0); (try clear hx317_1); (try clear hx317_2); (try clear hx317_3); (try clear hx317_4); (try clear hx317_5); (try clear hx317_6); (try clear hx319_0); (try clear hx319_1); (try clear hx319_2); (try clear hx319_3); (try clear hx319_4); (try clear hx319_5); (try clear hx319_6); (try clear hx321_0); (try clear hx321_1); (try clear hx321_2); (try clear hx321_3); (try clear hx321_4); (try clear hx321_5); (try clear hx321_6); (try clear hx323_0); (try clear hx323_1); (try clear hx323_2); (try clear hx323_3); (try clear hx323_4); (try clear hx323_5); (try clear hx323_6); (try clear hx324_0); (try clear hx324_1); (try clear hx324_2); (try clear hx324_3); (try clear hx324_4); (try clear hx324_5); (try clear hx324_6)) -- MENDOPEN
            obtain ⟨ad319, A319_3, c319_3, A319_6, c319_6, e319, hx319_0, hx319_1, hx319_2, hx319_3, hx319_4, hx319_5, hx319_6, hl319_3, hi319_3, hl319_6, hi319_6⟩ := at_T44 HR0.out x5_1 p319 q319
            obtain rfl : ad315 = ad319 := (by injection e319)
            replace hx319_0 := pw_cell_below HB.out hx319_0
            replace hx319_1 := pw_cell_below HB.out hx319_1
            replace hx319_2 := pw_cell_below HB.out hx319_2
            replace hx319_3 := pw_cell_below HB.out hx319_3
            replace hx319_4 := pw_cell_below HB.out hx319_4
            replace hx319_5 := pw_cell_below HB.out hx319_5
            replace hx319_6 := pw_cell_below HB.out hx319_6
            have HR319_3 := Aside0.mk hi319_3
            have HC319_3 := Aside0.mk hl319_3
            clear hi319_3 hl319_3
            have HR319_6 := Aside0.mk hi319_6
            have HC319_6 := Aside0.mk hl319_6
            clear hi319_6 hl319_6
            replace p319 := eq_true p319
            replace q319 := eq_true q319
            try go_wp2_with (first | ((with_reducible refine gate_callee (f := 61) rfl ?_); refine goesL_ (some 46) rfl rfl Try.func61 (by kernel_rfl) rfl #[.slice A319_3 ((rd_T44 l0 x5_1).f3).length c319_3, .int .i64 (wrap64 ((wrap64 ((wrap64 (x1_1 + 1)) + 1)) + 1))] rfl (by (try simp only [List.map_toArray, List.map_cons, List.map_nil]); first | done | rfl | (simp only [List.length_drop, List.length_take]; rfl)) ?_; (with_reducible refine (laws_heldAttrS.calls k1 _ _ ((rd_T44 l0 x5_1).f3) (wrap64 ((wrap64 ((wrap64 (x1_1 + 1)) + 1)) + 1)) t320 _ ?side1 ?side2 A9.out).mono ?_); (case side1 => repeat (first | exact (Kd.C_below HR319_3.out HB.out) | (with_reducible refine ca_ ?_ _) | (with_reducible refine cn_ ?_ _) | (with_reducible refine cd_ ?_))); (case side2 => exact HC319_3.out); rintro e w26 ⟨rfl, hb⟩; refine ⟨_, rfl, ?_⟩; have n0_ := Aside0.mk (below_step (by repeat (first | (with_reducible first | exact HB.out | apply ba_ | apply bn_ | apply b1_) | exact HB.out)) hb); clear HB; have HB := n0_; clear n0_; (try clear hb)))
            replace HB := Aside0.mk (b1_ HB.out)
            have p321 : 0 ≤ (x5_1 : Int) := dq_ (by assumption)
            have q321 : x5_1 < (l0.length : Int) := dq_ (by assumption)
            ((try clear hHeld); (try clear hx315_0); (try clear hx315_1); (try clear hx315_2); (try clear hx315_3); (try clear hx315_4); (try clear hx315_5); (try clear hx315_6); (try clear hx316_0); (try clear hx316_1); (try clear hx316_2); (try clear hx316_3); (try clear hx316_4); (try clear hx316_5); (try clear hx316_6); (try clear hx317_0); (try clear hx317_1); (try clear hx317_2); (try clear hx317_3); (try clear hx317_4); (try clear hx317_5); (try clear hx317_6); (try clear hx319_0); (try clear hx319_1); (try clear hx319_2); (try clear hx319_3); (try clear hx319_4); (try clear hx319_5); (try clear hx319_6); (try clear hx321_0); (try clear hx321_1); (try clear hx321_2); (try clear hx321_3); (try clear hx321_4); (try clear hx321_5); (try clear hx321_6); (try clear hx323_0); (try clear hx323_1); (try clear hx323_2); (try clear hx323_3); (try clear hx323_4); (try clear hx323_5); (try clear hx323_6); (try clear hx324_0); (try clear hx324_1); (try clear hx324_2); (try clear hx324_3); (try clear hx324_4); (try clear hx324_5); (try clear hx324_6)) -- MENDOPEN
            obtain ⟨ad321, A321_3, c321_3, A321_6, c321_6, e321, hx321_0, hx321_1, hx321_2, hx321_3, hx321_4, hx321_5, hx321_6, hl321_3, hi321_3, hl321_6, hi321_6⟩ := at_T44 HR0.out x5_1 p321 q321
            have hw321_6 := hx321_6
            have hw321_5 := hx321_5
            have hw321_4 := hx321_4
            have hw321_3 := hx321_3
            have hw321_2 := hx321_2
            have hw321_1 := hx321_1
            have hw321_0 := hx321_0
            obtain rfl : ad315 = ad321 := (by injection e321)
            replace hx321_0 := pw_cell_below HB.out hx321_0
            replace hx321_1 := pw_cell_below HB.out hx321_1
            replace hx321_2 := pw_cell_below HB.out hx321_2
            replace hx321_3 := pw_cell_below HB.out hx321_3
            replace hx321_4 := pw_cell_below HB.out hx321_4
            replace hx321_5 := pw_cell_below HB.out hx321_5
            replace hx321_6 := pw_cell_below HB.out hx321_6
            have HR321_3 := Aside0.mk hi321_3
            have HC321_3 := Aside0.mk hl321_3
            clear hi321_3 hl321_3
            have HR321_6 := Aside0.mk hi321_6
            have HC321_6 := Aside0.mk hl321_6
            clear hi321_6 hl321_6
            replace p321 := eq_true p321
            replace q321 := eq_true q321
            refine start_ (n := 8) (S := fun w' => w'.cell? (ad315.add ((x5_1).toNat * 7)) = some (.int .i64 ((rd_T44 l0 x5_1).f0)) ∧ w'.cell? ⟨(ad315.add ((x5_1).toNat * 7)).block, (ad315.add ((x5_1).toNat * 7)).off + 1, none⟩ = some (.int .i64 ((rd_T44 l0 x5_1).f1)) ∧ w'.cell? ⟨(ad315.add ((x5_1).toNat * 7)).block, (ad315.add ((x5_1).toNat * 7)).off + 2, none⟩ = some (.string ((rd_T44 l0 x5_1).f2)) ∧ w'.cell? ⟨(ad315.add ((x5_1).toNat * 7)).block, (ad315.add ((x5_1).toNat * 7)).off + 3, none⟩ = some (.slice A321_3 ((rd_T44 l0 x5_1).f3).length c321_3) ∧ w'.cell? ⟨(ad315.add ((x5_1).toNat * 7)).block, (ad315.add ((x5_1).toNat * 7)).off + 4, none⟩ = some (.string ((rd_T44 l0 x5_1).f4)) ∧ w'.cell? ⟨(ad315.add ((x5_1).toNat * 7)).block, (ad315.add ((x5_1).toNat * 7)).off + 5, none⟩ = some (.int .i64 ((rd_T44 l0 x5_1).f5)) ∧ w'.cell? ⟨(ad315.add ((x5_1).toNat * 7)).block, (ad315.add ((x5_1).toNat * 7)).off + 6, none⟩ = some (.slice A321_6 ((rd_T44 l0 x5_1).f6).length c321_6)) (ds := []) q14_0 (by kernel_rfl) rfl rfl ⟨(pw_cell_below HB.out hw321_0), (pw_cell_below HB.out hw321_1), (pw_cell_below HB.out hw321_2), (pw_cell_below HB.out hw321_3), (pw_cell_below HB.out hw321_4), (pw_cell_below HB.out hw321_5), (pw_cell_below HB.out hw321_6)⟩ (fun hHeld => ?_); refine with_tabW laws_heldItemS.tab16 laws_heldItemS.bits16 (fun HT_ HW_ => ?_)
            generalize w26.drew = w27 at HB HR321_3 HR321_6 hx321_0 hx321_1 hx321_2 hx321_3 hx321_4 hx321_5 hx321_6 hHeld ⊢
            refine pn_ HT_ 0 49 ?_ ?_ q14_1 rfl rfl (by kernel_rfl) (fun _ _ _ h => h) (by rfl) ?_ ?_ ?_
            rotate_left 2;(intro w';go_simp;with_reducible rfl);(simp only [Act.put, sa_, sz_, ss_, i64_w, i32_w];rfl)
            refine pn_ HT_ 1 50 ?_ ?_ q14_2 rfl rfl (by kernel_rfl) (fun _ _ _ h => h) (by rfl) ?_ ?_ ?_
            rotate_left 2;(intro w';go_simp;with_reducible rfl);(simp only [Act.put, sa_, sz_, ss_, i64_w, i32_w];rfl)
            refine pn_ HT_ 2 51 ?_ ?_ q14_3 rfl rfl (by kernel_rfl) (fun _ _ _ h => h) (by rfl) ?_ ?_ ?_
            rotate_left 2;(intro w';go_simp;with_reducible rfl);(simp only [Act.put, sa_, sz_, ss_, i64_w, i32_w];rfl)
            refine pn_ HT_ 3 52 ?_ ?_ q14_4 rfl rfl (by kernel_rfl) (fun _ _ _ h => h) (by rfl) ?_ ?_ ?_
            rotate_left 2;(intro w';go_simp;with_reducible rfl);(simp only [Act.put, sa_, sz_, ss_, i64_w, i32_w];rfl)
            refine pn_ HT_ 5 54 ?_ ?_ q14_5 rfl rfl (by kernel_rfl) (fun _ _ _ h => h) (by rfl) ?_ ?_ ?_
            rotate_left 2;(intro w';go_simp;with_reducible rfl);(simp only [Act.put, sa_, sz_, ss_, i64_w, i32_w];rfl)
            refine tn_ HT_ HW_ 4 53 ?_ ?_ q14_6 rfl rfl (by kernel_rfl) (fun _ _ _ h => h) (by rfl) hHeld ?_ ?_ ?_
            rotate_left 2;(rintro w' ⟨s0, s1, s2, s3, s4, s5, s6⟩;go_simp;with_reducible rfl);(simp only [Act.put, sa_, sz_, ss_, i64_w, i32_w];rfl)
            refine on_ HT_ 6 55 q14_7 rfl rfl (by kernel_rfl) (by decide) (fun K hK => ?_)
            refine goes_ Try.func59 (by kernel_rfl) rfl #[.int .i64 t320] (by rfl) rfl rfl (by (try simp only [List.map_toArray, List.map_cons, List.map_nil]); first | done | rfl | (simp only [List.length_drop, List.length_take]; rfl)) ?_
            with_reducible refine (laws_markText.calls k1 t320 t322 _ A14.out).mono ?_
            rintro e w28 ⟨rfl, hb⟩
            refine ⟨_, rfl, ?_⟩
            replace HB := Aside0.mk (below_step (by repeat (first | (with_reducible first | exact HB.out | apply ba_ | apply bn_ | apply b1_) | exact HB.out)) hb)
            (try clear hb)
            refine hK.out _ _ ⟨(pw_cell_below HB.out hw321_0), (pw_cell_below HB.out hw321_1), (pw_cell_below HB.out hw321_2), (pw_cell_below HB.out hw321_3), (pw_cell_below HB.out hw321_4), (pw_cell_below HB.out hw321_5), (pw_cell_below HB.out hw321_6)⟩ (fun hHeld => ?_)
            clear hK K
            refine norm_ (a' := ?_) ?_ ?_
            rotate_left
            ·show Act.put _ (some 55) _ = _
             simp only [Act.put, sa_, sz_, ss_, i64_w, i32_w]
             rfl
            refine pn_ HT_ 7 56 ?_ ?_ q14_8 rfl rfl (by kernel_rfl) (fun _ _ _ h => h) (by rfl) ?_ ?_ ?_
            rotate_left 2;(intro w';go_simp;with_reducible rfl);(simp only [Act.put, sa_, sz_, ss_, i64_w, i32_w];rfl)
            refine done_ (done_of HT_.out (by kernel_rfl)) ?_
            have p323 : 0 ≤ (x5_1 : Int) := dq_ (by assumption)
            have q323 : x5_1 < (l0.length : Int) := dq_ (by assumption)
            ((try clear hHeld); (try clear hx315_0); (try clear hx315_1); (try clear hx315_2); (try clear hx315_3); (try clear hx315_4); (try clear hx315_5); (try clear hx315_6); (try clear hx316_0); (try clear hx316_1); (try clear hx316_2); (try clear hx316_3); (try clear hx316_4); (try clear hx316_5); (try clear hx316_6); (try clear hx317_0); (try clear hx317_1); (try clear hx317_2); (try clear hx317_3); (try clear hx317_4); (try clear hx317_5); (try clear hx317_6); (try clear hx319_0); (try clear hx319_1); (try clear hx319_2); (try clear hx319_3); (try clear hx319_4); (try clear hx319_5); (try clear hx319_6); (try clear hx321_0); (try clear hx321_1); (try clear hx321_2); (try clear hx321_3); (try clear hx321_4); (try clear hx321_5); (try clear hx321_6); (try clear hx323_0); (try clear hx323_1); (try clear hx323_2); (try clear hx323_3); (try clear hx323_4); (try clear hx323_5); (try clear hx323_6); (try clear hx324_0); (try clear hx324_1); (try clear hx324_2); (try clear hx324_3); (try clear hx324_4); (try clear hx324_5); (try clear hx324_6)) -- MENDOPEN
            obtain ⟨ad323, A323_3, c323_3, A323_6, c323_6, e323, hx323_0, hx323_1, hx323_2, hx323_3, hx323_4, hx323_5, hx323_6, hl323_3, hi323_3, hl323_6, hi323_6⟩ := at_T44 HR0.out x5_1 p323 q323
            obtain rfl : ad315 = ad323 := (by injection e323)
            replace hx323_0 := pw_cell_below HB.out hx323_0
            replace hx323_1 := pw_cell_below HB.out hx323_1
            replace hx323_2 := pw_cell_below HB.out hx323_2
            replace hx323_3 := pw_cell_below HB.out hx323_3
            replace hx323_4 := pw_cell_below HB.out hx323_4
            replace hx323_5 := pw_cell_below HB.out hx323_5
            replace hx323_6 := pw_cell_below HB.out hx323_6
            have HR323_3 := Aside0.mk hi323_3
            have HC323_3 := Aside0.mk hl323_3
            clear hi323_3 hl323_3
            have HR323_6 := Aside0.mk hi323_6
            have HC323_6 := Aside0.mk hl323_6
            clear hi323_6 hl323_6
            replace p323 := eq_true p323
            replace q323 := eq_true q323
            have p324 : 0 ≤ (x5_1 : Int) := dq_ (by assumption)
            have q324 : x5_1 < (l0.length : Int) := dq_ (by assumption)
            obtain ⟨ad324, A324_3, c324_3, A324_6, c324_6, e324, hx324_0, hx324_1, hx324_2, hx324_3, hx324_4, hx324_5, hx324_6, hl324_3, hi324_3, hl324_6, hi324_6⟩ := at_T44 HR0.out x5_1 p324 q324
            obtain rfl : ad315 = ad324 := (by injection e324)
            replace hx324_0 := pw_cell_below HB.out hx324_0
            replace hx324_1 := pw_cell_below HB.out hx324_1
            replace hx324_2 := pw_cell_below HB.out hx324_2
            replace hx324_3 := pw_cell_below HB.out hx324_3
            replace hx324_4 := pw_cell_below HB.out hx324_4
            replace hx324_5 := pw_cell_below HB.out hx324_5
            replace hx324_6 := pw_cell_below HB.out hx324_6
            have HR324_3 := Aside0.mk hi324_3
            have HC324_3 := Aside0.mk hl324_3
            clear hi324_3 hl324_3
            have HR324_6 := Aside0.mk hi324_6
            have HC324_6 := Aside0.mk hl324_6
            clear hi324_6 hl324_6
            replace p324 := eq_true p324
            replace q324 := eq_true q324
            have ea_ := Option.some.inj (hx323_3.symm.trans hx324_3)
            injection ea_ with ea_ en_ ec_
            subst ea_
            subst ec_
            clear en_
            have ea_ := Option.some.inj (hx323_6.symm.trans hx324_6)
            injection ea_ with ea_ en_ ec_
            subst ea_
            subst ec_
            clear en_
            try go_wp2_with (first | ((with_reducible refine gate_callee (f := 36) rfl ?_); refine goesL_ (some 74) rfl rfl Try.func36 (by kernel_rfl) rfl #[.slice A323_6 ((rd_T44 l0 x5_1).f6).length c323_6, .int .i64 (wrap64 ((wrap64 (t320 + 1)) + 1))] rfl (by (try simp only [List.map_toArray, List.map_cons, List.map_nil]); first | done | rfl | (simp only [List.length_drop, List.length_take]; rfl)) ?_; (with_reducible refine (laws_heldIntS.calls k1 _ _ ((rd_T44 l0 x5_1).f6) (wrap64 ((wrap64 (t320 + 1)) + 1)) t325 _ ?side1 ?side2 A17.out).mono ?_); (case side1 => repeat (first | exact (Kd.C_below HR324_6.out HB.out) | (with_reducible refine ca_ ?_ _) | (with_reducible refine cn_ ?_ _) | (with_reducible refine cd_ ?_))); (case side2 => exact HC324_6.out); rintro e w' ⟨rfl, ⟨nd, rfl⟩⟩; refine ⟨_, rfl, ?_⟩))
            go_roundg k1
            case measure => have := HK1.out; omega
            case rel => exact ⟨(t325), (wrap64 (x5_1 + 1)), (by first | rfl | (simp; done) | (simp [*]; done)), (by first | rfl | (simp; done) | (simp [*]; done)), H', ⟨by have := HK1.out; omega⟩, ⟨by repeat (first | (with_reducible first | exact HB.out | apply ba_ | apply bn_ | apply b1_) | exact HB.out)⟩⟩
          ·rw [if_neg c16] at H
           have c16b0 : (((rd_T44 l0 x5_1).f5) == (wrap64 (t320 + 1))) = false := beq_eq_false_iff_ne.mpr c16
           have c16b1 : (((rd_T44 l0 x5_1).f5) != (wrap64 (t320 + 1))) = true := bne_iff_ne.mpr c16
           obtain rfl := Option.some.inj H
           have p315 : 0 ≤ (x5_1 : Int) := dq_ (by assumption)
           have q315 : x5_1 < (l0.length : Int) := dq_ (by assumption)
           ((try clear hHeld); (try clear hx315_0); (try clear hx315_1); (try clear hx315_2); (try clear hx315_3); (try clear hx315_4); (try clear hx315_5); (try clear hx315_6); (try clear hx316_0); (try clear hx316_1); (try clear hx316_2); (try clear hx316_3); (try clear hx316_4); (try clear hx316_5); (try clear hx316_6); (try clear hx317_0); (try clear hx317_1); (try clear hx317_2); (try clear hx317_3); (try clear hx317_4); (try clear hx317_5); (try clear hx317_6); (try clear hx319_0); (try clear hx319_1); (try clear hx319_2); (try clear hx319_3); (try clear hx319_4); (try clear hx319_5); (try clear hx319_6)) -- MENDOPEN
           obtain ⟨ad315, A315_3, c315_3, A315_6, c315_6, e315, hx315_0, hx315_1, hx315_2, hx315_3, hx315_4, hx315_5, hx315_6, hl315_3, hi315_3, hl315_6, hi315_6⟩ := at_T44 HR0.out x5_1 p315 q315
           cases e315
           replace hx315_0 := pw_cell_below HB.out hx315_0
           replace hx315_1 := pw_cell_below HB.out hx315_1
           replace hx315_2 := pw_cell_below HB.out hx315_2
           replace hx315_3 := pw_cell_below HB.out hx315_3
           replace hx315_4 := pw_cell_below HB.out hx315_4
           replace hx315_5 := pw_cell_below HB.out hx315_5
           replace hx315_6 := pw_cell_below HB.out hx315_6
           have HR315_3 := Aside0.mk hi315_3
           have HC315_3 := Aside0.mk hl315_3
           clear hi315_3 hl315_3
           have HR315_6 := Aside0.mk hi315_6
           have HC315_6 := Aside0.mk hl315_6
           clear hi315_6 hl315_6
           replace p315 := eq_true p315
           replace q315 := eq_true q315
           have p316 : 0 ≤ (x5_1 : Int) := dq_ (by assumption)
           have q316 : x5_1 < (l0.length : Int) := dq_ (by assumption)
           obtain ⟨ad316, A316_3, c316_3, A316_6, c316_6, e316, hx316_0, hx316_1, hx316_2, hx316_3, hx316_4, hx316_5, hx316_6, hl316_3, hi316_3, hl316_6, hi316_6⟩ := at_T44 HR0.out x5_1 p316 q316
           obtain rfl : ad315 = ad316 := (by injection e316)
           replace hx316_0 := pw_cell_below HB.out hx316_0
           replace hx316_1 := pw_cell_below HB.out hx316_1
           replace hx316_2 := pw_cell_below HB.out hx316_2
           replace hx316_3 := pw_cell_below HB.out hx316_3
           replace hx316_4 := pw_cell_below HB.out hx316_4
           replace hx316_5 := pw_cell_below HB.out hx316_5
           replace hx316_6 := pw_cell_below HB.out hx316_6
           have HR316_3 := Aside0.mk hi316_3
           have HC316_3 := Aside0.mk hl316_3
           clear hi316_3 hl316_3
           have HR316_6 := Aside0.mk hi316_6
           have HC316_6 := Aside0.mk hl316_6
           clear hi316_6 hl316_6
           replace p316 := eq_true p316
           replace q316 := eq_true q316
           have ea_ := Option.some.inj (hx315_3.symm.trans hx316_3)
           injection ea_ with ea_ en_ ec_
           subst ea_
           subst ec_
           clear en_
           have ea_ := Option.some.inj (hx315_6.symm.trans hx316_6)
           injection ea_ with ea_ en_ ec_
           subst ea_
           subst ec_
           clear en_
           try go_wp2
           replace HB := Aside0.mk (b1_ HB.out)
           have p317 : 0 ≤ (x5_1 : Int) := dq_ (by assumption)
           have q317 : x5_1 < (l0.length : Int) := dq_ (by assumption)
           ((try clear hHeld); (try clear hx315_0); (try clear hx315_1); (try clear hx315_2); (try clear hx315_3); (try clear hx315_4); (try clear hx315_5); (try clear hx315_6); (try clear hx316_0); (try clear hx316_1); (try clear hx316_2); (try clear hx316_3); (try clear hx316_4); (try clear hx316_5); (try clear hx316_6); (try clear hx317_0); (try clear hx317_1); (try clear hx317_2); (try clear hx317_3); (try clear hx317_4); (try clear hx317_5); (try clear hx317_6); (try clear hx319_0); (try clear hx319_1); (try clear hx319_2); (try clear hx319_3); (try clear hx319_4); (try clear hx319_5); (try clear hx319_6)) -- MENDOPEN
           obtain ⟨ad317, A317_3, c317_3, A317_6, c317_6, e317, hx317_0, hx317_1, hx317_2, hx317_3, hx317_4, hx317_5, hx317_6, hl317_3, hi317_3, hl317_6, hi317_6⟩ := at_T44 HR0.out x5_1 p317 q317
           have hw317_6 := hx317_6
           have hw317_5 := hx317_5
           have hw317_4 := hx317_4
           have hw317_3 := hx317_3
           have hw317_2 := hx317_2
           have hw317_1 := hx317_1
           have hw317_0 := hx317_0
           obtain rfl : ad315 = ad317 := (by injection e317)
           replace hx317_0 := pw_cell_below HB.out hx317_0
           replace hx317_1 := pw_cell_below HB.out hx317_1
           replace hx317_2 := pw_cell_below HB.out hx317_2
           replace hx317_3 := pw_cell_below HB.out hx317_3
           replace hx317_4 := pw_cell_below HB.out hx317_4
           replace hx317_5 := pw_cell_below HB.out hx317_5
           replace hx317_6 := pw_cell_below HB.out hx317_6
           have HR317_3 := Aside0.mk hi317_3
           have HC317_3 := Aside0.mk hl317_3
           clear hi317_3 hl317_3
           have HR317_6 := Aside0.mk hi317_6
           have HC317_6 := Aside0.mk hl317_6
           clear hi317_6 hl317_6
           replace p317 := eq_true p317
           replace q317 := eq_true q317
           refine start_ (n := 8) (S := fun w' => w'.cell? (ad315.add ((x5_1).toNat * 7)) = some (.int .i64 ((rd_T44 l0 x5_1).f0)) ∧ w'.cell? ⟨(ad315.add ((x5_1).toNat * 7)).block, (ad315.add ((x5_1).toNat * 7)).off + 1, none⟩ = some (.int .i64 ((rd_T44 l0 x5_1).f1)) ∧ w'.cell? ⟨(ad315.add ((x5_1).toNat * 7)).block, (ad315.add ((x5_1).toNat * 7)).off + 2, none⟩ = some (.string ((rd_T44 l0 x5_1).f2)) ∧ w'.cell? ⟨(ad315.add ((x5_1).toNat * 7)).block, (ad315.add ((x5_1).toNat * 7)).off + 3, none⟩ = some (.slice A317_3 ((rd_T44 l0 x5_1).f3).length c317_3) ∧ w'.cell? ⟨(ad315.add ((x5_1).toNat * 7)).block, (ad315.add ((x5_1).toNat * 7)).off + 4, none⟩ = some (.string ((rd_T44 l0 x5_1).f4)) ∧ w'.cell? ⟨(ad315.add ((x5_1).toNat * 7)).block, (ad315.add ((x5_1).toNat * 7)).off + 5, none⟩ = some (.int .i64 ((rd_T44 l0 x5_1).f5)) ∧ w'.cell? ⟨(ad315.add ((x5_1).toNat * 7)).block, (ad315.add ((x5_1).toNat * 7)).off + 6, none⟩ = some (.slice A317_6 ((rd_T44 l0 x5_1).f6).length c317_6)) (ds := []) q14_0 (by kernel_rfl) rfl rfl ⟨(pw_cell_below HB.out hw317_0), (pw_cell_below HB.out hw317_1), (pw_cell_below HB.out hw317_2), (pw_cell_below HB.out hw317_3), (pw_cell_below HB.out hw317_4), (pw_cell_below HB.out hw317_5), (pw_cell_below HB.out hw317_6)⟩ (fun hHeld => ?_); refine with_tabW laws_heldItemS.tab10 laws_heldItemS.bits10 (fun HT_ HW_ => ?_)
           generalize wr.drew = w29 at HB HR317_3 HR317_6 hx317_0 hx317_1 hx317_2 hx317_3 hx317_4 hx317_5 hx317_6 hHeld ⊢
           refine pn_ HT_ 0 30 ?_ ?_ q14_1 rfl rfl (by kernel_rfl) (fun _ _ _ h => h) (by rfl) ?_ ?_ ?_
           rotate_left 2;(intro w';go_simp;with_reducible rfl);(simp only [Act.put, sa_, sz_, ss_, i64_w, i32_w];rfl)
           refine pn_ HT_ 1 31 ?_ ?_ q14_2 rfl rfl (by kernel_rfl) (fun _ _ _ h => h) (by rfl) ?_ ?_ ?_
           rotate_left 2;(intro w';go_simp;with_reducible rfl);(simp only [Act.put, sa_, sz_, ss_, i64_w, i32_w];rfl)
           refine pn_ HT_ 2 32 ?_ ?_ q14_3 rfl rfl (by kernel_rfl) (fun _ _ _ h => h) (by rfl) ?_ ?_ ?_
           rotate_left 2;(intro w';go_simp;with_reducible rfl);(simp only [Act.put, sa_, sz_, ss_, i64_w, i32_w];rfl)
           refine pn_ HT_ 3 33 ?_ ?_ q14_4 rfl rfl (by kernel_rfl) (fun _ _ _ h => h) (by rfl) ?_ ?_ ?_
           rotate_left 2;(intro w';go_simp;with_reducible rfl);(simp only [Act.put, sa_, sz_, ss_, i64_w, i32_w];rfl)
           refine pn_ HT_ 5 35 ?_ ?_ q14_5 rfl rfl (by kernel_rfl) (fun _ _ _ h => h) (by rfl) ?_ ?_ ?_
           rotate_left 2;(intro w';go_simp;with_reducible rfl);(simp only [Act.put, sa_, sz_, ss_, i64_w, i32_w];rfl)
           refine tn_ HT_ HW_ 4 34 ?_ ?_ q14_6 rfl rfl (by kernel_rfl) (fun _ _ _ h => h) (by rfl) hHeld ?_ ?_ ?_
           rotate_left 2;(rintro w' ⟨s0, s1, s2, s3, s4, s5, s6⟩;go_simp;with_reducible rfl);(simp only [Act.put, sa_, sz_, ss_, i64_w, i32_w];rfl)
           refine on_ HT_ 6 36 q14_7 rfl rfl (by kernel_rfl) (by decide) (fun K hK => ?_)
           refine goes_ Try.func59 (by kernel_rfl) rfl #[.int .i64 (wrap64 ((wrap64 (x1_1 + 1)) + 1))] (by rfl) rfl rfl (by (try simp only [List.map_toArray, List.map_cons, List.map_nil]); first | done | rfl | (simp only [List.length_drop, List.length_take]; rfl)) ?_
           with_reducible refine (laws_markText.calls k1 (wrap64 ((wrap64 (x1_1 + 1)) + 1)) t318 _ A7.out).mono ?_
           rintro e w30 ⟨rfl, hb⟩
           refine ⟨_, rfl, ?_⟩
           replace HB := Aside0.mk (below_step (by repeat (first | (with_reducible first | exact HB.out | apply ba_ | apply bn_ | apply b1_) | exact HB.out)) hb)
           (try clear hb)
           refine hK.out _ _ ⟨(pw_cell_below HB.out hw317_0), (pw_cell_below HB.out hw317_1), (pw_cell_below HB.out hw317_2), (pw_cell_below HB.out hw317_3), (pw_cell_below HB.out hw317_4), (pw_cell_below HB.out hw317_5), (pw_cell_below HB.out hw317_6)⟩ (fun hHeld => ?_)
           clear hK K
           refine norm_ (a' := ?_) ?_ ?_
           rotate_left
           ·show Act.put _ (some 36) _ = _
            simp only [Act.put, sa_, sz_, ss_, i64_w, i32_w]
            rfl
           refine pn_ HT_ 7 37 ?_ ?_ q14_8 rfl rfl (by kernel_rfl) (fun _ _ _ h => h) (by rfl) ?_ ?_ ?_
           rotate_left 2;(intro w';go_simp;with_reducible rfl);(simp only [Act.put, sa_, sz_, ss_, i64_w, i32_w];rfl)
           refine done_ (done_of HT_.out (by kernel_rfl)) ?_
           have p319 : 0 ≤ (x5_1 : Int) := dq_ (by assumption)
           have q319 : x5_1 < (l0.length : Int) := dq_ (by assumption)
           ((try clear hHeld); (try clear hx315_0); (try clear hx315_1); (try clear hx315_2); (try clear hx315_3); (try clear hx315_4); (try clear hx315_5); (try clear hx315_6); (try clear hx316_0); (try clear hx316_1); (try clear hx316_2); (try clear hx316_3); (try clear hx316_4); (try clear hx316_5); (try clear hx316_6); (try clear hx317_0); (try clear hx317_1); (try clear hx317_2); (try clear hx317_3); (try clear hx317_4); (try clear hx317_5); (try clear hx317_6); (try clear hx319_0); (try clear hx319_1); (try clear hx319_2); (try clear hx319_3); (try clear hx319_4); (try clear hx319_5); (try clear hx319_6)) -- MENDOPEN
           obtain ⟨ad319, A319_3, c319_3, A319_6, c319_6, e319, hx319_0, hx319_1, hx319_2, hx319_3, hx319_4, hx319_5, hx319_6, hl319_3, hi319_3, hl319_6, hi319_6⟩ := at_T44 HR0.out x5_1 p319 q319
           obtain rfl : ad315 = ad319 := (by injection e319)
           replace hx319_0 := pw_cell_below HB.out hx319_0
           replace hx319_1 := pw_cell_below HB.out hx319_1
           replace hx319_2 := pw_cell_below HB.out hx319_2
           replace hx319_3 := pw_cell_below HB.out hx319_3
           replace hx319_4 := pw_cell_below HB.out hx319_4
           replace hx319_5 := pw_cell_below HB.out hx319_5
           replace hx319_6 := pw_cell_below HB.out hx319_6
           have HR319_3 := Aside0.mk hi319_3
           have HC319_3 := Aside0.mk hl319_3
           clear hi319_3 hl319_3
           have HR319_6 := Aside0.mk hi319_6
           have HC319_6 := Aside0.mk hl319_6
           clear hi319_6 hl319_6
           replace p319 := eq_true p319
           replace q319 := eq_true q319
           try go_wp2_with (first | ((with_reducible refine gate_callee (f := 61) rfl ?_); refine goesL_ (some 46) rfl rfl Try.func61 (by kernel_rfl) rfl #[.slice A319_3 ((rd_T44 l0 x5_1).f3).length c319_3, .int .i64 (wrap64 ((wrap64 ((wrap64 (x1_1 + 1)) + 1)) + 1))] rfl (by (try simp only [List.map_toArray, List.map_cons, List.map_nil]); first | done | rfl | (simp only [List.length_drop, List.length_take]; rfl)) ?_; (with_reducible refine (laws_heldAttrS.calls k1 _ _ ((rd_T44 l0 x5_1).f3) (wrap64 ((wrap64 ((wrap64 (x1_1 + 1)) + 1)) + 1)) t320 _ ?side1 ?side2 A9.out).mono ?_); (case side1 => repeat (first | exact (Kd.C_below HR319_3.out HB.out) | (with_reducible refine ca_ ?_ _) | (with_reducible refine cn_ ?_ _) | (with_reducible refine cd_ ?_))); (case side2 => exact HC319_3.out); rintro e w31 ⟨rfl, hb⟩; refine ⟨_, rfl, ?_⟩; have n0_ := Aside0.mk (below_step (by repeat (first | (with_reducible first | exact HB.out | apply ba_ | apply bn_ | apply b1_) | exact HB.out)) hb); clear HB; have HB := n0_; clear n0_; (try clear hb)))
           replace HB := Aside0.mk (b1_ HB.out)
           have p321 : 0 ≤ (x5_1 : Int) := dq_ (by assumption)
           have q321 : x5_1 < (l0.length : Int) := dq_ (by assumption)
           ((try clear hHeld); (try clear hx315_0); (try clear hx315_1); (try clear hx315_2); (try clear hx315_3); (try clear hx315_4); (try clear hx315_5); (try clear hx315_6); (try clear hx316_0); (try clear hx316_1); (try clear hx316_2); (try clear hx316_3); (try clear hx316_4); (try clear hx316_5); (try clear hx316_6); (try clear hx317_0); (try clear hx317_1); (try clear hx317_2); (try clear hx317_3); (try clear hx317_4); (try clear hx317_5); (try clear hx317_6); (try clear hx319_0); (try clear hx319_1); (try clear hx319_2); (try clear hx319_3); (try clear hx319_4); (try clear hx319_5); (try clear hx319_6)) -- MENDOPEN
           obtain ⟨ad321, A321_3, c321_3, A321_6, c321_6, e321, hx321_0, hx321_1, hx321_2, hx321_3, hx321_4, hx321_5, hx321_6, hl321_3, hi321_3, hl321_6, hi321_6⟩ := at_T44 HR0.out x5_1 p321 q321
           have hw321_6 := hx321_6
           have hw321_5 := hx321_5
           have hw321_4 := hx321_4
           have hw321_3 := hx321_3
           have hw321_2 := hx321_2
           have hw321_1 := hx321_1
           have hw321_0 := hx321_0
           obtain rfl : ad315 = ad321 := (by injection e321)
           replace hx321_0 := pw_cell_below HB.out hx321_0
           replace hx321_1 := pw_cell_below HB.out hx321_1
           replace hx321_2 := pw_cell_below HB.out hx321_2
           replace hx321_3 := pw_cell_below HB.out hx321_3
           replace hx321_4 := pw_cell_below HB.out hx321_4
           replace hx321_5 := pw_cell_below HB.out hx321_5
           replace hx321_6 := pw_cell_below HB.out hx321_6
           have HR321_3 := Aside0.mk hi321_3
           have HC321_3 := Aside0.mk hl321_3
           clear hi321_3 hl321_3
           have HR321_6 := Aside0.mk hi321_6
           have HC321_6 := Aside0.mk hl321_6
           clear hi321_6 hl321_6
           replace p321 := eq_true p321
           replace q321 := eq_true q321
           refine start_ (n := 8) (S := fun w' => w'.cell? (ad315.add ((x5_1).toNat * 7)) = some (.int .i64 ((rd_T44 l0 x5_1).f0)) ∧ w'.cell? ⟨(ad315.add ((x5_1).toNat * 7)).block, (ad315.add ((x5_1).toNat * 7)).off + 1, none⟩ = some (.int .i64 ((rd_T44 l0 x5_1).f1)) ∧ w'.cell? ⟨(ad315.add ((x5_1).toNat * 7)).block, (ad315.add ((x5_1).toNat * 7)).off + 2, none⟩ = some (.string ((rd_T44 l0 x5_1).f2)) ∧ w'.cell? ⟨(ad315.add ((x5_1).toNat * 7)).block, (ad315.add ((x5_1).toNat * 7)).off + 3, none⟩ = some (.slice A321_3 ((rd_T44 l0 x5_1).f3).length c321_3) ∧ w'.cell? ⟨(ad315.add ((x5_1).toNat * 7)).block, (ad315.add ((x5_1).toNat * 7)).off + 4, none⟩ = some (.string ((rd_T44 l0 x5_1).f4)) ∧ w'.cell? ⟨(ad315.add ((x5_1).toNat * 7)).block, (ad315.add ((x5_1).toNat * 7)).off + 5, none⟩ = some (.int .i64 ((rd_T44 l0 x5_1).f5)) ∧ w'.cell? ⟨(ad315.add ((x5_1).toNat * 7)).block, (ad315.add ((x5_1).toNat * 7)).off + 6, none⟩ = some (.slice A321_6 ((rd_T44 l0 x5_1).f6).length c321_6)) (ds := []) q14_0 (by kernel_rfl) rfl rfl ⟨(pw_cell_below HB.out hw321_0), (pw_cell_below HB.out hw321_1), (pw_cell_below HB.out hw321_2), (pw_cell_below HB.out hw321_3), (pw_cell_below HB.out hw321_4), (pw_cell_below HB.out hw321_5), (pw_cell_below HB.out hw321_6)⟩ (fun hHeld => ?_); refine with_tabW laws_heldItemS.tab16 laws_heldItemS.bits16 (fun HT_ HW_ => ?_)
           generalize w31.drew = w32 at HB HR321_3 HR321_6 hx321_0 hx321_1 hx321_2 hx321_3 hx321_4 hx321_5 hx321_6 hHeld ⊢
           refine pn_ HT_ 0 49 ?_ ?_ q14_1 rfl rfl (by kernel_rfl) (fun _ _ _ h => h) (by rfl) ?_ ?_ ?_
           rotate_left 2;(intro w';go_simp;with_reducible rfl);(simp only [Act.put, sa_, sz_, ss_, i64_w, i32_w];rfl)
           refine pn_ HT_ 1 50 ?_ ?_ q14_2 rfl rfl (by kernel_rfl) (fun _ _ _ h => h) (by rfl) ?_ ?_ ?_
           rotate_left 2;(intro w';go_simp;with_reducible rfl);(simp only [Act.put, sa_, sz_, ss_, i64_w, i32_w];rfl)
           refine pn_ HT_ 2 51 ?_ ?_ q14_3 rfl rfl (by kernel_rfl) (fun _ _ _ h => h) (by rfl) ?_ ?_ ?_
           rotate_left 2;(intro w';go_simp;with_reducible rfl);(simp only [Act.put, sa_, sz_, ss_, i64_w, i32_w];rfl)
           refine pn_ HT_ 3 52 ?_ ?_ q14_4 rfl rfl (by kernel_rfl) (fun _ _ _ h => h) (by rfl) ?_ ?_ ?_
           rotate_left 2;(intro w';go_simp;with_reducible rfl);(simp only [Act.put, sa_, sz_, ss_, i64_w, i32_w];rfl)
           refine pn_ HT_ 5 54 ?_ ?_ q14_5 rfl rfl (by kernel_rfl) (fun _ _ _ h => h) (by rfl) ?_ ?_ ?_
           rotate_left 2;(intro w';go_simp;with_reducible rfl);(simp only [Act.put, sa_, sz_, ss_, i64_w, i32_w];rfl)
           refine tn_ HT_ HW_ 4 53 ?_ ?_ q14_6 rfl rfl (by kernel_rfl) (fun _ _ _ h => h) (by rfl) hHeld ?_ ?_ ?_
           rotate_left 2;(rintro w' ⟨s0, s1, s2, s3, s4, s5, s6⟩;go_simp;with_reducible rfl);(simp only [Act.put, sa_, sz_, ss_, i64_w, i32_w];rfl)
           refine on_ HT_ 6 55 q14_7 rfl rfl (by kernel_rfl) (by decide) (fun K hK => ?_)
           refine goes_ Try.func59 (by kernel_rfl) rfl #[.int .i64 t320] (by rfl) rfl rfl (by (try simp only [List.map_toArray, List.map_cons, List.map_nil]); first | done | rfl | (simp only [List.length_drop, List.length_take]; rfl)) ?_
           with_reducible refine (laws_markText.calls k1 t320 t322 _ A14.out).mono ?_
           rintro e w33 ⟨rfl, hb⟩
           refine ⟨_, rfl, ?_⟩
           replace HB := Aside0.mk (below_step (by repeat (first | (with_reducible first | exact HB.out | apply ba_ | apply bn_ | apply b1_) | exact HB.out)) hb)
           (try clear hb)
           refine hK.out _ _ ⟨(pw_cell_below HB.out hw321_0), (pw_cell_below HB.out hw321_1), (pw_cell_below HB.out hw321_2), (pw_cell_below HB.out hw321_3), (pw_cell_below HB.out hw321_4), (pw_cell_below HB.out hw321_5), (pw_cell_below HB.out hw321_6)⟩ (fun hHeld => ?_)
           clear hK K
           refine norm_ (a' := ?_) ?_ ?_
           rotate_left
           ·show Act.put _ (some 55) _ = _
            simp only [Act.put, sa_, sz_, ss_, i64_w, i32_w]
            rfl
           refine pn_ HT_ 7 56 ?_ ?_ q14_8 rfl rfl (by kernel_rfl) (fun _ _ _ h => h) (by rfl) ?_ ?_ ?_
           rotate_left 2;(intro w';go_simp;with_reducible rfl);(simp only [Act.put, sa_, sz_, ss_, i64_w, i32_w];rfl)
           refine done_ (done_of HT_.out (by kernel_rfl)) ?_
           have p323 : 0 ≤ (x5_1 : Int) := dq_ (by assumption)
           have q323 : x5_1 < (l0.length : Int) := dq_ (by assumption)
           ((try clear hHeld); (try clear hx315_0); (try clear hx315_1); (try clear hx315_2); (try clear hx315_3); (try clear hx315_4); (try clear hx315_5); (try clear hx315_6); (try clear hx316_0); (try clear hx316_1); (try clear hx316_2); (try clear hx316_3); (try clear hx316_4); (try clear hx316_5); (try clear hx316_6); (try clear hx317_0); (try clear hx317_1); (try clear hx317_2); (try clear hx317_3); (try clear hx317_4); (try clear hx317_5); (try clear hx317_6); (try clear hx319_0); (try clear hx319_1); (try clear hx319_2); (try clear hx319_3); (try clear hx319_4); (try clear hx319_5); (try clear hx319_6); (try clear hx321_0); (try clear hx321_1); (try clear hx321_2); (try clear hx321_3); (try clear hx321_4); (try clear hx321_5); (try clear hx321_6)) -- MENDOPEN
           obtain ⟨ad323, A323_3, c323_3, A323_6, c323_6, e323, hx323_0, hx323_1, hx323_2, hx323_3, hx323_4, hx323_5, hx323_6, hl323_3, hi323_3, hl323_6, hi323_6⟩ := at_T44 HR0.out x5_1 p323 q323
           obtain rfl : ad315 = ad323 := (by injection e323)
           replace hx323_0 := pw_cell_below HB.out hx323_0
           replace hx323_1 := pw_cell_below HB.out hx323_1
           replace hx323_2 := pw_cell_below HB.out hx323_2
           replace hx323_3 := pw_cell_below HB.out hx323_3
           replace hx323_4 := pw_cell_below HB.out hx323_4
           replace hx323_5 := pw_cell_below HB.out hx323_5
           replace hx323_6 := pw_cell_below HB.out hx323_6
           have HR323_3 := Aside0.mk hi323_3
           have HC323_3 := Aside0.mk hl323_3
           clear hi323_3 hl323_3
           have HR323_6 := Aside0.mk hi323_6
           have HC323_6 := Aside0.mk hl323_6
           clear hi323_6 hl323_6
           replace p323 := eq_true p323
           replace q323 := eq_true q323
           try go_wp2
           go_ret
           exact ⟨by first | rfl | (simp [errW_none, errW_some] <;> rfl) | (simp [*, errW_none, errW_some] <;> rfl), by repeat (first | (with_reducible first | exact HB.out | apply ba_ | apply bn_ | apply b1_) | exact HB.out)⟩
         ·rw [if_neg c15] at H
          have c15b0 : (((rd_T44 l0 x5_1).f4).toList == t322.toList) = false := beq_eq_false_iff_ne.mpr c15
          have c15b1 : (((rd_T44 l0 x5_1).f4).toList != t322.toList) = true := bne_iff_ne.mpr c15
          obtain rfl := Option.some.inj H
          have p315 : 0 ≤ (x5_1 : Int) := dq_ (by assumption)
          have q315 : x5_1 < (l0.length : Int) := dq_ (by assumption)
          ((try clear hHeld); (try clear hx315_0); (try clear hx315_1); (try clear hx315_2); (try clear hx315_3); (try clear hx315_4); (try clear hx315_5); (try clear hx315_6); (try clear hx316_0); (try clear hx316_1); (try clear hx316_2); (try clear hx316_3); (try clear hx316_4); (try clear hx316_5); (try clear hx316_6); (try clear hx317_0); (try clear hx317_1); (try clear hx317_2); (try clear hx317_3); (try clear hx317_4); (try clear hx317_5); (try clear hx317_6); (try clear hx319_0); (try clear hx319_1); (try clear hx319_2); (try clear hx319_3); (try clear hx319_4); (try clear hx319_5); (try clear hx319_6)) -- MENDOPEN
          obtain ⟨ad315, A315_3, c315_3, A315_6, c315_6, e315, hx315_0, hx315_1, hx315_2, hx315_3, hx315_4, hx315_5, hx315_6, hl315_3, hi315_3, hl315_6, hi315_6⟩ := at_T44 HR0.out x5_1 p315 q315
          cases e315
          replace hx315_0 := pw_cell_below HB.out hx315_0
          replace hx315_1 := pw_cell_below HB.out hx315_1
          replace hx315_2 := pw_cell_below HB.out hx315_2
          replace hx315_3 := pw_cell_below HB.out hx315_3
          replace hx315_4 := pw_cell_below HB.out hx315_4
          replace hx315_5 := pw_cell_below HB.out hx315_5
          replace hx315_6 := pw_cell_below HB.out hx315_6
          have HR315_3 := Aside0.mk hi315_3
          have HC315_3 := Aside0.mk hl315_3
          clear hi315_3 hl315_3
          have HR315_6 := Aside0.mk hi315_6
          have HC315_6 := Aside0.mk hl315_6
          clear hi315_6 hl315_6
          replace p315 := eq_true p315
          replace q315 := eq_true q315
          have p316 : 0 ≤ (x5_1 : Int) := dq_ (by assumption)
          have q316 : x5_1 < (l0.length : Int) := dq_ (by assumption)
          obtain ⟨ad316, A316_3, c316_3, A316_6, c316_6, e316, hx316_0, hx316_1, hx316_2, hx316_3, hx316_4, hx316_5, hx316_6, hl316_3, hi316_3, hl316_6, hi316_6⟩ := at_T44 HR0.out x5_1 p316 q316
          obtain rfl : ad315 = ad316 := (by injection e316)
          replace hx316_0 := pw_cell_below HB.out hx316_0
          replace hx316_1 := pw_cell_below HB.out hx316_1
          replace hx316_2 := pw_cell_below HB.out hx316_2
          replace hx316_3 := pw_cell_below HB.out hx316_3
          replace hx316_4 := pw_cell_below HB.out hx316_4
          replace hx316_5 := pw_cell_below HB.out hx316_5
          replace hx316_6 := pw_cell_below HB.out hx316_6
          have HR316_3 := Aside0.mk hi316_3
          have HC316_3 := Aside0.mk hl316_3
          clear hi316_3 hl316_3
          have HR316_6 := Aside0.mk hi316_6
          have HC316_6 := Aside0.mk hl316_6
          clear hi316_6 hl316_6
          replace p316 := eq_true p316
          replace q316 := eq_true q316
          have ea_ := Option.some.inj (hx315_3.symm.trans hx316_3)
          injection ea_ with ea_ en_ ec_
          subst ea_
          subst ec_
          clear en_
          have ea_ := Option.some.inj (hx315_6.symm.trans hx316_6)
          injection ea_ with ea_ en_ ec_
          subst ea_
          subst ec_
          clear en_
          try go_wp2
          replace HB := Aside0.mk (b1_ HB.out)
          have p317 : 0 ≤ (x5_1 : Int) := dq_ (by assumption)
          have q317 : x5_1 < (l0.length : Int) := dq_ (by assumption)
          ((try clear hHeld); (try clear hx315_0); (try clear hx315_1); (try clear hx315_2); (try clear hx315_3); (try clear hx315_4); (try clear hx315_5); (try clear hx315_6); (try clear hx316_0); (try clear hx316_1); (try clear hx316_2); (try clear hx316_3); (try clear hx316_4); (try clear hx316_5); (try clear hx316_6); (try clear hx317_0); (try clear hx317_1); (try clear hx317_2); (try clear hx317_3); (try clear hx317_4); (try clear hx317_5); (try clear hx317_6); (try clear hx319_0); (try clear hx319_1); (try clear hx319_2); (try clear hx319_3); (try clear hx319_4); (try clear hx319_5); (try clear hx319_6)) -- MENDOPEN
          obtain ⟨ad317, A317_3, c317_3, A317_6, c317_6, e317, hx317_0, hx317_1, hx317_2, hx317_3, hx317_4, hx317_5, hx317_6, hl317_3, hi317_3, hl317_6, hi317_6⟩ := at_T44 HR0.out x5_1 p317 q317
          have hw317_6 := hx317_6
          have hw317_5 := hx317_5
          have hw317_4 := hx317_4
          have hw317_3 := hx317_3
          have hw317_2 := hx317_2
          have hw317_1 := hx317_1
          have hw317_0 := hx317_0
          obtain rfl : ad315 = ad317 := (by injection e317)
          replace hx317_0 := pw_cell_below HB.out hx317_0
          replace hx317_1 := pw_cell_below HB.out hx317_1
          replace hx317_2 := pw_cell_below HB.out hx317_2
          replace hx317_3 := pw_cell_below HB.out hx317_3
          replace hx317_4 := pw_cell_below HB.out hx317_4
          replace hx317_5 := pw_cell_below HB.out hx317_5
          replace hx317_6 := pw_cell_below HB.out hx317_6
          have HR317_3 := Aside0.mk hi317_3
          have HC317_3 := Aside0.mk hl317_3
          clear hi317_3 hl317_3
          have HR317_6 := Aside0.mk hi317_6
          have HC317_6 := Aside0.mk hl317_6
          clear hi317_6 hl317_6
          replace p317 := eq_true p317
          replace q317 := eq_true q317
          refine start_ (n := 8) (S := fun w' => w'.cell? (ad315.add ((x5_1).toNat * 7)) = some (.int .i64 ((rd_T44 l0 x5_1).f0)) ∧ w'.cell? ⟨(ad315.add ((x5_1).toNat * 7)).block, (ad315.add ((x5_1).toNat * 7)).off + 1, none⟩ = some (.int .i64 ((rd_T44 l0 x5_1).f1)) ∧ w'.cell? ⟨(ad315.add ((x5_1).toNat * 7)).block, (ad315.add ((x5_1).toNat * 7)).off + 2, none⟩ = some (.string ((rd_T44 l0 x5_1).f2)) ∧ w'.cell? ⟨(ad315.add ((x5_1).toNat * 7)).block, (ad315.add ((x5_1).toNat * 7)).off + 3, none⟩ = some (.slice A317_3 ((rd_T44 l0 x5_1).f3).length c317_3) ∧ w'.cell? ⟨(ad315.add ((x5_1).toNat * 7)).block, (ad315.add ((x5_1).toNat * 7)).off + 4, none⟩ = some (.string ((rd_T44 l0 x5_1).f4)) ∧ w'.cell? ⟨(ad315.add ((x5_1).toNat * 7)).block, (ad315.add ((x5_1).toNat * 7)).off + 5, none⟩ = some (.int .i64 ((rd_T44 l0 x5_1).f5)) ∧ w'.cell? ⟨(ad315.add ((x5_1).toNat * 7)).block, (ad315.add ((x5_1).toNat * 7)).off + 6, none⟩ = some (.slice A317_6 ((rd_T44 l0 x5_1).f6).length c317_6)) (ds := []) q14_0 (by kernel_rfl) rfl rfl ⟨(pw_cell_below HB.out hw317_0), (pw_cell_below HB.out hw317_1), (pw_cell_below HB.out hw317_2), (pw_cell_below HB.out hw317_3), (pw_cell_below HB.out hw317_4), (pw_cell_below HB.out hw317_5), (pw_cell_below HB.out hw317_6)⟩ (fun hHeld => ?_); refine with_tabW laws_heldItemS.tab10 laws_heldItemS.bits10 (fun HT_ HW_ => ?_)
          generalize wr.drew = w34 at HB HR317_3 HR317_6 hx317_0 hx317_1 hx317_2 hx317_3 hx317_4 hx317_5 hx317_6 hHeld ⊢
          refine pn_ HT_ 0 30 ?_ ?_ q14_1 rfl rfl (by kernel_rfl) (fun _ _ _ h => h) (by rfl) ?_ ?_ ?_
          rotate_left 2;(intro w';go_simp;with_reducible rfl);(simp only [Act.put, sa_, sz_, ss_, i64_w, i32_w];rfl)
          refine pn_ HT_ 1 31 ?_ ?_ q14_2 rfl rfl (by kernel_rfl) (fun _ _ _ h => h) (by rfl) ?_ ?_ ?_
          rotate_left 2;(intro w';go_simp;with_reducible rfl);(simp only [Act.put, sa_, sz_, ss_, i64_w, i32_w];rfl)
          refine pn_ HT_ 2 32 ?_ ?_ q14_3 rfl rfl (by kernel_rfl) (fun _ _ _ h => h) (by rfl) ?_ ?_ ?_
          rotate_left 2;(intro w';go_simp;with_reducible rfl);(simp only [Act.put, sa_, sz_, ss_, i64_w, i32_w];rfl)
          refine pn_ HT_ 3 33 ?_ ?_ q14_4 rfl rfl (by kernel_rfl) (fun _ _ _ h => h) (by rfl) ?_ ?_ ?_
          rotate_left 2;(intro w';go_simp;with_reducible rfl);(simp only [Act.put, sa_, sz_, ss_, i64_w, i32_w];rfl)
          refine pn_ HT_ 5 35 ?_ ?_ q14_5 rfl rfl (by kernel_rfl) (fun _ _ _ h => h) (by rfl) ?_ ?_ ?_
          rotate_left 2;(intro w';go_simp;with_reducible rfl);(simp only [Act.put, sa_, sz_, ss_, i64_w, i32_w];rfl)
          refine tn_ HT_ HW_ 4 34 ?_ ?_ q14_6 rfl rfl (by kernel_rfl) (fun _ _ _ h => h) (by rfl) hHeld ?_ ?_ ?_
          rotate_left 2;(rintro w' ⟨s0, s1, s2, s3, s4, s5, s6⟩;go_simp;with_reducible rfl);(simp only [Act.put, sa_, sz_, ss_, i64_w, i32_w];rfl)
          refine on_ HT_ 6 36 q14_7 rfl rfl (by kernel_rfl) (by decide) (fun K hK => ?_)
          refine goes_ Try.func59 (by kernel_rfl) rfl #[.int .i64 (wrap64 ((wrap64 (x1_1 + 1)) + 1))] (by rfl) rfl rfl (by (try simp only [List.map_toArray, List.map_cons, List.map_nil]); first | done | rfl | (simp only [List.length_drop, List.length_take]; rfl)) ?_
          with_reducible refine (laws_markText.calls k1 (wrap64 ((wrap64 (x1_1 + 1)) + 1)) t318 _ A7.out).mono ?_
          rintro e w35 ⟨rfl, hb⟩
          refine ⟨_, rfl, ?_⟩
          replace HB := Aside0.mk (below_step (by repeat (first | (with_reducible first | exact HB.out | apply ba_ | apply bn_ | apply b1_) | exact HB.out)) hb)
          (try clear hb)
          refine hK.out _ _ ⟨(pw_cell_below HB.out hw317_0), (pw_cell_below HB.out hw317_1), (pw_cell_below HB.out hw317_2), (pw_cell_below HB.out hw317_3), (pw_cell_below HB.out hw317_4), (pw_cell_below HB.out hw317_5), (pw_cell_below HB.out hw317_6)⟩ (fun hHeld => ?_)
          clear hK K
          refine norm_ (a' := ?_) ?_ ?_
          rotate_left
          ·show Act.put _ (some 36) _ = _
           simp only [Act.put, sa_, sz_, ss_, i64_w, i32_w]
           rfl
          refine pn_ HT_ 7 37 ?_ ?_ q14_8 rfl rfl (by kernel_rfl) (fun _ _ _ h => h) (by rfl) ?_ ?_ ?_
          rotate_left 2;(intro w';go_simp;with_reducible rfl);(simp only [Act.put, sa_, sz_, ss_, i64_w, i32_w];rfl)
          refine done_ (done_of HT_.out (by kernel_rfl)) ?_
          have p319 : 0 ≤ (x5_1 : Int) := dq_ (by assumption)
          have q319 : x5_1 < (l0.length : Int) := dq_ (by assumption)
          ((try clear hHeld); (try clear hx315_0); (try clear hx315_1); (try clear hx315_2); (try clear hx315_3); (try clear hx315_4); (try clear hx315_5); (try clear hx315_6); (try clear hx316_0); (try clear hx316_1); (try clear hx316_2); (try clear hx316_3); (try clear hx316_4); (try clear hx316_5); (try clear hx316_6); (try clear hx317_0); (try clear hx317_1); (try clear hx317_2); (try clear hx317_3); (try clear hx317_4); (try clear hx317_5); (try clear hx317_6); (try clear hx319_0); (try clear hx319_1); (try clear hx319_2); (try clear hx319_3); (try clear hx319_4); (try clear hx319_5); (try clear hx319_6)) -- MENDOPEN
          obtain ⟨ad319, A319_3, c319_3, A319_6, c319_6, e319, hx319_0, hx319_1, hx319_2, hx319_3, hx319_4, hx319_5, hx319_6, hl319_3, hi319_3, hl319_6, hi319_6⟩ := at_T44 HR0.out x5_1 p319 q319
          obtain rfl : ad315 = ad319 := (by injection e319)
          replace hx319_0 := pw_cell_below HB.out hx319_0
          replace hx319_1 := pw_cell_below HB.out hx319_1
          replace hx319_2 := pw_cell_below HB.out hx319_2
          replace hx319_3 := pw_cell_below HB.out hx319_3
          replace hx319_4 := pw_cell_below HB.out hx319_4
          replace hx319_5 := pw_cell_below HB.out hx319_5
          replace hx319_6 := pw_cell_below HB.out hx319_6
          have HR319_3 := Aside0.mk hi319_3
          have HC319_3 := Aside0.mk hl319_3
          clear hi319_3 hl319_3
          have HR319_6 := Aside0.mk hi319_6
          have HC319_6 := Aside0.mk hl319_6
          clear hi319_6 hl319_6
          replace p319 := eq_true p319
          replace q319 := eq_true q319
          try go_wp2_with (first | ((with_reducible refine gate_callee (f := 61) rfl ?_); refine goesL_ (some 46) rfl rfl Try.func61 (by kernel_rfl) rfl #[.slice A319_3 ((rd_T44 l0 x5_1).f3).length c319_3, .int .i64 (wrap64 ((wrap64 ((wrap64 (x1_1 + 1)) + 1)) + 1))] rfl (by (try simp only [List.map_toArray, List.map_cons, List.map_nil]); first | done | rfl | (simp only [List.length_drop, List.length_take]; rfl)) ?_; (with_reducible refine (laws_heldAttrS.calls k1 _ _ ((rd_T44 l0 x5_1).f3) (wrap64 ((wrap64 ((wrap64 (x1_1 + 1)) + 1)) + 1)) t320 _ ?side1 ?side2 A9.out).mono ?_); (case side1 => repeat (first | exact (Kd.C_below HR319_3.out HB.out) | (with_reducible refine ca_ ?_ _) | (with_reducible refine cn_ ?_ _) | (with_reducible refine cd_ ?_))); (case side2 => exact HC319_3.out); rintro e w36 ⟨rfl, hb⟩; refine ⟨_, rfl, ?_⟩; have n0_ := Aside0.mk (below_step (by repeat (first | (with_reducible first | exact HB.out | apply ba_ | apply bn_ | apply b1_) | exact HB.out)) hb); clear HB; have HB := n0_; clear n0_; (try clear hb)))
          replace HB := Aside0.mk (b1_ HB.out)
          have p321 : 0 ≤ (x5_1 : Int) := dq_ (by assumption)
          have q321 : x5_1 < (l0.length : Int) := dq_ (by assumption)
          ((try clear hHeld); (try clear hx315_0); (try clear hx315_1); (try clear hx315_2); (try clear hx315_3); (try clear hx315_4); (try clear hx315_5); (try clear hx315_6); (try clear hx316_0); (try clear hx316_1); (try clear hx316_2); (try clear hx316_3); (try clear hx316_4); (try clear hx316_5); (try clear hx316_6); (try clear hx317_0); (try clear hx317_1); (try clear hx317_2); (try clear hx317_3); (try clear hx317_4); (try clear hx317_5); (try clear hx317_6); (try clear hx319_0); (try clear hx319_1); (try clear hx319_2); (try clear hx319_3); (try clear hx319_4); (try clear hx319_5); (try clear hx319_6)) -- MENDOPEN
          obtain ⟨ad321, A321_3, c321_3, A321_6, c321_6, e321, hx321_0, hx321_1, hx321_2, hx321_3, hx321_4, hx321_5, hx321_6, hl321_3, hi321_3, hl321_6, hi321_6⟩ := at_T44 HR0.out x5_1 p321 q321
          have hw321_6 := hx321_6
          have hw321_5 := hx321_5
          have hw321_4 := hx321_4
          have hw321_3 := hx321_3
          have hw321_2 := hx321_2
          have hw321_1 := hx321_1
          have hw321_0 := hx321_0
          obtain rfl : ad315 = ad321 := (by injection e321)
          replace hx321_0 := pw_cell_below HB.out hx321_0
          replace hx321_1 := pw_cell_below HB.out hx321_1
          replace hx321_2 := pw_cell_below HB.out hx321_2
          replace hx321_3 := pw_cell_below HB.out hx321_3
          replace hx321_4 := pw_cell_below HB.out hx321_4
          replace hx321_5 := pw_cell_below HB.out hx321_5
          replace hx321_6 := pw_cell_below HB.out hx321_6
          have HR321_3 := Aside0.mk hi321_3
          have HC321_3 := Aside0.mk hl321_3
          clear hi321_3 hl321_3
          have HR321_6 := Aside0.mk hi321_6
          have HC321_6 := Aside0.mk hl321_6
          clear hi321_6 hl321_6
          replace p321 := eq_true p321
          replace q321 := eq_true q321
          refine start_ (n := 8) (S := fun w' => w'.cell? (ad315.add ((x5_1).toNat * 7)) = some (.int .i64 ((rd_T44 l0 x5_1).f0)) ∧ w'.cell? ⟨(ad315.add ((x5_1).toNat * 7)).block, (ad315.add ((x5_1).toNat * 7)).off + 1, none⟩ = some (.int .i64 ((rd_T44 l0 x5_1).f1)) ∧ w'.cell? ⟨(ad315.add ((x5_1).toNat * 7)).block, (ad315.add ((x5_1).toNat * 7)).off + 2, none⟩ = some (.string ((rd_T44 l0 x5_1).f2)) ∧ w'.cell? ⟨(ad315.add ((x5_1).toNat * 7)).block, (ad315.add ((x5_1).toNat * 7)).off + 3, none⟩ = some (.slice A321_3 ((rd_T44 l0 x5_1).f3).length c321_3) ∧ w'.cell? ⟨(ad315.add ((x5_1).toNat * 7)).block, (ad315.add ((x5_1).toNat * 7)).off + 4, none⟩ = some (.string ((rd_T44 l0 x5_1).f4)) ∧ w'.cell? ⟨(ad315.add ((x5_1).toNat * 7)).block, (ad315.add ((x5_1).toNat * 7)).off + 5, none⟩ = some (.int .i64 ((rd_T44 l0 x5_1).f5)) ∧ w'.cell? ⟨(ad315.add ((x5_1).toNat * 7)).block, (ad315.add ((x5_1).toNat * 7)).off + 6, none⟩ = some (.slice A321_6 ((rd_T44 l0 x5_1).f6).length c321_6)) (ds := []) q14_0 (by kernel_rfl) rfl rfl ⟨(pw_cell_below HB.out hw321_0), (pw_cell_below HB.out hw321_1), (pw_cell_below HB.out hw321_2), (pw_cell_below HB.out hw321_3), (pw_cell_below HB.out hw321_4), (pw_cell_below HB.out hw321_5), (pw_cell_below HB.out hw321_6)⟩ (fun hHeld => ?_); refine with_tabW laws_heldItemS.tab16 laws_heldItemS.bits16 (fun HT_ HW_ => ?_)
          generalize w36.drew = w37 at HB HR321_3 HR321_6 hx321_0 hx321_1 hx321_2 hx321_3 hx321_4 hx321_5 hx321_6 hHeld ⊢
          refine pn_ HT_ 0 49 ?_ ?_ q14_1 rfl rfl (by kernel_rfl) (fun _ _ _ h => h) (by rfl) ?_ ?_ ?_
          rotate_left 2;(intro w';go_simp;with_reducible rfl);(simp only [Act.put, sa_, sz_, ss_, i64_w, i32_w];rfl)
          refine pn_ HT_ 1 50 ?_ ?_ q14_2 rfl rfl (by kernel_rfl) (fun _ _ _ h => h) (by rfl) ?_ ?_ ?_
          rotate_left 2;(intro w';go_simp;with_reducible rfl);(simp only [Act.put, sa_, sz_, ss_, i64_w, i32_w];rfl)
          refine pn_ HT_ 2 51 ?_ ?_ q14_3 rfl rfl (by kernel_rfl) (fun _ _ _ h => h) (by rfl) ?_ ?_ ?_
          rotate_left 2;(intro w';go_simp;with_reducible rfl);(simp only [Act.put, sa_, sz_, ss_, i64_w, i32_w];rfl)
          refine pn_ HT_ 3 52 ?_ ?_ q14_4 rfl rfl (by kernel_rfl) (fun _ _ _ h => h) (by rfl) ?_ ?_ ?_
          rotate_left 2;(intro w';go_simp;with_reducible rfl);(simp only [Act.put, sa_, sz_, ss_, i64_w, i32_w];rfl)
          refine pn_ HT_ 5 54 ?_ ?_ q14_5 rfl rfl (by kernel_rfl) (fun _ _ _ h => h) (by rfl) ?_ ?_ ?_
          rotate_left 2;(intro w';go_simp;with_reducible rfl);(simp only [Act.put, sa_, sz_, ss_, i64_w, i32_w];rfl)
          refine tn_ HT_ HW_ 4 53 ?_ ?_ q14_6 rfl rfl (by kernel_rfl) (fun _ _ _ h => h) (by rfl) hHeld ?_ ?_ ?_
          rotate_left 2;(rintro w' ⟨s0, s1, s2, s3, s4, s5, s6⟩;go_simp;with_reducible rfl);(simp only [Act.put, sa_, sz_, ss_, i64_w, i32_w];rfl)
          refine on_ HT_ 6 55 q14_7 rfl rfl (by kernel_rfl) (by decide) (fun K hK => ?_)
          refine goes_ Try.func59 (by kernel_rfl) rfl #[.int .i64 t320] (by rfl) rfl rfl (by (try simp only [List.map_toArray, List.map_cons, List.map_nil]); first | done | rfl | (simp only [List.length_drop, List.length_take]; rfl)) ?_
          with_reducible refine (laws_markText.calls k1 t320 t322 _ A14.out).mono ?_
          rintro e w38 ⟨rfl, hb⟩
          refine ⟨_, rfl, ?_⟩
          replace HB := Aside0.mk (below_step (by repeat (first | (with_reducible first | exact HB.out | apply ba_ | apply bn_ | apply b1_) | exact HB.out)) hb)
          (try clear hb)
          refine hK.out _ _ ⟨(pw_cell_below HB.out hw321_0), (pw_cell_below HB.out hw321_1), (pw_cell_below HB.out hw321_2), (pw_cell_below HB.out hw321_3), (pw_cell_below HB.out hw321_4), (pw_cell_below HB.out hw321_5), (pw_cell_below HB.out hw321_6)⟩ (fun hHeld => ?_)
          clear hK K
          refine norm_ (a' := ?_) ?_ ?_
          rotate_left
          ·show Act.put _ (some 55) _ = _
           simp only [Act.put, sa_, sz_, ss_, i64_w, i32_w]
           rfl
          refine pn_ HT_ 7 56 ?_ ?_ q14_8 rfl rfl (by kernel_rfl) (fun _ _ _ h => h) (by rfl) ?_ ?_ ?_
          rotate_left 2;(intro w';go_simp;with_reducible rfl);(simp only [Act.put, sa_, sz_, ss_, i64_w, i32_w];rfl)
          refine done_ (done_of HT_.out (by kernel_rfl)) ?_
          try go_wp2
          go_ret
          exact ⟨by first | rfl | (simp [errW_none, errW_some] <;> rfl) | (simp [*, errW_none, errW_some] <;> rfl), by repeat (first | (with_reducible first | exact HB.out | apply ba_ | apply bn_ | apply b1_) | exact HB.out)⟩
       ·rw [if_neg c8] at H
        have c8b0 : (((rd_T44 l0 x5_1).f2).toList == t318.toList) = false := beq_eq_false_iff_ne.mpr c8
        have c8b1 : (((rd_T44 l0 x5_1).f2).toList != t318.toList) = true := bne_iff_ne.mpr c8
        obtain rfl := Option.some.inj H
        have p315 : 0 ≤ (x5_1 : Int) := dq_ (by assumption)
        have q315 : x5_1 < (l0.length : Int) := dq_ (by assumption)
        obtain ⟨ad315, A315_3, c315_3, A315_6, c315_6, e315, hx315_0, hx315_1, hx315_2, hx315_3, hx315_4, hx315_5, hx315_6, hl315_3, hi315_3, hl315_6, hi315_6⟩ := at_T44 HR0.out x5_1 p315 q315
        cases e315
        replace hx315_0 := pw_cell_below HB.out hx315_0
        replace hx315_1 := pw_cell_below HB.out hx315_1
        replace hx315_2 := pw_cell_below HB.out hx315_2
        replace hx315_3 := pw_cell_below HB.out hx315_3
        replace hx315_4 := pw_cell_below HB.out hx315_4
        replace hx315_5 := pw_cell_below HB.out hx315_5
        replace hx315_6 := pw_cell_below HB.out hx315_6
        have HR315_3 := Aside0.mk hi315_3
        have HC315_3 := Aside0.mk hl315_3
        clear hi315_3 hl315_3
        have HR315_6 := Aside0.mk hi315_6
        have HC315_6 := Aside0.mk hl315_6
        clear hi315_6 hl315_6
        replace p315 := eq_true p315
        replace q315 := eq_true q315
        have p316 : 0 ≤ (x5_1 : Int) := dq_ (by assumption)
        have q316 : x5_1 < (l0.length : Int) := dq_ (by assumption)
        obtain ⟨ad316, A316_3, c316_3, A316_6, c316_6, e316, hx316_0, hx316_1, hx316_2, hx316_3, hx316_4, hx316_5, hx316_6, hl316_3, hi316_3, hl316_6, hi316_6⟩ := at_T44 HR0.out x5_1 p316 q316
        obtain rfl : ad315 = ad316 := (by injection e316)
        replace hx316_0 := pw_cell_below HB.out hx316_0
        replace hx316_1 := pw_cell_below HB.out hx316_1
        replace hx316_2 := pw_cell_below HB.out hx316_2
        replace hx316_3 := pw_cell_below HB.out hx316_3
        replace hx316_4 := pw_cell_below HB.out hx316_4
        replace hx316_5 := pw_cell_below HB.out hx316_5
        replace hx316_6 := pw_cell_below HB.out hx316_6
        have HR316_3 := Aside0.mk hi316_3
        have HC316_3 := Aside0.mk hl316_3
        clear hi316_3 hl316_3
        have HR316_6 := Aside0.mk hi316_6
        have HC316_6 := Aside0.mk hl316_6
        clear hi316_6 hl316_6
        replace p316 := eq_true p316
        replace q316 := eq_true q316
        have ea_ := Option.some.inj (hx315_3.symm.trans hx316_3)
        injection ea_ with ea_ en_ ec_
        subst ea_
        subst ec_
        clear en_
        have ea_ := Option.some.inj (hx315_6.symm.trans hx316_6)
        injection ea_ with ea_ en_ ec_
        subst ea_
        subst ec_
        clear en_
        try go_wp2
        replace HB := Aside0.mk (b1_ HB.out)
        have p317 : 0 ≤ (x5_1 : Int) := dq_ (by assumption)
        have q317 : x5_1 < (l0.length : Int) := dq_ (by assumption)
        ((try clear hHeld); (try clear hx315_0); (try clear hx315_1); (try clear hx315_2); (try clear hx315_3); (try clear hx315_4); (try clear hx315_5); (try clear hx315_6); (try clear hx316_0); (try clear hx316_1); (try clear hx316_2); (try clear hx316_3); (try clear hx316_4); (try clear hx316_5); (try clear hx316_6)) -- MENDOPEN
        obtain ⟨ad317, A317_3, c317_3, A317_6, c317_6, e317, hx317_0, hx317_1, hx317_2, hx317_3, hx317_4, hx317_5, hx317_6, hl317_3, hi317_3, hl317_6, hi317_6⟩ := at_T44 HR0.out x5_1 p317 q317
        have hw317_6 := hx317_6
        have hw317_5 := hx317_5
        have hw317_4 := hx317_4
        have hw317_3 := hx317_3
        have hw317_2 := hx317_2
        have hw317_1 := hx317_1
        have hw317_0 := hx317_0
        obtain rfl : ad315 = ad317 := (by injection e317)
        replace hx317_0 := pw_cell_below HB.out hx317_0
        replace hx317_1 := pw_cell_below HB.out hx317_1
        replace hx317_2 := pw_cell_below HB.out hx317_2
        replace hx317_3 := pw_cell_below HB.out hx317_3
        replace hx317_4 := pw_cell_below HB.out hx317_4
        replace hx317_5 := pw_cell_below HB.out hx317_5
        replace hx317_6 := pw_cell_below HB.out hx317_6
        have HR317_3 := Aside0.mk hi317_3
        have HC317_3 := Aside0.mk hl317_3
        clear hi317_3 hl317_3
        have HR317_6 := Aside0.mk hi317_6
        have HC317_6 := Aside0.mk hl317_6
        clear hi317_6 hl317_6
        replace p317 := eq_true p317
        replace q317 := eq_true q317
        refine start_ (n := 8) (S := fun w' => w'.cell? (ad315.add ((x5_1).toNat * 7)) = some (.int .i64 ((rd_T44 l0 x5_1).f0)) ∧ w'.cell? ⟨(ad315.add ((x5_1).toNat * 7)).block, (ad315.add ((x5_1).toNat * 7)).off + 1, none⟩ = some (.int .i64 ((rd_T44 l0 x5_1).f1)) ∧ w'.cell? ⟨(ad315.add ((x5_1).toNat * 7)).block, (ad315.add ((x5_1).toNat * 7)).off + 2, none⟩ = some (.string ((rd_T44 l0 x5_1).f2)) ∧ w'.cell? ⟨(ad315.add ((x5_1).toNat * 7)).block, (ad315.add ((x5_1).toNat * 7)).off + 3, none⟩ = some (.slice A317_3 ((rd_T44 l0 x5_1).f3).length c317_3) ∧ w'.cell? ⟨(ad315.add ((x5_1).toNat * 7)).block, (ad315.add ((x5_1).toNat * 7)).off + 4, none⟩ = some (.string ((rd_T44 l0 x5_1).f4)) ∧ w'.cell? ⟨(ad315.add ((x5_1).toNat * 7)).block, (ad315.add ((x5_1).toNat * 7)).off + 5, none⟩ = some (.int .i64 ((rd_T44 l0 x5_1).f5)) ∧ w'.cell? ⟨(ad315.add ((x5_1).toNat * 7)).block, (ad315.add ((x5_1).toNat * 7)).off + 6, none⟩ = some (.slice A317_6 ((rd_T44 l0 x5_1).f6).length c317_6)) (ds := []) q14_0 (by kernel_rfl) rfl rfl ⟨(pw_cell_below HB.out hw317_0), (pw_cell_below HB.out hw317_1), (pw_cell_below HB.out hw317_2), (pw_cell_below HB.out hw317_3), (pw_cell_below HB.out hw317_4), (pw_cell_below HB.out hw317_5), (pw_cell_below HB.out hw317_6)⟩ (fun hHeld => ?_); refine with_tabW laws_heldItemS.tab10 laws_heldItemS.bits10 (fun HT_ HW_ => ?_)
        generalize wr.drew = w39 at HB HR317_3 HR317_6 hx317_0 hx317_1 hx317_2 hx317_3 hx317_4 hx317_5 hx317_6 hHeld ⊢
        refine pn_ HT_ 0 30 ?_ ?_ q14_1 rfl rfl (by kernel_rfl) (fun _ _ _ h => h) (by rfl) ?_ ?_ ?_
        rotate_left 2;(intro w';go_simp;with_reducible rfl);(simp only [Act.put, sa_, sz_, ss_, i64_w, i32_w];rfl)
        refine pn_ HT_ 1 31 ?_ ?_ q14_2 rfl rfl (by kernel_rfl) (fun _ _ _ h => h) (by rfl) ?_ ?_ ?_
        rotate_left 2;(intro w';go_simp;with_reducible rfl);(simp only [Act.put, sa_, sz_, ss_, i64_w, i32_w];rfl)
        refine pn_ HT_ 2 32 ?_ ?_ q14_3 rfl rfl (by kernel_rfl) (fun _ _ _ h => h) (by rfl) ?_ ?_ ?_
        rotate_left 2;(intro w';go_simp;with_reducible rfl);(simp only [Act.put, sa_, sz_, ss_, i64_w, i32_w];rfl)
        refine pn_ HT_ 3 33 ?_ ?_ q14_4 rfl rfl (by kernel_rfl) (fun _ _ _ h => h) (by rfl) ?_ ?_ ?_
        rotate_left 2;(intro w';go_simp;with_reducible rfl);(simp only [Act.put, sa_, sz_, ss_, i64_w, i32_w];rfl)
        refine pn_ HT_ 5 35 ?_ ?_ q14_5 rfl rfl (by kernel_rfl) (fun _ _ _ h => h) (by rfl) ?_ ?_ ?_
        rotate_left 2;(intro w';go_simp;with_reducible rfl);(simp only [Act.put, sa_, sz_, ss_, i64_w, i32_w];rfl)
        refine tn_ HT_ HW_ 4 34 ?_ ?_ q14_6 rfl rfl (by kernel_rfl) (fun _ _ _ h => h) (by rfl) hHeld ?_ ?_ ?_
        rotate_left 2;(rintro w' ⟨s0, s1, s2, s3, s4, s5, s6⟩;go_simp;with_reducible rfl);(simp only [Act.put, sa_, sz_, ss_, i64_w, i32_w];rfl)
        refine on_ HT_ 6 36 q14_7 rfl rfl (by kernel_rfl) (by decide) (fun K hK => ?_)
        refine goes_ Try.func59 (by kernel_rfl) rfl #[.int .i64 (wrap64 ((wrap64 (x1_1 + 1)) + 1))] (by rfl) rfl rfl (by (try simp only [List.map_toArray, List.map_cons, List.map_nil]); first | done | rfl | (simp only [List.length_drop, List.length_take]; rfl)) ?_
        with_reducible refine (laws_markText.calls k1 (wrap64 ((wrap64 (x1_1 + 1)) + 1)) t318 _ A7.out).mono ?_
        rintro e w40 ⟨rfl, hb⟩
        refine ⟨_, rfl, ?_⟩
        replace HB := Aside0.mk (below_step (by repeat (first | (with_reducible first | exact HB.out | apply ba_ | apply bn_ | apply b1_) | exact HB.out)) hb)
        (try clear hb)
        refine hK.out _ _ ⟨(pw_cell_below HB.out hw317_0), (pw_cell_below HB.out hw317_1), (pw_cell_below HB.out hw317_2), (pw_cell_below HB.out hw317_3), (pw_cell_below HB.out hw317_4), (pw_cell_below HB.out hw317_5), (pw_cell_below HB.out hw317_6)⟩ (fun hHeld => ?_)
        clear hK K
        refine norm_ (a' := ?_) ?_ ?_
        rotate_left
        ·show Act.put _ (some 36) _ = _
         simp only [Act.put, sa_, sz_, ss_, i64_w, i32_w]
         rfl
        refine pn_ HT_ 7 37 ?_ ?_ q14_8 rfl rfl (by kernel_rfl) (fun _ _ _ h => h) (by rfl) ?_ ?_ ?_
        rotate_left 2;(intro w';go_simp;with_reducible rfl);(simp only [Act.put, sa_, sz_, ss_, i64_w, i32_w];rfl)
        refine done_ (done_of HT_.out (by kernel_rfl)) ?_
        try go_wp2
        go_ret
        exact ⟨by first | rfl | (simp [errW_none, errW_some] <;> rfl) | (simp [*, errW_none, errW_some] <;> rfl), by repeat (first | (with_reducible first | exact HB.out | apply ba_ | apply bn_ | apply b1_) | exact HB.out)⟩
      ·rw [if_neg c6] at H
       have c6b0 : (((rd_T44 l0 x5_1).f1) == (wrap64 (x1_1 + 1))) = false := beq_eq_false_iff_ne.mpr c6
       have c6b1 : (((rd_T44 l0 x5_1).f1) != (wrap64 (x1_1 + 1))) = true := bne_iff_ne.mpr c6
       obtain rfl := Option.some.inj H
       have p315 : 0 ≤ (x5_1 : Int) := dq_ (by assumption)
       have q315 : x5_1 < (l0.length : Int) := dq_ (by assumption)
       obtain ⟨ad315, A315_3, c315_3, A315_6, c315_6, e315, hx315_0, hx315_1, hx315_2, hx315_3, hx315_4, hx315_5, hx315_6, hl315_3, hi315_3, hl315_6, hi315_6⟩ := at_T44 HR0.out x5_1 p315 q315
       cases e315
       replace hx315_0 := pw_cell_below HB.out hx315_0
       replace hx315_1 := pw_cell_below HB.out hx315_1
       replace hx315_2 := pw_cell_below HB.out hx315_2
       replace hx315_3 := pw_cell_below HB.out hx315_3
       replace hx315_4 := pw_cell_below HB.out hx315_4
       replace hx315_5 := pw_cell_below HB.out hx315_5
       replace hx315_6 := pw_cell_below HB.out hx315_6
       have HR315_3 := Aside0.mk hi315_3
       have HC315_3 := Aside0.mk hl315_3
       clear hi315_3 hl315_3
       have HR315_6 := Aside0.mk hi315_6
       have HC315_6 := Aside0.mk hl315_6
       clear hi315_6 hl315_6
       replace p315 := eq_true p315
       replace q315 := eq_true q315
       have p316 : 0 ≤ (x5_1 : Int) := dq_ (by assumption)
       have q316 : x5_1 < (l0.length : Int) := dq_ (by assumption)
       obtain ⟨ad316, A316_3, c316_3, A316_6, c316_6, e316, hx316_0, hx316_1, hx316_2, hx316_3, hx316_4, hx316_5, hx316_6, hl316_3, hi316_3, hl316_6, hi316_6⟩ := at_T44 HR0.out x5_1 p316 q316
       obtain rfl : ad315 = ad316 := (by injection e316)
       replace hx316_0 := pw_cell_below HB.out hx316_0
       replace hx316_1 := pw_cell_below HB.out hx316_1
       replace hx316_2 := pw_cell_below HB.out hx316_2
       replace hx316_3 := pw_cell_below HB.out hx316_3
       replace hx316_4 := pw_cell_below HB.out hx316_4
       replace hx316_5 := pw_cell_below HB.out hx316_5
       replace hx316_6 := pw_cell_below HB.out hx316_6
       have HR316_3 := Aside0.mk hi316_3
       have HC316_3 := Aside0.mk hl316_3
       clear hi316_3 hl316_3
       have HR316_6 := Aside0.mk hi316_6
       have HC316_6 := Aside0.mk hl316_6
       clear hi316_6 hl316_6
       replace p316 := eq_true p316
       replace q316 := eq_true q316
       have ea_ := Option.some.inj (hx315_3.symm.trans hx316_3)
       injection ea_ with ea_ en_ ec_
       subst ea_
       subst ec_
       clear en_
       have ea_ := Option.some.inj (hx315_6.symm.trans hx316_6)
       injection ea_ with ea_ en_ ec_
       subst ea_
       subst ec_
       clear en_
       go_wp2
       go_ret
       exact ⟨by first | rfl | (simp [errW_none, errW_some] <;> rfl) | (simp [*, errW_none, errW_some] <;> rfl), by repeat (first | (with_reducible first | exact HB.out | apply ba_ | apply bn_ | apply b1_) | exact HB.out)⟩
     ·rw [if_neg c5] at H
      have c5b0 : (((rd_T44 l0 x5_1).f0) == x1_1) = false := beq_eq_false_iff_ne.mpr c5
      have c5b1 : (((rd_T44 l0 x5_1).f0) != x1_1) = true := bne_iff_ne.mpr c5
      obtain rfl := Option.some.inj H
      have p315 : 0 ≤ (x5_1 : Int) := dq_ (by assumption)
      have q315 : x5_1 < (l0.length : Int) := dq_ (by assumption)
      obtain ⟨ad315, A315_3, c315_3, A315_6, c315_6, e315, hx315_0, hx315_1, hx315_2, hx315_3, hx315_4, hx315_5, hx315_6, hl315_3, hi315_3, hl315_6, hi315_6⟩ := at_T44 HR0.out x5_1 p315 q315
      cases e315
      replace hx315_0 := pw_cell_below HB.out hx315_0
      replace hx315_1 := pw_cell_below HB.out hx315_1
      replace hx315_2 := pw_cell_below HB.out hx315_2
      replace hx315_3 := pw_cell_below HB.out hx315_3
      replace hx315_4 := pw_cell_below HB.out hx315_4
      replace hx315_5 := pw_cell_below HB.out hx315_5
      replace hx315_6 := pw_cell_below HB.out hx315_6
      have HR315_3 := Aside0.mk hi315_3
      have HC315_3 := Aside0.mk hl315_3
      clear hi315_3 hl315_3
      have HR315_6 := Aside0.mk hi315_6
      have HC315_6 := Aside0.mk hl315_6
      clear hi315_6 hl315_6
      replace p315 := eq_true p315
      replace q315 := eq_true q315
      go_wp2
      go_ret
      exact ⟨by first | rfl | (simp [errW_none, errW_some] <;> rfl) | (simp [*, errW_none, errW_some] <;> rfl), by repeat (first | (with_reducible first | exact HB.out | apply ba_ | apply bn_ | apply b1_) | exact HB.out)⟩
    ·rw [if_neg c4] at H
     exact absurd H (by simp)
   ·rw [if_neg c3] at H
    have c3b0 : decide (x5_1 < (l0.length : Int)) = false := decide_eq_false c3
    clear c3
    obtain rfl := Option.some.inj H
    go_wp2
    go_ret
    exact ⟨by first | rfl | (simp [errW_none, errW_some] <;> rfl) | (simp [*, errW_none, errW_some] <;> rfl), by repeat (first | (with_reducible first | exact HB.out | apply ba_ | apply bn_ | apply b1_) | exact HB.out)⟩
end Go.Proofs.Ytbgedpicfllclaa.PFnExactAdd
