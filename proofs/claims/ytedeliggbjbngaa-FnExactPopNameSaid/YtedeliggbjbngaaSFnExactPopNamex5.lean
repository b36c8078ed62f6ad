-- Written by this session's program wip/slim.py: the print's texts (with contracts of our own), only what this row needs, shortened. Lean checks it.
import Derived.Test.YtedeliggbjbngaaSFnExactPopNamex0
import Derived.Test.YtedeliggbjbngaaSFnExactPopNamex2
import Derived.Test.YtedeliggbjbngaaSFnExactPopNamex3
import Derived.Test.YtedeliggbjbngaaSFnExactPopNamex4
namespace Go.Proofs.Ytedeliggbjbngaa.PFnExactPopName
open Go.RowKit Go.Proofs.YtedeliggbjbngaaW.PrintWords Go.Proofs.YtedeliggbjbngaaW.PrintLast Go.Proofs.YtedeliggbjbngaaW.PrintMore
attribute [local go_sem] max2_int min2_int max_two min_two max_three min_three max_four min_four
set_option linter.unusedVariables false
set_option linter.unusedSimpArgs false
def laws_heldItemS.l0 : Nat → List (S45) → Int → Int → Option (Int)
 | 0, _, _, _ => none
 | k + 1, x0, x1, x5 => if x5 < (x0.length : Int) then (if 0 ≤ x5 then (if ((rd_T45 x0 x5).f0) = x1 then (if ((rd_T45 x0 x5).f1) = (wrap64 (x1 + 1)) then ((laws_markText.f k (wrap64 ((wrap64 (x1 + 1)) + 1))).bind fun t136 => (if ((rd_T45 x0 x5).f2).toList = t136.toList then ((laws_heldAttrS.f k ((rd_T45 x0 x5).f3) (wrap64 ((wrap64 ((wrap64 (x1 + 1)) + 1)) + 1))).bind fun t138 => (if t138 < 0 then (some (-1)) else ((laws_markText.f k t138).bind fun t140 => (if ((rd_T45 x0 x5).f4).toList = t140.toList then (if ((rd_T45 x0 x5).f5) = (wrap64 (t138 + 1)) then ((laws_heldIntS.f k ((rd_T45 x0 x5).f6) (wrap64 ((wrap64 (t138 + 1)) + 1))).bind fun t143 => (if t143 < 0 then (some (-1)) else (laws_heldItemS.l0 k x0 t143 (wrap64 (x5 + 1))))) else (some (-1))) else (some (-1)))))) else (some (-1)))) else (some (-1))) else (some (-1))) else (none)) else (some x1)
def laws_heldItemS.f (k : Nat) (l0 : List (S45)) (a1 : Int) : Option (Int) := laws_heldItemS.l0 k l0 a1 0
theorem laws_heldItemS.mono_l : ∀ k, (∀ y0 y1 y2, LeO (laws_heldItemS.l0 k y0 y1 y2) (laws_heldItemS.l0 (k + 1) y0 y1 y2))
 | 0 => fun _ _ _ r h => by simp [laws_heldItemS.l0] at h
 | k + 1 => by
  have ih0 := laws_heldItemS.mono_l k
  ·intro y0 y1 y2
   unfold laws_heldItemS.l0
   repeat' first
   | (with_reducible exact ih0 _ _ _)
   | (with_reducible exact laws_heldAttrS.mono _ _ _)
   | (with_reducible exact laws_heldIntS.mono _ _ _)
   | (with_reducible exact laws_markText.mono _ _)
   | (with_reducible exact LeO.refl _)
   | (with_reducible exact LeO.none _)
   | (with_reducible refine LeO.ite ?_ ?_)
   | (with_reducible refine LeO.bind ?_ (fun _ => ?_))
theorem laws_heldItemS.mono : ∀ a0 a1 k, LeO (laws_heldItemS.f k a0 a1) (laws_heldItemS.f (k + 1) a0 a1) := by
 intro a0 a1 k
 have ih0 := laws_heldItemS.mono_l k
 unfold laws_heldItemS.f
 repeat' first
   | (with_reducible exact ih0 _ _ _)
   | (with_reducible exact laws_heldAttrS.mono _ _ _)
   | (with_reducible exact laws_heldIntS.mono _ _ _)
   | (with_reducible exact laws_markText.mono _ _)
   | (with_reducible exact LeO.refl _)
   | (with_reducible exact LeO.none _)
   | (with_reducible refine LeO.ite ?_ ?_)
   | (with_reducible refine LeO.bind ?_ (fun _ => ?_))
def laws_heldItemS.T10 : Bool × List (List Nat × List Nat) := (true, [([], []), ([], []), ([0, 1], [0, 1]), ([2], [2]), ([3], [3]), ([], []), ([5], [5]), ([4, 6], [4, 6])])
def laws_heldItemS.B10 : List Nat := [0, 0, 3, 7, 15, 0, 32, 127]
theorem laws_heldItemS.tab10 : rtab .any (opsOf Try.f30 10) = laws_heldItemS.T10 := by kernel_rfl
theorem laws_heldItemS.bits10 : waitsOk laws_heldItemS.T10.2 laws_heldItemS.B10 = true := by kernel_rfl
def laws_heldItemS.T16 : Bool × List (List Nat × List Nat) := (true, [([], []), ([], []), ([0, 1], [0, 1]), ([2], [2]), ([3], [3]), ([], []), ([5], [5]), ([4, 6], [4, 6])])
def laws_heldItemS.B16 : List Nat := [0, 0, 3, 7, 15, 0, 32, 127]
theorem laws_heldItemS.tab16 : rtab .any (opsOf Try.f30 16) = laws_heldItemS.T16 := by kernel_rfl
theorem laws_heldItemS.bits16 : waitsOk laws_heldItemS.T16.2 laws_heldItemS.B16 = true := by kernel_rfl
set_option maxHeartbeats 8000000 in
set_option maxRecDepth 100000 in
theorem laws_heldItemS.calls (k : Nat) (A0 : Option Addr) (c0 : Nat) (l0 : List (S45)) (a1 : Int) (r : Int) (w : World) (hr0 : Kd.C k45 w A0 l0.length l0) (hc0 : l0.length ≤ c0) (h : laws_heldItemS.f k l0 a1 = some r) :
  Calls Try.prog 30 #[.slice A0 l0.length c0, .int .i64 a1] w fun e w' => e = .returned (.int .i64 r) ∧ Below w.heap.size w w' := by
 have HR0 := Aside0.mk hr0
 have HC0 := Aside0.mk hc0
 clear hr0 hc0
 have HB := Aside0.mk (Below.refl w.heap.size w)
 have H : (laws_heldItemS.l0 k l0 a1 0) = some r := h
 clear h
 have H' := Aside0.mk H
 clear H
 go_enter Try.func30, Try.ntmps30
 go_wp2
 go_loopg [1, 5] k (fun kq v1 v5 w' => ∃ (x1_1 : Int) (x5_1 : Int), v1 = .int .i64 x1_1 ∧ v5 = .int .i64 x5_1 ∧ Aside0 (laws_heldItemS.l0 kq l0 x1_1 x5_1 = some r) ∧ Aside0 (kq ≤ k) ∧ Aside0 (Below w.heap.size w w'))
 case atStart => exact ⟨(a1), (0), (by first | rfl | (simp; done) | (simp [*]; done)), (by first | rfl | (simp; done) | (simp [*]; done)), H', ⟨Nat.le_refl _⟩, ⟨by repeat (first | (with_reducible first | exact HB.out | apply ba_ | apply bn_ | apply b1_) | exact HB.out)⟩⟩
 case round =>
  clear H'
  try clear p2
  obtain ⟨x1_1, x5_1, rfl, rfl, HA, HK1, HB⟩ := hrel
  cases gk with
  | zero => exact absurd HA.out (by simp [laws_heldItemS.l0])
  | succ k1 =>
   have H := HA.out
   clear HA
   simp only [laws_heldItemS.l0] at H
   by_cases c3 : x5_1 < (l0.length : Int)
   ·rw [if_pos c3] at H
    have c3b0 : decide (x5_1 < (l0.length : Int)) = true := decide_eq_true c3
    clear c3
    by_cases c4 : 0 ≤ x5_1
    ·rw [if_pos c4] at H
     have c4b0 : decide (0 ≤ x5_1) = true := decide_eq_true c4
     clear c4
     by_cases c5 : ((rd_T45 l0 x5_1).f0) = x1_1
     ·rw [if_pos c5] at H
      have c5b0 : (((rd_T45 l0 x5_1).f0) == x1_1) = true := beq_iff_eq.mpr c5
      have c5b1 : (((rd_T45 l0 x5_1).f0) != x1_1) = false := bne_eq_false_iff_eq.mpr c5
      clear c5
      by_cases c6 : ((rd_T45 l0 x5_1).f1) = (wrap64 (x1_1 + 1))
      ·rw [if_pos c6] at H
       have c6b0 : (((rd_T45 l0 x5_1).f1) == (wrap64 (x1_1 + 1))) = true := beq_iff_eq.mpr c6
       have c6b1 : (((rd_T45 l0 x5_1).f1) != (wrap64 (x1_1 + 1))) = false := bne_eq_false_iff_eq.mpr c6
       clear c6
       replace H := Option.bind_eq_some_iff.mp H
       obtain ⟨t136, A70, H⟩ := H
       replace H : (if ((rd_T45 l0 x5_1).f2).toList = t136.toList then ((laws_heldAttrS.f k1 ((rd_T45 l0 x5_1).f3) (wrap64 ((wrap64 ((wrap64 (x1_1 + 1)) + 1)) + 1))).bind fun t138 => (if t138 < 0 then (some (-1)) else ((laws_markText.f k1 t138).bind fun t140 => (if ((rd_T45 l0 x5_1).f4).toList = t140.toList then (if ((rd_T45 l0 x5_1).f5) = (wrap64 (t138 + 1)) then ((laws_heldIntS.f k1 ((rd_T45 l0 x5_1).f6) (wrap64 ((wrap64 (t138 + 1)) + 1))).bind fun t143 => (if t143 < 0 then (some (-1)) else (laws_heldItemS.l0 k1 l0 t143 (wrap64 (x5_1 + 1))))) else (some (-1))) else (some (-1)))))) else (some (-1))) = some r := H
       have A7 := Aside0.mk A70
       clear A70
       by_cases c8 : ((rd_T45 l0 x5_1).f2).toList = t136.toList
       ·rw [if_pos c8] at H
        have c8b0 : (((rd_T45 l0 x5_1).f2).toList == t136.toList) = true := beq_iff_eq.mpr c8
        have c8b1 : (((rd_T45 l0 x5_1).f2).toList != t136.toList) = false := bne_eq_false_iff_eq.mpr c8
        clear c8
        replace H := Option.bind_eq_some_iff.mp H
        obtain ⟨t138, A90, H⟩ := H
        replace H : (if t138 < 0 then (some (-1)) else ((laws_markText.f k1 t138).bind fun t140 => (if ((rd_T45 l0 x5_1).f4).toList = t140.toList then (if ((rd_T45 l0 x5_1).f5) = (wrap64 (t138 + 1)) then ((laws_heldIntS.f k1 ((rd_T45 l0 x5_1).f6) (wrap64 ((wrap64 (t138 + 1)) + 1))).bind fun t143 => (if t143 < 0 then (some (-1)) else (laws_heldItemS.l0 k1 l0 t143 (wrap64 (x5_1 + 1))))) else (some (-1))) else (some (-1))))) = some r := H
        have A9 := Aside0.mk A90
        clear A90
        by_cases c10 : t138 < 0
        ·rw [if_pos c10] at H
         have c10b0 : decide (t138 < 0) = true := decide_eq_true c10
         clear c10
         obtain rfl := Option.some.inj H
         have p133 : 0 ≤ (x5_1 : Int) := of_decide_eq_true (by first | (with_reducible assumption) | assumption)
         have q133 : x5_1 < (l0.length : Int) := of_decide_eq_true (by first | (with_reducible assumption) | assumption)
         obtain ⟨ad133, A133_3, c133_3, A133_6, c133_6, e133, hx133_0, hx133_1, hx133_2, hx133_3, hx133_4, hx133_5, hx133_6, hl133_3, hi133_3, hl133_6, hi133_6⟩ := at_T45 HR0.out x5_1 p133 q133
         cases e133
         replace hx133_0 := pw_cell_below HB.out hx133_0
         replace hx133_1 := pw_cell_below HB.out hx133_1
         replace hx133_2 := pw_cell_below HB.out hx133_2
         replace hx133_3 := pw_cell_below HB.out hx133_3
         replace hx133_4 := pw_cell_below HB.out hx133_4
         replace hx133_5 := pw_cell_below HB.out hx133_5
         replace hx133_6 := pw_cell_below HB.out hx133_6
         have HR133_3 := Aside0.mk hi133_3
         have HC133_3 := Aside0.mk hl133_3
         clear hi133_3 hl133_3
         have HR133_6 := Aside0.mk hi133_6
         have HC133_6 := Aside0.mk hl133_6
         clear hi133_6 hl133_6
         replace p133 := eq_true p133
         replace q133 := eq_true q133
         have p134 : 0 ≤ (x5_1 : Int) := of_decide_eq_true (by first | (with_reducible assumption) | assumption)
         have q134 : x5_1 < (l0.length : Int) := of_decide_eq_true (by first | (with_reducible assumption) | assumption)
         obtain ⟨ad134, A134_3, c134_3, A134_6, c134_6, e134, hx134_0, hx134_1, hx134_2, hx134_3, hx134_4, hx134_5, hx134_6, hl134_3, hi134_3, hl134_6, hi134_6⟩ := at_T45 HR0.out x5_1 p134 q134
         obtain rfl : ad133 = ad134 := (by injection e134)
         replace hx134_0 := pw_cell_below HB.out hx134_0
         replace hx134_1 := pw_cell_below HB.out hx134_1
         replace hx134_2 := pw_cell_below HB.out hx134_2
         replace hx134_3 := pw_cell_below HB.out hx134_3
         replace hx134_4 := pw_cell_below HB.out hx134_4
         replace hx134_5 := pw_cell_below HB.out hx134_5
         replace hx134_6 := pw_cell_below HB.out hx134_6
         have HR134_3 := Aside0.mk hi134_3
         have HC134_3 := Aside0.mk hl134_3
         clear hi134_3 hl134_3
         have HR134_6 := Aside0.mk hi134_6
         have HC134_6 := Aside0.mk hl134_6
         clear hi134_6 hl134_6
         replace p134 := eq_true p134
         replace q134 := eq_true q134
         have ea_ := Option.some.inj (hx133_3.symm.trans hx134_3)
         injection ea_ with ea_ en_ ec_
         subst ea_
         subst ec_
         clear en_
         have ea_ := Option.some.inj (hx133_6.symm.trans hx134_6)
         injection ea_ with ea_ en_ ec_
         subst ea_
         subst ec_
         clear en_
         try go_wp2
         have n0_ := Aside0.mk (b1_ HB.out)
         clear HB
         have HB := n0_
         clear n0_
         have p135 : 0 ≤ (x5_1 : Int) := of_decide_eq_true (by first | (with_reducible assumption) | assumption)
         have q135 : x5_1 < (l0.length : Int) := of_decide_eq_true (by first | (with_reducible assumption) | assumption)
         ((try clear hHeld); (try clear hx133_0); (try clear hx133_1); (try clear hx133_2); (try clear hx133_3); (try clear hx133_4); (try clear hx133_5); (try clear hx133_6); (try clear hx134_0); (try clear hx134_1); (try clear hx134_2); (try clear hx134_3); (try clear hx134_4); (try clear hx134_5); (try clear hx134_6)) -- MENDOPEN
         obtain ⟨ad135, A135_3, c135_3, A135_6, c135_6, e135, hx135_0, hx135_1, hx135_2, hx135_3, hx135_4, hx135_5, hx135_6, hl135_3, hi135_3, hl135_6, hi135_6⟩ := at_T45 HR0.out x5_1 p135 q135
         have hw135_6 := hx135_6
         have hw135_5 := hx135_5
         have hw135_4 := hx135_4
         have hw135_3 := hx135_3
         have hw135_2 := hx135_2
         have hw135_1 := hx135_1
         have hw135_0 := hx135_0
         obtain rfl : ad133 = ad135 := (by injection e135)
         replace hx135_0 := pw_cell_below HB.out hx135_0
         replace hx135_1 := pw_cell_below HB.out hx135_1
         replace hx135_2 := pw_cell_below HB.out hx135_2
         replace hx135_3 := pw_cell_below HB.out hx135_3
         replace hx135_4 := pw_cell_below HB.out hx135_4
         replace hx135_5 := pw_cell_below HB.out hx135_5
         replace hx135_6 := pw_cell_below HB.out hx135_6
         have HR135_3 := Aside0.mk hi135_3
         have HC135_3 := Aside0.mk hl135_3
         clear hi135_3 hl135_3
         have HR135_6 := Aside0.mk hi135_6
         have HC135_6 := Aside0.mk hl135_6
         clear hi135_6 hl135_6
         replace p135 := eq_true p135
         replace q135 := eq_true q135
         refine start_ (n := 8) (S := fun w' => w'.cell? (ad133.add ((x5_1).toNat * 7)) = some (.int .i64 ((rd_T45 l0 x5_1).f0)) ∧ w'.cell? ⟨(ad133.add ((x5_1).toNat * 7)).block, (ad133.add ((x5_1).toNat * 7)).off + 1, none⟩ = some (.int .i64 ((rd_T45 l0 x5_1).f1)) ∧ w'.cell? ⟨(ad133.add ((x5_1).toNat * 7)).block, (ad133.add ((x5_1).toNat * 7)).off + 2, none⟩ = some (.string ((rd_T45 l0 x5_1).f2)) ∧ w'.cell? ⟨(ad133.add ((x5_1).toNat * 7)).block, (ad133.add ((x5_1).toNat * 7)).off + 3, none⟩ = some (.slice A135_3 ((rd_T45 l0 x5_1).f3).length c135_3) ∧ w'.cell? ⟨(ad133.add ((x5_1).toNat * 7)).block, (ad133.add ((x5_1).toNat * 7)).off + 4, none⟩ = some (.string ((rd_T45 l0 x5_1).f4)) ∧ w'.cell? ⟨(ad133.add ((x5_1).toNat * 7)).block, (ad133.add ((x5_1).toNat * 7)).off + 5, none⟩ = some (.int .i64 ((rd_T45 l0 x5_1).f5)) ∧ w'.cell? ⟨(ad133.add ((x5_1).toNat * 7)).block, (ad133.add ((x5_1).toNat * 7)).off + 6, none⟩ = some (.slice A135_6 ((rd_T45 l0 x5_1).f6).length c135_6)) (ds := []) #[false, false, false, false, false, false, false, false] (by kernel_rfl) rfl rfl ⟨(pw_cell_below HB.out hw135_0), (pw_cell_below HB.out hw135_1), (pw_cell_below HB.out hw135_2), (pw_cell_below HB.out hw135_3), (pw_cell_below HB.out hw135_4), (pw_cell_below HB.out hw135_5), (pw_cell_below HB.out hw135_6)⟩ (fun hHeld => ?_); refine with_tabW laws_heldItemS.tab10 laws_heldItemS.bits10 (fun HT_ HW_ => ?_)
         generalize wr.drew = w11 at HB HR135_3 HR135_6 hx135_0 hx135_1 hx135_2 hx135_3 hx135_4 hx135_5 hx135_6 hHeld ⊢
         refine pure_ (i := 0) (N := some 30) (v := ?_) (a' := ?_) #[true, false, false, false, false, false, false, false] rfl rfl (any_of HT_.out (by kernel_rfl)) (fun _ _ _ h => h) (Or.inl ⟨by rfl, ?_⟩) ?_ ?_
         rotate_left
         ·intro w'
          go_simp
          with_reducible rfl
         rotate_left
         ·simp only [Act.put, sa_, sz_, ss_, i64_w, i32_w]
          rfl
         refine pure_ (i := 1) (N := some 31) (v := ?_) (a' := ?_) #[true, true, false, false, false, false, false, false] rfl rfl (any_of HT_.out (by kernel_rfl)) (fun _ _ _ h => h) (Or.inl ⟨by rfl, ?_⟩) ?_ ?_
         rotate_left
         ·intro w'
          go_simp
          with_reducible rfl
         rotate_left
         ·simp only [Act.put, sa_, sz_, ss_, i64_w, i32_w]
          rfl
         refine pure_ (i := 2) (N := some 32) (v := ?_) (a' := ?_) #[true, true, true, false, false, false, false, false] rfl rfl (any_of HT_.out (by kernel_rfl)) (fun _ _ _ h => h) (Or.inl ⟨by rfl, ?_⟩) ?_ ?_
         rotate_left
         ·intro w'
          go_simp
          with_reducible rfl
         rotate_left
         ·simp only [Act.put, sa_, sz_, ss_, i64_w, i32_w]
          rfl
         refine pure_ (i := 3) (N := some 33) (v := ?_) (a' := ?_) #[true, true, true, true, false, false, false, false] rfl rfl (any_of HT_.out (by kernel_rfl)) (fun _ _ _ h => h) (Or.inl ⟨by rfl, ?_⟩) ?_ ?_
         rotate_left
         ·intro w'
          go_simp
          with_reducible rfl
         rotate_left
         ·simp only [Act.put, sa_, sz_, ss_, i64_w, i32_w]
          rfl
         refine pure_ (i := 5) (N := some 35) (v := ?_) (a' := ?_) #[true, true, true, true, false, true, false, false] rfl rfl (any_of HT_.out (by kernel_rfl)) (fun _ _ _ h => h) (Or.inl ⟨by rfl, ?_⟩) ?_ ?_
         rotate_left
         ·intro w'
          go_simp
          with_reducible rfl
         rotate_left
         ·simp only [Act.put, sa_, sz_, ss_, i64_w, i32_w]
          rfl
         refine take_ (i := 4) (N := some 34) (v := ?_) (a' := ?_) #[true, true, true, true, true, true, false, false] rfl rfl (take_ofW HT_.out HW_.out (by kernel_rfl)) (fun _ _ _ h => h) (Or.inl ⟨by rfl, ?_⟩) hHeld ?_ ?_
         rotate_left
         ·rintro w' ⟨s0, s1, s2, s3, s4, s5, s6⟩
          go_simp
          with_reducible rfl
         rotate_left
         ·simp only [Act.put, sa_, sz_, ss_, i64_w, i32_w]
          rfl
         refine one_ (i := 6) (N := some 36) #[true, true, true, true, true, true, true, false] rfl rfl (one_of HT_.out (by kernel_rfl)) (by decide) (fun K hK => ?_)
         refine goes_ Try.func47 (by kernel_rfl) rfl #[.int .i64 (wrap64 ((wrap64 (x1_1 + 1)) + 1))] (by rfl) rfl rfl (by (try simp only [List.map_toArray, List.map_cons, List.map_nil]); first | done | rfl | (simp only [List.length_drop, List.length_take]; rfl)) ?_
         with_reducible refine (laws_markText.calls k1 (wrap64 ((wrap64 (x1_1 + 1)) + 1)) t136 _ A7.out).mono ?_
         rintro e w12 ⟨rfl, hb⟩
         refine ⟨_, rfl, ?_⟩
         have n0_ := Aside0.mk (below_step (by repeat (first | (with_reducible first | exact HB.out | apply ba_ | apply bn_ | apply b1_) | exact HB.out)) hb)
         clear HB
         have HB := n0_
         clear n0_
         (try clear hb)
         (try clear hb2)
         (try clear hk)
         (try clear hi)
         refine hK.out _ _ ⟨(pw_cell_below HB.out hw135_0), (pw_cell_below HB.out hw135_1), (pw_cell_below HB.out hw135_2), (pw_cell_below HB.out hw135_3), (pw_cell_below HB.out hw135_4), (pw_cell_below HB.out hw135_5), (pw_cell_below HB.out hw135_6)⟩ (fun hHeld => ?_)
         clear hK K
         refine norm_ (a' := ?_) ?_ ?_
         rotate_left
         ·show Act.put _ (some 36) _ = _
          simp only [Act.put, sa_, sz_, ss_, i64_w, i32_w]
          rfl
         refine pure_ (i := 7) (N := some 37) (v := ?_) (a' := ?_) #[true, true, true, true, true, true, true, true] rfl rfl (any_of HT_.out (by kernel_rfl)) (fun _ _ _ h => h) (Or.inl ⟨by rfl, ?_⟩) ?_ ?_
         rotate_left
         ·intro w'
          go_simp
          with_reducible rfl
         rotate_left
         ·simp only [Act.put, sa_, sz_, ss_, i64_w, i32_w]
          rfl
         refine done_ (done_of HT_.out (by kernel_rfl)) ?_
         have p137 : 0 ≤ (x5_1 : Int) := of_decide_eq_true (by first | (with_reducible assumption) | assumption)
         have q137 : x5_1 < (l0.length : Int) := of_decide_eq_true (by first | (with_reducible assumption) | assumption)
         ((try clear hHeld); (try clear hx133_0); (try clear hx133_1); (try clear hx133_2); (try clear hx133_3); (try clear hx133_4); (try clear hx133_5); (try clear hx133_6); (try clear hx134_0); (try clear hx134_1); (try clear hx134_2); (try clear hx134_3); (try clear hx134_4); (try clear hx134_5); (try clear hx134_6); (try clear hx135_0); (try clear hx135_1); (try clear hx135_2); (try clear hx135_3); (try clear hx135_4); (try clear hx135_5); (try clear hx135_6)) -- MENDOPEN
         obtain ⟨ad137, A137_3, c137_3, A137_6, c137_6, e137, hx137_0, hx137_1, hx137_2, hx137_3, hx137_4, hx137_5, hx137_6, hl137_3, hi137_3, hl137_6, hi137_6⟩ := at_T45 HR0.out x5_1 p137 q137
         obtain rfl : ad133 = ad137 := (by injection e137)
         replace hx137_0 := pw_cell_below HB.out hx137_0
         replace hx137_1 := pw_cell_below HB.out hx137_1
         replace hx137_2 := pw_cell_below HB.out hx137_2
         replace hx137_3 := pw_cell_below HB.out hx137_3
         replace hx137_4 := pw_cell_below HB.out hx137_4
         replace hx137_5 := pw_cell_below HB.out hx137_5
         replace hx137_6 := pw_cell_below HB.out hx137_6
         have HR137_3 := Aside0.mk hi137_3
         have HC137_3 := Aside0.mk hl137_3
         clear hi137_3 hl137_3
         have HR137_6 := Aside0.mk hi137_6
         have HC137_6 := Aside0.mk hl137_6
         clear hi137_6 hl137_6
         replace p137 := eq_true p137
         replace q137 := eq_true q137
         try go_wp2_with (first | ((with_reducible refine gate_callee (f := 49) rfl ?_); refine goesL_ (some 46) rfl rfl Try.func49 (by kernel_rfl) rfl #[.slice A137_3 ((rd_T45 l0 x5_1).f3).length c137_3, .int .i64 (wrap64 ((wrap64 ((wrap64 (x1_1 + 1)) + 1)) + 1))] rfl (by (try simp only [List.map_toArray, List.map_cons, List.map_nil]); first | done | rfl | (simp only [List.length_drop, List.length_take]; rfl)) ?_; (with_reducible refine (laws_heldAttrS.calls k1 _ _ ((rd_T45 l0 x5_1).f3) (wrap64 ((wrap64 ((wrap64 (x1_1 + 1)) + 1)) + 1)) t138 _ ?side1 ?side2 A9.out).mono ?_); (case side1 => repeat (first | exact (Kd.C_below HR137_3.out HB.out) | (with_reducible refine ca_ ?_ _) | (with_reducible refine cn_ ?_ _) | (with_reducible refine cd_ ?_))); (case side2 => exact HC137_3.out); rintro e w13 ⟨rfl, hb⟩; refine ⟨_, rfl, ?_⟩; have n0_ := Aside0.mk (below_step (by repeat (first | (with_reducible first | exact HB.out | apply ba_ | apply bn_ | apply b1_) | exact HB.out)) hb); clear HB; have HB := n0_; clear n0_; (try clear hb); (try clear hb2); (try clear hk); (try clear hi)))
         go_ret
         exact ⟨by first | rfl | (simp [errW_none, errW_some] <;> rfl) | (simp [*, errW_none, errW_some] <;> rfl), by repeat (first | (with_reducible first | exact HB.out | apply ba_ | apply bn_ | apply b1_) | exact HB.out)⟩
        ·rw [if_neg c10] at H
         have c10b0 : decide (t138 < 0) = false := decide_eq_false c10
         clear c10
         replace H := Option.bind_eq_some_iff.mp H
         obtain ⟨t140, A140, H⟩ := H
         replace H : (if ((rd_T45 l0 x5_1).f4).toList = t140.toList then (if ((rd_T45 l0 x5_1).f5) = (wrap64 (t138 + 1)) then ((laws_heldIntS.f k1 ((rd_T45 l0 x5_1).f6) (wrap64 ((wrap64 (t138 + 1)) + 1))).bind fun t143 => (if t143 < 0 then (some (-1)) else (laws_heldItemS.l0 k1 l0 t143 (wrap64 (x5_1 + 1))))) else (some (-1))) else (some (-1))) = some r := H
         have A14 := Aside0.mk A140
         clear A140
         by_cases c15 : ((rd_T45 l0 x5_1).f4).toList = t140.toList
         ·rw [if_pos c15] at H
          have c15b0 : (((rd_T45 l0 x5_1).f4).toList == t140.toList) = true := beq_iff_eq.mpr c15
          have c15b1 : (((rd_T45 l0 x5_1).f4).toList != t140.toList) = false := bne_eq_false_iff_eq.mpr c15
          clear c15
          by_cases c16 : ((rd_T45 l0 x5_1).f5) = (wrap64 (t138 + 1))
          ·rw [if_pos c16] at H
           have c16b0 : (((rd_T45 l0 x5_1).f5) == (wrap64 (t138 + 1))) = true := beq_iff_eq.mpr c16
           have c16b1 : (((rd_T45 l0 x5_1).f5) != (wrap64 (t138 + 1))) = false := bne_eq_false_iff_eq.mpr c16
           clear c16
           replace H := Option.bind_eq_some_iff.mp H
           obtain ⟨t143, A170, H⟩ := H
           replace H : (if t143 < 0 then (some (-1)) else (laws_heldItemS.l0 k1 l0 t143 (wrap64 (x5_1 + 1)))) = some r := H
           have A17 := Aside0.mk A170
           clear A170
           by_cases c18 : t143 < 0
           ·rw [if_pos c18] at H
            have c18b0 : decide (t143 < 0) = true := decide_eq_true c18
            clear c18
            obtain rfl := Option.some.inj H
            have p133 : 0 ≤ (x5_1 : Int) := of_decide_eq_true (by first | (with_reducible assumption) | assumption)
            have q133 : x5_1 < (l0.length : Int) := of_decide_eq_true (by first | (with_reducible assumption) | assumption)
            ((try clear hHeld); (try clear hx133_0); (try clear hx133_1); (try clear hx133_2); (try clear hx133_3); (try clear hx133_4); (try clear hx133_5); (try clear hx133_6); (try clear hx134_0); (try clear hx134_1); (try clear hx134_2); (try clear hx134_3); (try clear hx134_4); (try clear hx134_5); (try clear hx134_6); (try clear hx135_0); (try clear hx135_1); (try clear hx135_2); (try clear hx135_3); (try clear hx135_4); (try clear hx135_5); (try clear hx135_6); (try clear hx137_0); (try clear hx137_1); (try clear hx137_2); (try clear hx137_3); (try clear hx137_4); (try clear hx137_5); (try clear hx137_6)) -- MENDOPEN
            obtain ⟨ad133, A133_3, c133_3, A133_6, c133_6, e133, hx133_0, hx133_1, hx133_2, hx133_3, hx133_4, hx133_5, hx133_6, hl133_3, hi133_3, hl133_6, hi133_6⟩ := at_T45 HR0.out x5_1 p133 q133
            cases e133
            replace hx133_0 := pw_cell_below HB.out hx133_0
            replace hx133_1 := pw_cell_below HB.out hx133_1
            replace hx133_2 := pw_cell_below HB.out hx133_2
            replace hx133_3 := pw_cell_below HB.out hx133_3
            replace hx133_4 := pw_cell_below HB.out hx133_4
            replace hx133_5 := pw_cell_below HB.out hx133_5
            replace hx133_6 := pw_cell_below HB.out hx133_6
            have HR133_3 := Aside0.mk hi133_3
            have HC133_3 := Aside0.mk hl133_3
            clear hi133_3 hl133_3
            have HR133_6 := Aside0.mk hi133_6
            have HC133_6 := Aside0.mk hl133_6
            clear hi133_6 hl133_6
            replace p133 := eq_true p133
            replace q133 := eq_true q133
            have p134 : 0 ≤ (x5_1 : Int) := of_decide_eq_true (by first | (with_reducible assumption) | assumption)
            have q134 : x5_1 < (l0.length : Int) := of_decide_eq_true (by first | (with_reducible assumption) | assumption)
            obtain ⟨ad134, A134_3, c134_3, A134_6, c134_6, e134, hx134_0, hx134_1, hx134_2, hx134_3, hx134_4, hx134_5, hx134_6, hl134_3, hi134_3, hl134_6, hi134_6⟩ := at_T45 HR0.out x5_1 p134 q134
            obtain rfl : ad133 = ad134 := (by injection e134)
            replace hx134_0 := pw_cell_below HB.out hx134_0
            replace hx134_1 := pw_cell_below HB.out hx134_1
            replace hx134_2 := pw_cell_below HB.out hx134_2
            replace hx134_3 := pw_cell_below HB.out hx134_3
            replace hx134_4 := pw_cell_below HB.out hx134_4
            replace hx134_5 := pw_cell_below HB.out hx134_5
            replace hx134_6 := pw_cell_below HB.out hx134_6
            have HR134_3 := Aside0.mk hi134_3
            have HC134_3 := Aside0.mk hl134_3
            clear hi134_3 hl134_3
            have HR134_6 := Aside0.mk hi134_6
            have HC134_6 := Aside0.mk hl134_6
            clear hi134_6 hl134_6
            replace p134 := eq_true p134
            replace q134 := eq_true q134
            have ea_ := Option.some.inj (hx133_3.symm.trans hx134_3)
            injection ea_ with ea_ en_ ec_
            subst ea_
            subst ec_
            clear en_
            have ea_ := Option.some.inj (hx133_6.symm.trans hx134_6)
            injection ea_ with ea_ en_ ec_
            subst ea_
            subst ec_
            clear en_
            try go_wp2
            have n0_ := Aside0.mk (b1_ HB.out)
            clear HB
            have HB := n0_
            clear n0_
            have p135 : 0 ≤ (x5_1 : Int) := of_decide_eq_true (by first | (with_reducible assumption) | assumption)
            have q135 : x5_1 < (l0.length : Int) := of_decide_eq_true (by first | (with_reducible assumption) | assumption)
            ((try clear hHeld); (try clear hx133_0); (try clear hx133_1); (try clear hx133_2); (try clear hx133_3); (try clear hx133_4); (try clear hx133_5); (try clear hx133_6); (try clear hx134_0); (try clear hx134_1); (try clear hx134_2); (try clear hx134_3); (try clear hx134_4); (try clear hx134_5); (try clear hx134_6); (try clear hx135_0); (try clear hx135_1); (try clear hx135_2); (try clear hx135_3); (try clear hx135_4); (try clear hx135_5); (try clear hx135_6); (try clear hx137_0); (try clear hx137_1); (try clear hx137_2); (try clear hx137_3); (try clear hx137_4); (try clear hx137_5); (try clear hx137_6)) -- MENDOPEN
            obtain ⟨ad135, A135_3, c135_3, A135_6, c135_6, e135, hx135_0, hx135_1, hx135_2, hx135_3, hx135_4, hx135_5, hx135_6, hl135_3, hi135_3, hl135_6, hi135_6⟩ := at_T45 HR0.out x5_1 p135 q135
            have hw135_6 := hx135_6
            have hw135_5 := hx135_5
            have hw135_4 := hx135_4
            have hw135_3 := hx135_3
            have hw135_2 := hx135_2
            have hw135_1 := hx135_1
            have hw135_0 := hx135_0
            obtain rfl : ad133 = ad135 := (by injection e135)
            replace hx135_0 := pw_cell_below HB.out hx135_0
            replace hx135_1 := pw_cell_below HB.out hx135_1
            replace hx135_2 := pw_cell_below HB.out hx135_2
            replace hx135_3 := pw_cell_below HB.out hx135_3
            replace hx135_4 := pw_cell_below HB.out hx135_4
            replace hx135_5 := pw_cell_below HB.out hx135_5
            replace hx135_6 := pw_cell_below HB.out hx135_6
            have HR135_3 := Aside0.mk hi135_3
            have HC135_3 := Aside0.mk hl135_3
            clear hi135_3 hl135_3
            have HR135_6 := Aside0.mk hi135_6
            have HC135_6 := Aside0.mk hl135_6
            clear hi135_6 hl135_6
            replace p135 := eq_true p135
            replace q135 := eq_true q135
            refine start_ (n := 8) (S := fun w' => w'.cell? (ad133.add ((x5_1).toNat * 7)) = some (.int .i64 ((rd_T45 l0 x5_1).f0)) ∧ w'.cell? ⟨(ad133.add ((x5_1).toNat * 7)).block, (ad133.add ((x5_1).toNat * 7)).off + 1, none⟩ = some (.int .i64 ((rd_T45 l0 x5_1).f1)) ∧ w'.cell? ⟨(ad133.add ((x5_1).toNat * 7)).block, (ad133.add ((x5_1).toNat * 7)).off + 2, none⟩ = some (.string ((rd_T45 l0 x5_1).f2)) ∧ w'.cell? ⟨(ad133.add ((x5_1).toNat * 7)).block, (ad133.add ((x5_1).toNat * 7)).off + 3, none⟩ = some (.slice A135_3 ((rd_T45 l0 x5_1).f3).length c135_3) ∧ w'.cell? ⟨(ad133.add ((x5_1).toNat * 7)).block, (ad133.add ((x5_1).toNat * 7)).off + 4, none⟩ = some (.string ((rd_T45 l0 x5_1).f4)) ∧ w'.cell? ⟨(ad133.add ((x5_1).toNat * 7)).block, (ad133.add ((x5_1).toNat * 7)).off + 5, none⟩ = some (.int .i64 ((rd_T45 l0 x5_1).f5)) ∧ w'.cell? ⟨(ad133.add ((x5_1).toNat * 7)).block, (ad133.add ((x5_1).toNat * 7)).off + 6, none⟩ = some (.slice A135_6 ((rd_T45 l0 x5_1).f6).length c135_6)) (ds := []) #[false, false, false, false, false, false, false, false] (by kernel_rfl) rfl rfl ⟨(pw_cell_below HB.out hw135_0), (pw_cell_below HB.out hw135_1), (pw_cell_below HB.out hw135_2), (pw_cell_below HB.out hw135_3), (pw_cell_below HB.out hw135_4), (pw_cell_below HB.out hw135_5), (pw_cell_below HB.out hw135_6)⟩ (fun hHeld => ?_); refine with_tabW laws_heldItemS.tab10 laws_heldItemS.bits10 (fun HT_ HW_ => ?_)
            generalize wr.drew = w19 at HB HR135_3 HR135_6 hx135_0 hx135_1 hx135_2 hx135_3 hx135_4 hx135_5 hx135_6 hHeld ⊢
            refine pure_ (i := 0) (N := some 30) (v := ?_) (a' := ?_) #[true, false, false, false, false, false, false, false] rfl rfl (any_of HT_.out (by kernel_rfl)) (fun _ _ _ h => h) (Or.inl ⟨by rfl, ?_⟩) ?_ ?_
            rotate_left
            ·intro w'
             go_simp
             with_reducible rfl
            rotate_left
            ·simp only [Act.put, sa_, sz_, ss_, i64_w, i32_w]
             rfl
            refine pure_ (i := 1) (N := some 31) (v := ?_) (a' := ?_) #[true, true, false, false, false, false, false, false] rfl rfl (any_of HT_.out (by kernel_rfl)) (fun _ _ _ h => h) (Or.inl ⟨by rfl, ?_⟩) ?_ ?_
            rotate_left
            ·intro w'
             go_simp
             with_reducible rfl
            rotate_left
            ·simp only [Act.put, sa_, sz_, ss_, i64_w, i32_w]
             rfl
            refine pure_ (i := 2) (N := some 32) (v := ?_) (a' := ?_) #[true, true, true, false, false, false, false, false] rfl rfl (any_of HT_.out (by kernel_rfl)) (fun _ _ _ h => h) (Or.inl ⟨by rfl, ?_⟩) ?_ ?_
            rotate_left
            ·intro w'
             go_simp
             with_reducible rfl
            rotate_left
            ·simp only [Act.put, sa_, sz_, ss_, i64_w, i32_w]
             rfl
            refine pure_ (i := 3) (N := some 33) (v := ?_) (a' := ?_) #[true, true, true, true, false, false, false, false] rfl rfl (any_of HT_.out (by kernel_rfl)) (fun _ _ _ h => h) (Or.inl ⟨by rfl, ?_⟩) ?_ ?_
            rotate_left
            ·intro w'
             go_simp
             with_reducible rfl
            rotate_left
            ·simp only [Act.put, sa_, sz_, ss_, i64_w, i32_w]
             rfl
            refine pure_ (i := 5) (N := some 35) (v := ?_) (a' := ?_) #[true, true, true, true, false, true, false, false] rfl rfl (any_of HT_.out (by kernel_rfl)) (fun _ _ _ h => h) (Or.inl ⟨by rfl, ?_⟩) ?_ ?_
            rotate_left
            ·intro w'
             go_simp
             with_reducible rfl
            rotate_left
            ·simp only [Act.put, sa_, sz_, ss_, i64_w, i32_w]
             rfl
            refine take_ (i := 4) (N := some 34) (v := ?_) (a' := ?_) #[true, true, true, true, true, true, false, false] rfl rfl (take_ofW HT_.out HW_.out (by kernel_rfl)) (fun _ _ _ h => h) (Or.inl ⟨by rfl, ?_⟩) hHeld ?_ ?_
            rotate_left
            ·rintro w' ⟨s0, s1, s2, s3, s4, s5, s6⟩
             go_simp
             with_reducible rfl
            rotate_left
            ·simp only [Act.put, sa_, sz_, ss_, i64_w, i32_w]
             rfl
            refine one_ (i := 6) (N := some 36) #[true, true, true, true, true, true, true, false] rfl rfl (one_of HT_.out (by kernel_rfl)) (by decide) (fun K hK => ?_)
            refine goes_ Try.func47 (by kernel_rfl) rfl #[.int .i64 (wrap64 ((wrap64 (x1_1 + 1)) + 1))] (by rfl) rfl rfl (by (try simp only [List.map_toArray, List.map_cons, List.map_nil]); first | done | rfl | (simp only [List.length_drop, List.length_take]; rfl)) ?_
            with_reducible refine (laws_markText.calls k1 (wrap64 ((wrap64 (x1_1 + 1)) + 1)) t136 _ A7.out).mono ?_
            rintro e w20 ⟨rfl, hb⟩
            refine ⟨_, rfl, ?_⟩
            have n0_ := Aside0.mk (below_step (by repeat (first | (with_reducible first | exact HB.out | apply ba_ | apply bn_ | apply b1_) | exact HB.out)) hb)
            clear HB
            have HB := n0_
            clear n0_
            (try clear hb)
            (try clear hb2)
            (try clear hk)
            (try clear hi)
            refine hK.out _ _ ⟨(pw_cell_below HB.out hw135_0), (pw_cell_below HB.out hw135_1), (pw_cell_below HB.out hw135_2), (pw_cell_below HB.out hw135_3), (pw_cell_below HB.out hw135_4), (pw_cell_below HB.out hw135_5), (pw_cell_below HB.out hw135_6)⟩ (fun hHeld => ?_)
            clear hK K
            refine norm_ (a' := ?_) ?_ ?_
            rotate_left
            ·show Act.put _ (some 36) _ = _
             simp only [Act.put, sa_, sz_, ss_, i64_w, i32_w]
             rfl
            refine pure_ (i := 7) (N := some 37) (v := ?_) (a' := ?_) #[true, true, true, true, true, true, true, true] rfl rfl (any_of HT_.out (by kernel_rfl)) (fun _ _ _ h => h) (Or.inl ⟨by rfl, ?_⟩) ?_ ?_
            rotate_left
            ·intro w'
             go_simp
             with_reducible rfl
            rotate_left
            ·simp only [Act.put, sa_, sz_, ss_, i64_w, i32_w]
             rfl
            refine done_ (done_of HT_.out (by kernel_rfl)) ?_
            have p137 : 0 ≤ (x5_1 : Int) := of_decide_eq_true (by first | (with_reducible assumption) | assumption)
            have q137 : x5_1 < (l0.length : Int) := of_decide_eq_true (by first | (with_reducible assumption) | assumption)
            ((try clear hHeld); (try clear hx133_0); (try clear hx133_1); (try clear hx133_2); (try clear hx133_3); (try clear hx133_4); (try clear hx133_5); (try clear hx133_6); (try clear hx134_0); (try clear hx134_1); (try clear hx134_2); (try clear hx134_3); (try clear hx134_4); (try clear hx134_5); (try clear hx134_6); (try clear hx135_0); (try clear hx135_1); (try clear hx135_2); (try clear hx135_3); (try clear hx135_4); (try clear hx135_5); (try clear hx135_6); (try clear hx137_0); (try clear hx137_1); (try clear hx137_2); (try clear hx137_3); (try clear hx137_4); (try clear hx137_5); (try clear hx137_6)) -- MENDOPEN
            obtain ⟨ad137, A137_3, c137_3, A137_6, c137_6, e137, hx137_0, hx137_1, hx137_2, hx137_3, hx137_4, hx137_5, hx137_6, hl137_3, hi137_3, hl137_6, hi137_6⟩ := at_T45 HR0.out x5_1 p137 q137
            obtain rfl : ad133 = ad137 := (by injection e137)
            replace hx137_0 := pw_cell_below HB.out hx137_0
            replace hx137_1 := pw_cell_below HB.out hx137_1
            replace hx137_2 := pw_cell_below HB.out hx137_2
            replace hx137_3 := pw_cell_below HB.out hx137_3
            replace hx137_4 := pw_cell_below HB.out hx137_4
            replace hx137_5 := pw_cell_below HB.out hx137_5
            replace hx137_6 := pw_cell_below HB.out hx137_6
            have HR137_3 := Aside0.mk hi137_3
            have HC137_3 := Aside0.mk hl137_3
            clear hi137_3 hl137_3
            have HR137_6 := Aside0.mk hi137_6
            have HC137_6 := Aside0.mk hl137_6
            clear hi137_6 hl137_6
            replace p137 := eq_true p137
            replace q137 := eq_true q137
            try go_wp2_with (first | ((with_reducible refine gate_callee (f := 49) rfl ?_); refine goesL_ (some 46) rfl rfl Try.func49 (by kernel_rfl) rfl #[.slice A137_3 ((rd_T45 l0 x5_1).f3).length c137_3, .int .i64 (wrap64 ((wrap64 ((wrap64 (x1_1 + 1)) + 1)) + 1))] rfl (by (try simp only [List.map_toArray, List.map_cons, List.map_nil]); first | done | rfl | (simp only [List.length_drop, List.length_take]; rfl)) ?_; (with_reducible refine (laws_heldAttrS.calls k1 _ _ ((rd_T45 l0 x5_1).f3) (wrap64 ((wrap64 ((wrap64 (x1_1 + 1)) + 1)) + 1)) t138 _ ?side1 ?side2 A9.out).mono ?_); (case side1 => repeat (first | exact (Kd.C_below HR137_3.out HB.out) | (with_reducible refine ca_ ?_ _) | (with_reducible refine cn_ ?_ _) | (with_reducible refine cd_ ?_))); (case side2 => exact HC137_3.out); rintro e w21 ⟨rfl, hb⟩; refine ⟨_, rfl, ?_⟩; have n0_ := Aside0.mk (below_step (by repeat (first | (with_reducible first | exact HB.out | apply ba_ | apply bn_ | apply b1_) | exact HB.out)) hb); clear HB; have HB := n0_; clear n0_; (try clear hb); (try clear hb2); (try clear hk); (try clear hi)))
            have n0_ := Aside0.mk (b1_ HB.out)
            clear HB
            have HB := n0_
            clear n0_
            have p139 : 0 ≤ (x5_1 : Int) := of_decide_eq_true (by first | (with_reducible assumption) | assumption)
            have q139 : x5_1 < (l0.length : Int) := of_decide_eq_true (by first | (with_reducible assumption) | assumption)
            ((try clear hHeld); (try clear hx133_0); (try clear hx133_1); (try clear hx133_2); (try clear hx133_3); (try clear hx133_4); (try clear hx133_5); (try clear hx133_6); (try clear hx134_0); (try clear hx134_1); (try clear hx134_2); (try clear hx134_3); (try clear hx134_4); (try clear hx134_5); (try clear hx134_6); (try clear hx135_0); (try clear hx135_1); (try clear hx135_2); (try clear hx135_3); (try clear hx135_4); (try clear hx135_5); (try clear hx135_6); (try clear hx137_0); (try clear hx137_1); (try clear hx137_2); (try clear hx137_3); (try clear hx137_4); (try clear hx137_5); (try clear hx137_6)) -- MENDOPEN
            obtain ⟨ad139, A139_3, c139_3, A139_6, c139_6, e139, hx139_0, hx139_1, hx139_2, hx139_3, hx139_4, hx139_5, hx139_6, hl139_3, hi139_3, hl139_6, hi139_6⟩ := at_T45 HR0.out x5_1 p139 q139
            have hw139_6 := hx139_6
            have hw139_5 := hx139_5
            have hw139_4 := hx139_4
            have hw139_3 := hx139_3
            have hw139_2 := hx139_2
            have hw139_1 := hx139_1
            have hw139_0 := hx139_0
            obtain rfl : ad133 = ad139 := (by injection e139)
            replace hx139_0 := pw_cell_below HB.out hx139_0
            replace hx139_1 := pw_cell_below HB.out hx139_1
            replace hx139_2 := pw_cell_below HB.out hx139_2
            replace hx139_3 := pw_cell_below HB.out hx139_3
            replace hx139_4 := pw_cell_below HB.out hx139_4
            replace hx139_5 := pw_cell_below HB.out hx139_5
            replace hx139_6 := pw_cell_below HB.out hx139_6
            have HR139_3 := Aside0.mk hi139_3
            have HC139_3 := Aside0.mk hl139_3
            clear hi139_3 hl139_3
            have HR139_6 := Aside0.mk hi139_6
            have HC139_6 := Aside0.mk hl139_6
            clear hi139_6 hl139_6
            replace p139 := eq_true p139
            replace q139 := eq_true q139
            refine start_ (n := 8) (S := fun w' => w'.cell? (ad133.add ((x5_1).toNat * 7)) = some (.int .i64 ((rd_T45 l0 x5_1).f0)) ∧ w'.cell? ⟨(ad133.add ((x5_1).toNat * 7)).block, (ad133.add ((x5_1).toNat * 7)).off + 1, none⟩ = some (.int .i64 ((rd_T45 l0 x5_1).f1)) ∧ w'.cell? ⟨(ad133.add ((x5_1).toNat * 7)).block, (ad133.add ((x5_1).toNat * 7)).off + 2, none⟩ = some (.string ((rd_T45 l0 x5_1).f2)) ∧ w'.cell? ⟨(ad133.add ((x5_1).toNat * 7)).block, (ad133.add ((x5_1).toNat * 7)).off + 3, none⟩ = some (.slice A139_3 ((rd_T45 l0 x5_1).f3).length c139_3) ∧ w'.cell? ⟨(ad133.add ((x5_1).toNat * 7)).block, (ad133.add ((x5_1).toNat * 7)).off + 4, none⟩ = some (.string ((rd_T45 l0 x5_1).f4)) ∧ w'.cell? ⟨(ad133.add ((x5_1).toNat * 7)).block, (ad133.add ((x5_1).toNat * 7)).off + 5, none⟩ = some (.int .i64 ((rd_T45 l0 x5_1).f5)) ∧ w'.cell? ⟨(ad133.add ((x5_1).toNat * 7)).block, (ad133.add ((x5_1).toNat * 7)).off + 6, none⟩ = some (.slice A139_6 ((rd_T45 l0 x5_1).f6).length c139_6)) (ds := []) #[false, false, false, false, false, false, false, false] (by kernel_rfl) rfl rfl ⟨(pw_cell_below HB.out hw139_0), (pw_cell_below HB.out hw139_1), (pw_cell_below HB.out hw139_2), (pw_cell_below HB.out hw139_3), (pw_cell_below HB.out hw139_4), (pw_cell_below HB.out hw139_5), (pw_cell_below HB.out hw139_6)⟩ (fun hHeld => ?_); refine with_tabW laws_heldItemS.tab16 laws_heldItemS.bits16 (fun HT_ HW_ => ?_)
            generalize w21.drew = w22 at HB HR139_3 HR139_6 hx139_0 hx139_1 hx139_2 hx139_3 hx139_4 hx139_5 hx139_6 hHeld ⊢
            refine pure_ (i := 0) (N := some 49) (v := ?_) (a' := ?_) #[true, false, false, false, false, false, false, false] rfl rfl (any_of HT_.out (by kernel_rfl)) (fun _ _ _ h => h) (Or.inl ⟨by rfl, ?_⟩) ?_ ?_
            rotate_left
            ·intro w'
             go_simp
             with_reducible rfl
            rotate_left
            ·simp only [Act.put, sa_, sz_, ss_, i64_w, i32_w]
             rfl
            refine pure_ (i := 1) (N := some 50) (v := ?_) (a' := ?_) #[true, true, false, false, false, false, false, false] rfl rfl (any_of HT_.out (by kernel_rfl)) (fun _ _ _ h => h) (Or.inl ⟨by rfl, ?_⟩) ?_ ?_
            rotate_left
            ·intro w'
             go_simp
             with_reducible rfl
            rotate_left
            ·simp only [Act.put, sa_, sz_, ss_, i64_w, i32_w]
             rfl
            refine pure_ (i := 2) (N := some 51) (v := ?_) (a' := ?_) #[true, true, true, false, false, false, false, false] rfl rfl (any_of HT_.out (by kernel_rfl)) (fun _ _ _ h => h) (Or.inl ⟨by rfl, ?_⟩) ?_ ?_
            rotate_left
            ·intro w'
             go_simp
             with_reducible rfl
            rotate_left
            ·simp only [Act.put, sa_, sz_, ss_, i64_w, i32_w]
             rfl
            refine pure_ (i := 3) (N := some 52) (v := ?_) (a' := ?_) #[true, true, true, true, false, false, false, false] rfl rfl (any_of HT_.out (by kernel_rfl)) (fun _ _ _ h => h) (Or.inl ⟨by rfl, ?_⟩) ?_ ?_
            rotate_left
            ·intro w'
             go_simp
             with_reducible rfl
            rotate_left
            ·simp only [Act.put, sa_, sz_, ss_, i64_w, i32_w]
             rfl
            refine pure_ (i := 5) (N := some 54) (v := ?_) (a' := ?_) #[true, true, true, true, false, true, false, false] rfl rfl (any_of HT_.out (by kernel_rfl)) (fun _ _ _ h => h) (Or.inl ⟨by rfl, ?_⟩) ?_ ?_
            rotate_left
            ·intro w'
             go_simp
             with_reducible rfl
            rotate_left
            ·simp only [Act.put, sa_, sz_, ss_, i64_w, i32_w]
             rfl
            refine take_ (i := 4) (N := some 53) (v := ?_) (a' := ?_) #[true, true, true, true, true, true, false, false] rfl rfl (take_ofW HT_.out HW_.out (by kernel_rfl)) (fun _ _ _ h => h) (Or.inl ⟨by rfl, ?_⟩) hHeld ?_ ?_
            rotate_left
            ·rintro w' ⟨s0, s1, s2, s3, s4, s5, s6⟩
             go_simp
             with_reducible rfl
            rotate_left
            ·simp only [Act.put, sa_, sz_, ss_, i64_w, i32_w]
             rfl
            refine one_ (i := 6) (N := some 55) #[true, true, true, true, true, true, true, false] rfl rfl (one_of HT_.out (by kernel_rfl)) (by decide) (fun K hK => ?_)
            refine goes_ Try.func47 (by kernel_rfl) rfl #[.int .i64 t138] (by rfl) rfl rfl (by (try simp only [List.map_toArray, List.map_cons, List.map_nil]); first | done | rfl | (simp only [List.length_drop, List.length_take]; rfl)) ?_
            with_reducible refine (laws_markText.calls k1 t138 t140 _ A14.out).mono ?_
            rintro e w23 ⟨rfl, hb⟩
            refine ⟨_, rfl, ?_⟩
            have n0_ := Aside0.mk (below_step (by repeat (first | (with_reducible first | exact HB.out | apply ba_ | apply bn_ | apply b1_) | exact HB.out)) hb)
            clear HB
            have HB := n0_
            clear n0_
            (try clear hb)
            (try clear hb2)
            (try clear hk)
            (try clear hi)
            refine hK.out _ _ ⟨(pw_cell_below HB.out hw139_0), (pw_cell_below HB.out hw139_1), (pw_cell_below HB.out hw139_2), (pw_cell_below HB.out hw139_3), (pw_cell_below HB.out hw139_4), (pw_cell_below HB.out hw139_5), (pw_cell_below HB.out hw139_6)⟩ (fun hHeld => ?_)
            clear hK K
            refine norm_ (a' := ?_) ?_ ?_
            rotate_left
            ·show Act.put _ (some 55) _ = _
             simp only [Act.put, sa_, sz_, ss_, i64_w, i32_w]
             rfl
            refine pure_ (i := 7) (N := some 56) (v := ?_) (a' := ?_) #[true, true, true, true, true, true, true, true] rfl rfl (any_of HT_.out (by kernel_rfl)) (fun _ _ _ h => h) (Or.inl ⟨by rfl, ?_⟩) ?_ ?_
            rotate_left
            ·intro w'
             go_simp
             with_reducible rfl
            rotate_left
            ·simp only [Act.put, sa_, sz_, ss_, i64_w, i32_w]
             rfl
            refine done_ (done_of HT_.out (by kernel_rfl)) ?_
            have p141 : 0 ≤ (x5_1 : Int) := of_decide_eq_true (by first | (with_reducible assumption) | assumption)
            have q141 : x5_1 < (l0.length : Int) := of_decide_eq_true (by first | (with_reducible assumption) | assumption)
            ((try clear hHeld); (try clear hx133_0); (try clear hx133_1); (try clear hx133_2); (try clear hx133_3); (try clear hx133_4); (try clear hx133_5); (try clear hx133_6); (try clear hx134_0); (try clear hx134_1); (try clear hx134_2); (try clear hx134_3); (try clear hx134_4); (try clear hx134_5); (try clear hx134_6); (try clear hx135_0); (try clear hx135_1); (try clear hx135_2); (try clear hx135_3); (try clear hx135_4); (try clear hx135_5); (try clear hx135_6); (try clear hx137_0); (try clear hx137_1); (try clear hx137_2); (try clear hx137_3); (try clear hx137_4); (try clear hx137_5); (try clear hx137_6); (try clear hx139_0); (try clear hx139_1); (try clear hx139_2); (try clear hx139_3); (try clear hx139_4); (try clear hx139_5); (try clear hx139_6)) -- MENDOPEN
            obtain ⟨ad141, A141_3, c141_3, A141_6, c141_6, e141, hx141_0, hx141_1, hx141_2, hx141_3, hx141_4, hx141_5, hx141_6, hl141_3, hi141_3, hl141_6, hi141_6⟩ := at_T45 HR0.out x5_1 p141 q141
            obtain rfl : ad133 = ad141 := (by injection e141)
            replace hx141_0 := pw_cell_below HB.out hx141_0
            replace hx141_1 := pw_cell_below HB.out hx141_1
            replace hx141_2 := pw_cell_below HB.out hx141_2
            replace hx141_3 := pw_cell_below HB.out hx141_3
            replace hx141_4 := pw_cell_below HB.out hx141_4
            replace hx141_5 := pw_cell_below HB.out hx141_5
            replace hx141_6 := pw_cell_below HB.out hx141_6
            have HR141_3 := Aside0.mk hi141_3
            have HC141_3 := Aside0.mk hl141_3
            clear hi141_3 hl141_3
            have HR141_6 := Aside0.mk hi141_6
            have HC141_6 := Aside0.mk hl141_6
            clear hi141_6 hl141_6
            replace p141 := eq_true p141
            replace q141 := eq_true q141
            have p142 : 0 ≤ (x5_1 : Int) := of_decide_eq_true (by first | (with_reducible assumption) | assumption)
            have q142 : x5_1 < (l0.length : Int) := of_decide_eq_true (by first | (with_reducible assumption) | assumption)
            obtain ⟨ad142, A142_3, c142_3, A142_6, c142_6, e142, hx142_0, hx142_1, hx142_2, hx142_3, hx142_4, hx142_5, hx142_6, hl142_3, hi142_3, hl142_6, hi142_6⟩ := at_T45 HR0.out x5_1 p142 q142
            obtain rfl : ad133 = ad142 := (by injection e142)
            replace hx142_0 := pw_cell_below HB.out hx142_0
            replace hx142_1 := pw_cell_below HB.out hx142_1
            replace hx142_2 := pw_cell_below HB.out hx142_2
            replace hx142_3 := pw_cell_below HB.out hx142_3
            replace hx142_4 := pw_cell_below HB.out hx142_4
            replace hx142_5 := pw_cell_below HB.out hx142_5
            replace hx142_6 := pw_cell_below HB.out hx142_6
            have HR142_3 := Aside0.mk hi142_3
            have HC142_3 := Aside0.mk hl142_3
            clear hi142_3 hl142_3
            have HR142_6 := Aside0.mk hi142_6
            have HC142_6 := Aside0.mk hl142_6
            clear hi142_6 hl142_6
            replace p142 := eq_true p142
            replace q142 := eq_true q142
            have ea_ := Option.some.inj (hx141_3.symm.trans hx142_3)
            injection ea_ with ea_ en_ ec_
            subst ea_
            subst ec_
            clear en_
            have ea_ := Option.some.inj (hx141_6.symm.trans hx142_6)
            injection ea_ with ea_ en_ ec_
            subst ea_
            subst ec_
            clear en_
            try go_wp2_with (first | ((with_reducible refine gate_callee (f := 31) rfl ?_); refine goesL_ (some 74) rfl rfl Try.func31 (by kernel_rfl) rfl #[.slice A141_6 ((rd_T45 l0 x5_1).f6).length c141_6, .int .i64 (wrap64 ((wrap64 (t138 + 1)) + 1))] rfl (by (try simp only [List.map_toArray, List.map_cons, List.map_nil]); first | done | rfl | (simp only [List.length_drop, List.length_take]; rfl)) ?_; (with_reducible refine (laws_heldIntS.calls k1 _ _ ((rd_T45 l0 x5_1).f6) (wrap64 ((wrap64 (t138 + 1)) + 1)) t143 _ ?side1 ?side2 A17.out).mono ?_); (case side1 => repeat (first | exact (Kd.C_below HR142_6.out HB.out) | (with_reducible refine ca_ ?_ _) | (with_reducible refine cn_ ?_ _) | (with_reducible refine cd_ ?_))); (case side2 => exact HC142_6.out); rintro e w' ⟨rfl, ⟨nd, rfl⟩⟩; refine ⟨_, rfl, ?_⟩))
            go_ret
            exact ⟨by first | rfl | (simp [errW_none, errW_some] <;> rfl) | (simp [*, errW_none, errW_some] <;> rfl), by repeat (first | (with_reducible first | exact HB.out | apply ba_ | apply bn_ | apply b1_) | exact HB.out)⟩
           ·rw [if_neg c18] at H
            have c18b0 : decide (t143 < 0) = false := decide_eq_false c18
            clear c18
            have H' := Aside0.mk H
            clear H
            have p133 : 0 ≤ (x5_1 : Int) := of_decide_eq_true (by first | (with_reducible assumption) | assumption)
            have q133 : x5_1 < (l0.length : Int) := of_decide_eq_true (by first | (with_reducible assumption) | assumption)
            ((try clear hHeld); (try clear hx133_0); (try clear hx133_1); (try clear hx133_2); (try clear hx133_3); (try clear hx133_4); (try clear hx133_5); (try clear hx133_6); (try clear hx134_0); (try clear hx134_1); (try clear hx134_2); (try clear hx134_3); (try clear hx134_4); (try clear hx134_5); (try clear hx134_6); (try clear hx135_0); (try clear hx135_1); (try clear hx135_2); (try clear hx135_3); (try clear hx135_4); (try clear hx135_5); (try clear hx135_6); (try clear hx137_0); (try clear hx137_1); (try clear hx137_2); (try clear hx137_3); (try clear hx137_4); (try clear hx137_5); (try clear hx137_6); (try clear hx139_0); (try clear hx139_1); (try clear hx139_2); (try clear hx139_3); (try clear hx139_4); (try clear hx139_5); (try clear hx139_6); (try clear hx141_0); (try clear hx141_1); (try clear hx141_2); (try clear hx141_3); (try clear hx141_4); (try clear hx141_5); (try clear hx141_6); (try clear hx142_0); (try clear hx142_1); (try clear hx142_2); (try clear hx142_3); (try clear hx142_4); (try clear hx142_5); (try clear hx142_6)) -- MENDOPEN
            obtain ⟨ad133, A133_3, c133_3, A133_6, c133_6, e133, hx133_0, hx133_1, hx133_2, hx133_3, hx133_4, hx133_5, hx133_6, hl133_3, hi133_3, hl133_6, hi133_6⟩ := at_T45 HR0.out x5_1 p133 q133
            cases e133
            replace hx133_0 := pw_cell_below HB.out hx133_0
            replace hx133_1 := pw_cell_below HB.out hx133_1
            replace hx133_2 := pw_cell_below HB.out hx133_2
            replace hx133_3 := pw_cell_below HB.out hx133_3
            replace hx133_4 := pw_cell_below HB.out hx133_4
            replace hx133_5 := pw_cell_below HB.out hx133_5
            replace hx133_6 := pw_cell_below HB.out hx133_6
            have HR133_3 := Aside0.mk hi133_3
            have HC133_3 := Aside0.mk hl133_3
            clear hi133_3 hl133_3
            have HR133_6 := Aside0.mk hi133_6
            have HC133_6 := Aside0.mk hl133_6
            clear hi133_6 hl133_6
            replace p133 := eq_true p133
            replace q133 := eq_true q133
            have p134 : 0 ≤ (x5_1 : Int) := of_decide_eq_true (by first | (with_reducible assumption) | assumption)
            have q134 : x5_1 < (l0.length : Int) := of_decide_eq_true (by first | (with_reducible assumption) | assumption)
            obtain ⟨ad134, A134_3, c134_3, A134_6, c134_6, e134, hx134_0, hx134_1, hx134_2, hx134_3, hx134_4, hx134_5, hx134_6, hl134_3, hi134_3, hl134_6, hi134_6⟩ := at_T45 HR0.out x5_1 p134 q134
            obtain rfl : ad133 = ad134 := (by injection e134)
            replace hx134_0 := pw_cell_below HB.out hx134_0
            replace hx134_1 := pw_cell_below HB.out hx134_1
            replace hx134_2 := pw_cell_below HB.out hx134_2
            replace hx134_3 := pw_cell_below HB.out hx134_3
            replace hx134_4 := pw_cell_below HB.out hx134_4
            replace hx134_5 := pw_cell_below HB.out hx134_5
            replace hx134_6 := pw_cell_below HB.out hx134_6
            have HR134_3 := Aside0.mk hi134_3
            have HC134_3 := Aside0.mk hl134_3
            clear hi134_3 hl134_3
            have HR134_6 := Aside0.mk hi134_6
            have HC134_6 := Aside0.mk hl134_6
            clear hi134_6 hl134_6
            replace p134 := eq_true p134
            replace q134 := eq_true q134
            have ea_ := Option.some.inj (hx133_3.symm.trans hx134_3)
            injection ea_ with ea_ en_ ec_
            subst ea_
            subst ec_
            clear en_
            have ea_ := Option.some.inj (hx133_6.symm.trans hx134_6)
            injection ea_ with ea_ en_ ec_
            subst ea_
            subst ec_
            clear en_
            try go_wp2
            have n0_ := Aside0.mk (b1_ HB.out)
            clear HB
            have HB := n0_
            clear n0_
            have p135 : 0 ≤ (x5_1 : Int) := of_decide_eq_true (by first | (with_reducible assumption) | assumption)
            have q135 : x5_1 < (l0.length : Int) := of_decide_eq_true (by first | (with_reducible assumption) | assumption)
            ((try clear hHeld); (try clear hx133_0); (try clear hx133_1); (try clear hx133_2); (try clear hx133_3); (try clear hx133_4); (try clear hx133_5); (try clear hx133_6); (try clear hx134_0); (try clear hx134_1); (try clear hx134_2); (try clear hx134_3); (try clear hx134_4); (try clear hx134_5); (try clear hx134_6); (try clear hx135_0); (try clear hx135_1); (try clear hx135_2); (try clear hx135_3); (try clear hx135_4); (try clear hx135_5); (try clear hx135_6); (try clear hx137_0); (try clear hx137_1); (try clear hx137_2); (try clear hx137_3); (try clear hx137_4); (try clear hx137_5); (try clear hx137_6); (try clear hx139_0); (try clear hx139_1); (try clear hx139_2); (try clear hx139_3); (try clear hx139_4); (try clear hx139_5); (try clear hx139_6); (try clear hx141_0); (try clear hx141_1); (try clear hx141_2); (try clear hx141_3); (try clear hx141_4); (try clear hx141_5); (try clear hx141_6); (try clear hx142_0); (try clear hx142_1); (try clear hx142_2); (try clear hx142_3); (try clear hx142_4); (try clear hx142_5); (try clear hx142_6)) -- MENDOPEN
            obtain ⟨ad135, A135_3, c135_3, A135_6, c135_6, e135, hx135_0, hx135_1, hx135_2, hx135_3, hx135_4, hx135_5, hx135_6, hl135_3, hi135_3, hl135_6, hi135_6⟩ := at_T45 HR0.out x5_1 p135 q135
            have hw135_6 := hx135_6
            have hw135_5 := hx135_5
            have hw135_4 := hx135_4
            have hw135_3 := hx135_3
            have hw135_2 := hx135_2
            have hw135_1 := hx135_1
            have hw135_0 := hx135_0
            obtain rfl : ad133 = ad135 := (by injection e135)
            replace hx135_0 := pw_cell_below HB.out hx135_0
            replace hx135_1 := pw_cell_below HB.out hx135_1
            replace hx135_2 := pw_cell_below HB.out hx135_2
            replace hx135_3 := pw_cell_below HB.out hx135_3
            replace hx135_4 := pw_cell_below HB.out hx135_4
            replace hx135_5 := pw_cell_below HB.out hx135_5
            replace hx135_6 := pw_cell_below HB.out hx135_6
            have HR135_3 := Aside0.mk hi135_3
            have HC135_3 := Aside0.mk hl135_3
            clear hi135_3 hl135_3
            have HR135_6 := Aside0.mk hi135_6
            have HC135_6 := Aside0.mk hl135_6
            clear hi135_6 hl135_6
            replace p135 := eq_true p135
            replace q135 := eq_true q135
            refine start_ (n := 8) (S := fun w' => w'.cell? (ad133.add ((x5_1).toNat * 7)) = some (.int .i64 ((rd_T45 l0 x5_1).f0)) ∧ w'.cell? ⟨(ad133.add ((x5_1).toNat * 7)).block, (ad133.add ((x5_1).toNat * 7)).off + 1, none⟩ = some (.int .i64 ((rd_T45 l0 x5_1).f1)) ∧ w'.cell? ⟨(ad133.add ((x5_1).toNat * 7)).block, (ad133.add ((x5_1).toNat * 7)).off + 2, none⟩ = some (.string ((rd_T45 l0 x5_1).f2)) ∧ w'.cell? ⟨(ad133.add ((x5_1).toNat * 7)).block, (ad133.add ((x5_1).toNat * 7)).off + 3, none⟩ = some (.slice A135_3 ((rd_T45 l0 x5_1).f3).length c135_3) ∧ w'.cell? ⟨(ad133.add ((x5_1).toNat * 7)).block, (ad133.add ((x5_1).toNat * 7)).off + 4, none⟩ = some (.string ((rd_T45 l0 x5_1).f4)) ∧ w'.cell? ⟨(ad133.add ((x5_1).toNat * 7)).block, (ad133.add ((x5_1).toNat * 7)).off + 5, none⟩ = some (.int .i64 ((rd_T45 l0 x5_1).f5)) ∧ w'.cell? ⟨(ad133.add ((x5_1).toNat * 7)).block, (ad133.add ((x5_1).toNat * 7)).off + 6, none⟩ = some (.slice A135_6 ((rd_T45 l0 x5_1).f6).length c135_6)) (ds := []) #[false, false, false, false, false, false, false, false] (by kernel_rfl) rfl rfl ⟨(pw_cell_below HB.out hw135_0), (pw_cell_below HB.out hw135_1), (pw_cell_below HB.out hw135_2), (pw_cell_below HB.out hw135_3), (pw_cell_below HB.out hw135_4), (pw_cell_below HB.out hw135_5), (pw_cell_below HB.out hw135_6)⟩ (fun hHeld => ?_); refine with_tabW laws_heldItemS.tab10 laws_heldItemS.bits10 (fun HT_ HW_ => ?_)
            generalize wr.drew = w24 at HB HR135_3 HR135_6 hx135_0 hx135_1 hx135_2 hx135_3 hx135_4 hx135_5 hx135_6 hHeld ⊢
            refine pure_ (i := 0) (N := some 30) (v := ?_) (a' := ?_) #[true, false, false, false, false, false, false, false] rfl rfl (any_of HT_.out (by kernel_rfl)) (fun _ _ _ h => h) (Or.inl ⟨by rfl, ?_⟩) ?_ ?_
            rotate_left
            ·intro w'
             go_simp
             with_reducible rfl
            rotate_left
            ·simp only [Act.put, sa_, sz_, ss_, i64_w, i32_w]
             rfl
            refine pure_ (i := 1) (N := some 31) (v := ?_) (a' := ?_) #[true, true, false, false, false, false, false, false] rfl rfl (any_of HT_.out (by kernel_rfl)) (fun _ _ _ h => h) (Or.inl ⟨by rfl, ?_⟩) ?_ ?_
            rotate_left
            ·intro w'
             go_simp
             with_reducible rfl
            rotate_left
            ·simp only [Act.put, sa_, sz_, ss_, i64_w, i32_w]
             rfl
            refine pure_ (i := 2) (N := some 32) (v := ?_) (a' := ?_) #[true, true, true, false, false, false, false, false] rfl rfl (any_of HT_.out (by kernel_rfl)) (fun _ _ _ h => h) (Or.inl ⟨by rfl, ?_⟩) ?_ ?_
            rotate_left
            ·intro w'
             go_simp
             with_reducible rfl
            rotate_left
            ·simp only [Act.put, sa_, sz_, ss_, i64_w, i32_w]
             rfl
            refine pure_ (i := 3) (N := some 33) (v := ?_) (a' := ?_) #[true, true, true, true, false, false, false, false] rfl rfl (any_of HT_.out (by kernel_rfl)) (fun _ _ _ h => h) (Or.inl ⟨by rfl, ?_⟩) ?_ ?_
            rotate_left
            ·intro w'
             go_simp
             with_reducible rfl
            rotate_left
            ·simp only [Act.put, sa_, sz_, ss_, i64_w, i32_w]
             rfl
            refine pure_ (i := 5) (N := some 35) (v := ?_) (a' := ?_) #[true, true, true, true, false, true, false, false] rfl rfl (any_of HT_.out (by kernel_rfl)) (fun _ _ _ h => h) (Or.inl ⟨by rfl, ?_⟩) ?_ ?_
            rotate_left
            ·intro w'
             go_simp
             with_reducible rfl
            rotate_left
            ·simp only [Act.put, sa_, sz_, ss_, i64_w, i32_w]
             rfl
            refine take_ (i := 4) (N := some 34) (v := ?_) (a' := ?_) #[true, true, true, true, true, true, false, false] rfl rfl (take_ofW HT_.out HW_.out (by kernel_rfl)) (fun _ _ _ h => h) (Or.inl ⟨by rfl, ?_⟩) hHeld ?_ ?_
            rotate_left
            ·rintro w' ⟨s0, s1, s2, s3, s4, s5, s6⟩
             go_simp
             with_reducible rfl
            rotate_left
            ·simp only [Act.put, sa_, sz_, ss_, i64_w, i32_w]
             rfl
            refine one_ (i := 6) (N := some 36) #[true, true, true, true, true, true, true, false] rfl rfl (one_of HT_.out (by kernel_rfl)) (by decide) (fun K hK => ?_)
            refine goes_ Try.func47 (by kernel_rfl) rfl #[.int .i64 (wrap64 ((wrap64 (x1_1 + 1)) + 1))] (by rfl) rfl rfl (by (try simp only [List.map_toArray, List.map_cons, List.map_nil]); first | done | rfl | (simp only [List.length_drop, List.length_take]; rfl)) ?_
            with_reducible refine (laws_markText.calls k1 (wrap64 ((wrap64 (x1_1 + 1)) + 1)) t136 _ A7.out).mono ?_
            rintro e w25 ⟨rfl, hb⟩
            refine ⟨_, rfl, ?_⟩
            have n0_ := Aside0.mk (below_step (by repeat (first | (with_reducible first | exact HB.out | apply ba_ | apply bn_ | apply b1_) | exact HB.out)) hb)
            clear HB
            have HB := n0_
            clear n0_
            (try clear hb)
            (try clear hb2)
            (try clear hk)
            (try clear hi)
            refine hK.out _ _ ⟨(pw_cell_below HB.out hw135_0), (pw_cell_below HB.out hw135_1), (pw_cell_below HB.out hw135_2), (pw_cell_below HB.out hw135_3), (pw_cell_below HB.out hw135_4), (pw_cell_below HB.out hw135_5), (pw_cell_below HB.out hw135_6)⟩ (fun hHeld => ?_)
            clear hK K
            refine norm_ (a' := ?_) ?_ ?_
            rotate_left
            ·show Act.put _ (some 36) _ = _
             simp only [Act.put, sa_, sz_, ss_, i64_w, i32_w]
             rfl
            refine pure_ (i := 7) (N := some 37) (v := ?_) (a' := ?_) #[true, true, true, true, true, true, true, true] rfl rfl (any_of HT_.out (by kernel_rfl)) (fun _ _ _ h => h) (Or.inl ⟨by rfl, ?_⟩) ?_ ?_
            rotate_left
            ·intro w'
             go_simp
             with_reducible rfl
            rotate_left
            ·simp only [Act.put, sa_, sz_, ss_, i64_w, i32_w]
             rfl
            refine done_ (done_of HT_.out (by kernel_rfl)) ?_
            have p137 : 0 ≤ (x5_1 : Int) := of_decide_eq_true (by first | (with_reducible assumption) | assumption)
            have q137 : x5_1 < (l0.length : Int) := of_decide_eq_true (by first | (with_reducible assumption) | assumption)
            ((try clear hHeld); (try clear hx133_0); (try clear hx133_1); (try clear hx133_2); (try clear hx133_3); (try clear hx133_4); (try clear hx133_5); (try clear hx133_6); (try clear hx134_0); (try clear hx134_1); (try clear hx134_2); (try clear hx134_3); (try clear hx134_4); (try clear hx134_5); (try clear hx134_6); (try clear hx135_0); (try clear hx135_1); (try clear hx135_2); (try clear hx135_3); (try clear hx135_4); (try clear hx135_5); (try clear hx135_6); (try clear hx137_0); (try clear hx137_1); (try clear hx137_2); (try clear hx137_3); (try clear hx137_4); (try clear hx137_5); (try clear hx137_6); (try clear hx139_0); (try clear hx139_1); (try clear hx139_2); (try clear hx139_3); (try clear hx139_4); (try clear hx139_5); (try clear hx139_6); (try clear hx141_0); (try clear hx141_1); (try clear hx141_2); (try clear hx141_3); (try clear hx141_4); (try clear hx141_5); (try clear hx141_6); (try clear hx142_0); (try clear hx142_1); (try clear hx142_2); (try clear hx142_3); (try clear hx142_4); (try clear hx142_5); (try clear hx142_6)) -- MENDOPEN
            obtain ⟨ad137, A137_3, c137_3, A137_6, c137_6, e137, hx137_0, hx137_1, hx137_2, hx137_3, hx137_4, hx137_5, hx137_6, hl137_3, hi137_3, hl137_6, hi137_6⟩ := at_T45 HR0.out x5_1 p137 q137
            obtain rfl : ad133 = ad137 := (by injection e137)
            replace hx137_0 := pw_cell_below HB.out hx137_0
            replace hx137_1 := pw_cell_below HB.out hx137_1
            replace hx137_2 := pw_cell_below HB.out hx137_2
            replace hx137_3 := pw_cell_below HB.out hx137_3
            replace hx137_4 := pw_cell_below HB.out hx137_4
            replace hx137_5 := pw_cell_below HB.out hx137_5
            replace hx137_6 := pw_cell_below HB.out hx137_6
            have HR137_3 := Aside0.mk hi137_3
            have HC137_3 := Aside0.mk hl137_3
            clear hi137_3 hl137_3
            have HR137_6 := Aside0.mk hi137_6
            have HC137_6 := Aside0.mk hl137_6
            clear hi137_6 hl137_6
            replace p137 := eq_true p137
            replace q137 := eq_true q137
            try go_wp2_with (first | ((with_reducible refine gate_callee (f := 49) rfl ?_); refine goesL_ (some 46) rfl rfl Try.func49 (by kernel_rfl) rfl #[.slice A137_3 ((rd_T45 l0 x5_1).f3).length c137_3, .int .i64 (wrap64 ((wrap64 ((wrap64 (x1_1 + 1)) + 1)) + 1))] rfl (by (try simp only [List.map_toArray, List.map_cons, List.map_nil]); first | done | rfl | (simp only [List.length_drop, List.length_take]; rfl)) ?_; (with_reducible refine (laws_heldAttrS.calls k1 _ _ ((rd_T45 l0 x5_1).f3) (wrap64 ((wrap64 ((wrap64 (x1_1 + 1)) + 1)) + 1)) t138 _ ?side1 ?side2 A9.out).mono ?_); (case side1 => repeat (first | exact (Kd.C_below HR137_3.out HB.out) | (with_reducible refine ca_ ?_ _) | (with_reducible refine cn_ ?_ _) | (with_reducible refine cd_ ?_))); (case side2 => exact HC137_3.out); rintro e w26 ⟨rfl, hb⟩; refine ⟨_, rfl, ?_⟩; have n0_ := Aside0.mk (below_step (by repeat (first | (with_reducible first | exact HB.out | apply ba_ | apply bn_ | apply b1_) | exact HB.out)) hb); clear HB; have HB := n0_; clear n0_; (try clear hb); (try clear hb2); (try clear hk); (try clear hi)))
            have n0_ := Aside0.mk (b1_ HB.out)
            clear HB
            have HB := n0_
            clear n0_
            have p139 : 0 ≤ (x5_1 : Int) := of_decide_eq_true (by first | (with_reducible assumption) | assumption)
            have q139 : x5_1 < (l0.length : Int) := of_decide_eq_true (by first | (with_reducible assumption) | assumption)
            ((try clear hHeld); (try clear hx133_0); (try clear hx133_1); (try clear hx133_2); (try clear hx133_3); (try clear hx133_4); (try clear hx133_5); (try clear hx133_6); (try clear hx134_0); (try clear hx134_1); (try clear hx134_2); (try clear hx134_3); (try clear hx134_4); (try clear hx134_5); (try clear hx134_6); (try clear hx135_0); (try clear hx135_1); (try clear hx135_2); (try clear hx135_3); (try clear hx135_4); (try clear hx135_5); (try clear hx135_6); (try clear hx137_0); (try clear hx137_1); (try clear hx137_2); (try clear hx137_3); (try clear hx137_4); (try clear hx137_5); (try clear hx137_6); (try clear hx139_0); (try clear hx139_1); (try clear hx139_2); (try clear hx139_3); (try clear hx139_4); (try clear hx139_5); (try clear hx139_6); (try clear hx141_0); (try clear hx141_1); (try clear hx141_2); (try clear hx141_3); (try clear hx141_4); (try clear hx141_5); (try clear hx141_6); (try clear hx142_0); (try clear hx142_1); (try clear hx142_2); (try clear hx142_3); (try clear hx142_4); (try clear hx142_5); (try clear hx142_6)) -- MENDOPEN
            obtain ⟨ad139, A139_3, c139_3, A139_6, c139_6, e139, hx139_0, hx139_1, hx139_2, hx139_3, hx139_4, hx139_5, hx139_6, hl139_3, hi139_3, hl139_6, hi139_6⟩ := at_T45 HR0.out x5_1 p139 q139
            have hw139_6 := hx139_6
            have hw139_5 := hx139_5
            have hw139_4 := hx139_4
            have hw139_3 := hx139_3
            have hw139_2 := hx139_2
            have hw139_1 := hx139_1
            have hw139_0 := hx139_0
            obtain rfl : ad133 = ad139 := (by injection e139)
            replace hx139_0 := pw_cell_below HB.out hx139_0
            replace hx139_1 := pw_cell_below HB.out hx139_1
            replace hx139_2 := pw_cell_below HB.out hx139_2
            replace hx139_3 := pw_cell_below HB.out hx139_3
            replace hx139_4 := pw_cell_below HB.out hx139_4
            replace hx139_5 := pw_cell_below HB.out hx139_5
            replace hx139_6 := pw_cell_below HB.out hx139_6
            have HR139_3 := Aside0.mk hi139_3
            have HC139_3 := Aside0.mk hl139_3
            clear hi139_3 hl139_3
            have HR139_6 := Aside0.mk hi139_6
            have HC139_6 := Aside0.mk hl139_6
            clear hi139_6 hl139_6
            replace p139 := eq_true p139
            replace q139 := eq_true q139
            refine start_ (n := 8) (S := fun w' => w'.cell? (ad133.add ((x5_1).toNat * 7)) = some (.int .i64 ((rd_T45 l0 x5_1).f0)) ∧ w'.cell? ⟨(ad133.add ((x5_1).toNat * 7)).block, (ad133.add ((x5_1).toNat * 7)).off + 1, none⟩ = some (.int .i64 ((rd_T45 l0 x5_1).f1)) ∧ w'.cell? ⟨(ad133.add ((x5_1).toNat * 7)).block, (ad133.add ((x5_1).toNat * 7)).off + 2, none⟩ = some (.string ((rd_T45 l0 x5_1).f2)) ∧ w'.cell? ⟨(ad133.add ((x5_1).toNat * 7)).block, (ad133.add ((x5_1).toNat * 7)).off + 3, none⟩ = some (.slice A139_3 ((rd_T45 l0 x5_1).f3).length c139_3) ∧ w'.cell? ⟨(ad133.add ((x5_1).toNat * 7)).block, (ad133.add ((x5_1).toNat * 7)).off + 4, none⟩ = some (.string ((rd_T45 l0 x5_1).f4)) ∧ w'.cell? ⟨(ad133.add ((x5_1).toNat * 7)).block, (ad133.add ((x5_1).toNat * 7)).off + 5, none⟩ = some (.int .i64 ((rd_T45 l0 x5_1).f5)) ∧ w'.cell? ⟨(ad133.add ((x5_1).toNat * 7)).block, (ad133.add ((x5_1).toNat * 7)).off + 6, none⟩ = some (.slice A139_6 ((rd_T45 l0 x5_1).f6).length c139_6)) (ds := []) #[false, false, false, false, false, false, false, false] (by kernel_rfl) rfl rfl ⟨(pw_cell_below HB.out hw139_0), (pw_cell_below HB.out hw139_1), (pw_cell_below HB.out hw139_2), (pw_cell_below HB.out hw139_3), (pw_cell_below HB.out hw139_4), (pw_cell_below HB.out hw139_5), (pw_cell_below HB.out hw139_6)⟩ (fun hHeld => ?_); refine with_tabW laws_heldItemS.tab16 laws_heldItemS.bits16 (fun HT_ HW_ => ?_)
            generalize w26.drew = w27 at HB HR139_3 HR139_6 hx139_0 hx139_1 hx139_2 hx139_3 hx139_4 hx139_5 hx139_6 hHeld ⊢
            refine pure_ (i := 0) (N := some 49) (v := ?_) (a' := ?_) #[true, false, false, false, false, false, false, false] rfl rfl (any_of HT_.out (by kernel_rfl)) (fun _ _ _ h => h) (Or.inl ⟨by rfl, ?_⟩) ?_ ?_
            rotate_left
            ·intro w'
             go_simp
             with_reducible rfl
            rotate_left
            ·simp only [Act.put, sa_, sz_, ss_, i64_w, i32_w]
             rfl
            refine pure_ (i := 1) (N := some 50) (v := ?_) (a' := ?_) #[true, true, false, false, false, false, false, false] rfl rfl (any_of HT_.out (by kernel_rfl)) (fun _ _ _ h => h) (Or.inl ⟨by rfl, ?_⟩) ?_ ?_
            rotate_left
            ·intro w'
             go_simp
             with_reducible rfl
            rotate_left
            ·simp only [Act.put, sa_, sz_, ss_, i64_w, i32_w]
             rfl
            refine pure_ (i := 2) (N := some 51) (v := ?_) (a' := ?_) #[true, true, true, false, false, false, false, false] rfl rfl (any_of HT_.out (by kernel_rfl)) (fun _ _ _ h => h) (Or.inl ⟨by rfl, ?_⟩) ?_ ?_
            rotate_left
            ·intro w'
             go_simp
             with_reducible rfl
            rotate_left
            ·simp only [Act.put, sa_, sz_, ss_, i64_w, i32_w]
             rfl
            refine pure_ (i := 3) (N := some 52) (v := ?_) (a' := ?_) #[true, true, true, true, false, false, false, false] rfl rfl (any_of HT_.out (by kernel_rfl)) (fun _ _ _ h => h) (Or.inl ⟨by rfl, ?_⟩) ?_ ?_
            rotate_left
            ·intro w'
             go_simp
             with_reducible rfl
            rotate_left
            ·simp only [Act.put, sa_, sz_, ss_, i64_w, i32_w]
             rfl
            refine pure_ (i := 5) (N := some 54) (v := ?_) (a' := ?_) #[true, true, true, true, false, true, false, false] rfl rfl (any_of HT_.out (by kernel_rfl)) (fun _ _ _ h => h) (Or.inl ⟨by rfl, ?_⟩) ?_ ?_
            rotate_left
            ·intro w'
             go_simp
             with_reducible rfl
            rotate_left
            ·simp only [Act.put, sa_, sz_, ss_, i64_w, i32_w]
             rfl
            refine take_ (i := 4) (N := some 53) (v := ?_) (a' := ?_) #[true, true, true, true, true, true, false, false] rfl rfl (take_ofW HT_.out HW_.out (by kernel_rfl)) (fun _ _ _ h => h) (Or.inl ⟨by rfl, ?_⟩) hHeld ?_ ?_
            rotate_left
            ·rintro w' ⟨s0, s1, s2, s3, s4, s5, s6⟩
             go_simp
             with_reducible rfl
            rotate_left
            ·simp only [Act.put, sa_, sz_, ss_, i64_w, i32_w]
             rfl
            refine one_ (i := 6) (N := some 55) #[true, true, true, true, true, true, true, false] rfl rfl (one_of HT_.out (by kernel_rfl)) (by decide) (fun K hK => ?_)
            refine goes_ Try.func47 (by kernel_rfl) rfl #[.int .i64 t138] (by rfl) rfl rfl (by (try simp only [List.map_toArray, List.map_cons, List.map_nil]); first | done | rfl | (simp only [List.length_drop, List.length_take]; rfl)) ?_
            with_reducible refine (laws_markText.calls k1 t138 t140 _ A14.out).mono ?_
            rintro e w28 ⟨rfl, hb⟩
            refine ⟨_, rfl, ?_⟩
            have n0_ := Aside0.mk (below_step (by repeat (first | (with_reducible first | exact HB.out | apply ba_ | apply bn_ | apply b1_) | exact HB.out)) hb)
            clear HB
            have HB := n0_
            clear n0_
            (try clear hb)
            (try clear hb2)
            (try clear hk)
            (try clear hi)
            refine hK.out _ _ ⟨(pw_cell_below HB.out hw139_0), (pw_cell_below HB.out hw139_1), (pw_cell_below HB.out hw139_2), (pw_cell_below HB.out hw139_3), (pw_cell_below HB.out hw139_4), (pw_cell_below HB.out hw139_5), (pw_cell_below HB.out hw139_6)⟩ (fun hHeld => ?_)
            clear hK K
            refine norm_ (a' := ?_) ?_ ?_
            rotate_left
            ·show Act.put _ (some 55) _ = _
             simp only [Act.put, sa_, sz_, ss_, i64_w, i32_w]
             rfl
            refine pure_ (i := 7) (N := some 56) (v := ?_) (a' := ?_) #[true, true, true, true, true, true, true, true] rfl rfl (any_of HT_.out (by kernel_rfl)) (fun _ _ _ h => h) (Or.inl ⟨by rfl, ?_⟩) ?_ ?_
            rotate_left
            ·intro w'
             go_simp
             with_reducible rfl
            rotate_left
            ·simp only [Act.put, sa_, sz_, ss_, i64_w, i32_w]
             rfl
            refine done_ (done_of HT_.out (by kernel_rfl)) ?_
            have p141 : 0 ≤ (x5_1 : Int) := of_decide_eq_true (by first | (with_reducible assumption) | assumption)
            have q141 : x5_1 < (l0.length : Int) := of_decide_eq_true (by first | (with_reducible assumption) | assumption)
            ((try clear hHeld); (try clear hx133_0); (try clear hx133_1); (try clear hx133_2); (try clear hx133_3); (try clear hx133_4); (try clear hx133_5); (try clear hx133_6); (try clear hx134_0); (try clear hx134_1); (try clear hx134_2); (try clear hx134_3); (try clear hx134_4); (try clear hx134_5); (try clear hx134_6); (try clear hx135_0); (try clear hx135_1); (try clear hx135_2); (try clear hx135_3); (try clear hx135_4); (try clear hx135_5); (try clear hx135_6); (try clear hx137_0); (try clear hx137_1); (try clear hx137_2); (try clear hx137_3); (try clear hx137_4); (try clear hx137_5); (try clear hx137_6); (try clear hx139_0); (try clear hx139_1); (try clear hx139_2); (try clear hx139_3); (try clear hx139_4); (try clear hx139_5); (try clear hx139_6); (try clear hx141_0); (try clear hx141_1); (try clear hx141_2); (try clear hx141_3); (try clear hx141_4); (try clear hx141_5); (try clear hx141_6); (try clear hx142_0); (try clear hx142_1); (try clear hx142_2); (try clear hx142_3); (try clear hx142_4); (try clear hx142_5); (try clear hx142_6)) -- MENDOPEN
            obtain ⟨ad141, A141_3, c141_3, A141_6, c141_6, e141, hx141_0, hx141_1, hx141_2, hx141_3, hx141_4, hx141_5, hx141_6, hl141_3, hi141_3, hl141_6, hi141_6⟩ := at_T45 HR0.out x5_1 p141 q141
            obtain rfl : ad133 = ad141 := (by injection e141)
            replace hx141_0 := pw_cell_below HB.out hx141_0
            replace hx141_1 := pw_cell_below HB.out hx141_1
            replace hx141_2 := pw_cell_below HB.out hx141_2
            replace hx141_3 := pw_cell_below HB.out hx141_3
            replace hx141_4 := pw_cell_below HB.out hx141_4
            replace hx141_5 := pw_cell_below HB.out hx141_5
            replace hx141_6 := pw_cell_below HB.out hx141_6
            have HR141_3 := Aside0.mk hi141_3
            have HC141_3 := Aside0.mk hl141_3
            clear hi141_3 hl141_3
            have HR141_6 := Aside0.mk hi141_6
            have HC141_6 := Aside0.mk hl141_6
            clear hi141_6 hl141_6
            replace p141 := eq_true p141
            replace q141 := eq_true q141
            have p142 : 0 ≤ (x5_1 : Int) := of_decide_eq_true (by first | (with_reducible assumption) | assumption)
            have q142 : x5_1 < (l0.length : Int) := of_decide_eq_true (by first | (with_reducible assumption) | assumption)
            obtain ⟨ad142, A142_3, c142_3, A142_6, c142_6, e142, hx142_0, hx142_1, hx142_2, hx142_3, hx142_4, hx142_5, hx142_6, hl142_3, hi142_3, hl142_6, hi142_6⟩ := at_T45 HR0.out x5_1 p142 q142
            obtain rfl : ad133 = ad142 := (by injection e142)
            replace hx142_0 := pw_cell_below HB.out hx142_0
            replace hx142_1 := pw_cell_below HB.out hx142_1
            replace hx142_2 := pw_cell_below HB.out hx142_2
            replace hx142_3 := pw_cell_below HB.out hx142_3
            replace hx142_4 := pw_cell_below HB.out hx142_4
            replace hx142_5 := pw_cell_below HB.out hx142_5
            replace hx142_6 := pw_cell_below HB.out hx142_6
            have HR142_3 := Aside0.mk hi142_3
            have HC142_3 := Aside0.mk hl142_3
            clear hi142_3 hl142_3
            have HR142_6 := Aside0.mk hi142_6
            have HC142_6 := Aside0.mk hl142_6
            clear hi142_6 hl142_6
            replace p142 := eq_true p142
            replace q142 := eq_true q142
            have ea_ := Option.some.inj (hx141_3.symm.trans hx142_3)
            injection ea_ with ea_ en_ ec_
            subst ea_
            subst ec_
            clear en_
            have ea_ := Option.some.inj (hx141_6.symm.trans hx142_6)
            injection ea_ with ea_ en_ ec_
            subst ea_
            subst ec_
            clear en_
            try go_wp2_with (first | ((with_reducible refine gate_callee (f := 31) rfl ?_); refine goesL_ (some 74) rfl rfl Try.func31 (by kernel_rfl) rfl #[.slice A141_6 ((rd_T45 l0 x5_1).f6).length c141_6, .int .i64 (wrap64 ((wrap64 (t138 + 1)) + 1))] rfl (by (try simp only [List.map_toArray, List.map_cons, List.map_nil]); first | done | rfl | (simp only [List.length_drop, List.length_take]; rfl)) ?_; (with_reducible refine (laws_heldIntS.calls k1 _ _ ((rd_T45 l0 x5_1).f6) (wrap64 ((wrap64 (t138 + 1)) + 1)) t143 _ ?side1 ?side2 A17.out).mono ?_); (case side1 => repeat (first | exact (Kd.C_below HR142_6.out HB.out) | (with_reducible refine ca_ ?_ _) | (with_reducible refine cn_ ?_ _) | (with_reducible refine cd_ ?_))); (case side2 => exact HC142_6.out); rintro e w' ⟨rfl, ⟨nd, rfl⟩⟩; refine ⟨_, rfl, ?_⟩))
            go_roundg k1
            case measure => have := HK1.out; omega
            case rel => exact ⟨(t143), (wrap64 (x5_1 + 1)), (by first | rfl | (simp; done) | (simp [*]; done)), (by first | rfl | (simp; done) | (simp [*]; done)), H', ⟨by have := HK1.out; omega⟩, ⟨by repeat (first | (with_reducible first | exact HB.out | apply ba_ | apply bn_ | apply b1_) | exact HB.out)⟩⟩
          ·rw [if_neg c16] at H
           have c16b0 : (((rd_T45 l0 x5_1).f5) == (wrap64 (t138 + 1))) = false := beq_eq_false_iff_ne.mpr c16
           have c16b1 : (((rd_T45 l0 x5_1).f5) != (wrap64 (t138 + 1))) = true := bne_iff_ne.mpr c16
           obtain rfl := Option.some.inj H
           have p133 : 0 ≤ (x5_1 : Int) := of_decide_eq_true (by first | (with_reducible assumption) | assumption)
           have q133 : x5_1 < (l0.length : Int) := of_decide_eq_true (by first | (with_reducible assumption) | assumption)
           ((try clear hHeld); (try clear hx133_0); (try clear hx133_1); (try clear hx133_2); (try clear hx133_3); (try clear hx133_4); (try clear hx133_5); (try clear hx133_6); (try clear hx134_0); (try clear hx134_1); (try clear hx134_2); (try clear hx134_3); (try clear hx134_4); (try clear hx134_5); (try clear hx134_6); (try clear hx135_0); (try clear hx135_1); (try clear hx135_2); (try clear hx135_3); (try clear hx135_4); (try clear hx135_5); (try clear hx135_6); (try clear hx137_0); (try clear hx137_1); (try clear hx137_2); (try clear hx137_3); (try clear hx137_4); (try clear hx137_5); (try clear hx137_6)) -- MENDOPEN
           obtain ⟨ad133, A133_3, c133_3, A133_6, c133_6, e133, hx133_0, hx133_1, hx133_2, hx133_3, hx133_4, hx133_5, hx133_6, hl133_3, hi133_3, hl133_6, hi133_6⟩ := at_T45 HR0.out x5_1 p133 q133
           cases e133
           replace hx133_0 := pw_cell_below HB.out hx133_0
           replace hx133_1 := pw_cell_below HB.out hx133_1
           replace hx133_2 := pw_cell_below HB.out hx133_2
           replace hx133_3 := pw_cell_below HB.out hx133_3
           replace hx133_4 := pw_cell_below HB.out hx133_4
           replace hx133_5 := pw_cell_below HB.out hx133_5
           replace hx133_6 := pw_cell_below HB.out hx133_6
           have HR133_3 := Aside0.mk hi133_3
           have HC133_3 := Aside0.mk hl133_3
           clear hi133_3 hl133_3
           have HR133_6 := Aside0.mk hi133_6
           have HC133_6 := Aside0.mk hl133_6
           clear hi133_6 hl133_6
           replace p133 := eq_true p133
           replace q133 := eq_true q133
           have p134 : 0 ≤ (x5_1 : Int) := of_decide_eq_true (by first | (with_reducible assumption) | assumption)
           have q134 : x5_1 < (l0.length : Int) := of_decide_eq_true (by first | (with_reducible assumption) | assumption)
           obtain ⟨ad134, A134_3, c134_3, A134_6, c134_6, e134, hx134_0, hx134_1, hx134_2, hx134_3, hx134_4, hx134_5, hx134_6, hl134_3, hi134_3, hl134_6, hi134_6⟩ := at_T45 HR0.out x5_1 p134 q134
           obtain rfl : ad133 = ad134 := (by injection e134)
           replace hx134_0 := pw_cell_below HB.out hx134_0
           replace hx134_1 := pw_cell_below HB.out hx134_1
           replace hx134_2 := pw_cell_below HB.out hx134_2
           replace hx134_3 := pw_cell_below HB.out hx134_3
           replace hx134_4 := pw_cell_below HB.out hx134_4
           replace hx134_5 := pw_cell_below HB.out hx134_5
           replace hx134_6 := pw_cell_below HB.out hx134_6
           have HR134_3 := Aside0.mk hi134_3
           have HC134_3 := Aside0.mk hl134_3
           clear hi134_3 hl134_3
           have HR134_6 := Aside0.mk hi134_6
           have HC134_6 := Aside0.mk hl134_6
           clear hi134_6 hl134_6
           replace p134 := eq_true p134
           replace q134 := eq_true q134
           have ea_ := Option.some.inj (hx133_3.symm.trans hx134_3)
           injection ea_ with ea_ en_ ec_
           subst ea_
           subst ec_
           clear en_
           have ea_ := Option.some.inj (hx133_6.symm.trans hx134_6)
           injection ea_ with ea_ en_ ec_
           subst ea_
           subst ec_
           clear en_
           try go_wp2
           have n0_ := Aside0.mk (b1_ HB.out)
           clear HB
           have HB := n0_
           clear n0_
           have p135 : 0 ≤ (x5_1 : Int) := of_decide_eq_true (by first | (with_reducible assumption) | assumption)
           have q135 : x5_1 < (l0.length : Int) := of_decide_eq_true (by first | (with_reducible assumption) | assumption)
           ((try clear hHeld); (try clear hx133_0); (try clear hx133_1); (try clear hx133_2); (try clear hx133_3); (try clear hx133_4); (try clear hx133_5); (try clear hx133_6); (try clear hx134_0); (try clear hx134_1); (try clear hx134_2); (try clear hx134_3); (try clear hx134_4); (try clear hx134_5); (try clear hx134_6); (try clear hx135_0); (try clear hx135_1); (try clear hx135_2); (try clear hx135_3); (try clear hx135_4); (try clear hx135_5); (try clear hx135_6); (try clear hx137_0); (try clear hx137_1); (try clear hx137_2); (try clear hx137_3); (try clear hx137_4); (try clear hx137_5); (try clear hx137_6)) -- MENDOPEN
           obtain ⟨ad135, A135_3, c135_3, A135_6, c135_6, e135, hx135_0, hx135_1, hx135_2, hx135_3, hx135_4, hx135_5, hx135_6, hl135_3, hi135_3, hl135_6, hi135_6⟩ := at_T45 HR0.out x5_1 p135 q135
           have hw135_6 := hx135_6
           have hw135_5 := hx135_5
           have hw135_4 := hx135_4
           have hw135_3 := hx135_3
           have hw135_2 := hx135_2
           have hw135_1 := hx135_1
           have hw135_0 := hx135_0
           obtain rfl : ad133 = ad135 := (by injection e135)
           replace hx135_0 := pw_cell_below HB.out hx135_0
           replace hx135_1 := pw_cell_below HB.out hx135_1
           replace hx135_2 := pw_cell_below HB.out hx135_2
           replace hx135_3 := pw_cell_below HB.out hx135_3
           replace hx135_4 := pw_cell_below HB.out hx135_4
           replace hx135_5 := pw_cell_below HB.out hx135_5
           replace hx135_6 := pw_cell_below HB.out hx135_6
           have HR135_3 := Aside0.mk hi135_3
           have HC135_3 := Aside0.mk hl135_3
           clear hi135_3 hl135_3
           have HR135_6 := Aside0.mk hi135_6
           have HC135_6 := Aside0.mk hl135_6
           clear hi135_6 hl135_6
           replace p135 := eq_true p135
           replace q135 := eq_true q135
           refine start_ (n := 8) (S := fun w' => w'.cell? (ad133.add ((x5_1).toNat * 7)) = some (.int .i64 ((rd_T45 l0 x5_1).f0)) ∧ w'.cell? ⟨(ad133.add ((x5_1).toNat * 7)).block, (ad133.add ((x5_1).toNat * 7)).off + 1, none⟩ = some (.int .i64 ((rd_T45 l0 x5_1).f1)) ∧ w'.cell? ⟨(ad133.add ((x5_1).toNat * 7)).block, (ad133.add ((x5_1).toNat * 7)).off + 2, none⟩ = some (.string ((rd_T45 l0 x5_1).f2)) ∧ w'.cell? ⟨(ad133.add ((x5_1).toNat * 7)).block, (ad133.add ((x5_1).toNat * 7)).off + 3, none⟩ = some (.slice A135_3 ((rd_T45 l0 x5_1).f3).length c135_3) ∧ w'.cell? ⟨(ad133.add ((x5_1).toNat * 7)).block, (ad133.add ((x5_1).toNat * 7)).off + 4, none⟩ = some (.string ((rd_T45 l0 x5_1).f4)) ∧ w'.cell? ⟨(ad133.add ((x5_1).toNat * 7)).block, (ad133.add ((x5_1).toNat * 7)).off + 5, none⟩ = some (.int .i64 ((rd_T45 l0 x5_1).f5)) ∧ w'.cell? ⟨(ad133.add ((x5_1).toNat * 7)).block, (ad133.add ((x5_1).toNat * 7)).off + 6, none⟩ = some (.slice A135_6 ((rd_T45 l0 x5_1).f6).length c135_6)) (ds := []) #[false, false, false, false, false, false, false, false] (by kernel_rfl) rfl rfl ⟨(pw_cell_below HB.out hw135_0), (pw_cell_below HB.out hw135_1), (pw_cell_below HB.out hw135_2), (pw_cell_below HB.out hw135_3), (pw_cell_below HB.out hw135_4), (pw_cell_below HB.out hw135_5), (pw_cell_below HB.out hw135_6)⟩ (fun hHeld => ?_); refine with_tabW laws_heldItemS.tab10 laws_heldItemS.bits10 (fun HT_ HW_ => ?_)
           generalize wr.drew = w29 at HB HR135_3 HR135_6 hx135_0 hx135_1 hx135_2 hx135_3 hx135_4 hx135_5 hx135_6 hHeld ⊢
           refine pure_ (i := 0) (N := some 30) (v := ?_) (a' := ?_) #[true, false, false, false, false, false, false, false] rfl rfl (any_of HT_.out (by kernel_rfl)) (fun _ _ _ h => h) (Or.inl ⟨by rfl, ?_⟩) ?_ ?_
           rotate_left
           ·intro w'
            go_simp
            with_reducible rfl
           rotate_left
           ·simp only [Act.put, sa_, sz_, ss_, i64_w, i32_w]
            rfl
           refine pure_ (i := 1) (N := some 31) (v := ?_) (a' := ?_) #[true, true, false, false, false, false, false, false] rfl rfl (any_of HT_.out (by kernel_rfl)) (fun _ _ _ h => h) (Or.inl ⟨by rfl, ?_⟩) ?_ ?_
           rotate_left
           ·intro w'
            go_simp
            with_reducible rfl
           rotate_left
           ·simp only [Act.put, sa_, sz_, ss_, i64_w, i32_w]
            rfl
           refine pure_ (i := 2) (N := some 32) (v := ?_) (a' := ?_) #[true, true, true, false, false, false, false, false] rfl rfl (any_of HT_.out (by kernel_rfl)) (fun _ _ _ h => h) (Or.inl ⟨by rfl, ?_⟩) ?_ ?_
           rotate_left
           ·intro w'
            go_simp
            with_reducible rfl
           rotate_left
           ·simp only [Act.put, sa_, sz_, ss_, i64_w, i32_w]
            rfl
           refine pure_ (i := 3) (N := some 33) (v := ?_) (a' := ?_) #[true, true, true, true, false, false, false, false] rfl rfl (any_of HT_.out (by kernel_rfl)) (fun _ _ _ h => h) (Or.inl ⟨by rfl, ?_⟩) ?_ ?_
           rotate_left
           ·intro w'
            go_simp
            with_reducible rfl
           rotate_left
           ·simp only [Act.put, sa_, sz_, ss_, i64_w, i32_w]
            rfl
           refine pure_ (i := 5) (N := some 35) (v := ?_) (a' := ?_) #[true, true, true, true, false, true, false, false] rfl rfl (any_of HT_.out (by kernel_rfl)) (fun _ _ _ h => h) (Or.inl ⟨by rfl, ?_⟩) ?_ ?_
           rotate_left
           ·intro w'
            go_simp
            with_reducible rfl
           rotate_left
           ·simp only [Act.put, sa_, sz_, ss_, i64_w, i32_w]
            rfl
           refine take_ (i := 4) (N := some 34) (v := ?_) (a' := ?_) #[true, true, true, true, true, true, false, false] rfl rfl (take_ofW HT_.out HW_.out (by kernel_rfl)) (fun _ _ _ h => h) (Or.inl ⟨by rfl, ?_⟩) hHeld ?_ ?_
           rotate_left
           ·rintro w' ⟨s0, s1, s2, s3, s4, s5, s6⟩
            go_simp
            with_reducible rfl
           rotate_left
           ·simp only [Act.put, sa_, sz_, ss_, i64_w, i32_w]
            rfl
           refine one_ (i := 6) (N := some 36) #[true, true, true, true, true, true, true, false] rfl rfl (one_of HT_.out (by kernel_rfl)) (by decide) (fun K hK => ?_)
           refine goes_ Try.func47 (by kernel_rfl) rfl #[.int .i64 (wrap64 ((wrap64 (x1_1 + 1)) + 1))] (by rfl) rfl rfl (by (try simp only [List.map_toArray, List.map_cons, List.map_nil]); first | done | rfl | (simp only [List.length_drop, List.length_take]; rfl)) ?_
           with_reducible refine (laws_markText.calls k1 (wrap64 ((wrap64 (x1_1 + 1)) + 1)) t136 _ A7.out).mono ?_
           rintro e w30 ⟨rfl, hb⟩
           refine ⟨_, rfl, ?_⟩
           have n0_ := Aside0.mk (below_step (by repeat (first | (with_reducible first | exact HB.out | apply ba_ | apply bn_ | apply b1_) | exact HB.out)) hb)
           clear HB
           have HB := n0_
           clear n0_
           (try clear hb)
           (try clear hb2)
           (try clear hk)
           (try clear hi)
           refine hK.out _ _ ⟨(pw_cell_below HB.out hw135_0), (pw_cell_below HB.out hw135_1), (pw_cell_below HB.out hw135_2), (pw_cell_below HB.out hw135_3), (pw_cell_below HB.out hw135_4), (pw_cell_below HB.out hw135_5), (pw_cell_below HB.out hw135_6)⟩ (fun hHeld => ?_)
           clear hK K
           refine norm_ (a' := ?_) ?_ ?_
           rotate_left
           ·show Act.put _ (some 36) _ = _
            simp only [Act.put, sa_, sz_, ss_, i64_w, i32_w]
            rfl
           refine pure_ (i := 7) (N := some 37) (v := ?_) (a' := ?_) #[true, true, true, true, true, true, true, true] rfl rfl (any_of HT_.out (by kernel_rfl)) (fun _ _ _ h => h) (Or.inl ⟨by rfl, ?_⟩) ?_ ?_
           rotate_left
           ·intro w'
            go_simp
            with_reducible rfl
           rotate_left
           ·simp only [Act.put, sa_, sz_, ss_, i64_w, i32_w]
            rfl
           refine done_ (done_of HT_.out (by kernel_rfl)) ?_
           have p137 : 0 ≤ (x5_1 : Int) := of_decide_eq_true (by first | (with_reducible assumption) | assumption)
           have q137 : x5_1 < (l0.length : Int) := of_decide_eq_true (by first | (with_reducible assumption) | assumption)
           ((try clear hHeld); (try clear hx133_0); (try clear hx133_1); (try clear hx133_2); (try clear hx133_3); (try clear hx133_4); (try clear hx133_5); (try clear hx133_6); (try clear hx134_0); (try clear hx134_1); (try clear hx134_2); (try clear hx134_3); (try clear hx134_4); (try clear hx134_5); (try clear hx134_6); (try clear hx135_0); (try clear hx135_1); (try clear hx135_2); (try clear hx135_3); (try clear hx135_4); (try clear hx135_5); (try clear hx135_6); (try clear hx137_0); (try clear hx137_1); (try clear hx137_2); (try clear hx137_3); (try clear hx137_4); (try clear hx137_5); (try clear hx137_6)) -- MENDOPEN
           obtain ⟨ad137, A137_3, c137_3, A137_6, c137_6, e137, hx137_0, hx137_1, hx137_2, hx137_3, hx137_4, hx137_5, hx137_6, hl137_3, hi137_3, hl137_6, hi137_6⟩ := at_T45 HR0.out x5_1 p137 q137
           obtain rfl : ad133 = ad137 := (by injection e137)
           replace hx137_0 := pw_cell_below HB.out hx137_0
           replace hx137_1 := pw_cell_below HB.out hx137_1
           replace hx137_2 := pw_cell_below HB.out hx137_2
           replace hx137_3 := pw_cell_below HB.out hx137_3
           replace hx137_4 := pw_cell_below HB.out hx137_4
           replace hx137_5 := pw_cell_below HB.out hx137_5
           replace hx137_6 := pw_cell_below HB.out hx137_6
           have HR137_3 := Aside0.mk hi137_3
           have HC137_3 := Aside0.mk hl137_3
           clear hi137_3 hl137_3
           have HR137_6 := Aside0.mk hi137_6
           have HC137_6 := Aside0.mk hl137_6
           clear hi137_6 hl137_6
           replace p137 := eq_true p137
           replace q137 := eq_true q137
           try go_wp2_with (first | ((with_reducible refine gate_callee (f := 49) rfl ?_); refine goesL_ (some 46) rfl rfl Try.func49 (by kernel_rfl) rfl #[.slice A137_3 ((rd_T45 l0 x5_1).f3).length c137_3, .int .i64 (wrap64 ((wrap64 ((wrap64 (x1_1 + 1)) + 1)) + 1))] rfl (by (try simp only [List.map_toArray, List.map_cons, List.map_nil]); first | done | rfl | (simp only [List.length_drop, List.length_take]; rfl)) ?_; (with_reducible refine (laws_heldAttrS.calls k1 _ _ ((rd_T45 l0 x5_1).f3) (wrap64 ((wrap64 ((wrap64 (x1_1 + 1)) + 1)) + 1)) t138 _ ?side1 ?side2 A9.out).mono ?_); (case side1 => repeat (first | exact (Kd.C_below HR137_3.out HB.out) | (with_reducible refine ca_ ?_ _) | (with_reducible refine cn_ ?_ _) | (with_reducible refine cd_ ?_))); (case side2 => exact HC137_3.out); rintro e w31 ⟨rfl, hb⟩; refine ⟨_, rfl, ?_⟩; have n0_ := Aside0.mk (below_step (by repeat (first | (with_reducible first | exact HB.out | apply ba_ | apply bn_ | apply b1_) | exact HB.out)) hb); clear HB; have HB := n0_; clear n0_; (try clear hb); (try clear hb2); (try clear hk); (try clear hi)))
           have n0_ := Aside0.mk (b1_ HB.out)
           clear HB
           have HB := n0_
           clear n0_
           have p139 : 0 ≤ (x5_1 : Int) := of_decide_eq_true (by first | (with_reducible assumption) | assumption)
           have q139 : x5_1 < (l0.length : Int) := of_decide_eq_true (by first | (with_reducible assumption) | assumption)
           ((try clear hHeld); (try clear hx133_0); (try clear hx133_1); (try clear hx133_2); (try clear hx133_3); (try clear hx133_4); (try clear hx133_5); (try clear hx133_6); (try clear hx134_0); (try clear hx134_1); (try clear hx134_2); (try clear hx134_3); (try clear hx134_4); (try clear hx134_5); (try clear hx134_6); (try clear hx135_0); (try clear hx135_1); (try clear hx135_2); (try clear hx135_3); (try clear hx135_4); (try clear hx135_5); (try clear hx135_6); (try clear hx137_0); (try clear hx137_1); (try clear hx137_2); (try clear hx137_3); (try clear hx137_4); (try clear hx137_5); (try clear hx137_6)) -- MENDOPEN
           obtain ⟨ad139, A139_3, c139_3, A139_6, c139_6, e139, hx139_0, hx139_1, hx139_2, hx139_3, hx139_4, hx139_5, hx139_6, hl139_3, hi139_3, hl139_6, hi139_6⟩ := at_T45 HR0.out x5_1 p139 q139
           have hw139_6 := hx139_6
           have hw139_5 := hx139_5
           have hw139_4 := hx139_4
           have hw139_3 := hx139_3
           have hw139_2 := hx139_2
           have hw139_1 := hx139_1
           have hw139_0 := hx139_0
           obtain rfl : ad133 = ad139 := (by injection e139)
           replace hx139_0 := pw_cell_below HB.out hx139_0
           replace hx139_1 := pw_cell_below HB.out hx139_1
           replace hx139_2 := pw_cell_below HB.out hx139_2
           replace hx139_3 := pw_cell_below HB.out hx139_3
           replace hx139_4 := pw_cell_below HB.out hx139_4
           replace hx139_5 := pw_cell_below HB.out hx139_5
           replace hx139_6 := pw_cell_below HB.out hx139_6
           have HR139_3 := Aside0.mk hi139_3
           have HC139_3 := Aside0.mk hl139_3
           clear hi139_3 hl139_3
           have HR139_6 := Aside0.mk hi139_6
           have HC139_6 := Aside0.mk hl139_6
           clear hi139_6 hl139_6
           replace p139 := eq_true p139
           replace q139 := eq_true q139
           refine start_ (n := 8) (S := fun w' => w'.cell? (ad133.add ((x5_1).toNat * 7)) = some (.int .i64 ((rd_T45 l0 x5_1).f0)) ∧ w'.cell? ⟨(ad133.add ((x5_1).toNat * 7)).block, (ad133.add ((x5_1).toNat * 7)).off + 1, none⟩ = some (.int .i64 ((rd_T45 l0 x5_1).f1)) ∧ w'.cell? ⟨(ad133.add ((x5_1).toNat * 7)).block, (ad133.add ((x5_1).toNat * 7)).off + 2, none⟩ = some (.string ((rd_T45 l0 x5_1).f2)) ∧ w'.cell? ⟨(ad133.add ((x5_1).toNat * 7)).block, (ad133.add ((x5_1).toNat * 7)).off + 3, none⟩ = some (.slice A139_3 ((rd_T45 l0 x5_1).f3).length c139_3) ∧ w'.cell? ⟨(ad133.add ((x5_1).toNat * 7)).block, (ad133.add ((x5_1).toNat * 7)).off + 4, none⟩ = some (.string ((rd_T45 l0 x5_1).f4)) ∧ w'.cell? ⟨(ad133.add ((x5_1).toNat * 7)).block, (ad133.add ((x5_1).toNat * 7)).off + 5, none⟩ = some (.int .i64 ((rd_T45 l0 x5_1).f5)) ∧ w'.cell? ⟨(ad133.add ((x5_1).toNat * 7)).block, (ad133.add ((x5_1).toNat * 7)).off + 6, none⟩ = some (.slice A139_6 ((rd_T45 l0 x5_1).f6).length c139_6)) (ds := []) #[false, false, false, false, false, false, false, false] (by kernel_rfl) rfl rfl ⟨(pw_cell_below HB.out hw139_0), (pw_cell_below HB.out hw139_1), (pw_cell_below HB.out hw139_2), (pw_cell_below HB.out hw139_3), (pw_cell_below HB.out hw139_4), (pw_cell_below HB.out hw139_5), (pw_cell_below HB.out hw139_6)⟩ (fun hHeld => ?_); refine with_tabW laws_heldItemS.tab16 laws_heldItemS.bits16 (fun HT_ HW_ => ?_)
           generalize w31.drew = w32 at HB HR139_3 HR139_6 hx139_0 hx139_1 hx139_2 hx139_3 hx139_4 hx139_5 hx139_6 hHeld ⊢
           refine pure_ (i := 0) (N := some 49) (v := ?_) (a' := ?_) #[true, false, false, false, false, false, false, false] rfl rfl (any_of HT_.out (by kernel_rfl)) (fun _ _ _ h => h) (Or.inl ⟨by rfl, ?_⟩) ?_ ?_
           rotate_left
           ·intro w'
            go_simp
            with_reducible rfl
           rotate_left
           ·simp only [Act.put, sa_, sz_, ss_, i64_w, i32_w]
            rfl
           refine pure_ (i := 1) (N := some 50) (v := ?_) (a' := ?_) #[true, true, false, false, false, false, false, false] rfl rfl (any_of HT_.out (by kernel_rfl)) (fun _ _ _ h => h) (Or.inl ⟨by rfl, ?_⟩) ?_ ?_
           rotate_left
           ·intro w'
            go_simp
            with_reducible rfl
           rotate_left
           ·simp only [Act.put, sa_, sz_, ss_, i64_w, i32_w]
            rfl
           refine pure_ (i := 2) (N := some 51) (v := ?_) (a' := ?_) #[true, true, true, false, false, false, false, false] rfl rfl (any_of HT_.out (by kernel_rfl)) (fun _ _ _ h => h) (Or.inl ⟨by rfl, ?_⟩) ?_ ?_
           rotate_left
           ·intro w'
            go_simp
            with_reducible rfl
           rotate_left
           ·simp only [Act.put, sa_, sz_, ss_, i64_w, i32_w]
            rfl
           refine pure_ (i := 3) (N := some 52) (v := ?_) (a' := ?_) #[true, true, true, true, false, false, false, false] rfl rfl (any_of HT_.out (by kernel_rfl)) (fun _ _ _ h => h) (Or.inl ⟨by rfl, ?_⟩) ?_ ?_
           rotate_left
           ·intro w'
            go_simp
            with_reducible rfl
           rotate_left
           ·simp only [Act.put, sa_, sz_, ss_, i64_w, i32_w]
            rfl
           refine pure_ (i := 5) (N := some 54) (v := ?_) (a' := ?_) #[true, true, true, true, false, true, false, false] rfl rfl (any_of HT_.out (by kernel_rfl)) (fun _ _ _ h => h) (Or.inl ⟨by rfl, ?_⟩) ?_ ?_
           rotate_left
           ·intro w'
            go_simp
            with_reducible rfl
           rotate_left
           ·simp only [Act.put, sa_, sz_, ss_, i64_w, i32_w]
            rfl
           refine take_ (i := 4) (N := some 53) (v := ?_) (a' := ?_) #[true, true, true, true, true, true, false, false] rfl rfl (take_ofW HT_.out HW_.out (by kernel_rfl)) (fun _ _ _ h => h) (Or.inl ⟨by rfl, ?_⟩) hHeld ?_ ?_
           rotate_left
           ·rintro w' ⟨s0, s1, s2, s3, s4, s5, s6⟩
            go_simp
            with_reducible rfl
           rotate_left
           ·simp only [Act.put, sa_, sz_, ss_, i64_w, i32_w]
            rfl
           refine one_ (i := 6) (N := some 55) #[true, true, true, true, true, true, true, false] rfl rfl (one_of HT_.out (by kernel_rfl)) (by decide) (fun K hK => ?_)
           refine goes_ Try.func47 (by kernel_rfl) rfl #[.int .i64 t138] (by rfl) rfl rfl (by (try simp only [List.map_toArray, List.map_cons, List.map_nil]); first | done | rfl | (simp only [List.length_drop, List.length_take]; rfl)) ?_
           with_reducible refine (laws_markText.calls k1 t138 t140 _ A14.out).mono ?_
           rintro e w33 ⟨rfl, hb⟩
           refine ⟨_, rfl, ?_⟩
           have n0_ := Aside0.mk (below_step (by repeat (first | (with_reducible first | exact HB.out | apply ba_ | apply bn_ | apply b1_) | exact HB.out)) hb)
           clear HB
           have HB := n0_
           clear n0_
           (try clear hb)
           (try clear hb2)
           (try clear hk)
           (try clear hi)
           refine hK.out _ _ ⟨(pw_cell_below HB.out hw139_0), (pw_cell_below HB.out hw139_1), (pw_cell_below HB.out hw139_2), (pw_cell_below HB.out hw139_3), (pw_cell_below HB.out hw139_4), (pw_cell_below HB.out hw139_5), (pw_cell_below HB.out hw139_6)⟩ (fun hHeld => ?_)
           clear hK K
           refine norm_ (a' := ?_) ?_ ?_
           rotate_left
           ·show Act.put _ (some 55) _ = _
            simp only [Act.put, sa_, sz_, ss_, i64_w, i32_w]
            rfl
           refine pure_ (i := 7) (N := some 56) (v := ?_) (a' := ?_) #[true, true, true, true, true, true, true, true] rfl rfl (any_of HT_.out (by kernel_rfl)) (fun _ _ _ h => h) (Or.inl ⟨by rfl, ?_⟩) ?_ ?_
           rotate_left
           ·intro w'
            go_simp
            with_reducible rfl
           rotate_left
           ·simp only [Act.put, sa_, sz_, ss_, i64_w, i32_w]
            rfl
           refine done_ (done_of HT_.out (by kernel_rfl)) ?_
           have p141 : 0 ≤ (x5_1 : Int) := of_decide_eq_true (by first | (with_reducible assumption) | assumption)
           have q141 : x5_1 < (l0.length : Int) := of_decide_eq_true (by first | (with_reducible assumption) | assumption)
           ((try clear hHeld); (try clear hx133_0); (try clear hx133_1); (try clear hx133_2); (try clear hx133_3); (try clear hx133_4); (try clear hx133_5); (try clear hx133_6); (try clear hx134_0); (try clear hx134_1); (try clear hx134_2); (try clear hx134_3); (try clear hx134_4); (try clear hx134_5); (try clear hx134_6); (try clear hx135_0); (try clear hx135_1); (try clear hx135_2); (try clear hx135_3); (try clear hx135_4); (try clear hx135_5); (try clear hx135_6); (try clear hx137_0); (try clear hx137_1); (try clear hx137_2); (try clear hx137_3); (try clear hx137_4); (try clear hx137_5); (try clear hx137_6); (try clear hx139_0); (try clear hx139_1); (try clear hx139_2); (try clear hx139_3); (try clear hx139_4); (try clear hx139_5); (try clear hx139_6)) -- MENDOPEN
           obtain ⟨ad141, A141_3, c141_3, A141_6, c141_6, e141, hx141_0, hx141_1, hx141_2, hx141_3, hx141_4, hx141_5, hx141_6, hl141_3, hi141_3, hl141_6, hi141_6⟩ := at_T45 HR0.out x5_1 p141 q141
           obtain rfl : ad133 = ad141 := (by injection e141)
           replace hx141_0 := pw_cell_below HB.out hx141_0
           replace hx141_1 := pw_cell_below HB.out hx141_1
           replace hx141_2 := pw_cell_below HB.out hx141_2
           replace hx141_3 := pw_cell_below HB.out hx141_3
           replace hx141_4 := pw_cell_below HB.out hx141_4
           replace hx141_5 := pw_cell_below HB.out hx141_5
           replace hx141_6 := pw_cell_below HB.out hx141_6
           have HR141_3 := Aside0.mk hi141_3
           have HC141_3 := Aside0.mk hl141_3
           clear hi141_3 hl141_3
           have HR141_6 := Aside0.mk hi141_6
           have HC141_6 := Aside0.mk hl141_6
           clear hi141_6 hl141_6
           replace p141 := eq_true p141
           replace q141 := eq_true q141
           try go_wp2
           go_ret
           exact ⟨by first | rfl | (simp [errW_none, errW_some] <;> rfl) | (simp [*, errW_none, errW_some] <;> rfl), by repeat (first | (with_reducible first | exact HB.out | apply ba_ | apply bn_ | apply b1_) | exact HB.out)⟩
         ·rw [if_neg c15] at H
          have c15b0 : (((rd_T45 l0 x5_1).f4).toList == t140.toList) = false := beq_eq_false_iff_ne.mpr c15
          have c15b1 : (((rd_T45 l0 x5_1).f4).toList != t140.toList) = true := bne_iff_ne.mpr c15
          obtain rfl := Option.some.inj H
          have p133 : 0 ≤ (x5_1 : Int) := of_decide_eq_true (by first | (with_reducible assumption) | assumption)
          have q133 : x5_1 < (l0.length : Int) := of_decide_eq_true (by first | (with_reducible assumption) | assumption)
          ((try clear hHeld); (try clear hx133_0); (try clear hx133_1); (try clear hx133_2); (try clear hx133_3); (try clear hx133_4); (try clear hx133_5); (try clear hx133_6); (try clear hx134_0); (try clear hx134_1); (try clear hx134_2); (try clear hx134_3); (try clear hx134_4); (try clear hx134_5); (try clear hx134_6); (try clear hx135_0); (try clear hx135_1); (try clear hx135_2); (try clear hx135_3); (try clear hx135_4); (try clear hx135_5); (try clear hx135_6); (try clear hx137_0); (try clear hx137_1); (try clear hx137_2); (try clear hx137_3); (try clear hx137_4); (try clear hx137_5); (try clear hx137_6)) -- MENDOPEN
          obtain ⟨ad133, A133_3, c133_3, A133_6, c133_6, e133, hx133_0, hx133_1, hx133_2, hx133_3, hx133_4, hx133_5, hx133_6, hl133_3, hi133_3, hl133_6, hi133_6⟩ := at_T45 HR0.out x5_1 p133 q133
          cases e133
          replace hx133_0 := pw_cell_below HB.out hx133_0
          replace hx133_1 := pw_cell_below HB.out hx133_1
          replace hx133_2 := pw_cell_below HB.out hx133_2
          replace hx133_3 := pw_cell_below HB.out hx133_3
          replace hx133_4 := pw_cell_below HB.out hx133_4
          replace hx133_5 := pw_cell_below HB.out hx133_5
          replace hx133_6 := pw_cell_below HB.out hx133_6
          have HR133_3 := Aside0.mk hi133_3
          have HC133_3 := Aside0.mk hl133_3
          clear hi133_3 hl133_3
          have HR133_6 := Aside0.mk hi133_6
          have HC133_6 := Aside0.mk hl133_6
          clear hi133_6 hl133_6
          replace p133 := eq_true p133
          replace q133 := eq_true q133
          have p134 : 0 ≤ (x5_1 : Int) := of_decide_eq_true (by first | (with_reducible assumption) | assumption)
          have q134 : x5_1 < (l0.length : Int) := of_decide_eq_true (by first | (with_reducible assumption) | assumption)
          obtain ⟨ad134, A134_3, c134_3, A134_6, c134_6, e134, hx134_0, hx134_1, hx134_2, hx134_3, hx134_4, hx134_5, hx134_6, hl134_3, hi134_3, hl134_6, hi134_6⟩ := at_T45 HR0.out x5_1 p134 q134
          obtain rfl : ad133 = ad134 := (by injection e134)
          replace hx134_0 := pw_cell_below HB.out hx134_0
          replace hx134_1 := pw_cell_below HB.out hx134_1
          replace hx134_2 := pw_cell_below HB.out hx134_2
          replace hx134_3 := pw_cell_below HB.out hx134_3
          replace hx134_4 := pw_cell_below HB.out hx134_4
          replace hx134_5 := pw_cell_below HB.out hx134_5
          replace hx134_6 := pw_cell_below HB.out hx134_6
          have HR134_3 := Aside0.mk hi134_3
          have HC134_3 := Aside0.mk hl134_3
          clear hi134_3 hl134_3
          have HR134_6 := Aside0.mk hi134_6
          have HC134_6 := Aside0.mk hl134_6
          clear hi134_6 hl134_6
          replace p134 := eq_true p134
          replace q134 := eq_true q134
          have ea_ := Option.some.inj (hx133_3.symm.trans hx134_3)
          injection ea_ with ea_ en_ ec_
          subst ea_
          subst ec_
          clear en_
          have ea_ := Option.some.inj (hx133_6.symm.trans hx134_6)
          injection ea_ with ea_ en_ ec_
          subst ea_
          subst ec_
          clear en_
          try go_wp2
          have n0_ := Aside0.mk (b1_ HB.out)
          clear HB
          have HB := n0_
          clear n0_
          have p135 : 0 ≤ (x5_1 : Int) := of_decide_eq_true (by first | (with_reducible assumption) | assumption)
          have q135 : x5_1 < (l0.length : Int) := of_decide_eq_true (by first | (with_reducible assumption) | assumption)
          ((try clear hHeld); (try clear hx133_0); (try clear hx133_1); (try clear hx133_2); (try clear hx133_3); (try clear hx133_4); (try clear hx133_5); (try clear hx133_6); (try clear hx134_0); (try clear hx134_1); (try clear hx134_2); (try clear hx134_3); (try clear hx134_4); (try clear hx134_5); (try clear hx134_6); (try clear hx135_0); (try clear hx135_1); (try clear hx135_2); (try clear hx135_3); (try clear hx135_4); (try clear hx135_5); (try clear hx135_6); (try clear hx137_0); (try clear hx137_1); (try clear hx137_2); (try clear hx137_3); (try clear hx137_4); (try clear hx137_5); (try clear hx137_6)) -- MENDOPEN
          obtain ⟨ad135, A135_3, c135_3, A135_6, c135_6, e135, hx135_0, hx135_1, hx135_2, hx135_3, hx135_4, hx135_5, hx135_6, hl135_3, hi135_3, hl135_6, hi135_6⟩ := at_T45 HR0.out x5_1 p135 q135
          have hw135_6 := hx135_6
          have hw135_5 := hx135_5
          have hw135_4 := hx135_4
          have hw135_3 := hx135_3
          have hw135_2 := hx135_2
          have hw135_1 := hx135_1
          have hw135_0 := hx135_0
          obtain rfl : ad133 = ad135 := (by injection e135)
          replace hx135_0 := pw_cell_below HB.out hx135_0
          replace hx135_1 := pw_cell_below HB.out hx135_1
          replace hx135_2 := pw_cell_below HB.out hx135_2
          replace hx135_3 := pw_cell_below HB.out hx135_3
          replace hx135_4 := pw_cell_below HB.out hx135_4
          replace hx135_5 := pw_cell_below HB.out hx135_5
          replace hx135_6 := pw_cell_below HB.out hx135_6
          have HR135_3 := Aside0.mk hi135_3
          have HC135_3 := Aside0.mk hl135_3
          clear hi135_3 hl135_3
          have HR135_6 := Aside0.mk hi135_6
          have HC135_6 := Aside0.mk hl135_6
          clear hi135_6 hl135_6
          replace p135 := eq_true p135
          replace q135 := eq_true q135
          refine start_ (n := 8) (S := fun w' => w'.cell? (ad133.add ((x5_1).toNat * 7)) = some (.int .i64 ((rd_T45 l0 x5_1).f0)) ∧ w'.cell? ⟨(ad133.add ((x5_1).toNat * 7)).block, (ad133.add ((x5_1).toNat * 7)).off + 1, none⟩ = some (.int .i64 ((rd_T45 l0 x5_1).f1)) ∧ w'.cell? ⟨(ad133.add ((x5_1).toNat * 7)).block, (ad133.add ((x5_1).toNat * 7)).off + 2, none⟩ = some (.string ((rd_T45 l0 x5_1).f2)) ∧ w'.cell? ⟨(ad133.add ((x5_1).toNat * 7)).block, (ad133.add ((x5_1).toNat * 7)).off + 3, none⟩ = some (.slice A135_3 ((rd_T45 l0 x5_1).f3).length c135_3) ∧ w'.cell? ⟨(ad133.add ((x5_1).toNat * 7)).block, (ad133.add ((x5_1).toNat * 7)).off + 4, none⟩ = some (.string ((rd_T45 l0 x5_1).f4)) ∧ w'.cell? ⟨(ad133.add ((x5_1).toNat * 7)).block, (ad133.add ((x5_1).toNat * 7)).off + 5, none⟩ = some (.int .i64 ((rd_T45 l0 x5_1).f5)) ∧ w'.cell? ⟨(ad133.add ((x5_1).toNat * 7)).block, (ad133.add ((x5_1).toNat * 7)).off + 6, none⟩ = some (.slice A135_6 ((rd_T45 l0 x5_1).f6).length c135_6)) (ds := []) #[false, false, false, false, false, false, false, false] (by kernel_rfl) rfl rfl ⟨(pw_cell_below HB.out hw135_0), (pw_cell_below HB.out hw135_1), (pw_cell_below HB.out hw135_2), (pw_cell_below HB.out hw135_3), (pw_cell_below HB.out hw135_4), (pw_cell_below HB.out hw135_5), (pw_cell_below HB.out hw135_6)⟩ (fun hHeld => ?_); refine with_tabW laws_heldItemS.tab10 laws_heldItemS.bits10 (fun HT_ HW_ => ?_)
          generalize wr.drew = w34 at HB HR135_3 HR135_6 hx135_0 hx135_1 hx135_2 hx135_3 hx135_4 hx135_5 hx135_6 hHeld ⊢
          refine pure_ (i := 0) (N := some 30) (v := ?_) (a' := ?_) #[true, false, false, false, false, false, false, false] rfl rfl (any_of HT_.out (by kernel_rfl)) (fun _ _ _ h => h) (Or.inl ⟨by rfl, ?_⟩) ?_ ?_
          rotate_left
          ·intro w'
           go_simp
           with_reducible rfl
          rotate_left
          ·simp only [Act.put, sa_, sz_, ss_, i64_w, i32_w]
           rfl
          refine pure_ (i := 1) (N := some 31) (v := ?_) (a' := ?_) #[true, true, false, false, false, false, false, false] rfl rfl (any_of HT_.out (by kernel_rfl)) (fun _ _ _ h => h) (Or.inl ⟨by rfl, ?_⟩) ?_ ?_
          rotate_left
          ·intro w'
           go_simp
           with_reducible rfl
          rotate_left
          ·simp only [Act.put, sa_, sz_, ss_, i64_w, i32_w]
           rfl
          refine pure_ (i := 2) (N := some 32) (v := ?_) (a' := ?_) #[true, true, true, false, false, false, false, false] rfl rfl (any_of HT_.out (by kernel_rfl)) (fun _ _ _ h => h) (Or.inl ⟨by rfl, ?_⟩) ?_ ?_
          rotate_left
          ·intro w'
           go_simp
           with_reducible rfl
          rotate_left
          ·simp only [Act.put, sa_, sz_, ss_, i64_w, i32_w]
           rfl
          refine pure_ (i := 3) (N := some 33) (v := ?_) (a' := ?_) #[true, true, true, true, false, false, false, false] rfl rfl (any_of HT_.out (by kernel_rfl)) (fun _ _ _ h => h) (Or.inl ⟨by rfl, ?_⟩) ?_ ?_
          rotate_left
          ·intro w'
           go_simp
           with_reducible rfl
          rotate_left
          ·simp only [Act.put, sa_, sz_, ss_, i64_w, i32_w]
           rfl
          refine pure_ (i := 5) (N := some 35) (v := ?_) (a' := ?_) #[true, true, true, true, false, true, false, false] rfl rfl (any_of HT_.out (by kernel_rfl)) (fun _ _ _ h => h) (Or.inl ⟨by rfl, ?_⟩) ?_ ?_
          rotate_left
          ·intro w'
           go_simp
           with_reducible rfl
          rotate_left
          ·simp only [Act.put, sa_, sz_, ss_, i64_w, i32_w]
           rfl
          refine take_ (i := 4) (N := some 34) (v := ?_) (a' := ?_) #[true, true, true, true, true, true, false, false] rfl rfl (take_ofW HT_.out HW_.out (by kernel_rfl)) (fun _ _ _ h => h) (Or.inl ⟨by rfl, ?_⟩) hHeld ?_ ?_
          rotate_left
          ·rintro w' ⟨s0, s1, s2, s3, s4, s5, s6⟩
           go_simp
           with_reducible rfl
          rotate_left
          ·simp only [Act.put, sa_, sz_, ss_, i64_w, i32_w]
           rfl
          refine one_ (i := 6) (N := some 36) #[true, true, true, true, true, true, true, false] rfl rfl (one_of HT_.out (by kernel_rfl)) (by decide) (fun K hK => ?_)
          refine goes_ Try.func47 (by kernel_rfl) rfl #[.int .i64 (wrap64 ((wrap64 (x1_1 + 1)) + 1))] (by rfl) rfl rfl (by (try simp only [List.map_toArray, List.map_cons, List.map_nil]); first | done | rfl | (simp only [List.length_drop, List.length_take]; rfl)) ?_
          with_reducible refine (laws_markText.calls k1 (wrap64 ((wrap64 (x1_1 + 1)) + 1)) t136 _ A7.out).mono ?_
          rintro e w35 ⟨rfl, hb⟩
          refine ⟨_, rfl, ?_⟩
          have n0_ := Aside0.mk (below_step (by repeat (first | (with_reducible first | exact HB.out | apply ba_ | apply bn_ | apply b1_) | exact HB.out)) hb)
          clear HB
          have HB := n0_
          clear n0_
          (try clear hb)
          (try clear hb2)
          (try clear hk)
          (try clear hi)
          refine hK.out _ _ ⟨(pw_cell_below HB.out hw135_0), (pw_cell_below HB.out hw135_1), (pw_cell_below HB.out hw135_2), (pw_cell_below HB.out hw135_3), (pw_cell_below HB.out hw135_4), (pw_cell_below HB.out hw135_5), (pw_cell_below HB.out hw135_6)⟩ (fun hHeld => ?_)
          clear hK K
          refine norm_ (a' := ?_) ?_ ?_
          rotate_left
          ·show Act.put _ (some 36) _ = _
           simp only [Act.put, sa_, sz_, ss_, i64_w, i32_w]
           rfl
          refine pure_ (i := 7) (N := some 37) (v := ?_) (a' := ?_) #[true, true, true, true, true, true, true, true] rfl rfl (any_of HT_.out (by kernel_rfl)) (fun _ _ _ h => h) (Or.inl ⟨by rfl, ?_⟩) ?_ ?_
          rotate_left
          ·intro w'
           go_simp
           with_reducible rfl
          rotate_left
          ·simp only [Act.put, sa_, sz_, ss_, i64_w, i32_w]
           rfl
          refine done_ (done_of HT_.out (by kernel_rfl)) ?_
          have p137 : 0 ≤ (x5_1 : Int) := of_decide_eq_true (by first | (with_reducible assumption) | assumption)
          have q137 : x5_1 < (l0.length : Int) := of_decide_eq_true (by first | (with_reducible assumption) | assumption)
          ((try clear hHeld); (try clear hx133_0); (try clear hx133_1); (try clear hx133_2); (try clear hx133_3); (try clear hx133_4); (try clear hx133_5); (try clear hx133_6); (try clear hx134_0); (try clear hx134_1); (try clear hx134_2); (try clear hx134_3); (try clear hx134_4); (try clear hx134_5); (try clear hx134_6); (try clear hx135_0); (try clear hx135_1); (try clear hx135_2); (try clear hx135_3); (try clear hx135_4); (try clear hx135_5); (try clear hx135_6); (try clear hx137_0); (try clear hx137_1); (try clear hx137_2); (try clear hx137_3); (try clear hx137_4); (try clear hx137_5); (try clear hx137_6)) -- MENDOPEN
          obtain ⟨ad137, A137_3, c137_3, A137_6, c137_6, e137, hx137_0, hx137_1, hx137_2, hx137_3, hx137_4, hx137_5, hx137_6, hl137_3, hi137_3, hl137_6, hi137_6⟩ := at_T45 HR0.out x5_1 p137 q137
          obtain rfl : ad133 = ad137 := (by injection e137)
          replace hx137_0 := pw_cell_below HB.out hx137_0
          replace hx137_1 := pw_cell_below HB.out hx137_1
          replace hx137_2 := pw_cell_below HB.out hx137_2
          replace hx137_3 := pw_cell_below HB.out hx137_3
          replace hx137_4 := pw_cell_below HB.out hx137_4
          replace hx137_5 := pw_cell_below HB.out hx137_5
          replace hx137_6 := pw_cell_below HB.out hx137_6
          have HR137_3 := Aside0.mk hi137_3
          have HC137_3 := Aside0.mk hl137_3
          clear hi137_3 hl137_3
          have HR137_6 := Aside0.mk hi137_6
          have HC137_6 := Aside0.mk hl137_6
          clear hi137_6 hl137_6
          replace p137 := eq_true p137
          replace q137 := eq_true q137
          try go_wp2_with (first | ((with_reducible refine gate_callee (f := 49) rfl ?_); refine goesL_ (some 46) rfl rfl Try.func49 (by kernel_rfl) rfl #[.slice A137_3 ((rd_T45 l0 x5_1).f3).length c137_3, .int .i64 (wrap64 ((wrap64 ((wrap64 (x1_1 + 1)) + 1)) + 1))] rfl (by (try simp only [List.map_toArray, List.map_cons, List.map_nil]); first | done | rfl | (simp only [List.length_drop, List.length_take]; rfl)) ?_; (with_reducible refine (laws_heldAttrS.calls k1 _ _ ((rd_T45 l0 x5_1).f3) (wrap64 ((wrap64 ((wrap64 (x1_1 + 1)) + 1)) + 1)) t138 _ ?side1 ?side2 A9.out).mono ?_); (case side1 => repeat (first | exact (Kd.C_below HR137_3.out HB.out) | (with_reducible refine ca_ ?_ _) | (with_reducible refine cn_ ?_ _) | (with_reducible refine cd_ ?_))); (case side2 => exact HC137_3.out); rintro e w36 ⟨rfl, hb⟩; refine ⟨_, rfl, ?_⟩; have n0_ := Aside0.mk (below_step (by repeat (first | (with_reducible first | exact HB.out | apply ba_ | apply bn_ | apply b1_) | exact HB.out)) hb); clear HB; have HB := n0_; clear n0_; (try clear hb); (try clear hb2); (try clear hk); (try clear hi)))
          have n0_ := Aside0.mk (b1_ HB.out)
          clear HB
          have HB := n0_
          clear n0_
          have p139 : 0 ≤ (x5_1 : Int) := of_decide_eq_true (by first | (with_reducible assumption) | assumption)
          have q139 : x5_1 < (l0.length : Int) := of_decide_eq_true (by first | (with_reducible assumption) | assumption)
          ((try clear hHeld); (try clear hx133_0); (try clear hx133_1); (try clear hx133_2); (try clear hx133_3); (try clear hx133_4); (try clear hx133_5); (try clear hx133_6); (try clear hx134_0); (try clear hx134_1); (try clear hx134_2); (try clear hx134_3); (try clear hx134_4); (try clear hx134_5); (try clear hx134_6); (try clear hx135_0); (try clear hx135_1); (try clear hx135_2); (try clear hx135_3); (try clear hx135_4); (try clear hx135_5); (try clear hx135_6); (try clear hx137_0); (try clear hx137_1); (try clear hx137_2); (try clear hx137_3); (try clear hx137_4); (try clear hx137_5); (try clear hx137_6)) -- MENDOPEN
          obtain ⟨ad139, A139_3, c139_3, A139_6, c139_6, e139, hx139_0, hx139_1, hx139_2, hx139_3, hx139_4, hx139_5, hx139_6, hl139_3, hi139_3, hl139_6, hi139_6⟩ := at_T45 HR0.out x5_1 p139 q139
          have hw139_6 := hx139_6
          have hw139_5 := hx139_5
          have hw139_4 := hx139_4
          have hw139_3 := hx139_3
          have hw139_2 := hx139_2
          have hw139_1 := hx139_1
          have hw139_0 := hx139_0
          obtain rfl : ad133 = ad139 := (by injection e139)
          replace hx139_0 := pw_cell_below HB.out hx139_0
          replace hx139_1 := pw_cell_below HB.out hx139_1
          replace hx139_2 := pw_cell_below HB.out hx139_2
          replace hx139_3 := pw_cell_below HB.out hx139_3
          replace hx139_4 := pw_cell_below HB.out hx139_4
          replace hx139_5 := pw_cell_below HB.out hx139_5
          replace hx139_6 := pw_cell_below HB.out hx139_6
          have HR139_3 := Aside0.mk hi139_3
          have HC139_3 := Aside0.mk hl139_3
          clear hi139_3 hl139_3
          have HR139_6 := Aside0.mk hi139_6
          have HC139_6 := Aside0.mk hl139_6
          clear hi139_6 hl139_6
          replace p139 := eq_true p139
          replace q139 := eq_true q139
          refine start_ (n := 8) (S := fun w' => w'.cell? (ad133.add ((x5_1).toNat * 7)) = some (.int .i64 ((rd_T45 l0 x5_1).f0)) ∧ w'.cell? ⟨(ad133.add ((x5_1).toNat * 7)).block, (ad133.add ((x5_1).toNat * 7)).off + 1, none⟩ = some (.int .i64 ((rd_T45 l0 x5_1).f1)) ∧ w'.cell? ⟨(ad133.add ((x5_1).toNat * 7)).block, (ad133.add ((x5_1).toNat * 7)).off + 2, none⟩ = some (.string ((rd_T45 l0 x5_1).f2)) ∧ w'.cell? ⟨(ad133.add ((x5_1).toNat * 7)).block, (ad133.add ((x5_1).toNat * 7)).off + 3, none⟩ = some (.slice A139_3 ((rd_T45 l0 x5_1).f3).length c139_3) ∧ w'.cell? ⟨(ad133.add ((x5_1).toNat * 7)).block, (ad133.add ((x5_1).toNat * 7)).off + 4, none⟩ = some (.string ((rd_T45 l0 x5_1).f4)) ∧ w'.cell? ⟨(ad133.add ((x5_1).toNat * 7)).block, (ad133.add ((x5_1).toNat * 7)).off + 5, none⟩ = some (.int .i64 ((rd_T45 l0 x5_1).f5)) ∧ w'.cell? ⟨(ad133.add ((x5_1).toNat * 7)).block, (ad133.add ((x5_1).toNat * 7)).off + 6, none⟩ = some (.slice A139_6 ((rd_T45 l0 x5_1).f6).length c139_6)) (ds := []) #[false, false, false, false, false, false, false, false] (by kernel_rfl) rfl rfl ⟨(pw_cell_below HB.out hw139_0), (pw_cell_below HB.out hw139_1), (pw_cell_below HB.out hw139_2), (pw_cell_below HB.out hw139_3), (pw_cell_below HB.out hw139_4), (pw_cell_below HB.out hw139_5), (pw_cell_below HB.out hw139_6)⟩ (fun hHeld => ?_); refine with_tabW laws_heldItemS.tab16 laws_heldItemS.bits16 (fun HT_ HW_ => ?_)
          generalize w36.drew = w37 at HB HR139_3 HR139_6 hx139_0 hx139_1 hx139_2 hx139_3 hx139_4 hx139_5 hx139_6 hHeld ⊢
          refine pure_ (i := 0) (N := some 49) (v := ?_) (a' := ?_) #[true, false, false, false, false, false, false, false] rfl rfl (any_of HT_.out (by kernel_rfl)) (fun _ _ _ h => h) (Or.inl ⟨by rfl, ?_⟩) ?_ ?_
          rotate_left
          ·intro w'
           go_simp
           with_reducible rfl
          rotate_left
          ·simp only [Act.put, sa_, sz_, ss_, i64_w, i32_w]
           rfl
          refine pure_ (i := 1) (N := some 50) (v := ?_) (a' := ?_) #[true, true, false, false, false, false, false, false] rfl rfl (any_of HT_.out (by kernel_rfl)) (fun _ _ _ h => h) (Or.inl ⟨by rfl, ?_⟩) ?_ ?_
          rotate_left
          ·intro w'
           go_simp
           with_reducible rfl
          rotate_left
          ·simp only [Act.put, sa_, sz_, ss_, i64_w, i32_w]
           rfl
          refine pure_ (i := 2) (N := some 51) (v := ?_) (a' := ?_) #[true, true, true, false, false, false, false, false] rfl rfl (any_of HT_.out (by kernel_rfl)) (fun _ _ _ h => h) (Or.inl ⟨by rfl, ?_⟩) ?_ ?_
          rotate_left
          ·intro w'
           go_simp
           with_reducible rfl
          rotate_left
          ·simp only [Act.put, sa_, sz_, ss_, i64_w, i32_w]
           rfl
          refine pure_ (i := 3) (N := some 52) (v := ?_) (a' := ?_) #[true, true, true, true, false, false, false, false] rfl rfl (any_of HT_.out (by kernel_rfl)) (fun _ _ _ h => h) (Or.inl ⟨by rfl, ?_⟩) ?_ ?_
          rotate_left
          ·intro w'
           go_simp
           with_reducible rfl
          rotate_left
          ·simp only [Act.put, sa_, sz_, ss_, i64_w, i32_w]
           rfl
          refine pure_ (i := 5) (N := some 54) (v := ?_) (a' := ?_) #[true, true, true, true, false, true, false, false] rfl rfl (any_of HT_.out (by kernel_rfl)) (fun _ _ _ h => h) (Or.inl ⟨by rfl, ?_⟩) ?_ ?_
          rotate_left
          ·intro w'
           go_simp
           with_reducible rfl
          rotate_left
          ·simp only [Act.put, sa_, sz_, ss_, i64_w, i32_w]
           rfl
          refine take_ (i := 4) (N := some 53) (v := ?_) (a' := ?_) #[true, true, true, true, true, true, false, false] rfl rfl (take_ofW HT_.out HW_.out (by kernel_rfl)) (fun _ _ _ h => h) (Or.inl ⟨by rfl, ?_⟩) hHeld ?_ ?_
          rotate_left
          ·rintro w' ⟨s0, s1, s2, s3, s4, s5, s6⟩
           go_simp
           with_reducible rfl
          rotate_left
          ·simp only [Act.put, sa_, sz_, ss_, i64_w, i32_w]
           rfl
          refine one_ (i := 6) (N := some 55) #[true, true, true, true, true, true, true, false] rfl rfl (one_of HT_.out (by kernel_rfl)) (by decide) (fun K hK => ?_)
          refine goes_ Try.func47 (by kernel_rfl) rfl #[.int .i64 t138] (by rfl) rfl rfl (by (try simp only [List.map_toArray, List.map_cons, List.map_nil]); first | done | rfl | (simp only [List.length_drop, List.length_take]; rfl)) ?_
          with_reducible refine (laws_markText.calls k1 t138 t140 _ A14.out).mono ?_
          rintro e w38 ⟨rfl, hb⟩
          refine ⟨_, rfl, ?_⟩
          have n0_ := Aside0.mk (below_step (by repeat (first | (with_reducible first | exact HB.out | apply ba_ | apply bn_ | apply b1_) | exact HB.out)) hb)
          clear HB
          have HB := n0_
          clear n0_
          (try clear hb)
          (try clear hb2)
          (try clear hk)
          (try clear hi)
          refine hK.out _ _ ⟨(pw_cell_below HB.out hw139_0), (pw_cell_below HB.out hw139_1), (pw_cell_below HB.out hw139_2), (pw_cell_below HB.out hw139_3), (pw_cell_below HB.out hw139_4), (pw_cell_below HB.out hw139_5), (pw_cell_below HB.out hw139_6)⟩ (fun hHeld => ?_)
          clear hK K
          refine norm_ (a' := ?_) ?_ ?_
          rotate_left
          ·show Act.put _ (some 55) _ = _
           simp only [Act.put, sa_, sz_, ss_, i64_w, i32_w]
           rfl
          refine pure_ (i := 7) (N := some 56) (v := ?_) (a' := ?_) #[true, true, true, true, true, true, true, true] rfl rfl (any_of HT_.out (by kernel_rfl)) (fun _ _ _ h => h) (Or.inl ⟨by rfl, ?_⟩) ?_ ?_
          rotate_left
          ·intro w'
           go_simp
           with_reducible rfl
          rotate_left
          ·simp only [Act.put, sa_, sz_, ss_, i64_w, i32_w]
           rfl
          refine done_ (done_of HT_.out (by kernel_rfl)) ?_
          try go_wp2
          go_ret
          exact ⟨by first | rfl | (simp [errW_none, errW_some] <;> rfl) | (simp [*, errW_none, errW_some] <;> rfl), by repeat (first | (with_reducible first | exact HB.out | apply ba_ | apply bn_ | apply b1_) | exact HB.out)⟩
       ·rw [if_neg c8] at H
        have c8b0 : (((rd_T45 l0 x5_1).f2).toList == t136.toList) = false := beq_eq_false_iff_ne.mpr c8
        have c8b1 : (((rd_T45 l0 x5_1).f2).toList != t136.toList) = true := bne_iff_ne.mpr c8
        obtain rfl := Option.some.inj H
        have p133 : 0 ≤ (x5_1 : Int) := of_decide_eq_true (by first | (with_reducible assumption) | assumption)
        have q133 : x5_1 < (l0.length : Int) := of_decide_eq_true (by first | (with_reducible assumption) | assumption)
        obtain ⟨ad133, A133_3, c133_3, A133_6, c133_6, e133, hx133_0, hx133_1, hx133_2, hx133_3, hx133_4, hx133_5, hx133_6, hl133_3, hi133_3, hl133_6, hi133_6⟩ := at_T45 HR0.out x5_1 p133 q133
        cases e133
        replace hx133_0 := pw_cell_below HB.out hx133_0
        replace hx133_1 := pw_cell_below HB.out hx133_1
        replace hx133_2 := pw_cell_below HB.out hx133_2
        replace hx133_3 := pw_cell_below HB.out hx133_3
        replace hx133_4 := pw_cell_below HB.out hx133_4
        replace hx133_5 := pw_cell_below HB.out hx133_5
        replace hx133_6 := pw_cell_below HB.out hx133_6
        have HR133_3 := Aside0.mk hi133_3
        have HC133_3 := Aside0.mk hl133_3
        clear hi133_3 hl133_3
        have HR133_6 := Aside0.mk hi133_6
        have HC133_6 := Aside0.mk hl133_6
        clear hi133_6 hl133_6
        replace p133 := eq_true p133
        replace q133 := eq_true q133
        have p134 : 0 ≤ (x5_1 : Int) := of_decide_eq_true (by first | (with_reducible assumption) | assumption)
        have q134 : x5_1 < (l0.length : Int) := of_decide_eq_true (by first | (with_reducible assumption) | assumption)
        obtain ⟨ad134, A134_3, c134_3, A134_6, c134_6, e134, hx134_0, hx134_1, hx134_2, hx134_3, hx134_4, hx134_5, hx134_6, hl134_3, hi134_3, hl134_6, hi134_6⟩ := at_T45 HR0.out x5_1 p134 q134
        obtain rfl : ad133 = ad134 := (by injection e134)
        replace hx134_0 := pw_cell_below HB.out hx134_0
        replace hx134_1 := pw_cell_below HB.out hx134_1
        replace hx134_2 := pw_cell_below HB.out hx134_2
        replace hx134_3 := pw_cell_below HB.out hx134_3
        replace hx134_4 := pw_cell_below HB.out hx134_4
        replace hx134_5 := pw_cell_below HB.out hx134_5
        replace hx134_6 := pw_cell_below HB.out hx134_6
        have HR134_3 := Aside0.mk hi134_3
        have HC134_3 := Aside0.mk hl134_3
        clear hi134_3 hl134_3
        have HR134_6 := Aside0.mk hi134_6
        have HC134_6 := Aside0.mk hl134_6
        clear hi134_6 hl134_6
        replace p134 := eq_true p134
        replace q134 := eq_true q134
        have ea_ := Option.some.inj (hx133_3.symm.trans hx134_3)
        injection ea_ with ea_ en_ ec_
        subst ea_
        subst ec_
        clear en_
        have ea_ := Option.some.inj (hx133_6.symm.trans hx134_6)
        injection ea_ with ea_ en_ ec_
        subst ea_
        subst ec_
        clear en_
        try go_wp2
        have n0_ := Aside0.mk (b1_ HB.out)
        clear HB
        have HB := n0_
        clear n0_
        have p135 : 0 ≤ (x5_1 : Int) := of_decide_eq_true (by first | (with_reducible assumption) | assumption)
        have q135 : x5_1 < (l0.length : Int) := of_decide_eq_true (by first | (with_reducible assumption) | assumption)
        ((try clear hHeld); (try clear hx133_0); (try clear hx133_1); (try clear hx133_2); (try clear hx133_3); (try clear hx133_4); (try clear hx133_5); (try clear hx133_6); (try clear hx134_0); (try clear hx134_1); (try clear hx134_2); (try clear hx134_3); (try clear hx134_4); (try clear hx134_5); (try clear hx134_6)) -- MENDOPEN
        obtain ⟨ad135, A135_3, c135_3, A135_6, c135_6, e135, hx135_0, hx135_1, hx135_2, hx135_3, hx135_4, hx135_5, hx135_6, hl135_3, hi135_3, hl135_6, hi135_6⟩ := at_T45 HR0.out x5_1 p135 q135
        have hw135_6 := hx135_6
        have hw135_5 := hx135_5
        have hw135_4 := hx135_4
        have hw135_3 := hx135_3
        have hw135_2 := hx135_2
        have hw135_1 := hx135_1
        have hw135_0 := hx135_0
        obtain rfl : ad133 = ad135 := (by injection e135)
        replace hx135_0 := pw_cell_below HB.out hx135_0
        replace hx135_1 := pw_cell_below HB.out hx135_1
        replace hx135_2 := pw_cell_below HB.out hx135_2
        replace hx135_3 := pw_cell_below HB.out hx135_3
        replace hx135_4 := pw_cell_below HB.out hx135_4
        replace hx135_5 := pw_cell_below HB.out hx135_5
        replace hx135_6 := pw_cell_below HB.out hx135_6
        have HR135_3 := Aside0.mk hi135_3
        have HC135_3 := Aside0.mk hl135_3
        clear hi135_3 hl135_3
        have HR135_6 := Aside0.mk hi135_6
        have HC135_6 := Aside0.mk hl135_6
        clear hi135_6 hl135_6
        replace p135 := eq_true p135
        replace q135 := eq_true q135
        refine start_ (n := 8) (S := fun w' => w'.cell? (ad133.add ((x5_1).toNat * 7)) = some (.int .i64 ((rd_T45 l0 x5_1).f0)) ∧ w'.cell? ⟨(ad133.add ((x5_1).toNat * 7)).block, (ad133.add ((x5_1).toNat * 7)).off + 1, none⟩ = some (.int .i64 ((rd_T45 l0 x5_1).f1)) ∧ w'.cell? ⟨(ad133.add ((x5_1).toNat * 7)).block, (ad133.add ((x5_1).toNat * 7)).off + 2, none⟩ = some (.string ((rd_T45 l0 x5_1).f2)) ∧ w'.cell? ⟨(ad133.add ((x5_1).toNat * 7)).block, (ad133.add ((x5_1).toNat * 7)).off + 3, none⟩ = some (.slice A135_3 ((rd_T45 l0 x5_1).f3).length c135_3) ∧ w'.cell? ⟨(ad133.add ((x5_1).toNat * 7)).block, (ad133.add ((x5_1).toNat * 7)).off + 4, none⟩ = some (.string ((rd_T45 l0 x5_1).f4)) ∧ w'.cell? ⟨(ad133.add ((x5_1).toNat * 7)).block, (ad133.add ((x5_1).toNat * 7)).off + 5, none⟩ = some (.int .i64 ((rd_T45 l0 x5_1).f5)) ∧ w'.cell? ⟨(ad133.add ((x5_1).toNat * 7)).block, (ad133.add ((x5_1).toNat * 7)).off + 6, none⟩ = some (.slice A135_6 ((rd_T45 l0 x5_1).f6).length c135_6)) (ds := []) #[false, false, false, false, false, false, false, false] (by kernel_rfl) rfl rfl ⟨(pw_cell_below HB.out hw135_0), (pw_cell_below HB.out hw135_1), (pw_cell_below HB.out hw135_2), (pw_cell_below HB.out hw135_3), (pw_cell_below HB.out hw135_4), (pw_cell_below HB.out hw135_5), (pw_cell_below HB.out hw135_6)⟩ (fun hHeld => ?_); refine with_tabW laws_heldItemS.tab10 laws_heldItemS.bits10 (fun HT_ HW_ => ?_)
        generalize wr.drew = w39 at HB HR135_3 HR135_6 hx135_0 hx135_1 hx135_2 hx135_3 hx135_4 hx135_5 hx135_6 hHeld ⊢
        refine pure_ (i := 0) (N := some 30) (v := ?_) (a' := ?_) #[true, false, false, false, false, false, false, false] rfl rfl (any_of HT_.out (by kernel_rfl)) (fun _ _ _ h => h) (Or.inl ⟨by rfl, ?_⟩) ?_ ?_
        rotate_left
        ·intro w'
         go_simp
         with_reducible rfl
        rotate_left
        ·simp only [Act.put, sa_, sz_, ss_, i64_w, i32_w]
         rfl
        refine pure_ (i := 1) (N := some 31) (v := ?_) (a' := ?_) #[true, true, false, false, false, false, false, false] rfl rfl (any_of HT_.out (by kernel_rfl)) (fun _ _ _ h => h) (Or.inl ⟨by rfl, ?_⟩) ?_ ?_
        rotate_left
        ·intro w'
         go_simp
         with_reducible rfl
        rotate_left
        ·simp only [Act.put, sa_, sz_, ss_, i64_w, i32_w]
         rfl
        refine pure_ (i := 2) (N := some 32) (v := ?_) (a' := ?_) #[true, true, true, false, false, false, false, false] rfl rfl (any_of HT_.out (by kernel_rfl)) (fun _ _ _ h => h) (Or.inl ⟨by rfl, ?_⟩) ?_ ?_
        rotate_left
        ·intro w'
         go_simp
         with_reducible rfl
        rotate_left
        ·simp only [Act.put, sa_, sz_, ss_, i64_w, i32_w]
         rfl
        refine pure_ (i := 3) (N := some 33) (v := ?_) (a' := ?_) #[true, true, true, true, false, false, false, false] rfl rfl (any_of HT_.out (by kernel_rfl)) (fun _ _ _ h => h) (Or.inl ⟨by rfl, ?_⟩) ?_ ?_
        rotate_left
        ·intro w'
         go_simp
         with_reducible rfl
        rotate_left
        ·simp only [Act.put, sa_, sz_, ss_, i64_w, i32_w]
         rfl
        refine pure_ (i := 5) (N := some 35) (v := ?_) (a' := ?_) #[true, true, true, true, false, true, false, false] rfl rfl (any_of HT_.out (by kernel_rfl)) (fun _ _ _ h => h) (Or.inl ⟨by rfl, ?_⟩) ?_ ?_
        rotate_left
        ·intro w'
         go_simp
         with_reducible rfl
        rotate_left
        ·simp only [Act.put, sa_, sz_, ss_, i64_w, i32_w]
         rfl
        refine take_ (i := 4) (N := some 34) (v := ?_) (a' := ?_) #[true, true, true, true, true, true, false, false] rfl rfl (take_ofW HT_.out HW_.out (by kernel_rfl)) (fun _ _ _ h => h) (Or.inl ⟨by rfl, ?_⟩) hHeld ?_ ?_
        rotate_left
        ·rintro w' ⟨s0, s1, s2, s3, s4, s5, s6⟩
         go_simp
         with_reducible rfl
        rotate_left
        ·simp only [Act.put, sa_, sz_, ss_, i64_w, i32_w]
         rfl
        refine one_ (i := 6) (N := some 36) #[true, true, true, true, true, true, true, false] rfl rfl (one_of HT_.out (by kernel_rfl)) (by decide) (fun K hK => ?_)
        refine goes_ Try.func47 (by kernel_rfl) rfl #[.int .i64 (wrap64 ((wrap64 (x1_1 + 1)) + 1))] (by rfl) rfl rfl (by (try simp only [List.map_toArray, List.map_cons, List.map_nil]); first | done | rfl | (simp only [List.length_drop, List.length_take]; rfl)) ?_
        with_reducible refine (laws_markText.calls k1 (wrap64 ((wrap64 (x1_1 + 1)) + 1)) t136 _ A7.out).mono ?_
        rintro e w40 ⟨rfl, hb⟩
        refine ⟨_, rfl, ?_⟩
        have n0_ := Aside0.mk (below_step (by repeat (first | (with_reducible first | exact HB.out | apply ba_ | apply bn_ | apply b1_) | exact HB.out)) hb)
        clear HB
        have HB := n0_
        clear n0_
        (try clear hb)
        (try clear hb2)
        (try clear hk)
        (try clear hi)
        refine hK.out _ _ ⟨(pw_cell_below HB.out hw135_0), (pw_cell_below HB.out hw135_1), (pw_cell_below HB.out hw135_2), (pw_cell_below HB.out hw135_3), (pw_cell_below HB.out hw135_4), (pw_cell_below HB.out hw135_5), (pw_cell_below HB.out hw135_6)⟩ (fun hHeld => ?_)
        clear hK K
        refine norm_ (a' := ?_) ?_ ?_
        rotate_left
        ·show Act.put _ (some 36) _ = _
         simp only [Act.put, sa_, sz_, ss_, i64_w, i32_w]
         rfl
        refine pure_ (i := 7) (N := some 37) (v := ?_) (a' := ?_) #[true, true, true, true, true, true, true, true] rfl rfl (any_of HT_.out (by kernel_rfl)) (fun _ _ _ h => h) (Or.inl ⟨by rfl, ?_⟩) ?_ ?_
        rotate_left
        ·intro w'
         go_simp
         with_reducible rfl
        rotate_left
        ·simp only [Act.put, sa_, sz_, ss_, i64_w, i32_w]
         rfl
        refine done_ (done_of HT_.out (by kernel_rfl)) ?_
        try go_wp2
        go_ret
        exact ⟨by first | rfl | (simp [errW_none, errW_some] <;> rfl) | (simp [*, errW_none, errW_some] <;> rfl), by repeat (first | (with_reducible first | exact HB.out | apply ba_ | apply bn_ | apply b1_) | exact HB.out)⟩
      ·rw [if_neg c6] at H
       have c6b0 : (((rd_T45 l0 x5_1).f1) == (wrap64 (x1_1 + 1))) = false := beq_eq_false_iff_ne.mpr c6
       have c6b1 : (((rd_T45 l0 x5_1).f1) != (wrap64 (x1_1 + 1))) = true := bne_iff_ne.mpr c6
       obtain rfl := Option.some.inj H
       have p133 : 0 ≤ (x5_1 : Int) := of_decide_eq_true (by first | (with_reducible assumption) | assumption)
       have q133 : x5_1 < (l0.length : Int) := of_decide_eq_true (by first | (with_reducible assumption) | assumption)
       obtain ⟨ad133, A133_3, c133_3, A133_6, c133_6, e133, hx133_0, hx133_1, hx133_2, hx133_3, hx133_4, hx133_5, hx133_6, hl133_3, hi133_3, hl133_6, hi133_6⟩ := at_T45 HR0.out x5_1 p133 q133
       cases e133
       replace hx133_0 := pw_cell_below HB.out hx133_0
       replace hx133_1 := pw_cell_below HB.out hx133_1
       replace hx133_2 := pw_cell_below HB.out hx133_2
       replace hx133_3 := pw_cell_below HB.out hx133_3
       replace hx133_4 := pw_cell_below HB.out hx133_4
       replace hx133_5 := pw_cell_below HB.out hx133_5
       replace hx133_6 := pw_cell_below HB.out hx133_6
       have HR133_3 := Aside0.mk hi133_3
       have HC133_3 := Aside0.mk hl133_3
       clear hi133_3 hl133_3
       have HR133_6 := Aside0.mk hi133_6
       have HC133_6 := Aside0.mk hl133_6
       clear hi133_6 hl133_6
       replace p133 := eq_true p133
       replace q133 := eq_true q133
       have p134 : 0 ≤ (x5_1 : Int) := of_decide_eq_true (by first | (with_reducible assumption) | assumption)
       have q134 : x5_1 < (l0.length : Int) := of_decide_eq_true (by first | (with_reducible assumption) | assumption)
       obtain ⟨ad134, A134_3, c134_3, A134_6, c134_6, e134, hx134_0, hx134_1, hx134_2, hx134_3, hx134_4, hx134_5, hx134_6, hl134_3, hi134_3, hl134_6, hi134_6⟩ := at_T45 HR0.out x5_1 p134 q134
       obtain rfl : ad133 = ad134 := (by injection e134)
       replace hx134_0 := pw_cell_below HB.out hx134_0
       replace hx134_1 := pw_cell_below HB.out hx134_1
       replace hx134_2 := pw_cell_below HB.out hx134_2
       replace hx134_3 := pw_cell_below HB.out hx134_3
       replace hx134_4 := pw_cell_below HB.out hx134_4
       replace hx134_5 := pw_cell_below HB.out hx134_5
       replace hx134_6 := pw_cell_below HB.out hx134_6
       have HR134_3 := Aside0.mk hi134_3
       have HC134_3 := Aside0.mk hl134_3
       clear hi134_3 hl134_3
       have HR134_6 := Aside0.mk hi134_6
       have HC134_6 := Aside0.mk hl134_6
       clear hi134_6 hl134_6
       replace p134 := eq_true p134
       replace q134 := eq_true q134
       have ea_ := Option.some.inj (hx133_3.symm.trans hx134_3)
       injection ea_ with ea_ en_ ec_
       subst ea_
       subst ec_
       clear en_
       have ea_ := Option.some.inj (hx133_6.symm.trans hx134_6)
       injection ea_ with ea_ en_ ec_
       subst ea_
       subst ec_
       clear en_
       go_wp2
       go_ret
       exact ⟨by first | rfl | (simp [errW_none, errW_some] <;> rfl) | (simp [*, errW_none, errW_some] <;> rfl), by repeat (first | (with_reducible first | exact HB.out | apply ba_ | apply bn_ | apply b1_) | exact HB.out)⟩
     ·rw [if_neg c5] at H
      have c5b0 : (((rd_T45 l0 x5_1).f0) == x1_1) = false := beq_eq_false_iff_ne.mpr c5
      have c5b1 : (((rd_T45 l0 x5_1).f0) != x1_1) = true := bne_iff_ne.mpr c5
      obtain rfl := Option.some.inj H
      have p133 : 0 ≤ (x5_1 : Int) := of_decide_eq_true (by first | (with_reducible assumption) | assumption)
      have q133 : x5_1 < (l0.length : Int) := of_decide_eq_true (by first | (with_reducible assumption) | assumption)
      obtain ⟨ad133, A133_3, c133_3, A133_6, c133_6, e133, hx133_0, hx133_1, hx133_2, hx133_3, hx133_4, hx133_5, hx133_6, hl133_3, hi133_3, hl133_6, hi133_6⟩ := at_T45 HR0.out x5_1 p133 q133
      cases e133
      replace hx133_0 := pw_cell_below HB.out hx133_0
      replace hx133_1 := pw_cell_below HB.out hx133_1
      replace hx133_2 := pw_cell_below HB.out hx133_2
      replace hx133_3 := pw_cell_below HB.out hx133_3
      replace hx133_4 := pw_cell_below HB.out hx133_4
      replace hx133_5 := pw_cell_below HB.out hx133_5
      replace hx133_6 := pw_cell_below HB.out hx133_6
      have HR133_3 := Aside0.mk hi133_3
      have HC133_3 := Aside0.mk hl133_3
      clear hi133_3 hl133_3
      have HR133_6 := Aside0.mk hi133_6
      have HC133_6 := Aside0.mk hl133_6
      clear hi133_6 hl133_6
      replace p133 := eq_true p133
      replace q133 := eq_true q133
      go_wp2
      go_ret
      exact ⟨by first | rfl | (simp [errW_none, errW_some] <;> rfl) | (simp [*, errW_none, errW_some] <;> rfl), by repeat (first | (with_reducible first | exact HB.out | apply ba_ | apply bn_ | apply b1_) | exact HB.out)⟩
    ·rw [if_neg c4] at H
     exact absurd H (by simp)
   ·rw [if_neg c3] at H
    have c3b0 : decide (x5_1 < (l0.length : Int)) = false := decide_eq_false c3
    clear c3
    obtain rfl := Option.some.inj H
    go_wp2
    go_ret
    exact ⟨by first | rfl | (simp [errW_none, errW_some] <;> rfl) | (simp [*, errW_none, errW_some] <;> rfl), by repeat (first | (with_reducible first | exact HB.out | apply ba_ | apply bn_ | apply b1_) | exact HB.out)⟩
end Go.Proofs.Ytedeliggbjbngaa.PFnExactPopName
