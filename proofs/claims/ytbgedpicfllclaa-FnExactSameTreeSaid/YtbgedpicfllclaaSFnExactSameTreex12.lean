-- Written by this session's program wip/slim.py: the print's texts (with contracts of our own), only what this row needs, shortened. Lean checks it.
import Derived.Test.YtbgedpicfllclaaSFnExactSameTreex0
import Derived.Test.YtbgedpicfllclaaSFnExactSameTreex10
import Derived.Test.YtbgedpicfllclaaSFnExactSameTreex11
namespace Go.Proofs.Ytbgedpicfllclaa.PFnExactSameTree
open Go.RowKit Go.Proofs.YtbgedpicfllclaaW.PrintWords Go.Proofs.YtbgedpicfllclaaW.PrintLast Go.Proofs.YtbgedpicfllclaaW.PrintMore
def q12_0 : Array Bool := #[false, false, false, false, false, false, false, false, false, false, false, false, false]
def q12_1 : Array Bool := #[true, false, false, false, false, false, false, false, false, false, false, false, false]
def q12_2 : Array Bool := #[true, true, false, false, false, false, false, false, false, false, false, false, false]
def q12_3 : Array Bool := #[true, true, true, false, false, false, false, false, false, false, false, false, false]
def q12_4 : Array Bool := #[true, true, true, false, true, false, false, false, false, false, false, false, false]
def q12_5 : Array Bool := #[true, true, true, false, true, true, false, false, false, false, false, false, false]
def q12_6 : Array Bool := #[true, true, true, false, true, true, true, false, false, false, false, false, false]
def q12_7 : Array Bool := #[true, true, true, false, true, true, true, true, false, false, false, false, false]
def q12_8 : Array Bool := #[true, true, true, true, true, true, true, true, false, false, false, false, false]
def q12_9 : Array Bool := #[true, true, true, true, true, true, true, true, true, false, false, false, false]
def q12_10 : Array Bool := #[true, true, true, true, true, true, true, true, true, true, false, false, false]
def q12_11 : Array Bool := #[true, true, true, true, true, true, true, true, true, true, true, false, false]
def q12_12 : Array Bool := #[true, true, true, true, true, true, true, true, true, true, true, true, false]
def q12_13 : Array Bool := #[true, true, true, true, true, true, true, true, true, true, true, true, true]
attribute [local go_sem] max2_int min2_int max_two min_two max_three min_three max_four min_four
set_option linter.unusedVariables false
set_option linter.unusedSimpArgs false
mutual
def impl_SameTree.j0 : Nat → List (S44) → List (S44) → Bool → Option (Bool)
 | 0, _, _, _ => none
 | k + 1, x0, x1, x22 => if x22 = true then (some false) else ((impl_order.f k x1).bind fun t281 => ((impl_order.f k x0).bind fun t284 => (impl_SameTree.l0 k x0 x1 t281 t284 (t284.length : Int) 0)))
def impl_SameTree.l0 : Nat → List (S44) → List (S44) → List Int → List Int → Int → Int → Option (Bool)
 | 0, _, _, _, _, _, _ => none
 | k + 1, x0, x1, x5, x26, x27, x28 => if x28 < x27 then (if 0 ≤ x28 then (if x28 < (x26.length : Int) then (if 0 ≤ (rd x26 x28) then (if (rd x26 x28) < (x0.length : Int) then (if x28 < (x5.length : Int) then (if 0 ≤ (rd x5 x28) then (if (rd x5 x28) < (x1.length : Int) then ((impl_sameItem.f k ((rd_T44 x0 (rd x26 x28)).f0) ((rd_T44 x0 (rd x26 x28)).f1) ((rd_T44 x0 (rd x26 x28)).f2) ((rd_T44 x0 (rd x26 x28)).f3) ((rd_T44 x0 (rd x26 x28)).f4) ((rd_T44 x0 (rd x26 x28)).f5) ((rd_T44 x0 (rd x26 x28)).f6) ((rd_T44 x1 (rd x5 x28)).f0) ((rd_T44 x1 (rd x5 x28)).f1) ((rd_T44 x1 (rd x5 x28)).f2) ((rd_T44 x1 (rd x5 x28)).f3) ((rd_T44 x1 (rd x5 x28)).f4) ((rd_T44 x1 (rd x5 x28)).f5) ((rd_T44 x1 (rd x5 x28)).f6)).bind fun t291 => (if t291 = true then (impl_SameTree.l0 k x0 x1 x5 x26 x27 (wrap64 (x28 + 1))) else (some false))) else (none)) else (none)) else (none)) else (none)) else (none)) else (none)) else (none)) else (some true)
end
def impl_SameTree.f (k : Nat) (l0 : List (S44)) (l1 : List (S44)) : Option (Bool) := if (l0.length : Int) = (l1.length : Int) then ((impl_TreeOk.f k l0).bind fun t279 => (if t279 = true then ((impl_TreeOk.f k l1).bind fun t280 => (impl_SameTree.j0 k l0 l1 (!t280))) else (impl_SameTree.j0 k l0 l1 true))) else (impl_SameTree.j0 k l0 l1 true)
theorem impl_SameTree.mono_l : ∀ k, (∀ y0 y1 y2, LeO (impl_SameTree.j0 k y0 y1 y2) (impl_SameTree.j0 (k + 1) y0 y1 y2)) ∧ (∀ y0 y1 y2 y3 y4 y5, LeO (impl_SameTree.l0 k y0 y1 y2 y3 y4 y5) (impl_SameTree.l0 (k + 1) y0 y1 y2 y3 y4 y5))
 | 0 => ⟨fun _ _ _ r h => by simp [impl_SameTree.j0] at h, fun _ _ _ _ _ _ r h => by simp [impl_SameTree.l0] at h⟩
 | k + 1 => by
  obtain ⟨ih0, ih1⟩ := impl_SameTree.mono_l k
  refine ⟨?_, ?_⟩
  ·intro y0 y1 y2
   unfold impl_SameTree.j0
   repeat' first
   | (with_reducible exact ih0 _ _ _)
   | (with_reducible exact ih1 _ _ _ _ _ _)
   | (with_reducible exact impl_TreeOk.mono _ _)
   | (with_reducible exact impl_order.mono _ _)
   | (with_reducible exact impl_sameItem.mono _ _ _ _ _ _ _ _ _ _ _ _ _ _ _)
   | (with_reducible exact LeO.refl _)
   | (with_reducible exact LeO.none _)
   | (with_reducible refine LeO.ite ?_ ?_)
   | (with_reducible refine LeO.bind ?_ (fun _ => ?_))
  ·intro y0 y1 y2 y3 y4 y5
   unfold impl_SameTree.l0
   repeat' first
   | (with_reducible exact ih0 _ _ _)
   | (with_reducible exact ih1 _ _ _ _ _ _)
   | (with_reducible exact impl_TreeOk.mono _ _)
   | (with_reducible exact impl_order.mono _ _)
   | (with_reducible exact impl_sameItem.mono _ _ _ _ _ _ _ _ _ _ _ _ _ _ _)
   | (with_reducible exact LeO.refl _)
   | (with_reducible exact LeO.none _)
   | (with_reducible refine LeO.ite ?_ ?_)
   | (with_reducible refine LeO.bind ?_ (fun _ => ?_))
theorem impl_SameTree.mono : ∀ a0 a1 k, LeO (impl_SameTree.f k a0 a1) (impl_SameTree.f (k + 1) a0 a1) := by
 intro a0 a1 k
 obtain ⟨ih0, ih1⟩ := impl_SameTree.mono_l k
 unfold impl_SameTree.f
 repeat' first
   | (with_reducible exact ih0 _ _ _)
   | (with_reducible exact ih1 _ _ _ _ _ _)
   | (with_reducible exact impl_TreeOk.mono _ _)
   | (with_reducible exact impl_order.mono _ _)
   | (with_reducible exact impl_sameItem.mono _ _ _ _ _ _ _ _ _ _ _ _ _ _ _)
   | (with_reducible exact LeO.refl _)
   | (with_reducible exact LeO.none _)
   | (with_reducible refine LeO.ite ?_ ?_)
   | (with_reducible refine LeO.bind ?_ (fun _ => ?_))
def impl_SameTree.T7 : Bool × List (List Nat × List Nat) := (true, [([], []), ([], []), ([0, 1], [0, 1]), ([2], [2]), ([], []), ([], []), ([], []), ([5, 6], [5, 6]), ([7], [7]), ([4, 8], [4, 8]), ([9], [9]), ([3, 10], [3, 10]), ([11], [11])])
def impl_SameTree.B7 : List Nat := [0, 0, 3, 7, 0, 0, 0, 96, 224, 496, 1008, 2047, 4095]
theorem impl_SameTree.tab7 : rtab .any (opsOf Try.f29 7) = impl_SameTree.T7 := by kernel_rfl
theorem impl_SameTree.bits7 : waitsOk impl_SameTree.T7.2 impl_SameTree.B7 = true := by kernel_rfl
set_option maxHeartbeats 8000000 in
set_option maxRecDepth 100000 in
theorem impl_SameTree.calls (k : Nat) (A0 : Option Addr) (c0 : Nat) (l0 : List (S44)) (A1 : Option Addr) (c1 : Nat) (l1 : List (S44)) (r : Bool) (w : World) (hr0 : Kd.C k44 w A0 l0.length l0) (hc0 : l0.length ≤ c0) (hr1 : Kd.C k44 w A1 l1.length l1) (hc1 : l1.length ≤ c1) (h : impl_SameTree.f k l0 l1 = some r) :
  Calls Try.prog 29 #[.slice A0 l0.length c0, .slice A1 l1.length c1] w fun e w' => e = .returned (.bool r) ∧ Below w.heap.size w w' := by
 have hu44 := Try.underlying44
 have HR0 := Aside0.mk hr0
 have HC0 := Aside0.mk hc0
 clear hr0 hc0
 have HR1 := Aside0.mk hr1
 have HC1 := Aside0.mk hc1
 clear hr1 hc1
 have HB := Aside0.mk (Below.refl w.heap.size w)
 have H : (if (l0.length : Int) = (l1.length : Int) then ((impl_TreeOk.f k l0).bind fun t279 => (if t279 = true then ((impl_TreeOk.f k l1).bind fun t280 => (impl_SameTree.j0 k l0 l1 (!t280))) else (impl_SameTree.j0 k l0 l1 true))) else (impl_SameTree.j0 k l0 l1 true)) = some r := h
 clear h
 have HC3 := Aside0.mk H
 clear H
 go_enter Try.func29, Try.ntmps29
 go_upto_region 1 with (fail)
 go_cut [22] (fun v22 wc => ∃ (kq : Nat) (x22_2 : Bool), v22 = .bool x22_2 ∧ Aside0 (impl_SameTree.j0 kq l0 l1 x22_2 = some r) ∧ Aside0 (kq ≤ k) ∧ Aside0 (Below w.heap.size w wc))
 case first =>
  have H := HC3.out
  clear HC3
  by_cases c4 : (l0.length : Int) = (l1.length : Int)
  ·rw [if_pos c4] at H
   have c4b0 : ((l0.length : Int) == (l1.length : Int)) = true := beq_iff_eq.mpr c4
   have c4b1 : ((l0.length : Int) != (l1.length : Int)) = false := bne_eq_false_iff_eq.mpr c4
   have c4b2 : (l0.length == l1.length) = true := by first | simpa using c4 | (simp at c4 ⊢; omega)
   clear c4
   (first | rw [c4b0] | (simp only [i64_w, i32_w]; rw [c4b0]) | skip)
   replace H := Option.bind_eq_some_iff.mp H
   obtain ⟨t279, A50, H⟩ := H
   replace H : (if t279 = true then ((impl_TreeOk.f k l1).bind fun t280 => (impl_SameTree.j0 k l0 l1 (!t280))) else (impl_SameTree.j0 k l0 l1 true)) = some r := H
   have A5 := Aside0.mk A50
   clear A50
   by_cases c6 : t279 = true
   ·subst c6
    have H1 : ((impl_TreeOk.f k l1).bind fun t280 => (impl_SameTree.j0 k l0 l1 (!t280))) = some r := by rw [if_pos rfl] at H; exact H
    clear H
    have H := H1
    clear H1
    replace H := Option.bind_eq_some_iff.mp H
    obtain ⟨t280, A70, H⟩ := H
    replace H : (impl_SameTree.j0 k l0 l1 (!t280)) = some r := H
    have A7 := Aside0.mk A70
    clear A70
    have H' := Aside0.mk H
    clear H
    go_wp2_with (first | (go_at_call 27; (with_reducible refine (impl_TreeOk.calls k _ _ l0 true _ ?side1 ?side2 A5.out).mono ?_); (case side1 => repeat (first | exact (Kd.C_below HR0.out HB.out) | (with_reducible refine ca_ ?_ _) | (with_reducible refine cn_ ?_ _) | (with_reducible refine cd_ ?_))); (case side2 => exact HC0.out); rintro e w8 ⟨rfl, hb⟩; have n0_ := Aside0.mk (below_step (by repeat (first | (with_reducible first | exact HB.out | apply ba_ | apply bn_ | apply b1_) | exact HB.out)) hb); clear HB; have HB := n0_; clear n0_; (try clear hb); (try clear hb2); (try clear hk); (try clear hi)) | (go_at_call 27; (with_reducible refine (impl_TreeOk.calls k _ _ l1 t280 _ ?side1 ?side2 A7.out).mono ?_); (case side1 => repeat (first | exact (Kd.C_below HR1.out HB.out) | (with_reducible refine ca_ ?_ _) | (with_reducible refine cn_ ?_ _) | (with_reducible refine cd_ ?_))); (case side2 => exact HC1.out); rintro e w9 ⟨rfl, hb⟩; have n0_ := Aside0.mk (below_step (by repeat (first | (with_reducible first | exact HB.out | apply ba_ | apply bn_ | apply b1_) | exact HB.out)) hb); clear HB; have HB := n0_; clear n0_; (try clear hb); (try clear hb2); (try clear hk); (try clear hi)))
    go_meet
    case rel => exact ⟨_, (!t280), (by first | rfl | (simp; done) | (simp [*]; done)), H', ⟨by first | omega | exact Nat.le_refl _⟩, ⟨by repeat (first | (with_reducible first | exact HB.out | apply ba_ | apply bn_ | apply b1_) | exact HB.out)⟩⟩
   ·replace c6 := Bool.eq_false_iff.mpr c6
    subst c6
    have H1 : (impl_SameTree.j0 k l0 l1 true) = some r := by rw [if_neg (show ¬ (false = true) by decide)] at H; exact H
    clear H
    have H := H1
    clear H1
    have H' := Aside0.mk H
    clear H
    go_wp2_with (first | (go_at_call 27; (with_reducible refine (impl_TreeOk.calls k _ _ l0 false _ ?side1 ?side2 A5.out).mono ?_); (case side1 => repeat (first | exact (Kd.C_below HR0.out HB.out) | (with_reducible refine ca_ ?_ _) | (with_reducible refine cn_ ?_ _) | (with_reducible refine cd_ ?_))); (case side2 => exact HC0.out); rintro e w10 ⟨rfl, hb⟩; have n0_ := Aside0.mk (below_step (by repeat (first | (with_reducible first | exact HB.out | apply ba_ | apply bn_ | apply b1_) | exact HB.out)) hb); clear HB; have HB := n0_; clear n0_; (try clear hb); (try clear hb2); (try clear hk); (try clear hi)))
    go_meet
    case rel => exact ⟨_, (true), (by first | rfl | (simp; done) | (simp [*]; done)), H', ⟨by first | omega | exact Nat.le_refl _⟩, ⟨by repeat (first | (with_reducible first | exact HB.out | apply ba_ | apply bn_ | apply b1_) | exact HB.out)⟩⟩
  ·rw [if_neg c4] at H
   have c4b0 : ((l0.length : Int) == (l1.length : Int)) = false := beq_eq_false_iff_ne.mpr c4
   have c4b1 : ((l0.length : Int) != (l1.length : Int)) = true := bne_iff_ne.mpr c4
   have c4b2 : (l0.length == l1.length) = false := by first | simpa using c4 | (simp at c4 ⊢; omega)
   (first | rw [c4b0] | (simp only [i64_w, i32_w]; rw [c4b0]) | skip)
   have H' := Aside0.mk H
   clear H
   go_wp2
   go_meet
   case rel => exact ⟨_, (true), (by first | rfl | (simp; done) | (simp [*]; done)), H', ⟨by first | omega | exact Nat.le_refl _⟩, ⟨by repeat (first | (with_reducible first | exact HB.out | apply ba_ | apply bn_ | apply b1_) | exact HB.out)⟩⟩
 case rest =>
  clear HC3
  try clear c1
  try clear c2
  try clear p2
  try clear c4
  try clear c4b0
  try clear c4b1
  try clear c4b2
  try clear c6
  obtain ⟨kq, x22_2, rfl, HA, HJ2, HB⟩ := hcut
  cases kq with
  | zero => exact absurd HA.out (by simp [impl_SameTree.j0])
  | succ kj2 =>
   have H := HA.out
   clear HA
   simp only [impl_SameTree.j0] at H
   by_cases c11 : x22_2 = true
   ·subst c11
    have H1 : (some false) = some r := by rw [if_pos rfl] at H; exact H
    clear H
    have H := H1
    clear H1
    obtain rfl := Option.some.inj H
    go_wp2
    go_ret
    exact ⟨by first | rfl | (simp [errW_none, errW_some] <;> rfl) | (simp [*, errW_none, errW_some] <;> rfl), by repeat (first | (with_reducible first | exact HB.out | apply ba_ | apply bn_ | apply b1_) | exact HB.out)⟩
   ·replace c11 := Bool.eq_false_iff.mpr c11
    subst c11
    have H1 : ((impl_order.f kj2 l1).bind fun t281 => ((impl_order.f kj2 l0).bind fun t284 => (impl_SameTree.l0 kj2 l0 l1 t281 t284 (t284.length : Int) 0))) = some r := by rw [if_neg (show ¬ (false = true) by decide)] at H; exact H
    clear H
    have H := H1
    clear H1
    replace H := Option.bind_eq_some_iff.mp H
    obtain ⟨t281, A120, H⟩ := H
    replace H : ((impl_order.f kj2 l0).bind fun t284 => (impl_SameTree.l0 kj2 l0 l1 t281 t284 (t284.length : Int) 0)) = some r := H
    have A12 := Aside0.mk A120
    clear A120
    replace H := Option.bind_eq_some_iff.mp H
    obtain ⟨t284, A130, H⟩ := H
    replace H : (impl_SameTree.l0 kj2 l0 l1 t281 t284 (t284.length : Int) 0) = some r := H
    have A13 := Aside0.mk A130
    clear A130
    have H' := Aside0.mk H
    clear H
    go_wp2_with (first | ((with_reducible refine gate_callee (f := 67) rfl ?_); refine goesL_ (some 24) rfl rfl Try.func67 (by kernel_rfl) rfl #[.slice A1 l1.length c1] rfl (by (try simp only [List.map_toArray, List.map_cons, List.map_nil]); first | done | rfl | (simp only [List.length_drop, List.length_take]; rfl)) ?_; (with_reducible refine (impl_order.calls kj2 _ _ l1 t281 _ ?side1 ?side2 A12.out).mono ?_); (case side1 => repeat (first | exact (Kd.C_below HR1.out HB.out) | (with_reducible refine ca_ ?_ _) | (with_reducible refine cn_ ?_ _) | (with_reducible refine cd_ ?_))); (case side2 => exact HC1.out); rintro e w14 ⟨v282, rfl, ho0, hb⟩; refine ⟨_, rfl, ?_⟩; have n0_ := Aside0.mk (Kd.R_lower ho0 (below_size (by repeat (first | (with_reducible first | exact HB.out | apply ba_ | apply bn_ | apply b1_) | exact HB.out)))); have n1_ := Aside0.mk (below_step (by repeat (first | (with_reducible first | exact HB.out | apply ba_ | apply bn_ | apply b1_) | exact HB.out)) hb); clear HB; have HO283 := n0_; have HB := n1_; clear n0_ n1_; (try clear hb); (try clear hb2); (try clear hk); (try clear hi); (try clear ho0)) | ((with_reducible refine gate_callee (f := 67) rfl ?_); refine goesL_ (some 26) rfl rfl Try.func67 (by kernel_rfl) rfl #[.slice A0 l0.length c0] rfl (by (try simp only [List.map_toArray, List.map_cons, List.map_nil]); first | done | rfl | (simp only [List.length_drop, List.length_take]; rfl)) ?_; (with_reducible refine (impl_order.calls kj2 _ _ l0 t284 _ ?side1 ?side2 A13.out).mono ?_); (case side1 => repeat (first | exact (Kd.C_below HR0.out HB.out) | (with_reducible refine ca_ ?_ _) | (with_reducible refine cn_ ?_ _) | (with_reducible refine cd_ ?_))); (case side2 => exact HC0.out); rintro e w15 ⟨v285, rfl, ho0, hb⟩; refine ⟨_, rfl, ?_⟩; have n0_ := Aside0.mk (Kd.R_elder' (by (with_reducible repeat (first | apply Kd.R_alloc | apply Kd.R_drewN | apply Kd.R_drew)); exact HO283.out) (Kd.R_base ho0) hb); have n1_ := Aside0.mk (Kd.R_lower (Kd.R_new' ho0 (Kd.R_lt (by (with_reducible repeat (first | apply Kd.R_alloc | apply Kd.R_drewN | apply Kd.R_drew)); exact HO283.out))) (below_size (by repeat (first | (with_reducible first | exact HB.out | apply ba_ | apply bn_ | apply b1_) | exact HB.out)))); have n2_ := Aside0.mk (below_step (by repeat (first | (with_reducible first | exact HB.out | apply ba_ | apply bn_ | apply b1_) | exact HB.out)) hb); clear HO283; clear HB; have HO283 := n0_; have HO286 := n1_; have HB := n2_; clear n0_ n1_ n2_; (try clear hb); (try clear hb2); (try clear hk); (try clear hi); (try clear ho0); obtain ⟨Ao16, co16, eo16⟩ := Kd.R_slice HO286.out; subst eo16))
    go_loopg [28] kj2 (fun kq v28 w' => ∃ (x28_2 : Int), v28 = .int .i64 x28_2 ∧ Aside0 (impl_SameTree.l0 kq l0 l1 t281 t284 (t284.length : Int) x28_2 = some r) ∧ Aside0 (kq ≤ kj2) ∧ Aside0 (Kd.R (Kd.int .i64) 3 w' w.heap.size (fun k_ => some k_ ≠ ((.slice Ao16 t284.length co16) : Value).ownBlock) v282 t281) ∧ Aside0 (Kd.R (Kd.int .i64) 3 w' w.heap.size (fun k_ => some k_ ≠ (v282 : Value).ownBlock) (.slice Ao16 t284.length co16) t284) ∧ Aside0 (Below w.heap.size w w'))
    case atStart => exact ⟨(0), (by first | rfl | (simp; done) | (simp [*]; done)), H', ⟨Nat.le_refl _⟩, ⟨by (with_reducible repeat (first | apply Kd.R_alloc | apply Kd.R_drewN | apply Kd.R_drew)); exact Kd.R_mono HO283.out (fun _ hk => hk.2)⟩, ⟨by (with_reducible repeat (first | apply Kd.R_alloc | apply Kd.R_drewN | apply Kd.R_drew)); exact Kd.R_mono HO286.out (fun _ hk => hk.2)⟩, ⟨by repeat (first | (with_reducible first | exact HB.out | apply ba_ | apply bn_ | apply b1_) | exact HB.out)⟩⟩
    case round =>
     clear H'
     try clear c1
     try clear c2
     try clear p2
     try clear c4
     try clear c4b0
     try clear c4b1
     try clear c4b2
     try clear c6
     try clear c11
     try clear p2
     obtain ⟨x28_2, rfl, HA, HK2, HO_5, HO_26, HB⟩ := hrel
     cases gk with
     | zero => exact absurd HA.out (by simp [impl_SameTree.l0])
     | succ k2 =>
      have H := HA.out
      clear HA
      simp only [impl_SameTree.l0] at H
      by_cases c17 : x28_2 < (t284.length : Int)
      ·rw [if_pos c17] at H
       have c17b0 : decide (x28_2 < (t284.length : Int)) = true := decide_eq_true c17
       clear c17
       by_cases c18 : 0 ≤ x28_2
       ·rw [if_pos c18] at H
        have c18b0 : decide (0 ≤ x28_2) = true := decide_eq_true c18
        clear c18
        by_cases c19 : x28_2 < (t284.length : Int)
        ·rw [if_pos c19] at H
         have c19b0 : decide (x28_2 < (t284.length : Int)) = true := decide_eq_true c19
         clear c19
         by_cases c20 : 0 ≤ (rd t284 x28_2)
         ·rw [if_pos c20] at H
          have c20b0 : decide (0 ≤ (rd t284 x28_2)) = true := decide_eq_true c20
          clear c20
          by_cases c21 : (rd t284 x28_2) < (l0.length : Int)
          ·rw [if_pos c21] at H
           have c21b0 : decide ((rd t284 x28_2) < (l0.length : Int)) = true := decide_eq_true c21
           clear c21
           by_cases c22 : x28_2 < (t281.length : Int)
           ·rw [if_pos c22] at H
            have c22b0 : decide (x28_2 < (t281.length : Int)) = true := decide_eq_true c22
            clear c22
            by_cases c23 : 0 ≤ (rd t281 x28_2)
            ·rw [if_pos c23] at H
             have c23b0 : decide (0 ≤ (rd t281 x28_2)) = true := decide_eq_true c23
             clear c23
             by_cases c24 : (rd t281 x28_2) < (l1.length : Int)
             ·rw [if_pos c24] at H
              have c24b0 : decide ((rd t281 x28_2) < (l1.length : Int)) = true := decide_eq_true c24
              clear c24
              replace H := Option.bind_eq_some_iff.mp H
              obtain ⟨t291, A250, H⟩ := H
              replace H : (if t291 = true then (impl_SameTree.l0 k2 l0 l1 t281 t284 (t284.length : Int) (wrap64 (x28_2 + 1))) else (some false)) = some r := H
              have A25 := Aside0.mk A250
              clear A250
              by_cases c26 : t291 = true
              ·subst c26
               have H1 : (impl_SameTree.l0 k2 l0 l1 t281 t284 (t284.length : Int) (wrap64 (x28_2 + 1))) = some r := by rw [if_pos rfl] at H; exact H
               clear H
               have H := H1
               clear H1
               have H' := Aside0.mk H
               clear H
               have p287 : 0 ≤ (x28_2 : Int) := of_decide_eq_true (by first | (with_reducible assumption) | assumption)
               have q287 : x28_2 < (t284.length : Int) := of_decide_eq_true (by first | (with_reducible assumption) | assumption)
               obtain ⟨ad287, e287, hx287_0⟩ := Kd.at_int (Kd.R_reads' HO_26.out).2.2 x28_2 p287 q287
               cases e287
               replace p287 := eq_true p287
               replace q287 := eq_true q287
               try go_wp2
               have n0_ := Aside0.mk (Kd.R_drew HO_5.out)
               have n1_ := Aside0.mk (Kd.R_drew HO_26.out)
               have n2_ := Aside0.mk (b1_ HB.out)
               clear HO_5
               clear HO_26
               clear HB
               have HO_5 := n0_
               have HO_26 := n1_
               have HB := n2_
               clear n0_ n1_ n2_
               have p288 : 0 ≤ ((rd t284 x28_2) : Int) := of_decide_eq_true (by first | (with_reducible assumption) | assumption)
               have q288 : (rd t284 x28_2) < (l0.length : Int) := of_decide_eq_true (by first | (with_reducible assumption) | assumption)
               obtain ⟨ad288, A288_3, c288_3, A288_6, c288_6, e288, hx288_0, hx288_1, hx288_2, hx288_3, hx288_4, hx288_5, hx288_6, hl288_3, hi288_3, hl288_6, hi288_6⟩ := at_T44 HR0.out (rd t284 x28_2) p288 q288
               have hw288_6 := hx288_6
               have hw288_5 := hx288_5
               have hw288_4 := hx288_4
               have hw288_3 := hx288_3
               have hw288_2 := hx288_2
               have hw288_1 := hx288_1
               have hw288_0 := hx288_0
               cases e288
               replace hx288_0 := pw_cell_below HB.out hx288_0
               replace hx288_1 := pw_cell_below HB.out hx288_1
               replace hx288_2 := pw_cell_below HB.out hx288_2
               replace hx288_3 := pw_cell_below HB.out hx288_3
               replace hx288_4 := pw_cell_below HB.out hx288_4
               replace hx288_5 := pw_cell_below HB.out hx288_5
               replace hx288_6 := pw_cell_below HB.out hx288_6
               have HR288_3 := Aside0.mk hi288_3
               have HC288_3 := Aside0.mk hl288_3
               clear hi288_3 hl288_3
               have HR288_6 := Aside0.mk hi288_6
               have HC288_6 := Aside0.mk hl288_6
               clear hi288_6 hl288_6
               replace p288 := eq_true p288
               replace q288 := eq_true q288
               obtain ⟨Ao28, co28, eo28⟩ := Kd.R_slice HO_5.out
               (first | subst eo28 | (injection eo28 with f1_ f2_ f3_; have f4_ := f1_.symm; have f5_ := f3_.symm; clear f1_ f2_ f3_; subst f4_; subst f5_))
               have p289 : 0 ≤ (x28_2 : Int) := of_decide_eq_true (by first | (with_reducible assumption) | assumption)
               have q289 : x28_2 < (t281.length : Int) := of_decide_eq_true (by first | (with_reducible assumption) | assumption)
               obtain ⟨ad289, e289, hx289_0⟩ := Kd.at_int (Kd.R_reads' HO_5.out).2.2 x28_2 p289 q289
               cases e289
               replace p289 := eq_true p289
               replace q289 := eq_true q289
               have p290 : 0 ≤ ((rd t281 x28_2) : Int) := of_decide_eq_true (by first | (with_reducible assumption) | assumption)
               have q290 : (rd t281 x28_2) < (l1.length : Int) := of_decide_eq_true (by first | (with_reducible assumption) | assumption)
               obtain ⟨ad290, A290_3, c290_3, A290_6, c290_6, e290, hx290_0, hx290_1, hx290_2, hx290_3, hx290_4, hx290_5, hx290_6, hl290_3, hi290_3, hl290_6, hi290_6⟩ := at_T44 HR1.out (rd t281 x28_2) p290 q290
               have hw290_6 := hx290_6
               have hw290_5 := hx290_5
               have hw290_4 := hx290_4
               have hw290_3 := hx290_3
               have hw290_2 := hx290_2
               have hw290_1 := hx290_1
               have hw290_0 := hx290_0
               cases e290
               replace hx290_0 := pw_cell_below HB.out hx290_0
               replace hx290_1 := pw_cell_below HB.out hx290_1
               replace hx290_2 := pw_cell_below HB.out hx290_2
               replace hx290_3 := pw_cell_below HB.out hx290_3
               replace hx290_4 := pw_cell_below HB.out hx290_4
               replace hx290_5 := pw_cell_below HB.out hx290_5
               replace hx290_6 := pw_cell_below HB.out hx290_6
               have HR290_3 := Aside0.mk hi290_3
               have HC290_3 := Aside0.mk hl290_3
               clear hi290_3 hl290_3
               have HR290_6 := Aside0.mk hi290_6
               have HC290_6 := Aside0.mk hl290_6
               clear hi290_6 hl290_6
               replace p290 := eq_true p290
               replace q290 := eq_true q290
               refine start_ (n := 13) (S := fun w' => w'.cell? (ad288.add (((rd t284 x28_2)).toNat * 7)) = some (.int .i64 ((rd_T44 l0 (rd t284 x28_2)).f0)) ∧ w'.cell? ⟨(ad288.add (((rd t284 x28_2)).toNat * 7)).block, (ad288.add (((rd t284 x28_2)).toNat * 7)).off + 1, none⟩ = some (.int .i64 ((rd_T44 l0 (rd t284 x28_2)).f1)) ∧ w'.cell? ⟨(ad288.add (((rd t284 x28_2)).toNat * 7)).block, (ad288.add (((rd t284 x28_2)).toNat * 7)).off + 2, none⟩ = some (.string ((rd_T44 l0 (rd t284 x28_2)).f2)) ∧ w'.cell? ⟨(ad288.add (((rd t284 x28_2)).toNat * 7)).block, (ad288.add (((rd t284 x28_2)).toNat * 7)).off + 3, none⟩ = some (.slice A288_3 ((rd_T44 l0 (rd t284 x28_2)).f3).length c288_3) ∧ w'.cell? ⟨(ad288.add (((rd t284 x28_2)).toNat * 7)).block, (ad288.add (((rd t284 x28_2)).toNat * 7)).off + 4, none⟩ = some (.string ((rd_T44 l0 (rd t284 x28_2)).f4)) ∧ w'.cell? ⟨(ad288.add (((rd t284 x28_2)).toNat * 7)).block, (ad288.add (((rd t284 x28_2)).toNat * 7)).off + 5, none⟩ = some (.int .i64 ((rd_T44 l0 (rd t284 x28_2)).f5)) ∧ w'.cell? ⟨(ad288.add (((rd t284 x28_2)).toNat * 7)).block, (ad288.add (((rd t284 x28_2)).toNat * 7)).off + 6, none⟩ = some (.slice A288_6 ((rd_T44 l0 (rd t284 x28_2)).f6).length c288_6) ∧ w'.cell? (ad289.add (x28_2).toNat) = some (.int .i64 (rd t281 x28_2)) ∧ w'.cell? (ad290.add (((rd t281 x28_2)).toNat * 7)) = some (.int .i64 ((rd_T44 l1 (rd t281 x28_2)).f0)) ∧ w'.cell? ⟨(ad290.add (((rd t281 x28_2)).toNat * 7)).block, (ad290.add (((rd t281 x28_2)).toNat * 7)).off + 1, none⟩ = some (.int .i64 ((rd_T44 l1 (rd t281 x28_2)).f1)) ∧ w'.cell? ⟨(ad290.add (((rd t281 x28_2)).toNat * 7)).block, (ad290.add (((rd t281 x28_2)).toNat * 7)).off + 2, none⟩ = some (.string ((rd_T44 l1 (rd t281 x28_2)).f2)) ∧ w'.cell? ⟨(ad290.add (((rd t281 x28_2)).toNat * 7)).block, (ad290.add (((rd t281 x28_2)).toNat * 7)).off + 3, none⟩ = some (.slice A290_3 ((rd_T44 l1 (rd t281 x28_2)).f3).length c290_3) ∧ w'.cell? ⟨(ad290.add (((rd t281 x28_2)).toNat * 7)).block, (ad290.add (((rd t281 x28_2)).toNat * 7)).off + 4, none⟩ = some (.string ((rd_T44 l1 (rd t281 x28_2)).f4)) ∧ w'.cell? ⟨(ad290.add (((rd t281 x28_2)).toNat * 7)).block, (ad290.add (((rd t281 x28_2)).toNat * 7)).off + 5, none⟩ = some (.int .i64 ((rd_T44 l1 (rd t281 x28_2)).f5)) ∧ w'.cell? ⟨(ad290.add (((rd t281 x28_2)).toNat * 7)).block, (ad290.add (((rd t281 x28_2)).toNat * 7)).off + 6, none⟩ = some (.slice A290_6 ((rd_T44 l1 (rd t281 x28_2)).f6).length c290_6)) (ds := []) q12_0 (by kernel_rfl) rfl rfl ⟨(pw_cell_below HB.out hw288_0), (pw_cell_below HB.out hw288_1), (pw_cell_below HB.out hw288_2), (pw_cell_below HB.out hw288_3), (pw_cell_below HB.out hw288_4), (pw_cell_below HB.out hw288_5), (pw_cell_below HB.out hw288_6), hx289_0, (pw_cell_below HB.out hw290_0), (pw_cell_below HB.out hw290_1), (pw_cell_below HB.out hw290_2), (pw_cell_below HB.out hw290_3), (pw_cell_below HB.out hw290_4), (pw_cell_below HB.out hw290_5), (pw_cell_below HB.out hw290_6)⟩ (fun hHeld => ?_); refine with_tabW impl_SameTree.tab7 impl_SameTree.bits7 (fun HT_ HW_ => ?_)
               generalize wr.drew = w27 at HO_5 HO_26 HB HR288_3 HR288_6 HR290_3 HR290_6 hx288_0 hx288_1 hx288_2 hx288_3 hx288_4 hx288_5 hx288_6 hx289_0 hx290_0 hx290_1 hx290_2 hx290_3 hx290_4 hx290_5 hx290_6 hHeld ⊢
               refine pure_ (i := 0) (N := some 33) (v := ?_) (a' := ?_) q12_1 rfl rfl (any_of HT_.out (by kernel_rfl)) (fun _ _ _ h => h) (Or.inl ⟨by rfl, ?_⟩) ?_ ?_
               rotate_left;(intro w';go_simp;with_reducible rfl);rotate_left;(simp only [Act.put, sa_, sz_, ss_, i64_w, i32_w];rfl)
               refine pure_ (i := 1) (N := some 34) (v := ?_) (a' := ?_) q12_2 rfl rfl (any_of HT_.out (by kernel_rfl)) (fun _ _ _ h => h) (Or.inl ⟨by rfl, ?_⟩) ?_ ?_
               rotate_left;(intro w';go_simp;with_reducible rfl);rotate_left;(simp only [Act.put, sa_, sz_, ss_, i64_w, i32_w];rfl)
               refine pure_ (i := 2) (N := some 35) (v := ?_) (a' := ?_) q12_3 rfl rfl (any_of HT_.out (by kernel_rfl)) (fun _ _ _ h => h) (Or.inl ⟨by rfl, ?_⟩) ?_ ?_
               rotate_left;(intro w';go_simp;with_reducible rfl);rotate_left;(simp only [Act.put, sa_, sz_, ss_, i64_w, i32_w];rfl)
               refine pure_ (i := 4) (N := some 37) (v := ?_) (a' := ?_) q12_4 rfl rfl (any_of HT_.out (by kernel_rfl)) (fun _ _ _ h => h) (Or.inl ⟨by rfl, ?_⟩) ?_ ?_
               rotate_left;(intro w';go_simp;with_reducible rfl);rotate_left;(simp only [Act.put, sa_, sz_, ss_, i64_w, i32_w];rfl)
               refine pure_ (i := 5) (N := some 38) (v := ?_) (a' := ?_) q12_5 rfl rfl (any_of HT_.out (by kernel_rfl)) (fun _ _ _ h => h) (Or.inl ⟨by rfl, ?_⟩) ?_ ?_
               rotate_left;(intro w';go_simp;with_reducible rfl);rotate_left;(simp only [Act.put, sa_, sz_, ss_, i64_w, i32_w];rfl)
               refine pure_ (i := 6) (N := some 39) (v := ?_) (a' := ?_) q12_6 rfl rfl (any_of HT_.out (by kernel_rfl)) (fun _ _ _ h => h) (Or.inl ⟨by rfl, ?_⟩) ?_ ?_
               rotate_left;(intro w';go_simp;with_reducible rfl);rotate_left;(simp only [Act.put, sa_, sz_, ss_, i64_w, i32_w];rfl)
               refine pure_ (i := 7) (N := some 40) (v := ?_) (a' := ?_) q12_7 rfl rfl (any_of HT_.out (by kernel_rfl)) (fun _ _ _ h => h) (Or.inl ⟨by rfl, ?_⟩) ?_ ?_
               rotate_left;(intro w';go_simp;with_reducible rfl);rotate_left;(simp only [Act.put, sa_, sz_, ss_, i64_w, i32_w];rfl)
               refine take_ (i := 3) (N := some 36) (v := ?_) (a' := ?_) q12_8 rfl rfl (take_ofW HT_.out HW_.out (by kernel_rfl)) (fun _ _ _ h => h) (Or.inl ⟨by rfl, ?_⟩) hHeld ?_ ?_
               rotate_left;(rintro w' ⟨s0, s1, s2, s3, s4, s5, s6, s7, s8, s9, s10, s11, s12, s13, s14⟩;go_simp;with_reducible rfl);rotate_left;(simp only [Act.put, sa_, sz_, ss_, i64_w, i32_w];rfl)
               refine take_ (i := 8) (N := some 41) (v := ?_) (a' := ?_) q12_9 rfl rfl (take_ofW HT_.out HW_.out (by kernel_rfl)) (fun _ _ _ h => h) (Or.inl ⟨by rfl, ?_⟩) hHeld ?_ ?_
               rotate_left;(rintro w' ⟨s0, s1, s2, s3, s4, s5, s6, s7, s8, s9, s10, s11, s12, s13, s14⟩;go_simp;with_reducible rfl);rotate_left;(simp only [Act.put, sa_, sz_, ss_, i64_w, i32_w];rfl)
               refine pure_ (i := 9) (N := some 42) (v := ?_) (a' := ?_) q12_10 rfl rfl (any_of HT_.out (by kernel_rfl)) (fun _ _ _ h => h) (Or.inl ⟨by rfl, ?_⟩) ?_ ?_
               rotate_left;(intro w';go_simp;with_reducible rfl);rotate_left;(simp only [Act.put, sa_, sz_, ss_, i64_w, i32_w];rfl)
               refine take_ (i := 10) (N := some 43) (v := ?_) (a' := ?_) q12_11 rfl rfl (take_ofW HT_.out HW_.out (by kernel_rfl)) (fun _ _ _ h => h) (Or.inl ⟨by rfl, ?_⟩) hHeld ?_ ?_
               rotate_left;(rintro w' ⟨s0, s1, s2, s3, s4, s5, s6, s7, s8, s9, s10, s11, s12, s13, s14⟩;go_simp;with_reducible rfl);rotate_left;(simp only [Act.put, sa_, sz_, ss_, i64_w, i32_w];rfl)
               refine one_ (i := 11) (N := some 44) q12_12 rfl rfl (one_of HT_.out (by kernel_rfl)) (by decide) (fun K hK => ?_)
               refine goes_ Try.func69 (by kernel_rfl) rfl #[.agg #[.int .i64 ((rd_T44 l0 (rd t284 x28_2)).f0), .int .i64 ((rd_T44 l0 (rd t284 x28_2)).f1), .string ((rd_T44 l0 (rd t284 x28_2)).f2), .slice A288_3 ((rd_T44 l0 (rd t284 x28_2)).f3).length c288_3, .string ((rd_T44 l0 (rd t284 x28_2)).f4), .int .i64 ((rd_T44 l0 (rd t284 x28_2)).f5), .slice A288_6 ((rd_T44 l0 (rd t284 x28_2)).f6).length c288_6], .agg #[.int .i64 ((rd_T44 l1 (rd t281 x28_2)).f0), .int .i64 ((rd_T44 l1 (rd t281 x28_2)).f1), .string ((rd_T44 l1 (rd t281 x28_2)).f2), .slice A290_3 ((rd_T44 l1 (rd t281 x28_2)).f3).length c290_3, .string ((rd_T44 l1 (rd t281 x28_2)).f4), .int .i64 ((rd_T44 l1 (rd t281 x28_2)).f5), .slice A290_6 ((rd_T44 l1 (rd t281 x28_2)).f6).length c290_6]] (by rfl) rfl rfl (by (try simp only [List.map_toArray, List.map_cons, List.map_nil]); first | done | rfl | (simp only [List.length_drop, List.length_take]; rfl)) ?_
               with_reducible refine (impl_sameItem.calls k2 ((rd_T44 l0 (rd t284 x28_2)).f0) ((rd_T44 l0 (rd t284 x28_2)).f1) ((rd_T44 l0 (rd t284 x28_2)).f2) _ _ ((rd_T44 l0 (rd t284 x28_2)).f3) ((rd_T44 l0 (rd t284 x28_2)).f4) ((rd_T44 l0 (rd t284 x28_2)).f5) _ _ ((rd_T44 l0 (rd t284 x28_2)).f6) ((rd_T44 l1 (rd t281 x28_2)).f0) ((rd_T44 l1 (rd t281 x28_2)).f1) ((rd_T44 l1 (rd t281 x28_2)).f2) _ _ ((rd_T44 l1 (rd t281 x28_2)).f3) ((rd_T44 l1 (rd t281 x28_2)).f4) ((rd_T44 l1 (rd t281 x28_2)).f5) _ _ ((rd_T44 l1 (rd t281 x28_2)).f6) true _ ?side1 ?side2 ?side3 ?side4 ?side5 ?side6 ?side7 ?side8 A25.out).mono ?_
               (case side1 => repeat (first | exact (Kd.C_below HR288_3.out HB.out) | (with_reducible refine ca_ ?_ _) | (with_reducible refine cn_ ?_ _) | (with_reducible refine cd_ ?_)))
               (case side2 => exact HC288_3.out)
               (case side3 => repeat (first | exact (Kd.C_below HR288_6.out HB.out) | (with_reducible refine ca_ ?_ _) | (with_reducible refine cn_ ?_ _) | (with_reducible refine cd_ ?_)))
               (case side4 => exact HC288_6.out)
               (case side5 => repeat (first | exact (Kd.C_below HR290_3.out HB.out) | (with_reducible refine ca_ ?_ _) | (with_reducible refine cn_ ?_ _) | (with_reducible refine cd_ ?_)))
               (case side6 => exact HC290_3.out)
               (case side7 => repeat (first | exact (Kd.C_below HR290_6.out HB.out) | (with_reducible refine ca_ ?_ _) | (with_reducible refine cn_ ?_ _) | (with_reducible refine cd_ ?_)))
               (case side8 => exact HC290_6.out)
               rintro e w29 ⟨rfl, hb⟩
               have HS7_ := (hb.cell (World.block_lt_of_cell? _ _ (hHeld.2.2.2.2.2.2.2.1))).trans (hHeld.2.2.2.2.2.2.2.1)
               refine ⟨_, rfl, ?_⟩
               have n0_ := Aside0.mk (Kd.R_below (by (with_reducible repeat (first | apply Kd.R_alloc | apply Kd.R_drewN | apply Kd.R_drew)); exact HO_5.out) hb)
               have n1_ := Aside0.mk (Kd.R_below (by (with_reducible repeat (first | apply Kd.R_alloc | apply Kd.R_drewN | apply Kd.R_drew)); exact HO_26.out) hb)
               have n2_ := Aside0.mk (below_step (by repeat (first | (with_reducible first | exact HB.out | apply ba_ | apply bn_ | apply b1_) | exact HB.out)) hb)
               clear HO_5
               clear HO_26
               clear HB
               have HO_5 := n0_
               have HO_26 := n1_
               have HB := n2_
               clear n0_ n1_ n2_
               (try clear hb)
               (try clear hb2)
               (try clear hk)
               (try clear hi)
               refine hK.out _ _ ⟨(pw_cell_below HB.out hw288_0), (pw_cell_below HB.out hw288_1), (pw_cell_below HB.out hw288_2), (pw_cell_below HB.out hw288_3), (pw_cell_below HB.out hw288_4), (pw_cell_below HB.out hw288_5), (pw_cell_below HB.out hw288_6), HS7_, (pw_cell_below HB.out hw290_0), (pw_cell_below HB.out hw290_1), (pw_cell_below HB.out hw290_2), (pw_cell_below HB.out hw290_3), (pw_cell_below HB.out hw290_4), (pw_cell_below HB.out hw290_5), (pw_cell_below HB.out hw290_6)⟩ (fun hHeld => ?_)
               clear hK K
               refine norm_ (a' := ?_) ?_ ?_
               rotate_left
               ·show Act.put _ (some 44) _ = _
                simp only [Act.put, sa_, sz_, ss_, i64_w, i32_w]
                rfl
               refine pure_ (i := 12) (N := some 45) (v := ?_) (a' := ?_) q12_13 rfl rfl (any_of HT_.out (by kernel_rfl)) (fun _ _ _ h => h) (Or.inl ⟨by rfl, ?_⟩) ?_ ?_
               rotate_left;(intro w';go_simp;with_reducible rfl);rotate_left;(simp only [Act.put, sa_, sz_, ss_, i64_w, i32_w];rfl)
               refine done_ (done_of HT_.out (by kernel_rfl)) ?_
               try go_wp2
               go_roundg k2
               case measure => have := HJ2.out; have := HK2.out; omega
               case rel => exact ⟨(wrap64 (x28_2 + 1)), (by first | rfl | (simp; done) | (simp [*]; done)), H', ⟨by have := HJ2.out; have := HK2.out; omega⟩, ⟨by (with_reducible repeat (first | apply Kd.R_alloc | apply Kd.R_drewN | apply Kd.R_drew)); exact HO_5.out⟩, ⟨by (with_reducible repeat (first | apply Kd.R_alloc | apply Kd.R_drewN | apply Kd.R_drew)); exact HO_26.out⟩, ⟨by repeat (first | (with_reducible first | exact HB.out | apply ba_ | apply bn_ | apply b1_) | exact HB.out)⟩⟩
              ·replace c26 := Bool.eq_false_iff.mpr c26
               subst c26
               have H1 : (some false) = some r := by rw [if_neg (show ¬ (false = true) by decide)] at H; exact H
               clear H
               have H := H1
               clear H1
               obtain rfl := Option.some.inj H
               have p287 : 0 ≤ (x28_2 : Int) := of_decide_eq_true (by first | (with_reducible assumption) | assumption)
               have q287 : x28_2 < (t284.length : Int) := of_decide_eq_true (by first | (with_reducible assumption) | assumption)
               obtain ⟨ad287, e287, hx287_0⟩ := Kd.at_int (Kd.R_reads' HO_26.out).2.2 x28_2 p287 q287
               cases e287
               replace p287 := eq_true p287
               replace q287 := eq_true q287
               try go_wp2
               have n0_ := Aside0.mk (Kd.R_drew HO_5.out)
               have n1_ := Aside0.mk (Kd.R_drew HO_26.out)
               have n2_ := Aside0.mk (b1_ HB.out)
               clear HO_5
               clear HO_26
               clear HB
               have HO_5 := n0_
               have HO_26 := n1_
               have HB := n2_
               clear n0_ n1_ n2_
               have p288 : 0 ≤ ((rd t284 x28_2) : Int) := of_decide_eq_true (by first | (with_reducible assumption) | assumption)
               have q288 : (rd t284 x28_2) < (l0.length : Int) := of_decide_eq_true (by first | (with_reducible assumption) | assumption)
               obtain ⟨ad288, A288_3, c288_3, A288_6, c288_6, e288, hx288_0, hx288_1, hx288_2, hx288_3, hx288_4, hx288_5, hx288_6, hl288_3, hi288_3, hl288_6, hi288_6⟩ := at_T44 HR0.out (rd t284 x28_2) p288 q288
               have hw288_6 := hx288_6
               have hw288_5 := hx288_5
               have hw288_4 := hx288_4
               have hw288_3 := hx288_3
               have hw288_2 := hx288_2
               have hw288_1 := hx288_1
               have hw288_0 := hx288_0
               cases e288
               replace hx288_0 := pw_cell_below HB.out hx288_0
               replace hx288_1 := pw_cell_below HB.out hx288_1
               replace hx288_2 := pw_cell_below HB.out hx288_2
               replace hx288_3 := pw_cell_below HB.out hx288_3
               replace hx288_4 := pw_cell_below HB.out hx288_4
               replace hx288_5 := pw_cell_below HB.out hx288_5
               replace hx288_6 := pw_cell_below HB.out hx288_6
               have HR288_3 := Aside0.mk hi288_3
               have HC288_3 := Aside0.mk hl288_3
               clear hi288_3 hl288_3
               have HR288_6 := Aside0.mk hi288_6
               have HC288_6 := Aside0.mk hl288_6
               clear hi288_6 hl288_6
               replace p288 := eq_true p288
               replace q288 := eq_true q288
               obtain ⟨Ao31, co31, eo31⟩ := Kd.R_slice HO_5.out
               (first | subst eo31 | (injection eo31 with f1_ f2_ f3_; have f4_ := f1_.symm; have f5_ := f3_.symm; clear f1_ f2_ f3_; subst f4_; subst f5_))
               have p289 : 0 ≤ (x28_2 : Int) := of_decide_eq_true (by first | (with_reducible assumption) | assumption)
               have q289 : x28_2 < (t281.length : Int) := of_decide_eq_true (by first | (with_reducible assumption) | assumption)
               obtain ⟨ad289, e289, hx289_0⟩ := Kd.at_int (Kd.R_reads' HO_5.out).2.2 x28_2 p289 q289
               cases e289
               replace p289 := eq_true p289
               replace q289 := eq_true q289
               have p290 : 0 ≤ ((rd t281 x28_2) : Int) := of_decide_eq_true (by first | (with_reducible assumption) | assumption)
               have q290 : (rd t281 x28_2) < (l1.length : Int) := of_decide_eq_true (by first | (with_reducible assumption) | assumption)
               obtain ⟨ad290, A290_3, c290_3, A290_6, c290_6, e290, hx290_0, hx290_1, hx290_2, hx290_3, hx290_4, hx290_5, hx290_6, hl290_3, hi290_3, hl290_6, hi290_6⟩ := at_T44 HR1.out (rd t281 x28_2) p290 q290
               have hw290_6 := hx290_6
               have hw290_5 := hx290_5
               have hw290_4 := hx290_4
               have hw290_3 := hx290_3
               have hw290_2 := hx290_2
               have hw290_1 := hx290_1
               have hw290_0 := hx290_0
               cases e290
               replace hx290_0 := pw_cell_below HB.out hx290_0
               replace hx290_1 := pw_cell_below HB.out hx290_1
               replace hx290_2 := pw_cell_below HB.out hx290_2
               replace hx290_3 := pw_cell_below HB.out hx290_3
               replace hx290_4 := pw_cell_below HB.out hx290_4
               replace hx290_5 := pw_cell_below HB.out hx290_5
               replace hx290_6 := pw_cell_below HB.out hx290_6
               have HR290_3 := Aside0.mk hi290_3
               have HC290_3 := Aside0.mk hl290_3
               clear hi290_3 hl290_3
               have HR290_6 := Aside0.mk hi290_6
               have HC290_6 := Aside0.mk hl290_6
               clear hi290_6 hl290_6
               replace p290 := eq_true p290
               replace q290 := eq_true q290
               refine start_ (n := 13) (S := fun w' => w'.cell? (ad288.add (((rd t284 x28_2)).toNat * 7)) = some (.int .i64 ((rd_T44 l0 (rd t284 x28_2)).f0)) ∧ w'.cell? ⟨(ad288.add (((rd t284 x28_2)).toNat * 7)).block, (ad288.add (((rd t284 x28_2)).toNat * 7)).off + 1, none⟩ = some (.int .i64 ((rd_T44 l0 (rd t284 x28_2)).f1)) ∧ w'.cell? ⟨(ad288.add (((rd t284 x28_2)).toNat * 7)).block, (ad288.add (((rd t284 x28_2)).toNat * 7)).off + 2, none⟩ = some (.string ((rd_T44 l0 (rd t284 x28_2)).f2)) ∧ w'.cell? ⟨(ad288.add (((rd t284 x28_2)).toNat * 7)).block, (ad288.add (((rd t284 x28_2)).toNat * 7)).off + 3, none⟩ = some (.slice A288_3 ((rd_T44 l0 (rd t284 x28_2)).f3).length c288_3) ∧ w'.cell? ⟨(ad288.add (((rd t284 x28_2)).toNat * 7)).block, (ad288.add (((rd t284 x28_2)).toNat * 7)).off + 4, none⟩ = some (.string ((rd_T44 l0 (rd t284 x28_2)).f4)) ∧ w'.cell? ⟨(ad288.add (((rd t284 x28_2)).toNat * 7)).block, (ad288.add (((rd t284 x28_2)).toNat * 7)).off + 5, none⟩ = some (.int .i64 ((rd_T44 l0 (rd t284 x28_2)).f5)) ∧ w'.cell? ⟨(ad288.add (((rd t284 x28_2)).toNat * 7)).block, (ad288.add (((rd t284 x28_2)).toNat * 7)).off + 6, none⟩ = some (.slice A288_6 ((rd_T44 l0 (rd t284 x28_2)).f6).length c288_6) ∧ w'.cell? (ad289.add (x28_2).toNat) = some (.int .i64 (rd t281 x28_2)) ∧ w'.cell? (ad290.add (((rd t281 x28_2)).toNat * 7)) = some (.int .i64 ((rd_T44 l1 (rd t281 x28_2)).f0)) ∧ w'.cell? ⟨(ad290.add (((rd t281 x28_2)).toNat * 7)).block, (ad290.add (((rd t281 x28_2)).toNat * 7)).off + 1, none⟩ = some (.int .i64 ((rd_T44 l1 (rd t281 x28_2)).f1)) ∧ w'.cell? ⟨(ad290.add (((rd t281 x28_2)).toNat * 7)).block, (ad290.add (((rd t281 x28_2)).toNat * 7)).off + 2, none⟩ = some (.string ((rd_T44 l1 (rd t281 x28_2)).f2)) ∧ w'.cell? ⟨(ad290.add (((rd t281 x28_2)).toNat * 7)).block, (ad290.add (((rd t281 x28_2)).toNat * 7)).off + 3, none⟩ = some (.slice A290_3 ((rd_T44 l1 (rd t281 x28_2)).f3).length c290_3) ∧ w'.cell? ⟨(ad290.add (((rd t281 x28_2)).toNat * 7)).block, (ad290.add (((rd t281 x28_2)).toNat * 7)).off + 4, none⟩ = some (.string ((rd_T44 l1 (rd t281 x28_2)).f4)) ∧ w'.cell? ⟨(ad290.add (((rd t281 x28_2)).toNat * 7)).block, (ad290.add (((rd t281 x28_2)).toNat * 7)).off + 5, none⟩ = some (.int .i64 ((rd_T44 l1 (rd t281 x28_2)).f5)) ∧ w'.cell? ⟨(ad290.add (((rd t281 x28_2)).toNat * 7)).block, (ad290.add (((rd t281 x28_2)).toNat * 7)).off + 6, none⟩ = some (.slice A290_6 ((rd_T44 l1 (rd t281 x28_2)).f6).length c290_6)) (ds := []) q12_0 (by kernel_rfl) rfl rfl ⟨(pw_cell_below HB.out hw288_0), (pw_cell_below HB.out hw288_1), (pw_cell_below HB.out hw288_2), (pw_cell_below HB.out hw288_3), (pw_cell_below HB.out hw288_4), (pw_cell_below HB.out hw288_5), (pw_cell_below HB.out hw288_6), hx289_0, (pw_cell_below HB.out hw290_0), (pw_cell_below HB.out hw290_1), (pw_cell_below HB.out hw290_2), (pw_cell_below HB.out hw290_3), (pw_cell_below HB.out hw290_4), (pw_cell_below HB.out hw290_5), (pw_cell_below HB.out hw290_6)⟩ (fun hHeld => ?_); refine with_tabW impl_SameTree.tab7 impl_SameTree.bits7 (fun HT_ HW_ => ?_)
               generalize wr.drew = w30 at HO_5 HO_26 HB HR288_3 HR288_6 HR290_3 HR290_6 hx288_0 hx288_1 hx288_2 hx288_3 hx288_4 hx288_5 hx288_6 hx289_0 hx290_0 hx290_1 hx290_2 hx290_3 hx290_4 hx290_5 hx290_6 hHeld ⊢
               refine pure_ (i := 0) (N := some 33) (v := ?_) (a' := ?_) q12_1 rfl rfl (any_of HT_.out (by kernel_rfl)) (fun _ _ _ h => h) (Or.inl ⟨by rfl, ?_⟩) ?_ ?_
               rotate_left;(intro w';go_simp;with_reducible rfl);rotate_left;(simp only [Act.put, sa_, sz_, ss_, i64_w, i32_w];rfl)
               refine pure_ (i := 1) (N := some 34) (v := ?_) (a' := ?_) q12_2 rfl rfl (any_of HT_.out (by kernel_rfl)) (fun _ _ _ h => h) (Or.inl ⟨by rfl, ?_⟩) ?_ ?_
               rotate_left;(intro w';go_simp;with_reducible rfl);rotate_left;(simp only [Act.put, sa_, sz_, ss_, i64_w, i32_w];rfl)
               refine pure_ (i := 2) (N := some 35) (v := ?_) (a' := ?_) q12_3 rfl rfl (any_of HT_.out (by kernel_rfl)) (fun _ _ _ h => h) (Or.inl ⟨by rfl, ?_⟩) ?_ ?_
               rotate_left;(intro w';go_simp;with_reducible rfl);rotate_left;(simp only [Act.put, sa_, sz_, ss_, i64_w, i32_w];rfl)
               refine pure_ (i := 4) (N := some 37) (v := ?_) (a' := ?_) q12_4 rfl rfl (any_of HT_.out (by kernel_rfl)) (fun _ _ _ h => h) (Or.inl ⟨by rfl, ?_⟩) ?_ ?_
               rotate_left;(intro w';go_simp;with_reducible rfl);rotate_left;(simp only [Act.put, sa_, sz_, ss_, i64_w, i32_w];rfl)
               refine pure_ (i := 5) (N := some 38) (v := ?_) (a' := ?_) q12_5 rfl rfl (any_of HT_.out (by kernel_rfl)) (fun _ _ _ h => h) (Or.inl ⟨by rfl, ?_⟩) ?_ ?_
               rotate_left;(intro w';go_simp;with_reducible rfl);rotate_left;(simp only [Act.put, sa_, sz_, ss_, i64_w, i32_w];rfl)
               refine pure_ (i := 6) (N := some 39) (v := ?_) (a' := ?_) q12_6 rfl rfl (any_of HT_.out (by kernel_rfl)) (fun _ _ _ h => h) (Or.inl ⟨by rfl, ?_⟩) ?_ ?_
               rotate_left;(intro w';go_simp;with_reducible rfl);rotate_left;(simp only [Act.put, sa_, sz_, ss_, i64_w, i32_w];rfl)
               refine pure_ (i := 7) (N := some 40) (v := ?_) (a' := ?_) q12_7 rfl rfl (any_of HT_.out (by kernel_rfl)) (fun _ _ _ h => h) (Or.inl ⟨by rfl, ?_⟩) ?_ ?_
               rotate_left;(intro w';go_simp;with_reducible rfl);rotate_left;(simp only [Act.put, sa_, sz_, ss_, i64_w, i32_w];rfl)
               refine take_ (i := 3) (N := some 36) (v := ?_) (a' := ?_) q12_8 rfl rfl (take_ofW HT_.out HW_.out (by kernel_rfl)) (fun _ _ _ h => h) (Or.inl ⟨by rfl, ?_⟩) hHeld ?_ ?_
               rotate_left;(rintro w' ⟨s0, s1, s2, s3, s4, s5, s6, s7, s8, s9, s10, s11, s12, s13, s14⟩;go_simp;with_reducible rfl);rotate_left;(simp only [Act.put, sa_, sz_, ss_, i64_w, i32_w];rfl)
               refine take_ (i := 8) (N := some 41) (v := ?_) (a' := ?_) q12_9 rfl rfl (take_ofW HT_.out HW_.out (by kernel_rfl)) (fun _ _ _ h => h) (Or.inl ⟨by rfl, ?_⟩) hHeld ?_ ?_
               rotate_left;(rintro w' ⟨s0, s1, s2, s3, s4, s5, s6, s7, s8, s9, s10, s11, s12, s13, s14⟩;go_simp;with_reducible rfl);rotate_left;(simp only [Act.put, sa_, sz_, ss_, i64_w, i32_w];rfl)
               refine pure_ (i := 9) (N := some 42) (v := ?_) (a' := ?_) q12_10 rfl rfl (any_of HT_.out (by kernel_rfl)) (fun _ _ _ h => h) (Or.inl ⟨by rfl, ?_⟩) ?_ ?_
               rotate_left;(intro w';go_simp;with_reducible rfl);rotate_left;(simp only [Act.put, sa_, sz_, ss_, i64_w, i32_w];rfl)
               refine take_ (i := 10) (N := some 43) (v := ?_) (a' := ?_) q12_11 rfl rfl (take_ofW HT_.out HW_.out (by kernel_rfl)) (fun _ _ _ h => h) (Or.inl ⟨by rfl, ?_⟩) hHeld ?_ ?_
               rotate_left;(rintro w' ⟨s0, s1, s2, s3, s4, s5, s6, s7, s8, s9, s10, s11, s12, s13, s14⟩;go_simp;with_reducible rfl);rotate_left;(simp only [Act.put, sa_, sz_, ss_, i64_w, i32_w];rfl)
               refine one_ (i := 11) (N := some 44) q12_12 rfl rfl (one_of HT_.out (by kernel_rfl)) (by decide) (fun K hK => ?_)
               refine goes_ Try.func69 (by kernel_rfl) rfl #[.agg #[.int .i64 ((rd_T44 l0 (rd t284 x28_2)).f0), .int .i64 ((rd_T44 l0 (rd t284 x28_2)).f1), .string ((rd_T44 l0 (rd t284 x28_2)).f2), .slice A288_3 ((rd_T44 l0 (rd t284 x28_2)).f3).length c288_3, .string ((rd_T44 l0 (rd t284 x28_2)).f4), .int .i64 ((rd_T44 l0 (rd t284 x28_2)).f5), .slice A288_6 ((rd_T44 l0 (rd t284 x28_2)).f6).length c288_6], .agg #[.int .i64 ((rd_T44 l1 (rd t281 x28_2)).f0), .int .i64 ((rd_T44 l1 (rd t281 x28_2)).f1), .string ((rd_T44 l1 (rd t281 x28_2)).f2), .slice A290_3 ((rd_T44 l1 (rd t281 x28_2)).f3).length c290_3, .string ((rd_T44 l1 (rd t281 x28_2)).f4), .int .i64 ((rd_T44 l1 (rd t281 x28_2)).f5), .slice A290_6 ((rd_T44 l1 (rd t281 x28_2)).f6).length c290_6]] (by rfl) rfl rfl (by (try simp only [List.map_toArray, List.map_cons, List.map_nil]); first | done | rfl | (simp only [List.length_drop, List.length_take]; rfl)) ?_
               with_reducible refine (impl_sameItem.calls k2 ((rd_T44 l0 (rd t284 x28_2)).f0) ((rd_T44 l0 (rd t284 x28_2)).f1) ((rd_T44 l0 (rd t284 x28_2)).f2) _ _ ((rd_T44 l0 (rd t284 x28_2)).f3) ((rd_T44 l0 (rd t284 x28_2)).f4) ((rd_T44 l0 (rd t284 x28_2)).f5) _ _ ((rd_T44 l0 (rd t284 x28_2)).f6) ((rd_T44 l1 (rd t281 x28_2)).f0) ((rd_T44 l1 (rd t281 x28_2)).f1) ((rd_T44 l1 (rd t281 x28_2)).f2) _ _ ((rd_T44 l1 (rd t281 x28_2)).f3) ((rd_T44 l1 (rd t281 x28_2)).f4) ((rd_T44 l1 (rd t281 x28_2)).f5) _ _ ((rd_T44 l1 (rd t281 x28_2)).f6) false _ ?side1 ?side2 ?side3 ?side4 ?side5 ?side6 ?side7 ?side8 A25.out).mono ?_
               (case side1 => repeat (first | exact (Kd.C_below HR288_3.out HB.out) | (with_reducible refine ca_ ?_ _) | (with_reducible refine cn_ ?_ _) | (with_reducible refine cd_ ?_)))
               (case side2 => exact HC288_3.out)
               (case side3 => repeat (first | exact (Kd.C_below HR288_6.out HB.out) | (with_reducible refine ca_ ?_ _) | (with_reducible refine cn_ ?_ _) | (with_reducible refine cd_ ?_)))
               (case side4 => exact HC288_6.out)
               (case side5 => repeat (first | exact (Kd.C_below HR290_3.out HB.out) | (with_reducible refine ca_ ?_ _) | (with_reducible refine cn_ ?_ _) | (with_reducible refine cd_ ?_)))
               (case side6 => exact HC290_3.out)
               (case side7 => repeat (first | exact (Kd.C_below HR290_6.out HB.out) | (with_reducible refine ca_ ?_ _) | (with_reducible refine cn_ ?_ _) | (with_reducible refine cd_ ?_)))
               (case side8 => exact HC290_6.out)
               rintro e w32 ⟨rfl, hb⟩
               have HS7_ := (hb.cell (World.block_lt_of_cell? _ _ (hHeld.2.2.2.2.2.2.2.1))).trans (hHeld.2.2.2.2.2.2.2.1)
               refine ⟨_, rfl, ?_⟩
               have n0_ := Aside0.mk (Kd.R_below (by (with_reducible repeat (first | apply Kd.R_alloc | apply Kd.R_drewN | apply Kd.R_drew)); exact HO_5.out) hb)
               have n1_ := Aside0.mk (Kd.R_below (by (with_reducible repeat (first | apply Kd.R_alloc | apply Kd.R_drewN | apply Kd.R_drew)); exact HO_26.out) hb)
               have n2_ := Aside0.mk (below_step (by repeat (first | (with_reducible first | exact HB.out | apply ba_ | apply bn_ | apply b1_) | exact HB.out)) hb)
               clear HO_5
               clear HO_26
               clear HB
               have HO_5 := n0_
               have HO_26 := n1_
               have HB := n2_
               clear n0_ n1_ n2_
               (try clear hb)
               (try clear hb2)
               (try clear hk)
               (try clear hi)
               refine hK.out _ _ ⟨(pw_cell_below HB.out hw288_0), (pw_cell_below HB.out hw288_1), (pw_cell_below HB.out hw288_2), (pw_cell_below HB.out hw288_3), (pw_cell_below HB.out hw288_4), (pw_cell_below HB.out hw288_5), (pw_cell_below HB.out hw288_6), HS7_, (pw_cell_below HB.out hw290_0), (pw_cell_below HB.out hw290_1), (pw_cell_below HB.out hw290_2), (pw_cell_below HB.out hw290_3), (pw_cell_below HB.out hw290_4), (pw_cell_below HB.out hw290_5), (pw_cell_below HB.out hw290_6)⟩ (fun hHeld => ?_)
               clear hK K
               refine norm_ (a' := ?_) ?_ ?_
               rotate_left
               ·show Act.put _ (some 44) _ = _
                simp only [Act.put, sa_, sz_, ss_, i64_w, i32_w]
                rfl
               refine pure_ (i := 12) (N := some 45) (v := ?_) (a' := ?_) q12_13 rfl rfl (any_of HT_.out (by kernel_rfl)) (fun _ _ _ h => h) (Or.inl ⟨by rfl, ?_⟩) ?_ ?_
               rotate_left;(intro w';go_simp;with_reducible rfl);rotate_left;(simp only [Act.put, sa_, sz_, ss_, i64_w, i32_w];rfl)
               refine done_ (done_of HT_.out (by kernel_rfl)) ?_
               try go_wp2
               go_ret
               exact ⟨by first | rfl | (simp [errW_none, errW_some] <;> rfl) | (simp [*, errW_none, errW_some] <;> rfl), by repeat (first | (with_reducible first | exact HB.out | apply ba_ | apply bn_ | apply b1_) | exact HB.out)⟩
             ·rw [if_neg c24] at H
              exact absurd H (by simp)
            ·rw [if_neg c23] at H
             exact absurd H (by simp)
           ·rw [if_neg c22] at H
            exact absurd H (by simp)
          ·rw [if_neg c21] at H
           exact absurd H (by simp)
         ·rw [if_neg c20] at H
          exact absurd H (by simp)
        ·rw [if_neg c19] at H
         exact absurd H (by simp)
       ·rw [if_neg c18] at H
        exact absurd H (by simp)
      ·rw [if_neg c17] at H
       have c17b0 : decide (x28_2 < (t284.length : Int)) = false := decide_eq_false c17
       clear c17
       obtain rfl := Option.some.inj H
       go_wp2
       go_ret
       exact ⟨by first | rfl | (simp [errW_none, errW_some] <;> rfl) | (simp [*, errW_none, errW_some] <;> rfl), by repeat (first | (with_reducible first | exact HB.out | apply ba_ | apply bn_ | apply b1_) | exact HB.out)⟩
end Go.Proofs.Ytbgedpicfllclaa.PFnExactSameTree
