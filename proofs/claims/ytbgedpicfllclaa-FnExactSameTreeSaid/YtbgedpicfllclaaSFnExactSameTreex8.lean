-- Written by this session's program wip/slim.py: the print's texts (with contracts of our own), only what this row needs, shortened. Lean checks it.
import Derived.Test.YtbgedpicfllclaaSFnExactSameTreex0
import Derived.Test.YtbgedpicfllclaaSFnExactSameTreex7
namespace Go.Proofs.Ytbgedpicfllclaa.PFnExactSameTree
open Go.RowKit Go.Proofs.YtbgedpicfllclaaW.PrintWords Go.Proofs.YtbgedpicfllclaaW.PrintLast Go.Proofs.YtbgedpicfllclaaW.PrintMore
def q8_0 : Array Bool := #[false, false, false, false, false, false, false, false, false, false, false, false, false, false, false, false, false, false]
def q8_1 : Array Bool := #[true, false, false, false, false, false, false, false, false, false, false, false, false, false, false, false, false, false]
def q8_2 : Array Bool := #[true, true, false, false, false, false, false, false, false, false, false, false, false, false, false, false, false, false]
def q8_3 : Array Bool := #[true, true, true, false, false, false, false, false, false, false, false, false, false, false, false, false, false, false]
def q8_4 : Array Bool := #[true, true, true, true, false, false, false, false, false, false, false, false, false, false, false, false, false, false]
def q8_5 : Array Bool := #[true, true, true, true, false, false, false, true, false, false, false, false, false, false, false, false, false, false]
def q8_6 : Array Bool := #[true, true, true, true, false, false, false, true, true, false, false, false, false, false, false, false, false, false]
def q8_7 : Array Bool := #[true, true, true, true, false, false, false, true, true, true, false, false, false, false, false, false, false, false]
def q8_8 : Array Bool := #[true, true, true, true, false, false, false, true, true, true, true, false, false, false, false, false, false, false]
def q8_9 : Array Bool := #[true, true, true, true, true, false, false, true, true, true, true, false, false, false, false, false, false, false]
def q8_10 : Array Bool := #[true, true, true, true, true, true, false, true, true, true, true, false, false, false, false, false, false, false]
def q8_11 : Array Bool := #[true, true, true, true, true, true, true, true, true, true, true, false, false, false, false, false, false, false]
def q8_12 : Array Bool := #[true, true, true, true, true, true, true, true, true, true, true, true, false, false, false, false, false, false]
def q8_13 : Array Bool := #[true, true, true, true, true, true, true, true, true, true, true, true, true, false, false, false, false, false]
def q8_14 : Array Bool := #[true, true, true, true, true, true, true, true, true, true, true, true, true, true, false, false, false, false]
def q8_15 : Array Bool := #[true, true, true, true, true, true, true, true, true, true, true, true, true, true, true, true, false, false]
def q8_16 : Array Bool := #[true, true, true, true, true, true, true, true, true, true, true, true, true, true, true, false, false, false]
def q8_17 : Array Bool := #[true, true, true, true, true, true, true, true, true, true, true, true, true, true, false, true, false, false]
def q8_18 : Array Bool := #[true, true, true, true, true, true, true, true, true, true, true, true, true, true, true, true, true, false]
def q8_19 : Array Bool := #[true, true, true, true, true, true, true, true, true, true, true, true, true, true, true, true, true, true]
attribute [local go_sem] max2_int min2_int max_two min_two max_three min_three max_four min_four
set_option linter.unusedVariables false
set_option linter.unusedSimpArgs false
def IsIt (W : World) (g : Nat) (a0 a1 : Int) (a2 : ByteArray) (v3 : Value) (a4 : ByteArray) (a5 : Int) (v6 : Value) : Prop := W.heap[g]? = some (.cells #[.int .i64 a0, .int .i64 a1, .string a2, v3, .string a4, .int .i64 a5, v6] 44 (0, 0))
section
variable {W W1 : World} {g : Nat} {a0 a1 : Int} {a2 : ByteArray} {v3 : Value} {a4 : ByteArray} {a5 : Int} {v6 : Value}
theorem IsIt.below (h : IsIt W g a0 a1 a2 v3 a4 a5 v6) (hb : Below W.heap.size W W1) : IsIt W1 g a0 a1 a2 v3 a4 a5 v6 := blk_below h hb
theorem IsIt.x0 (h : IsIt W g a0 a1 a2 v3 a4 a5 v6) : W.cell? ⟨g, 0, none⟩ = some (.int .i64 a0) := (bc_ h 0).trans rfl
theorem IsIt.x1 (h : IsIt W g a0 a1 a2 v3 a4 a5 v6) : W.cell? ⟨g, 1, none⟩ = some (.int .i64 a1) := (bc_ h 1).trans rfl
theorem IsIt.x2 (h : IsIt W g a0 a1 a2 v3 a4 a5 v6) : W.cell? ⟨g, 2, none⟩ = some (.string a2) := (bc_ h 2).trans rfl
theorem IsIt.x3 (h : IsIt W g a0 a1 a2 v3 a4 a5 v6) : W.cell? ⟨g, 3, none⟩ = some v3 := (bc_ h 3).trans rfl
theorem IsIt.x4 (h : IsIt W g a0 a1 a2 v3 a4 a5 v6) : W.cell? ⟨g, 4, none⟩ = some (.string a4) := (bc_ h 4).trans rfl
theorem IsIt.x5 (h : IsIt W g a0 a1 a2 v3 a4 a5 v6) : W.cell? ⟨g, 5, none⟩ = some (.int .i64 a5) := (bc_ h 5).trans rfl
theorem IsIt.x6 (h : IsIt W g a0 a1 a2 v3 a4 a5 v6) : W.cell? ⟨g, 6, none⟩ = some v6 := (bc_ h 6).trans rfl
theorem IsIt.fz (h : IsIt W g a0 a1 a2 v3 a4 a5 v6) (o : Nat) : W.frozen? ⟨g, o, none⟩ = false := blk_frozen h o
end
mutual
def spec_SameTree.j0 : Nat → List (S44) → List (S44) → List Int → List Int → Bool → Option (Bool)
 | 0, _, _, _, _, _ => none
 | k + 1, x0, x1, x5, x6, x23 => if x23 = true then (some false) else (spec_SameTree.l0 k x0 x1 x5 x6 0)
def spec_SameTree.l0 : Nat → List (S44) → List (S44) → List Int → List Int → Int → Option (Bool)
 | 0, _, _, _, _, _ => none
 | k + 1, x0, x1, x5, x6, x7 => if x7 < (x5.length : Int) then (if 0 ≤ x7 then (if 0 ≤ (rd x5 x7) then (if (rd x5 x7) < (x0.length : Int) then (if x7 < (x6.length : Int) then (if 0 ≤ (rd x6 x7) then (if (rd x6 x7) < (x1.length : Int) then (if ((rd_T44 x0 (rd x5 x7)).f0) = ((rd_T44 x1 (rd x6 x7)).f0) then (if ((rd_T44 x0 (rd x5 x7)).f1) = ((rd_T44 x1 (rd x6 x7)).f1) then (if ((rd_T44 x0 (rd x5 x7)).f2).toList = ((rd_T44 x1 (rd x6 x7)).f2).toList then (if ((rd_T44 x0 (rd x5 x7)).f4).toList = ((rd_T44 x1 (rd x6 x7)).f4).toList then (if (((rd_T44 x0 (rd x5 x7)).f6).length : Int) = (((rd_T44 x1 (rd x6 x7)).f6).length : Int) then ((spec_l6Attrs.f k ((rd_T44 x0 (rd x5 x7)).f3) ((rd_T44 x1 (rd x6 x7)).f3)).bind fun t231 => (if t231 = true then (spec_SameTree.l0 k x0 x1 x5 x6 (wrap64 (x7 + 1))) else (some false))) else (some false)) else (some false)) else (some false)) else (some false)) else (some false)) else (none)) else (none)) else (none)) else (none)) else (none)) else (none)) else (some true)
end
def spec_SameTree.f (k : Nat) (l0 : List (S44)) (l1 : List (S44)) : Option (Bool) := (spec_Order.f k l0).bind fun t219 => ((spec_Order.f k l1).bind fun t222 => (if (t219.length : Int) = 0 then (spec_SameTree.j0 k l0 l1 t219 t222 true) else (spec_SameTree.j0 k l0 l1 t219 t222 ((t219.length : Int) != (t222.length : Int)))))
theorem spec_SameTree.mono_l : ∀ k, (∀ y0 y1 y2 y3 y4, LeO (spec_SameTree.j0 k y0 y1 y2 y3 y4) (spec_SameTree.j0 (k + 1) y0 y1 y2 y3 y4)) ∧ (∀ y0 y1 y2 y3 y4, LeO (spec_SameTree.l0 k y0 y1 y2 y3 y4) (spec_SameTree.l0 (k + 1) y0 y1 y2 y3 y4))
 | 0 => ⟨fun _ _ _ _ _ r h => by simp [spec_SameTree.j0] at h, fun _ _ _ _ _ r h => by simp [spec_SameTree.l0] at h⟩
 | k + 1 => by
  obtain ⟨ih0, ih1⟩ := spec_SameTree.mono_l k
  refine ⟨?_, ?_⟩
  ·intro y0 y1 y2 y3 y4
   unfold spec_SameTree.j0
   repeat' first
   | (with_reducible exact ih0 _ _ _ _ _)
   | (with_reducible exact ih1 _ _ _ _ _)
   | (with_reducible exact spec_Order.mono _ _)
   | (with_reducible exact spec_l6Attrs.mono _ _ _)
   | (with_reducible exact LeO.refl _)
   | (with_reducible exact LeO.none _)
   | (with_reducible refine LeO.ite ?_ ?_)
   | (with_reducible refine LeO.bind ?_ (fun _ => ?_))
  ·intro y0 y1 y2 y3 y4
   unfold spec_SameTree.l0
   repeat' first
   | (with_reducible exact ih0 _ _ _ _ _)
   | (with_reducible exact ih1 _ _ _ _ _)
   | (with_reducible exact spec_Order.mono _ _)
   | (with_reducible exact spec_l6Attrs.mono _ _ _)
   | (with_reducible exact LeO.refl _)
   | (with_reducible exact LeO.none _)
   | (with_reducible refine LeO.ite ?_ ?_)
   | (with_reducible refine LeO.bind ?_ (fun _ => ?_))
theorem spec_SameTree.mono : ∀ a0 a1 k, LeO (spec_SameTree.f k a0 a1) (spec_SameTree.f (k + 1) a0 a1) := by
 intro a0 a1 k
 obtain ⟨ih0, ih1⟩ := spec_SameTree.mono_l k
 unfold spec_SameTree.f
 repeat' first
   | (with_reducible exact ih0 _ _ _ _ _)
   | (with_reducible exact ih1 _ _ _ _ _)
   | (with_reducible exact spec_Order.mono _ _)
   | (with_reducible exact spec_l6Attrs.mono _ _ _)
   | (with_reducible exact LeO.refl _)
   | (with_reducible exact LeO.none _)
   | (with_reducible refine LeO.ite ?_ ?_)
   | (with_reducible refine LeO.bind ?_ (fun _ => ?_))
def Cells7 (W : World) (p : Addr) (x : S44) (v3 v6 : Value) : Prop := W.cell? p = some (.int .i64 x.f0) ∧ W.cell? ⟨p.block, p.off + 1, none⟩ = some (.int .i64 x.f1) ∧ W.cell? ⟨p.block, p.off + 2, none⟩ = some (.string x.f2) ∧ W.cell? ⟨p.block, p.off + 3, none⟩ = some v3 ∧ W.cell? ⟨p.block, p.off + 4, none⟩ = some (.string x.f4) ∧ W.cell? ⟨p.block, p.off + 5, none⟩ = some (.int .i64 x.f5) ∧ W.cell? ⟨p.block, p.off + 6, none⟩ = some v6
theorem Cells7.below {W W1 : World} {p : Addr} {x : S44} {v3 v6 : Value} (h : Cells7 W p x v3 v6) (hb : Below W.heap.size W W1) : Cells7 W1 p x v3 v6 :=
 ⟨pw_cell_below hb h.1, pw_cell_below hb h.2.1, pw_cell_below hb h.2.2.1, pw_cell_below hb h.2.2.2.1, pw_cell_below hb h.2.2.2.2.1, pw_cell_below hb h.2.2.2.2.2.1, pw_cell_below hb h.2.2.2.2.2.2⟩
def SQ (W : World) (a5 a6 : Addr) (n : Nat) (i j : Int) (a0 a1 : Addr) (x y : S44) (u3 u6 v3 v6 : Value) : Prop := (W.cell? (a5.add n) = some (.int .i64 i) ∧ Cells7 W (a0.add (i.toNat * 7)) x u3 u6) ∧ W.cell? (a6.add n) = some (.int .i64 j) ∧ Cells7 W (a1.add (j.toNat * 7)) y v3 v6
theorem SQ.below {W W1 : World} {a5 a6 : Addr} {n : Nat} {i j : Int} {a0 a1 : Addr} {x y : S44} {u3 u6 v3 v6 : Value} (h : SQ W a5 a6 n i j a0 a1 x y u3 u6 v3 v6) (hb : Below W.heap.size W W1) : SQ W1 a5 a6 n i j a0 a1 x y u3 u6 v3 v6 :=
 ⟨⟨pw_cell_below hb h.1.1, h.1.2.below hb⟩, pw_cell_below hb h.2.1, h.2.2.below hb⟩
theorem IsIt.all {W : World} {g : Nat} {a0 a1 : Int} {a2 : ByteArray} {v3 : Value} {a4 : ByteArray} {a5 : Int} {v6 : Value} (h : IsIt W g a0 a1 a2 v3 a4 a5 v6) (x : S44) (u3 u6 : Value) : IsIt (W.setCells g 0 [.int .i64 x.f0, .int .i64 x.f1, .string x.f2, u3, .string x.f4, .int .i64 x.f5, u6]) g x.f0 x.f1 x.f2 u3 x.f4 x.f5 u6 := by
 obtain ⟨cur, h3, h4, h5⟩ := setCells_row [.int .i64 x.f0, .int .i64 x.f1, .string x.f2, u3, .string x.f4, .int .i64 x.f5, u6] 0 W _ h (by simp)
 have e : cur = #[.int .i64 x.f0, .int .i64 x.f1, .string x.f2, u3, .string x.f4, .int .i64 x.f5, u6] := Array.ext' (by rw [h5]; simp)
 unfold IsIt
 rw [h3, e]
theorem IsIt.other {W : World} {g g2 : Nat} {a0 a1 : Int} {a2 : ByteArray} {v3 : Value} {a4 : ByteArray} {a5 : Int} {v6 : Value} (h : IsIt W g a0 a1 a2 v3 a4 a5 v6) (hn : g ≠ g2) (vs : List Value) : IsIt (W.setCells g2 0 vs) g a0 a1 a2 v3 a4 a5 v6 := (setCells_far vs 0 g hn).trans h
theorem below_cells {B g : Nat} {a W : World} (h : Below B a W) (hg : B ≤ g) (vs : List Value) : Below B a (W.setCells g 0 vs) := by
 obtain ⟨s1, s2, s3, s4⟩ := setCells_same g vs 0 W
 exact ⟨s1.trans h.os, s2.trans h.tape, s3.trans h.output, by rw [s4]; exact h.size, fun k hk => (setCells_far vs 0 k (by omega)).trans (h.block k hk)⟩
theorem drawn_below2 {w w' : World} (h : Drawn0 w w') : Below w.heap.size w w' := by
 obtain ⟨n, rfl⟩ := h
 exact bn_ (Below.refl _ _) n
set_option maxHeartbeats 8000000 in
set_option maxRecDepth 100000 in
theorem spec_SameTree.calls (k : Nat) (A0 : Option Addr) (c0 : Nat) (l0 : List (S44)) (A1 : Option Addr) (c1 : Nat) (l1 : List (S44)) (r : Bool) (w : World) (hr0 : Kd.C k44 w A0 l0.length l0) (hc0 : l0.length ≤ c0) (hr1 : Kd.C k44 w A1 l1.length l1) (hc1 : l1.length ≤ c1) (h : spec_SameTree.f k l0 l1 = some r) :
  Calls Try.prog 28 #[.slice A0 l0.length c0, .slice A1 l1.length c1] w fun e w' => e = .returned (.bool r) ∧ Below w.heap.size w w' := by
 have hu1 := Try.underlying44
 have HR0 := Aside0.mk hr0
 have HC0 := Aside0.mk hc0
 have HR1 := Aside0.mk hr1
 have HC1 := Aside0.mk hc1
 have B := Aside0.mk (Below.refl w.heap.size w)
 unfold spec_SameTree.f at h
 obtain ⟨o1, q1, h1⟩ := Option.bind_eq_some_iff.mp h
 obtain ⟨o2, q2, h2⟩ := Option.bind_eq_some_iff.mp h1
 have A3 := Aside0.mk q1
 have A4 := Aside0.mk q2
 clear h h1 q1 q2 hr0 hc0 hr1 hc1
 by_cases c : (o1.length : Int) = 0
 ·rw [if_pos c] at h2
  have e0 : ((o1.length : Int) == 0) = true := beq_iff_eq.mpr c
  have e1 : (o1.length == 0) = true := beq_iff_eq.mpr (by omega)
  cases k with
  | zero => exact absurd h2 (by simp [spec_SameTree.j0])
  | succ k0 =>
   simp only [spec_SameTree.j0, if_true] at h2
   obtain rfl := Option.some.inj h2
   clear h2 c
   go_enter Try.func28, Try.ntmps28
   go_wp2_with (first | (go_at_call 32; (with_reducible refine (spec_Order.calls (k0 + 1) A0 c0 l0 o1 _ (Kd.C_below HR0.out B.out) HC0.out A3.out).mono ?_); rintro e w1 ⟨v1, rfl, ho, hb⟩; obtain ⟨B1, n1, rfl⟩ := Kd.R_slice ho; have O1_ := Aside0.mk (Kd.R_lower ho B.out.size); clear ho; have n0_ := Aside0.mk (below_then B.out B.out.size hb); clear B; have B := n0_; clear n0_ hb; have O1 := O1_; clear O1_) | (go_at_call 32; (with_reducible refine (spec_Order.calls (k0 + 1) A1 c1 l1 o2 _ (Kd.C_below HR1.out B.out) HC1.out A4.out).mono ?_); rintro e w2 ⟨v2, rfl, ho, hb⟩; obtain ⟨B2, n2, rfl⟩ := Kd.R_slice ho; have O2_ := Aside0.mk (Kd.R_lower ho B.out.size); clear ho; have n0_ := Aside0.mk (below_then B.out B.out.size hb); have n1_ := Aside0.mk (Kd.R_below O1.out hb); clear B O1; have B := n0_; have O1 := n1_; clear n0_ n1_ hb; have O2 := O2_; clear O2_))
   go_ret
   exact ⟨by first | rfl | (simp; done), B.out⟩
 rw [if_neg c] at h2
 have e0 : ((o1.length : Int) == 0) = false := beq_eq_false_iff_ne.mpr c
 have e1 : (o1.length == 0) = false := beq_eq_false_iff_ne.mpr (by omega)
 clear c
 by_cases c : (o1.length : Int) = (o2.length : Int)
 rotate_left
 ·have d0 : ((o1.length : Int) != (o2.length : Int)) = true := bne_iff_ne.mpr c
  have d1 : ((o1.length : Int) == (o2.length : Int)) = false := beq_eq_false_iff_ne.mpr c
  have d2 : (o1.length == o2.length) = false := beq_eq_false_iff_ne.mpr (by omega)
  rw [d0] at h2
  cases k with
  | zero => exact absurd h2 (by simp [spec_SameTree.j0])
  | succ k0 =>
   simp only [spec_SameTree.j0, if_true] at h2
   obtain rfl := Option.some.inj h2
   clear h2 c
   go_enter Try.func28, Try.ntmps28
   go_wp2_with (first | (go_at_call 32; (with_reducible refine (spec_Order.calls (k0 + 1) A0 c0 l0 o1 _ (Kd.C_below HR0.out B.out) HC0.out A3.out).mono ?_); rintro e w1 ⟨v1, rfl, ho, hb⟩; obtain ⟨B1, n1, rfl⟩ := Kd.R_slice ho; have O1_ := Aside0.mk (Kd.R_lower ho B.out.size); clear ho; have n0_ := Aside0.mk (below_then B.out B.out.size hb); clear B; have B := n0_; clear n0_ hb; have O1 := O1_; clear O1_) | (go_at_call 32; (with_reducible refine (spec_Order.calls (k0 + 1) A1 c1 l1 o2 _ (Kd.C_below HR1.out B.out) HC1.out A4.out).mono ?_); rintro e w2 ⟨v2, rfl, ho, hb⟩; obtain ⟨B2, n2, rfl⟩ := Kd.R_slice ho; have O2_ := Aside0.mk (Kd.R_lower ho B.out.size); clear ho; have n0_ := Aside0.mk (below_then B.out B.out.size hb); have n1_ := Aside0.mk (Kd.R_below O1.out hb); clear B O1; have B := n0_; have O1 := n1_; clear n0_ n1_ hb; have O2 := O2_; clear O2_))
   go_ret
   exact ⟨by first | rfl | (simp; done), B.out⟩
 have d0 : ((o1.length : Int) != (o2.length : Int)) = false := bne_eq_false_iff_eq.mpr c
 have d1 : ((o1.length : Int) == (o2.length : Int)) = true := beq_iff_eq.mpr c
 have d2 : (o1.length == o2.length) = true := beq_iff_eq.mpr (by omega)
 rw [d0] at h2
 clear c
 cases k with
 | zero => exact absurd h2 (by simp [spec_SameTree.j0])
 | succ k0 =>
  simp only [spec_SameTree.j0, Bool.false_eq_true, if_false] at h2
  have HA0 := Aside0.mk h2
  clear h2
  go_enter Try.func28, Try.ntmps28
  go_wp2_with (first | (go_at_call 32; (with_reducible refine (spec_Order.calls (k0 + 1) A0 c0 l0 o1 _ (Kd.C_below HR0.out B.out) HC0.out A3.out).mono ?_); rintro e w1 ⟨v1, rfl, ho, hb⟩; obtain ⟨B1, n1, rfl⟩ := Kd.R_slice ho; have O1_ := Aside0.mk (Kd.R_lower ho B.out.size); clear ho; have n0_ := Aside0.mk (below_then B.out B.out.size hb); clear B; have B := n0_; clear n0_ hb; have O1 := O1_; clear O1_) | (go_at_call 32; (with_reducible refine (spec_Order.calls (k0 + 1) A1 c1 l1 o2 _ (Kd.C_below HR1.out B.out) HC1.out A4.out).mono ?_); rintro e w2 ⟨v2, rfl, ho, hb⟩; obtain ⟨B2, n2, rfl⟩ := Kd.R_slice ho; have O2_ := Aside0.mk (Kd.R_lower ho B.out.size); clear ho; have n0_ := Aside0.mk (below_then B.out B.out.size hb); have n1_ := Aside0.mk (Kd.R_below O1.out hb); clear B O1; have B := n0_; have O1 := n1_; clear n0_ n1_ hb; have O2 := O2_; clear O2_))
  clear e0 e1 d0 d1 d2
  go_loopg [7] k0 (fun kq v7 w' => ∃ (n : Nat), v7 = .int .i64 (n : Int) ∧ Aside0 (spec_SameTree.l0 kq l0 l1 o1 o2 (n : Int) = some r) ∧ Aside0 (kq ≤ k0) ∧ Aside0 (Kd.R (Kd.int .i64) 3 w' w.heap.size (fun _ => True) (.slice B1 o1.length n1) o1) ∧ Aside0 (Kd.R (Kd.int .i64) 3 w' w.heap.size (fun _ => True) (.slice B2 o2.length n2) o2) ∧ Aside0 (Below w.heap.size w w'))
  case atStart => exact ⟨0, rfl, HA0, ⟨Nat.le_refl _⟩, O1, O2, B⟩
  case round =>
   clear HA0 O1 O2 B
   obtain ⟨n, rfl, HA, HK1, O1, O2, B⟩ := hrel
   cases gk with
   | zero => exact absurd HA.out (by simp [spec_SameTree.l0])
   | succ k1 =>
    have h := HA.out
    clear HA
    simp only [spec_SameTree.l0] at h
    by_cases ct : (n : Int) < (o1.length : Int)
    rotate_left
    ·rw [if_neg ct] at h
     obtain rfl := Option.some.inj h
     have t0 : decide ((n : Int) < (o1.length : Int)) = false := decide_eq_false ct
     have t1 : decide (n < o1.length) = false := decide_eq_false (by omega)
     clear h ct
     go_wp2
     go_ret
     exact ⟨by first | rfl | (simp; done), B.out⟩
    rw [if_pos ct, if_pos (Int.natCast_nonneg n)] at h
    have t0 : decide ((n : Int) < (o1.length : Int)) = true := decide_eq_true ct
    have t1 : decide (n < o1.length) = true := decide_eq_true (by omega)
    have HLN := Aside0.mk (Kd.R_reads' O1.out).2.2.2.1
    have HW := Aside0.mk (show wrap64 ((n : Int) + 1) = ((n + 1 : Nat) : Int) by have := HLN.out; unfold wrap64; omega)
    obtain ⟨i, hi⟩ : ∃ i, rd o1 (n : Int) = i := ⟨_, rfl⟩
    obtain ⟨j, hj⟩ : ∃ j, rd o2 (n : Int) = j := ⟨_, rfl⟩
    obtain ⟨X, hX⟩ : ∃ X, rd_T44 l0 i = X := ⟨_, rfl⟩
    obtain ⟨Y, hY⟩ : ∃ Y, rd_T44 l1 j = Y := ⟨_, rfl⟩
    rw [hi, hj, hX, hY] at h
    by_cases ci0 : 0 ≤ i
    rotate_left
    ·rw [if_neg ci0] at h; exact absurd h (by simp)
    rw [if_pos ci0] at h
    by_cases ci1 : i < (l0.length : Int)
    rotate_left
    ·rw [if_neg ci1] at h; exact absurd h (by simp)
    rw [if_pos ci1] at h
    by_cases cn : (n : Int) < (o2.length : Int)
    rotate_left
    ·rw [if_neg cn] at h; exact absurd h (by simp)
    rw [if_pos cn] at h
    by_cases cj0 : 0 ≤ j
    rotate_left
    ·rw [if_neg cj0] at h; exact absurd h (by simp)
    rw [if_pos cj0] at h
    by_cases cj1 : j < (l1.length : Int)
    rotate_left
    ·rw [if_neg cj1] at h; exact absurd h (by simp)
    rw [if_pos cj1] at h
    obtain ⟨ad5, ea, hx5⟩ := Kd.at_int (Kd.R_reads' O1.out).2.2 (n : Int) (Int.natCast_nonneg n) ct
    subst ea
    obtain ⟨ad6, ea, hx6⟩ := Kd.at_int (Kd.R_reads' O2.out).2.2 (n : Int) (Int.natCast_nonneg n) cn
    subst ea
    rw [Int.toNat_natCast, hi] at hx5
    rw [Int.toNat_natCast, hj] at hx6
    obtain ⟨ad0, A3_, c3_, A6_, c6_, ea, x0, x1, x2, x3, x4, x5, x6, hl3, hg3, _, _⟩ := at_T44 HR0.out i ci0 ci1
    subst ea
    obtain ⟨ad1, A7_, c7_, A8_, c8_, ea, y0, y1, y2, y3, y4, y5, y6, hl7, hg7, _, _⟩ := at_T44 HR1.out j cj0 cj1
    subst ea
    rw [hX] at x0 x1 x2 x3 x4 x5 x6 hl3 hg3
    rw [hY] at y0 y1 y2 y3 y4 y5 y6 hl7 hg7
    have HSQ := Aside0.mk (show SQ wr ad5 ad6 n i j ad0 ad1 X Y (.slice A3_ X.f3.length c3_) (.slice A6_ X.f6.length c6_) (.slice A7_ Y.f3.length c7_) (.slice A8_ Y.f6.length c8_) from ⟨⟨hx5, Cells7.below ⟨x0, x1, x2, x3, x4, x5, x6⟩ B.out⟩, hx6, Cells7.below ⟨y0, y1, y2, y3, y4, y5, y6⟩ B.out⟩)
    have G3 := Aside0.mk hg3
    have G7 := Aside0.mk hg7
    have L3 := Aside0.mk hl3
    have L7 := Aside0.mk hl7
    have p0 : ((0 : Int) ≤ (n : Int)) = True := eq_true (Int.natCast_nonneg n)
    have p1 : ((n : Int) < (o1.length : Int)) = True := eq_true ct
    have p2 : ((n : Int) < (o2.length : Int)) = True := eq_true cn
    have p3 : ((0 : Int) ≤ i) = True := eq_true ci0
    have p4 : (i < (l0.length : Int)) = True := eq_true ci1
    have p5 : ((0 : Int) ≤ j) = True := eq_true cj0
    have p6 : (j < (l1.length : Int)) = True := eq_true cj1
    clear x0 x1 x2 x3 x4 x5 x6 y0 y1 y2 y3 y4 y5 y6 hx5 hx6 hl3 hl7 hg3 hg7 hi hj hX hY ci0 ci1 cj0 cj1 cn ct
    go_wp2
    have hb := b1_ (Below.refl wr.heap.size wr)
    have HSQ_ := Aside0.mk (SQ.below HSQ.out hb)
    clear HSQ
    have HSQ := HSQ_
    clear HSQ_
    have n0_ := Aside0.mk (below_then B.out B.out.size hb)
    have n1_ := Aside0.mk (Kd.R_below O1.out hb)
    have n2_ := Aside0.mk (Kd.R_below O2.out hb)
    clear B O1 O2
    have B := n0_
    have O1 := n1_
    have O2 := n2_
    clear n0_ n1_ n2_ hb
    refine start_ (n := 18) (S := fun w' => SQ w' ad5 ad6 n i j ad0 ad1 X Y (.slice A3_ X.f3.length c3_) (.slice A6_ X.f6.length c6_) (.slice A7_ Y.f3.length c7_) (.slice A8_ Y.f6.length c8_)) (ds := []) q8_0 (by kernel_rfl) rfl rfl HSQ.out (fun hHeld => ?_)
    generalize wr.drew = w3 at B O1 O2 HSQ hHeld ⊢
    refine pure_ (i := 0) (N := some 30) (v := ?_) (a' := ?_) q8_1 rfl rfl (by kernel_rfl) (fun _ _ _ h => h) (Or.inl ⟨by rfl, ?_⟩) ?_ ?_
    rotate_left;(intro w';go_simp;with_reducible rfl);rotate_left;(simp only [Act.put, sa_, sz_, ss_, i64_w, i32_w];rfl)
    refine pure_ (i := 1) (N := some 31) (v := ?_) (a' := ?_) q8_2 rfl rfl (by kernel_rfl) (fun _ _ _ h => h) (Or.inl ⟨by rfl, ?_⟩) ?_ ?_
    rotate_left;(intro w';go_simp;with_reducible rfl);rotate_left;(simp only [Act.put, sa_, sz_, ss_, i64_w, i32_w];rfl)
    refine pure_ (i := 2) (N := some 32) (v := ?_) (a' := ?_) q8_3 rfl rfl (by kernel_rfl) (fun _ _ _ h => h) (Or.inl ⟨by rfl, ?_⟩) ?_ ?_
    rotate_left;(intro w';go_simp;with_reducible rfl);rotate_left;(simp only [Act.put, sa_, sz_, ss_, i64_w, i32_w];rfl)
    refine pure_ (i := 3) (N := some 33) (v := ?_) (a' := ?_) q8_4 rfl rfl (by kernel_rfl) (fun _ _ _ h => h) (Or.inl ⟨by rfl, ?_⟩) ?_ ?_
    rotate_left;(intro w';go_simp;with_reducible rfl);rotate_left;(simp only [Act.put, sa_, sz_, ss_, i64_w, i32_w];rfl)
    refine pure_ (i := 7) (N := some 37) (v := ?_) (a' := ?_) q8_5 rfl rfl (by kernel_rfl) (fun _ _ _ h => h) (Or.inl ⟨by rfl, ?_⟩) ?_ ?_
    rotate_left;(intro w';go_simp;with_reducible rfl);rotate_left;(simp only [Act.put, sa_, sz_, ss_, i64_w, i32_w];rfl)
    refine pure_ (i := 8) (N := some 38) (v := ?_) (a' := ?_) q8_6 rfl rfl (by kernel_rfl) (fun _ _ _ h => h) (Or.inl ⟨by rfl, ?_⟩) ?_ ?_
    rotate_left;(intro w';go_simp;with_reducible rfl);rotate_left;(simp only [Act.put, sa_, sz_, ss_, i64_w, i32_w];rfl)
    refine pure_ (i := 9) (N := some 39) (v := ?_) (a' := ?_) q8_7 rfl rfl (by kernel_rfl) (fun _ _ _ h => h) (Or.inl ⟨by rfl, ?_⟩) ?_ ?_
    rotate_left;(intro w';go_simp;with_reducible rfl);rotate_left;(simp only [Act.put, sa_, sz_, ss_, i64_w, i32_w];rfl)
    refine pure_ (i := 10) (N := some 40) (v := ?_) (a' := ?_) q8_8 rfl rfl (by kernel_rfl) (fun _ _ _ h => h) (Or.inl ⟨by rfl, ?_⟩) ?_ ?_
    rotate_left;(intro w';go_simp;with_reducible rfl);rotate_left;(simp only [Act.put, sa_, sz_, ss_, i64_w, i32_w];rfl)
    refine take_ (i := 4) (N := some 34) (v := ?_) (a' := ?_) q8_9 rfl rfl (by kernel_rfl) (fun _ _ _ h => h) (Or.inl ⟨by rfl, ?_⟩) hHeld ?_ ?_
    rotate_left;(rintro w' ⟨⟨s0, ⟨s1, s2, s3, s4, s5, s6, s7⟩⟩, t0, ⟨t1, t2, t3, t4, t5, t6, t7⟩⟩;go_simp;with_reducible rfl);rotate_left;(simp only [Act.put, sa_, sz_, ss_, i64_w, i32_w];rfl)
    refine pure_ (i := 5) (N := some 35) (v := ?_) (a' := ?_) q8_10 rfl rfl (by kernel_rfl) (fun _ _ _ h => h) (Or.inl ⟨by rfl, ?_⟩) ?_ ?_
    rotate_left;(intro w';go_simp;with_reducible rfl);rotate_left;(simp only [Act.put, sa_, sz_, ss_, i64_w, i32_w];rfl)
    refine take_ (i := 6) (N := some 36) (v := ?_) (a' := ?_) q8_11 rfl rfl (by kernel_rfl) (fun _ _ _ h => h) (Or.inl ⟨by rfl, ?_⟩) hHeld ?_ ?_
    rotate_left;(rintro w' ⟨⟨s0, ⟨s1, s2, s3, s4, s5, s6, s7⟩⟩, t0, ⟨t1, t2, t3, t4, t5, t6, t7⟩⟩;go_simp;with_reducible rfl);rotate_left;(simp only [Act.put, sa_, sz_, ss_, i64_w, i32_w];rfl)
    refine take_ (i := 11) (N := some 41) (v := ?_) (a' := ?_) q8_12 rfl rfl (by kernel_rfl) (fun _ _ _ h => h) (Or.inl ⟨by rfl, ?_⟩) hHeld ?_ ?_
    rotate_left;(rintro w' ⟨⟨s0, ⟨s1, s2, s3, s4, s5, s6, s7⟩⟩, t0, ⟨t1, t2, t3, t4, t5, t6, t7⟩⟩;go_simp;with_reducible rfl);rotate_left;(simp only [Act.put, sa_, sz_, ss_, i64_w, i32_w];rfl)
    refine pure_ (i := 12) (N := some 42) (v := ?_) (a' := ?_) q8_13 rfl rfl (by kernel_rfl) (fun _ _ _ h => h) (Or.inl ⟨by rfl, ?_⟩) ?_ ?_
    rotate_left;(intro w';go_simp;with_reducible rfl);rotate_left;(simp only [Act.put, sa_, sz_, ss_, i64_w, i32_w];rfl)
    refine take_ (i := 13) (N := some 43) (v := ?_) (a' := ?_) q8_14 rfl rfl (by kernel_rfl) (fun _ _ _ h => h) (Or.inl ⟨by rfl, ?_⟩) hHeld ?_ ?_
    rotate_left;(rintro w' ⟨⟨s0, ⟨s1, s2, s3, s4, s5, s6, s7⟩⟩, t0, ⟨t1, t2, t3, t4, t5, t6, t7⟩⟩;go_simp;with_reducible rfl);rotate_left;(simp only [Act.put, sa_, sz_, ss_, i64_w, i32_w];rfl)
    refine join_ (σ := Nat × Nat) 2 q8_15 (fun s => [(8, .pointer (some ⟨s.1, 0, none⟩)), (9, .pointer (some ⟨s.2, 0, none⟩))]) (fun s W' => IsIt W' s.1 0 0 (⟨#[]⟩ : ByteArray) (.slice none 0 0) (⟨#[]⟩ : ByteArray) 0 (.slice none 0 0) ∧ IsIt W' s.2 0 0 (⟨#[]⟩ : ByteArray) (.slice none 0 0) (⟨#[]⟩ : ByteArray) 0 (.slice none 0 0) ∧ s.1 ≠ s.2 ∧ w3.heap.size ≤ s.1 ∧ w3.heap.size ≤ s.2 ∧ Below w3.heap.size w3 W') ?_ (fun hcont => ?_)
    rotate_left
    ·refine two_ (i := 14) (j := 15) (Ni := some 8) (Nj := some 9) q8_16 q8_17 rfl rfl rfl rfl (by kernel_rfl) (by decide) (by decide) (fun K hK => ?_) (fun K hK => ?_)
     ·refine box_step (by rfl) (N := 8) rfl (cs := #[.int .i64 0, .int .i64 0, .string (⟨#[]⟩ : ByteArray), .slice none 0 0, .string (⟨#[]⟩ : ByteArray), .int .i64 0, .slice none 0 0]) (t := 44) (by first | (go_simp; done) | (go_simp; rfl)) ?_
      intro ga hga wa hba hb1
      refine hK.out _ _ (SQ.below HSQ.out hb1) (fun _ => ?_)
      clear hK K
      refine norm_ (a' := ?_) ?_ ?_
      rotate_left
      ·show Act.put _ (some 8) _ = _
       simp only [Act.put, sa_, sz_, ss_, i64_w, i32_w]
       rfl
      refine one_ (i := 15) (N := some 9) q8_15 rfl rfl (by kernel_rfl) (by decide) (fun K hK => ?_)
      refine box_step (by rfl) (N := 9) rfl (cs := #[.int .i64 0, .int .i64 0, .string (⟨#[]⟩ : ByteArray), .slice none 0 0, .string (⟨#[]⟩ : ByteArray), .int .i64 0, .slice none 0 0]) (t := 44) (by first | (go_simp; done) | (go_simp; rfl)) ?_
      intro gb hgb wb hbb hb2
      refine hK.out _ _ (SQ.below HSQ.out (below_step hb1 hb2)) (fun _ => ?_)
      clear hK K
      have hne : ga < gb := by rw [hgb]; exact blk_lt hba
      have hla : w3.heap.size ≤ ga := by rw [hga]; exact Nat.le_refl _
      have hlb : w3.heap.size ≤ gb := Nat.le_of_lt (Nat.lt_of_le_of_lt hla hne)
      exact norm_ (by first | rfl | (simp only [putAll, Act.put, sa_, sz_, ss_]; first | done | rfl)) (hcont (ga, gb) _ ⟨blk_below hba hb2, hbb, Nat.ne_of_lt hne, hla, hlb, below_step hb1 hb2⟩)
     ·refine box_step (by rfl) (N := 9) rfl (cs := #[.int .i64 0, .int .i64 0, .string (⟨#[]⟩ : ByteArray), .slice none 0 0, .string (⟨#[]⟩ : ByteArray), .int .i64 0, .slice none 0 0]) (t := 44) (by first | (go_simp; done) | (go_simp; rfl)) ?_
      intro ga hga wa hba hb1
      refine hK.out _ _ (SQ.below HSQ.out hb1) (fun _ => ?_)
      clear hK K
      refine norm_ (a' := ?_) ?_ ?_
      rotate_left
      ·show Act.put _ (some 9) _ = _
       simp only [Act.put, sa_, sz_, ss_, i64_w, i32_w]
       rfl
      refine one_ (i := 14) (N := some 8) q8_15 rfl rfl (by kernel_rfl) (by decide) (fun K hK => ?_)
      refine box_step (by rfl) (N := 8) rfl (cs := #[.int .i64 0, .int .i64 0, .string (⟨#[]⟩ : ByteArray), .slice none 0 0, .string (⟨#[]⟩ : ByteArray), .int .i64 0, .slice none 0 0]) (t := 44) (by first | (go_simp; done) | (go_simp; rfl)) ?_
      intro gb hgb wb hbb hb2
      refine hK.out _ _ (SQ.below HSQ.out (below_step hb1 hb2)) (fun _ => ?_)
      clear hK K
      have hne : ga < gb := by rw [hgb]; exact blk_lt hba
      have hla : w3.heap.size ≤ ga := by rw [hga]; exact Nat.le_refl _
      have hlb : w3.heap.size ≤ gb := Nat.le_of_lt (Nat.lt_of_le_of_lt hla hne)
      exact norm_ (by first | rfl | (simp only [putAll, Act.put, sa_, sz_, ss_]; first | done | rfl)) (hcont (gb, ga) _ ⟨hbb, blk_below hba hb2, Nat.ne_of_gt hne, hlb, hla, below_step hb1 hb2⟩)
    rintro ⟨g1, g2⟩ w4 ⟨I1, I2, hne, hl1, hl2, hb⟩
    clear hHeld
    refine norm_ (a' := ?_) ?_ ?_
    rotate_left
    ·simp only [putAll, Act.put, sa_, sz_, ss_]
     rfl
    refine one_ (i := 16) (N := none) q8_18 rfl rfl (by kernel_rfl) (by decide) (fun K hK => ?_)
    have z0 := IsIt.x0 I1
    have z1 := IsIt.x1 I1
    have z2 := IsIt.x2 I1
    have z3 := IsIt.x3 I1
    have z4 := IsIt.x4 I1
    have z5 := IsIt.x5 I1
    have z6 := IsIt.x6 I1
    have f0 := IsIt.fz I1 0
    have f1 := IsIt.fz I1 1
    have f2 := IsIt.fz I1 2
    have f3 := IsIt.fz I1 3
    have f4 := IsIt.fz I1 4
    have f5 := IsIt.fz I1 5
    have f6 := IsIt.fz I1 6
    refine skip_ (w1 := World.setCells w4 g1 0 [.int .i64 X.f0, .int .i64 X.f1, .string X.f2, (.slice A3_ X.f3.length c3_), .string X.f4, .int .i64 X.f5, (.slice A6_ X.f6.length c6_)]) (by rfl) rfl ?_ ?_
    ·go_simp
     rfl
    clear z0 f0 z1 f1 z2 f2 z3 f3 z4 f4 z5 f5 z6 f6
    have J1 := IsIt.all I1 X (.slice A3_ X.f3.length c3_) (.slice A6_ X.f6.length c6_)
    have J2 := IsIt.other I2 hne.symm [.int .i64 X.f0, .int .i64 X.f1, .string X.f2, (.slice A3_ X.f3.length c3_), .string X.f4, .int .i64 X.f5, (.slice A6_ X.f6.length c6_)]
    have hb_ := below_cells hb hl1 [.int .i64 X.f0, .int .i64 X.f1, .string X.f2, (.slice A3_ X.f3.length c3_), .string X.f4, .int .i64 X.f5, (.slice A6_ X.f6.length c6_)]
    clear I1 I2 hb
    generalize World.setCells w4 g1 0 [.int .i64 X.f0, .int .i64 X.f1, .string X.f2, (.slice A3_ X.f3.length c3_), .string X.f4, .int .i64 X.f5, (.slice A6_ X.f6.length c6_)] = w5 at J1 J2 hb_ ⊢
    have I1 := J1
    have I2 := J2
    have hb := hb_
    clear J1 J2 hb_
    refine hK.out _ _ (SQ.below HSQ.out hb) (fun _ => ?_)
    clear hK K
    refine one_ (i := 17) (N := none) q8_19 rfl rfl (by kernel_rfl) (by decide) (fun K hK => ?_)
    have z0 := IsIt.x0 I2
    have z1 := IsIt.x1 I2
    have z2 := IsIt.x2 I2
    have z3 := IsIt.x3 I2
    have z4 := IsIt.x4 I2
    have z5 := IsIt.x5 I2
    have z6 := IsIt.x6 I2
    have f0 := IsIt.fz I2 0
    have f1 := IsIt.fz I2 1
    have f2 := IsIt.fz I2 2
    have f3 := IsIt.fz I2 3
    have f4 := IsIt.fz I2 4
    have f5 := IsIt.fz I2 5
    have f6 := IsIt.fz I2 6
    refine skip_ (w1 := World.setCells w5 g2 0 [.int .i64 Y.f0, .int .i64 Y.f1, .string Y.f2, (.slice A7_ Y.f3.length c7_), .string Y.f4, .int .i64 Y.f5, (.slice A8_ Y.f6.length c8_)]) (by rfl) rfl ?_ ?_
    ·go_simp
     rfl
    clear z0 f0 z1 f1 z2 f2 z3 f3 z4 f4 z5 f5 z6 f6
    have J2 := IsIt.all I2 Y (.slice A7_ Y.f3.length c7_) (.slice A8_ Y.f6.length c8_)
    have J1 := IsIt.other I1 hne [.int .i64 Y.f0, .int .i64 Y.f1, .string Y.f2, (.slice A7_ Y.f3.length c7_), .string Y.f4, .int .i64 Y.f5, (.slice A8_ Y.f6.length c8_)]
    have hb_ := below_cells hb hl2 [.int .i64 Y.f0, .int .i64 Y.f1, .string Y.f2, (.slice A7_ Y.f3.length c7_), .string Y.f4, .int .i64 Y.f5, (.slice A8_ Y.f6.length c8_)]
    clear I1 I2 hb
    generalize World.setCells w5 g2 0 [.int .i64 Y.f0, .int .i64 Y.f1, .string Y.f2, (.slice A7_ Y.f3.length c7_), .string Y.f4, .int .i64 Y.f5, (.slice A8_ Y.f6.length c8_)] = w6 at J1 J2 hb_ ⊢
    have I1 := J1
    have I2 := J2
    have hb := hb_
    clear J1 J2 hb_
    refine hK.out _ _ (SQ.below HSQ.out hb) (fun _ => ?_)
    clear hK K
    refine done_ (by kernel_rfl) ?_
    clear HSQ hne hl1 hl2
    have HI1 := Aside0.mk I1
    have HI2 := Aside0.mk I2
    clear I1 I2
    have n0_ := Aside0.mk (below_then B.out B.out.size hb)
    have n1_ := Aside0.mk (Kd.R_below O1.out hb)
    have n2_ := Aside0.mk (Kd.R_below O2.out hb)
    clear B O1 O2
    have B := n0_
    have O1 := n1_
    have O2 := n2_
    clear n0_ n1_ n2_ hb
    have y0 := IsIt.x0 HI1.out
    have y1 := IsIt.x1 HI1.out
    have y2 := IsIt.x2 HI1.out
    have y3 := IsIt.x3 HI1.out
    have y4 := IsIt.x4 HI1.out
    have y5 := IsIt.x5 HI1.out
    have y6 := IsIt.x6 HI1.out
    have z0 := IsIt.x0 HI2.out
    have z1 := IsIt.x1 HI2.out
    have z2 := IsIt.x2 HI2.out
    have z3 := IsIt.x3 HI2.out
    have z4 := IsIt.x4 HI2.out
    have z5 := IsIt.x5 HI2.out
    have z6 := IsIt.x6 HI2.out
    by_cases c : X.f0 = Y.f0
    rotate_left
    ·rw [if_neg c] at h
     have e00 : (X.f0 == Y.f0) = false := beq_eq_false_iff_ne.mpr c
     have e01 : (X.f0 != Y.f0) = true := bne_iff_ne.mpr c
     clear c
     obtain rfl := Option.some.inj h
     clear h
     go_wp2
     go_ret
     exact ⟨by first | rfl | (simp; done), B.out⟩
    rw [if_pos c] at h
    have e00 : (X.f0 == Y.f0) = true := beq_iff_eq.mpr c
    have e01 : (X.f0 != Y.f0) = false := bne_eq_false_iff_eq.mpr c
    clear c
    by_cases c : X.f1 = Y.f1
    rotate_left
    ·rw [if_neg c] at h
     have e10 : (X.f1 == Y.f1) = false := beq_eq_false_iff_ne.mpr c
     have e11 : (X.f1 != Y.f1) = true := bne_iff_ne.mpr c
     clear c
     obtain rfl := Option.some.inj h
     clear h
     go_wp2
     go_ret
     exact ⟨by first | rfl | (simp; done), B.out⟩
    rw [if_pos c] at h
    have e10 : (X.f1 == Y.f1) = true := beq_iff_eq.mpr c
    have e11 : (X.f1 != Y.f1) = false := bne_eq_false_iff_eq.mpr c
    clear c
    by_cases c : X.f2.toList = Y.f2.toList
    rotate_left
    ·rw [if_neg c] at h
     have e20 : (X.f2.toList == Y.f2.toList) = false := beq_eq_false_iff_ne.mpr c
     have e21 : (X.f2.toList != Y.f2.toList) = true := bne_iff_ne.mpr c
     clear c
     obtain rfl := Option.some.inj h
     clear h
     go_wp2
     go_ret
     exact ⟨by first | rfl | (simp; done), B.out⟩
    rw [if_pos c] at h
    have e20 : (X.f2.toList == Y.f2.toList) = true := beq_iff_eq.mpr c
    have e21 : (X.f2.toList != Y.f2.toList) = false := bne_eq_false_iff_eq.mpr c
    clear c
    by_cases c : X.f4.toList = Y.f4.toList
    rotate_left
    ·rw [if_neg c] at h
     have e30 : (X.f4.toList == Y.f4.toList) = false := beq_eq_false_iff_ne.mpr c
     have e31 : (X.f4.toList != Y.f4.toList) = true := bne_iff_ne.mpr c
     clear c
     obtain rfl := Option.some.inj h
     clear h
     go_wp2
     go_ret
     exact ⟨by first | rfl | (simp; done), B.out⟩
    rw [if_pos c] at h
    have e30 : (X.f4.toList == Y.f4.toList) = true := beq_iff_eq.mpr c
    have e31 : (X.f4.toList != Y.f4.toList) = false := bne_eq_false_iff_eq.mpr c
    clear c
    by_cases c : (X.f6.length : Int) = (Y.f6.length : Int)
    rotate_left
    ·rw [if_neg c] at h
     have e40 : ((X.f6.length : Int) == (Y.f6.length : Int)) = false := beq_eq_false_iff_ne.mpr c
     have e41 : ((X.f6.length : Int) != (Y.f6.length : Int)) = true := bne_iff_ne.mpr c
     have e42 : (X.f6.length == Y.f6.length) = false := beq_eq_false_iff_ne.mpr (by omega)
     clear c
     obtain rfl := Option.some.inj h
     clear h
     go_wp2
     go_ret
     exact ⟨by first | rfl | (simp; done), B.out⟩
    rw [if_pos c] at h
    have e40 : ((X.f6.length : Int) == (Y.f6.length : Int)) = true := beq_iff_eq.mpr c
    have e41 : ((X.f6.length : Int) != (Y.f6.length : Int)) = false := bne_eq_false_iff_eq.mpr c
    have e42 : (X.f6.length == Y.f6.length) = true := beq_iff_eq.mpr (by omega)
    clear c
    obtain ⟨t, ha, h2⟩ := Option.bind_eq_some_iff.mp h
    have HAT := Aside0.mk ha
    clear ha h
    cases t with
    | false =>
     rw [if_neg (by decide)] at h2
     have h := h2
     clear h2
     obtain rfl := Option.some.inj h
     clear h
     go_wp2_with (go_at_call 68; (with_reducible refine (spec_l6Attrs.calls k1 A3_ c3_ X.f3 A7_ c7_ Y.f3 _ _ (Kd.C_below G3.out B.out) L3.out (Kd.C_below G7.out B.out) L7.out HAT.out).mono ?_); rintro e w7 ⟨rfl, hd_⟩; have hb := drawn_below2 hd_; clear hd_; have n0_ := Aside0.mk (below_then B.out B.out.size hb); have n1_ := Aside0.mk (Kd.R_below O1.out hb); have n2_ := Aside0.mk (Kd.R_below O2.out hb); clear B O1 O2; have B := n0_; have O1 := n1_; have O2 := n2_; clear n0_ n1_ n2_ hb)
     go_ret
     exact ⟨by first | rfl | (simp; done), B.out⟩
    | true =>
     rw [if_pos rfl, HW.out] at h2
     have HN2 := Aside0.mk h2
     clear h2
     go_wp2_with (go_at_call 68; (with_reducible refine (spec_l6Attrs.calls k1 A3_ c3_ X.f3 A7_ c7_ Y.f3 _ _ (Kd.C_below G3.out B.out) L3.out (Kd.C_below G7.out B.out) L7.out HAT.out).mono ?_); rintro e w7 ⟨rfl, hd_⟩; have hb := drawn_below2 hd_; clear hd_; have n0_ := Aside0.mk (below_then B.out B.out.size hb); have n1_ := Aside0.mk (Kd.R_below O1.out hb); have n2_ := Aside0.mk (Kd.R_below O2.out hb); clear B O1 O2; have B := n0_; have O1 := n1_; have O2 := n2_; clear n0_ n1_ n2_ hb)
     go_roundg k1
     case measure => omega
     case rel => exact ⟨n + 1, by rw [HW.out], HN2, ⟨by have := HK1.out; omega⟩, O1, O2, B⟩
def impl_inRange.f (a0 : Int) (a1 : Int) (a2 : Int) : Option (Bool) := if a0 ≥ a1 then (some (decide (a0 ≤ a2))) else (some false)
set_option maxHeartbeats 8000000 in
set_option maxRecDepth 100000 in
theorem impl_inRange.calls (a0 : Int) (a1 : Int) (a2 : Int) (r : Bool) (w : World) (h : impl_inRange.f a0 a1 a2 = some r) :
  Calls Try.prog 55 #[.int .i64 a0, .int .i64 a1, .int .i64 a2] w fun e w' => e = .returned (.bool r) ∧ Drawn0 w w' := by
 have H : (if a0 ≥ a1 then (some (decide (a0 ≤ a2))) else (some false)) = some r := h
 clear h
 by_cases c4 : a0 ≥ a1
 ·rw [if_pos c4] at H
  have c4b0 : decide (a1 ≤ a0) = true := decide_eq_true c4
  clear c4
  obtain rfl := Option.some.inj H
  go_enter Try.func55, Try.ntmps55
  go_wp2
  go_ret
  exact ⟨by first | rfl | (simp; done) | (simp [*]; done), by repeat (first | exact Drawn0.refl _ | apply Drawn0.step)⟩
 ·rw [if_neg c4] at H
  have c4b0 : decide (a1 ≤ a0) = false := decide_eq_false c4
  clear c4
  obtain rfl := Option.some.inj H
  go_enter Try.func55, Try.ntmps55
  go_wp2
  go_ret
  exact ⟨by first | rfl | (simp; done) | (simp [*]; done), by repeat (first | exact Drawn0.refl _ | apply Drawn0.step)⟩
def impl_hasAttr.f (l0 : List (S91)) (a1 : ByteArray) : Option (Bool) := if l0.length ≤ 4611686018427387903 then some (l0.any fun x => x.f0.toList == a1.toList) else none
theorem impl_hasAttr.pred (B : Nat) (s t u : ByteArray) (w : World) (hlt : B < w.heap.size) (hB : w.cell? ⟨B, 0, none⟩ = some (.string u)) :
  Calls Try.prog 95 #[.agg #[.string s, .string t], .pointer (some ⟨B, 0, none⟩)] w fun e w' => e = .returned (.bool (s.toList == u.toList)) ∧ Below w.heap.size w w' := by
 have hne : B ≠ w.heap.size := by omega
 have HB := Aside0.mk ((Below.refl w.heap.size w).alloc (Nat.le_refl _) (.cells #[.string s, .string t] 91))
 go_enter Try.func95, Try.ntmps95
 go_wp2
 all_goals (go_ret; exact ⟨by first | rfl | simp_all, HB.out⟩)
theorem impl_hasAttr.any_next (l : List (S91)) (k : Nat) (p : S91 → Bool) (h : k < l.length) : (l.take (k + 1)).any p = ((l.take k).any p || p (rd_T91 l k)) := by
 rw [List.take_succ_eq_append_getElem h, List.any_append]
 simp [rd_T91, List.getD_eq_getElem?_getD, List.getElem?_eq_getElem h]
theorem impl_hasAttr.any_more (l : List (S91)) (k : Nat) (p : S91 → Bool) (h : (l.take k).any p = true) : l.any p = true := by
 rw [← List.take_append_drop k l, List.any_append, h, Bool.true_or]
set_option maxHeartbeats 2000000 in
set_option maxRecDepth 100000 in
theorem impl_hasAttr.index (B : Nat) (A0 : Option Addr) (c0 : Nat) (l0 : List (S91)) (u : ByteArray) (w : World) (hr0 : Kd.C k91 w A0 l0.length l0) (hlen : l0.length ≤ 4611686018427387903) (hlt : B < w.heap.size) (hB : w.cell? ⟨B, 0, none⟩ = some (.string u)) :
  Calls Try.prog 98 #[.slice A0 l0.length c0, .func (.func 95) #[] #[.pointer (some ⟨B, 0, none⟩)]] w fun e w' => ∃ i : Int, e = .returned (.int .i64 i) ∧ decide (0 ≤ i) = (l0.any fun x => x.f0.toList == u.toList) ∧ Below w.heap.size w w' := by
 have HR := Aside0.mk hr0
 have HL := Aside0.mk hlen
 have HLT := Aside0.mk hlt
 have HBC := Aside0.mk hB
 have HB := Aside0.mk (Below.refl w.heap.size w)
 clear hr0 hlen hlt hB
 go_enter Try.func98, Try.ntmps98
 go_wp2
 go_loopg [5, 8] l0.length (fun gg v5 v8 w' => ∃ kk : Nat, v8 = .int .i64 (kk : Int) ∧ Aside0 (kk + gg = l0.length) ∧ Aside0 ((l0.take kk).any (fun x => x.f0.toList == u.toList) = false) ∧ Aside0 (Below w.heap.size w w'))
 case atStart => exact ⟨0, rfl, ⟨by omega⟩, ⟨by simp⟩, HB⟩
 case round =>
  clear HB
  obtain ⟨kk, rfl, HG, HN, HB⟩ := hrel
  by_cases hlt : kk < l0.length
  ·have hltz : (kk : Int) < (l0.length : Int) := by omega
   have c1 : decide ((kk : Int) < (l0.length : Int)) = true := decide_eq_true hltz
   have HLTK := Aside0.mk hlt
   have hRw := Kd.C_below HR.out HB.out
   have p163 : 0 ≤ (kk : Int) := by omega
   obtain ⟨ad163, e163, hx163_0, hx163_1⟩ := at_T91 hRw (kk : Int) p163 hltz
   cases e163
   simp only [Int.toNat_natCast] at hx163_0 hx163_1
   clear hRw hlt
   have HX := Aside0.mk (impl_hasAttr.any_next l0 kk (fun x => x.f0.toList == u.toList) HLTK.out)
   generalize rd_T91 l0 (kk : Int) = x at *
   have HBW := Aside0.mk ((HB.out.cell (p := ⟨B, 0, none⟩) HLT.out).trans HBC.out)
   have HLW := Aside0.mk (Nat.lt_of_lt_of_le HLT.out HB.out.size)
   replace p163 := eq_true p163
   replace hltz := eq_true hltz
   cases hq : (x.f0.toList == u.toList) with
   | true =>
    have HP := Aside0.mk (impl_hasAttr.pred B x.f0 x.f1 u wr HLW.out HBW.out)
    rw [hq] at HP
    go_wp2_with (go_at_call 95; refine HP.out.mono ?_; rintro e w' ⟨rfl, hb⟩; have HB2 := Aside0.mk (below_step HB.out hb); clear hb)
    go_ret
    exact ⟨_, rfl, by rw [impl_hasAttr.any_more l0 (kk + 1) _ (by rw [HX.out]; simp [hq])]; exact decide_eq_true (by omega), HB2.out⟩
   | false =>
    have HP := Aside0.mk (impl_hasAttr.pred B x.f0 x.f1 u wr HLW.out HBW.out)
    rw [hq] at HP
    go_wp2_with (go_at_call 95; refine HP.out.mono ?_; rintro e w' ⟨rfl, hb⟩; have HB2 := Aside0.mk (below_step HB.out hb); clear hb)
    go_roundg (gk - 1)
    case measure => have := HG.out; have := HLTK.out; omega
    case rel => exact ⟨kk + 1, by have := HL.out; have := HLTK.out; rw [show wrap64 ((kk : Int) + 1) = ((kk + 1 : Nat) : Int) by unfold wrap64; omega], ⟨by have := HG.out; have := HLTK.out; omega⟩, ⟨by rw [HX.out, HN.out, hq]; rfl⟩, HB2⟩
  ·have hltz : ¬ (kk : Int) < (l0.length : Int) := by omega
   have c1 : decide ((kk : Int) < (l0.length : Int)) = false := decide_eq_false hltz
   have HE := Aside0.mk (show kk = l0.length by have := HG.out; omega)
   clear hlt
   go_wp2
   go_ret
   exact ⟨_, rfl, by have h := HN.out; rw [HE.out, List.take_length] at h; rw [h]; rfl, HB.out⟩
set_option maxHeartbeats 2000000 in
set_option maxRecDepth 100000 in
theorem impl_hasAttr.has (B : Nat) (A0 : Option Addr) (c0 : Nat) (l0 : List (S91)) (u : ByteArray) (w : World) (hr0 : Kd.C k91 w A0 l0.length l0) (hlen : l0.length ≤ 4611686018427387903) (hlt : B < w.heap.size) (hB : w.cell? ⟨B, 0, none⟩ = some (.string u)) :
  Calls Try.prog 94 #[.slice A0 l0.length c0, .func (.func 95) #[] #[.pointer (some ⟨B, 0, none⟩)]] w fun e w' => e = .returned (.bool (l0.any fun x => x.f0.toList == u.toList)) ∧ Below w.heap.size w w' := by
 have HI := Aside0.mk (impl_hasAttr.index B A0 c0 l0 u w hr0 hlen hlt hB)
 clear hr0 hlen hlt hB
 go_enter Try.func94, Try.ntmps94
 go_wp2_with (go_at_call 98; refine HI.out.mono ?_; rintro e w' ⟨i, rfl, hi, hb⟩; have HX := Aside0.mk hi; have HB2 := Aside0.mk hb; clear hi hb)
 go_ret
 exact ⟨by rw [← HX.out]; first | rfl | (simp; done), HB2.out⟩
set_option maxHeartbeats 2000000 in
set_option maxRecDepth 100000 in
theorem impl_hasAttr.calls (A0 : Option Addr) (c0 : Nat) (l0 : List (S91)) (a1 : ByteArray) (r : Bool) (w : World) (hr0 : Kd.C k91 w A0 l0.length l0) (hc0 : l0.length ≤ c0) (h : impl_hasAttr.f l0 a1 = some r) :
  Calls Try.prog 89 #[.slice A0 l0.length c0, .string a1] w fun e w' => e = .returned (.bool r) ∧ Below w.heap.size w w' := by
 unfold impl_hasAttr.f at h
 by_cases hlen : l0.length ≤ 4611686018427387903
 ·rw [if_pos hlen] at h
  obtain rfl := Option.some.inj h
  have HI := Aside0.mk (impl_hasAttr.has w.heap.size A0 c0 l0 a1 (w.alloc (.cells #[.string a1] 9)) (ca_ hr0 _) hlen (by simp) (by simp))
  have HB := Aside0.mk ((Below.refl w.heap.size w).alloc (Nat.le_refl _) (.cells #[.string a1] 9))
  have hmf : ∀ (fn : Fn) (first cap : Array Value) (w : World), (Instr.makeFunc fn first cap).run Try.prog w = .ok (.func fn first cap) w := fun _ _ _ _ => rfl
  clear h hr0 hc0 hlen
  go_enter Try.func89, Try.ntmps89
  go_wp2_with (go_at_call 94; refine HI.out.mono ?_; rintro e w' ⟨rfl, hb⟩; have HB2 := Aside0.mk (below_step HB.out hb); clear hb)
  go_ret
  exact ⟨rfl, HB2.out⟩
 ·rw [if_neg hlen] at h
  exact absurd h (by simp)
end Go.Proofs.Ytbgedpicfllclaa.PFnExactSameTree
