-- Written by this session's program wip/slim.py: the print's texts (with contracts of our own), only what this row needs, shortened. Lean checks it.
import Derived.Test.YteafgjebaedjbaaSFnExactTokensOkx0
import Derived.Test.YteafgjebaedjbaaSFnExactTokensOkx7
namespace Go.Proofs.Yteafgjebaedjbaa.PFnExactTokensOk
open Go.RowKit Go.Proofs.YteafgjebaedjbaaW.PrintWords Go.Proofs.YteafgjebaedjbaaW.PrintLast Go.Proofs.YteafgjebaedjbaaW.PrintMore
def q8_0 : Array Bool := #[false, false, false, false, false, false, false, false, false, false, false, false, false, false, false, false, false, false, false, false, false, false, false, false, false]
def q8_1 : Array Bool := #[true, false, false, false, false, false, false, false, false, false, false, false, false, false, false, false, false, false, false, false, false, false, false, false, false]
def q8_2 : Array Bool := #[true, true, false, false, false, false, false, false, false, false, false, false, false, false, false, false, false, false, false, false, false, false, false, false, false]
def q8_3 : Array Bool := #[true, true, true, false, false, false, false, false, false, false, false, false, false, false, false, false, false, false, false, false, false, false, false, false, false]
def q8_4 : Array Bool := #[true, true, true, true, false, false, false, false, false, false, false, false, false, false, false, false, false, false, false, false, false, false, false, false, false]
def q8_5 : Array Bool := #[true, true, true, true, true, false, false, false, false, false, false, false, false, false, false, false, false, false, false, false, false, false, false, false, false]
def q8_6 : Array Bool := #[true, true, true, true, true, true, false, false, false, false, false, false, false, false, false, false, false, false, false, false, false, false, false, false, false]
def q8_7 : Array Bool := #[true, true, true, true, true, true, true, false, false, false, false, false, false, false, false, false, false, false, false, false, false, false, false, false, false]
def q8_8 : Array Bool := #[true, true, true, true, true, true, true, true, false, false, false, false, false, false, false, false, false, false, false, false, false, false, false, false, false]
def q8_9 : Array Bool := #[true, true, true, true, true, true, true, true, false, false, true, false, false, false, false, false, false, false, false, false, false, false, false, false, false]
def q8_10 : Array Bool := #[true, true, true, true, true, true, true, true, false, false, true, false, false, false, true, false, false, false, false, false, false, false, false, false, false]
def q8_11 : Array Bool := #[true, true, true, true, true, true, true, true, false, false, true, false, false, false, true, false, false, true, false, false, false, false, false, false, false]
def q8_12 : Array Bool := #[true, true, true, true, true, true, true, true, false, false, true, false, false, false, true, false, false, true, true, false, false, false, false, false, false]
def q8_13 : Array Bool := #[true, true, true, true, true, true, true, true, false, false, true, false, false, false, true, false, false, true, true, true, false, false, false, false, false]
def q8_14 : Array Bool := #[true, true, true, true, true, true, true, true, false, false, true, false, false, false, true, false, false, true, true, true, true, false, false, false, false]
def q8_15 : Array Bool := #[true, true, true, true, true, true, true, true, true, false, true, false, false, false, true, false, false, true, true, true, true, false, false, false, false]
def q8_16 : Array Bool := #[true, true, true, true, true, true, true, true, true, true, true, false, false, false, true, false, false, true, true, true, true, false, false, false, false]
def q8_17 : Array Bool := #[true, true, true, true, true, true, true, true, true, true, true, true, false, false, true, false, false, true, true, true, true, false, false, false, false]
def q8_18 : Array Bool := #[true, true, true, true, true, true, true, true, true, true, true, true, true, false, true, false, false, true, true, true, true, false, false, false, false]
def q8_19 : Array Bool := #[true, true, true, true, true, true, true, true, true, true, true, true, true, true, true, false, false, true, true, true, true, false, false, false, false]
def q8_20 : Array Bool := #[true, true, true, true, true, true, true, true, true, true, true, true, true, true, true, true, false, true, true, true, true, false, false, false, false]
def q8_21 : Array Bool := #[true, true, true, true, true, true, true, true, true, true, true, true, true, true, true, true, false, true, true, true, true, true, false, false, false]
def q8_22 : Array Bool := #[true, true, true, true, true, true, true, true, true, true, true, true, true, true, true, true, false, true, true, true, true, true, true, false, false]
def q8_23 : Array Bool := #[true, true, true, true, true, true, true, true, true, true, true, true, true, true, true, true, true, true, true, true, true, true, true, false, false]
def q8_24 : Array Bool := #[true, true, true, true, true, true, true, true, true, true, true, true, true, true, true, true, true, true, true, true, true, true, true, true, false]
def q8_25 : Array Bool := #[true, true, true, true, true, true, true, true, true, true, true, true, true, true, true, true, true, true, true, true, true, true, true, true, true]
def q8_26 : Array Bool := #[false, false, false, false, false, false, false, false, false, false, false, false, false, false, false, false, false, false, false, false, false, false, false]
def q8_27 : Array Bool := #[true, false, false, false, false, false, false, false, false, false, false, false, false, false, false, false, false, false, false, false, false, false, false]
def q8_28 : Array Bool := #[true, true, false, false, false, false, false, false, false, false, false, false, false, false, false, false, false, false, false, false, false, false, false]
def q8_29 : Array Bool := #[true, true, true, false, false, false, false, false, false, false, false, false, false, false, false, false, false, false, false, false, false, false, false]
def q8_30 : Array Bool := #[true, true, true, true, false, false, false, false, false, false, false, false, false, false, false, false, false, false, false, false, false, false, false]
def q8_31 : Array Bool := #[true, true, true, true, true, false, false, false, false, false, false, false, false, false, false, false, false, false, false, false, false, false, false]
def q8_32 : Array Bool := #[true, true, true, true, true, true, false, false, false, false, false, false, false, false, false, false, false, false, false, false, false, false, false]
def q8_33 : Array Bool := #[true, true, true, true, true, true, true, false, false, false, false, false, false, false, false, false, false, false, false, false, false, false, false]
def q8_34 : Array Bool := #[true, true, true, true, true, true, true, true, false, false, false, false, false, false, false, false, false, false, false, false, false, false, false]
def q8_35 : Array Bool := #[true, true, true, true, true, true, true, true, true, false, false, false, false, false, false, false, false, false, false, false, false, false, false]
def q8_36 : Array Bool := #[true, true, true, true, true, true, true, true, true, true, false, false, false, false, false, false, false, false, false, false, false, false, false]
def q8_37 : Array Bool := #[true, true, true, true, true, true, true, true, true, true, true, false, false, false, false, false, false, false, false, false, false, false, false]
def q8_38 : Array Bool := #[true, true, true, true, true, true, true, true, true, true, true, true, false, false, false, false, false, false, false, false, false, false, false]
def q8_39 : Array Bool := #[true, true, true, true, true, true, true, true, true, true, true, true, true, false, false, false, false, false, false, false, false, false, false]
def q8_40 : Array Bool := #[true, true, true, true, true, true, true, true, true, true, true, true, true, true, false, false, false, false, false, false, false, false, false]
def q8_41 : Array Bool := #[true, true, true, true, true, true, true, true, true, true, true, true, true, true, true, false, false, false, false, false, false, false, false]
def q8_42 : Array Bool := #[true, true, true, true, true, true, true, true, true, true, true, true, true, true, true, true, false, false, false, false, false, false, false]
def q8_43 : Array Bool := #[true, true, true, true, true, true, true, true, true, true, true, true, true, true, true, true, true, false, false, false, false, false, false]
def q8_44 : Array Bool := #[true, true, true, true, true, true, true, true, true, true, true, true, true, true, true, true, true, true, false, false, false, false, false]
def q8_45 : Array Bool := #[true, true, true, true, true, true, true, true, true, true, true, true, true, true, true, true, true, true, true, false, false, false, false]
def q8_46 : Array Bool := #[true, true, true, true, true, true, true, true, true, true, true, true, true, true, true, true, true, true, true, true, false, false, false]
def q8_47 : Array Bool := #[true, true, true, true, true, true, true, true, true, true, true, true, true, true, true, true, true, true, true, true, true, false, false]
def q8_48 : Array Bool := #[true, true, true, true, true, true, true, true, true, true, true, true, true, true, true, true, true, true, true, true, true, true, false]
def q8_49 : Array Bool := #[true, true, true, true, true, true, true, true, true, true, true, true, true, true, true, true, true, true, true, true, true, true, true]
def q8_50 : Array Bool := #[true, true, true, true, true, true, true, true, true, true, true, true, true, true, true, true, false, true, false, false, false, false, false]
def q8_51 : Array Bool := #[true, true, true, true, true, true, true, true, true, false, false, false, false, false, false, false, false, false, false, false, false, false, false, false, false]
def q8_52 : Array Bool := #[true, true, true, true, true, true, true, true, true, true, false, false, false, false, false, false, false, false, false, false, false, false, false, false, false]
def q8_53 : Array Bool := #[true, true, true, true, true, true, true, true, true, true, true, false, false, false, false, false, false, false, false, false, false, false, false, false, false]
def q8_54 : Array Bool := #[true, true, true, true, true, true, true, true, true, true, true, true, false, false, false, false, false, false, false, false, false, false, false, false, false]
def q8_55 : Array Bool := #[true, true, true, true, true, true, true, true, true, true, true, true, true, false, false, false, false, false, false, false, false, false, false, false, false]
def q8_56 : Array Bool := #[true, true, true, true, true, true, true, true, true, true, true, true, true, true, false, false, false, false, false, false, false, false, false, false, false]
def q8_57 : Array Bool := #[true, true, true, true, true, true, true, true, true, true, true, true, true, true, true, false, false, false, false, false, false, false, false, false, false]
def q8_58 : Array Bool := #[true, true, true, true, true, true, true, true, true, true, true, true, true, true, true, true, false, false, false, false, false, false, false, false, false]
def q8_59 : Array Bool := #[true, true, true, true, true, true, true, true, true, true, true, true, true, true, true, true, true, false, false, false, false, false, false, false, false]
def q8_60 : Array Bool := #[true, true, true, true, true, true, true, true, true, true, true, true, true, true, true, true, true, true, false, false, false, false, false, false, false]
def q8_61 : Array Bool := #[true, true, true, true, true, true, true, true, true, true, true, true, true, true, true, true, true, true, true, false, false, false, false, false, false]
def q8_62 : Array Bool := #[true, true, true, true, true, true, true, true, true, true, true, true, true, true, true, true, true, true, true, true, false, false, false, false, false]
def q8_63 : Array Bool := #[true, true, true, true, true, true, true, true, true, true, true, true, true, true, true, true, true, true, true, true, true, false, false, false, false]
def q8_64 : Array Bool := #[true, true, true, true, true, true, true, true, true, true, true, true, true, true, true, true, true, true, true, true, true, true, false, false, false]
attribute [local go_sem] max2_int min2_int max_two min_two max_three min_three max_four min_four
set_option linter.unusedVariables false
set_option linter.unusedSimpArgs false
def spec_l5Held.j0 : Nat → List (S87) → Int → Bool → Int → ByteArray → List (S117) → ByteArray → Bool → Option (Bool)
 | 0, _, _, _, _, _, _, _, _ => none
 | k + 1, x0, x1, x30, x194000, x194001, x194002, x194003, x194004 => if x30 = true then (some true) else (if 0 ≤ (wrap64 (x1 + 1)) then (if (wrap64 (x1 + 1)) < (x0.length : Int) then (if ((rd_T87 x0 (wrap64 (x1 + 1))).f0) = 1 then ((spec_l5Bare.f x0 (wrap64 (x1 + 1))).bind fun t196 => (if t196 = true then (if ((rd_T87 x0 (wrap64 (x1 + 1))).f3).size + 2 ≤ 9223372036854775807 then (if ((rd_T87 x0 (wrap64 (x1 + 1))).f3).size + 2 + x194001.size ≤ 9223372036854775807 then (if ((rd_T87 x0 (wrap64 (x1 + 1))).f3).size + 2 + x194001.size + 1 ≤ 9223372036854775807 then ((spec_RawEnd.f k (((((rd_T87 x0 (wrap64 (x1 + 1))).f3) ++ (⟨#[60, 47]⟩ : ByteArray)) ++ x194001) ++ (⟨#[62]⟩ : ByteArray)) 0 x194001).bind fun t198 => (if t198 = (((rd_T87 x0 (wrap64 (x1 + 1))).f3).size : Int) then (if (wrap64 ((wrap64 (x1 + 1)) + 1)) = (x0.length : Int) then (some true) else (if 0 ≤ (wrap64 ((wrap64 (x1 + 1)) + 1)) then (if (wrap64 ((wrap64 (x1 + 1)) + 1)) < (x0.length : Int) then (if ((rd_T87 x0 (wrap64 ((wrap64 (x1 + 1)) + 1))).f0) = 3 then (some (((rd_T87 x0 (wrap64 ((wrap64 (x1 + 1)) + 1))).f1).toList == x194001.toList)) else (some false)) else (none)) else (none))) else (some false))) else (none)) else (none)) else (none)) else (if (wrap64 ((wrap64 (x1 + 1)) + 1)) = (x0.length : Int) then (some true) else (if 0 ≤ (wrap64 ((wrap64 (x1 + 1)) + 1)) then (if (wrap64 ((wrap64 (x1 + 1)) + 1)) < (x0.length : Int) then (if ((rd_T87 x0 (wrap64 ((wrap64 (x1 + 1)) + 1))).f0) = 3 then (some (((rd_T87 x0 (wrap64 ((wrap64 (x1 + 1)) + 1))).f1).toList == x194001.toList)) else (some false)) else (none)) else (none))))) else (if (wrap64 (x1 + 1)) = (x0.length : Int) then (some true) else (if ((rd_T87 x0 (wrap64 (x1 + 1))).f0) = 3 then (some (((rd_T87 x0 (wrap64 (x1 + 1))).f1).toList == x194001.toList)) else (some false)))) else (none)) else (none))
def spec_l5Held.f (k : Nat) (l0 : List (S87)) (a1 : Int) : Option (Bool) := if 0 ≤ a1 then (if a1 < (l0.length : Int) then (if ((rd_T87 l0 a1).f0) = 2 then (if (rd_T87 l0 a1).f4 = true then (spec_l5Held.j0 k l0 a1 true ((rd_T87 l0 a1).f0) ((rd_T87 l0 a1).f1) ((rd_T87 l0 a1).f2) ((rd_T87 l0 a1).f3) ((rd_T87 l0 a1).f4)) else ((spec_Raw.f ((rd_T87 l0 a1).f1)).bind fun t194 => (if t194 = true then (spec_l5Held.j0 k l0 a1 ((wrap64 (a1 + 1)) == (l0.length : Int)) ((rd_T87 l0 a1).f0) ((rd_T87 l0 a1).f1) ((rd_T87 l0 a1).f2) ((rd_T87 l0 a1).f3) ((rd_T87 l0 a1).f4)) else (spec_l5Held.j0 k l0 a1 true ((rd_T87 l0 a1).f0) ((rd_T87 l0 a1).f1) ((rd_T87 l0 a1).f2) ((rd_T87 l0 a1).f3) ((rd_T87 l0 a1).f4))))) else (spec_l5Held.j0 k l0 a1 true ((rd_T87 l0 a1).f0) ((rd_T87 l0 a1).f1) ((rd_T87 l0 a1).f2) ((rd_T87 l0 a1).f3) ((rd_T87 l0 a1).f4))) else (none)) else (none)
theorem spec_l5Held.mono_l : ∀ k, (∀ y0 y1 y2 y3 y4 y5 y6 y7, LeO (spec_l5Held.j0 k y0 y1 y2 y3 y4 y5 y6 y7) (spec_l5Held.j0 (k + 1) y0 y1 y2 y3 y4 y5 y6 y7))
 | 0 => fun _ _ _ _ _ _ _ _ r h => by simp [spec_l5Held.j0] at h
 | k + 1 => by
  have ih0 := spec_l5Held.mono_l k
  ·intro y0 y1 y2 y3 y4 y5 y6 y7
   unfold spec_l5Held.j0
   repeat' first
   | (with_reducible exact ih0 _ _ _ _ _ _ _ _)
   | (with_reducible exact spec_RawEnd.mono _ _ _ _)
   | (with_reducible exact LeO.refl _)
   | (with_reducible exact LeO.none _)
   | (with_reducible refine LeO.ite ?_ ?_)
   | (with_reducible refine LeO.bind ?_ (fun _ => ?_))
theorem spec_l5Held.mono : ∀ a0 a1 k, LeO (spec_l5Held.f k a0 a1) (spec_l5Held.f (k + 1) a0 a1) := by
 intro a0 a1 k
 have ih0 := spec_l5Held.mono_l k
 unfold spec_l5Held.f
 repeat' first
   | (with_reducible exact ih0 _ _ _ _ _ _ _ _)
   | (with_reducible exact spec_RawEnd.mono _ _ _ _)
   | (with_reducible exact LeO.refl _)
   | (with_reducible exact LeO.none _)
   | (with_reducible refine LeO.ite ?_ ?_)
   | (with_reducible refine LeO.bind ?_ (fun _ => ?_))
def spec_l5Held.T6 : Bool × List (List Nat × List Nat) := (true, [([], []), ([], []), ([0, 1], [0, 1]), ([2, 2], [2]), ([3], [3]), ([3], [3]), ([4, 5, 3], [3, 4, 5]), ([6, 3], [3, 6]), ([7, 3], [3, 7]), ([8, 3], [3, 8]), ([3], [3]), ([10, 3], [3, 10]), ([9, 11, 3], [3, 9, 11]), ([12, 3], [3, 12]), ([3], [3]), ([14, 3], [3, 14]), ([13, 15, 3, 3], [3, 13, 15]), ([3], [3]), ([3], [3]), ([17, 18, 3], [3, 17, 18]), ([19, 3], [3, 19]), ([20, 3], [3, 20]), ([21, 3], [3, 21]), ([16, 22, 3], [3, 16, 22]), ([3, 23], [3, 23])])
def spec_l5Held.B6 : List Nat := [0, 0, 3, 7, 15, 15, 63, 127, 255, 511, 15, 1039, 4095, 8191, 15, 16399, 65535, 15, 15, 393231, 917519, 1966095, 4063247, 8388607, 16777215]
theorem spec_l5Held.tab6 : rtab .any (opsOf Try.f92 6) = spec_l5Held.T6 := by kernel_rfl
theorem spec_l5Held.bits6 : waitsOk spec_l5Held.T6.2 spec_l5Held.B6 = true := by kernel_rfl
def spec_l5Held.T9 : Bool × List (List Nat × List Nat) := (true, [([], []), ([], []), ([1], [1]), ([0, 2], [0, 2]), ([3], [3]), ([4], [4]), ([4], [4]), ([5, 6, 4], [4, 5, 6]), ([7, 4], [4, 7]), ([8, 4], [4, 8]), ([9, 4], [4, 9]), ([10, 4, 4], [4, 10]), ([11], [11]), ([11], [11]), ([12, 13, 11], [11, 12, 13]), ([14, 11], [11, 14]), ([15, 11], [11, 15]), ([11], [11]), ([17, 11], [11, 17]), ([16, 18, 11], [11, 16, 18]), ([11, 19, 4], [4, 11, 19]), ([4, 20], [4, 20]), ([21, 11, 0, 1, 2, 3, 4, 5, 6, 7, 8, 9, 10, 11, 12, 13, 14, 15, 16, 17, 18, 19, 20, 21], [21])])
def spec_l5Held.B9 : List Nat := [0, 0, 2, 7, 15, 31, 31, 127, 255, 511, 1023, 2047, 4095, 4095, 16383, 32767, 65535, 4095, 135167, 524287, 1048575, 2097151, 4194303]
theorem spec_l5Held.tab9 : rtab .any (opsOf Try.f92 9) = spec_l5Held.T9 := by kernel_rfl
theorem spec_l5Held.bits9 : waitsOk spec_l5Held.T9.2 spec_l5Held.B9 = true := by kernel_rfl
set_option maxHeartbeats 8000000 in
set_option maxRecDepth 100000 in
theorem spec_l5Held.calls (k : Nat) (A0 : Option Addr) (c0 : Nat) (l0 : List (S87)) (a1 : Int) (r : Bool) (w : World) (hr0 : Kd.C k87 w A0 l0.length l0) (hc0 : l0.length ≤ c0) (h : spec_l5Held.f k l0 a1 = some r) :
  Calls Try.prog 92 #[.slice A0 l0.length c0, .int .i64 a1] w fun e w' => e = .returned (.bool r) ∧ Below w.heap.size w w' := by
 have hu87 := Try.underlying87
 have HR0 := Aside0.mk hr0
 have HC0 := Aside0.mk hc0
 clear hr0 hc0
 have HB := Aside0.mk (Below.refl w.heap.size w)
 have H : (if 0 ≤ a1 then (if a1 < (l0.length : Int) then (if ((rd_T87 l0 a1).f0) = 2 then (if (rd_T87 l0 a1).f4 = true then (spec_l5Held.j0 k l0 a1 true ((rd_T87 l0 a1).f0) ((rd_T87 l0 a1).f1) ((rd_T87 l0 a1).f2) ((rd_T87 l0 a1).f3) ((rd_T87 l0 a1).f4)) else ((spec_Raw.f ((rd_T87 l0 a1).f1)).bind fun t194 => (if t194 = true then (spec_l5Held.j0 k l0 a1 ((wrap64 (a1 + 1)) == (l0.length : Int)) ((rd_T87 l0 a1).f0) ((rd_T87 l0 a1).f1) ((rd_T87 l0 a1).f2) ((rd_T87 l0 a1).f3) ((rd_T87 l0 a1).f4)) else (spec_l5Held.j0 k l0 a1 true ((rd_T87 l0 a1).f0) ((rd_T87 l0 a1).f1) ((rd_T87 l0 a1).f2) ((rd_T87 l0 a1).f3) ((rd_T87 l0 a1).f4))))) else (spec_l5Held.j0 k l0 a1 true ((rd_T87 l0 a1).f0) ((rd_T87 l0 a1).f1) ((rd_T87 l0 a1).f2) ((rd_T87 l0 a1).f3) ((rd_T87 l0 a1).f4))) else (none)) else (none)) = some r := h
 clear h
 by_cases c3 : 0 ≤ a1
 ·rw [if_pos c3] at H
  have c3b0 : decide (0 ≤ a1) = true := decide_eq_true c3
  clear c3
  by_cases c4 : a1 < (l0.length : Int)
  ·rw [if_pos c4] at H
   have c4b0 : decide (a1 < (l0.length : Int)) = true := decide_eq_true c4
   clear c4
   have HC5 := Aside0.mk H
   clear H
   have p192 : 0 ≤ (a1 : Int) := dt_
   have q192 : a1 < (l0.length : Int) := dt_
   obtain ⟨ad192, A192_2, c192_2, e192, hx192_0, hx192_1, hx192_2, hx192_3, hx192_4, hl192_2, hi192_2⟩ := at_T87 HR0.out a1 p192 q192
   cases e192
   have HR192_2 := Aside0.mk hi192_2
   have HC192_2 := Aside0.mk hl192_2
   clear hi192_2 hl192_2
   replace p192 := eq_true p192
   replace q192 := eq_true q192
   go_enter Try.func92, Try.ntmps92
   go_upto_region 2 with (first | ((with_reducible refine gate_dst (N := 5) rfl ?_); (try (refine gate_guard (by rfl) ?_; dsimp only)); refine box_event ?hg (N := 5) ?hd (cs := #[.int .i64 0, .string (⟨#[]⟩ : ByteArray), .slice none 0 0, .string (⟨#[]⟩ : ByteArray), .bool false]) (t := 87) ?hr ?_; (case hd => rfl); (case hg => rfl); (case hr => first | (go_simp; done) | (go_simp; rfl)); intro gb193 hg w6 hbox hb; have n0_ := Aside0.mk (below_step hb_ hb); have n1_ := Aside0.mk (hbox); have n2_ := Aside0.mk ((by rw [hg]; exact (below_size hb_) : w.heap.size ≤ gb193)); have n3_ := Aside0.mk ((by rw [hg]; exact (below_size hb_) : w.heap.size ≤ gb193)); clear HB; have HB := n0_; have BK193 := n1_; have GW193 := n2_; have GE193 := n3_; clear n0_ n1_ n2_ n3_; clear hb hbox hg; have hcz7_0 : w6.cell? ⟨gb193, 0, none⟩ = some (.int .i64 0) := (bc_ BK193.out 0).trans rfl; have hcz7_1 : w6.cell? ⟨gb193, 1, none⟩ = some (.string (⟨#[]⟩ : ByteArray)) := (bc_ BK193.out 1).trans rfl; have hcz7_2 : w6.cell? ⟨gb193, 2, none⟩ = some (.slice none 0 0) := (bc_ BK193.out 2).trans rfl; have hcz7_3 : w6.cell? ⟨gb193, 3, none⟩ = some (.string (⟨#[]⟩ : ByteArray)) := (bc_ BK193.out 3).trans rfl; have hcz7_4 : w6.cell? ⟨gb193, 4, none⟩ = some (.bool false) := (bc_ BK193.out 4).trans rfl; have hfz7_0 := blk_frozen BK193.out 0; have hfz7_1 := blk_frozen BK193.out 1; have hfz7_2 := blk_frozen BK193.out 2; have hfz7_3 := blk_frozen BK193.out 3; have hfz7_4 := blk_frozen BK193.out 4))
   (try simp only [Act.put, sa_, sz_, ss_])
   go_cut [30] (fun v30 wc => ∃ (kq : Nat) (x30_4 : Bool), v30 = .bool x30_4 ∧ Aside0 (spec_l5Held.j0 kq l0 a1 x30_4 ((rd_T87 l0 a1).f0) ((rd_T87 l0 a1).f1) ((rd_T87 l0 a1).f2) ((rd_T87 l0 a1).f3) ((rd_T87 l0 a1).f4) = some r) ∧ Aside0 (kq ≤ k) ∧ Aside0 (wc.heap[gb193]? = some (.cells #[.int .i64 ((rd_T87 l0 a1).f0), .string ((rd_T87 l0 a1).f1), (.slice A192_2 ((rd_T87 l0 a1).f2).length c192_2), .string ((rd_T87 l0 a1).f3), .bool ((rd_T87 l0 a1).f4)] 87 (0, 0))) ∧ Aside0 (Below w.heap.size w wc))
   case first =>
    have H := HC5.out
    clear HC5
    by_cases c8 : ((rd_T87 l0 a1).f0) = 2
    ·rw [if_pos c8] at H
     have c8b0 : (((rd_T87 l0 a1).f0) == 2) = true := beq_iff_eq.mpr c8
     have c8b1 : (((rd_T87 l0 a1).f0) != 2) = false := bne_eq_false_iff_eq.mpr c8
     clear c8
     (first | rw [c8b0] | (simp only [i64_w, i32_w]; rw [c8b0]) | skip)
     obtain ⟨bq9, hbq9⟩ : ∃ b_ : Bool, b_ = ((rd_T87 l0 a1).f4) := ⟨_, rfl⟩
     replace H : (if bq9 = true then (spec_l5Held.j0 k l0 a1 true ((rd_T87 l0 a1).f0) ((rd_T87 l0 a1).f1) ((rd_T87 l0 a1).f2) ((rd_T87 l0 a1).f3) bq9) else ((spec_Raw.f ((rd_T87 l0 a1).f1)).bind fun t194 => (if t194 = true then (spec_l5Held.j0 k l0 a1 ((wrap64 (a1 + 1)) == (l0.length : Int)) ((rd_T87 l0 a1).f0) ((rd_T87 l0 a1).f1) ((rd_T87 l0 a1).f2) ((rd_T87 l0 a1).f3) bq9) else (spec_l5Held.j0 k l0 a1 true ((rd_T87 l0 a1).f0) ((rd_T87 l0 a1).f1) ((rd_T87 l0 a1).f2) ((rd_T87 l0 a1).f3) bq9)))) = some r := by rw [← hbq9] at H; exact H
     have Nbq9 := Aside0.mk hbq9
     clear hbq9
     by_cases c10 : bq9 = true
     ·subst c10
      have c10e := Nbq9.out.symm
      have H1 : (spec_l5Held.j0 k l0 a1 true ((rd_T87 l0 a1).f0) ((rd_T87 l0 a1).f1) ((rd_T87 l0 a1).f2) ((rd_T87 l0 a1).f3) true) = some r := by rw [if_pos rfl] at H; exact H
      clear H
      have H := H1
      clear H1
      have H' := Aside0.mk H
      clear H
      have hcz11_0 : w6.cell? ⟨gb193, 0, none⟩ = some (.int .i64 0) := (bc_ BK193.out 0).trans rfl
      have hcz11_1 : w6.cell? ⟨gb193, 1, none⟩ = some (.string (⟨#[]⟩ : ByteArray)) := (bc_ BK193.out 1).trans rfl
      have hcz11_2 : w6.cell? ⟨gb193, 2, none⟩ = some (.slice none 0 0) := (bc_ BK193.out 2).trans rfl
      have hcz11_3 : w6.cell? ⟨gb193, 3, none⟩ = some (.string (⟨#[]⟩ : ByteArray)) := (bc_ BK193.out 3).trans rfl
      have hcz11_4 : w6.cell? ⟨gb193, 4, none⟩ = some (.bool false) := (bc_ BK193.out 4).trans rfl
      have hfz11_0 := blk_frozen BK193.out 0
      have hfz11_1 := blk_frozen BK193.out 1
      have hfz11_2 := blk_frozen BK193.out 2
      have hfz11_3 := blk_frozen BK193.out 3
      have hfz11_4 := blk_frozen BK193.out 4
      go_wp2
      go_meet
      case rel => exact ⟨_, (true), (by first | rfl | (simp; done) | (simp [*]; done)), (by first | exact H' | (rw [← Nbq9.out]; exact H')), ⟨by first | omega | exact Nat.le_refl _⟩, ⟨by (with_reducible repeat (first | refine dn_ ?_ _ | refine dd_ ?_ | refine da_ ?_ _)); refine blk_put (cs := #[.int .i64 ((rd_T87 l0 a1).f0), .string ((rd_T87 l0 a1).f1), .slice A192_2 ((rd_T87 l0 a1).f2).length c192_2, .string ((rd_T87 l0 a1).f3), .bool false]) ?_ 4 _ (by first | rfl | (simp [*]; done)); (with_reducible repeat (first | refine dn_ ?_ _ | refine dd_ ?_ | refine da_ ?_ _)); refine blk_put (cs := #[.int .i64 ((rd_T87 l0 a1).f0), .string ((rd_T87 l0 a1).f1), .slice A192_2 ((rd_T87 l0 a1).f2).length c192_2, .string (⟨#[]⟩ : ByteArray), .bool false]) ?_ 3 _ rfl; (with_reducible repeat (first | refine dn_ ?_ _ | refine dd_ ?_ | refine da_ ?_ _)); refine blk_put (cs := #[.int .i64 ((rd_T87 l0 a1).f0), .string ((rd_T87 l0 a1).f1), .slice none 0 0, .string (⟨#[]⟩ : ByteArray), .bool false]) ?_ 2 _ rfl; (with_reducible repeat (first | refine dn_ ?_ _ | refine dd_ ?_ | refine da_ ?_ _)); refine blk_put (cs := #[.int .i64 ((rd_T87 l0 a1).f0), .string (⟨#[]⟩ : ByteArray), .slice none 0 0, .string (⟨#[]⟩ : ByteArray), .bool false]) ?_ 1 _ rfl; (with_reducible repeat (first | refine dn_ ?_ _ | refine dd_ ?_ | refine da_ ?_ _)); refine blk_put (cs := #[.int .i64 0, .string (⟨#[]⟩ : ByteArray), .slice none 0 0, .string (⟨#[]⟩ : ByteArray), .bool false]) ?_ 0 _ rfl; (with_reducible repeat (first | refine dn_ ?_ _ | refine dd_ ?_ | refine da_ ?_ _)); exact BK193.out⟩, ⟨hb_⟩⟩
     ·replace c10 := Bool.eq_false_iff.mpr c10
      subst c10
      have c10e := Nbq9.out.symm
      have H1 : ((spec_Raw.f ((rd_T87 l0 a1).f1)).bind fun t194 => (if t194 = true then (spec_l5Held.j0 k l0 a1 ((wrap64 (a1 + 1)) == (l0.length : Int)) ((rd_T87 l0 a1).f0) ((rd_T87 l0 a1).f1) ((rd_T87 l0 a1).f2) ((rd_T87 l0 a1).f3) false) else (spec_l5Held.j0 k l0 a1 true ((rd_T87 l0 a1).f0) ((rd_T87 l0 a1).f1) ((rd_T87 l0 a1).f2) ((rd_T87 l0 a1).f3) false))) = some r := by rw [if_neg (show ¬ (false = true) by decide)] at H; exact H
      clear H
      have H := H1
      clear H1
      replace H := Option.bind_eq_some_iff.mp H
      obtain ⟨t194, A120, H⟩ := H
      replace H : (if t194 = true then (spec_l5Held.j0 k l0 a1 ((wrap64 (a1 + 1)) == (l0.length : Int)) ((rd_T87 l0 a1).f0) ((rd_T87 l0 a1).f1) ((rd_T87 l0 a1).f2) ((rd_T87 l0 a1).f3) false) else (spec_l5Held.j0 k l0 a1 true ((rd_T87 l0 a1).f0) ((rd_T87 l0 a1).f1) ((rd_T87 l0 a1).f2) ((rd_T87 l0 a1).f3) false)) = some r := H
      have A12 := Aside0.mk A120
      clear A120
      by_cases c13 : t194 = true
      ·subst c13
       have H1 : (spec_l5Held.j0 k l0 a1 ((wrap64 (a1 + 1)) == (l0.length : Int)) ((rd_T87 l0 a1).f0) ((rd_T87 l0 a1).f1) ((rd_T87 l0 a1).f2) ((rd_T87 l0 a1).f3) false) = some r := by rw [if_pos rfl] at H; exact H
       clear H
       have H := H1
       clear H1
       have H' := Aside0.mk H
       clear H
       have hcz14_0 : w6.cell? ⟨gb193, 0, none⟩ = some (.int .i64 0) := (bc_ BK193.out 0).trans rfl
       have hcz14_1 : w6.cell? ⟨gb193, 1, none⟩ = some (.string (⟨#[]⟩ : ByteArray)) := (bc_ BK193.out 1).trans rfl
       have hcz14_2 : w6.cell? ⟨gb193, 2, none⟩ = some (.slice none 0 0) := (bc_ BK193.out 2).trans rfl
       have hcz14_3 : w6.cell? ⟨gb193, 3, none⟩ = some (.string (⟨#[]⟩ : ByteArray)) := (bc_ BK193.out 3).trans rfl
       have hcz14_4 : w6.cell? ⟨gb193, 4, none⟩ = some (.bool false) := (bc_ BK193.out 4).trans rfl
       have hfz14_0 := blk_frozen BK193.out 0
       have hfz14_1 := blk_frozen BK193.out 1
       have hfz14_2 := blk_frozen BK193.out 2
       have hfz14_3 := blk_frozen BK193.out 3
       have hfz14_4 := blk_frozen BK193.out 4
       go_wp2_with (first | (go_at_call 121; (with_reducible refine (spec_Raw.calls ((rd_T87 l0 a1).f1) true _ A12.out).mono ?_); rintro e w' ⟨rfl, ⟨nd, rfl⟩⟩))
       go_meet
       case rel => exact ⟨_, (((wrap64 (a1 + 1)) == (l0.length : Int))), (by first | rfl | (simp; done) | (simp [*]; done)), (by first | exact H' | (rw [← Nbq9.out]; exact H')), ⟨by first | omega | exact Nat.le_refl _⟩, ⟨by (with_reducible repeat (first | refine dn_ ?_ _ | refine dd_ ?_ | refine da_ ?_ _)); refine blk_put (cs := #[.int .i64 ((rd_T87 l0 a1).f0), .string ((rd_T87 l0 a1).f1), .slice A192_2 ((rd_T87 l0 a1).f2).length c192_2, .string ((rd_T87 l0 a1).f3), .bool false]) ?_ 4 _ (by first | rfl | (simp [*]; done)); (with_reducible repeat (first | refine dn_ ?_ _ | refine dd_ ?_ | refine da_ ?_ _)); refine blk_put (cs := #[.int .i64 ((rd_T87 l0 a1).f0), .string ((rd_T87 l0 a1).f1), .slice A192_2 ((rd_T87 l0 a1).f2).length c192_2, .string (⟨#[]⟩ : ByteArray), .bool false]) ?_ 3 _ rfl; (with_reducible repeat (first | refine dn_ ?_ _ | refine dd_ ?_ | refine da_ ?_ _)); refine blk_put (cs := #[.int .i64 ((rd_T87 l0 a1).f0), .string ((rd_T87 l0 a1).f1), .slice none 0 0, .string (⟨#[]⟩ : ByteArray), .bool false]) ?_ 2 _ rfl; (with_reducible repeat (first | refine dn_ ?_ _ | refine dd_ ?_ | refine da_ ?_ _)); refine blk_put (cs := #[.int .i64 ((rd_T87 l0 a1).f0), .string (⟨#[]⟩ : ByteArray), .slice none 0 0, .string (⟨#[]⟩ : ByteArray), .bool false]) ?_ 1 _ rfl; (with_reducible repeat (first | refine dn_ ?_ _ | refine dd_ ?_ | refine da_ ?_ _)); refine blk_put (cs := #[.int .i64 0, .string (⟨#[]⟩ : ByteArray), .slice none 0 0, .string (⟨#[]⟩ : ByteArray), .bool false]) ?_ 0 _ rfl; (with_reducible repeat (first | refine dn_ ?_ _ | refine dd_ ?_ | refine da_ ?_ _)); exact BK193.out⟩, ⟨hb_⟩⟩
      ·replace c13 := Bool.eq_false_iff.mpr c13
       subst c13
       have H1 : (spec_l5Held.j0 k l0 a1 true ((rd_T87 l0 a1).f0) ((rd_T87 l0 a1).f1) ((rd_T87 l0 a1).f2) ((rd_T87 l0 a1).f3) false) = some r := by rw [if_neg (show ¬ (false = true) by decide)] at H; exact H
       clear H
       have H := H1
       clear H1
       have H' := Aside0.mk H
       clear H
       have hcz15_0 : w6.cell? ⟨gb193, 0, none⟩ = some (.int .i64 0) := (bc_ BK193.out 0).trans rfl
       have hcz15_1 : w6.cell? ⟨gb193, 1, none⟩ = some (.string (⟨#[]⟩ : ByteArray)) := (bc_ BK193.out 1).trans rfl
       have hcz15_2 : w6.cell? ⟨gb193, 2, none⟩ = some (.slice none 0 0) := (bc_ BK193.out 2).trans rfl
       have hcz15_3 : w6.cell? ⟨gb193, 3, none⟩ = some (.string (⟨#[]⟩ : ByteArray)) := (bc_ BK193.out 3).trans rfl
       have hcz15_4 : w6.cell? ⟨gb193, 4, none⟩ = some (.bool false) := (bc_ BK193.out 4).trans rfl
       have hfz15_0 := blk_frozen BK193.out 0
       have hfz15_1 := blk_frozen BK193.out 1
       have hfz15_2 := blk_frozen BK193.out 2
       have hfz15_3 := blk_frozen BK193.out 3
       have hfz15_4 := blk_frozen BK193.out 4
       go_wp2_with (first | (go_at_call 121; (with_reducible refine (spec_Raw.calls ((rd_T87 l0 a1).f1) false _ A12.out).mono ?_); rintro e w' ⟨rfl, ⟨nd, rfl⟩⟩))
       go_meet
       case rel => exact ⟨_, (true), (by first | rfl | (simp; done) | (simp [*]; done)), (by first | exact H' | (rw [← Nbq9.out]; exact H')), ⟨by first | omega | exact Nat.le_refl _⟩, ⟨by (with_reducible repeat (first | refine dn_ ?_ _ | refine dd_ ?_ | refine da_ ?_ _)); refine blk_put (cs := #[.int .i64 ((rd_T87 l0 a1).f0), .string ((rd_T87 l0 a1).f1), .slice A192_2 ((rd_T87 l0 a1).f2).length c192_2, .string ((rd_T87 l0 a1).f3), .bool false]) ?_ 4 _ (by first | rfl | (simp [*]; done)); (with_reducible repeat (first | refine dn_ ?_ _ | refine dd_ ?_ | refine da_ ?_ _)); refine blk_put (cs := #[.int .i64 ((rd_T87 l0 a1).f0), .string ((rd_T87 l0 a1).f1), .slice A192_2 ((rd_T87 l0 a1).f2).length c192_2, .string (⟨#[]⟩ : ByteArray), .bool false]) ?_ 3 _ rfl; (with_reducible repeat (first | refine dn_ ?_ _ | refine dd_ ?_ | refine da_ ?_ _)); refine blk_put (cs := #[.int .i64 ((rd_T87 l0 a1).f0), .string ((rd_T87 l0 a1).f1), .slice none 0 0, .string (⟨#[]⟩ : ByteArray), .bool false]) ?_ 2 _ rfl; (with_reducible repeat (first | refine dn_ ?_ _ | refine dd_ ?_ | refine da_ ?_ _)); refine blk_put (cs := #[.int .i64 ((rd_T87 l0 a1).f0), .string (⟨#[]⟩ : ByteArray), .slice none 0 0, .string (⟨#[]⟩ : ByteArray), .bool false]) ?_ 1 _ rfl; (with_reducible repeat (first | refine dn_ ?_ _ | refine dd_ ?_ | refine da_ ?_ _)); refine blk_put (cs := #[.int .i64 0, .string (⟨#[]⟩ : ByteArray), .slice none 0 0, .string (⟨#[]⟩ : ByteArray), .bool false]) ?_ 0 _ rfl; (with_reducible repeat (first | refine dn_ ?_ _ | refine dd_ ?_ | refine da_ ?_ _)); exact BK193.out⟩, ⟨hb_⟩⟩
    ·rw [if_neg c8] at H
     have c8b0 : (((rd_T87 l0 a1).f0) == 2) = false := beq_eq_false_iff_ne.mpr c8
     have c8b1 : (((rd_T87 l0 a1).f0) != 2) = true := bne_iff_ne.mpr c8
     (first | rw [c8b0] | (simp only [i64_w, i32_w]; rw [c8b0]) | skip)
     have H' := Aside0.mk H
     clear H
     have hcz16_0 : w6.cell? ⟨gb193, 0, none⟩ = some (.int .i64 0) := (bc_ BK193.out 0).trans rfl
     have hcz16_1 : w6.cell? ⟨gb193, 1, none⟩ = some (.string (⟨#[]⟩ : ByteArray)) := (bc_ BK193.out 1).trans rfl
     have hcz16_2 : w6.cell? ⟨gb193, 2, none⟩ = some (.slice none 0 0) := (bc_ BK193.out 2).trans rfl
     have hcz16_3 : w6.cell? ⟨gb193, 3, none⟩ = some (.string (⟨#[]⟩ : ByteArray)) := (bc_ BK193.out 3).trans rfl
     have hcz16_4 : w6.cell? ⟨gb193, 4, none⟩ = some (.bool false) := (bc_ BK193.out 4).trans rfl
     have hfz16_0 := blk_frozen BK193.out 0
     have hfz16_1 := blk_frozen BK193.out 1
     have hfz16_2 := blk_frozen BK193.out 2
     have hfz16_3 := blk_frozen BK193.out 3
     have hfz16_4 := blk_frozen BK193.out 4
     go_wp2
     go_meet
     case rel => exact ⟨_, (true), (by first | rfl | (simp; done) | (simp [*]; done)), (by first | exact H' | (rw [← Nbq9.out]; exact H')), ⟨by first | omega | exact Nat.le_refl _⟩, ⟨by (with_reducible repeat (first | refine dn_ ?_ _ | refine dd_ ?_ | refine da_ ?_ _)); refine blk_put (cs := #[.int .i64 ((rd_T87 l0 a1).f0), .string ((rd_T87 l0 a1).f1), .slice A192_2 ((rd_T87 l0 a1).f2).length c192_2, .string ((rd_T87 l0 a1).f3), .bool false]) ?_ 4 _ (by first | rfl | (simp [*]; done)); (with_reducible repeat (first | refine dn_ ?_ _ | refine dd_ ?_ | refine da_ ?_ _)); refine blk_put (cs := #[.int .i64 ((rd_T87 l0 a1).f0), .string ((rd_T87 l0 a1).f1), .slice A192_2 ((rd_T87 l0 a1).f2).length c192_2, .string (⟨#[]⟩ : ByteArray), .bool false]) ?_ 3 _ rfl; (with_reducible repeat (first | refine dn_ ?_ _ | refine dd_ ?_ | refine da_ ?_ _)); refine blk_put (cs := #[.int .i64 ((rd_T87 l0 a1).f0), .string ((rd_T87 l0 a1).f1), .slice none 0 0, .string (⟨#[]⟩ : ByteArray), .bool false]) ?_ 2 _ rfl; (with_reducible repeat (first | refine dn_ ?_ _ | refine dd_ ?_ | refine da_ ?_ _)); refine blk_put (cs := #[.int .i64 ((rd_T87 l0 a1).f0), .string (⟨#[]⟩ : ByteArray), .slice none 0 0, .string (⟨#[]⟩ : ByteArray), .bool false]) ?_ 1 _ rfl; (with_reducible repeat (first | refine dn_ ?_ _ | refine dd_ ?_ | refine da_ ?_ _)); refine blk_put (cs := #[.int .i64 0, .string (⟨#[]⟩ : ByteArray), .slice none 0 0, .string (⟨#[]⟩ : ByteArray), .bool false]) ?_ 0 _ rfl; (with_reducible repeat (first | refine dn_ ?_ _ | refine dd_ ?_ | refine da_ ?_ _)); exact BK193.out⟩, ⟨hb_⟩⟩
   case rest =>
    clear HC5
    try clear c1
    try clear p1
    try clear q1
    try clear hx1
    try clear p2
    try clear c3
    try clear c3b0
    try clear c4
    try clear c4b0
    try clear p6
    try clear c8
    try clear c8b0
    try clear c8b1
    try clear c9
    try clear q9
    try clear c10
    try clear c13
    try clear hcz11_0
    try clear hcz11_1
    try clear hcz11_2
    try clear hcz11_3
    try clear hcz11_4
    try clear hcz14_0
    try clear hcz14_1
    try clear hcz14_2
    try clear hcz14_3
    try clear hcz14_4
    try clear hcz15_0
    try clear hcz15_1
    try clear hcz15_2
    try clear hcz15_3
    try clear hcz15_4
    try clear hcz16_0
    try clear hcz16_1
    try clear hcz16_2
    try clear hcz16_3
    try clear hcz16_4
    try clear hcz7_0
    try clear hcz7_1
    try clear hcz7_2
    try clear hcz7_3
    try clear hcz7_4
    try clear hfz11_0
    try clear hfz11_1
    try clear hfz11_2
    try clear hfz11_3
    try clear hfz11_4
    try clear hfz14_0
    try clear hfz14_1
    try clear hfz14_2
    try clear hfz14_3
    try clear hfz14_4
    try clear hfz15_0
    try clear hfz15_1
    try clear hfz15_2
    try clear hfz15_3
    try clear hfz15_4
    try clear hfz16_0
    try clear hfz16_1
    try clear hfz16_2
    try clear hfz16_3
    try clear hfz16_4
    try clear hfz7_0
    try clear hfz7_1
    try clear hfz7_2
    try clear hfz7_3
    try clear hfz7_4
    try clear hx192_0
    try clear hx192_1
    try clear hx192_2
    try clear hx192_3
    try clear hx192_4
    try clear p192
    try clear q192
    obtain ⟨kq, x30_4, rfl, HA, HJ4, BK193, HB⟩ := hcut
    cases kq with
    | zero => exact absurd HA.out (by simp [spec_l5Held.j0])
    | succ kj4 =>
     have H := HA.out
     clear HA
     simp only [spec_l5Held.j0] at H
     by_cases c17 : x30_4 = true
     ·subst c17
      have H1 : (some true) = some r := by rw [if_pos rfl] at H; exact H
      clear H
      have H := H1
      clear H1
      obtain rfl := Option.some.inj H
      go_wp2
      go_ret
      exact ⟨by first | rfl | (simp [errW_none, errW_some] <;> rfl) | (simp [*, errW_none, errW_some] <;> rfl), hb_⟩
     ·replace c17 := Bool.eq_false_iff.mpr c17
      subst c17
      have H1 : (if 0 ≤ (wrap64 (a1 + 1)) then (if (wrap64 (a1 + 1)) < (l0.length : Int) then (if ((rd_T87 l0 (wrap64 (a1 + 1))).f0) = 1 then ((spec_l5Bare.f l0 (wrap64 (a1 + 1))).bind fun t196 => (if t196 = true then (if ((rd_T87 l0 (wrap64 (a1 + 1))).f3).size + 2 ≤ 9223372036854775807 then (if ((rd_T87 l0 (wrap64 (a1 + 1))).f3).size + 2 + ((rd_T87 l0 a1).f1).size ≤ 9223372036854775807 then (if ((rd_T87 l0 (wrap64 (a1 + 1))).f3).size + 2 + ((rd_T87 l0 a1).f1).size + 1 ≤ 9223372036854775807 then ((spec_RawEnd.f kj4 (((((rd_T87 l0 (wrap64 (a1 + 1))).f3) ++ (⟨#[60, 47]⟩ : ByteArray)) ++ ((rd_T87 l0 a1).f1)) ++ (⟨#[62]⟩ : ByteArray)) 0 ((rd_T87 l0 a1).f1)).bind fun t198 => (if t198 = (((rd_T87 l0 (wrap64 (a1 + 1))).f3).size : Int) then (if (wrap64 ((wrap64 (a1 + 1)) + 1)) = (l0.length : Int) then (some true) else (if 0 ≤ (wrap64 ((wrap64 (a1 + 1)) + 1)) then (if (wrap64 ((wrap64 (a1 + 1)) + 1)) < (l0.length : Int) then (if ((rd_T87 l0 (wrap64 ((wrap64 (a1 + 1)) + 1))).f0) = 3 then (some (((rd_T87 l0 (wrap64 ((wrap64 (a1 + 1)) + 1))).f1).toList == ((rd_T87 l0 a1).f1).toList)) else (some false)) else (none)) else (none))) else (some false))) else (none)) else (none)) else (none)) else (if (wrap64 ((wrap64 (a1 + 1)) + 1)) = (l0.length : Int) then (some true) else (if 0 ≤ (wrap64 ((wrap64 (a1 + 1)) + 1)) then (if (wrap64 ((wrap64 (a1 + 1)) + 1)) < (l0.length : Int) then (if ((rd_T87 l0 (wrap64 ((wrap64 (a1 + 1)) + 1))).f0) = 3 then (some (((rd_T87 l0 (wrap64 ((wrap64 (a1 + 1)) + 1))).f1).toList == ((rd_T87 l0 a1).f1).toList)) else (some false)) else (none)) else (none))))) else (if (wrap64 (a1 + 1)) = (l0.length : Int) then (some true) else (if ((rd_T87 l0 (wrap64 (a1 + 1))).f0) = 3 then (some (((rd_T87 l0 (wrap64 (a1 + 1))).f1).toList == ((rd_T87 l0 a1).f1).toList)) else (some false)))) else (none)) else (none)) = some r := by rw [if_neg (show ¬ (false = true) by decide)] at H; exact H
      clear H
      have H := H1
      clear H1
      obtain ⟨ji18, hji18⟩ : ∃ j_ : Int, (wrap64 (a1 + 1)) = j_ := ⟨_, rfl⟩
      replace H : (if 0 ≤ (ji18) then (if (ji18) < (l0.length : Int) then (if ((rd_T87 l0 (ji18)).f0) = 1 then ((spec_l5Bare.f l0 (ji18)).bind fun t196 => (if t196 = true then (if ((rd_T87 l0 (ji18)).f3).size + 2 ≤ 9223372036854775807 then (if ((rd_T87 l0 (ji18)).f3).size + 2 + ((rd_T87 l0 a1).f1).size ≤ 9223372036854775807 then (if ((rd_T87 l0 (ji18)).f3).size + 2 + ((rd_T87 l0 a1).f1).size + 1 ≤ 9223372036854775807 then ((spec_RawEnd.f kj4 (((((rd_T87 l0 (ji18)).f3) ++ (⟨#[60, 47]⟩ : ByteArray)) ++ ((rd_T87 l0 a1).f1)) ++ (⟨#[62]⟩ : ByteArray)) 0 ((rd_T87 l0 a1).f1)).bind fun t198 => (if t198 = (((rd_T87 l0 (ji18)).f3).size : Int) then (if (wrap64 ((ji18) + 1)) = (l0.length : Int) then (some true) else (if 0 ≤ (wrap64 ((ji18) + 1)) then (if (wrap64 ((ji18) + 1)) < (l0.length : Int) then (if ((rd_T87 l0 (wrap64 ((ji18) + 1))).f0) = 3 then (some (((rd_T87 l0 (wrap64 ((ji18) + 1))).f1).toList == ((rd_T87 l0 a1).f1).toList)) else (some false)) else (none)) else (none))) else (some false))) else (none)) else (none)) else (none)) else (if (wrap64 ((ji18) + 1)) = (l0.length : Int) then (some true) else (if 0 ≤ (wrap64 ((ji18) + 1)) then (if (wrap64 ((ji18) + 1)) < (l0.length : Int) then (if ((rd_T87 l0 (wrap64 ((ji18) + 1))).f0) = 3 then (some (((rd_T87 l0 (wrap64 ((ji18) + 1))).f1).toList == ((rd_T87 l0 a1).f1).toList)) else (some false)) else (none)) else (none))))) else (if (ji18) = (l0.length : Int) then (some true) else (if ((rd_T87 l0 (ji18)).f0) = 3 then (some (((rd_T87 l0 (ji18)).f1).toList == ((rd_T87 l0 a1).f1).toList)) else (some false)))) else (none)) else (none)) = some r := by first | (rw [hji18] at H; exact H) | (simp only [hji18] at H ⊢; exact H)
      have hji18w : (IntKind.i64.wrap (a1 + 1)) = ji18 := (i64_w _).trans hji18
      by_cases c19 : 0 ≤ (ji18)
      ·rw [if_pos c19] at H
       have c19b0 : decide (0 ≤ (ji18)) = true := decide_eq_true c19
       clear c19
       by_cases c20 : (ji18) < (l0.length : Int)
       ·rw [if_pos c20] at H
        have c20b0 : decide ((ji18) < (l0.length : Int)) = true := decide_eq_true c20
        clear c20
        by_cases c21 : ((rd_T87 l0 (ji18)).f0) = 1
        ·rw [if_pos c21] at H
         have c21b0 : (((rd_T87 l0 (ji18)).f0) == 1) = true := beq_iff_eq.mpr c21
         have c21b1 : (((rd_T87 l0 (ji18)).f0) != 1) = false := bne_eq_false_iff_eq.mpr c21
         clear c21
         replace H := Option.bind_eq_some_iff.mp H
         obtain ⟨t196, A220, H⟩ := H
         replace H : (if t196 = true then (if ((rd_T87 l0 (ji18)).f3).size + 2 ≤ 9223372036854775807 then (if ((rd_T87 l0 (ji18)).f3).size + 2 + ((rd_T87 l0 a1).f1).size ≤ 9223372036854775807 then (if ((rd_T87 l0 (ji18)).f3).size + 2 + ((rd_T87 l0 a1).f1).size + 1 ≤ 9223372036854775807 then ((spec_RawEnd.f kj4 (((((rd_T87 l0 (ji18)).f3) ++ (⟨#[60, 47]⟩ : ByteArray)) ++ ((rd_T87 l0 a1).f1)) ++ (⟨#[62]⟩ : ByteArray)) 0 ((rd_T87 l0 a1).f1)).bind fun t198 => (if t198 = (((rd_T87 l0 (ji18)).f3).size : Int) then (if (wrap64 ((ji18) + 1)) = (l0.length : Int) then (some true) else (if 0 ≤ (wrap64 ((ji18) + 1)) then (if (wrap64 ((ji18) + 1)) < (l0.length : Int) then (if ((rd_T87 l0 (wrap64 ((ji18) + 1))).f0) = 3 then (some (((rd_T87 l0 (wrap64 ((ji18) + 1))).f1).toList == ((rd_T87 l0 a1).f1).toList)) else (some false)) else (none)) else (none))) else (some false))) else (none)) else (none)) else (none)) else (if (wrap64 ((ji18) + 1)) = (l0.length : Int) then (some true) else (if 0 ≤ (wrap64 ((ji18) + 1)) then (if (wrap64 ((ji18) + 1)) < (l0.length : Int) then (if ((rd_T87 l0 (wrap64 ((ji18) + 1))).f0) = 3 then (some (((rd_T87 l0 (wrap64 ((ji18) + 1))).f1).toList == ((rd_T87 l0 a1).f1).toList)) else (some false)) else (none)) else (none)))) = some r := H
         have A22 := Aside0.mk A220
         clear A220
         by_cases c23 : t196 = true
         ·subst c23
          have H1 : (if ((rd_T87 l0 (ji18)).f3).size + 2 ≤ 9223372036854775807 then (if ((rd_T87 l0 (ji18)).f3).size + 2 + ((rd_T87 l0 a1).f1).size ≤ 9223372036854775807 then (if ((rd_T87 l0 (ji18)).f3).size + 2 + ((rd_T87 l0 a1).f1).size + 1 ≤ 9223372036854775807 then ((spec_RawEnd.f kj4 (((((rd_T87 l0 (ji18)).f3) ++ (⟨#[60, 47]⟩ : ByteArray)) ++ ((rd_T87 l0 a1).f1)) ++ (⟨#[62]⟩ : ByteArray)) 0 ((rd_T87 l0 a1).f1)).bind fun t198 => (if t198 = (((rd_T87 l0 (ji18)).f3).size : Int) then (if (wrap64 ((ji18) + 1)) = (l0.length : Int) then (some true) else (if 0 ≤ (wrap64 ((ji18) + 1)) then (if (wrap64 ((ji18) + 1)) < (l0.length : Int) then (if ((rd_T87 l0 (wrap64 ((ji18) + 1))).f0) = 3 then (some (((rd_T87 l0 (wrap64 ((ji18) + 1))).f1).toList == ((rd_T87 l0 a1).f1).toList)) else (some false)) else (none)) else (none))) else (some false))) else (none)) else (none)) else (none)) = some r := by rw [if_pos rfl] at H; exact H
          clear H
          have H := H1
          clear H1
          by_cases c24 : ((rd_T87 l0 (ji18)).f3).size + 2 ≤ 9223372036854775807
          ·rw [if_pos c24] at H
           have c24b0 := eq_true c24
           have c24b1 : decide (((rd_T87 l0 (ji18)).f3).size + 2 ≤ 9223372036854775807) = true := decide_eq_true c24
           try have c24b2 : (9223372036854775807 < ((rd_T87 l0 (ji18)).f3).size + 2) = False := eq_false (Nat.not_lt.2 c24)
           by_cases c25 : ((rd_T87 l0 (ji18)).f3).size + 2 + ((rd_T87 l0 a1).f1).size ≤ 9223372036854775807
           ·rw [if_pos c25] at H
            have c25b0 := eq_true c25
            have c25b1 : decide (((rd_T87 l0 (ji18)).f3).size + 2 + ((rd_T87 l0 a1).f1).size ≤ 9223372036854775807) = true := decide_eq_true c25
            try have c25b2 : (9223372036854775807 < ((rd_T87 l0 (ji18)).f3).size + 2 + ((rd_T87 l0 a1).f1).size) = False := eq_false (Nat.not_lt.2 c25)
            by_cases c26 : ((rd_T87 l0 (ji18)).f3).size + 2 + ((rd_T87 l0 a1).f1).size + 1 ≤ 9223372036854775807
            ·rw [if_pos c26] at H
             have c26b0 := eq_true c26
             have c26b1 : decide (((rd_T87 l0 (ji18)).f3).size + 2 + ((rd_T87 l0 a1).f1).size + 1 ≤ 9223372036854775807) = true := decide_eq_true c26
             try have c26b2 : (9223372036854775807 < ((rd_T87 l0 (ji18)).f3).size + 2 + ((rd_T87 l0 a1).f1).size + 1) = False := eq_false (Nat.not_lt.2 c26)
             replace H := Option.bind_eq_some_iff.mp H
             obtain ⟨t198, A270, H⟩ := H
             replace H : (if t198 = (((rd_T87 l0 (ji18)).f3).size : Int) then (if (wrap64 ((ji18) + 1)) = (l0.length : Int) then (some true) else (if 0 ≤ (wrap64 ((ji18) + 1)) then (if (wrap64 ((ji18) + 1)) < (l0.length : Int) then (if ((rd_T87 l0 (wrap64 ((ji18) + 1))).f0) = 3 then (some (((rd_T87 l0 (wrap64 ((ji18) + 1))).f1).toList == ((rd_T87 l0 a1).f1).toList)) else (some false)) else (none)) else (none))) else (some false)) = some r := H
             have A27 := Aside0.mk A270
             clear A270
             by_cases c28 : t198 = (((rd_T87 l0 (ji18)).f3).size : Int)
             ·rw [if_pos c28] at H
              have c28b0 : (t198 == (((rd_T87 l0 (ji18)).f3).size : Int)) = true := beq_iff_eq.mpr c28
              have c28b1 : (t198 != (((rd_T87 l0 (ji18)).f3).size : Int)) = false := bne_eq_false_iff_eq.mpr c28
              clear c28
              by_cases c29 : (wrap64 ((ji18) + 1)) = (l0.length : Int)
              ·rw [if_pos c29] at H
               have c29b0 : ((wrap64 ((ji18) + 1)) == (l0.length : Int)) = true := beq_iff_eq.mpr c29
               have c29b1 : ((wrap64 ((ji18) + 1)) != (l0.length : Int)) = false := bne_eq_false_iff_eq.mpr c29
               clear c29
               obtain rfl := Option.some.inj H
               have p195 : 0 ≤ ((ji18) : Int) := dt_
               have q195 : (ji18) < (l0.length : Int) := dt_
               obtain ⟨ad195, A195_2, c195_2, e195, hx195_0, hx195_1, hx195_2, hx195_3, hx195_4, hl195_2, hi195_2⟩ := at_T87 HR0.out (ji18) p195 q195
               obtain rfl : ad192 = ad195 := (by injection e195)
               replace hx195_0 := pw_cell_below HB.out hx195_0
               replace hx195_1 := pw_cell_below HB.out hx195_1
               replace hx195_2 := pw_cell_below HB.out hx195_2
               replace hx195_3 := pw_cell_below HB.out hx195_3
               replace hx195_4 := pw_cell_below HB.out hx195_4
               have HR195_2 := Aside0.mk hi195_2
               have HC195_2 := Aside0.mk hl195_2
               clear hi195_2 hl195_2
               replace p195 := eq_true p195
               replace q195 := eq_true q195
               try go_wp2
               have n0_ := Aside0.mk (dd_ BK193.out)
               have n1_ := Aside0.mk (b1_ HB.out)
               clear BK193
               clear HB
               have BK193 := n0_
               have HB := n1_
               clear n0_ n1_
               have p197 : 0 ≤ ((ji18) : Int) := dt_
               have q197 : (ji18) < (l0.length : Int) := dt_
               obtain ⟨ad197, A197_2, c197_2, e197, hx197_0, hx197_1, hx197_2, hx197_3, hx197_4, hl197_2, hi197_2⟩ := at_T87 HR0.out (ji18) p197 q197
               have hw197_4 := hx197_4
               have hw197_3 := hx197_3
               have hw197_2 := hx197_2
               have hw197_1 := hx197_1
               have hw197_0 := hx197_0
               obtain rfl : ad192 = ad197 := (by injection e197)
               replace hx197_0 := pw_cell_below HB.out hx197_0
               replace hx197_1 := pw_cell_below HB.out hx197_1
               replace hx197_2 := pw_cell_below HB.out hx197_2
               replace hx197_3 := pw_cell_below HB.out hx197_3
               replace hx197_4 := pw_cell_below HB.out hx197_4
               have HR197_2 := Aside0.mk hi197_2
               have HC197_2 := Aside0.mk hl197_2
               clear hi197_2 hl197_2
               replace p197 := eq_true p197
               replace q197 := eq_true q197
               have p199 : 0 ≤ ((ji18) : Int) := dt_
               have q199 : (ji18) < (l0.length : Int) := dt_
               obtain ⟨ad199, A199_2, c199_2, e199, hx199_0, hx199_1, hx199_2, hx199_3, hx199_4, hl199_2, hi199_2⟩ := at_T87 HR0.out (ji18) p199 q199
               have hw199_4 := hx199_4
               have hw199_3 := hx199_3
               have hw199_2 := hx199_2
               have hw199_1 := hx199_1
               have hw199_0 := hx199_0
               obtain rfl : ad192 = ad199 := (by injection e199)
               replace hx199_0 := pw_cell_below HB.out hx199_0
               replace hx199_1 := pw_cell_below HB.out hx199_1
               replace hx199_2 := pw_cell_below HB.out hx199_2
               replace hx199_3 := pw_cell_below HB.out hx199_3
               replace hx199_4 := pw_cell_below HB.out hx199_4
               have HR199_2 := Aside0.mk hi199_2
               have HC199_2 := Aside0.mk hl199_2
               clear hi199_2 hl199_2
               replace p199 := eq_true p199
               replace q199 := eq_true q199
               refine start_ (n := 25) (S := fun w' => w'.cell? ⟨gb193, 0, none⟩ = some (.int .i64 ((rd_T87 l0 a1).f0)) ∧ w'.cell? ⟨gb193, 1, none⟩ = some (.string ((rd_T87 l0 a1).f1)) ∧ w'.cell? ⟨gb193, 2, none⟩ = some (.slice A192_2 ((rd_T87 l0 a1).f2).length c192_2) ∧ w'.cell? ⟨gb193, 3, none⟩ = some (.string ((rd_T87 l0 a1).f3)) ∧ w'.cell? ⟨gb193, 4, none⟩ = some (.bool ((rd_T87 l0 a1).f4)) ∧ w'.cell? (ad192.add (((ji18)).toNat * 5)) = some (.int .i64 ((rd_T87 l0 (ji18)).f0)) ∧ w'.cell? ⟨(ad192.add (((ji18)).toNat * 5)).block, (ad192.add (((ji18)).toNat * 5)).off + 1, none⟩ = some (.string ((rd_T87 l0 (ji18)).f1)) ∧ w'.cell? ⟨(ad192.add (((ji18)).toNat * 5)).block, (ad192.add (((ji18)).toNat * 5)).off + 2, none⟩ = some (.slice A197_2 ((rd_T87 l0 (ji18)).f2).length c197_2) ∧ w'.cell? ⟨(ad192.add (((ji18)).toNat * 5)).block, (ad192.add (((ji18)).toNat * 5)).off + 3, none⟩ = some (.string ((rd_T87 l0 (ji18)).f3)) ∧ w'.cell? ⟨(ad192.add (((ji18)).toNat * 5)).block, (ad192.add (((ji18)).toNat * 5)).off + 4, none⟩ = some (.bool ((rd_T87 l0 (ji18)).f4)) ∧ w'.cell? (ad192.add (((ji18)).toNat * 5)) = some (.int .i64 ((rd_T87 l0 (ji18)).f0)) ∧ w'.cell? ⟨(ad192.add (((ji18)).toNat * 5)).block, (ad192.add (((ji18)).toNat * 5)).off + 1, none⟩ = some (.string ((rd_T87 l0 (ji18)).f1)) ∧ w'.cell? ⟨(ad192.add (((ji18)).toNat * 5)).block, (ad192.add (((ji18)).toNat * 5)).off + 2, none⟩ = some (.slice A199_2 ((rd_T87 l0 (ji18)).f2).length c199_2) ∧ w'.cell? ⟨(ad192.add (((ji18)).toNat * 5)).block, (ad192.add (((ji18)).toNat * 5)).off + 3, none⟩ = some (.string ((rd_T87 l0 (ji18)).f3)) ∧ w'.cell? ⟨(ad192.add (((ji18)).toNat * 5)).block, (ad192.add (((ji18)).toNat * 5)).off + 4, none⟩ = some (.bool ((rd_T87 l0 (ji18)).f4))) (ds := []) q8_0 (by kernel_rfl) rfl rfl ⟨(bc_ BK193.out 0).trans rfl, (bc_ BK193.out 1).trans rfl, (bc_ BK193.out 2).trans rfl, (bc_ BK193.out 3).trans rfl, (bc_ BK193.out 4).trans rfl, (pw_cell_below HB.out hw197_0), (pw_cell_below HB.out hw197_1), (pw_cell_below HB.out hw197_2), (pw_cell_below HB.out hw197_3), (pw_cell_below HB.out hw197_4), (pw_cell_below HB.out hw199_0), (pw_cell_below HB.out hw199_1), (pw_cell_below HB.out hw199_2), (pw_cell_below HB.out hw199_3), (pw_cell_below HB.out hw199_4)⟩ (fun hHeld => ?_); refine with_tabW spec_l5Held.tab6 spec_l5Held.bits6 (fun HT_ HW_ => ?_)
               generalize wc.drew = w30 at BK193 HB HR197_2 HR199_2 hx197_0 hx197_1 hx197_2 hx197_3 hx197_4 hx199_0 hx199_1 hx199_2 hx199_3 hx199_4 hHeld ⊢
               refine pu_ 0 39 q8_1 ?_
               refine pu_ 1 40 q8_2 ?_
               refine on_ 2 41 q8_3 (fun K hK => ?_)
               refine goes_ Try.func122 (by kernel_rfl) rfl #[.slice (some ad192) l0.length c0, .int .i64 ji18] (by rfl) rfl rfl (by (try simp only [List.map_toArray, List.map_cons, List.map_nil]); first | done | (simp only [hji18]; rfl) | rfl | (simp only [List.length_drop, List.length_take]; rfl)) ?_
               with_reducible refine (spec_l5Bare.calls _ _ l0 ji18 true _ ?side1 ?side2 A22.out).mono ?_
               (case side1 => repeat (first | exact (Kd.C_below HR0.out HB.out) | (with_reducible refine ca_ ?_ _) | (with_reducible refine cn_ ?_ _) | (with_reducible refine cd_ ?_)))
               (case side2 => exact HC0.out)
               rintro e w' ⟨rfl, ⟨nd, rfl⟩⟩
               refine ⟨_, rfl, ?_⟩
               refine hK.out _ _ ⟨(bc_ BK193.out 0).trans rfl, (bc_ BK193.out 1).trans rfl, (bc_ BK193.out 2).trans rfl, (bc_ BK193.out 3).trans rfl, (bc_ BK193.out 4).trans rfl, (pw_cell_below HB.out hw197_0), (pw_cell_below HB.out hw197_1), (pw_cell_below HB.out hw197_2), (pw_cell_below HB.out hw197_3), (pw_cell_below HB.out hw197_4), (pw_cell_below HB.out hw199_0), (pw_cell_below HB.out hw199_1), (pw_cell_below HB.out hw199_2), (pw_cell_below HB.out hw199_3), (pw_cell_below HB.out hw199_4)⟩ (fun hHeld => ?_)
               clear hK K
               refine no_ ?_
               refine pu_ 3 42 q8_4 ?_
               refine pu_ 4 43 q8_5 ?_
               refine pu_ 5 44 q8_6 ?_
               refine pu_ 6 45 q8_7 ?_
               refine pu_ 7 46 q8_8 ?_
               refine pu_ 10 49 q8_9 ?_
               refine pu_ 14 53 q8_10 ?_
               refine pu_ 17 56 q8_11 ?_
               refine pu_ 18 57 q8_12 ?_
               refine pu_ 19 58 q8_13 ?_
               refine pu_ 20 59 q8_14 ?_
               refine tk_ 8 47 q8_15 hHeld ?_
               refine pu_ 9 48 q8_16 ?_
               refine tk_ 11 50 q8_17 hHeld ?_
               refine pu_ 12 51 q8_18 ?_
               refine pu_ 13 52 q8_19 ?_
               refine tk_ 15 54 q8_20 hHeld ?_
               refine tk_ 21 60 q8_21 hHeld ?_
               refine pu_ 22 61 q8_22 ?_
               refine on_ 16 55 q8_23 (fun K hK => ?_)
               refine goes_ Try.func123 (by kernel_rfl) rfl #[.string (((((rd_T87 l0 (ji18)).f3) ++ (⟨#[60, 47]⟩ : ByteArray)) ++ ((rd_T87 l0 a1).f1)) ++ (⟨#[62]⟩ : ByteArray)), .int .i64 0, .string ((rd_T87 l0 a1).f1)] (by rfl) rfl rfl (by (try simp only [List.map_toArray, List.map_cons, List.map_nil]); first | done | (simp only [hji18]; rfl) | rfl | (simp only [List.length_drop, List.length_take]; rfl)) ?_
               with_reducible refine (spec_RawEnd.calls kj4 (((((rd_T87 l0 (ji18)).f3) ++ (⟨#[60, 47]⟩ : ByteArray)) ++ ((rd_T87 l0 a1).f1)) ++ (⟨#[62]⟩ : ByteArray)) 0 ((rd_T87 l0 a1).f1) t198 _ A27.out).mono ?_
               rintro e w31 ⟨rfl, hb⟩
               refine ⟨_, rfl, ?_⟩
               have n0_ := Aside0.mk (blk_below (g := gb193) (o := .cells #[.int .i64 ((rd_T87 l0 a1).f0), .string ((rd_T87 l0 a1).f1), .slice A192_2 ((rd_T87 l0 a1).f2).length c192_2, .string ((rd_T87 l0 a1).f3), .bool ((rd_T87 l0 a1).f4)] 87 (0, 0)) (by (with_reducible repeat (first | refine dn_ ?_ _ | refine dd_ ?_ | refine da_ ?_ _)); exact BK193.out) hb)
               have n1_ := Aside0.mk (below_step hb_ hb)
               clear BK193
               clear HB
               have BK193 := n0_
               have HB := n1_
               clear n0_ n1_
               (try clear hb)
               (try clear hb2)
               (try clear hk)
               (try clear hi)
               refine hK.out _ _ ⟨(bc_ BK193.out 0).trans rfl, (bc_ BK193.out 1).trans rfl, (bc_ BK193.out 2).trans rfl, (bc_ BK193.out 3).trans rfl, (bc_ BK193.out 4).trans rfl, (pw_cell_below HB.out hw197_0), (pw_cell_below HB.out hw197_1), (pw_cell_below HB.out hw197_2), (pw_cell_below HB.out hw197_3), (pw_cell_below HB.out hw197_4), (pw_cell_below HB.out hw199_0), (pw_cell_below HB.out hw199_1), (pw_cell_below HB.out hw199_2), (pw_cell_below HB.out hw199_3), (pw_cell_below HB.out hw199_4)⟩ (fun hHeld => ?_)
               clear hK K
               refine no_ ?_
               refine pu_ 23 62 q8_24 ?_
               refine pu_ 24 63 q8_25 ?_
               refine done_ (done_of HT_.out (by kernel_rfl)) ?_
               try go_wp2
               have n0_ := Aside0.mk (dd_ BK193.out)
               have n1_ := Aside0.mk (b1_ HB.out)
               clear BK193
               clear HB
               have BK193 := n0_
               have HB := n1_
               clear n0_ n1_
               refine start_ (n := 23) (S := fun w' => True) (ds := []) q8_26 (by kernel_rfl) rfl rfl trivial (fun hHeld => ?_); refine with_tabW spec_l5Held.tab9 spec_l5Held.bits9 (fun HT_ HW_ => ?_)
               generalize w31.drew = w32 at BK193 HB hHeld ⊢
               refine pu_ 0 66 q8_27 ?_
               refine pu_ 1 67 q8_28 ?_
               refine pu_ 2 68 q8_29 ?_
               refine pu_ 3 69 q8_30 ?_
               refine pu_ 4 70 q8_31 ?_
               refine pv_ 5 71 q8_32 ?_
               refine pv_ 6 72 q8_33 ?_
               refine pv_ 7 73 q8_34 ?_
               refine pv_ 8 74 q8_35 ?_
               refine pv_ 9 75 q8_36 ?_
               refine pv_ 10 76 q8_37 ?_
               refine pv_ 11 77 q8_38 ?_
               refine pv_ 12 78 q8_39 ?_
               refine pv_ 13 79 q8_40 ?_
               refine pv_ 14 80 q8_41 ?_
               refine pv_ 15 81 q8_42 ?_
               refine pv_ 16 82 q8_43 ?_
               refine pv_ 17 83 q8_44 ?_
               refine pv_ 18 84 q8_45 ?_
               refine pv_ 19 85 q8_46 ?_
               refine pv_ 20 86 q8_47 ?_
               refine pu_ 21 87 q8_48 ?_
               refine pu_ 22 4 q8_49 ?_
               refine done_ (done_of HT_.out (by kernel_rfl)) ?_
               try go_wp2
               go_ret
               exact ⟨by first | rfl | (simp [errW_none, errW_some] <;> rfl) | (simp only [← hji18]; first | rfl | (simp [errW_none, errW_some] <;> rfl)) | (simp [*, errW_none, errW_some] <;> rfl), hb_⟩
              ·rw [if_neg c29] at H
               have c29b0 : ((wrap64 ((ji18) + 1)) == (l0.length : Int)) = false := beq_eq_false_iff_ne.mpr c29
               have c29b1 : ((wrap64 ((ji18) + 1)) != (l0.length : Int)) = true := bne_iff_ne.mpr c29
               obtain ⟨ji33, hji33⟩ : ∃ j_ : Int, (wrap64 ((ji18) + 1)) = j_ := ⟨_, rfl⟩
               replace H : (if 0 ≤ (ji33) then (if (ji33) < (l0.length : Int) then (if ((rd_T87 l0 (ji33)).f0) = 3 then (some (((rd_T87 l0 (ji33)).f1).toList == ((rd_T87 l0 a1).f1).toList)) else (some false)) else (none)) else (none)) = some r := by first | (rw [hji33] at H; exact H) | (simp only [hji33] at H ⊢; exact H)
               (try rw [hji33] at c29b0)
               (try rw [hji33] at c29b1)
               (try rw [hji33] at A22)
               (try rw [hji33] at A27)
               have hji33w : (IntKind.i64.wrap ((ji18) + 1)) = ji33 := (i64_w _).trans hji33
               by_cases c34 : 0 ≤ (ji33)
               ·rw [if_pos c34] at H
                have c34b0 : decide (0 ≤ (ji33)) = true := decide_eq_true c34
                clear c34
                by_cases c35 : (ji33) < (l0.length : Int)
                ·rw [if_pos c35] at H
                 have c35b0 : decide ((ji33) < (l0.length : Int)) = true := decide_eq_true c35
                 clear c35
                 by_cases c36 : ((rd_T87 l0 (ji33)).f0) = 3
                 ·rw [if_pos c36] at H
                  have c36b0 : (((rd_T87 l0 (ji33)).f0) == 3) = true := beq_iff_eq.mpr c36
                  have c36b1 : (((rd_T87 l0 (ji33)).f0) != 3) = false := bne_eq_false_iff_eq.mpr c36
                  clear c36
                  obtain rfl := Option.some.inj H
                  have p195 : 0 ≤ ((ji18) : Int) := dt_
                  have q195 : (ji18) < (l0.length : Int) := dt_
                  obtain ⟨ad195, A195_2, c195_2, e195, hx195_0, hx195_1, hx195_2, hx195_3, hx195_4, hl195_2, hi195_2⟩ := at_T87 HR0.out (ji18) p195 q195
                  obtain rfl : ad192 = ad195 := (by injection e195)
                  replace hx195_0 := pw_cell_below HB.out hx195_0
                  replace hx195_1 := pw_cell_below HB.out hx195_1
                  replace hx195_2 := pw_cell_below HB.out hx195_2
                  replace hx195_3 := pw_cell_below HB.out hx195_3
                  replace hx195_4 := pw_cell_below HB.out hx195_4
                  have HR195_2 := Aside0.mk hi195_2
                  have HC195_2 := Aside0.mk hl195_2
                  clear hi195_2 hl195_2
                  replace p195 := eq_true p195
                  replace q195 := eq_true q195
                  try go_wp2
                  have n0_ := Aside0.mk (dd_ BK193.out)
                  have n1_ := Aside0.mk (b1_ HB.out)
                  clear BK193
                  clear HB
                  have BK193 := n0_
                  have HB := n1_
                  clear n0_ n1_
                  have p197 : 0 ≤ ((ji18) : Int) := dt_
                  have q197 : (ji18) < (l0.length : Int) := dt_
                  obtain ⟨ad197, A197_2, c197_2, e197, hx197_0, hx197_1, hx197_2, hx197_3, hx197_4, hl197_2, hi197_2⟩ := at_T87 HR0.out (ji18) p197 q197
                  have hw197_4 := hx197_4
                  have hw197_3 := hx197_3
                  have hw197_2 := hx197_2
                  have hw197_1 := hx197_1
                  have hw197_0 := hx197_0
                  obtain rfl : ad192 = ad197 := (by injection e197)
                  replace hx197_0 := pw_cell_below HB.out hx197_0
                  replace hx197_1 := pw_cell_below HB.out hx197_1
                  replace hx197_2 := pw_cell_below HB.out hx197_2
                  replace hx197_3 := pw_cell_below HB.out hx197_3
                  replace hx197_4 := pw_cell_below HB.out hx197_4
                  have HR197_2 := Aside0.mk hi197_2
                  have HC197_2 := Aside0.mk hl197_2
                  clear hi197_2 hl197_2
                  replace p197 := eq_true p197
                  replace q197 := eq_true q197
                  have p199 : 0 ≤ ((ji18) : Int) := dt_
                  have q199 : (ji18) < (l0.length : Int) := dt_
                  obtain ⟨ad199, A199_2, c199_2, e199, hx199_0, hx199_1, hx199_2, hx199_3, hx199_4, hl199_2, hi199_2⟩ := at_T87 HR0.out (ji18) p199 q199
                  have hw199_4 := hx199_4
                  have hw199_3 := hx199_3
                  have hw199_2 := hx199_2
                  have hw199_1 := hx199_1
                  have hw199_0 := hx199_0
                  obtain rfl : ad192 = ad199 := (by injection e199)
                  replace hx199_0 := pw_cell_below HB.out hx199_0
                  replace hx199_1 := pw_cell_below HB.out hx199_1
                  replace hx199_2 := pw_cell_below HB.out hx199_2
                  replace hx199_3 := pw_cell_below HB.out hx199_3
                  replace hx199_4 := pw_cell_below HB.out hx199_4
                  have HR199_2 := Aside0.mk hi199_2
                  have HC199_2 := Aside0.mk hl199_2
                  clear hi199_2 hl199_2
                  replace p199 := eq_true p199
                  replace q199 := eq_true q199
                  refine start_ (n := 25) (S := fun w' => w'.cell? ⟨gb193, 0, none⟩ = some (.int .i64 ((rd_T87 l0 a1).f0)) ∧ w'.cell? ⟨gb193, 1, none⟩ = some (.string ((rd_T87 l0 a1).f1)) ∧ w'.cell? ⟨gb193, 2, none⟩ = some (.slice A192_2 ((rd_T87 l0 a1).f2).length c192_2) ∧ w'.cell? ⟨gb193, 3, none⟩ = some (.string ((rd_T87 l0 a1).f3)) ∧ w'.cell? ⟨gb193, 4, none⟩ = some (.bool ((rd_T87 l0 a1).f4)) ∧ w'.cell? (ad192.add (((ji18)).toNat * 5)) = some (.int .i64 ((rd_T87 l0 (ji18)).f0)) ∧ w'.cell? ⟨(ad192.add (((ji18)).toNat * 5)).block, (ad192.add (((ji18)).toNat * 5)).off + 1, none⟩ = some (.string ((rd_T87 l0 (ji18)).f1)) ∧ w'.cell? ⟨(ad192.add (((ji18)).toNat * 5)).block, (ad192.add (((ji18)).toNat * 5)).off + 2, none⟩ = some (.slice A197_2 ((rd_T87 l0 (ji18)).f2).length c197_2) ∧ w'.cell? ⟨(ad192.add (((ji18)).toNat * 5)).block, (ad192.add (((ji18)).toNat * 5)).off + 3, none⟩ = some (.string ((rd_T87 l0 (ji18)).f3)) ∧ w'.cell? ⟨(ad192.add (((ji18)).toNat * 5)).block, (ad192.add (((ji18)).toNat * 5)).off + 4, none⟩ = some (.bool ((rd_T87 l0 (ji18)).f4)) ∧ w'.cell? (ad192.add (((ji18)).toNat * 5)) = some (.int .i64 ((rd_T87 l0 (ji18)).f0)) ∧ w'.cell? ⟨(ad192.add (((ji18)).toNat * 5)).block, (ad192.add (((ji18)).toNat * 5)).off + 1, none⟩ = some (.string ((rd_T87 l0 (ji18)).f1)) ∧ w'.cell? ⟨(ad192.add (((ji18)).toNat * 5)).block, (ad192.add (((ji18)).toNat * 5)).off + 2, none⟩ = some (.slice A199_2 ((rd_T87 l0 (ji18)).f2).length c199_2) ∧ w'.cell? ⟨(ad192.add (((ji18)).toNat * 5)).block, (ad192.add (((ji18)).toNat * 5)).off + 3, none⟩ = some (.string ((rd_T87 l0 (ji18)).f3)) ∧ w'.cell? ⟨(ad192.add (((ji18)).toNat * 5)).block, (ad192.add (((ji18)).toNat * 5)).off + 4, none⟩ = some (.bool ((rd_T87 l0 (ji18)).f4))) (ds := []) q8_0 (by kernel_rfl) rfl rfl ⟨(bc_ BK193.out 0).trans rfl, (bc_ BK193.out 1).trans rfl, (bc_ BK193.out 2).trans rfl, (bc_ BK193.out 3).trans rfl, (bc_ BK193.out 4).trans rfl, (pw_cell_below HB.out hw197_0), (pw_cell_below HB.out hw197_1), (pw_cell_below HB.out hw197_2), (pw_cell_below HB.out hw197_3), (pw_cell_below HB.out hw197_4), (pw_cell_below HB.out hw199_0), (pw_cell_below HB.out hw199_1), (pw_cell_below HB.out hw199_2), (pw_cell_below HB.out hw199_3), (pw_cell_below HB.out hw199_4)⟩ (fun hHeld => ?_); refine with_tabW spec_l5Held.tab6 spec_l5Held.bits6 (fun HT_ HW_ => ?_)
                  generalize wc.drew = w37 at BK193 HB HR197_2 HR199_2 hx197_0 hx197_1 hx197_2 hx197_3 hx197_4 hx199_0 hx199_1 hx199_2 hx199_3 hx199_4 hHeld ⊢
                  refine pu_ 0 39 q8_1 ?_
                  refine pu_ 1 40 q8_2 ?_
                  refine on_ 2 41 q8_3 (fun K hK => ?_)
                  refine goes_ Try.func122 (by kernel_rfl) rfl #[.slice (some ad192) l0.length c0, .int .i64 ji18] (by rfl) rfl rfl (by (try simp only [List.map_toArray, List.map_cons, List.map_nil]); first | done | (simp only [hji18]; rfl) | rfl | (simp only [List.length_drop, List.length_take]; rfl)) ?_
                  with_reducible refine (spec_l5Bare.calls _ _ l0 ji18 true _ ?side1 ?side2 A22.out).mono ?_
                  (case side1 => repeat (first | exact (Kd.C_below HR0.out HB.out) | (with_reducible refine ca_ ?_ _) | (with_reducible refine cn_ ?_ _) | (with_reducible refine cd_ ?_)))
                  (case side2 => exact HC0.out)
                  rintro e w' ⟨rfl, ⟨nd, rfl⟩⟩
                  refine ⟨_, rfl, ?_⟩
                  refine hK.out _ _ ⟨(bc_ BK193.out 0).trans rfl, (bc_ BK193.out 1).trans rfl, (bc_ BK193.out 2).trans rfl, (bc_ BK193.out 3).trans rfl, (bc_ BK193.out 4).trans rfl, (pw_cell_below HB.out hw197_0), (pw_cell_below HB.out hw197_1), (pw_cell_below HB.out hw197_2), (pw_cell_below HB.out hw197_3), (pw_cell_below HB.out hw197_4), (pw_cell_below HB.out hw199_0), (pw_cell_below HB.out hw199_1), (pw_cell_below HB.out hw199_2), (pw_cell_below HB.out hw199_3), (pw_cell_below HB.out hw199_4)⟩ (fun hHeld => ?_)
                  clear hK K
                  refine no_ ?_
                  refine pu_ 3 42 q8_4 ?_
                  refine pu_ 4 43 q8_5 ?_
                  refine pu_ 5 44 q8_6 ?_
                  refine pu_ 6 45 q8_7 ?_
                  refine pu_ 7 46 q8_8 ?_
                  refine pu_ 10 49 q8_9 ?_
                  refine pu_ 14 53 q8_10 ?_
                  refine pu_ 17 56 q8_11 ?_
                  refine pu_ 18 57 q8_12 ?_
                  refine pu_ 19 58 q8_13 ?_
                  refine pu_ 20 59 q8_14 ?_
                  refine tk_ 8 47 q8_15 hHeld ?_
                  refine pu_ 9 48 q8_16 ?_
                  refine tk_ 11 50 q8_17 hHeld ?_
                  refine pu_ 12 51 q8_18 ?_
                  refine pu_ 13 52 q8_19 ?_
                  refine tk_ 15 54 q8_20 hHeld ?_
                  refine tk_ 21 60 q8_21 hHeld ?_
                  refine pu_ 22 61 q8_22 ?_
                  refine on_ 16 55 q8_23 (fun K hK => ?_)
                  refine goes_ Try.func123 (by kernel_rfl) rfl #[.string (((((rd_T87 l0 (ji18)).f3) ++ (⟨#[60, 47]⟩ : ByteArray)) ++ ((rd_T87 l0 a1).f1)) ++ (⟨#[62]⟩ : ByteArray)), .int .i64 0, .string ((rd_T87 l0 a1).f1)] (by rfl) rfl rfl (by (try simp only [List.map_toArray, List.map_cons, List.map_nil]); first | done | (simp only [hji18]; rfl) | rfl | (simp only [List.length_drop, List.length_take]; rfl)) ?_
                  with_reducible refine (spec_RawEnd.calls kj4 (((((rd_T87 l0 (ji18)).f3) ++ (⟨#[60, 47]⟩ : ByteArray)) ++ ((rd_T87 l0 a1).f1)) ++ (⟨#[62]⟩ : ByteArray)) 0 ((rd_T87 l0 a1).f1) t198 _ A27.out).mono ?_
                  rintro e w38 ⟨rfl, hb⟩
                  refine ⟨_, rfl, ?_⟩
                  have n0_ := Aside0.mk (blk_below (g := gb193) (o := .cells #[.int .i64 ((rd_T87 l0 a1).f0), .string ((rd_T87 l0 a1).f1), .slice A192_2 ((rd_T87 l0 a1).f2).length c192_2, .string ((rd_T87 l0 a1).f3), .bool ((rd_T87 l0 a1).f4)] 87 (0, 0)) (by (with_reducible repeat (first | refine dn_ ?_ _ | refine dd_ ?_ | refine da_ ?_ _)); exact BK193.out) hb)
                  have n1_ := Aside0.mk (below_step hb_ hb)
                  clear BK193
                  clear HB
                  have BK193 := n0_
                  have HB := n1_
                  clear n0_ n1_
                  (try clear hb)
                  (try clear hb2)
                  (try clear hk)
                  (try clear hi)
                  refine hK.out _ _ ⟨(bc_ BK193.out 0).trans rfl, (bc_ BK193.out 1).trans rfl, (bc_ BK193.out 2).trans rfl, (bc_ BK193.out 3).trans rfl, (bc_ BK193.out 4).trans rfl, (pw_cell_below HB.out hw197_0), (pw_cell_below HB.out hw197_1), (pw_cell_below HB.out hw197_2), (pw_cell_below HB.out hw197_3), (pw_cell_below HB.out hw197_4), (pw_cell_below HB.out hw199_0), (pw_cell_below HB.out hw199_1), (pw_cell_below HB.out hw199_2), (pw_cell_below HB.out hw199_3), (pw_cell_below HB.out hw199_4)⟩ (fun hHeld => ?_)
                  clear hK K
                  refine no_ ?_
                  refine pu_ 23 62 q8_24 ?_
                  refine pu_ 24 63 q8_25 ?_
                  refine done_ (done_of HT_.out (by kernel_rfl)) ?_
                  try go_wp2
                  have n0_ := Aside0.mk (dd_ BK193.out)
                  have n1_ := Aside0.mk (b1_ HB.out)
                  clear BK193
                  clear HB
                  have BK193 := n0_
                  have HB := n1_
                  clear n0_ n1_
                  have p200 : 0 ≤ ((ji33) : Int) := dt_
                  have q200 : (ji33) < (l0.length : Int) := dt_
                  obtain ⟨ad200, A200_2, c200_2, e200, hx200_0, hx200_1, hx200_2, hx200_3, hx200_4, hl200_2, hi200_2⟩ := at_T87 HR0.out (ji33) p200 q200
                  have hw200_4 := hx200_4
                  have hw200_3 := hx200_3
                  have hw200_2 := hx200_2
                  have hw200_1 := hx200_1
                  have hw200_0 := hx200_0
                  obtain rfl : ad192 = ad200 := (by injection e200)
                  replace hx200_0 := pw_cell_below HB.out hx200_0
                  replace hx200_1 := pw_cell_below HB.out hx200_1
                  replace hx200_2 := pw_cell_below HB.out hx200_2
                  replace hx200_3 := pw_cell_below HB.out hx200_3
                  replace hx200_4 := pw_cell_below HB.out hx200_4
                  have HR200_2 := Aside0.mk hi200_2
                  have HC200_2 := Aside0.mk hl200_2
                  clear hi200_2 hl200_2
                  replace p200 := eq_true p200
                  replace q200 := eq_true q200
                  have p201 : 0 ≤ ((ji33) : Int) := dt_
                  have q201 : (ji33) < (l0.length : Int) := dt_
                  obtain ⟨ad201, A201_2, c201_2, e201, hx201_0, hx201_1, hx201_2, hx201_3, hx201_4, hl201_2, hi201_2⟩ := at_T87 HR0.out (ji33) p201 q201
                  have hw201_4 := hx201_4
                  have hw201_3 := hx201_3
                  have hw201_2 := hx201_2
                  have hw201_1 := hx201_1
                  have hw201_0 := hx201_0
                  obtain rfl : ad192 = ad201 := (by injection e201)
                  replace hx201_0 := pw_cell_below HB.out hx201_0
                  replace hx201_1 := pw_cell_below HB.out hx201_1
                  replace hx201_2 := pw_cell_below HB.out hx201_2
                  replace hx201_3 := pw_cell_below HB.out hx201_3
                  replace hx201_4 := pw_cell_below HB.out hx201_4
                  have HR201_2 := Aside0.mk hi201_2
                  have HC201_2 := Aside0.mk hl201_2
                  clear hi201_2 hl201_2
                  replace p201 := eq_true p201
                  replace q201 := eq_true q201
                  have ea_ := Option.some.inj (hx200_2.symm.trans hx201_2)
                  injection ea_ with ea_ en_ ec_
                  subst ea_
                  subst ec_
                  clear en_
                  refine start_ (n := 23) (S := fun w' => w'.cell? ⟨gb193, 0, none⟩ = some (.int .i64 ((rd_T87 l0 a1).f0)) ∧ w'.cell? ⟨gb193, 1, none⟩ = some (.string ((rd_T87 l0 a1).f1)) ∧ w'.cell? ⟨gb193, 2, none⟩ = some (.slice A192_2 ((rd_T87 l0 a1).f2).length c192_2) ∧ w'.cell? ⟨gb193, 3, none⟩ = some (.string ((rd_T87 l0 a1).f3)) ∧ w'.cell? ⟨gb193, 4, none⟩ = some (.bool ((rd_T87 l0 a1).f4)) ∧ w'.cell? (ad192.add (((ji33)).toNat * 5)) = some (.int .i64 ((rd_T87 l0 (ji33)).f0)) ∧ w'.cell? ⟨(ad192.add (((ji33)).toNat * 5)).block, (ad192.add (((ji33)).toNat * 5)).off + 1, none⟩ = some (.string ((rd_T87 l0 (ji33)).f1)) ∧ w'.cell? ⟨(ad192.add (((ji33)).toNat * 5)).block, (ad192.add (((ji33)).toNat * 5)).off + 2, none⟩ = some (.slice A200_2 ((rd_T87 l0 (ji33)).f2).length c200_2) ∧ w'.cell? ⟨(ad192.add (((ji33)).toNat * 5)).block, (ad192.add (((ji33)).toNat * 5)).off + 3, none⟩ = some (.string ((rd_T87 l0 (ji33)).f3)) ∧ w'.cell? ⟨(ad192.add (((ji33)).toNat * 5)).block, (ad192.add (((ji33)).toNat * 5)).off + 4, none⟩ = some (.bool ((rd_T87 l0 (ji33)).f4)) ∧ w'.cell? (ad192.add (((ji33)).toNat * 5)) = some (.int .i64 ((rd_T87 l0 (ji33)).f0)) ∧ w'.cell? ⟨(ad192.add (((ji33)).toNat * 5)).block, (ad192.add (((ji33)).toNat * 5)).off + 1, none⟩ = some (.string ((rd_T87 l0 (ji33)).f1)) ∧ w'.cell? ⟨(ad192.add (((ji33)).toNat * 5)).block, (ad192.add (((ji33)).toNat * 5)).off + 2, none⟩ = some (.slice A200_2 ((rd_T87 l0 (ji33)).f2).length c200_2) ∧ w'.cell? ⟨(ad192.add (((ji33)).toNat * 5)).block, (ad192.add (((ji33)).toNat * 5)).off + 3, none⟩ = some (.string ((rd_T87 l0 (ji33)).f3)) ∧ w'.cell? ⟨(ad192.add (((ji33)).toNat * 5)).block, (ad192.add (((ji33)).toNat * 5)).off + 4, none⟩ = some (.bool ((rd_T87 l0 (ji33)).f4))) (ds := []) q8_26 (by kernel_rfl) rfl rfl ⟨(bc_ BK193.out 0).trans rfl, (bc_ BK193.out 1).trans rfl, (bc_ BK193.out 2).trans rfl, (bc_ BK193.out 3).trans rfl, (bc_ BK193.out 4).trans rfl, (pw_cell_below HB.out hw200_0), (pw_cell_below HB.out hw200_1), (pw_cell_below HB.out hw200_2), (pw_cell_below HB.out hw200_3), (pw_cell_below HB.out hw200_4), (pw_cell_below HB.out hw201_0), (pw_cell_below HB.out hw201_1), (pw_cell_below HB.out hw201_2), (pw_cell_below HB.out hw201_3), (pw_cell_below HB.out hw201_4)⟩ (fun hHeld => ?_); refine with_tabW spec_l5Held.tab9 spec_l5Held.bits9 (fun HT_ HW_ => ?_)
                  generalize w38.drew = w39 at BK193 HB HR200_2 HR201_2 hx200_0 hx200_1 hx200_2 hx200_3 hx200_4 hx201_0 hx201_1 hx201_2 hx201_3 hx201_4 hHeld ⊢
                  refine pu_ 0 66 q8_27 ?_
                  refine pu_ 1 67 q8_28 ?_
                  refine pu_ 2 68 q8_29 ?_
                  refine pu_ 3 69 q8_30 ?_
                  refine pu_ 4 70 q8_31 ?_
                  refine pu_ 5 71 q8_32 ?_
                  refine pu_ 6 72 q8_33 ?_
                  refine pu_ 7 73 q8_34 ?_
                  refine pu_ 8 74 q8_35 ?_
                  refine tk_ 9 75 q8_36 hHeld ?_
                  refine pu_ 10 76 q8_37 ?_
                  refine pu_ 11 77 q8_38 ?_
                  refine pu_ 12 78 q8_39 ?_
                  refine pu_ 13 79 q8_40 ?_
                  refine pu_ 14 80 q8_41 ?_
                  refine pu_ 15 81 q8_42 ?_
                  refine pu_ 17 83 q8_50 ?_
                  refine tk_ 16 82 q8_44 hHeld ?_
                  refine tk_ 18 84 q8_45 hHeld ?_
                  refine pu_ 19 85 q8_46 ?_
                  refine pu_ 20 86 q8_47 ?_
                  refine pu_ 21 87 q8_48 ?_
                  refine pu_ 22 4 q8_49 ?_
                  refine done_ (done_of HT_.out (by kernel_rfl)) ?_
                  try go_wp2
                  go_ret
                  exact ⟨by first | rfl | (simp [errW_none, errW_some] <;> rfl) | (simp only [← hji18, ← hji33]; first | rfl | (simp [errW_none, errW_some] <;> rfl)) | (simp [*, errW_none, errW_some] <;> rfl), hb_⟩
                 ·rw [if_neg c36] at H
                  have c36b0 : (((rd_T87 l0 (ji33)).f0) == 3) = false := beq_eq_false_iff_ne.mpr c36
                  have c36b1 : (((rd_T87 l0 (ji33)).f0) != 3) = true := bne_iff_ne.mpr c36
                  obtain rfl := Option.some.inj H
                  have p195 : 0 ≤ ((ji18) : Int) := dt_
                  have q195 : (ji18) < (l0.length : Int) := dt_
                  obtain ⟨ad195, A195_2, c195_2, e195, hx195_0, hx195_1, hx195_2, hx195_3, hx195_4, hl195_2, hi195_2⟩ := at_T87 HR0.out (ji18) p195 q195
                  obtain rfl : ad192 = ad195 := (by injection e195)
                  replace hx195_0 := pw_cell_below HB.out hx195_0
                  replace hx195_1 := pw_cell_below HB.out hx195_1
                  replace hx195_2 := pw_cell_below HB.out hx195_2
                  replace hx195_3 := pw_cell_below HB.out hx195_3
                  replace hx195_4 := pw_cell_below HB.out hx195_4
                  have HR195_2 := Aside0.mk hi195_2
                  have HC195_2 := Aside0.mk hl195_2
                  clear hi195_2 hl195_2
                  replace p195 := eq_true p195
                  replace q195 := eq_true q195
                  try go_wp2
                  have n0_ := Aside0.mk (dd_ BK193.out)
                  have n1_ := Aside0.mk (b1_ HB.out)
                  clear BK193
                  clear HB
                  have BK193 := n0_
                  have HB := n1_
                  clear n0_ n1_
                  have p197 : 0 ≤ ((ji18) : Int) := dt_
                  have q197 : (ji18) < (l0.length : Int) := dt_
                  obtain ⟨ad197, A197_2, c197_2, e197, hx197_0, hx197_1, hx197_2, hx197_3, hx197_4, hl197_2, hi197_2⟩ := at_T87 HR0.out (ji18) p197 q197
                  have hw197_4 := hx197_4
                  have hw197_3 := hx197_3
                  have hw197_2 := hx197_2
                  have hw197_1 := hx197_1
                  have hw197_0 := hx197_0
                  obtain rfl : ad192 = ad197 := (by injection e197)
                  replace hx197_0 := pw_cell_below HB.out hx197_0
                  replace hx197_1 := pw_cell_below HB.out hx197_1
                  replace hx197_2 := pw_cell_below HB.out hx197_2
                  replace hx197_3 := pw_cell_below HB.out hx197_3
                  replace hx197_4 := pw_cell_below HB.out hx197_4
                  have HR197_2 := Aside0.mk hi197_2
                  have HC197_2 := Aside0.mk hl197_2
                  clear hi197_2 hl197_2
                  replace p197 := eq_true p197
                  replace q197 := eq_true q197
                  have p199 : 0 ≤ ((ji18) : Int) := dt_
                  have q199 : (ji18) < (l0.length : Int) := dt_
                  obtain ⟨ad199, A199_2, c199_2, e199, hx199_0, hx199_1, hx199_2, hx199_3, hx199_4, hl199_2, hi199_2⟩ := at_T87 HR0.out (ji18) p199 q199
                  have hw199_4 := hx199_4
                  have hw199_3 := hx199_3
                  have hw199_2 := hx199_2
                  have hw199_1 := hx199_1
                  have hw199_0 := hx199_0
                  obtain rfl : ad192 = ad199 := (by injection e199)
                  replace hx199_0 := pw_cell_below HB.out hx199_0
                  replace hx199_1 := pw_cell_below HB.out hx199_1
                  replace hx199_2 := pw_cell_below HB.out hx199_2
                  replace hx199_3 := pw_cell_below HB.out hx199_3
                  replace hx199_4 := pw_cell_below HB.out hx199_4
                  have HR199_2 := Aside0.mk hi199_2
                  have HC199_2 := Aside0.mk hl199_2
                  clear hi199_2 hl199_2
                  replace p199 := eq_true p199
                  replace q199 := eq_true q199
                  refine start_ (n := 25) (S := fun w' => w'.cell? ⟨gb193, 0, none⟩ = some (.int .i64 ((rd_T87 l0 a1).f0)) ∧ w'.cell? ⟨gb193, 1, none⟩ = some (.string ((rd_T87 l0 a1).f1)) ∧ w'.cell? ⟨gb193, 2, none⟩ = some (.slice A192_2 ((rd_T87 l0 a1).f2).length c192_2) ∧ w'.cell? ⟨gb193, 3, none⟩ = some (.string ((rd_T87 l0 a1).f3)) ∧ w'.cell? ⟨gb193, 4, none⟩ = some (.bool ((rd_T87 l0 a1).f4)) ∧ w'.cell? (ad192.add (((ji18)).toNat * 5)) = some (.int .i64 ((rd_T87 l0 (ji18)).f0)) ∧ w'.cell? ⟨(ad192.add (((ji18)).toNat * 5)).block, (ad192.add (((ji18)).toNat * 5)).off + 1, none⟩ = some (.string ((rd_T87 l0 (ji18)).f1)) ∧ w'.cell? ⟨(ad192.add (((ji18)).toNat * 5)).block, (ad192.add (((ji18)).toNat * 5)).off + 2, none⟩ = some (.slice A197_2 ((rd_T87 l0 (ji18)).f2).length c197_2) ∧ w'.cell? ⟨(ad192.add (((ji18)).toNat * 5)).block, (ad192.add (((ji18)).toNat * 5)).off + 3, none⟩ = some (.string ((rd_T87 l0 (ji18)).f3)) ∧ w'.cell? ⟨(ad192.add (((ji18)).toNat * 5)).block, (ad192.add (((ji18)).toNat * 5)).off + 4, none⟩ = some (.bool ((rd_T87 l0 (ji18)).f4)) ∧ w'.cell? (ad192.add (((ji18)).toNat * 5)) = some (.int .i64 ((rd_T87 l0 (ji18)).f0)) ∧ w'.cell? ⟨(ad192.add (((ji18)).toNat * 5)).block, (ad192.add (((ji18)).toNat * 5)).off + 1, none⟩ = some (.string ((rd_T87 l0 (ji18)).f1)) ∧ w'.cell? ⟨(ad192.add (((ji18)).toNat * 5)).block, (ad192.add (((ji18)).toNat * 5)).off + 2, none⟩ = some (.slice A199_2 ((rd_T87 l0 (ji18)).f2).length c199_2) ∧ w'.cell? ⟨(ad192.add (((ji18)).toNat * 5)).block, (ad192.add (((ji18)).toNat * 5)).off + 3, none⟩ = some (.string ((rd_T87 l0 (ji18)).f3)) ∧ w'.cell? ⟨(ad192.add (((ji18)).toNat * 5)).block, (ad192.add (((ji18)).toNat * 5)).off + 4, none⟩ = some (.bool ((rd_T87 l0 (ji18)).f4))) (ds := []) q8_0 (by kernel_rfl) rfl rfl ⟨(bc_ BK193.out 0).trans rfl, (bc_ BK193.out 1).trans rfl, (bc_ BK193.out 2).trans rfl, (bc_ BK193.out 3).trans rfl, (bc_ BK193.out 4).trans rfl, (pw_cell_below HB.out hw197_0), (pw_cell_below HB.out hw197_1), (pw_cell_below HB.out hw197_2), (pw_cell_below HB.out hw197_3), (pw_cell_below HB.out hw197_4), (pw_cell_below HB.out hw199_0), (pw_cell_below HB.out hw199_1), (pw_cell_below HB.out hw199_2), (pw_cell_below HB.out hw199_3), (pw_cell_below HB.out hw199_4)⟩ (fun hHeld => ?_); refine with_tabW spec_l5Held.tab6 spec_l5Held.bits6 (fun HT_ HW_ => ?_)
                  generalize wc.drew = w40 at BK193 HB HR197_2 HR199_2 hx197_0 hx197_1 hx197_2 hx197_3 hx197_4 hx199_0 hx199_1 hx199_2 hx199_3 hx199_4 hHeld ⊢
                  refine pu_ 0 39 q8_1 ?_
                  refine pu_ 1 40 q8_2 ?_
                  refine on_ 2 41 q8_3 (fun K hK => ?_)
                  refine goes_ Try.func122 (by kernel_rfl) rfl #[.slice (some ad192) l0.length c0, .int .i64 ji18] (by rfl) rfl rfl (by (try simp only [List.map_toArray, List.map_cons, List.map_nil]); first | done | (simp only [hji18]; rfl) | rfl | (simp only [List.length_drop, List.length_take]; rfl)) ?_
                  with_reducible refine (spec_l5Bare.calls _ _ l0 ji18 true _ ?side1 ?side2 A22.out).mono ?_
                  (case side1 => repeat (first | exact (Kd.C_below HR0.out HB.out) | (with_reducible refine ca_ ?_ _) | (with_reducible refine cn_ ?_ _) | (with_reducible refine cd_ ?_)))
                  (case side2 => exact HC0.out)
                  rintro e w' ⟨rfl, ⟨nd, rfl⟩⟩
                  refine ⟨_, rfl, ?_⟩
                  refine hK.out _ _ ⟨(bc_ BK193.out 0).trans rfl, (bc_ BK193.out 1).trans rfl, (bc_ BK193.out 2).trans rfl, (bc_ BK193.out 3).trans rfl, (bc_ BK193.out 4).trans rfl, (pw_cell_below HB.out hw197_0), (pw_cell_below HB.out hw197_1), (pw_cell_below HB.out hw197_2), (pw_cell_below HB.out hw197_3), (pw_cell_below HB.out hw197_4), (pw_cell_below HB.out hw199_0), (pw_cell_below HB.out hw199_1), (pw_cell_below HB.out hw199_2), (pw_cell_below HB.out hw199_3), (pw_cell_below HB.out hw199_4)⟩ (fun hHeld => ?_)
                  clear hK K
                  refine no_ ?_
                  refine pu_ 3 42 q8_4 ?_
                  refine pu_ 4 43 q8_5 ?_
                  refine pu_ 5 44 q8_6 ?_
                  refine pu_ 6 45 q8_7 ?_
                  refine pu_ 7 46 q8_8 ?_
                  refine pu_ 10 49 q8_9 ?_
                  refine pu_ 14 53 q8_10 ?_
                  refine pu_ 17 56 q8_11 ?_
                  refine pu_ 18 57 q8_12 ?_
                  refine pu_ 19 58 q8_13 ?_
                  refine pu_ 20 59 q8_14 ?_
                  refine tk_ 8 47 q8_15 hHeld ?_
                  refine pu_ 9 48 q8_16 ?_
                  refine tk_ 11 50 q8_17 hHeld ?_
                  refine pu_ 12 51 q8_18 ?_
                  refine pu_ 13 52 q8_19 ?_
                  refine tk_ 15 54 q8_20 hHeld ?_
                  refine tk_ 21 60 q8_21 hHeld ?_
                  refine pu_ 22 61 q8_22 ?_
                  refine on_ 16 55 q8_23 (fun K hK => ?_)
                  refine goes_ Try.func123 (by kernel_rfl) rfl #[.string (((((rd_T87 l0 (ji18)).f3) ++ (⟨#[60, 47]⟩ : ByteArray)) ++ ((rd_T87 l0 a1).f1)) ++ (⟨#[62]⟩ : ByteArray)), .int .i64 0, .string ((rd_T87 l0 a1).f1)] (by rfl) rfl rfl (by (try simp only [List.map_toArray, List.map_cons, List.map_nil]); first | done | (simp only [hji18]; rfl) | rfl | (simp only [List.length_drop, List.length_take]; rfl)) ?_
                  with_reducible refine (spec_RawEnd.calls kj4 (((((rd_T87 l0 (ji18)).f3) ++ (⟨#[60, 47]⟩ : ByteArray)) ++ ((rd_T87 l0 a1).f1)) ++ (⟨#[62]⟩ : ByteArray)) 0 ((rd_T87 l0 a1).f1) t198 _ A27.out).mono ?_
                  rintro e w41 ⟨rfl, hb⟩
                  refine ⟨_, rfl, ?_⟩
                  have n0_ := Aside0.mk (blk_below (g := gb193) (o := .cells #[.int .i64 ((rd_T87 l0 a1).f0), .string ((rd_T87 l0 a1).f1), .slice A192_2 ((rd_T87 l0 a1).f2).length c192_2, .string ((rd_T87 l0 a1).f3), .bool ((rd_T87 l0 a1).f4)] 87 (0, 0)) (by (with_reducible repeat (first | refine dn_ ?_ _ | refine dd_ ?_ | refine da_ ?_ _)); exact BK193.out) hb)
                  have n1_ := Aside0.mk (below_step hb_ hb)
                  clear BK193
                  clear HB
                  have BK193 := n0_
                  have HB := n1_
                  clear n0_ n1_
                  (try clear hb)
                  (try clear hb2)
                  (try clear hk)
                  (try clear hi)
                  refine hK.out _ _ ⟨(bc_ BK193.out 0).trans rfl, (bc_ BK193.out 1).trans rfl, (bc_ BK193.out 2).trans rfl, (bc_ BK193.out 3).trans rfl, (bc_ BK193.out 4).trans rfl, (pw_cell_below HB.out hw197_0), (pw_cell_below HB.out hw197_1), (pw_cell_below HB.out hw197_2), (pw_cell_below HB.out hw197_3), (pw_cell_below HB.out hw197_4), (pw_cell_below HB.out hw199_0), (pw_cell_below HB.out hw199_1), (pw_cell_below HB.out hw199_2), (pw_cell_below HB.out hw199_3), (pw_cell_below HB.out hw199_4)⟩ (fun hHeld => ?_)
                  clear hK K
                  refine no_ ?_
                  refine pu_ 23 62 q8_24 ?_
                  refine pu_ 24 63 q8_25 ?_
                  refine done_ (done_of HT_.out (by kernel_rfl)) ?_
                  try go_wp2
                  have n0_ := Aside0.mk (dd_ BK193.out)
                  have n1_ := Aside0.mk (b1_ HB.out)
                  clear BK193
                  clear HB
                  have BK193 := n0_
                  have HB := n1_
                  clear n0_ n1_
                  have p200 : 0 ≤ ((ji33) : Int) := dt_
                  have q200 : (ji33) < (l0.length : Int) := dt_
                  obtain ⟨ad200, A200_2, c200_2, e200, hx200_0, hx200_1, hx200_2, hx200_3, hx200_4, hl200_2, hi200_2⟩ := at_T87 HR0.out (ji33) p200 q200
                  have hw200_4 := hx200_4
                  have hw200_3 := hx200_3
                  have hw200_2 := hx200_2
                  have hw200_1 := hx200_1
                  have hw200_0 := hx200_0
                  obtain rfl : ad192 = ad200 := (by injection e200)
                  replace hx200_0 := pw_cell_below HB.out hx200_0
                  replace hx200_1 := pw_cell_below HB.out hx200_1
                  replace hx200_2 := pw_cell_below HB.out hx200_2
                  replace hx200_3 := pw_cell_below HB.out hx200_3
                  replace hx200_4 := pw_cell_below HB.out hx200_4
                  have HR200_2 := Aside0.mk hi200_2
                  have HC200_2 := Aside0.mk hl200_2
                  clear hi200_2 hl200_2
                  replace p200 := eq_true p200
                  replace q200 := eq_true q200
                  refine start_ (n := 23) (S := fun w' => w'.cell? (ad192.add (((ji33)).toNat * 5)) = some (.int .i64 ((rd_T87 l0 (ji33)).f0)) ∧ w'.cell? ⟨(ad192.add (((ji33)).toNat * 5)).block, (ad192.add (((ji33)).toNat * 5)).off + 1, none⟩ = some (.string ((rd_T87 l0 (ji33)).f1)) ∧ w'.cell? ⟨(ad192.add (((ji33)).toNat * 5)).block, (ad192.add (((ji33)).toNat * 5)).off + 2, none⟩ = some (.slice A200_2 ((rd_T87 l0 (ji33)).f2).length c200_2) ∧ w'.cell? ⟨(ad192.add (((ji33)).toNat * 5)).block, (ad192.add (((ji33)).toNat * 5)).off + 3, none⟩ = some (.string ((rd_T87 l0 (ji33)).f3)) ∧ w'.cell? ⟨(ad192.add (((ji33)).toNat * 5)).block, (ad192.add (((ji33)).toNat * 5)).off + 4, none⟩ = some (.bool ((rd_T87 l0 (ji33)).f4))) (ds := []) q8_26 (by kernel_rfl) rfl rfl ⟨(pw_cell_below HB.out hw200_0), (pw_cell_below HB.out hw200_1), (pw_cell_below HB.out hw200_2), (pw_cell_below HB.out hw200_3), (pw_cell_below HB.out hw200_4)⟩ (fun hHeld => ?_); refine with_tabW spec_l5Held.tab9 spec_l5Held.bits9 (fun HT_ HW_ => ?_)
                  generalize w41.drew = w42 at BK193 HB HR200_2 hx200_0 hx200_1 hx200_2 hx200_3 hx200_4 hHeld ⊢
                  refine pu_ 0 66 q8_27 ?_
                  refine pu_ 1 67 q8_28 ?_
                  refine pu_ 2 68 q8_29 ?_
                  refine pu_ 3 69 q8_30 ?_
                  refine pu_ 4 70 q8_31 ?_
                  refine pu_ 5 71 q8_32 ?_
                  refine pu_ 6 72 q8_33 ?_
                  refine pu_ 7 73 q8_34 ?_
                  refine pu_ 8 74 q8_35 ?_
                  refine tk_ 9 75 q8_36 hHeld ?_
                  refine pu_ 10 76 q8_37 ?_
                  refine pu_ 11 77 q8_38 ?_
                  refine pv_ 12 78 q8_39 ?_
                  refine pv_ 13 79 q8_40 ?_
                  refine pv_ 14 80 q8_41 ?_
                  refine pv_ 15 81 q8_42 ?_
                  refine pv_ 16 82 q8_43 ?_
                  refine pv_ 17 83 q8_44 ?_
                  refine pv_ 18 84 q8_45 ?_
                  refine pv_ 19 85 q8_46 ?_
                  refine pu_ 20 86 q8_47 ?_
                  refine pu_ 21 87 q8_48 ?_
                  refine pu_ 22 4 q8_49 ?_
                  refine done_ (done_of HT_.out (by kernel_rfl)) ?_
                  try go_wp2
                  go_ret
                  exact ⟨by first | rfl | (simp [errW_none, errW_some] <;> rfl) | (simp only [← hji18, ← hji33]; first | rfl | (simp [errW_none, errW_some] <;> rfl)) | (simp [*, errW_none, errW_some] <;> rfl), hb_⟩
                ·rw [if_neg c35] at H
                 exact absurd H (by simp)
               ·rw [if_neg c34] at H
                exact absurd H (by simp)
             ·rw [if_neg c28] at H
              have c28b0 : (t198 == (((rd_T87 l0 (ji18)).f3).size : Int)) = false := beq_eq_false_iff_ne.mpr c28
              have c28b1 : (t198 != (((rd_T87 l0 (ji18)).f3).size : Int)) = true := bne_iff_ne.mpr c28
              obtain rfl := Option.some.inj H
              have p195 : 0 ≤ ((ji18) : Int) := dt_
              have q195 : (ji18) < (l0.length : Int) := dt_
              obtain ⟨ad195, A195_2, c195_2, e195, hx195_0, hx195_1, hx195_2, hx195_3, hx195_4, hl195_2, hi195_2⟩ := at_T87 HR0.out (ji18) p195 q195
              obtain rfl : ad192 = ad195 := (by injection e195)
              replace hx195_0 := pw_cell_below HB.out hx195_0
              replace hx195_1 := pw_cell_below HB.out hx195_1
              replace hx195_2 := pw_cell_below HB.out hx195_2
              replace hx195_3 := pw_cell_below HB.out hx195_3
              replace hx195_4 := pw_cell_below HB.out hx195_4
              have HR195_2 := Aside0.mk hi195_2
              have HC195_2 := Aside0.mk hl195_2
              clear hi195_2 hl195_2
              replace p195 := eq_true p195
              replace q195 := eq_true q195
              try go_wp2
              have n0_ := Aside0.mk (dd_ BK193.out)
              have n1_ := Aside0.mk (b1_ HB.out)
              clear BK193
              clear HB
              have BK193 := n0_
              have HB := n1_
              clear n0_ n1_
              have p197 : 0 ≤ ((ji18) : Int) := dt_
              have q197 : (ji18) < (l0.length : Int) := dt_
              obtain ⟨ad197, A197_2, c197_2, e197, hx197_0, hx197_1, hx197_2, hx197_3, hx197_4, hl197_2, hi197_2⟩ := at_T87 HR0.out (ji18) p197 q197
              have hw197_4 := hx197_4
              have hw197_3 := hx197_3
              have hw197_2 := hx197_2
              have hw197_1 := hx197_1
              have hw197_0 := hx197_0
              obtain rfl : ad192 = ad197 := (by injection e197)
              replace hx197_0 := pw_cell_below HB.out hx197_0
              replace hx197_1 := pw_cell_below HB.out hx197_1
              replace hx197_2 := pw_cell_below HB.out hx197_2
              replace hx197_3 := pw_cell_below HB.out hx197_3
              replace hx197_4 := pw_cell_below HB.out hx197_4
              have HR197_2 := Aside0.mk hi197_2
              have HC197_2 := Aside0.mk hl197_2
              clear hi197_2 hl197_2
              replace p197 := eq_true p197
              replace q197 := eq_true q197
              have p199 : 0 ≤ ((ji18) : Int) := dt_
              have q199 : (ji18) < (l0.length : Int) := dt_
              obtain ⟨ad199, A199_2, c199_2, e199, hx199_0, hx199_1, hx199_2, hx199_3, hx199_4, hl199_2, hi199_2⟩ := at_T87 HR0.out (ji18) p199 q199
              have hw199_4 := hx199_4
              have hw199_3 := hx199_3
              have hw199_2 := hx199_2
              have hw199_1 := hx199_1
              have hw199_0 := hx199_0
              obtain rfl : ad192 = ad199 := (by injection e199)
              replace hx199_0 := pw_cell_below HB.out hx199_0
              replace hx199_1 := pw_cell_below HB.out hx199_1
              replace hx199_2 := pw_cell_below HB.out hx199_2
              replace hx199_3 := pw_cell_below HB.out hx199_3
              replace hx199_4 := pw_cell_below HB.out hx199_4
              have HR199_2 := Aside0.mk hi199_2
              have HC199_2 := Aside0.mk hl199_2
              clear hi199_2 hl199_2
              replace p199 := eq_true p199
              replace q199 := eq_true q199
              refine start_ (n := 25) (S := fun w' => w'.cell? ⟨gb193, 0, none⟩ = some (.int .i64 ((rd_T87 l0 a1).f0)) ∧ w'.cell? ⟨gb193, 1, none⟩ = some (.string ((rd_T87 l0 a1).f1)) ∧ w'.cell? ⟨gb193, 2, none⟩ = some (.slice A192_2 ((rd_T87 l0 a1).f2).length c192_2) ∧ w'.cell? ⟨gb193, 3, none⟩ = some (.string ((rd_T87 l0 a1).f3)) ∧ w'.cell? ⟨gb193, 4, none⟩ = some (.bool ((rd_T87 l0 a1).f4)) ∧ w'.cell? (ad192.add (((ji18)).toNat * 5)) = some (.int .i64 ((rd_T87 l0 (ji18)).f0)) ∧ w'.cell? ⟨(ad192.add (((ji18)).toNat * 5)).block, (ad192.add (((ji18)).toNat * 5)).off + 1, none⟩ = some (.string ((rd_T87 l0 (ji18)).f1)) ∧ w'.cell? ⟨(ad192.add (((ji18)).toNat * 5)).block, (ad192.add (((ji18)).toNat * 5)).off + 2, none⟩ = some (.slice A197_2 ((rd_T87 l0 (ji18)).f2).length c197_2) ∧ w'.cell? ⟨(ad192.add (((ji18)).toNat * 5)).block, (ad192.add (((ji18)).toNat * 5)).off + 3, none⟩ = some (.string ((rd_T87 l0 (ji18)).f3)) ∧ w'.cell? ⟨(ad192.add (((ji18)).toNat * 5)).block, (ad192.add (((ji18)).toNat * 5)).off + 4, none⟩ = some (.bool ((rd_T87 l0 (ji18)).f4)) ∧ w'.cell? (ad192.add (((ji18)).toNat * 5)) = some (.int .i64 ((rd_T87 l0 (ji18)).f0)) ∧ w'.cell? ⟨(ad192.add (((ji18)).toNat * 5)).block, (ad192.add (((ji18)).toNat * 5)).off + 1, none⟩ = some (.string ((rd_T87 l0 (ji18)).f1)) ∧ w'.cell? ⟨(ad192.add (((ji18)).toNat * 5)).block, (ad192.add (((ji18)).toNat * 5)).off + 2, none⟩ = some (.slice A199_2 ((rd_T87 l0 (ji18)).f2).length c199_2) ∧ w'.cell? ⟨(ad192.add (((ji18)).toNat * 5)).block, (ad192.add (((ji18)).toNat * 5)).off + 3, none⟩ = some (.string ((rd_T87 l0 (ji18)).f3)) ∧ w'.cell? ⟨(ad192.add (((ji18)).toNat * 5)).block, (ad192.add (((ji18)).toNat * 5)).off + 4, none⟩ = some (.bool ((rd_T87 l0 (ji18)).f4))) (ds := []) q8_0 (by kernel_rfl) rfl rfl ⟨(bc_ BK193.out 0).trans rfl, (bc_ BK193.out 1).trans rfl, (bc_ BK193.out 2).trans rfl, (bc_ BK193.out 3).trans rfl, (bc_ BK193.out 4).trans rfl, (pw_cell_below HB.out hw197_0), (pw_cell_below HB.out hw197_1), (pw_cell_below HB.out hw197_2), (pw_cell_below HB.out hw197_3), (pw_cell_below HB.out hw197_4), (pw_cell_below HB.out hw199_0), (pw_cell_below HB.out hw199_1), (pw_cell_below HB.out hw199_2), (pw_cell_below HB.out hw199_3), (pw_cell_below HB.out hw199_4)⟩ (fun hHeld => ?_); refine with_tabW spec_l5Held.tab6 spec_l5Held.bits6 (fun HT_ HW_ => ?_)
              generalize wc.drew = w43 at BK193 HB HR197_2 HR199_2 hx197_0 hx197_1 hx197_2 hx197_3 hx197_4 hx199_0 hx199_1 hx199_2 hx199_3 hx199_4 hHeld ⊢
              refine pu_ 0 39 q8_1 ?_
              refine pu_ 1 40 q8_2 ?_
              refine on_ 2 41 q8_3 (fun K hK => ?_)
              refine goes_ Try.func122 (by kernel_rfl) rfl #[.slice (some ad192) l0.length c0, .int .i64 ji18] (by rfl) rfl rfl (by (try simp only [List.map_toArray, List.map_cons, List.map_nil]); first | done | (simp only [hji18]; rfl) | rfl | (simp only [List.length_drop, List.length_take]; rfl)) ?_
              with_reducible refine (spec_l5Bare.calls _ _ l0 ji18 true _ ?side1 ?side2 A22.out).mono ?_
              (case side1 => repeat (first | exact (Kd.C_below HR0.out HB.out) | (with_reducible refine ca_ ?_ _) | (with_reducible refine cn_ ?_ _) | (with_reducible refine cd_ ?_)))
              (case side2 => exact HC0.out)
              rintro e w' ⟨rfl, ⟨nd, rfl⟩⟩
              refine ⟨_, rfl, ?_⟩
              refine hK.out _ _ ⟨(bc_ BK193.out 0).trans rfl, (bc_ BK193.out 1).trans rfl, (bc_ BK193.out 2).trans rfl, (bc_ BK193.out 3).trans rfl, (bc_ BK193.out 4).trans rfl, (pw_cell_below HB.out hw197_0), (pw_cell_below HB.out hw197_1), (pw_cell_below HB.out hw197_2), (pw_cell_below HB.out hw197_3), (pw_cell_below HB.out hw197_4), (pw_cell_below HB.out hw199_0), (pw_cell_below HB.out hw199_1), (pw_cell_below HB.out hw199_2), (pw_cell_below HB.out hw199_3), (pw_cell_below HB.out hw199_4)⟩ (fun hHeld => ?_)
              clear hK K
              refine no_ ?_
              refine pu_ 3 42 q8_4 ?_
              refine pu_ 4 43 q8_5 ?_
              refine pu_ 5 44 q8_6 ?_
              refine pu_ 6 45 q8_7 ?_
              refine pu_ 7 46 q8_8 ?_
              refine pu_ 10 49 q8_9 ?_
              refine pu_ 14 53 q8_10 ?_
              refine pu_ 17 56 q8_11 ?_
              refine pu_ 18 57 q8_12 ?_
              refine pu_ 19 58 q8_13 ?_
              refine pu_ 20 59 q8_14 ?_
              refine tk_ 8 47 q8_15 hHeld ?_
              refine pu_ 9 48 q8_16 ?_
              refine tk_ 11 50 q8_17 hHeld ?_
              refine pu_ 12 51 q8_18 ?_
              refine pu_ 13 52 q8_19 ?_
              refine tk_ 15 54 q8_20 hHeld ?_
              refine tk_ 21 60 q8_21 hHeld ?_
              refine pu_ 22 61 q8_22 ?_
              refine on_ 16 55 q8_23 (fun K hK => ?_)
              refine goes_ Try.func123 (by kernel_rfl) rfl #[.string (((((rd_T87 l0 (ji18)).f3) ++ (⟨#[60, 47]⟩ : ByteArray)) ++ ((rd_T87 l0 a1).f1)) ++ (⟨#[62]⟩ : ByteArray)), .int .i64 0, .string ((rd_T87 l0 a1).f1)] (by rfl) rfl rfl (by (try simp only [List.map_toArray, List.map_cons, List.map_nil]); first | done | (simp only [hji18]; rfl) | rfl | (simp only [List.length_drop, List.length_take]; rfl)) ?_
              with_reducible refine (spec_RawEnd.calls kj4 (((((rd_T87 l0 (ji18)).f3) ++ (⟨#[60, 47]⟩ : ByteArray)) ++ ((rd_T87 l0 a1).f1)) ++ (⟨#[62]⟩ : ByteArray)) 0 ((rd_T87 l0 a1).f1) t198 _ A27.out).mono ?_
              rintro e w44 ⟨rfl, hb⟩
              refine ⟨_, rfl, ?_⟩
              have n0_ := Aside0.mk (blk_below (g := gb193) (o := .cells #[.int .i64 ((rd_T87 l0 a1).f0), .string ((rd_T87 l0 a1).f1), .slice A192_2 ((rd_T87 l0 a1).f2).length c192_2, .string ((rd_T87 l0 a1).f3), .bool ((rd_T87 l0 a1).f4)] 87 (0, 0)) (by (with_reducible repeat (first | refine dn_ ?_ _ | refine dd_ ?_ | refine da_ ?_ _)); exact BK193.out) hb)
              have n1_ := Aside0.mk (below_step hb_ hb)
              clear BK193
              clear HB
              have BK193 := n0_
              have HB := n1_
              clear n0_ n1_
              (try clear hb)
              (try clear hb2)
              (try clear hk)
              (try clear hi)
              refine hK.out _ _ ⟨(bc_ BK193.out 0).trans rfl, (bc_ BK193.out 1).trans rfl, (bc_ BK193.out 2).trans rfl, (bc_ BK193.out 3).trans rfl, (bc_ BK193.out 4).trans rfl, (pw_cell_below HB.out hw197_0), (pw_cell_below HB.out hw197_1), (pw_cell_below HB.out hw197_2), (pw_cell_below HB.out hw197_3), (pw_cell_below HB.out hw197_4), (pw_cell_below HB.out hw199_0), (pw_cell_below HB.out hw199_1), (pw_cell_below HB.out hw199_2), (pw_cell_below HB.out hw199_3), (pw_cell_below HB.out hw199_4)⟩ (fun hHeld => ?_)
              clear hK K
              refine no_ ?_
              refine pu_ 23 62 q8_24 ?_
              refine pu_ 24 63 q8_25 ?_
              refine done_ (done_of HT_.out (by kernel_rfl)) ?_
              try go_wp2
              go_ret
              exact ⟨by first | rfl | (simp [errW_none, errW_some] <;> rfl) | (simp only [← hji18]; first | rfl | (simp [errW_none, errW_some] <;> rfl)) | (simp [*, errW_none, errW_some] <;> rfl), hb_⟩
            ·rw [if_neg c26] at H
             exact absurd H (by simp)
           ·rw [if_neg c25] at H
            exact absurd H (by simp)
          ·rw [if_neg c24] at H
           exact absurd H (by simp)
         ·replace c23 := Bool.eq_false_iff.mpr c23
          subst c23
          have H1 : (if (wrap64 ((ji18) + 1)) = (l0.length : Int) then (some true) else (if 0 ≤ (wrap64 ((ji18) + 1)) then (if (wrap64 ((ji18) + 1)) < (l0.length : Int) then (if ((rd_T87 l0 (wrap64 ((ji18) + 1))).f0) = 3 then (some (((rd_T87 l0 (wrap64 ((ji18) + 1))).f1).toList == ((rd_T87 l0 a1).f1).toList)) else (some false)) else (none)) else (none))) = some r := by rw [if_neg (show ¬ (false = true) by decide)] at H; exact H
          clear H
          have H := H1
          clear H1
          by_cases c45 : (wrap64 ((ji18) + 1)) = (l0.length : Int)
          ·rw [if_pos c45] at H
           have c45b0 : ((wrap64 ((ji18) + 1)) == (l0.length : Int)) = true := beq_iff_eq.mpr c45
           have c45b1 : ((wrap64 ((ji18) + 1)) != (l0.length : Int)) = false := bne_eq_false_iff_eq.mpr c45
           clear c45
           obtain rfl := Option.some.inj H
           have p195 : 0 ≤ ((ji18) : Int) := dt_
           have q195 : (ji18) < (l0.length : Int) := dt_
           obtain ⟨ad195, A195_2, c195_2, e195, hx195_0, hx195_1, hx195_2, hx195_3, hx195_4, hl195_2, hi195_2⟩ := at_T87 HR0.out (ji18) p195 q195
           obtain rfl : ad192 = ad195 := (by injection e195)
           replace hx195_0 := pw_cell_below HB.out hx195_0
           replace hx195_1 := pw_cell_below HB.out hx195_1
           replace hx195_2 := pw_cell_below HB.out hx195_2
           replace hx195_3 := pw_cell_below HB.out hx195_3
           replace hx195_4 := pw_cell_below HB.out hx195_4
           have HR195_2 := Aside0.mk hi195_2
           have HC195_2 := Aside0.mk hl195_2
           clear hi195_2 hl195_2
           replace p195 := eq_true p195
           replace q195 := eq_true q195
           try go_wp2
           have n0_ := Aside0.mk (dd_ BK193.out)
           have n1_ := Aside0.mk (b1_ HB.out)
           clear BK193
           clear HB
           have BK193 := n0_
           have HB := n1_
           clear n0_ n1_
           refine start_ (n := 25) (S := fun w' => True) (ds := []) q8_0 (by kernel_rfl) rfl rfl trivial (fun hHeld => ?_); refine with_tabW spec_l5Held.tab6 spec_l5Held.bits6 (fun HT_ HW_ => ?_)
           generalize wc.drew = w46 at BK193 HB hHeld ⊢
           refine pu_ 0 39 q8_1 ?_
           refine pu_ 1 40 q8_2 ?_
           refine on_ 2 41 q8_3 (fun K hK => ?_)
           refine goes_ Try.func122 (by kernel_rfl) rfl #[.slice (some ad192) l0.length c0, .int .i64 ji18] (by rfl) rfl rfl (by (try simp only [List.map_toArray, List.map_cons, List.map_nil]); first | done | (simp only [hji18]; rfl) | rfl | (simp only [List.length_drop, List.length_take]; rfl)) ?_
           with_reducible refine (spec_l5Bare.calls _ _ l0 ji18 false _ ?side1 ?side2 A22.out).mono ?_
           (case side1 => repeat (first | exact (Kd.C_below HR0.out HB.out) | (with_reducible refine ca_ ?_ _) | (with_reducible refine cn_ ?_ _) | (with_reducible refine cd_ ?_)))
           (case side2 => exact HC0.out)
           rintro e w' ⟨rfl, ⟨nd, rfl⟩⟩
           refine ⟨_, rfl, ?_⟩
           refine hK.out _ _ trivial (fun hHeld => ?_)
           clear hK K
           refine no_ ?_
           refine pu_ 3 42 q8_4 ?_
           refine pv_ 4 43 q8_5 ?_
           refine pv_ 5 44 q8_6 ?_
           refine pv_ 6 45 q8_7 ?_
           refine pv_ 7 46 q8_8 ?_
           refine pv_ 8 47 q8_51 ?_
           refine pv_ 9 48 q8_52 ?_
           refine pv_ 10 49 q8_53 ?_
           refine pv_ 11 50 q8_54 ?_
           refine pv_ 12 51 q8_55 ?_
           refine pv_ 13 52 q8_56 ?_
           refine pv_ 14 53 q8_57 ?_
           refine pv_ 15 54 q8_58 ?_
           refine pv_ 16 55 q8_59 ?_
           refine pv_ 17 56 q8_60 ?_
           refine pv_ 18 57 q8_61 ?_
           refine pv_ 19 58 q8_62 ?_
           refine pv_ 20 59 q8_63 ?_
           refine pv_ 21 60 q8_64 ?_
           refine pv_ 22 61 q8_23 ?_
           refine pv_ 23 62 q8_24 ?_
           refine pu_ 24 63 q8_25 ?_
           refine done_ (done_of HT_.out (by kernel_rfl)) ?_
           try go_wp2
           (try (rw [drewN_self w46]; generalize hq_ : World.drewN w46 _ = w46; have n0_ : Aside0 (w46.heap[gb193]? = some (.cells #[.int .i64 ((rd_T87 l0 a1).f0), .string ((rd_T87 l0 a1).f1), .slice A192_2 ((rd_T87 l0 a1).f2).length c192_2, .string ((rd_T87 l0 a1).f3), .bool ((rd_T87 l0 a1).f4)] 87 (0, 0))) := ⟨by rw [← hq_]; exact (by (with_reducible repeat (first | refine dn_ ?_ _ | refine dd_ ?_ | refine da_ ?_ _)); exact BK193.out)⟩; have n1_ : Aside0 (Below w.heap.size w w46) := ⟨by rw [← hq_]; exact hb_⟩; clear BK193 HB hq_; have BK193 := n0_; have HB := n1_; clear n0_ n1_))
           have n0_ := Aside0.mk (dd_ BK193.out)
           have n1_ := Aside0.mk (b1_ HB.out)
           clear BK193
           clear HB
           have BK193 := n0_
           have HB := n1_
           clear n0_ n1_
           refine start_ (n := 23) (S := fun w' => True) (ds := []) q8_26 (by kernel_rfl) rfl rfl trivial (fun hHeld => ?_); refine with_tabW spec_l5Held.tab9 spec_l5Held.bits9 (fun HT_ HW_ => ?_)
           generalize w46.drew = w47 at BK193 HB hHeld ⊢
           refine pu_ 0 66 q8_27 ?_
           refine pu_ 1 67 q8_28 ?_
           refine pu_ 2 68 q8_29 ?_
           refine pu_ 3 69 q8_30 ?_
           refine pu_ 4 70 q8_31 ?_
           refine pv_ 5 71 q8_32 ?_
           refine pv_ 6 72 q8_33 ?_
           refine pv_ 7 73 q8_34 ?_
           refine pv_ 8 74 q8_35 ?_
           refine pv_ 9 75 q8_36 ?_
           refine pv_ 10 76 q8_37 ?_
           refine pv_ 11 77 q8_38 ?_
           refine pv_ 12 78 q8_39 ?_
           refine pv_ 13 79 q8_40 ?_
           refine pv_ 14 80 q8_41 ?_
           refine pv_ 15 81 q8_42 ?_
           refine pv_ 16 82 q8_43 ?_
           refine pv_ 17 83 q8_44 ?_
           refine pv_ 18 84 q8_45 ?_
           refine pv_ 19 85 q8_46 ?_
           refine pv_ 20 86 q8_47 ?_
           refine pu_ 21 87 q8_48 ?_
           refine pu_ 22 4 q8_49 ?_
           refine done_ (done_of HT_.out (by kernel_rfl)) ?_
           try go_wp2
           go_ret
           exact ⟨by first | rfl | (simp [errW_none, errW_some] <;> rfl) | (simp only [← hji18]; first | rfl | (simp [errW_none, errW_some] <;> rfl)) | (simp [*, errW_none, errW_some] <;> rfl), hb_⟩
          ·rw [if_neg c45] at H
           have c45b0 : ((wrap64 ((ji18) + 1)) == (l0.length : Int)) = false := beq_eq_false_iff_ne.mpr c45
           have c45b1 : ((wrap64 ((ji18) + 1)) != (l0.length : Int)) = true := bne_iff_ne.mpr c45
           obtain ⟨ji48, hji48⟩ : ∃ j_ : Int, (wrap64 ((ji18) + 1)) = j_ := ⟨_, rfl⟩
           replace H : (if 0 ≤ (ji48) then (if (ji48) < (l0.length : Int) then (if ((rd_T87 l0 (ji48)).f0) = 3 then (some (((rd_T87 l0 (ji48)).f1).toList == ((rd_T87 l0 a1).f1).toList)) else (some false)) else (none)) else (none)) = some r := by first | (rw [hji48] at H; exact H) | (simp only [hji48] at H ⊢; exact H)
           (try rw [hji48] at c45b0)
           (try rw [hji48] at c45b1)
           (try rw [hji48] at A22)
           have hji48w : (IntKind.i64.wrap ((ji18) + 1)) = ji48 := (i64_w _).trans hji48
           by_cases c49 : 0 ≤ (ji48)
           ·rw [if_pos c49] at H
            have c49b0 : decide (0 ≤ (ji48)) = true := decide_eq_true c49
            clear c49
            by_cases c50 : (ji48) < (l0.length : Int)
            ·rw [if_pos c50] at H
             have c50b0 : decide ((ji48) < (l0.length : Int)) = true := decide_eq_true c50
             clear c50
             by_cases c51 : ((rd_T87 l0 (ji48)).f0) = 3
             ·rw [if_pos c51] at H
              have c51b0 : (((rd_T87 l0 (ji48)).f0) == 3) = true := beq_iff_eq.mpr c51
              have c51b1 : (((rd_T87 l0 (ji48)).f0) != 3) = false := bne_eq_false_iff_eq.mpr c51
              clear c51
              obtain rfl := Option.some.inj H
              have p195 : 0 ≤ ((ji18) : Int) := dt_
              have q195 : (ji18) < (l0.length : Int) := dt_
              obtain ⟨ad195, A195_2, c195_2, e195, hx195_0, hx195_1, hx195_2, hx195_3, hx195_4, hl195_2, hi195_2⟩ := at_T87 HR0.out (ji18) p195 q195
              obtain rfl : ad192 = ad195 := (by injection e195)
              replace hx195_0 := pw_cell_below HB.out hx195_0
              replace hx195_1 := pw_cell_below HB.out hx195_1
              replace hx195_2 := pw_cell_below HB.out hx195_2
              replace hx195_3 := pw_cell_below HB.out hx195_3
              replace hx195_4 := pw_cell_below HB.out hx195_4
              have HR195_2 := Aside0.mk hi195_2
              have HC195_2 := Aside0.mk hl195_2
              clear hi195_2 hl195_2
              replace p195 := eq_true p195
              replace q195 := eq_true q195
              try go_wp2
              have n0_ := Aside0.mk (dd_ BK193.out)
              have n1_ := Aside0.mk (b1_ HB.out)
              clear BK193
              clear HB
              have BK193 := n0_
              have HB := n1_
              clear n0_ n1_
              refine start_ (n := 25) (S := fun w' => True) (ds := []) q8_0 (by kernel_rfl) rfl rfl trivial (fun hHeld => ?_); refine with_tabW spec_l5Held.tab6 spec_l5Held.bits6 (fun HT_ HW_ => ?_)
              generalize wc.drew = w52 at BK193 HB hHeld ⊢
              refine pu_ 0 39 q8_1 ?_
              refine pu_ 1 40 q8_2 ?_
              refine on_ 2 41 q8_3 (fun K hK => ?_)
              refine goes_ Try.func122 (by kernel_rfl) rfl #[.slice (some ad192) l0.length c0, .int .i64 ji18] (by rfl) rfl rfl (by (try simp only [List.map_toArray, List.map_cons, List.map_nil]); first | done | (simp only [hji18]; rfl) | rfl | (simp only [List.length_drop, List.length_take]; rfl)) ?_
              with_reducible refine (spec_l5Bare.calls _ _ l0 ji18 false _ ?side1 ?side2 A22.out).mono ?_
              (case side1 => repeat (first | exact (Kd.C_below HR0.out HB.out) | (with_reducible refine ca_ ?_ _) | (with_reducible refine cn_ ?_ _) | (with_reducible refine cd_ ?_)))
              (case side2 => exact HC0.out)
              rintro e w' ⟨rfl, ⟨nd, rfl⟩⟩
              refine ⟨_, rfl, ?_⟩
              refine hK.out _ _ trivial (fun hHeld => ?_)
              clear hK K
              refine no_ ?_
              refine pu_ 3 42 q8_4 ?_
              refine pv_ 4 43 q8_5 ?_
              refine pv_ 5 44 q8_6 ?_
              refine pv_ 6 45 q8_7 ?_
              refine pv_ 7 46 q8_8 ?_
              refine pv_ 8 47 q8_51 ?_
              refine pv_ 9 48 q8_52 ?_
              refine pv_ 10 49 q8_53 ?_
              refine pv_ 11 50 q8_54 ?_
              refine pv_ 12 51 q8_55 ?_
              refine pv_ 13 52 q8_56 ?_
              refine pv_ 14 53 q8_57 ?_
              refine pv_ 15 54 q8_58 ?_
              refine pv_ 16 55 q8_59 ?_
              refine pv_ 17 56 q8_60 ?_
              refine pv_ 18 57 q8_61 ?_
              refine pv_ 19 58 q8_62 ?_
              refine pv_ 20 59 q8_63 ?_
              refine pv_ 21 60 q8_64 ?_
              refine pv_ 22 61 q8_23 ?_
              refine pv_ 23 62 q8_24 ?_
              refine pu_ 24 63 q8_25 ?_
              refine done_ (done_of HT_.out (by kernel_rfl)) ?_
              try go_wp2
              (try (rw [drewN_self w52]; generalize hq_ : World.drewN w52 _ = w52; have n0_ : Aside0 (w52.heap[gb193]? = some (.cells #[.int .i64 ((rd_T87 l0 a1).f0), .string ((rd_T87 l0 a1).f1), .slice A192_2 ((rd_T87 l0 a1).f2).length c192_2, .string ((rd_T87 l0 a1).f3), .bool ((rd_T87 l0 a1).f4)] 87 (0, 0))) := ⟨by rw [← hq_]; exact (by (with_reducible repeat (first | refine dn_ ?_ _ | refine dd_ ?_ | refine da_ ?_ _)); exact BK193.out)⟩; have n1_ : Aside0 (Below w.heap.size w w52) := ⟨by rw [← hq_]; exact hb_⟩; clear BK193 HB hq_; have BK193 := n0_; have HB := n1_; clear n0_ n1_))
              have n0_ := Aside0.mk (dd_ BK193.out)
              have n1_ := Aside0.mk (b1_ HB.out)
              clear BK193
              clear HB
              have BK193 := n0_
              have HB := n1_
              clear n0_ n1_
              have p202 : 0 ≤ ((ji48) : Int) := dt_
              have q202 : (ji48) < (l0.length : Int) := dt_
              obtain ⟨ad202, A202_2, c202_2, e202, hx202_0, hx202_1, hx202_2, hx202_3, hx202_4, hl202_2, hi202_2⟩ := at_T87 HR0.out (ji48) p202 q202
              have hw202_4 := hx202_4
              have hw202_3 := hx202_3
              have hw202_2 := hx202_2
              have hw202_1 := hx202_1
              have hw202_0 := hx202_0
              obtain rfl : ad192 = ad202 := (by injection e202)
              replace hx202_0 := pw_cell_below HB.out hx202_0
              replace hx202_1 := pw_cell_below HB.out hx202_1
              replace hx202_2 := pw_cell_below HB.out hx202_2
              replace hx202_3 := pw_cell_below HB.out hx202_3
              replace hx202_4 := pw_cell_below HB.out hx202_4
              have HR202_2 := Aside0.mk hi202_2
              have HC202_2 := Aside0.mk hl202_2
              clear hi202_2 hl202_2
              replace p202 := eq_true p202
              replace q202 := eq_true q202
              have p203 : 0 ≤ ((ji48) : Int) := dt_
              have q203 : (ji48) < (l0.length : Int) := dt_
              obtain ⟨ad203, A203_2, c203_2, e203, hx203_0, hx203_1, hx203_2, hx203_3, hx203_4, hl203_2, hi203_2⟩ := at_T87 HR0.out (ji48) p203 q203
              have hw203_4 := hx203_4
              have hw203_3 := hx203_3
              have hw203_2 := hx203_2
              have hw203_1 := hx203_1
              have hw203_0 := hx203_0
              obtain rfl : ad192 = ad203 := (by injection e203)
              replace hx203_0 := pw_cell_below HB.out hx203_0
              replace hx203_1 := pw_cell_below HB.out hx203_1
              replace hx203_2 := pw_cell_below HB.out hx203_2
              replace hx203_3 := pw_cell_below HB.out hx203_3
              replace hx203_4 := pw_cell_below HB.out hx203_4
              have HR203_2 := Aside0.mk hi203_2
              have HC203_2 := Aside0.mk hl203_2
              clear hi203_2 hl203_2
              replace p203 := eq_true p203
              replace q203 := eq_true q203
              have ea_ := Option.some.inj (hx202_2.symm.trans hx203_2)
              injection ea_ with ea_ en_ ec_
              subst ea_
              subst ec_
              clear en_
              refine start_ (n := 23) (S := fun w' => w'.cell? ⟨gb193, 0, none⟩ = some (.int .i64 ((rd_T87 l0 a1).f0)) ∧ w'.cell? ⟨gb193, 1, none⟩ = some (.string ((rd_T87 l0 a1).f1)) ∧ w'.cell? ⟨gb193, 2, none⟩ = some (.slice A192_2 ((rd_T87 l0 a1).f2).length c192_2) ∧ w'.cell? ⟨gb193, 3, none⟩ = some (.string ((rd_T87 l0 a1).f3)) ∧ w'.cell? ⟨gb193, 4, none⟩ = some (.bool ((rd_T87 l0 a1).f4)) ∧ w'.cell? (ad192.add (((ji48)).toNat * 5)) = some (.int .i64 ((rd_T87 l0 (ji48)).f0)) ∧ w'.cell? ⟨(ad192.add (((ji48)).toNat * 5)).block, (ad192.add (((ji48)).toNat * 5)).off + 1, none⟩ = some (.string ((rd_T87 l0 (ji48)).f1)) ∧ w'.cell? ⟨(ad192.add (((ji48)).toNat * 5)).block, (ad192.add (((ji48)).toNat * 5)).off + 2, none⟩ = some (.slice A202_2 ((rd_T87 l0 (ji48)).f2).length c202_2) ∧ w'.cell? ⟨(ad192.add (((ji48)).toNat * 5)).block, (ad192.add (((ji48)).toNat * 5)).off + 3, none⟩ = some (.string ((rd_T87 l0 (ji48)).f3)) ∧ w'.cell? ⟨(ad192.add (((ji48)).toNat * 5)).block, (ad192.add (((ji48)).toNat * 5)).off + 4, none⟩ = some (.bool ((rd_T87 l0 (ji48)).f4)) ∧ w'.cell? (ad192.add (((ji48)).toNat * 5)) = some (.int .i64 ((rd_T87 l0 (ji48)).f0)) ∧ w'.cell? ⟨(ad192.add (((ji48)).toNat * 5)).block, (ad192.add (((ji48)).toNat * 5)).off + 1, none⟩ = some (.string ((rd_T87 l0 (ji48)).f1)) ∧ w'.cell? ⟨(ad192.add (((ji48)).toNat * 5)).block, (ad192.add (((ji48)).toNat * 5)).off + 2, none⟩ = some (.slice A202_2 ((rd_T87 l0 (ji48)).f2).length c202_2) ∧ w'.cell? ⟨(ad192.add (((ji48)).toNat * 5)).block, (ad192.add (((ji48)).toNat * 5)).off + 3, none⟩ = some (.string ((rd_T87 l0 (ji48)).f3)) ∧ w'.cell? ⟨(ad192.add (((ji48)).toNat * 5)).block, (ad192.add (((ji48)).toNat * 5)).off + 4, none⟩ = some (.bool ((rd_T87 l0 (ji48)).f4))) (ds := []) q8_26 (by kernel_rfl) rfl rfl ⟨(bc_ BK193.out 0).trans rfl, (bc_ BK193.out 1).trans rfl, (bc_ BK193.out 2).trans rfl, (bc_ BK193.out 3).trans rfl, (bc_ BK193.out 4).trans rfl, (pw_cell_below HB.out hw202_0), (pw_cell_below HB.out hw202_1), (pw_cell_below HB.out hw202_2), (pw_cell_below HB.out hw202_3), (pw_cell_below HB.out hw202_4), (pw_cell_below HB.out hw203_0), (pw_cell_below HB.out hw203_1), (pw_cell_below HB.out hw203_2), (pw_cell_below HB.out hw203_3), (pw_cell_below HB.out hw203_4)⟩ (fun hHeld => ?_); refine with_tabW spec_l5Held.tab9 spec_l5Held.bits9 (fun HT_ HW_ => ?_)
              generalize w52.drew = w53 at BK193 HB HR202_2 HR203_2 hx202_0 hx202_1 hx202_2 hx202_3 hx202_4 hx203_0 hx203_1 hx203_2 hx203_3 hx203_4 hHeld ⊢
              refine pu_ 0 66 q8_27 ?_
              refine pu_ 1 67 q8_28 ?_
              refine pu_ 2 68 q8_29 ?_
              refine pu_ 3 69 q8_30 ?_
              refine pu_ 4 70 q8_31 ?_
              refine pu_ 5 71 q8_32 ?_
              refine pu_ 6 72 q8_33 ?_
              refine pu_ 7 73 q8_34 ?_
              refine pu_ 8 74 q8_35 ?_
              refine tk_ 9 75 q8_36 hHeld ?_
              refine pu_ 10 76 q8_37 ?_
              refine pu_ 11 77 q8_38 ?_
              refine pu_ 12 78 q8_39 ?_
              refine pu_ 13 79 q8_40 ?_
              refine pu_ 14 80 q8_41 ?_
              refine pu_ 15 81 q8_42 ?_
              refine pu_ 17 83 q8_50 ?_
              refine tk_ 16 82 q8_44 hHeld ?_
              refine tk_ 18 84 q8_45 hHeld ?_
              refine pu_ 19 85 q8_46 ?_
              refine pu_ 20 86 q8_47 ?_
              refine pu_ 21 87 q8_48 ?_
              refine pu_ 22 4 q8_49 ?_
              refine done_ (done_of HT_.out (by kernel_rfl)) ?_
              try go_wp2
              go_ret
              exact ⟨by first | rfl | (simp [errW_none, errW_some] <;> rfl) | (simp only [← hji18, ← hji48]; first | rfl | (simp [errW_none, errW_some] <;> rfl)) | (simp [*, errW_none, errW_some] <;> rfl), hb_⟩
             ·rw [if_neg c51] at H
              have c51b0 : (((rd_T87 l0 (ji48)).f0) == 3) = false := beq_eq_false_iff_ne.mpr c51
              have c51b1 : (((rd_T87 l0 (ji48)).f0) != 3) = true := bne_iff_ne.mpr c51
              obtain rfl := Option.some.inj H
              have p195 : 0 ≤ ((ji18) : Int) := dt_
              have q195 : (ji18) < (l0.length : Int) := dt_
              obtain ⟨ad195, A195_2, c195_2, e195, hx195_0, hx195_1, hx195_2, hx195_3, hx195_4, hl195_2, hi195_2⟩ := at_T87 HR0.out (ji18) p195 q195
              obtain rfl : ad192 = ad195 := (by injection e195)
              replace hx195_0 := pw_cell_below HB.out hx195_0
              replace hx195_1 := pw_cell_below HB.out hx195_1
              replace hx195_2 := pw_cell_below HB.out hx195_2
              replace hx195_3 := pw_cell_below HB.out hx195_3
              replace hx195_4 := pw_cell_below HB.out hx195_4
              have HR195_2 := Aside0.mk hi195_2
              have HC195_2 := Aside0.mk hl195_2
              clear hi195_2 hl195_2
              replace p195 := eq_true p195
              replace q195 := eq_true q195
              try go_wp2
              have n0_ := Aside0.mk (dd_ BK193.out)
              have n1_ := Aside0.mk (b1_ HB.out)
              clear BK193
              clear HB
              have BK193 := n0_
              have HB := n1_
              clear n0_ n1_
              refine start_ (n := 25) (S := fun w' => True) (ds := []) q8_0 (by kernel_rfl) rfl rfl trivial (fun hHeld => ?_); refine with_tabW spec_l5Held.tab6 spec_l5Held.bits6 (fun HT_ HW_ => ?_)
              generalize wc.drew = w54 at BK193 HB hHeld ⊢
              refine pu_ 0 39 q8_1 ?_
              refine pu_ 1 40 q8_2 ?_
              refine on_ 2 41 q8_3 (fun K hK => ?_)
              refine goes_ Try.func122 (by kernel_rfl) rfl #[.slice (some ad192) l0.length c0, .int .i64 ji18] (by rfl) rfl rfl (by (try simp only [List.map_toArray, List.map_cons, List.map_nil]); first | done | (simp only [hji18]; rfl) | rfl | (simp only [List.length_drop, List.length_take]; rfl)) ?_
              with_reducible refine (spec_l5Bare.calls _ _ l0 ji18 false _ ?side1 ?side2 A22.out).mono ?_
              (case side1 => repeat (first | exact (Kd.C_below HR0.out HB.out) | (with_reducible refine ca_ ?_ _) | (with_reducible refine cn_ ?_ _) | (with_reducible refine cd_ ?_)))
              (case side2 => exact HC0.out)
              rintro e w' ⟨rfl, ⟨nd, rfl⟩⟩
              refine ⟨_, rfl, ?_⟩
              refine hK.out _ _ trivial (fun hHeld => ?_)
              clear hK K
              refine no_ ?_
              refine pu_ 3 42 q8_4 ?_
              refine pv_ 4 43 q8_5 ?_
              refine pv_ 5 44 q8_6 ?_
              refine pv_ 6 45 q8_7 ?_
              refine pv_ 7 46 q8_8 ?_
              refine pv_ 8 47 q8_51 ?_
              refine pv_ 9 48 q8_52 ?_
              refine pv_ 10 49 q8_53 ?_
              refine pv_ 11 50 q8_54 ?_
              refine pv_ 12 51 q8_55 ?_
              refine pv_ 13 52 q8_56 ?_
              refine pv_ 14 53 q8_57 ?_
              refine pv_ 15 54 q8_58 ?_
              refine pv_ 16 55 q8_59 ?_
              refine pv_ 17 56 q8_60 ?_
              refine pv_ 18 57 q8_61 ?_
              refine pv_ 19 58 q8_62 ?_
              refine pv_ 20 59 q8_63 ?_
              refine pv_ 21 60 q8_64 ?_
              refine pv_ 22 61 q8_23 ?_
              refine pv_ 23 62 q8_24 ?_
              refine pu_ 24 63 q8_25 ?_
              refine done_ (done_of HT_.out (by kernel_rfl)) ?_
              try go_wp2
              (try (rw [drewN_self w54]; generalize hq_ : World.drewN w54 _ = w54; have n0_ : Aside0 (w54.heap[gb193]? = some (.cells #[.int .i64 ((rd_T87 l0 a1).f0), .string ((rd_T87 l0 a1).f1), .slice A192_2 ((rd_T87 l0 a1).f2).length c192_2, .string ((rd_T87 l0 a1).f3), .bool ((rd_T87 l0 a1).f4)] 87 (0, 0))) := ⟨by rw [← hq_]; exact (by (with_reducible repeat (first | refine dn_ ?_ _ | refine dd_ ?_ | refine da_ ?_ _)); exact BK193.out)⟩; have n1_ : Aside0 (Below w.heap.size w w54) := ⟨by rw [← hq_]; exact hb_⟩; clear BK193 HB hq_; have BK193 := n0_; have HB := n1_; clear n0_ n1_))
              have n0_ := Aside0.mk (dd_ BK193.out)
              have n1_ := Aside0.mk (b1_ HB.out)
              clear BK193
              clear HB
              have BK193 := n0_
              have HB := n1_
              clear n0_ n1_
              have p202 : 0 ≤ ((ji48) : Int) := dt_
              have q202 : (ji48) < (l0.length : Int) := dt_
              obtain ⟨ad202, A202_2, c202_2, e202, hx202_0, hx202_1, hx202_2, hx202_3, hx202_4, hl202_2, hi202_2⟩ := at_T87 HR0.out (ji48) p202 q202
              have hw202_4 := hx202_4
              have hw202_3 := hx202_3
              have hw202_2 := hx202_2
              have hw202_1 := hx202_1
              have hw202_0 := hx202_0
              obtain rfl : ad192 = ad202 := (by injection e202)
              replace hx202_0 := pw_cell_below HB.out hx202_0
              replace hx202_1 := pw_cell_below HB.out hx202_1
              replace hx202_2 := pw_cell_below HB.out hx202_2
              replace hx202_3 := pw_cell_below HB.out hx202_3
              replace hx202_4 := pw_cell_below HB.out hx202_4
              have HR202_2 := Aside0.mk hi202_2
              have HC202_2 := Aside0.mk hl202_2
              clear hi202_2 hl202_2
              replace p202 := eq_true p202
              replace q202 := eq_true q202
              refine start_ (n := 23) (S := fun w' => w'.cell? (ad192.add (((ji48)).toNat * 5)) = some (.int .i64 ((rd_T87 l0 (ji48)).f0)) ∧ w'.cell? ⟨(ad192.add (((ji48)).toNat * 5)).block, (ad192.add (((ji48)).toNat * 5)).off + 1, none⟩ = some (.string ((rd_T87 l0 (ji48)).f1)) ∧ w'.cell? ⟨(ad192.add (((ji48)).toNat * 5)).block, (ad192.add (((ji48)).toNat * 5)).off + 2, none⟩ = some (.slice A202_2 ((rd_T87 l0 (ji48)).f2).length c202_2) ∧ w'.cell? ⟨(ad192.add (((ji48)).toNat * 5)).block, (ad192.add (((ji48)).toNat * 5)).off + 3, none⟩ = some (.string ((rd_T87 l0 (ji48)).f3)) ∧ w'.cell? ⟨(ad192.add (((ji48)).toNat * 5)).block, (ad192.add (((ji48)).toNat * 5)).off + 4, none⟩ = some (.bool ((rd_T87 l0 (ji48)).f4))) (ds := []) q8_26 (by kernel_rfl) rfl rfl ⟨(pw_cell_below HB.out hw202_0), (pw_cell_below HB.out hw202_1), (pw_cell_below HB.out hw202_2), (pw_cell_below HB.out hw202_3), (pw_cell_below HB.out hw202_4)⟩ (fun hHeld => ?_); refine with_tabW spec_l5Held.tab9 spec_l5Held.bits9 (fun HT_ HW_ => ?_)
              generalize w54.drew = w55 at BK193 HB HR202_2 hx202_0 hx202_1 hx202_2 hx202_3 hx202_4 hHeld ⊢
              refine pu_ 0 66 q8_27 ?_
              refine pu_ 1 67 q8_28 ?_
              refine pu_ 2 68 q8_29 ?_
              refine pu_ 3 69 q8_30 ?_
              refine pu_ 4 70 q8_31 ?_
              refine pu_ 5 71 q8_32 ?_
              refine pu_ 6 72 q8_33 ?_
              refine pu_ 7 73 q8_34 ?_
              refine pu_ 8 74 q8_35 ?_
              refine tk_ 9 75 q8_36 hHeld ?_
              refine pu_ 10 76 q8_37 ?_
              refine pu_ 11 77 q8_38 ?_
              refine pv_ 12 78 q8_39 ?_
              refine pv_ 13 79 q8_40 ?_
              refine pv_ 14 80 q8_41 ?_
              refine pv_ 15 81 q8_42 ?_
              refine pv_ 16 82 q8_43 ?_
              refine pv_ 17 83 q8_44 ?_
              refine pv_ 18 84 q8_45 ?_
              refine pv_ 19 85 q8_46 ?_
              refine pu_ 20 86 q8_47 ?_
              refine pu_ 21 87 q8_48 ?_
              refine pu_ 22 4 q8_49 ?_
              refine done_ (done_of HT_.out (by kernel_rfl)) ?_
              try go_wp2
              go_ret
              exact ⟨by first | rfl | (simp [errW_none, errW_some] <;> rfl) | (simp only [← hji18, ← hji48]; first | rfl | (simp [errW_none, errW_some] <;> rfl)) | (simp [*, errW_none, errW_some] <;> rfl), hb_⟩
            ·rw [if_neg c50] at H
             exact absurd H (by simp)
           ·rw [if_neg c49] at H
            exact absurd H (by simp)
        ·rw [if_neg c21] at H
         have c21b0 : (((rd_T87 l0 (ji18)).f0) == 1) = false := beq_eq_false_iff_ne.mpr c21
         have c21b1 : (((rd_T87 l0 (ji18)).f0) != 1) = true := bne_iff_ne.mpr c21
         by_cases c56 : (ji18) = (l0.length : Int)
         ·rw [if_pos c56] at H
          have c56b0 : ((ji18) == (l0.length : Int)) = true := beq_iff_eq.mpr c56
          have c56b1 : ((ji18) != (l0.length : Int)) = false := bne_eq_false_iff_eq.mpr c56
          clear c56
          obtain rfl := Option.some.inj H
          have p195 : 0 ≤ ((ji18) : Int) := dt_
          have q195 : (ji18) < (l0.length : Int) := dt_
          obtain ⟨ad195, A195_2, c195_2, e195, hx195_0, hx195_1, hx195_2, hx195_3, hx195_4, hl195_2, hi195_2⟩ := at_T87 HR0.out (ji18) p195 q195
          obtain rfl : ad192 = ad195 := (by injection e195)
          replace hx195_0 := pw_cell_below HB.out hx195_0
          replace hx195_1 := pw_cell_below HB.out hx195_1
          replace hx195_2 := pw_cell_below HB.out hx195_2
          replace hx195_3 := pw_cell_below HB.out hx195_3
          replace hx195_4 := pw_cell_below HB.out hx195_4
          have HR195_2 := Aside0.mk hi195_2
          have HC195_2 := Aside0.mk hl195_2
          clear hi195_2 hl195_2
          replace p195 := eq_true p195
          replace q195 := eq_true q195
          try go_wp2
          have n0_ := Aside0.mk (dd_ BK193.out)
          have n1_ := Aside0.mk (b1_ HB.out)
          clear BK193
          clear HB
          have BK193 := n0_
          have HB := n1_
          clear n0_ n1_
          refine start_ (n := 23) (S := fun w' => True) (ds := []) q8_26 (by kernel_rfl) rfl rfl trivial (fun hHeld => ?_); refine with_tabW spec_l5Held.tab9 spec_l5Held.bits9 (fun HT_ HW_ => ?_)
          generalize wc.drew = w57 at BK193 HB hHeld ⊢
          refine pu_ 0 66 q8_27 ?_
          refine pu_ 1 67 q8_28 ?_
          refine pu_ 2 68 q8_29 ?_
          refine pu_ 3 69 q8_30 ?_
          refine pu_ 4 70 q8_31 ?_
          refine pv_ 5 71 q8_32 ?_
          refine pv_ 6 72 q8_33 ?_
          refine pv_ 7 73 q8_34 ?_
          refine pv_ 8 74 q8_35 ?_
          refine pv_ 9 75 q8_36 ?_
          refine pv_ 10 76 q8_37 ?_
          refine pv_ 11 77 q8_38 ?_
          refine pv_ 12 78 q8_39 ?_
          refine pv_ 13 79 q8_40 ?_
          refine pv_ 14 80 q8_41 ?_
          refine pv_ 15 81 q8_42 ?_
          refine pv_ 16 82 q8_43 ?_
          refine pv_ 17 83 q8_44 ?_
          refine pv_ 18 84 q8_45 ?_
          refine pv_ 19 85 q8_46 ?_
          refine pv_ 20 86 q8_47 ?_
          refine pu_ 21 87 q8_48 ?_
          refine pu_ 22 4 q8_49 ?_
          refine done_ (done_of HT_.out (by kernel_rfl)) ?_
          try go_wp2
          go_ret
          exact ⟨by first | rfl | (simp [errW_none, errW_some] <;> rfl) | (simp only [← hji18]; first | rfl | (simp [errW_none, errW_some] <;> rfl)) | (simp [*, errW_none, errW_some] <;> rfl), hb_⟩
         ·rw [if_neg c56] at H
          have c56b0 : ((ji18) == (l0.length : Int)) = false := beq_eq_false_iff_ne.mpr c56
          have c56b1 : ((ji18) != (l0.length : Int)) = true := bne_iff_ne.mpr c56
          by_cases c58 : ((rd_T87 l0 (ji18)).f0) = 3
          ·rw [if_pos c58] at H
           have c58b0 : (((rd_T87 l0 (ji18)).f0) == 3) = true := beq_iff_eq.mpr c58
           have c58b1 : (((rd_T87 l0 (ji18)).f0) != 3) = false := bne_eq_false_iff_eq.mpr c58
           clear c58
           obtain rfl := Option.some.inj H
           have p195 : 0 ≤ ((ji18) : Int) := dt_
           have q195 : (ji18) < (l0.length : Int) := dt_
           obtain ⟨ad195, A195_2, c195_2, e195, hx195_0, hx195_1, hx195_2, hx195_3, hx195_4, hl195_2, hi195_2⟩ := at_T87 HR0.out (ji18) p195 q195
           obtain rfl : ad192 = ad195 := (by injection e195)
           replace hx195_0 := pw_cell_below HB.out hx195_0
           replace hx195_1 := pw_cell_below HB.out hx195_1
           replace hx195_2 := pw_cell_below HB.out hx195_2
           replace hx195_3 := pw_cell_below HB.out hx195_3
           replace hx195_4 := pw_cell_below HB.out hx195_4
           have HR195_2 := Aside0.mk hi195_2
           have HC195_2 := Aside0.mk hl195_2
           clear hi195_2 hl195_2
           replace p195 := eq_true p195
           replace q195 := eq_true q195
           try go_wp2
           have n0_ := Aside0.mk (dd_ BK193.out)
           have n1_ := Aside0.mk (b1_ HB.out)
           clear BK193
           clear HB
           have BK193 := n0_
           have HB := n1_
           clear n0_ n1_
           have p204 : 0 ≤ ((ji18) : Int) := dt_
           have q204 : (ji18) < (l0.length : Int) := dt_
           obtain ⟨ad204, A204_2, c204_2, e204, hx204_0, hx204_1, hx204_2, hx204_3, hx204_4, hl204_2, hi204_2⟩ := at_T87 HR0.out (ji18) p204 q204
           have hw204_4 := hx204_4
           have hw204_3 := hx204_3
           have hw204_2 := hx204_2
           have hw204_1 := hx204_1
           have hw204_0 := hx204_0
           obtain rfl : ad192 = ad204 := (by injection e204)
           replace hx204_0 := pw_cell_below HB.out hx204_0
           replace hx204_1 := pw_cell_below HB.out hx204_1
           replace hx204_2 := pw_cell_below HB.out hx204_2
           replace hx204_3 := pw_cell_below HB.out hx204_3
           replace hx204_4 := pw_cell_below HB.out hx204_4
           have HR204_2 := Aside0.mk hi204_2
           have HC204_2 := Aside0.mk hl204_2
           clear hi204_2 hl204_2
           replace p204 := eq_true p204
           replace q204 := eq_true q204
           have p205 : 0 ≤ ((ji18) : Int) := dt_
           have q205 : (ji18) < (l0.length : Int) := dt_
           obtain ⟨ad205, A205_2, c205_2, e205, hx205_0, hx205_1, hx205_2, hx205_3, hx205_4, hl205_2, hi205_2⟩ := at_T87 HR0.out (ji18) p205 q205
           have hw205_4 := hx205_4
           have hw205_3 := hx205_3
           have hw205_2 := hx205_2
           have hw205_1 := hx205_1
           have hw205_0 := hx205_0
           obtain rfl : ad192 = ad205 := (by injection e205)
           replace hx205_0 := pw_cell_below HB.out hx205_0
           replace hx205_1 := pw_cell_below HB.out hx205_1
           replace hx205_2 := pw_cell_below HB.out hx205_2
           replace hx205_3 := pw_cell_below HB.out hx205_3
           replace hx205_4 := pw_cell_below HB.out hx205_4
           have HR205_2 := Aside0.mk hi205_2
           have HC205_2 := Aside0.mk hl205_2
           clear hi205_2 hl205_2
           replace p205 := eq_true p205
           replace q205 := eq_true q205
           have ea_ := Option.some.inj (hx204_2.symm.trans hx205_2)
           injection ea_ with ea_ en_ ec_
           subst ea_
           subst ec_
           clear en_
           refine start_ (n := 23) (S := fun w' => w'.cell? ⟨gb193, 0, none⟩ = some (.int .i64 ((rd_T87 l0 a1).f0)) ∧ w'.cell? ⟨gb193, 1, none⟩ = some (.string ((rd_T87 l0 a1).f1)) ∧ w'.cell? ⟨gb193, 2, none⟩ = some (.slice A192_2 ((rd_T87 l0 a1).f2).length c192_2) ∧ w'.cell? ⟨gb193, 3, none⟩ = some (.string ((rd_T87 l0 a1).f3)) ∧ w'.cell? ⟨gb193, 4, none⟩ = some (.bool ((rd_T87 l0 a1).f4)) ∧ w'.cell? (ad192.add (((ji18)).toNat * 5)) = some (.int .i64 ((rd_T87 l0 (ji18)).f0)) ∧ w'.cell? ⟨(ad192.add (((ji18)).toNat * 5)).block, (ad192.add (((ji18)).toNat * 5)).off + 1, none⟩ = some (.string ((rd_T87 l0 (ji18)).f1)) ∧ w'.cell? ⟨(ad192.add (((ji18)).toNat * 5)).block, (ad192.add (((ji18)).toNat * 5)).off + 2, none⟩ = some (.slice A204_2 ((rd_T87 l0 (ji18)).f2).length c204_2) ∧ w'.cell? ⟨(ad192.add (((ji18)).toNat * 5)).block, (ad192.add (((ji18)).toNat * 5)).off + 3, none⟩ = some (.string ((rd_T87 l0 (ji18)).f3)) ∧ w'.cell? ⟨(ad192.add (((ji18)).toNat * 5)).block, (ad192.add (((ji18)).toNat * 5)).off + 4, none⟩ = some (.bool ((rd_T87 l0 (ji18)).f4)) ∧ w'.cell? (ad192.add (((ji18)).toNat * 5)) = some (.int .i64 ((rd_T87 l0 (ji18)).f0)) ∧ w'.cell? ⟨(ad192.add (((ji18)).toNat * 5)).block, (ad192.add (((ji18)).toNat * 5)).off + 1, none⟩ = some (.string ((rd_T87 l0 (ji18)).f1)) ∧ w'.cell? ⟨(ad192.add (((ji18)).toNat * 5)).block, (ad192.add (((ji18)).toNat * 5)).off + 2, none⟩ = some (.slice A204_2 ((rd_T87 l0 (ji18)).f2).length c204_2) ∧ w'.cell? ⟨(ad192.add (((ji18)).toNat * 5)).block, (ad192.add (((ji18)).toNat * 5)).off + 3, none⟩ = some (.string ((rd_T87 l0 (ji18)).f3)) ∧ w'.cell? ⟨(ad192.add (((ji18)).toNat * 5)).block, (ad192.add (((ji18)).toNat * 5)).off + 4, none⟩ = some (.bool ((rd_T87 l0 (ji18)).f4))) (ds := []) q8_26 (by kernel_rfl) rfl rfl ⟨(bc_ BK193.out 0).trans rfl, (bc_ BK193.out 1).trans rfl, (bc_ BK193.out 2).trans rfl, (bc_ BK193.out 3).trans rfl, (bc_ BK193.out 4).trans rfl, (pw_cell_below HB.out hw204_0), (pw_cell_below HB.out hw204_1), (pw_cell_below HB.out hw204_2), (pw_cell_below HB.out hw204_3), (pw_cell_below HB.out hw204_4), (pw_cell_below HB.out hw205_0), (pw_cell_below HB.out hw205_1), (pw_cell_below HB.out hw205_2), (pw_cell_below HB.out hw205_3), (pw_cell_below HB.out hw205_4)⟩ (fun hHeld => ?_); refine with_tabW spec_l5Held.tab9 spec_l5Held.bits9 (fun HT_ HW_ => ?_)
           generalize wc.drew = w59 at BK193 HB HR204_2 HR205_2 hx204_0 hx204_1 hx204_2 hx204_3 hx204_4 hx205_0 hx205_1 hx205_2 hx205_3 hx205_4 hHeld ⊢
           refine pu_ 0 66 q8_27 ?_
           refine pu_ 1 67 q8_28 ?_
           refine pu_ 2 68 q8_29 ?_
           refine pu_ 3 69 q8_30 ?_
           refine pu_ 4 70 q8_31 ?_
           refine pu_ 5 71 q8_32 ?_
           refine pu_ 6 72 q8_33 ?_
           refine pu_ 7 73 q8_34 ?_
           refine pu_ 8 74 q8_35 ?_
           refine tk_ 9 75 q8_36 hHeld ?_
           refine pu_ 10 76 q8_37 ?_
           refine pu_ 11 77 q8_38 ?_
           refine pu_ 12 78 q8_39 ?_
           refine pu_ 13 79 q8_40 ?_
           refine pu_ 14 80 q8_41 ?_
           refine pu_ 15 81 q8_42 ?_
           refine pu_ 17 83 q8_50 ?_
           refine tk_ 16 82 q8_44 hHeld ?_
           refine tk_ 18 84 q8_45 hHeld ?_
           refine pu_ 19 85 q8_46 ?_
           refine pu_ 20 86 q8_47 ?_
           refine pu_ 21 87 q8_48 ?_
           refine pu_ 22 4 q8_49 ?_
           refine done_ (done_of HT_.out (by kernel_rfl)) ?_
           try go_wp2
           go_ret
           exact ⟨by first | rfl | (simp [errW_none, errW_some] <;> rfl) | (simp only [← hji18]; first | rfl | (simp [errW_none, errW_some] <;> rfl)) | (simp [*, errW_none, errW_some] <;> rfl), hb_⟩
          ·rw [if_neg c58] at H
           have c58b0 : (((rd_T87 l0 (ji18)).f0) == 3) = false := beq_eq_false_iff_ne.mpr c58
           have c58b1 : (((rd_T87 l0 (ji18)).f0) != 3) = true := bne_iff_ne.mpr c58
           obtain rfl := Option.some.inj H
           have p195 : 0 ≤ ((ji18) : Int) := dt_
           have q195 : (ji18) < (l0.length : Int) := dt_
           obtain ⟨ad195, A195_2, c195_2, e195, hx195_0, hx195_1, hx195_2, hx195_3, hx195_4, hl195_2, hi195_2⟩ := at_T87 HR0.out (ji18) p195 q195
           obtain rfl : ad192 = ad195 := (by injection e195)
           replace hx195_0 := pw_cell_below HB.out hx195_0
           replace hx195_1 := pw_cell_below HB.out hx195_1
           replace hx195_2 := pw_cell_below HB.out hx195_2
           replace hx195_3 := pw_cell_below HB.out hx195_3
           replace hx195_4 := pw_cell_below HB.out hx195_4
           have HR195_2 := Aside0.mk hi195_2
           have HC195_2 := Aside0.mk hl195_2
           clear hi195_2 hl195_2
           replace p195 := eq_true p195
           replace q195 := eq_true q195
           try go_wp2
           have n0_ := Aside0.mk (dd_ BK193.out)
           have n1_ := Aside0.mk (b1_ HB.out)
           clear BK193
           clear HB
           have BK193 := n0_
           have HB := n1_
           clear n0_ n1_
           have p204 : 0 ≤ ((ji18) : Int) := dt_
           have q204 : (ji18) < (l0.length : Int) := dt_
           obtain ⟨ad204, A204_2, c204_2, e204, hx204_0, hx204_1, hx204_2, hx204_3, hx204_4, hl204_2, hi204_2⟩ := at_T87 HR0.out (ji18) p204 q204
           have hw204_4 := hx204_4
           have hw204_3 := hx204_3
           have hw204_2 := hx204_2
           have hw204_1 := hx204_1
           have hw204_0 := hx204_0
           obtain rfl : ad192 = ad204 := (by injection e204)
           replace hx204_0 := pw_cell_below HB.out hx204_0
           replace hx204_1 := pw_cell_below HB.out hx204_1
           replace hx204_2 := pw_cell_below HB.out hx204_2
           replace hx204_3 := pw_cell_below HB.out hx204_3
           replace hx204_4 := pw_cell_below HB.out hx204_4
           have HR204_2 := Aside0.mk hi204_2
           have HC204_2 := Aside0.mk hl204_2
           clear hi204_2 hl204_2
           replace p204 := eq_true p204
           replace q204 := eq_true q204
           refine start_ (n := 23) (S := fun w' => w'.cell? (ad192.add (((ji18)).toNat * 5)) = some (.int .i64 ((rd_T87 l0 (ji18)).f0)) ∧ w'.cell? ⟨(ad192.add (((ji18)).toNat * 5)).block, (ad192.add (((ji18)).toNat * 5)).off + 1, none⟩ = some (.string ((rd_T87 l0 (ji18)).f1)) ∧ w'.cell? ⟨(ad192.add (((ji18)).toNat * 5)).block, (ad192.add (((ji18)).toNat * 5)).off + 2, none⟩ = some (.slice A204_2 ((rd_T87 l0 (ji18)).f2).length c204_2) ∧ w'.cell? ⟨(ad192.add (((ji18)).toNat * 5)).block, (ad192.add (((ji18)).toNat * 5)).off + 3, none⟩ = some (.string ((rd_T87 l0 (ji18)).f3)) ∧ w'.cell? ⟨(ad192.add (((ji18)).toNat * 5)).block, (ad192.add (((ji18)).toNat * 5)).off + 4, none⟩ = some (.bool ((rd_T87 l0 (ji18)).f4))) (ds := []) q8_26 (by kernel_rfl) rfl rfl ⟨(pw_cell_below HB.out hw204_0), (pw_cell_below HB.out hw204_1), (pw_cell_below HB.out hw204_2), (pw_cell_below HB.out hw204_3), (pw_cell_below HB.out hw204_4)⟩ (fun hHeld => ?_); refine with_tabW spec_l5Held.tab9 spec_l5Held.bits9 (fun HT_ HW_ => ?_)
           generalize wc.drew = w60 at BK193 HB HR204_2 hx204_0 hx204_1 hx204_2 hx204_3 hx204_4 hHeld ⊢
           refine pu_ 0 66 q8_27 ?_
           refine pu_ 1 67 q8_28 ?_
           refine pu_ 2 68 q8_29 ?_
           refine pu_ 3 69 q8_30 ?_
           refine pu_ 4 70 q8_31 ?_
           refine pu_ 5 71 q8_32 ?_
           refine pu_ 6 72 q8_33 ?_
           refine pu_ 7 73 q8_34 ?_
           refine pu_ 8 74 q8_35 ?_
           refine tk_ 9 75 q8_36 hHeld ?_
           refine pu_ 10 76 q8_37 ?_
           refine pu_ 11 77 q8_38 ?_
           refine pv_ 12 78 q8_39 ?_
           refine pv_ 13 79 q8_40 ?_
           refine pv_ 14 80 q8_41 ?_
           refine pv_ 15 81 q8_42 ?_
           refine pv_ 16 82 q8_43 ?_
           refine pv_ 17 83 q8_44 ?_
           refine pv_ 18 84 q8_45 ?_
           refine pv_ 19 85 q8_46 ?_
           refine pu_ 20 86 q8_47 ?_
           refine pu_ 21 87 q8_48 ?_
           refine pu_ 22 4 q8_49 ?_
           refine done_ (done_of HT_.out (by kernel_rfl)) ?_
           try go_wp2
           go_ret
           exact ⟨by first | rfl | (simp [errW_none, errW_some] <;> rfl) | (simp only [← hji18]; first | rfl | (simp [errW_none, errW_some] <;> rfl)) | (simp [*, errW_none, errW_some] <;> rfl), hb_⟩
       ·rw [if_neg c20] at H
        exact absurd H (by simp)
      ·rw [if_neg c19] at H
       exact absurd H (by simp)
  ·rw [if_neg c4] at H
   exact absurd H (by simp)
 ·rw [if_neg c3] at H
  exact absurd H (by simp)
end Go.Proofs.Yteafgjebaedjbaa.PFnExactTokensOk
