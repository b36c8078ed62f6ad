-- Written by this session's program wip/slim.py out of the print's texts. Lean checks it.
import Derived.Test.YteafgjebaedjbaaSFnExactTokensOkx0
import Derived.Test.YteafgjebaedjbaaSFnExactTokensOkx7
namespace Go.Proofs.Yteafgjebaedjbaa.PFnExactTokensOk
open Go.RowKit Go.Proofs.YteafgjebaedjbaaW.PrintWords Go.Proofs.YteafgjebaedjbaaW.PrintLast Go.Proofs.YteafgjebaedjbaaW.PrintMore
def q8_0 : Array Bool := bz 25 0
def q8_1 : Array Bool := bz 25 1
def q8_2 : Array Bool := bz 25 3
def q8_3 : Array Bool := bz 25 7
def q8_4 : Array Bool := bz 25 15
def q8_5 : Array Bool := bz 25 31
def q8_6 : Array Bool := bz 25 63
def q8_7 : Array Bool := bz 25 127
def q8_8 : Array Bool := bz 25 255
def q8_9 : Array Bool := bz 25 511
def q8_10 : Array Bool := bz 25 1023
def q8_11 : Array Bool := bz 25 2047
def q8_12 : Array Bool := bz 25 4095
def q8_13 : Array Bool := bz 25 8191
def q8_14 : Array Bool := bz 25 16383
def q8_15 : Array Bool := bz 25 32767
def q8_16 : Array Bool := bz 25 65535
def q8_17 : Array Bool := bz 25 131071
def q8_18 : Array Bool := bz 25 262143
def q8_19 : Array Bool := bz 25 524287
def q8_20 : Array Bool := bz 25 1048575
def q8_21 : Array Bool := bz 25 2097151
def q8_22 : Array Bool := bz 25 4194303
def q8_23 : Array Bool := bz 25 8388607
def q8_24 : Array Bool := bz 25 16777215
def q8_25 : Array Bool := bz 25 33554431
def q8_26 : Array Bool := bz 25 1279
def q8_27 : Array Bool := bz 25 17663
def q8_28 : Array Bool := bz 25 148735
def q8_29 : Array Bool := bz 25 410879
def q8_30 : Array Bool := bz 25 935167
def q8_31 : Array Bool := bz 25 1983743
def q8_32 : Array Bool := bz 25 1983999
def q8_33 : Array Bool := bz 25 1984511
def q8_34 : Array Bool := bz 25 1986559
def q8_35 : Array Bool := bz 25 1990655
def q8_36 : Array Bool := bz 25 1998847
def q8_37 : Array Bool := bz 25 2031615
def q8_38 : Array Bool := bz 25 4128767
def q8_39 : Array Bool := bz 25 8323071
def q8_40 : Array Bool := bz 23 0
def q8_41 : Array Bool := bz 23 1
def q8_42 : Array Bool := bz 23 3
def q8_43 : Array Bool := bz 23 7
def q8_44 : Array Bool := bz 23 15
def q8_45 : Array Bool := bz 23 31
def q8_46 : Array Bool := bz 23 63
def q8_47 : Array Bool := bz 23 127
def q8_48 : Array Bool := bz 23 255
def q8_49 : Array Bool := bz 23 511
def q8_50 : Array Bool := bz 23 1023
def q8_51 : Array Bool := bz 23 2047
def q8_52 : Array Bool := bz 23 4095
def q8_53 : Array Bool := bz 23 8191
def q8_54 : Array Bool := bz 23 16383
def q8_55 : Array Bool := bz 23 32767
def q8_56 : Array Bool := bz 23 65535
def q8_57 : Array Bool := bz 23 131071
def q8_58 : Array Bool := bz 23 262143
def q8_59 : Array Bool := bz 23 524287
def q8_60 : Array Bool := bz 23 1048575
def q8_61 : Array Bool := bz 23 2097151
def q8_62 : Array Bool := bz 23 4194303
def q8_63 : Array Bool := bz 23 8388607
def q8_64 : Array Bool := bz 23 196607
attribute [local go_sem] max2_int min2_int max_two min_two max_three min_three max_four min_four
set_option linter.unusedVariables false
set_option linter.unusedSimpArgs false
def spec_l5Held.j0 : Nat → List (S87) → Int → Bool → Int → ByteArray → List (S117) → ByteArray → Bool → Option (Bool)
 | 0, _, _, _, _, _, _, _, _ => none
 | k + 1, x0, x1, x30, x194000, x194001, x194002, x194003, x194004 => if x30 = true then (some true) else (if 0 ≤ (wrap64 (x1 + 1)) then (if (wrap64 (x1 + 1)) < (x0.length : Int) then (if ((rd_T87 x0 (wrap64 (x1 + 1))).f0) = 1 then ((spec_l5Bare.f x0 (wrap64 (x1 + 1))).bind fun t196 => (if t196 = true then (if ((rd_T87 x0 (wrap64 (x1 + 1))).f3).size + 2 ≤ 9223372036854775807 then (if ((rd_T87 x0 (wrap64 (x1 + 1))).f3).size + 2 + x194001.size ≤ 9223372036854775807 then (if ((rd_T87 x0 (wrap64 (x1 + 1))).f3).size + 2 + x194001.size + 1 ≤ 9223372036854775807 then ((spec_RawEnd.f k (((((rd_T87 x0 (wrap64 (x1 + 1))).f3) ++ (⟨#[60, 47]⟩ : ByteArray)) ++ x194001) ++ (⟨#[62]⟩ : ByteArray)) 0 x194001).bind fun t198 => (if t198 = (((rd_T87 x0 (wrap64 (x1 + 1))).f3).size : Int) then (if (wrap64 ((wrap64 (x1 + 1)) + 1)) = (x0.length : Int) then (some true) else (if 0 ≤ (wrap64 ((wrap64 (x1 + 1)) + 1)) then (if (wrap64 ((wrap64 (x1 + 1)) + 1)) < (x0.length : Int) then (if ((rd_T87 x0 (wrap64 ((wrap64 (x1 + 1)) + 1))).f0) = 3 then (some (((rd_T87 x0 (wrap64 ((wrap64 (x1 + 1)) + 1))).f1).toList == x194001.toList)) else (some false)) else (none)) else (none))) else (some false))) else (none)) else (none)) else (none)) else (if (wrap64 ((wrap64 (x1 + 1)) + 1)) = (x0.length : Int) then (some true) else (if 0 ≤ (wrap64 ((wrap64 (x1 + 1)) + 1)) then (if (wrap64 ((wrap64 (x1 + 1)) + 1)) < (x0.length : Int) then (if ((rd_T87 x0 (wrap64 ((wrap64 (x1 + 1)) + 1))).f0) = 3 then (some (((rd_T87 x0 (wrap64 ((wrap64 (x1 + 1)) + 1))).f1).toList == x194001.toList)) else (some false)) else (none)) else (none))))) else (if (wrap64 (x1 + 1)) = (x0.length : Int) then (some true) else (if ((rd_T87 x0 (wrap64 (x1 + 1))).f0) = 3 then (some (((rd_T87 x0 (wrap64 (x1 + 1))).f1).toList == x194001.toList)) else (some false)))) else (none)) else (none))
def spec_l5Held.f (k : Nat) (l0 : List (S87)) (a1 : Int) : Option (Bool) := if 0 ≤ a1 then (if a1 < (l0.length : Int) then (if ((rd_T87 l0 a1).f0) = 2 then (if (rd_T87 l0 a1).f4 = true then (spec_l5Held.j0 k l0 a1 true ((rd_T87 l0 a1).f0) ((rd_T87 l0 a1).f1) ((rd_T87 l0 a1).f2) ((rd_T87 l0 a1).f3) ((rd_T87 l0 a1).f4)) else ((spec_Raw.f ((rd_T87 l0 a1).f1)).bind fun t194 => (if t194 = true then (spec_l5Held.j0 k l0 a1 ((wrap64 (a1 + 1)) == (l0.length : Int)) ((rd_T87 l0 a1).f0) ((rd_T87 l0 a1).f1) ((rd_T87 l0 a1).f2) ((rd_T87 l0 a1).f3) ((rd_T87 l0 a1).f4)) else (spec_l5Held.j0 k l0 a1 true ((rd_T87 l0 a1).f0) ((rd_T87 l0 a1).f1) ((rd_T87 l0 a1).f2) ((rd_T87 l0 a1).f3) ((rd_T87 l0 a1).f4))))) else (spec_l5Held.j0 k l0 a1 true ((rd_T87 l0 a1).f0) ((rd_T87 l0 a1).f1) ((rd_T87 l0 a1).f2) ((rd_T87 l0 a1).f3) ((rd_T87 l0 a1).f4))) else (none)) else (none)
theorem spec_l5Held.mono_l : ∀ k, (∀ y0 y1 y2 y3 y4 y5 y6 y7, LeO (spec_l5Held.j0 k y0 y1 y2 y3 y4 y5 y6 y7) (spec_l5Held.j0 (k + 1) y0 y1 y2 y3 y4 y5 y6 y7))
 | 0 => fun _ _ _ _ _ _ _ _ r h => by simp [spec_l5Held.j0] at h
 | k + 1 => by
  have ih0 := spec_l5Held.mono_l k
  ·intro y0 y1 y2 y3 y4 y5 y6 y7
   unfold spec_l5Held.j0
   repeat' first
   | (with_reducible exact ih0 _ _ _ _ _ _ _ _)
   | (with_reducible exact spec_RawEnd.mono _ _ _ _)
   | (with_reducible exact LeO.refl _)
   | (with_reducible exact LeO.none _)
   | (with_reducible refine LeO.ite ?_ ?_)
   | (with_reducible refine LeO.bind ?_ (fun _ => ?_))
theorem spec_l5Held.mono : ∀ a0 a1 k, LeO (spec_l5Held.f k a0 a1) (spec_l5Held.f (k + 1) a0 a1) := by
 intro a0 a1 k
 have ih0 := spec_l5Held.mono_l k
 unfold spec_l5Held.f
 repeat' first
   | (with_reducible exact ih0 _ _ _ _ _ _ _ _)
   | (with_reducible exact spec_RawEnd.mono _ _ _ _)
   | (with_reducible exact LeO.refl _)
   | (with_reducible exact LeO.none _)
   | (with_reducible refine LeO.ite ?_ ?_)
   | (with_reducible refine LeO.bind ?_ (fun _ => ?_))
def IsTk (W : World) (g : Nat) (x : S87) (v2 : Value) : Prop := W.heap[g]? = some (.cells #[.int .i64 x.f0, .string x.f1, v2, .string x.f3, .bool x.f4] 87 (0, 0))
section
variable {W W1 : World} {g : Nat} {x : S87} {v2 : Value}
theorem IsTk.below (h : IsTk W g x v2) (hb : Below W.heap.size W W1) : IsTk W1 g x v2 := blk_below h hb
theorem IsTk.x0 (h : IsTk W g x v2) : W.cell? ⟨g, 0, none⟩ = some (.int .i64 x.f0) := (bc_ h 0).trans rfl
theorem IsTk.x1 (h : IsTk W g x v2) : W.cell? ⟨g, 1, none⟩ = some (.string x.f1) := (bc_ h 1).trans rfl
theorem IsTk.x4 (h : IsTk W g x v2) : W.cell? ⟨g, 4, none⟩ = some (.bool x.f4) := (bc_ h 4).trans rfl
end
theorem drawn_belowH {w w' : World} (h : Drawn0 w w') : Below w.heap.size w w' := by
 obtain ⟨n, rfl⟩ := h
 exact bn_ (Below.refl _ _) n
def heldEnd (l : List (S87)) (kk : Int) (nm : ByteArray) : Option Bool := if kk = (l.length : Int) then some true else (if 0 ≤ kk then (if kk < (l.length : Int) then (if (rd_T87 l kk).f0 = 3 then some ((rd_T87 l kk).f1.toList == nm.toList) else some false) else none) else none)
set_option maxHeartbeats 8000000 in
set_option maxRecDepth 100000 in
theorem spec_l5Held.calls (k : Nat) (A0 : Option Addr) (c0 : Nat) (l0 : List (S87)) (a1 : Int) (r : Bool) (w : World) (hr0 : Kd.C k87 w A0 l0.length l0) (hc0 : l0.length ≤ c0) (h : spec_l5Held.f k l0 a1 = some r) :
  Calls Try.prog 92 #[.slice A0 l0.length c0, .int .i64 a1] w fun e w' => e = .returned (.bool r) ∧ Below w.heap.size w w' := by
 have hu1 := Try.underlying87
 have HLE := Aside0.mk hr0.2.1
 unfold spec_l5Held.f at h
 by_cases ca : 0 ≤ a1
 rotate_left
 ·rw [if_neg ca] at h; exact absurd h (by simp)
 rw [if_pos ca] at h
 by_cases cb : a1 < (l0.length : Int)
 rotate_left
 ·rw [if_neg cb] at h; exact absurd h (by simp)
 rw [if_pos cb] at h
 obtain ⟨ad, A2, c2, ea, y0, y1, y2, y3, y4, hl2, hg2⟩ := at_T87 hr0 a1 ca cb
 subst ea
 have HR0 := Aside0.mk hr0
 have HC0 := Aside0.mk hc0
 obtain ⟨k1, hk1⟩ : ∃ k1, wrap64 (a1 + 1) = k1 := ⟨_, rfl⟩
 have HK1 := Aside0.mk (show k1 = a1 + 1 by have := HLE.out; rw [← hk1]; unfold wrap64; omega)
 obtain ⟨X, hX⟩ : ∃ X, rd_T87 l0 a1 = X := ⟨_, rfl⟩
 rw [hX, hk1] at h
 rw [hX] at y0 y1 y2 y3 y4 hl2
 have p0 : ((0 : Int) ≤ a1) = True := eq_true ca
 have p1 : (a1 < (l0.length : Int)) = True := eq_true cb
 clear hr0 hc0 hX hl2 hg2 ca cb
 by_cases c : X.f0 = 2
 rotate_left
 ·rw [if_neg c] at h
  have e0 : (X.f0 != 2) = true := bne_iff_ne.mpr c
  have e1 : (X.f0 == 2) = false := beq_eq_false_iff_ne.mpr c
  clear c
  cases k with
  | zero => exact absurd h (by simp [spec_l5Held.j0])
  | succ k0 =>
   simp only [spec_l5Held.j0, if_true] at h
   obtain rfl := Option.some.inj h
   clear h
   go_enter Try.func92, Try.ntmps92
   go_wp2_with ((with_reducible refine gate_store (t := 87) (p := 5) rfl ?_); refine store_event (t := 87) (p := 5) (v := ?vo5_a) (w1 := ?w15_a) ?hg ?ho ?hn ?hr ?_; (case ho => rfl); (case hg => rfl); (case hn => rfl); (case hr => go_simp; rfl); intro w1 hw_; have B := Aside0.mk (show Below w.heap.size w w1 by rw [hw_]; exact (Below.refl w.heap.size w).alloc (Nat.le_refl _) _); have I := Aside0.mk (show IsTk w1 w.heap.size X (.slice A2 X.f2.length c2) by rw [hw_]; exact blk_new _ _); clear hw_ y0 y1 y2 y3 y4; have z0 := IsTk.x0 I.out; have z1 := IsTk.x1 I.out; have z4 := IsTk.x4 I.out; (try rw [HC4.out] at z4))
   go_ret
   exact ⟨by first | rfl | (simp; done), B.out⟩
 rw [if_pos c] at h
 have e0 : (X.f0 != 2) = false := bne_eq_false_iff_eq.mpr c
 have e1 : (X.f0 == 2) = true := beq_iff_eq.mpr c
 clear c
 by_cases c : X.f4 = true
 ·rw [if_pos c] at h
  have HC4 := Aside0.mk c
  clear c
  cases k with
  | zero => exact absurd h (by simp [spec_l5Held.j0])
  | succ k0 =>
   simp only [spec_l5Held.j0, if_true] at h
   obtain rfl := Option.some.inj h
   clear h
   go_enter Try.func92, Try.ntmps92
   go_wp2_with ((with_reducible refine gate_store (t := 87) (p := 5) rfl ?_); refine store_event (t := 87) (p := 5) (v := ?vo5_b) (w1 := ?w15_b) ?hg ?ho ?hn ?hr ?_; (case ho => rfl); (case hg => rfl); (case hn => rfl); (case hr => go_simp; rfl); intro w1 hw_; have B := Aside0.mk (show Below w.heap.size w w1 by rw [hw_]; exact (Below.refl w.heap.size w).alloc (Nat.le_refl _) _); have I := Aside0.mk (show IsTk w1 w.heap.size X (.slice A2 X.f2.length c2) by rw [hw_]; exact blk_new _ _); clear hw_ y0 y1 y2 y3 y4; have z0 := IsTk.x0 I.out; have z1 := IsTk.x1 I.out; have z4 := IsTk.x4 I.out; (try rw [HC4.out] at z4))
   go_ret
   exact ⟨by first | rfl | (simp; done), B.out⟩
 rw [if_neg c] at h
 have HC4 := Aside0.mk (Bool.eq_false_iff.mpr c)
 clear c
 obtain ⟨tr, hrw, h1⟩ := Option.bind_eq_some_iff.mp h
 have HRW := Aside0.mk hrw
 clear h hrw
 cases tr with
 | false =>
  rw [if_neg (by decide)] at h1
  have h := h1
  clear h1
  cases k with
  | zero => exact absurd h (by simp [spec_l5Held.j0])
  | succ k0 =>
   simp only [spec_l5Held.j0, if_true] at h
   obtain rfl := Option.some.inj h
   clear h
   go_enter Try.func92, Try.ntmps92
   go_wp2_with (first | ((with_reducible refine gate_store (t := 87) (p := 5) rfl ?_); refine store_event (t := 87) (p := 5) (v := ?vo5_c) (w1 := ?w15_c) ?hg ?ho ?hn ?hr ?_; (case ho => rfl); (case hg => rfl); (case hn => rfl); (case hr => go_simp; rfl); intro w1 hw_; have B := Aside0.mk (show Below w.heap.size w w1 by rw [hw_]; exact (Below.refl w.heap.size w).alloc (Nat.le_refl _) _); have I := Aside0.mk (show IsTk w1 w.heap.size X (.slice A2 X.f2.length c2) by rw [hw_]; exact blk_new _ _); clear hw_ y0 y1 y2 y3 y4; have z0 := IsTk.x0 I.out; have z1 := IsTk.x1 I.out; have z4 := IsTk.x4 I.out; (try rw [HC4.out] at z4)) | (go_at_call 121; (with_reducible refine (spec_Raw.calls X.f1 _ _ HRW.out).mono ?_); rintro e w2 ⟨rfl, hd_⟩; have hb := drawn_belowH hd_; clear hd_ z0 z1 z4; have n0_ := Aside0.mk (IsTk.below I.out hb); have n1_ := Aside0.mk (below_then B.out B.out.size hb); clear I B hb; have I := n0_; have B := n1_; clear n0_ n1_))
   go_ret
   exact ⟨by first | rfl | (simp; done), B.out⟩
 | true =>
  rw [if_pos rfl] at h1
  have h := h1
  clear h1
  by_cases ce : k1 = (l0.length : Int)
  ·have e2 : (k1 == (l0.length : Int)) = true := beq_iff_eq.mpr ce
   rw [e2] at h
   clear ce
   cases k with
   | zero => exact absurd h (by simp [spec_l5Held.j0])
   | succ k0 =>
    simp only [spec_l5Held.j0, if_true] at h
    obtain rfl := Option.some.inj h
    clear h
    go_enter Try.func92, Try.ntmps92
    go_wp2_with (first | ((with_reducible refine gate_store (t := 87) (p := 5) rfl ?_); refine store_event (t := 87) (p := 5) (v := ?vo5_d) (w1 := ?w15_d) ?hg ?ho ?hn ?hr ?_; (case ho => rfl); (case hg => rfl); (case hn => rfl); (case hr => go_simp; rfl); intro w1 hw_; have B := Aside0.mk (show Below w.heap.size w w1 by rw [hw_]; exact (Below.refl w.heap.size w).alloc (Nat.le_refl _) _); have I := Aside0.mk (show IsTk w1 w.heap.size X (.slice A2 X.f2.length c2) by rw [hw_]; exact blk_new _ _); clear hw_ y0 y1 y2 y3 y4; have z0 := IsTk.x0 I.out; have z1 := IsTk.x1 I.out; have z4 := IsTk.x4 I.out; (try rw [HC4.out] at z4)) | (go_at_call 121; (with_reducible refine (spec_Raw.calls X.f1 _ _ HRW.out).mono ?_); rintro e w2 ⟨rfl, hd_⟩; have hb := drawn_belowH hd_; clear hd_ z0 z1 z4; have n0_ := Aside0.mk (IsTk.below I.out hb); have n1_ := Aside0.mk (below_then B.out B.out.size hb); clear I B hb; have I := n0_; have B := n1_; clear n0_ n1_))
    go_ret
    exact ⟨by first | rfl | (simp; done), B.out⟩
  have e2 : (k1 == (l0.length : Int)) = false := beq_eq_false_iff_ne.mpr ce
  rw [e2] at h
  clear ce
  cases k with
  | zero => exact absurd h (by simp [spec_l5Held.j0])
  | succ k0 =>
   simp only [spec_l5Held.j0, Bool.false_eq_true, if_false] at h
   rw [hk1] at h
   obtain ⟨k2, hk2⟩ : ∃ k2, wrap64 (k1 + 1) = k2 := ⟨_, rfl⟩
   obtain ⟨Y, hY⟩ : ∃ Y, rd_T87 l0 k1 = Y := ⟨_, rfl⟩
   rw [hk2, hY] at h
   by_cases ca : 0 ≤ k1
   rotate_left
   ·rw [if_neg ca] at h; exact absurd h (by simp)
   rw [if_pos ca] at h
   by_cases cb : k1 < (l0.length : Int)
   rotate_left
   ·rw [if_neg cb] at h; exact absurd h (by simp)
   rw [if_pos cb] at h
   obtain ⟨ad_, A4_, c4_, ea, x0, _, _, x3, _, _, _⟩ := at_T87 HR0.out k1 ca cb
   obtain rfl := Option.some.inj ea
   rw [hY] at x0 x3
   have HY0 := Aside0.mk x0
   have HY3 := Aside0.mk x3
   have p2 : ((0 : Int) ≤ k1) = True := eq_true ca
   have p3 : (k1 < (l0.length : Int)) = True := eq_true cb
   have HFE := Aside0.mk (show ∀ b, (if k1 = (l0.length : Int) then some true else (if Y.f0 = 3 then some (Y.f1.toList == X.f1.toList) else some false)) = some b → heldEnd l0 k1 X.f1 = some b from fun b hb => by unfold heldEnd; rw [if_pos ca, if_pos cb, hY]; exact hb)
   have H := Aside0.mk h
   clear ca cb x0 x3 ea h hY
   go_enter Try.func92, Try.ntmps92
   go_upto_if 38 with (first | ((with_reducible refine gate_store (t := 87) (p := 5) rfl ?_); refine store_event (t := 87) (p := 5) (v := ?vo5_e) (w1 := ?w15_e) ?hg ?ho ?hn ?hr ?_; (case ho => rfl); (case hg => rfl); (case hn => rfl); (case hr => go_simp; rfl); intro w1 hw_; have B := Aside0.mk (show Below w.heap.size w w1 by rw [hw_]; exact (Below.refl w.heap.size w).alloc (Nat.le_refl _) _); have I := Aside0.mk (show IsTk w1 w.heap.size X (.slice A2 X.f2.length c2) by rw [hw_]; exact blk_new _ _); clear hw_ y0 y1 y2 y3 y4; have z0 := IsTk.x0 I.out; have z1 := IsTk.x1 I.out; have z4 := IsTk.x4 I.out; (try rw [HC4.out] at z4)) | (go_at_call 121; (with_reducible refine (spec_Raw.calls X.f1 _ _ HRW.out).mono ?_); rintro e w2 ⟨rfl, hd_⟩; have hb := drawn_belowH hd_; clear hd_ z0 z1 z4; have n0_ := Aside0.mk (IsTk.below I.out hb); have n1_ := Aside0.mk (below_then B.out B.out.size hb); clear I B hb; have I := n0_; have B := n1_; clear n0_ n1_; have y0 := pw_cell_below B.out HY0.out))
   go_cut [6] from 7 (fun v6 wc => ∃ kk : Int, v6 = .int .i64 kk ∧ Aside0 (heldEnd l0 kk X.f1 = some r) ∧ Aside0 (IsTk wc w.heap.size X (.slice A2 X.f2.length c2)) ∧ Aside0 (Below w.heap.size w wc))
   case first =>
    clear e0 e1 e2 y0
    have h := H.out
    clear H
    by_cases c : Y.f0 = 1
    rotate_left
    ·rw [if_neg c] at h
     have e3 : (Y.f0 == 1) = false := beq_eq_false_iff_ne.mpr c
     clear c
     rw [e3]
     go_wp2
     go_meet
     case rel => exact ⟨k1, by first | rfl | (simp [hk1]; done), ⟨HFE.out r h⟩, I, B⟩
    rw [if_pos c] at h
    have e3 : (Y.f0 == 1) = true := beq_iff_eq.mpr c
    clear c
    rw [e3]
    obtain ⟨tb, hbr, h1⟩ := Option.bind_eq_some_iff.mp h
    have HBR := Aside0.mk hbr
    clear h hbr
    cases tb with
    | false =>
     rw [if_neg (by decide)] at h1
     go_wp2
     have hb := b1_ (Below.refl w2.heap.size w2)
     have n0_ := Aside0.mk (IsTk.below I.out hb)
     have n1_ := Aside0.mk (below_then B.out B.out.size hb)
     clear I B hb
     have I := n0_
     have B := n1_
     clear n0_ n1_
     refine start_ (n := 25) (S := fun w' => w'.cell? ⟨(ad.add (k1.toNat * 5)).block, (ad.add (k1.toNat * 5)).off + 3, none⟩ = some (.string Y.f3) ∧ w'.cell? ⟨w.heap.size, 1, none⟩ = some (.string X.f1)) (ds := []) q8_0 (by kernel_rfl) rfl rfl ⟨pw_cell_below B.out HY3.out, IsTk.x1 I.out⟩ (fun hHeld => ?_)
     generalize w2.drew = w3 at I B hHeld ⊢
     refine pure_ (i := 0) (N := some 39) (v := ?_) (a' := ?_) q8_1 rfl rfl (by kernel_rfl) (fun _ _ _ h => h) (Or.inl ⟨by rfl, ?_⟩) ?_ ?_
     rotate_left;(intro w';go_simp;with_reducible rfl);rotate_left;(simp only [Act.put, sa_, sz_, ss_, i64_w, i32_w];rfl)
     refine pure_ (i := 1) (N := some 40) (v := ?_) (a' := ?_) q8_2 rfl rfl (by kernel_rfl) (fun _ _ _ h => h) (Or.inl ⟨by rfl, ?_⟩) ?_ ?_
     rotate_left;(intro w';go_simp;with_reducible rfl);rotate_left;(simp only [Act.put, sa_, sz_, ss_, i64_w, i32_w];rfl)
     refine one_ (i := 2) (N := some 41) q8_3 rfl rfl (by kernel_rfl) (by decide) (fun K hK => ?_)
     refine goes_ Try.func122 (by kernel_rfl) rfl #[.slice (some ad) l0.length c0, .int .i64 k1] (by rfl) rfl rfl (by (try simp only [List.map_toArray, List.map_cons, List.map_nil]); first | done | rfl | (simp only [List.length_drop, List.length_take]; rfl)) ?_
     refine (spec_l5Bare.calls (some ad) c0 l0 k1 false _ (Kd.C_below HR0.out B.out) HC0.out HBR.out).mono ?_
     rintro e w4 ⟨rfl, hd_⟩
     refine ⟨_, rfl, ?_⟩
     have hb := drawn_belowH hd_
     clear hd_
     have n0_ := Aside0.mk (IsTk.below I.out hb)
     have n1_ := Aside0.mk (below_then B.out B.out.size hb)
     clear I B hb
     have I := n0_
     have B := n1_
     clear n0_ n1_
     refine hK.out _ _ ⟨pw_cell_below B.out HY3.out, IsTk.x1 I.out⟩ (fun hHeld => ?_)
     clear hK K
     refine norm_ (a' := ?_) ?_ ?_
     rotate_left
     ·show Act.put _ (some 41) _ = _
      simp only [Act.put, sa_, sz_, ss_, i64_w, i32_w]
      rfl
     refine pure_ (i := 3) (N := some 42) (v := ?_) (a' := ?_) q8_4 rfl rfl (by kernel_rfl) (fun _ _ _ h => h) (Or.inl ⟨by rfl, ?_⟩) ?_ ?_
     rotate_left;(intro w';go_simp;with_reducible rfl);rotate_left;(simp only [Act.put, sa_, sz_, ss_, i64_w, i32_w];rfl)
     refine pure_ (i := 4) (N := some 43) (v := undef) (a' := ?_) q8_5 rfl rfl (by kernel_rfl) (fun _ _ _ h => h) (Or.inr ⟨by rfl, rfl⟩) ?_ ?_
     rotate_left
     ·simp only [Act.put, sa_, sz_, ss_, i64_w, i32_w]
      rfl
     refine pure_ (i := 5) (N := some 44) (v := undef) (a' := ?_) q8_6 rfl rfl (by kernel_rfl) (fun _ _ _ h => h) (Or.inr ⟨by rfl, rfl⟩) ?_ ?_
     rotate_left
     ·simp only [Act.put, sa_, sz_, ss_, i64_w, i32_w]
      rfl
     refine pure_ (i := 6) (N := some 45) (v := undef) (a' := ?_) q8_7 rfl rfl (by kernel_rfl) (fun _ _ _ h => h) (Or.inr ⟨by rfl, rfl⟩) ?_ ?_
     rotate_left
     ·simp only [Act.put, sa_, sz_, ss_, i64_w, i32_w]
      rfl
     refine pure_ (i := 7) (N := some 46) (v := undef) (a' := ?_) q8_8 rfl rfl (by kernel_rfl) (fun _ _ _ h => h) (Or.inr ⟨by rfl, rfl⟩) ?_ ?_
     rotate_left
     ·simp only [Act.put, sa_, sz_, ss_, i64_w, i32_w]
      rfl
     refine pure_ (i := 8) (N := some 47) (v := undef) (a' := ?_) q8_9 rfl rfl (by kernel_rfl) (fun _ _ _ h => h) (Or.inr ⟨by rfl, rfl⟩) ?_ ?_
     rotate_left
     ·simp only [Act.put, sa_, sz_, ss_, i64_w, i32_w]
      rfl
     refine pure_ (i := 9) (N := some 48) (v := undef) (a' := ?_) q8_10 rfl rfl (by kernel_rfl) (fun _ _ _ h => h) (Or.inr ⟨by rfl, rfl⟩) ?_ ?_
     rotate_left
     ·simp only [Act.put, sa_, sz_, ss_, i64_w, i32_w]
      rfl
     refine pure_ (i := 10) (N := some 49) (v := undef) (a' := ?_) q8_11 rfl rfl (by kernel_rfl) (fun _ _ _ h => h) (Or.inr ⟨by rfl, rfl⟩) ?_ ?_
     rotate_left
     ·simp only [Act.put, sa_, sz_, ss_, i64_w, i32_w]
      rfl
     refine pure_ (i := 11) (N := some 50) (v := undef) (a' := ?_) q8_12 rfl rfl (by kernel_rfl) (fun _ _ _ h => h) (Or.inr ⟨by rfl, rfl⟩) ?_ ?_
     rotate_left
     ·simp only [Act.put, sa_, sz_, ss_, i64_w, i32_w]
      rfl
     refine pure_ (i := 12) (N := some 51) (v := undef) (a' := ?_) q8_13 rfl rfl (by kernel_rfl) (fun _ _ _ h => h) (Or.inr ⟨by rfl, rfl⟩) ?_ ?_
     rotate_left
     ·simp only [Act.put, sa_, sz_, ss_, i64_w, i32_w]
      rfl
     refine pure_ (i := 13) (N := some 52) (v := undef) (a' := ?_) q8_14 rfl rfl (by kernel_rfl) (fun _ _ _ h => h) (Or.inr ⟨by rfl, rfl⟩) ?_ ?_
     rotate_left
     ·simp only [Act.put, sa_, sz_, ss_, i64_w, i32_w]
      rfl
     refine pure_ (i := 14) (N := some 53) (v := undef) (a' := ?_) q8_15 rfl rfl (by kernel_rfl) (fun _ _ _ h => h) (Or.inr ⟨by rfl, rfl⟩) ?_ ?_
     rotate_left
     ·simp only [Act.put, sa_, sz_, ss_, i64_w, i32_w]
      rfl
     refine pure_ (i := 15) (N := some 54) (v := undef) (a' := ?_) q8_16 rfl rfl (by kernel_rfl) (fun _ _ _ h => h) (Or.inr ⟨by rfl, rfl⟩) ?_ ?_
     rotate_left
     ·simp only [Act.put, sa_, sz_, ss_, i64_w, i32_w]
      rfl
     refine pure_ (i := 16) (N := some 55) (v := undef) (a' := ?_) q8_17 rfl rfl (by kernel_rfl) (fun _ _ _ h => h) (Or.inr ⟨by rfl, rfl⟩) ?_ ?_
     rotate_left
     ·simp only [Act.put, sa_, sz_, ss_, i64_w, i32_w]
      rfl
     refine pure_ (i := 17) (N := some 56) (v := undef) (a' := ?_) q8_18 rfl rfl (by kernel_rfl) (fun _ _ _ h => h) (Or.inr ⟨by rfl, rfl⟩) ?_ ?_
     rotate_left
     ·simp only [Act.put, sa_, sz_, ss_, i64_w, i32_w]
      rfl
     refine pure_ (i := 18) (N := some 57) (v := undef) (a' := ?_) q8_19 rfl rfl (by kernel_rfl) (fun _ _ _ h => h) (Or.inr ⟨by rfl, rfl⟩) ?_ ?_
     rotate_left
     ·simp only [Act.put, sa_, sz_, ss_, i64_w, i32_w]
      rfl
     refine pure_ (i := 19) (N := some 58) (v := undef) (a' := ?_) q8_20 rfl rfl (by kernel_rfl) (fun _ _ _ h => h) (Or.inr ⟨by rfl, rfl⟩) ?_ ?_
     rotate_left
     ·simp only [Act.put, sa_, sz_, ss_, i64_w, i32_w]
      rfl
     refine pure_ (i := 20) (N := some 59) (v := undef) (a' := ?_) q8_21 rfl rfl (by kernel_rfl) (fun _ _ _ h => h) (Or.inr ⟨by rfl, rfl⟩) ?_ ?_
     rotate_left
     ·simp only [Act.put, sa_, sz_, ss_, i64_w, i32_w]
      rfl
     refine pure_ (i := 21) (N := some 60) (v := undef) (a' := ?_) q8_22 rfl rfl (by kernel_rfl) (fun _ _ _ h => h) (Or.inr ⟨by rfl, rfl⟩) ?_ ?_
     rotate_left
     ·simp only [Act.put, sa_, sz_, ss_, i64_w, i32_w]
      rfl
     refine pure_ (i := 22) (N := some 61) (v := undef) (a' := ?_) q8_23 rfl rfl (by kernel_rfl) (fun _ _ _ h => h) (Or.inr ⟨by rfl, rfl⟩) ?_ ?_
     rotate_left
     ·simp only [Act.put, sa_, sz_, ss_, i64_w, i32_w]
      rfl
     refine pure_ (i := 23) (N := some 62) (v := undef) (a' := ?_) q8_24 rfl rfl (by kernel_rfl) (fun _ _ _ h => h) (Or.inr ⟨by rfl, rfl⟩) ?_ ?_
     rotate_left
     ·simp only [Act.put, sa_, sz_, ss_, i64_w, i32_w]
      rfl
     refine pure_ (i := 24) (N := some 63) (v := ?_) (a' := ?_) q8_25 rfl rfl (by kernel_rfl) (fun _ _ _ h => h) (Or.inl ⟨by rfl, ?_⟩) ?_ ?_
     rotate_left;(intro w';go_simp;with_reducible rfl);rotate_left;(simp only [Act.put, sa_, sz_, ss_, i64_w, i32_w];rfl)
     refine done_ (by kernel_rfl) ?_
     clear hHeld
     go_wp2
     go_meet
     case rel => exact ⟨k2, by first | rfl | (simp [hk1, hk2]; done), ⟨h1⟩, I, B⟩
    | true =>
     rw [if_pos rfl] at h1
     by_cases s1 : Y.f3.size + 2 ≤ 9223372036854775807
     rotate_left
     ·rw [if_neg s1] at h1; exact absurd h1 (by simp)
     rw [if_pos s1] at h1
     by_cases s2 : Y.f3.size + 2 + X.f1.size ≤ 9223372036854775807
     rotate_left
     ·rw [if_neg s2] at h1; exact absurd h1 (by simp)
     rw [if_pos s2] at h1
     by_cases s3 : Y.f3.size + 2 + X.f1.size + 1 ≤ 9223372036854775807
     rotate_left
     ·rw [if_neg s3] at h1; exact absurd h1 (by simp)
     rw [if_pos s3] at h1
     have u1 : decide (Y.f3.size + 2 ≤ 9223372036854775807) = true := decide_eq_true s1
     have u2 : (9223372036854775807 < Y.f3.size + 2) = False := eq_false (Nat.not_lt.2 s1)
     have u3 : decide (Y.f3.size + 2 + X.f1.size ≤ 9223372036854775807) = true := decide_eq_true s2
     have u4 : (9223372036854775807 < Y.f3.size + 2 + X.f1.size) = False := eq_false (Nat.not_lt.2 s2)
     have u5 : decide (Y.f3.size + 2 + X.f1.size + 1 ≤ 9223372036854775807) = true := decide_eq_true s3
     have u6 : (9223372036854775807 < Y.f3.size + 2 + X.f1.size + 1) = False := eq_false (Nat.not_lt.2 s3)
     obtain ⟨q, hre, h⟩ := Option.bind_eq_some_iff.mp h1
     have HRE := Aside0.mk hre
     clear h1 hre s1 s2 s3
     obtain ⟨bq, hbq⟩ : ∃ bq, (q != (Y.f3.size : Int)) = bq := ⟨_, rfl⟩
     go_wp2
     have hb := b1_ (Below.refl w2.heap.size w2)
     have n0_ := Aside0.mk (IsTk.below I.out hb)
     have n1_ := Aside0.mk (below_then B.out B.out.size hb)
     clear I B hb
     have I := n0_
     have B := n1_
     clear n0_ n1_
     refine start_ (n := 25) (S := fun w' => w'.cell? ⟨(ad.add (k1.toNat * 5)).block, (ad.add (k1.toNat * 5)).off + 3, none⟩ = some (.string Y.f3) ∧ w'.cell? ⟨w.heap.size, 1, none⟩ = some (.string X.f1)) (ds := []) q8_0 (by kernel_rfl) rfl rfl ⟨pw_cell_below B.out HY3.out, IsTk.x1 I.out⟩ (fun hHeld => ?_)
     generalize w2.drew = w3 at I B hHeld ⊢
     refine pure_ (i := 0) (N := some 39) (v := ?_) (a' := ?_) q8_1 rfl rfl (by kernel_rfl) (fun _ _ _ h => h) (Or.inl ⟨by rfl, ?_⟩) ?_ ?_
     rotate_left;(intro w';go_simp;with_reducible rfl);rotate_left;(simp only [Act.put, sa_, sz_, ss_, i64_w, i32_w];rfl)
     refine pure_ (i := 1) (N := some 40) (v := ?_) (a' := ?_) q8_2 rfl rfl (by kernel_rfl) (fun _ _ _ h => h) (Or.inl ⟨by rfl, ?_⟩) ?_ ?_
     rotate_left;(intro w';go_simp;with_reducible rfl);rotate_left;(simp only [Act.put, sa_, sz_, ss_, i64_w, i32_w];rfl)
     refine one_ (i := 2) (N := some 41) q8_3 rfl rfl (by kernel_rfl) (by decide) (fun K hK => ?_)
     refine goes_ Try.func122 (by kernel_rfl) rfl #[.slice (some ad) l0.length c0, .int .i64 k1] (by rfl) rfl rfl (by (try simp only [List.map_toArray, List.map_cons, List.map_nil]); first | done | rfl | (simp only [List.length_drop, List.length_take]; rfl)) ?_
     refine (spec_l5Bare.calls (some ad) c0 l0 k1 true _ (Kd.C_below HR0.out B.out) HC0.out HBR.out).mono ?_
     rintro e w4 ⟨rfl, hd_⟩
     refine ⟨_, rfl, ?_⟩
     have hb := drawn_belowH hd_
     clear hd_
     have n0_ := Aside0.mk (IsTk.below I.out hb)
     have n1_ := Aside0.mk (below_then B.out B.out.size hb)
     clear I B hb
     have I := n0_
     have B := n1_
     clear n0_ n1_
     refine hK.out _ _ ⟨pw_cell_below B.out HY3.out, IsTk.x1 I.out⟩ (fun hHeld => ?_)
     clear hK K
     refine norm_ (a' := ?_) ?_ ?_
     rotate_left
     ·show Act.put _ (some 41) _ = _
      simp only [Act.put, sa_, sz_, ss_, i64_w, i32_w]
      rfl
     refine pure_ (i := 3) (N := some 42) (v := ?_) (a' := ?_) q8_4 rfl rfl (by kernel_rfl) (fun _ _ _ h => h) (Or.inl ⟨by rfl, ?_⟩) ?_ ?_
     rotate_left;(intro w';go_simp;with_reducible rfl);rotate_left;(simp only [Act.put, sa_, sz_, ss_, i64_w, i32_w];rfl)
     refine pure_ (i := 4) (N := some 43) (v := ?_) (a' := ?_) q8_5 rfl rfl (by kernel_rfl) (fun _ _ _ h => h) (Or.inl ⟨by rfl, ?_⟩) ?_ ?_
     rotate_left;(intro w';go_simp;with_reducible rfl);rotate_left;(simp only [Act.put, sa_, sz_, ss_, i64_w, i32_w];rfl)
     refine pure_ (i := 5) (N := some 44) (v := ?_) (a' := ?_) q8_6 rfl rfl (by kernel_rfl) (fun _ _ _ h => h) (Or.inl ⟨by rfl, ?_⟩) ?_ ?_
     rotate_left;(intro w';go_simp;with_reducible rfl);rotate_left;(simp only [Act.put, sa_, sz_, ss_, i64_w, i32_w];rfl)
     refine pure_ (i := 6) (N := some 45) (v := ?_) (a' := ?_) q8_7 rfl rfl (by kernel_rfl) (fun _ _ _ h => h) (Or.inl ⟨by rfl, ?_⟩) ?_ ?_
     rotate_left;(intro w';go_simp;with_reducible rfl);rotate_left;(simp only [Act.put, sa_, sz_, ss_, i64_w, i32_w];rfl)
     refine pure_ (i := 7) (N := some 46) (v := ?_) (a' := ?_) q8_8 rfl rfl (by kernel_rfl) (fun _ _ _ h => h) (Or.inl ⟨by rfl, ?_⟩) ?_ ?_
     rotate_left;(intro w';go_simp;with_reducible rfl);rotate_left;(simp only [Act.put, sa_, sz_, ss_, i64_w, i32_w];rfl)
     refine pure_ (i := 10) (N := some 49) (v := ?_) (a' := ?_) q8_26 rfl rfl (by kernel_rfl) (fun _ _ _ h => h) (Or.inl ⟨by rfl, ?_⟩) ?_ ?_
     rotate_left;(intro w';go_simp;with_reducible rfl);rotate_left;(simp only [Act.put, sa_, sz_, ss_, i64_w, i32_w];rfl)
     refine pure_ (i := 14) (N := some 53) (v := ?_) (a' := ?_) q8_27 rfl rfl (by kernel_rfl) (fun _ _ _ h => h) (Or.inl ⟨by rfl, ?_⟩) ?_ ?_
     rotate_left;(intro w';go_simp;with_reducible rfl);rotate_left;(simp only [Act.put, sa_, sz_, ss_, i64_w, i32_w];rfl)
     refine pure_ (i := 17) (N := some 56) (v := ?_) (a' := ?_) q8_28 rfl rfl (by kernel_rfl) (fun _ _ _ h => h) (Or.inl ⟨by rfl, ?_⟩) ?_ ?_
     rotate_left;(intro w';go_simp;with_reducible rfl);rotate_left;(simp only [Act.put, sa_, sz_, ss_, i64_w, i32_w];rfl)
     refine pure_ (i := 18) (N := some 57) (v := ?_) (a' := ?_) q8_29 rfl rfl (by kernel_rfl) (fun _ _ _ h => h) (Or.inl ⟨by rfl, ?_⟩) ?_ ?_
     rotate_left;(intro w';go_simp;with_reducible rfl);rotate_left;(simp only [Act.put, sa_, sz_, ss_, i64_w, i32_w];rfl)
     refine pure_ (i := 19) (N := some 58) (v := ?_) (a' := ?_) q8_30 rfl rfl (by kernel_rfl) (fun _ _ _ h => h) (Or.inl ⟨by rfl, ?_⟩) ?_ ?_
     rotate_left;(intro w';go_simp;with_reducible rfl);rotate_left;(simp only [Act.put, sa_, sz_, ss_, i64_w, i32_w];rfl)
     refine pure_ (i := 20) (N := some 59) (v := ?_) (a' := ?_) q8_31 rfl rfl (by kernel_rfl) (fun _ _ _ h => h) (Or.inl ⟨by rfl, ?_⟩) ?_ ?_
     rotate_left;(intro w';go_simp;with_reducible rfl);rotate_left;(simp only [Act.put, sa_, sz_, ss_, i64_w, i32_w];rfl)
     refine take_ (i := 8) (N := some 47) (v := ?_) (a' := ?_) q8_32 rfl rfl (by kernel_rfl) (fun _ _ _ h => h) (Or.inl ⟨by rfl, ?_⟩) hHeld ?_ ?_
     rotate_left;(rintro w' ⟨s0_, s1_⟩;go_simp;with_reducible rfl);rotate_left;(simp only [Act.put, sa_, sz_, ss_, i64_w, i32_w];rfl)
     refine pure_ (i := 9) (N := some 48) (v := ?_) (a' := ?_) q8_33 rfl rfl (by kernel_rfl) (fun _ _ _ h => h) (Or.inl ⟨by rfl, ?_⟩) ?_ ?_
     rotate_left;(intro w';go_simp;with_reducible rfl);rotate_left;(simp only [Act.put, sa_, sz_, ss_, i64_w, i32_w];rfl)
     refine take_ (i := 11) (N := some 50) (v := ?_) (a' := ?_) q8_34 rfl rfl (by kernel_rfl) (fun _ _ _ h => h) (Or.inl ⟨by rfl, ?_⟩) hHeld ?_ ?_
     rotate_left;(rintro w' ⟨s0_, s1_⟩;go_simp;with_reducible rfl);rotate_left;(simp only [Act.put, sa_, sz_, ss_, i64_w, i32_w];rfl)
     refine pure_ (i := 12) (N := some 51) (v := ?_) (a' := ?_) q8_35 rfl rfl (by kernel_rfl) (fun _ _ _ h => h) (Or.inl ⟨by rfl, ?_⟩) ?_ ?_
     rotate_left;(intro w';go_simp;with_reducible rfl);rotate_left;(simp only [Act.put, sa_, sz_, ss_, i64_w, i32_w];rfl)
     refine pure_ (i := 13) (N := some 52) (v := ?_) (a' := ?_) q8_36 rfl rfl (by kernel_rfl) (fun _ _ _ h => h) (Or.inl ⟨by rfl, ?_⟩) ?_ ?_
     rotate_left;(intro w';go_simp;with_reducible rfl);rotate_left;(simp only [Act.put, sa_, sz_, ss_, i64_w, i32_w];rfl)
     refine take_ (i := 15) (N := some 54) (v := ?_) (a' := ?_) q8_37 rfl rfl (by kernel_rfl) (fun _ _ _ h => h) (Or.inl ⟨by rfl, ?_⟩) hHeld ?_ ?_
     rotate_left;(rintro w' ⟨s0_, s1_⟩;go_simp;with_reducible rfl);rotate_left;(simp only [Act.put, sa_, sz_, ss_, i64_w, i32_w];rfl)
     refine take_ (i := 21) (N := some 60) (v := ?_) (a' := ?_) q8_38 rfl rfl (by kernel_rfl) (fun _ _ _ h => h) (Or.inl ⟨by rfl, ?_⟩) hHeld ?_ ?_
     rotate_left;(rintro w' ⟨s0_, s1_⟩;go_simp;with_reducible rfl);rotate_left;(simp only [Act.put, sa_, sz_, ss_, i64_w, i32_w];rfl)
     refine pure_ (i := 22) (N := some 61) (v := ?_) (a' := ?_) q8_39 rfl rfl (by kernel_rfl) (fun _ _ _ h => h) (Or.inl ⟨by rfl, ?_⟩) ?_ ?_
     rotate_left;(intro w';go_simp;with_reducible rfl);rotate_left;(simp only [Act.put, sa_, sz_, ss_, i64_w, i32_w];rfl)
     refine one_ (i := 16) (N := some 55) q8_23 rfl rfl (by kernel_rfl) (by decide) (fun K hK => ?_)
     refine goes_ Try.func123 (by kernel_rfl) rfl #[.string (((Y.f3 ++ (⟨#[60, 47]⟩ : ByteArray)) ++ X.f1) ++ (⟨#[62]⟩ : ByteArray)), .int .i64 0, .string X.f1] (by rfl) rfl rfl (by (try simp only [List.map_toArray, List.map_cons, List.map_nil]); first | done | rfl | (simp only [List.length_drop, List.length_take]; rfl)) ?_
     refine (spec_RawEnd.calls k0 _ 0 X.f1 q _ HRE.out).mono ?_
     rintro e w5 ⟨rfl, hb⟩
     refine ⟨_, rfl, ?_⟩
     have n0_ := Aside0.mk (IsTk.below I.out hb)
     have n1_ := Aside0.mk (below_then B.out B.out.size hb)
     clear I B hb
     have I := n0_
     have B := n1_
     clear n0_ n1_
     refine hK.out _ _ ⟨pw_cell_below B.out HY3.out, IsTk.x1 I.out⟩ (fun hHeld => ?_)
     clear hK K
     refine norm_ (a' := ?_) ?_ ?_
     rotate_left
     ·show Act.put _ (some 55) _ = _
      simp only [Act.put, sa_, sz_, ss_, i64_w, i32_w]
      rfl
     refine pure_ (i := 23) (N := some 62) (v := ?_) (a' := ?_) q8_24 rfl rfl (by kernel_rfl) (fun _ _ _ h => h) (Or.inl ⟨by rfl, ?_⟩) ?_ ?_
     rotate_left;(intro w';go_simp;with_reducible rfl);rotate_left;(simp only [Act.put, sa_, sz_, ss_, i64_w, i32_w];rfl)
     refine pure_ (i := 24) (N := some 63) (v := ?_) (a' := ?_) q8_25 rfl rfl (by kernel_rfl) (fun _ _ _ h => h) (Or.inl ⟨by rfl, ?_⟩) ?_ ?_
     rotate_left;(intro w';go_simp;with_reducible rfl);rotate_left;(simp only [Act.put, sa_, sz_, ss_, i64_w, i32_w];rfl)
     refine done_ (by kernel_rfl) ?_
     clear hHeld
     cases bq with
     | true =>
      rw [if_neg (bne_iff_ne.mp hbq)] at h
      obtain rfl := Option.some.inj h
      go_wp2
      go_ret
      exact ⟨by first | rfl | (simp; done), B.out⟩
     | false =>
      rw [if_pos (bne_eq_false_iff_eq.mp hbq)] at h
      go_wp2
      go_meet
      case rel => exact ⟨k2, by first | rfl | (simp [hk1, hk2]; done), ⟨h⟩, I, B⟩
   case rest =>
    clear H HFE HY0 HY3 I B e0 e1 e2 y0
    obtain ⟨kk, rfl, HF, I, B⟩ := hcut
    have h := HF.out
    unfold heldEnd at h
    clear HF
    by_cases c : kk = (l0.length : Int)
    ·rw [if_pos c] at h
     obtain rfl := Option.some.inj h
     have e4 : (kk == (l0.length : Int)) = true := beq_iff_eq.mpr c
     clear c h
     go_wp2
     have hb := b1_ (Below.refl wc.heap.size wc)
     have n0_ := Aside0.mk (IsTk.below I.out hb)
     have n1_ := Aside0.mk (below_then B.out B.out.size hb)
     clear I B hb
     have I := n0_
     have B := n1_
     clear n0_ n1_
     refine start_ (n := 23) (S := fun w' => True) (ds := []) q8_40 (by kernel_rfl) rfl rfl trivial (fun hHeld => ?_)
     generalize wc.drew = w3 at I B hHeld ⊢
     refine pure_ (i := 0) (N := some 66) (v := ?_) (a' := ?_) q8_41 rfl rfl (by kernel_rfl) (fun _ _ _ h => h) (Or.inl ⟨by rfl, ?_⟩) ?_ ?_
     rotate_left;(intro w';go_simp;with_reducible rfl);rotate_left;(simp only [Act.put, sa_, sz_, ss_, i64_w, i32_w];rfl)
     refine pure_ (i := 1) (N := some 67) (v := ?_) (a' := ?_) q8_42 rfl rfl (by kernel_rfl) (fun _ _ _ h => h) (Or.inl ⟨by rfl, ?_⟩) ?_ ?_
     rotate_left;(intro w';go_simp;with_reducible rfl);rotate_left;(simp only [Act.put, sa_, sz_, ss_, i64_w, i32_w];rfl)
     refine pure_ (i := 2) (N := some 68) (v := ?_) (a' := ?_) q8_43 rfl rfl (by kernel_rfl) (fun _ _ _ h => h) (Or.inl ⟨by rfl, ?_⟩) ?_ ?_
     rotate_left;(intro w';go_simp;with_reducible rfl);rotate_left;(simp only [Act.put, sa_, sz_, ss_, i64_w, i32_w];rfl)
     refine pure_ (i := 3) (N := some 69) (v := ?_) (a' := ?_) q8_44 rfl rfl (by kernel_rfl) (fun _ _ _ h => h) (Or.inl ⟨by rfl, ?_⟩) ?_ ?_
     rotate_left;(intro w';go_simp;with_reducible rfl);rotate_left;(simp only [Act.put, sa_, sz_, ss_, i64_w, i32_w];rfl)
     refine pure_ (i := 4) (N := some 70) (v := ?_) (a' := ?_) q8_45 rfl rfl (by kernel_rfl) (fun _ _ _ h => h) (Or.inl ⟨by rfl, ?_⟩) ?_ ?_
     rotate_left;(intro w';go_simp;with_reducible rfl);rotate_left;(simp only [Act.put, sa_, sz_, ss_, i64_w, i32_w];rfl)
     refine pure_ (i := 5) (N := some 71) (v := undef) (a' := ?_) q8_46 rfl rfl (by kernel_rfl) (fun _ _ _ h => h) (Or.inr ⟨by rfl, rfl⟩) ?_ ?_
     rotate_left
     ·simp only [Act.put, sa_, sz_, ss_, i64_w, i32_w]
      rfl
     refine pure_ (i := 6) (N := some 72) (v := undef) (a' := ?_) q8_47 rfl rfl (by kernel_rfl) (fun _ _ _ h => h) (Or.inr ⟨by rfl, rfl⟩) ?_ ?_
     rotate_left
     ·simp only [Act.put, sa_, sz_, ss_, i64_w, i32_w]
      rfl
     refine pure_ (i := 7) (N := some 73) (v := undef) (a' := ?_) q8_48 rfl rfl (by kernel_rfl) (fun _ _ _ h => h) (Or.inr ⟨by rfl, rfl⟩) ?_ ?_
     rotate_left
     ·simp only [Act.put, sa_, sz_, ss_, i64_w, i32_w]
      rfl
     refine pure_ (i := 8) (N := some 74) (v := undef) (a' := ?_) q8_49 rfl rfl (by kernel_rfl) (fun _ _ _ h => h) (Or.inr ⟨by rfl, rfl⟩) ?_ ?_
     rotate_left
     ·simp only [Act.put, sa_, sz_, ss_, i64_w, i32_w]
      rfl
     refine pure_ (i := 9) (N := some 75) (v := undef) (a' := ?_) q8_50 rfl rfl (by kernel_rfl) (fun _ _ _ h => h) (Or.inr ⟨by rfl, rfl⟩) ?_ ?_
     rotate_left
     ·simp only [Act.put, sa_, sz_, ss_, i64_w, i32_w]
      rfl
     refine pure_ (i := 10) (N := some 76) (v := undef) (a' := ?_) q8_51 rfl rfl (by kernel_rfl) (fun _ _ _ h => h) (Or.inr ⟨by rfl, rfl⟩) ?_ ?_
     rotate_left
     ·simp only [Act.put, sa_, sz_, ss_, i64_w, i32_w]
      rfl
     refine pure_ (i := 11) (N := some 77) (v := undef) (a' := ?_) q8_52 rfl rfl (by kernel_rfl) (fun _ _ _ h => h) (Or.inr ⟨by rfl, rfl⟩) ?_ ?_
     rotate_left
     ·simp only [Act.put, sa_, sz_, ss_, i64_w, i32_w]
      rfl
     refine pure_ (i := 12) (N := some 78) (v := undef) (a' := ?_) q8_53 rfl rfl (by kernel_rfl) (fun _ _ _ h => h) (Or.inr ⟨by rfl, rfl⟩) ?_ ?_
     rotate_left
     ·simp only [Act.put, sa_, sz_, ss_, i64_w, i32_w]
      rfl
     refine pure_ (i := 13) (N := some 79) (v := undef) (a' := ?_) q8_54 rfl rfl (by kernel_rfl) (fun _ _ _ h => h) (Or.inr ⟨by rfl, rfl⟩) ?_ ?_
     rotate_left
     ·simp only [Act.put, sa_, sz_, ss_, i64_w, i32_w]
      rfl
     refine pure_ (i := 14) (N := some 80) (v := undef) (a' := ?_) q8_55 rfl rfl (by kernel_rfl) (fun _ _ _ h => h) (Or.inr ⟨by rfl, rfl⟩) ?_ ?_
     rotate_left
     ·simp only [Act.put, sa_, sz_, ss_, i64_w, i32_w]
      rfl
     refine pure_ (i := 15) (N := some 81) (v := undef) (a' := ?_) q8_56 rfl rfl (by kernel_rfl) (fun _ _ _ h => h) (Or.inr ⟨by rfl, rfl⟩) ?_ ?_
     rotate_left
     ·simp only [Act.put, sa_, sz_, ss_, i64_w, i32_w]
      rfl
     refine pure_ (i := 16) (N := some 82) (v := undef) (a' := ?_) q8_57 rfl rfl (by kernel_rfl) (fun _ _ _ h => h) (Or.inr ⟨by rfl, rfl⟩) ?_ ?_
     rotate_left
     ·simp only [Act.put, sa_, sz_, ss_, i64_w, i32_w]
      rfl
     refine pure_ (i := 17) (N := some 83) (v := undef) (a' := ?_) q8_58 rfl rfl (by kernel_rfl) (fun _ _ _ h => h) (Or.inr ⟨by rfl, rfl⟩) ?_ ?_
     rotate_left
     ·simp only [Act.put, sa_, sz_, ss_, i64_w, i32_w]
      rfl
     refine pure_ (i := 18) (N := some 84) (v := undef) (a' := ?_) q8_59 rfl rfl (by kernel_rfl) (fun _ _ _ h => h) (Or.inr ⟨by rfl, rfl⟩) ?_ ?_
     rotate_left
     ·simp only [Act.put, sa_, sz_, ss_, i64_w, i32_w]
      rfl
     refine pure_ (i := 19) (N := some 85) (v := undef) (a' := ?_) q8_60 rfl rfl (by kernel_rfl) (fun _ _ _ h => h) (Or.inr ⟨by rfl, rfl⟩) ?_ ?_
     rotate_left
     ·simp only [Act.put, sa_, sz_, ss_, i64_w, i32_w]
      rfl
     refine pure_ (i := 20) (N := some 86) (v := undef) (a' := ?_) q8_61 rfl rfl (by kernel_rfl) (fun _ _ _ h => h) (Or.inr ⟨by rfl, rfl⟩) ?_ ?_
     rotate_left
     ·simp only [Act.put, sa_, sz_, ss_, i64_w, i32_w]
      rfl
     refine pure_ (i := 21) (N := some 87) (v := ?_) (a' := ?_) q8_62 rfl rfl (by kernel_rfl) (fun _ _ _ h => h) (Or.inl ⟨by rfl, ?_⟩) ?_ ?_
     rotate_left;(intro w';go_simp;with_reducible rfl);rotate_left;(simp only [Act.put, sa_, sz_, ss_, i64_w, i32_w];rfl)
     refine pure_ (i := 22) (N := some 4) (v := ?_) (a' := ?_) q8_63 rfl rfl (by kernel_rfl) (fun _ _ _ h => h) (Or.inl ⟨by rfl, ?_⟩) ?_ ?_
     rotate_left;(intro w';go_simp;with_reducible rfl);rotate_left;(simp only [Act.put, sa_, sz_, ss_, i64_w, i32_w];rfl)
     refine done_ (by kernel_rfl) ?_
     clear hHeld
     go_wp2
     go_ret
     exact ⟨by first | rfl | (simp; done), B.out⟩
    rw [if_neg c] at h
    have e4 : (kk == (l0.length : Int)) = false := beq_eq_false_iff_ne.mpr c
    clear c
    by_cases ca : 0 ≤ kk
    rotate_left
    ·rw [if_neg ca] at h; exact absurd h (by simp)
    rw [if_pos ca] at h
    by_cases cb : kk < (l0.length : Int)
    rotate_left
    ·rw [if_neg cb] at h; exact absurd h (by simp)
    rw [if_pos cb] at h
    obtain ⟨ad_, A4_, c4_, ea, x0, x1, _, _, _, _, _⟩ := at_T87 HR0.out kk ca cb
    obtain rfl := Option.some.inj ea
    obtain ⟨Z, hZ⟩ : ∃ Z, rd_T87 l0 kk = Z := ⟨_, rfl⟩
    rw [hZ] at x0 x1 h
    have HZ0 := Aside0.mk x0
    have HZ1 := Aside0.mk x1
    have p4 : ((0 : Int) ≤ kk) = True := eq_true ca
    have p5 : (kk < (l0.length : Int)) = True := eq_true cb
    clear ca cb x0 x1 ea hZ
    by_cases c : Z.f0 = 3
    rotate_left
    ·rw [if_neg c] at h
     obtain rfl := Option.some.inj h
     have e5 : (Z.f0 == 3) = false := beq_eq_false_iff_ne.mpr c
     clear c h
     go_wp2
     have hb := b1_ (Below.refl wc.heap.size wc)
     have n0_ := Aside0.mk (IsTk.below I.out hb)
     have n1_ := Aside0.mk (below_then B.out B.out.size hb)
     clear I B hb
     have I := n0_
     have B := n1_
     clear n0_ n1_
     refine start_ (n := 23) (S := fun w' => w'.cell? (ad.add (kk.toNat * 5)) = some (.int .i64 Z.f0) ∧ w'.cell? ⟨(ad.add (kk.toNat * 5)).block, (ad.add (kk.toNat * 5)).off + 1, none⟩ = some (.string Z.f1) ∧ w'.cell? ⟨w.heap.size, 1, none⟩ = some (.string X.f1)) (ds := []) q8_40 (by kernel_rfl) rfl rfl ⟨pw_cell_below B.out HZ0.out, pw_cell_below B.out HZ1.out, IsTk.x1 I.out⟩ (fun hHeld => ?_)
     generalize wc.drew = w3 at I B hHeld ⊢
     refine pure_ (i := 0) (N := some 66) (v := ?_) (a' := ?_) q8_41 rfl rfl (by kernel_rfl) (fun _ _ _ h => h) (Or.inl ⟨by rfl, ?_⟩) ?_ ?_
     rotate_left;(intro w';go_simp;with_reducible rfl);rotate_left;(simp only [Act.put, sa_, sz_, ss_, i64_w, i32_w];rfl)
     refine pure_ (i := 1) (N := some 67) (v := ?_) (a' := ?_) q8_42 rfl rfl (by kernel_rfl) (fun _ _ _ h => h) (Or.inl ⟨by rfl, ?_⟩) ?_ ?_
     rotate_left;(intro w';go_simp;with_reducible rfl);rotate_left;(simp only [Act.put, sa_, sz_, ss_, i64_w, i32_w];rfl)
     refine pure_ (i := 2) (N := some 68) (v := ?_) (a' := ?_) q8_43 rfl rfl (by kernel_rfl) (fun _ _ _ h => h) (Or.inl ⟨by rfl, ?_⟩) ?_ ?_
     rotate_left;(intro w';go_simp;with_reducible rfl);rotate_left;(simp only [Act.put, sa_, sz_, ss_, i64_w, i32_w];rfl)
     refine pure_ (i := 3) (N := some 69) (v := ?_) (a' := ?_) q8_44 rfl rfl (by kernel_rfl) (fun _ _ _ h => h) (Or.inl ⟨by rfl, ?_⟩) ?_ ?_
     rotate_left;(intro w';go_simp;with_reducible rfl);rotate_left;(simp only [Act.put, sa_, sz_, ss_, i64_w, i32_w];rfl)
     refine pure_ (i := 4) (N := some 70) (v := ?_) (a' := ?_) q8_45 rfl rfl (by kernel_rfl) (fun _ _ _ h => h) (Or.inl ⟨by rfl, ?_⟩) ?_ ?_
     rotate_left;(intro w';go_simp;with_reducible rfl);rotate_left;(simp only [Act.put, sa_, sz_, ss_, i64_w, i32_w];rfl)
     refine pure_ (i := 5) (N := some 71) (v := ?_) (a' := ?_) q8_46 rfl rfl (by kernel_rfl) (fun _ _ _ h => h) (Or.inl ⟨by rfl, ?_⟩) ?_ ?_
     rotate_left;(intro w';go_simp;with_reducible rfl);rotate_left;(simp only [Act.put, sa_, sz_, ss_, i64_w, i32_w];rfl)
     refine pure_ (i := 6) (N := some 72) (v := ?_) (a' := ?_) q8_47 rfl rfl (by kernel_rfl) (fun _ _ _ h => h) (Or.inl ⟨by rfl, ?_⟩) ?_ ?_
     rotate_left;(intro w';go_simp;with_reducible rfl);rotate_left;(simp only [Act.put, sa_, sz_, ss_, i64_w, i32_w];rfl)
     refine pure_ (i := 7) (N := some 73) (v := ?_) (a' := ?_) q8_48 rfl rfl (by kernel_rfl) (fun _ _ _ h => h) (Or.inl ⟨by rfl, ?_⟩) ?_ ?_
     rotate_left;(intro w';go_simp;with_reducible rfl);rotate_left;(simp only [Act.put, sa_, sz_, ss_, i64_w, i32_w];rfl)
     refine pure_ (i := 8) (N := some 74) (v := ?_) (a' := ?_) q8_49 rfl rfl (by kernel_rfl) (fun _ _ _ h => h) (Or.inl ⟨by rfl, ?_⟩) ?_ ?_
     rotate_left;(intro w';go_simp;with_reducible rfl);rotate_left;(simp only [Act.put, sa_, sz_, ss_, i64_w, i32_w];rfl)
     refine take_ (i := 9) (N := some 75) (v := ?_) (a' := ?_) q8_50 rfl rfl (by kernel_rfl) (fun _ _ _ h => h) (Or.inl ⟨by rfl, ?_⟩) hHeld ?_ ?_
     rotate_left;(rintro w' ⟨s0_, s1_, s2_⟩;go_simp;with_reducible rfl);rotate_left;(simp only [Act.put, sa_, sz_, ss_, i64_w, i32_w];rfl)
     refine pure_ (i := 10) (N := some 76) (v := ?_) (a' := ?_) q8_51 rfl rfl (by kernel_rfl) (fun _ _ _ h => h) (Or.inl ⟨by rfl, ?_⟩) ?_ ?_
     rotate_left;(intro w';go_simp;with_reducible rfl);rotate_left;(simp only [Act.put, sa_, sz_, ss_, i64_w, i32_w];rfl)
     refine pure_ (i := 11) (N := some 77) (v := ?_) (a' := ?_) q8_52 rfl rfl (by kernel_rfl) (fun _ _ _ h => h) (Or.inl ⟨by rfl, ?_⟩) ?_ ?_
     rotate_left;(intro w';go_simp;with_reducible rfl);rotate_left;(simp only [Act.put, sa_, sz_, ss_, i64_w, i32_w];rfl)
     refine pure_ (i := 12) (N := some 78) (v := undef) (a' := ?_) q8_53 rfl rfl (by kernel_rfl) (fun _ _ _ h => h) (Or.inr ⟨by rfl, rfl⟩) ?_ ?_
     rotate_left
     ·simp only [Act.put, sa_, sz_, ss_, i64_w, i32_w]
      rfl
     refine pure_ (i := 13) (N := some 79) (v := undef) (a' := ?_) q8_54 rfl rfl (by kernel_rfl) (fun _ _ _ h => h) (Or.inr ⟨by rfl, rfl⟩) ?_ ?_
     rotate_left
     ·simp only [Act.put, sa_, sz_, ss_, i64_w, i32_w]
      rfl
     refine pure_ (i := 14) (N := some 80) (v := undef) (a' := ?_) q8_55 rfl rfl (by kernel_rfl) (fun _ _ _ h => h) (Or.inr ⟨by rfl, rfl⟩) ?_ ?_
     rotate_left
     ·simp only [Act.put, sa_, sz_, ss_, i64_w, i32_w]
      rfl
     refine pure_ (i := 15) (N := some 81) (v := undef) (a' := ?_) q8_56 rfl rfl (by kernel_rfl) (fun _ _ _ h => h) (Or.inr ⟨by rfl, rfl⟩) ?_ ?_
     rotate_left
     ·simp only [Act.put, sa_, sz_, ss_, i64_w, i32_w]
      rfl
     refine pure_ (i := 16) (N := some 82) (v := undef) (a' := ?_) q8_57 rfl rfl (by kernel_rfl) (fun _ _ _ h => h) (Or.inr ⟨by rfl, rfl⟩) ?_ ?_
     rotate_left
     ·simp only [Act.put, sa_, sz_, ss_, i64_w, i32_w]
      rfl
     refine pure_ (i := 17) (N := some 83) (v := undef) (a' := ?_) q8_58 rfl rfl (by kernel_rfl) (fun _ _ _ h => h) (Or.inr ⟨by rfl, rfl⟩) ?_ ?_
     rotate_left
     ·simp only [Act.put, sa_, sz_, ss_, i64_w, i32_w]
      rfl
     refine pure_ (i := 18) (N := some 84) (v := undef) (a' := ?_) q8_59 rfl rfl (by kernel_rfl) (fun _ _ _ h => h) (Or.inr ⟨by rfl, rfl⟩) ?_ ?_
     rotate_left
     ·simp only [Act.put, sa_, sz_, ss_, i64_w, i32_w]
      rfl
     refine pure_ (i := 19) (N := some 85) (v := undef) (a' := ?_) q8_60 rfl rfl (by kernel_rfl) (fun _ _ _ h => h) (Or.inr ⟨by rfl, rfl⟩) ?_ ?_
     rotate_left
     ·simp only [Act.put, sa_, sz_, ss_, i64_w, i32_w]
      rfl
     refine pure_ (i := 20) (N := some 86) (v := ?_) (a' := ?_) q8_61 rfl rfl (by kernel_rfl) (fun _ _ _ h => h) (Or.inl ⟨by rfl, ?_⟩) ?_ ?_
     rotate_left;(intro w';go_simp;with_reducible rfl);rotate_left;(simp only [Act.put, sa_, sz_, ss_, i64_w, i32_w];rfl)
     refine pure_ (i := 21) (N := some 87) (v := ?_) (a' := ?_) q8_62 rfl rfl (by kernel_rfl) (fun _ _ _ h => h) (Or.inl ⟨by rfl, ?_⟩) ?_ ?_
     rotate_left;(intro w';go_simp;with_reducible rfl);rotate_left;(simp only [Act.put, sa_, sz_, ss_, i64_w, i32_w];rfl)
     refine pure_ (i := 22) (N := some 4) (v := ?_) (a' := ?_) q8_63 rfl rfl (by kernel_rfl) (fun _ _ _ h => h) (Or.inl ⟨by rfl, ?_⟩) ?_ ?_
     rotate_left;(intro w';go_simp;with_reducible rfl);rotate_left;(simp only [Act.put, sa_, sz_, ss_, i64_w, i32_w];rfl)
     refine done_ (by kernel_rfl) ?_
     clear hHeld
     go_wp2
     go_ret
     exact ⟨by first | rfl | (simp; done), B.out⟩
    rw [if_pos c] at h
    obtain rfl := Option.some.inj h
    have e5 : (Z.f0 == 3) = true := beq_iff_eq.mpr c
    clear c h
    go_wp2
    have hb := b1_ (Below.refl wc.heap.size wc)
    have n0_ := Aside0.mk (IsTk.below I.out hb)
    have n1_ := Aside0.mk (below_then B.out B.out.size hb)
    clear I B hb
    have I := n0_
    have B := n1_
    clear n0_ n1_
    refine start_ (n := 23) (S := fun w' => w'.cell? (ad.add (kk.toNat * 5)) = some (.int .i64 Z.f0) ∧ w'.cell? ⟨(ad.add (kk.toNat * 5)).block, (ad.add (kk.toNat * 5)).off + 1, none⟩ = some (.string Z.f1) ∧ w'.cell? ⟨w.heap.size, 1, none⟩ = some (.string X.f1)) (ds := []) q8_40 (by kernel_rfl) rfl rfl ⟨pw_cell_below B.out HZ0.out, pw_cell_below B.out HZ1.out, IsTk.x1 I.out⟩ (fun hHeld => ?_)
    generalize wc.drew = w3 at I B hHeld ⊢
    refine pure_ (i := 0) (N := some 66) (v := ?_) (a' := ?_) q8_41 rfl rfl (by kernel_rfl) (fun _ _ _ h => h) (Or.inl ⟨by rfl, ?_⟩) ?_ ?_
    rotate_left;(intro w';go_simp;with_reducible rfl);rotate_left;(simp only [Act.put, sa_, sz_, ss_, i64_w, i32_w];rfl)
    refine pure_ (i := 1) (N := some 67) (v := ?_) (a' := ?_) q8_42 rfl rfl (by kernel_rfl) (fun _ _ _ h => h) (Or.inl ⟨by rfl, ?_⟩) ?_ ?_
    rotate_left;(intro w';go_simp;with_reducible rfl);rotate_left;(simp only [Act.put, sa_, sz_, ss_, i64_w, i32_w];rfl)
    refine pure_ (i := 2) (N := some 68) (v := ?_) (a' := ?_) q8_43 rfl rfl (by kernel_rfl) (fun _ _ _ h => h) (Or.inl ⟨by rfl, ?_⟩) ?_ ?_
    rotate_left;(intro w';go_simp;with_reducible rfl);rotate_left;(simp only [Act.put, sa_, sz_, ss_, i64_w, i32_w];rfl)
    refine pure_ (i := 3) (N := some 69) (v := ?_) (a' := ?_) q8_44 rfl rfl (by kernel_rfl) (fun _ _ _ h => h) (Or.inl ⟨by rfl, ?_⟩) ?_ ?_
    rotate_left;(intro w';go_simp;with_reducible rfl);rotate_left;(simp only [Act.put, sa_, sz_, ss_, i64_w, i32_w];rfl)
    refine pure_ (i := 4) (N := some 70) (v := ?_) (a' := ?_) q8_45 rfl rfl (by kernel_rfl) (fun _ _ _ h => h) (Or.inl ⟨by rfl, ?_⟩) ?_ ?_
    rotate_left;(intro w';go_simp;with_reducible rfl);rotate_left;(simp only [Act.put, sa_, sz_, ss_, i64_w, i32_w];rfl)
    refine pure_ (i := 5) (N := some 71) (v := ?_) (a' := ?_) q8_46 rfl rfl (by kernel_rfl) (fun _ _ _ h => h) (Or.inl ⟨by rfl, ?_⟩) ?_ ?_
    rotate_left;(intro w';go_simp;with_reducible rfl);rotate_left;(simp only [Act.put, sa_, sz_, ss_, i64_w, i32_w];rfl)
    refine pure_ (i := 6) (N := some 72) (v := ?_) (a' := ?_) q8_47 rfl rfl (by kernel_rfl) (fun _ _ _ h => h) (Or.inl ⟨by rfl, ?_⟩) ?_ ?_
    rotate_left;(intro w';go_simp;with_reducible rfl);rotate_left;(simp only [Act.put, sa_, sz_, ss_, i64_w, i32_w];rfl)
    refine pure_ (i := 7) (N := some 73) (v := ?_) (a' := ?_) q8_48 rfl rfl (by kernel_rfl) (fun _ _ _ h => h) (Or.inl ⟨by rfl, ?_⟩) ?_ ?_
    rotate_left;(intro w';go_simp;with_reducible rfl);rotate_left;(simp only [Act.put, sa_, sz_, ss_, i64_w, i32_w];rfl)
    refine pure_ (i := 8) (N := some 74) (v := ?_) (a' := ?_) q8_49 rfl rfl (by kernel_rfl) (fun _ _ _ h => h) (Or.inl ⟨by rfl, ?_⟩) ?_ ?_
    rotate_left;(intro w';go_simp;with_reducible rfl);rotate_left;(simp only [Act.put, sa_, sz_, ss_, i64_w, i32_w];rfl)
    refine take_ (i := 9) (N := some 75) (v := ?_) (a' := ?_) q8_50 rfl rfl (by kernel_rfl) (fun _ _ _ h => h) (Or.inl ⟨by rfl, ?_⟩) hHeld ?_ ?_
    rotate_left;(rintro w' ⟨s0_, s1_, s2_⟩;go_simp;with_reducible rfl);rotate_left;(simp only [Act.put, sa_, sz_, ss_, i64_w, i32_w];rfl)
    refine pure_ (i := 10) (N := some 76) (v := ?_) (a' := ?_) q8_51 rfl rfl (by kernel_rfl) (fun _ _ _ h => h) (Or.inl ⟨by rfl, ?_⟩) ?_ ?_
    rotate_left;(intro w';go_simp;with_reducible rfl);rotate_left;(simp only [Act.put, sa_, sz_, ss_, i64_w, i32_w];rfl)
    refine pure_ (i := 11) (N := some 77) (v := ?_) (a' := ?_) q8_52 rfl rfl (by kernel_rfl) (fun _ _ _ h => h) (Or.inl ⟨by rfl, ?_⟩) ?_ ?_
    rotate_left;(intro w';go_simp;with_reducible rfl);rotate_left;(simp only [Act.put, sa_, sz_, ss_, i64_w, i32_w];rfl)
    refine pure_ (i := 12) (N := some 78) (v := ?_) (a' := ?_) q8_53 rfl rfl (by kernel_rfl) (fun _ _ _ h => h) (Or.inl ⟨by rfl, ?_⟩) ?_ ?_
    rotate_left;(intro w';go_simp;with_reducible rfl);rotate_left;(simp only [Act.put, sa_, sz_, ss_, i64_w, i32_w];rfl)
    refine pure_ (i := 13) (N := some 79) (v := ?_) (a' := ?_) q8_54 rfl rfl (by kernel_rfl) (fun _ _ _ h => h) (Or.inl ⟨by rfl, ?_⟩) ?_ ?_
    rotate_left;(intro w';go_simp;with_reducible rfl);rotate_left;(simp only [Act.put, sa_, sz_, ss_, i64_w, i32_w];rfl)
    refine pure_ (i := 14) (N := some 80) (v := ?_) (a' := ?_) q8_55 rfl rfl (by kernel_rfl) (fun _ _ _ h => h) (Or.inl ⟨by rfl, ?_⟩) ?_ ?_
    rotate_left;(intro w';go_simp;with_reducible rfl);rotate_left;(simp only [Act.put, sa_, sz_, ss_, i64_w, i32_w];rfl)
    refine pure_ (i := 15) (N := some 81) (v := ?_) (a' := ?_) q8_56 rfl rfl (by kernel_rfl) (fun _ _ _ h => h) (Or.inl ⟨by rfl, ?_⟩) ?_ ?_
    rotate_left;(intro w';go_simp;with_reducible rfl);rotate_left;(simp only [Act.put, sa_, sz_, ss_, i64_w, i32_w];rfl)
    refine pure_ (i := 17) (N := some 83) (v := ?_) (a' := ?_) q8_64 rfl rfl (by kernel_rfl) (fun _ _ _ h => h) (Or.inl ⟨by rfl, ?_⟩) ?_ ?_
    rotate_left;(intro w';go_simp;with_reducible rfl);rotate_left;(simp only [Act.put, sa_, sz_, ss_, i64_w, i32_w];rfl)
    refine take_ (i := 16) (N := some 82) (v := ?_) (a' := ?_) q8_58 rfl rfl (by kernel_rfl) (fun _ _ _ h => h) (Or.inl ⟨by rfl, ?_⟩) hHeld ?_ ?_
    rotate_left;(rintro w' ⟨s0_, s1_, s2_⟩;go_simp;with_reducible rfl);rotate_left;(simp only [Act.put, sa_, sz_, ss_, i64_w, i32_w];rfl)
    refine take_ (i := 18) (N := some 84) (v := ?_) (a' := ?_) q8_59 rfl rfl (by kernel_rfl) (fun _ _ _ h => h) (Or.inl ⟨by rfl, ?_⟩) hHeld ?_ ?_
    rotate_left;(rintro w' ⟨s0_, s1_, s2_⟩;go_simp;with_reducible rfl);rotate_left;(simp only [Act.put, sa_, sz_, ss_, i64_w, i32_w];rfl)
    refine pure_ (i := 19) (N := some 85) (v := ?_) (a' := ?_) q8_60 rfl rfl (by kernel_rfl) (fun _ _ _ h => h) (Or.inl ⟨by rfl, ?_⟩) ?_ ?_
    rotate_left;(intro w';go_simp;with_reducible rfl);rotate_left;(simp only [Act.put, sa_, sz_, ss_, i64_w, i32_w];rfl)
    refine pure_ (i := 20) (N := some 86) (v := ?_) (a' := ?_) q8_61 rfl rfl (by kernel_rfl) (fun _ _ _ h => h) (Or.inl ⟨by rfl, ?_⟩) ?_ ?_
    rotate_left;(intro w';go_simp;with_reducible rfl);rotate_left;(simp only [Act.put, sa_, sz_, ss_, i64_w, i32_w];rfl)
    refine pure_ (i := 21) (N := some 87) (v := ?_) (a' := ?_) q8_62 rfl rfl (by kernel_rfl) (fun _ _ _ h => h) (Or.inl ⟨by rfl, ?_⟩) ?_ ?_
    rotate_left;(intro w';go_simp;with_reducible rfl);rotate_left;(simp only [Act.put, sa_, sz_, ss_, i64_w, i32_w];rfl)
    refine pure_ (i := 22) (N := some 4) (v := ?_) (a' := ?_) q8_63 rfl rfl (by kernel_rfl) (fun _ _ _ h => h) (Or.inl ⟨by rfl, ?_⟩) ?_ ?_
    rotate_left;(intro w';go_simp;with_reducible rfl);rotate_left;(simp only [Act.put, sa_, sz_, ss_, i64_w, i32_w];rfl)
    refine done_ (by kernel_rfl) ?_
    clear hHeld
    go_wp2
    go_ret
    exact ⟨by first | rfl | (simp; done), B.out⟩
end Go.Proofs.Yteafgjebaedjbaa.PFnExactTokensOk
