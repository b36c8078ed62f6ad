-- Written by this session's program wip/slim.py out of the print's texts. Lean checks it.
import Derived.Test.YteafgjebaedjbaaSFnExactTokensOkx0
import Derived.Test.YteafgjebaedjbaaSFnExactTokensOkx1
import Derived.Test.YteafgjebaedjbaaSFnExactTokensOkx2
import Derived.Test.YteafgjebaedjbaaSFnExactTokensOkx3
import Derived.Test.YteafgjebaedjbaaSFnExactTokensOkx4
import Derived.Test.YteafgjebaedjbaaSFnExactTokensOkx5
namespace Go.Proofs.Yteafgjebaedjbaa.PFnExactTokensOk
open Go.RowKit Go.Proofs.YteafgjebaedjbaaW.PrintWords Go.Proofs.YteafgjebaedjbaaW.PrintLast Go.Proofs.YteafgjebaedjbaaW.PrintMore
def q6_0 : Array Bool := bz 24 0
def q6_1 : Array Bool := bz 24 1
def q6_2 : Array Bool := bz 24 3
def q6_3 : Array Bool := bz 24 7
def q6_4 : Array Bool := bz 24 15
def q6_5 : Array Bool := bz 24 31
def q6_6 : Array Bool := bz 24 159
def q6_7 : Array Bool := bz 24 191
def q6_8 : Array Bool := bz 24 447
def q6_9 : Array Bool := bz 24 511
def q6_10 : Array Bool := bz 24 1023
def q6_11 : Array Bool := bz 24 2047
def q6_12 : Array Bool := bz 24 4095
def q6_13 : Array Bool := bz 24 8191
def q6_14 : Array Bool := bz 24 16383
def q6_15 : Array Bool := bz 24 32767
def q6_16 : Array Bool := bz 24 65535
def q6_17 : Array Bool := bz 24 131071
def q6_18 : Array Bool := bz 24 262143
def q6_19 : Array Bool := bz 24 524287
def q6_20 : Array Bool := bz 24 1048575
def q6_21 : Array Bool := bz 24 2097151
def q6_22 : Array Bool := bz 24 4194303
def q6_23 : Array Bool := bz 24 8388607
def q6_24 : Array Bool := bz 24 16777215
def q6_25 : Array Bool := bz 24 63
def q6_26 : Array Bool := bz 24 127
def q6_27 : Array Bool := bz 24 255
attribute [local go_sem] max2_int min2_int max_two min_two max_three min_three max_four min_four
set_option linter.unusedVariables false
set_option linter.unusedSimpArgs false
mutual
def spec_l5Token.j0 : Nat → Bool → Int → ByteArray → List (S117) → ByteArray → Bool → Option (Bool)
 | 0, _, _, _, _, _, _ => none
 | k + 1, x21, x173000, x173001, x173002, x173003, x173004 => if x21 = true then (some false) else (if x173000 = 1 then (if x173001.toList = ([] : List UInt8) then (some (x173003.toList != ([] : List UInt8))) else (some false)) else (if x173000 = 2 then (spec_l5Token.j1 k x173000 (x173000 == 2) x173000 x173001 x173002 x173003 x173004) else (spec_l5Token.j1 k x173000 (x173000 == 3) x173000 x173001 x173002 x173003 x173004)))
def spec_l5Token.j1 : Nat → Int → Bool → Int → ByteArray → List (S117) → ByteArray → Bool → Option (Bool)
 | 0, _, _, _, _, _, _, _ => none
 | k + 1, x23, x34, x173000, x173001, x173002, x173003, x173004 => if x34 = true then (if x173003.toList = ([] : List UInt8) then ((spec_l5Name.f k x173001 (⟨#[47, 62]⟩ : ByteArray)).bind fun t175 => (if t175 = true then (if 0 < (x173001.size : Int) then ((spec_IsLetter.f (wrap64 (bt x173001 0))).bind fun t176 => (if t176 = true then ((spec_l5Attrs.f k x173002).bind fun t177 => (some t177)) else (some false))) else (none)) else (some false))) else (some false)) else (if x23 = 4 then (if x173001.toList = ([] : List UInt8) then ((spec_l5Search.f k x173003 0 (⟨#[45, 45, 62]⟩ : ByteArray)).bind fun t178 => (if t178 < 0 then ((spec_l5Stands.f x173003 0 (⟨#[62]⟩ : ByteArray)).bind fun t179 => (if t179 = true then (some false) else ((spec_l5Stands.f x173003 0 (⟨#[45, 62]⟩ : ByteArray)).bind fun t180 => (some (!t180))))) else (some false))) else (some false)) else (if x23 = 5 then (if x173001.toList = ([] : List UInt8) then ((spec_Small.f x173003).bind fun t181 => (if t181.toList = x173003.toList then ((spec_l4Find.f k x173003 0 62).bind fun t182 => (if t182 < 0 then ((spec_l4Blanks.f k x173003 0).bind fun t183 => (some (t183 == 0))) else (some false))) else (some false))) else (some false)) else (some false)))
end
def spec_l5Token.f (k : Nat) (a0_0 : Int) (a0_1 : ByteArray) (l0_2 : List (S117)) (a0_3 : ByteArray) (a0_4 : Bool) : Option (Bool) := if a0_0 = 2 then ((spec_l5Line.f k a0_3).bind fun t173 => (spec_l5Token.j0 k (!t173) a0_0 a0_1 l0_2 a0_3 a0_4)) else (if (l0_2.length : Int) > 0 then (spec_l5Token.j0 k true a0_0 a0_1 l0_2 a0_3 a0_4) else (if a0_4 = true then (spec_l5Token.j0 k true a0_0 a0_1 l0_2 a0_3 a0_4) else ((spec_l5Line.f k a0_3).bind fun t174 => (spec_l5Token.j0 k (!t174) a0_0 a0_1 l0_2 a0_3 a0_4))))
theorem spec_l5Token.mono_l : ∀ k, (∀ y0 y1 y2 y3 y4 y5, LeO (spec_l5Token.j0 k y0 y1 y2 y3 y4 y5) (spec_l5Token.j0 (k + 1) y0 y1 y2 y3 y4 y5)) ∧ (∀ y0 y1 y2 y3 y4 y5 y6, LeO (spec_l5Token.j1 k y0 y1 y2 y3 y4 y5 y6) (spec_l5Token.j1 (k + 1) y0 y1 y2 y3 y4 y5 y6))
 | 0 => ⟨fun _ _ _ _ _ _ r h => by simp [spec_l5Token.j0] at h, fun _ _ _ _ _ _ _ r h => by simp [spec_l5Token.j1] at h⟩
 | k + 1 => by
  obtain ⟨ih0, ih1⟩ := spec_l5Token.mono_l k
  refine ⟨?_, ?_⟩
  ·intro y0 y1 y2 y3 y4 y5
   unfold spec_l5Token.j0
   repeat' first
   | (with_reducible exact ih0 _ _ _ _ _ _)
   | (with_reducible exact ih1 _ _ _ _ _ _ _)
   | (with_reducible exact spec_l4Blanks.mono _ _ _)
   | (with_reducible exact spec_l4Find.mono _ _ _ _)
   | (with_reducible exact spec_l5Attrs.mono _ _)
   | (with_reducible exact spec_l5Line.mono _ _)
   | (with_reducible exact spec_l5Name.mono _ _ _)
   | (with_reducible exact spec_l5Search.mono _ _ _ _)
   | (with_reducible exact LeO.refl _)
   | (with_reducible exact LeO.none _)
   | (with_reducible refine LeO.ite ?_ ?_)
   | (with_reducible refine LeO.bind ?_ (fun _ => ?_))
  ·intro y0 y1 y2 y3 y4 y5 y6
   unfold spec_l5Token.j1
   repeat' first
   | (with_reducible exact ih0 _ _ _ _ _ _)
   | (with_reducible exact ih1 _ _ _ _ _ _ _)
   | (with_reducible exact spec_l4Blanks.mono _ _ _)
   | (with_reducible exact spec_l4Find.mono _ _ _ _)
   | (with_reducible exact spec_l5Attrs.mono _ _)
   | (with_reducible exact spec_l5Line.mono _ _)
   | (with_reducible exact spec_l5Name.mono _ _ _)
   | (with_reducible exact spec_l5Search.mono _ _ _ _)
   | (with_reducible exact LeO.refl _)
   | (with_reducible exact LeO.none _)
   | (with_reducible refine LeO.ite ?_ ?_)
   | (with_reducible refine LeO.bind ?_ (fun _ => ?_))
theorem spec_l5Token.mono : ∀ a0 a1 a2 a3 a4 k, LeO (spec_l5Token.f k a0 a1 a2 a3 a4) (spec_l5Token.f (k + 1) a0 a1 a2 a3 a4) := by
 intro a0 a1 a2 a3 a4 k
 obtain ⟨ih0, ih1⟩ := spec_l5Token.mono_l k
 unfold spec_l5Token.f
 repeat' first
   | (with_reducible exact ih0 _ _ _ _ _ _)
   | (with_reducible exact ih1 _ _ _ _ _ _ _)
   | (with_reducible exact spec_l4Blanks.mono _ _ _)
   | (with_reducible exact spec_l4Find.mono _ _ _ _)
   | (with_reducible exact spec_l5Attrs.mono _ _)
   | (with_reducible exact spec_l5Line.mono _ _)
   | (with_reducible exact spec_l5Name.mono _ _ _)
   | (with_reducible exact spec_l5Search.mono _ _ _ _)
   | (with_reducible exact LeO.refl _)
   | (with_reducible exact LeO.none _)
   | (with_reducible refine LeO.ite ?_ ?_)
   | (with_reducible refine LeO.bind ?_ (fun _ => ?_))
def spec_l5Token.T12 : Bool × List (List Nat × List Nat) := (true, [([], []), ([0], [0]), ([1], [1]), ([2], [2]), ([3], [3]), ([4, 3], [3, 4]), ([5, 3, 3], [3, 5]), ([3], [3]), ([7, 3], [3, 7]), ([6, 8, 3], [3, 6, 8]), ([3, 9], [3, 9]), ([10, 6], [10]), ([11], [11]), ([12, 11], [11, 12]), ([13, 11, 11], [11, 13]), ([14, 11], [11, 14]), ([11, 15], [11, 15]), ([16, 14], [16]), ([17], [17]), ([18, 17], [17, 18]), ([19, 17, 17], [17, 19]), ([20, 17], [17, 20]), ([17, 21], [17, 21]), ([22, 20, 0, 1, 2, 3, 4, 5, 6, 7, 8, 9, 10, 11, 12, 13, 14, 15, 16, 17, 18, 19, 20, 21, 22], [22])])
def spec_l5Token.B12 : List Nat := [0, 1, 3, 7, 15, 31, 63, 15, 143, 511, 1023, 2047, 4095, 8191, 16383, 32767, 65535, 131071, 262143, 524287, 1048575, 2097151, 4194303, 8388607]
theorem spec_l5Token.tab12 : rtab .any (opsOf Try.f91 12) = spec_l5Token.T12 := by kernel_rfl
theorem spec_l5Token.bits12 : waitsOk spec_l5Token.T12.2 spec_l5Token.B12 = true := by kernel_rfl
theorem q_nil (l : List UInt8) : l.isEmpty = !(l != []) := by cases l <;> rfl
set_option maxHeartbeats 8000000 in
set_option maxRecDepth 100000 in
theorem spec_l5Token.calls (k : Nat) (a0_0 : Int) (a0_1 : ByteArray) (A0_2 : Option Addr) (c0_2 : Nat) (l0_2 : List (S117)) (a0_3 : ByteArray) (a0_4 : Bool) (r : Bool) (w : World) (hr0_2 : Kd.C k117 w A0_2 l0_2.length l0_2) (hc0_2 : l0_2.length ≤ c0_2) (h : spec_l5Token.f k a0_0 a0_1 l0_2 a0_3 a0_4 = some r) :
  Calls Try.prog 91 #[.agg #[.int .i64 a0_0, .string a0_1, .slice A0_2 l0_2.length c0_2, .string a0_3, .bool a0_4]] w fun e w' => e = .returned (.bool r) ∧ Below w.heap.size w w' := by
 have hu87 := Try.underlying87
 have HR0_2 := Aside0.mk hr0_2
 have HC0_2 := Aside0.mk hc0_2
 clear hr0_2 hc0_2
 have HB := Aside0.mk (Below.refl w.heap.size w)
 have H : (if a0_0 = 2 then ((spec_l5Line.f k a0_3).bind fun t173 => (spec_l5Token.j0 k (!t173) a0_0 a0_1 l0_2 a0_3 a0_4)) else (if (l0_2.length : Int) > 0 then (spec_l5Token.j0 k true a0_0 a0_1 l0_2 a0_3 a0_4) else (if a0_4 = true then (spec_l5Token.j0 k true a0_0 a0_1 l0_2 a0_3 a0_4) else ((spec_l5Line.f k a0_3).bind fun t174 => (spec_l5Token.j0 k (!t174) a0_0 a0_1 l0_2 a0_3 a0_4))))) = some r := h
 clear h
 have HC2 := Aside0.mk H
 clear H
 go_enter Try.func91, Try.ntmps91
 go_upto_region 1 with (first | ((with_reducible refine gate_dst (N := 1) rfl ?_); (try (refine gate_guard (by rfl) ?_; dsimp only)); refine box_event ?hg (N := 1) ?hd (cs := #[.int .i64 a0_0, .string a0_1, .slice A0_2 l0_2.length c0_2, .string a0_3, .bool a0_4]) (t := 87) ?hr ?_; (case hd => rfl); (case hg => rfl); (case hr => first | (go_simp; done) | (go_simp; rfl)); intro gb172 hg w3 hbox hb; have n0_ := Aside0.mk (below_step (by repeat (first | (with_reducible first | exact HB.out | apply ba_ | apply bn_ | apply b1_) | exact HB.out)) hb); have n1_ := Aside0.mk (hbox); have n2_ := Aside0.mk ((by rw [hg]; exact (below_size (by repeat (first | (with_reducible first | exact HB.out | apply ba_ | apply bn_ | apply b1_) | exact HB.out))) : w.heap.size ≤ gb172)); have n3_ := Aside0.mk ((by rw [hg]; exact (below_size (by repeat (first | (with_reducible first | exact HB.out | apply ba_ | apply bn_ | apply b1_) | exact HB.out))) : w.heap.size ≤ gb172)); clear HB; have HB := n0_; have BK172 := n1_; have GW172 := n2_; have GE172 := n3_; clear n0_ n1_ n2_ n3_; clear hb hbox hg))
 (try simp only [Act.put, sa_, sz_, ss_])
 go_cut [21] (fun v21 wc => ∃ (kq : Nat) (x21_1 : Bool), v21 = .bool x21_1 ∧ Aside0 (spec_l5Token.j0 kq x21_1 a0_0 a0_1 l0_2 a0_3 a0_4 = some r) ∧ Aside0 (kq ≤ k) ∧ Aside0 (wc.heap[gb172]? = some (.cells #[.int .i64 a0_0, .string a0_1, (.slice A0_2 l0_2.length c0_2), .string a0_3, .bool a0_4] 87 (0, 0))) ∧ Aside0 (Below w.heap.size w wc))
 case first =>
  have H := HC2.out
  clear HC2
  by_cases c4 : a0_0 = 2
  ·rw [if_pos c4] at H
   have c4b0 : (a0_0 == 2) = true := beq_iff_eq.mpr c4
   have c4b1 : (a0_0 != 2) = false := bne_eq_false_iff_eq.mpr c4
   clear c4
   (first | rw [c4b0] | (simp only [i64_w, i32_w]; rw [c4b0]) | skip)
   replace H := Option.bind_eq_some_iff.mp H
   obtain ⟨t173, A50, H⟩ := H
   replace H : (spec_l5Token.j0 k (!t173) a0_0 a0_1 l0_2 a0_3 a0_4) = some r := H
   have A5 := Aside0.mk A50
   clear A50
   try have ZA5_A12 := Aside0.mk (Option.some.inj (A12.out.symm.trans A5.out))
   have H' := Aside0.mk H
   clear H
   have hcz6_0 : w3.cell? ⟨gb172, 0, none⟩ = some (.int .i64 a0_0) := (bc_ BK172.out 0).trans rfl
   have hcz6_1 : w3.cell? ⟨gb172, 1, none⟩ = some (.string a0_1) := (bc_ BK172.out 1).trans rfl
   have hcz6_2 : w3.cell? ⟨gb172, 2, none⟩ = some (.slice A0_2 l0_2.length c0_2) := (bc_ BK172.out 2).trans rfl
   have hcz6_3 : w3.cell? ⟨gb172, 3, none⟩ = some (.string a0_3) := (bc_ BK172.out 3).trans rfl
   have hcz6_4 : w3.cell? ⟨gb172, 4, none⟩ = some (.bool a0_4) := (bc_ BK172.out 4).trans rfl
   go_wp2_with (first | (go_at_call 113; (with_reducible refine (spec_l5Line.calls k a0_3 t173 _ A5.out).mono ?_); rintro e w7 ⟨rfl, hb⟩; have n0_ := Aside0.mk (blk_below (g := gb172) (o := .cells #[.int .i64 a0_0, .string a0_1, .slice A0_2 l0_2.length c0_2, .string a0_3, .bool a0_4] 87 (0, 0)) (by (with_reducible repeat (first | refine dn_ ?_ _ | refine dd_ ?_ | refine da_ ?_ _)); exact BK172.out) hb); have n1_ := Aside0.mk (below_step (by repeat (first | (with_reducible first | exact HB.out | apply ba_ | apply bn_ | apply b1_ | refine below_set ?_ GE172.out) | exact HB.out)) hb); clear BK172; clear HB; have BK172 := n0_; have HB := n1_; clear n0_ n1_; (try clear hb)))
   go_meet
   case rel => exact ⟨_, (!t173), (by first | rfl | (simp; done) | (simp [*]; done)), H', ⟨by first | omega | exact Nat.le_refl _⟩, ⟨by (with_reducible repeat (first | refine dn_ ?_ _ | refine dd_ ?_ | refine da_ ?_ _)); exact BK172.out⟩, ⟨by repeat (first | (with_reducible first | exact HB.out | apply ba_ | apply bn_ | apply b1_ | refine below_set ?_ GE172.out) | exact HB.out)⟩⟩
  ·rw [if_neg c4] at H
   have c4b0 : (a0_0 == 2) = false := beq_eq_false_iff_ne.mpr c4
   have c4b1 : (a0_0 != 2) = true := bne_iff_ne.mpr c4
   (first | rw [c4b0] | (simp only [i64_w, i32_w]; rw [c4b0]) | skip)
   by_cases c8 : (l0_2.length : Int) > 0
   ·rw [if_pos c8] at H
    have c8b0 : decide (0 < (l0_2.length : Int)) = true := decide_eq_true c8
    have c8b1 : decide (0 < l0_2.length) = true := decide_eq_true (by omega)
    clear c8
    have H' := Aside0.mk H
    clear H
    have hcz9_0 : w3.cell? ⟨gb172, 0, none⟩ = some (.int .i64 a0_0) := (bc_ BK172.out 0).trans rfl
    have hcz9_1 : w3.cell? ⟨gb172, 1, none⟩ = some (.string a0_1) := (bc_ BK172.out 1).trans rfl
    have hcz9_2 : w3.cell? ⟨gb172, 2, none⟩ = some (.slice A0_2 l0_2.length c0_2) := (bc_ BK172.out 2).trans rfl
    have hcz9_3 : w3.cell? ⟨gb172, 3, none⟩ = some (.string a0_3) := (bc_ BK172.out 3).trans rfl
    have hcz9_4 : w3.cell? ⟨gb172, 4, none⟩ = some (.bool a0_4) := (bc_ BK172.out 4).trans rfl
    go_wp2
    go_meet
    case rel => exact ⟨_, (true), (by first | rfl | (simp; done) | (simp [*]; done)), H', ⟨by first | omega | exact Nat.le_refl _⟩, ⟨by (with_reducible repeat (first | refine dn_ ?_ _ | refine dd_ ?_ | refine da_ ?_ _)); exact BK172.out⟩, ⟨by repeat (first | (with_reducible first | exact HB.out | apply ba_ | apply bn_ | apply b1_ | refine below_set ?_ GE172.out) | exact HB.out)⟩⟩
   ·rw [if_neg c8] at H
    have c8b0 : decide (0 < (l0_2.length : Int)) = false := decide_eq_false c8
    have c8b1 : decide (0 < l0_2.length) = false := decide_eq_false (by omega)
    clear c8
    by_cases c10 : a0_4 = true
    ·subst c10
     have H1 : (spec_l5Token.j0 k true a0_0 a0_1 l0_2 a0_3 true) = some r := by rw [if_pos rfl] at H; exact H
     clear H
     have H := H1
     clear H1
     have H' := Aside0.mk H
     clear H
     have hcz11_0 : w3.cell? ⟨gb172, 0, none⟩ = some (.int .i64 a0_0) := (bc_ BK172.out 0).trans rfl
     have hcz11_1 : w3.cell? ⟨gb172, 1, none⟩ = some (.string a0_1) := (bc_ BK172.out 1).trans rfl
     have hcz11_2 : w3.cell? ⟨gb172, 2, none⟩ = some (.slice A0_2 l0_2.length c0_2) := (bc_ BK172.out 2).trans rfl
     have hcz11_3 : w3.cell? ⟨gb172, 3, none⟩ = some (.string a0_3) := (bc_ BK172.out 3).trans rfl
     have hcz11_4 : w3.cell? ⟨gb172, 4, none⟩ = some (.bool true) := (bc_ BK172.out 4).trans rfl
     go_wp2
     go_meet
     case rel => exact ⟨_, (true), (by first | rfl | (simp; done) | (simp [*]; done)), H', ⟨by first | omega | exact Nat.le_refl _⟩, ⟨by (with_reducible repeat (first | refine dn_ ?_ _ | refine dd_ ?_ | refine da_ ?_ _)); exact BK172.out⟩, ⟨by repeat (first | (with_reducible first | exact HB.out | apply ba_ | apply bn_ | apply b1_ | refine below_set ?_ GE172.out) | exact HB.out)⟩⟩
    ·replace c10 := Bool.eq_false_iff.mpr c10
     subst c10
     have H1 : ((spec_l5Line.f k a0_3).bind fun t174 => (spec_l5Token.j0 k (!t174) a0_0 a0_1 l0_2 a0_3 false)) = some r := by rw [if_neg (show ¬ (false = true) by decide)] at H; exact H
     clear H
     have H := H1
     clear H1
     replace H := Option.bind_eq_some_iff.mp H
     obtain ⟨t174, A120, H⟩ := H
     replace H : (spec_l5Token.j0 k (!t174) a0_0 a0_1 l0_2 a0_3 false) = some r := H
     have A12 := Aside0.mk A120
     clear A120
     try have ZA12_A5 := Aside0.mk (Option.some.inj (A5.out.symm.trans A12.out))
     have H' := Aside0.mk H
     clear H
     have hcz13_0 : w3.cell? ⟨gb172, 0, none⟩ = some (.int .i64 a0_0) := (bc_ BK172.out 0).trans rfl
     have hcz13_1 : w3.cell? ⟨gb172, 1, none⟩ = some (.string a0_1) := (bc_ BK172.out 1).trans rfl
     have hcz13_2 : w3.cell? ⟨gb172, 2, none⟩ = some (.slice A0_2 l0_2.length c0_2) := (bc_ BK172.out 2).trans rfl
     have hcz13_3 : w3.cell? ⟨gb172, 3, none⟩ = some (.string a0_3) := (bc_ BK172.out 3).trans rfl
     have hcz13_4 : w3.cell? ⟨gb172, 4, none⟩ = some (.bool false) := (bc_ BK172.out 4).trans rfl
     go_wp2_with (first | (go_at_call 113; (with_reducible refine (spec_l5Line.calls k a0_3 t174 _ A12.out).mono ?_); rintro e w14 ⟨rfl, hb⟩; have n0_ := Aside0.mk (blk_below (g := gb172) (o := .cells #[.int .i64 a0_0, .string a0_1, .slice A0_2 l0_2.length c0_2, .string a0_3, .bool false] 87 (0, 0)) (by (with_reducible repeat (first | refine dn_ ?_ _ | refine dd_ ?_ | refine da_ ?_ _)); exact BK172.out) hb); have n1_ := Aside0.mk (below_step (by repeat (first | (with_reducible first | exact HB.out | apply ba_ | apply bn_ | apply b1_ | refine below_set ?_ GE172.out) | exact HB.out)) hb); clear BK172; clear HB; have BK172 := n0_; have HB := n1_; clear n0_ n1_; (try clear hb)))
     go_meet
     case rel => exact ⟨_, (!t174), (by first | rfl | (simp; done) | (simp [*]; done)), H', ⟨by first | omega | exact Nat.le_refl _⟩, ⟨by (with_reducible repeat (first | refine dn_ ?_ _ | refine dd_ ?_ | refine da_ ?_ _)); exact BK172.out⟩, ⟨by repeat (first | (with_reducible first | exact HB.out | apply ba_ | apply bn_ | apply b1_ | refine below_set ?_ GE172.out) | exact HB.out)⟩⟩
 case rest =>
  clear HC2
  try clear c4
  try clear c4b0
  try clear c4b1
  try clear c8
  try clear c8b0
  try clear c8b1
  try clear c10
  try clear hcz11_0
  try clear hcz11_1
  try clear hcz11_2
  try clear hcz11_3
  try clear hcz11_4
  try clear hcz13_0
  try clear hcz13_1
  try clear hcz13_2
  try clear hcz13_3
  try clear hcz13_4
  try clear hcz6_0
  try clear hcz6_1
  try clear hcz6_2
  try clear hcz6_3
  try clear hcz6_4
  try clear hcz9_0
  try clear hcz9_1
  try clear hcz9_2
  try clear hcz9_3
  try clear hcz9_4
  obtain ⟨kq, x21_1, rfl, HA, HJ1, BK172, HB⟩ := hcut
  cases kq with
  | zero => exact absurd HA.out (by simp [spec_l5Token.j0])
  | succ kj1 =>
   have H := HA.out
   clear HA
   simp only [spec_l5Token.j0] at H
   by_cases c15 : x21_1 = true
   ·subst c15
    have H1 : (some false) = some r := by rw [if_pos rfl] at H; exact H
    clear H
    have H := H1
    clear H1
    obtain rfl := Option.some.inj H
    go_wp2
    go_ret
    exact ⟨by first | rfl | (rw [← ZA12_A5.out]; rfl) | (rw [← ZA5_A12.out]; rfl) | (simp [errW_none, errW_some] <;> rfl) | (simp [*, errW_none, errW_some] <;> rfl) | (simp [errW_none, errW_some, q_nil]; done), by repeat (first | (with_reducible first | exact HB.out | apply ba_ | apply bn_ | apply b1_ | refine below_set ?_ GE172.out) | exact HB.out)⟩
   ·replace c15 := Bool.eq_false_iff.mpr c15
    subst c15
    have H1 : (if a0_0 = 1 then (if a0_1.toList = ([] : List UInt8) then (some (a0_3.toList != ([] : List UInt8))) else (some false)) else (if a0_0 = 2 then (spec_l5Token.j1 kj1 a0_0 (a0_0 == 2) a0_0 a0_1 l0_2 a0_3 a0_4) else (spec_l5Token.j1 kj1 a0_0 (a0_0 == 3) a0_0 a0_1 l0_2 a0_3 a0_4))) = some r := by rw [if_neg (show ¬ (false = true) by decide)] at H; exact H
    clear H
    have H := H1
    clear H1
    by_cases c16 : a0_0 = 1
    ·rw [if_pos c16] at H
     have c16b0 : (a0_0 == 1) = true := beq_iff_eq.mpr c16
     have c16b1 : (a0_0 != 1) = false := bne_eq_false_iff_eq.mpr c16
     clear c16
     by_cases c17 : a0_1.toList = ([] : List UInt8)
     ·rw [if_pos c17] at H
      have c17b0 : (a0_1.toList == ([] : List UInt8)) = true := beq_iff_eq.mpr c17
      have c17b1 : (a0_1.toList != ([] : List UInt8)) = false := bne_eq_false_iff_eq.mpr c17
      clear c17
      obtain rfl := Option.some.inj H
      have hcz18_0 : wc.cell? ⟨gb172, 0, none⟩ = some (.int .i64 a0_0) := (bc_ BK172.out 0).trans rfl
      have hcz18_1 : wc.cell? ⟨gb172, 1, none⟩ = some (.string a0_1) := (bc_ BK172.out 1).trans rfl
      have hcz18_2 : wc.cell? ⟨gb172, 2, none⟩ = some (.slice A0_2 l0_2.length c0_2) := (bc_ BK172.out 2).trans rfl
      have hcz18_3 : wc.cell? ⟨gb172, 3, none⟩ = some (.string a0_3) := (bc_ BK172.out 3).trans rfl
      have hcz18_4 : wc.cell? ⟨gb172, 4, none⟩ = some (.bool a0_4) := (bc_ BK172.out 4).trans rfl
      go_wp2
      go_ret
      exact ⟨by first | rfl | (rw [← ZA12_A5.out]; rfl) | (rw [← ZA5_A12.out]; rfl) | (simp [errW_none, errW_some] <;> rfl) | (simp [*, errW_none, errW_some] <;> rfl) | (simp [errW_none, errW_some, q_nil]; done), by repeat (first | (with_reducible first | exact HB.out | apply ba_ | apply bn_ | apply b1_ | refine below_set ?_ GE172.out) | exact HB.out)⟩
     ·rw [if_neg c17] at H
      have c17b0 : (a0_1.toList == ([] : List UInt8)) = false := beq_eq_false_iff_ne.mpr c17
      have c17b1 : (a0_1.toList != ([] : List UInt8)) = true := bne_iff_ne.mpr c17
      obtain rfl := Option.some.inj H
      have hcz19_0 : wc.cell? ⟨gb172, 0, none⟩ = some (.int .i64 a0_0) := (bc_ BK172.out 0).trans rfl
      have hcz19_1 : wc.cell? ⟨gb172, 1, none⟩ = some (.string a0_1) := (bc_ BK172.out 1).trans rfl
      have hcz19_2 : wc.cell? ⟨gb172, 2, none⟩ = some (.slice A0_2 l0_2.length c0_2) := (bc_ BK172.out 2).trans rfl
      have hcz19_3 : wc.cell? ⟨gb172, 3, none⟩ = some (.string a0_3) := (bc_ BK172.out 3).trans rfl
      have hcz19_4 : wc.cell? ⟨gb172, 4, none⟩ = some (.bool a0_4) := (bc_ BK172.out 4).trans rfl
      go_wp2
      go_ret
      exact ⟨by first | rfl | (rw [← ZA12_A5.out]; rfl) | (rw [← ZA5_A12.out]; rfl) | (simp [errW_none, errW_some] <;> rfl) | (simp [*, errW_none, errW_some] <;> rfl) | (simp [errW_none, errW_some, q_nil]; done), by repeat (first | (with_reducible first | exact HB.out | apply ba_ | apply bn_ | apply b1_ | refine below_set ?_ GE172.out) | exact HB.out)⟩
    ·rw [if_neg c16] at H
     have c16b0 : (a0_0 == 1) = false := beq_eq_false_iff_ne.mpr c16
     have c16b1 : (a0_0 != 1) = true := bne_iff_ne.mpr c16
     have HC20 := Aside0.mk H
     clear H
     have hcz21_0 : wc.cell? ⟨gb172, 0, none⟩ = some (.int .i64 a0_0) := (bc_ BK172.out 0).trans rfl
     have hcz21_1 : wc.cell? ⟨gb172, 1, none⟩ = some (.string a0_1) := (bc_ BK172.out 1).trans rfl
     have hcz21_2 : wc.cell? ⟨gb172, 2, none⟩ = some (.slice A0_2 l0_2.length c0_2) := (bc_ BK172.out 2).trans rfl
     have hcz21_3 : wc.cell? ⟨gb172, 3, none⟩ = some (.string a0_3) := (bc_ BK172.out 3).trans rfl
     have hcz21_4 : wc.cell? ⟨gb172, 4, none⟩ = some (.bool a0_4) := (bc_ BK172.out 4).trans rfl
     go_upto_if 34 with (fail)
     go_cut [34] (fun v34 wc => ∃ (kq : Nat) (x34_19 : Bool), v34 = .bool x34_19 ∧ Aside0 (spec_l5Token.j1 kq a0_0 x34_19 a0_0 a0_1 l0_2 a0_3 a0_4 = some r) ∧ Aside0 (kq ≤ kj1) ∧ Aside0 (wc.heap[gb172]? = some (.cells #[.int .i64 a0_0, .string a0_1, (.slice A0_2 l0_2.length c0_2), .string a0_3, .bool a0_4] 87 (0, 0))) ∧ Aside0 (Below w.heap.size w wc))
     case first =>
      have H := HC20.out
      clear HC20
      by_cases c22 : a0_0 = 2
      ·rw [if_pos c22] at H
       have c22b0 : (a0_0 == 2) = true := beq_iff_eq.mpr c22
       have c22b1 : (a0_0 != 2) = false := bne_eq_false_iff_eq.mpr c22
       clear c22
       (first | rw [c22b0] | (simp only [i64_w, i32_w]; rw [c22b0]) | skip)
       have H' := Aside0.mk H
       clear H
       go_wp2
       go_meet
       case rel => exact ⟨_, ((a0_0 == 2)), (by first | rfl | (simp; done) | (simp [*]; done)), H', ⟨by have := HJ1.out; first | omega | exact Nat.le_refl _⟩, ⟨by (with_reducible repeat (first | refine dn_ ?_ _ | refine dd_ ?_ | refine da_ ?_ _)); exact BK172.out⟩, ⟨by repeat (first | (with_reducible first | exact HB.out | apply ba_ | apply bn_ | apply b1_ | refine below_set ?_ GE172.out) | exact HB.out)⟩⟩
      ·rw [if_neg c22] at H
       have c22b0 : (a0_0 == 2) = false := beq_eq_false_iff_ne.mpr c22
       have c22b1 : (a0_0 != 2) = true := bne_iff_ne.mpr c22
       (first | rw [c22b0] | (simp only [i64_w, i32_w]; rw [c22b0]) | skip)
       have H' := Aside0.mk H
       clear H
       go_wp2
       go_meet
       case rel => exact ⟨_, ((a0_0 == 3)), (by first | rfl | (simp; done) | (simp [*]; done)), H', ⟨by have := HJ1.out; first | omega | exact Nat.le_refl _⟩, ⟨by (with_reducible repeat (first | refine dn_ ?_ _ | refine dd_ ?_ | refine da_ ?_ _)); exact BK172.out⟩, ⟨by repeat (first | (with_reducible first | exact HB.out | apply ba_ | apply bn_ | apply b1_ | refine below_set ?_ GE172.out) | exact HB.out)⟩⟩
     case rest =>
      clear HC20
      try clear c4
      try clear c4b0
      try clear c4b1
      try clear c8
      try clear c8b0
      try clear c8b1
      try clear c10
      try clear c15
      try clear c16
      try clear c16b0
      try clear c16b1
      try clear c17
      try clear c17b0
      try clear c17b1
      try clear c22
      try clear c22b0
      try clear c22b1
      try clear hcz11_0
      try clear hcz11_1
      try clear hcz11_2
      try clear hcz11_3
      try clear hcz11_4
      try clear hcz13_0
      try clear hcz13_1
      try clear hcz13_2
      try clear hcz13_3
      try clear hcz13_4
      try clear hcz18_0
      try clear hcz18_1
      try clear hcz18_2
      try clear hcz18_3
      try clear hcz18_4
      try clear hcz19_0
      try clear hcz19_1
      try clear hcz19_2
      try clear hcz19_3
      try clear hcz19_4
      try clear hcz21_0
      try clear hcz21_1
      try clear hcz21_2
      try clear hcz21_3
      try clear hcz21_4
      try clear hcz6_0
      try clear hcz6_1
      try clear hcz6_2
      try clear hcz6_3
      try clear hcz6_4
      try clear hcz9_0
      try clear hcz9_1
      try clear hcz9_2
      try clear hcz9_3
      try clear hcz9_4
      obtain ⟨kq, x34_19, rfl, HA, HJ19, BK172, HB⟩ := hcut
      cases kq with
      | zero => exact absurd HA.out (by simp [spec_l5Token.j1])
      | succ kj19 =>
       have H := HA.out
       clear HA
       simp only [spec_l5Token.j1] at H
       by_cases c23 : x34_19 = true
       ·subst c23
        have H1 : (if a0_3.toList = ([] : List UInt8) then ((spec_l5Name.f kj19 a0_1 (⟨#[47, 62]⟩ : ByteArray)).bind fun t175 => (if t175 = true then (if 0 < (a0_1.size : Int) then ((spec_IsLetter.f (wrap64 (bt a0_1 0))).bind fun t176 => (if t176 = true then ((spec_l5Attrs.f kj19 l0_2).bind fun t177 => (some t177)) else (some false))) else (none)) else (some false))) else (some false)) = some r := by rw [if_pos rfl] at H; exact H
        clear H
        have H := H1
        clear H1
        by_cases c24 : a0_3.toList = ([] : List UInt8)
        ·rw [if_pos c24] at H
         have c24b0 : (a0_3.toList == ([] : List UInt8)) = true := beq_iff_eq.mpr c24
         have c24b1 : (a0_3.toList != ([] : List UInt8)) = false := bne_eq_false_iff_eq.mpr c24
         clear c24
         replace H := Option.bind_eq_some_iff.mp H
         obtain ⟨t175, A250, H⟩ := H
         replace H : (if t175 = true then (if 0 < (a0_1.size : Int) then ((spec_IsLetter.f (wrap64 (bt a0_1 0))).bind fun t176 => (if t176 = true then ((spec_l5Attrs.f kj19 l0_2).bind fun t177 => (some t177)) else (some false))) else (none)) else (some false)) = some r := H
         have A25 := Aside0.mk A250
         clear A250
         by_cases c26 : t175 = true
         ·subst c26
          have H1 : (if 0 < (a0_1.size : Int) then ((spec_IsLetter.f (wrap64 (bt a0_1 0))).bind fun t176 => (if t176 = true then ((spec_l5Attrs.f kj19 l0_2).bind fun t177 => (some t177)) else (some false))) else (none)) = some r := by rw [if_pos rfl] at H; exact H
          clear H
          have H := H1
          clear H1
          by_cases c27 : 0 < (a0_1.size : Int)
          ·rw [if_pos c27] at H
           have c27b0 : decide (0 < (a0_1.size : Int)) = true := decide_eq_true c27
           have c27b1 : decide (0 < a0_1.size) = true := decide_eq_true (by omega)
           clear c27
           replace H := Option.bind_eq_some_iff.mp H
           obtain ⟨t176, A290, H⟩ := H
           replace H : (if t176 = true then ((spec_l5Attrs.f kj19 l0_2).bind fun t177 => (some t177)) else (some false)) = some r := H
           have A29 := Aside0.mk A290
           clear A290
           by_cases c30 : t176 = true
           ·subst c30
            have H1 : ((spec_l5Attrs.f kj19 l0_2).bind fun t177 => (some t177)) = some r := by rw [if_pos rfl] at H; exact H
            clear H
            have H := H1
            clear H1
            replace H := Option.bind_eq_some_iff.mp H
            obtain ⟨t177, A310, H⟩ := H
            replace H : (some t177) = some r := H
            have A31 := Aside0.mk A310
            clear A310
            obtain rfl := Option.some.inj H
            have hcz32_0 : wc.cell? ⟨gb172, 0, none⟩ = some (.int .i64 a0_0) := (bc_ BK172.out 0).trans rfl
            have hcz32_1 : wc.cell? ⟨gb172, 1, none⟩ = some (.string a0_1) := (bc_ BK172.out 1).trans rfl
            have hcz32_2 : wc.cell? ⟨gb172, 2, none⟩ = some (.slice A0_2 l0_2.length c0_2) := (bc_ BK172.out 2).trans rfl
            have hcz32_3 : wc.cell? ⟨gb172, 3, none⟩ = some (.string a0_3) := (bc_ BK172.out 3).trans rfl
            have hcz32_4 : wc.cell? ⟨gb172, 4, none⟩ = some (.bool a0_4) := (bc_ BK172.out 4).trans rfl
            go_wp2_with (first | (go_at_call 114; (with_reducible refine (spec_l5Name.calls kj19 a0_1 (⟨#[47, 62]⟩ : ByteArray) true _ A25.out).mono ?_); rintro e w33 ⟨rfl, hb⟩; have n0_ := Aside0.mk (blk_below (g := gb172) (o := .cells #[.int .i64 a0_0, .string a0_1, .slice A0_2 l0_2.length c0_2, .string a0_3, .bool a0_4] 87 (0, 0)) (by (with_reducible repeat (first | refine dn_ ?_ _ | refine dd_ ?_ | refine da_ ?_ _)); exact BK172.out) hb); have n1_ := Aside0.mk (below_step (by repeat (first | (with_reducible first | exact HB.out | apply ba_ | apply bn_ | apply b1_ | refine below_set ?_ GE172.out) | exact HB.out)) hb); clear BK172; clear HB; have BK172 := n0_; have HB := n1_; clear n0_ n1_; (try clear hb); have hcz34_0 : w33.cell? ⟨gb172, 0, none⟩ = some (.int .i64 a0_0) := (bc_ BK172.out 0).trans rfl; have hcz34_1 : w33.cell? ⟨gb172, 1, none⟩ = some (.string a0_1) := (bc_ BK172.out 1).trans rfl; have hcz34_2 : w33.cell? ⟨gb172, 2, none⟩ = some (.slice A0_2 l0_2.length c0_2) := (bc_ BK172.out 2).trans rfl; have hcz34_3 : w33.cell? ⟨gb172, 3, none⟩ = some (.string a0_3) := (bc_ BK172.out 3).trans rfl; have hcz34_4 : w33.cell? ⟨gb172, 4, none⟩ = some (.bool a0_4) := (bc_ BK172.out 4).trans rfl; have p28 : 0 ≤ (0 : Int) := (by omega); have q28 : 0 < a0_1.size := (by have : (0 : Int) < (a0_1.size : Int) := dq_ (by assumption); omega); have hx28 : ∀ h : 0 < a0_1.size, ((a0_1[0]'h).toNat : Int) = bt a0_1 0 := bt_at a0_1 0; clear p28; have qi28 : (0 < (a0_1.size : Int)) = True := eq_true (dq_ (by assumption)); replace q28 := eq_true q28) | (go_at_call 69; (with_reducible refine (spec_IsLetter.calls (wrap64 (bt a0_1 0)) true _ A29.out).mono ?_); rintro e w' ⟨rfl, ⟨nd, rfl⟩⟩) | (go_at_call 115; (with_reducible refine (spec_l5Attrs.calls kj19 _ _ l0_2 t177 _ ?side1 ?side2 A31.out).mono ?_); (case side1 => repeat (first | exact (Kd.C_below HR0_2.out (by repeat (first | (with_reducible first | exact HB.out | apply ba_ | apply bn_ | apply b1_ | refine below_set ?_ GE172.out) | exact HB.out))) | (with_reducible refine ca_ ?_ _) | (with_reducible refine cn_ ?_ _) | (with_reducible refine cd_ ?_))); (case side2 => exact HC0_2.out); rintro e w35 ⟨rfl, hb⟩; have n0_ := Aside0.mk (blk_below (g := gb172) (o := .cells #[.int .i64 a0_0, .string a0_1, .slice A0_2 l0_2.length c0_2, .string a0_3, .bool a0_4] 87 (0, 0)) (by (with_reducible repeat (first | refine dn_ ?_ _ | refine dd_ ?_ | refine da_ ?_ _)); exact BK172.out) hb); have n1_ := Aside0.mk (below_step (by repeat (first | (with_reducible first | exact HB.out | apply ba_ | apply bn_ | apply b1_ | refine below_set ?_ GE172.out) | exact HB.out)) hb); clear BK172; clear HB; have BK172 := n0_; have HB := n1_; clear n0_ n1_; (try clear hb)))
            go_ret
            exact ⟨by first | rfl | (rw [← ZA12_A5.out]; rfl) | (rw [← ZA5_A12.out]; rfl) | (simp [errW_none, errW_some] <;> rfl) | (simp [*, errW_none, errW_some] <;> rfl) | (simp [errW_none, errW_some, q_nil]; done), by repeat (first | (with_reducible first | exact HB.out | apply ba_ | apply bn_ | apply b1_ | refine below_set ?_ GE172.out) | exact HB.out)⟩
           ·replace c30 := Bool.eq_false_iff.mpr c30
            subst c30
            have H1 : (some false) = some r := by rw [if_neg (show ¬ (false = true) by decide)] at H; exact H
            clear H
            have H := H1
            clear H1
            obtain rfl := Option.some.inj H
            have hcz36_0 : wc.cell? ⟨gb172, 0, none⟩ = some (.int .i64 a0_0) := (bc_ BK172.out 0).trans rfl
            have hcz36_1 : wc.cell? ⟨gb172, 1, none⟩ = some (.string a0_1) := (bc_ BK172.out 1).trans rfl
            have hcz36_2 : wc.cell? ⟨gb172, 2, none⟩ = some (.slice A0_2 l0_2.length c0_2) := (bc_ BK172.out 2).trans rfl
            have hcz36_3 : wc.cell? ⟨gb172, 3, none⟩ = some (.string a0_3) := (bc_ BK172.out 3).trans rfl
            have hcz36_4 : wc.cell? ⟨gb172, 4, none⟩ = some (.bool a0_4) := (bc_ BK172.out 4).trans rfl
            go_wp2_with (first | (go_at_call 114; (with_reducible refine (spec_l5Name.calls kj19 a0_1 (⟨#[47, 62]⟩ : ByteArray) true _ A25.out).mono ?_); rintro e w37 ⟨rfl, hb⟩; have n0_ := Aside0.mk (blk_below (g := gb172) (o := .cells #[.int .i64 a0_0, .string a0_1, .slice A0_2 l0_2.length c0_2, .string a0_3, .bool a0_4] 87 (0, 0)) (by (with_reducible repeat (first | refine dn_ ?_ _ | refine dd_ ?_ | refine da_ ?_ _)); exact BK172.out) hb); have n1_ := Aside0.mk (below_step (by repeat (first | (with_reducible first | exact HB.out | apply ba_ | apply bn_ | apply b1_ | refine below_set ?_ GE172.out) | exact HB.out)) hb); clear BK172; clear HB; have BK172 := n0_; have HB := n1_; clear n0_ n1_; (try clear hb); have hcz38_0 : w37.cell? ⟨gb172, 0, none⟩ = some (.int .i64 a0_0) := (bc_ BK172.out 0).trans rfl; have hcz38_1 : w37.cell? ⟨gb172, 1, none⟩ = some (.string a0_1) := (bc_ BK172.out 1).trans rfl; have hcz38_2 : w37.cell? ⟨gb172, 2, none⟩ = some (.slice A0_2 l0_2.length c0_2) := (bc_ BK172.out 2).trans rfl; have hcz38_3 : w37.cell? ⟨gb172, 3, none⟩ = some (.string a0_3) := (bc_ BK172.out 3).trans rfl; have hcz38_4 : w37.cell? ⟨gb172, 4, none⟩ = some (.bool a0_4) := (bc_ BK172.out 4).trans rfl; have p28 : 0 ≤ (0 : Int) := (by omega); have q28 : 0 < a0_1.size := (by have : (0 : Int) < (a0_1.size : Int) := dq_ (by assumption); omega); have hx28 : ∀ h : 0 < a0_1.size, ((a0_1[0]'h).toNat : Int) = bt a0_1 0 := bt_at a0_1 0; clear p28; have qi28 : (0 < (a0_1.size : Int)) = True := eq_true (dq_ (by assumption)); replace q28 := eq_true q28) | (go_at_call 69; (with_reducible refine (spec_IsLetter.calls (wrap64 (bt a0_1 0)) false _ A29.out).mono ?_); rintro e w' ⟨rfl, ⟨nd, rfl⟩⟩))
            go_ret
            exact ⟨by first | rfl | (rw [← ZA12_A5.out]; rfl) | (rw [← ZA5_A12.out]; rfl) | (simp [errW_none, errW_some] <;> rfl) | (simp [*, errW_none, errW_some] <;> rfl) | (simp [errW_none, errW_some, q_nil]; done), by repeat (first | (with_reducible first | exact HB.out | apply ba_ | apply bn_ | apply b1_ | refine below_set ?_ GE172.out) | exact HB.out)⟩
          ·rw [if_neg c27] at H
           exact absurd H (by simp)
         ·replace c26 := Bool.eq_false_iff.mpr c26
          subst c26
          have H1 : (some false) = some r := by rw [if_neg (show ¬ (false = true) by decide)] at H; exact H
          clear H
          have H := H1
          clear H1
          obtain rfl := Option.some.inj H
          have hcz39_0 : wc.cell? ⟨gb172, 0, none⟩ = some (.int .i64 a0_0) := (bc_ BK172.out 0).trans rfl
          have hcz39_1 : wc.cell? ⟨gb172, 1, none⟩ = some (.string a0_1) := (bc_ BK172.out 1).trans rfl
          have hcz39_2 : wc.cell? ⟨gb172, 2, none⟩ = some (.slice A0_2 l0_2.length c0_2) := (bc_ BK172.out 2).trans rfl
          have hcz39_3 : wc.cell? ⟨gb172, 3, none⟩ = some (.string a0_3) := (bc_ BK172.out 3).trans rfl
          have hcz39_4 : wc.cell? ⟨gb172, 4, none⟩ = some (.bool a0_4) := (bc_ BK172.out 4).trans rfl
          go_wp2_with (first | (go_at_call 114; (with_reducible refine (spec_l5Name.calls kj19 a0_1 (⟨#[47, 62]⟩ : ByteArray) false _ A25.out).mono ?_); rintro e w40 ⟨rfl, hb⟩; have n0_ := Aside0.mk (blk_below (g := gb172) (o := .cells #[.int .i64 a0_0, .string a0_1, .slice A0_2 l0_2.length c0_2, .string a0_3, .bool a0_4] 87 (0, 0)) (by (with_reducible repeat (first | refine dn_ ?_ _ | refine dd_ ?_ | refine da_ ?_ _)); exact BK172.out) hb); have n1_ := Aside0.mk (below_step (by repeat (first | (with_reducible first | exact HB.out | apply ba_ | apply bn_ | apply b1_ | refine below_set ?_ GE172.out) | exact HB.out)) hb); clear BK172; clear HB; have BK172 := n0_; have HB := n1_; clear n0_ n1_; (try clear hb)))
          go_ret
          exact ⟨by first | rfl | (rw [← ZA12_A5.out]; rfl) | (rw [← ZA5_A12.out]; rfl) | (simp [errW_none, errW_some] <;> rfl) | (simp [*, errW_none, errW_some] <;> rfl) | (simp [errW_none, errW_some, q_nil]; done), by repeat (first | (with_reducible first | exact HB.out | apply ba_ | apply bn_ | apply b1_ | refine below_set ?_ GE172.out) | exact HB.out)⟩
        ·rw [if_neg c24] at H
         have c24b0 : (a0_3.toList == ([] : List UInt8)) = false := beq_eq_false_iff_ne.mpr c24
         have c24b1 : (a0_3.toList != ([] : List UInt8)) = true := bne_iff_ne.mpr c24
         obtain rfl := Option.some.inj H
         have hcz41_0 : wc.cell? ⟨gb172, 0, none⟩ = some (.int .i64 a0_0) := (bc_ BK172.out 0).trans rfl
         have hcz41_1 : wc.cell? ⟨gb172, 1, none⟩ = some (.string a0_1) := (bc_ BK172.out 1).trans rfl
         have hcz41_2 : wc.cell? ⟨gb172, 2, none⟩ = some (.slice A0_2 l0_2.length c0_2) := (bc_ BK172.out 2).trans rfl
         have hcz41_3 : wc.cell? ⟨gb172, 3, none⟩ = some (.string a0_3) := (bc_ BK172.out 3).trans rfl
         have hcz41_4 : wc.cell? ⟨gb172, 4, none⟩ = some (.bool a0_4) := (bc_ BK172.out 4).trans rfl
         go_wp2
         go_ret
         exact ⟨by first | rfl | (rw [← ZA12_A5.out]; rfl) | (rw [← ZA5_A12.out]; rfl) | (simp [errW_none, errW_some] <;> rfl) | (simp [*, errW_none, errW_some] <;> rfl) | (simp [errW_none, errW_some, q_nil]; done), by repeat (first | (with_reducible first | exact HB.out | apply ba_ | apply bn_ | apply b1_ | refine below_set ?_ GE172.out) | exact HB.out)⟩
       ·replace c23 := Bool.eq_false_iff.mpr c23
        subst c23
        have H1 : (if a0_0 = 4 then (if a0_1.toList = ([] : List UInt8) then ((spec_l5Search.f kj19 a0_3 0 (⟨#[45, 45, 62]⟩ : ByteArray)).bind fun t178 => (if t178 < 0 then ((spec_l5Stands.f a0_3 0 (⟨#[62]⟩ : ByteArray)).bind fun t179 => (if t179 = true then (some false) else ((spec_l5Stands.f a0_3 0 (⟨#[45, 62]⟩ : ByteArray)).bind fun t180 => (some (!t180))))) else (some false))) else (some false)) else (if a0_0 = 5 then (if a0_1.toList = ([] : List UInt8) then ((spec_Small.f a0_3).bind fun t181 => (if t181.toList = a0_3.toList then ((spec_l4Find.f kj19 a0_3 0 62).bind fun t182 => (if t182 < 0 then ((spec_l4Blanks.f kj19 a0_3 0).bind fun t183 => (some (t183 == 0))) else (some false))) else (some false))) else (some false)) else (some false))) = some r := by rw [if_neg (show ¬ (false = true) by decide)] at H; exact H
        clear H
        have H := H1
        clear H1
        by_cases c42 : a0_0 = 4
        ·rw [if_pos c42] at H
         have c42b0 : (a0_0 == 4) = true := beq_iff_eq.mpr c42
         have c42b1 : (a0_0 != 4) = false := bne_eq_false_iff_eq.mpr c42
         clear c42
         by_cases c43 : a0_1.toList = ([] : List UInt8)
         ·rw [if_pos c43] at H
          have c43b0 : (a0_1.toList == ([] : List UInt8)) = true := beq_iff_eq.mpr c43
          have c43b1 : (a0_1.toList != ([] : List UInt8)) = false := bne_eq_false_iff_eq.mpr c43
          clear c43
          replace H := Option.bind_eq_some_iff.mp H
          obtain ⟨t178, A440, H⟩ := H
          replace H : (if t178 < 0 then ((spec_l5Stands.f a0_3 0 (⟨#[62]⟩ : ByteArray)).bind fun t179 => (if t179 = true then (some false) else ((spec_l5Stands.f a0_3 0 (⟨#[45, 62]⟩ : ByteArray)).bind fun t180 => (some (!t180))))) else (some false)) = some r := H
          have A44 := Aside0.mk A440
          clear A440
          by_cases c45 : t178 < 0
          ·rw [if_pos c45] at H
           have c45b0 : decide (t178 < 0) = true := decide_eq_true c45
           clear c45
           replace H := Option.bind_eq_some_iff.mp H
           obtain ⟨t179, A460, H⟩ := H
           replace H : (if t179 = true then (some false) else ((spec_l5Stands.f a0_3 0 (⟨#[45, 62]⟩ : ByteArray)).bind fun t180 => (some (!t180)))) = some r := H
           have A46 := Aside0.mk A460
           clear A460
           by_cases c47 : t179 = true
           ·subst c47
            have H1 : (some false) = some r := by rw [if_pos rfl] at H; exact H
            clear H
            have H := H1
            clear H1
            obtain rfl := Option.some.inj H
            have hcz48_0 : wc.cell? ⟨gb172, 0, none⟩ = some (.int .i64 a0_0) := (bc_ BK172.out 0).trans rfl
            have hcz48_1 : wc.cell? ⟨gb172, 1, none⟩ = some (.string a0_1) := (bc_ BK172.out 1).trans rfl
            have hcz48_2 : wc.cell? ⟨gb172, 2, none⟩ = some (.slice A0_2 l0_2.length c0_2) := (bc_ BK172.out 2).trans rfl
            have hcz48_3 : wc.cell? ⟨gb172, 3, none⟩ = some (.string a0_3) := (bc_ BK172.out 3).trans rfl
            have hcz48_4 : wc.cell? ⟨gb172, 4, none⟩ = some (.bool a0_4) := (bc_ BK172.out 4).trans rfl
            go_wp2_with (first | (go_at_call 116; (with_reducible refine (spec_l5Search.calls kj19 a0_3 0 (⟨#[45, 45, 62]⟩ : ByteArray) t178 _ A44.out).mono ?_); rintro e w' ⟨rfl, ⟨nd, rfl⟩⟩) | (go_at_call 117; (with_reducible refine (spec_l5Stands.calls a0_3 0 (⟨#[62]⟩ : ByteArray) true _ A46.out).mono ?_); rintro e w' ⟨rfl, ⟨nd, rfl⟩⟩))
            go_ret
            exact ⟨by first | rfl | (rw [← ZA12_A5.out]; rfl) | (rw [← ZA5_A12.out]; rfl) | (simp [errW_none, errW_some] <;> rfl) | (simp [*, errW_none, errW_some] <;> rfl) | (simp [errW_none, errW_some, q_nil]; done), by repeat (first | (with_reducible first | exact HB.out | apply ba_ | apply bn_ | apply b1_ | refine below_set ?_ GE172.out) | exact HB.out)⟩
           ·replace c47 := Bool.eq_false_iff.mpr c47
            subst c47
            have H1 : ((spec_l5Stands.f a0_3 0 (⟨#[45, 62]⟩ : ByteArray)).bind fun t180 => (some (!t180))) = some r := by rw [if_neg (show ¬ (false = true) by decide)] at H; exact H
            clear H
            have H := H1
            clear H1
            replace H := Option.bind_eq_some_iff.mp H
            obtain ⟨t180, A490, H⟩ := H
            replace H : (some (!t180)) = some r := H
            have A49 := Aside0.mk A490
            clear A490
            obtain rfl := Option.some.inj H
            have hcz50_0 : wc.cell? ⟨gb172, 0, none⟩ = some (.int .i64 a0_0) := (bc_ BK172.out 0).trans rfl
            have hcz50_1 : wc.cell? ⟨gb172, 1, none⟩ = some (.string a0_1) := (bc_ BK172.out 1).trans rfl
            have hcz50_2 : wc.cell? ⟨gb172, 2, none⟩ = some (.slice A0_2 l0_2.length c0_2) := (bc_ BK172.out 2).trans rfl
            have hcz50_3 : wc.cell? ⟨gb172, 3, none⟩ = some (.string a0_3) := (bc_ BK172.out 3).trans rfl
            have hcz50_4 : wc.cell? ⟨gb172, 4, none⟩ = some (.bool a0_4) := (bc_ BK172.out 4).trans rfl
            go_wp2_with (first | (go_at_call 116; (with_reducible refine (spec_l5Search.calls kj19 a0_3 0 (⟨#[45, 45, 62]⟩ : ByteArray) t178 _ A44.out).mono ?_); rintro e w' ⟨rfl, ⟨nd, rfl⟩⟩) | (go_at_call 117; (with_reducible refine (spec_l5Stands.calls a0_3 0 (⟨#[62]⟩ : ByteArray) false _ A46.out).mono ?_); rintro e w' ⟨rfl, ⟨nd, rfl⟩⟩) | (go_at_call 117; (with_reducible refine (spec_l5Stands.calls a0_3 0 (⟨#[45, 62]⟩ : ByteArray) t180 _ A49.out).mono ?_); rintro e w' ⟨rfl, ⟨nd, rfl⟩⟩))
            go_ret
            exact ⟨by first | rfl | (rw [← ZA12_A5.out]; rfl) | (rw [← ZA5_A12.out]; rfl) | (simp [errW_none, errW_some] <;> rfl) | (simp [*, errW_none, errW_some] <;> rfl) | (simp [errW_none, errW_some, q_nil]; done), by repeat (first | (with_reducible first | exact HB.out | apply ba_ | apply bn_ | apply b1_ | refine below_set ?_ GE172.out) | exact HB.out)⟩
          ·rw [if_neg c45] at H
           have c45b0 : decide (t178 < 0) = false := decide_eq_false c45
           clear c45
           obtain rfl := Option.some.inj H
           have hcz51_0 : wc.cell? ⟨gb172, 0, none⟩ = some (.int .i64 a0_0) := (bc_ BK172.out 0).trans rfl
           have hcz51_1 : wc.cell? ⟨gb172, 1, none⟩ = some (.string a0_1) := (bc_ BK172.out 1).trans rfl
           have hcz51_2 : wc.cell? ⟨gb172, 2, none⟩ = some (.slice A0_2 l0_2.length c0_2) := (bc_ BK172.out 2).trans rfl
           have hcz51_3 : wc.cell? ⟨gb172, 3, none⟩ = some (.string a0_3) := (bc_ BK172.out 3).trans rfl
           have hcz51_4 : wc.cell? ⟨gb172, 4, none⟩ = some (.bool a0_4) := (bc_ BK172.out 4).trans rfl
           go_wp2_with (first | (go_at_call 116; (with_reducible refine (spec_l5Search.calls kj19 a0_3 0 (⟨#[45, 45, 62]⟩ : ByteArray) t178 _ A44.out).mono ?_); rintro e w' ⟨rfl, ⟨nd, rfl⟩⟩))
           go_ret
           exact ⟨by first | rfl | (rw [← ZA12_A5.out]; rfl) | (rw [← ZA5_A12.out]; rfl) | (simp [errW_none, errW_some] <;> rfl) | (simp [*, errW_none, errW_some] <;> rfl) | (simp [errW_none, errW_some, q_nil]; done), by repeat (first | (with_reducible first | exact HB.out | apply ba_ | apply bn_ | apply b1_ | refine below_set ?_ GE172.out) | exact HB.out)⟩
         ·rw [if_neg c43] at H
          have c43b0 : (a0_1.toList == ([] : List UInt8)) = false := beq_eq_false_iff_ne.mpr c43
          have c43b1 : (a0_1.toList != ([] : List UInt8)) = true := bne_iff_ne.mpr c43
          obtain rfl := Option.some.inj H
          have hcz52_0 : wc.cell? ⟨gb172, 0, none⟩ = some (.int .i64 a0_0) := (bc_ BK172.out 0).trans rfl
          have hcz52_1 : wc.cell? ⟨gb172, 1, none⟩ = some (.string a0_1) := (bc_ BK172.out 1).trans rfl
          have hcz52_2 : wc.cell? ⟨gb172, 2, none⟩ = some (.slice A0_2 l0_2.length c0_2) := (bc_ BK172.out 2).trans rfl
          have hcz52_3 : wc.cell? ⟨gb172, 3, none⟩ = some (.string a0_3) := (bc_ BK172.out 3).trans rfl
          have hcz52_4 : wc.cell? ⟨gb172, 4, none⟩ = some (.bool a0_4) := (bc_ BK172.out 4).trans rfl
          go_wp2
          go_ret
          exact ⟨by first | rfl | (rw [← ZA12_A5.out]; rfl) | (rw [← ZA5_A12.out]; rfl) | (simp [errW_none, errW_some] <;> rfl) | (simp [*, errW_none, errW_some] <;> rfl) | (simp [errW_none, errW_some, q_nil]; done), by repeat (first | (with_reducible first | exact HB.out | apply ba_ | apply bn_ | apply b1_ | refine below_set ?_ GE172.out) | exact HB.out)⟩
        ·rw [if_neg c42] at H
         have c42b0 : (a0_0 == 4) = false := beq_eq_false_iff_ne.mpr c42
         have c42b1 : (a0_0 != 4) = true := bne_iff_ne.mpr c42
         by_cases c53 : a0_0 = 5
         ·rw [if_pos c53] at H
          have c53b0 : (a0_0 == 5) = true := beq_iff_eq.mpr c53
          have c53b1 : (a0_0 != 5) = false := bne_eq_false_iff_eq.mpr c53
          clear c53
          by_cases c54 : a0_1.toList = ([] : List UInt8)
          ·rw [if_pos c54] at H
           have c54b0 : (a0_1.toList == ([] : List UInt8)) = true := beq_iff_eq.mpr c54
           have c54b1 : (a0_1.toList != ([] : List UInt8)) = false := bne_eq_false_iff_eq.mpr c54
           clear c54
           replace H := Option.bind_eq_some_iff.mp H
           obtain ⟨t181, A550, H⟩ := H
           replace H : (if t181.toList = a0_3.toList then ((spec_l4Find.f kj19 a0_3 0 62).bind fun t182 => (if t182 < 0 then ((spec_l4Blanks.f kj19 a0_3 0).bind fun t183 => (some (t183 == 0))) else (some false))) else (some false)) = some r := H
           have A55 := Aside0.mk A550
           clear A550
           by_cases c56 : t181.toList = a0_3.toList
           ·rw [if_pos c56] at H
            have c56b0 : (t181.toList == a0_3.toList) = true := beq_iff_eq.mpr c56
            have c56b1 : (t181.toList != a0_3.toList) = false := bne_eq_false_iff_eq.mpr c56
            clear c56
            replace H := Option.bind_eq_some_iff.mp H
            obtain ⟨t182, A570, H⟩ := H
            replace H : (if t182 < 0 then ((spec_l4Blanks.f kj19 a0_3 0).bind fun t183 => (some (t183 == 0))) else (some false)) = some r := H
            have A57 := Aside0.mk A570
            clear A570
            by_cases c58 : t182 < 0
            ·rw [if_pos c58] at H
             have c58b0 : decide (t182 < 0) = true := decide_eq_true c58
             clear c58
             replace H := Option.bind_eq_some_iff.mp H
             obtain ⟨t183, A590, H⟩ := H
             replace H : (some (t183 == 0)) = some r := H
             have A59 := Aside0.mk A590
             clear A590
             obtain rfl := Option.some.inj H
             try go_wp2
             have n0_ := Aside0.mk (dd_ BK172.out)
             have n1_ := Aside0.mk (b1_ HB.out)
             clear BK172
             clear HB
             have BK172 := n0_
             have HB := n1_
             clear n0_ n1_
             refine start_ (n := 24) (S := fun w' => w'.cell? ⟨gb172, 0, none⟩ = some (.int .i64 a0_0) ∧ w'.cell? ⟨gb172, 1, none⟩ = some (.string a0_1) ∧ w'.cell? ⟨gb172, 2, none⟩ = some (.slice A0_2 l0_2.length c0_2) ∧ w'.cell? ⟨gb172, 3, none⟩ = some (.string a0_3) ∧ w'.cell? ⟨gb172, 4, none⟩ = some (.bool a0_4)) (ds := []) q6_0 (by kernel_rfl) rfl rfl ⟨(bc_ BK172.out 0).trans rfl, (bc_ BK172.out 1).trans rfl, (bc_ BK172.out 2).trans rfl, (bc_ BK172.out 3).trans rfl, (bc_ BK172.out 4).trans rfl⟩ (fun hHeld => ?_); refine with_tabW spec_l5Token.tab12 spec_l5Token.bits12 (fun HT_ HW_ => ?_)
             generalize wc.drew = w60 at BK172 HB hHeld ⊢
             refine pn_ HT_ 0 82 ?_ ?_ q6_1 rfl rfl (by kernel_rfl) (fun _ _ _ h => h) (by rfl) ?_ ?_ ?_
             rotate_left 2;(intro w';go_simp;with_reducible rfl);(simp only [Act.put, sa_, sz_, ss_, i64_w, i32_w];rfl)
             refine tn_ HT_ HW_ 1 83 ?_ ?_ q6_2 rfl rfl (by kernel_rfl) (fun _ _ _ h => h) (by rfl) hHeld ?_ ?_ ?_
             rotate_left 2;(rintro w' ⟨s0, s1, s2, s3, s4⟩;go_simp;with_reducible rfl);(simp only [Act.put, sa_, sz_, ss_, i64_w, i32_w];rfl)
             refine pn_ HT_ 2 84 ?_ ?_ q6_3 rfl rfl (by kernel_rfl) (fun _ _ _ h => h) (by rfl) ?_ ?_ ?_
             rotate_left 2;(intro w';go_simp;with_reducible rfl);(simp only [Act.put, sa_, sz_, ss_, i64_w, i32_w];rfl)
             refine pn_ HT_ 3 85 ?_ ?_ q6_4 rfl rfl (by kernel_rfl) (fun _ _ _ h => h) (by rfl) ?_ ?_ ?_
             rotate_left 2;(intro w';go_simp;with_reducible rfl);(simp only [Act.put, sa_, sz_, ss_, i64_w, i32_w];rfl)
             refine pn_ HT_ 4 86 ?_ ?_ q6_5 rfl rfl (by kernel_rfl) (fun _ _ _ h => h) (by rfl) ?_ ?_ ?_
             rotate_left 2;(intro w';go_simp;with_reducible rfl);(simp only [Act.put, sa_, sz_, ss_, i64_w, i32_w];rfl)
             refine pn_ HT_ 7 89 ?_ ?_ q6_6 rfl rfl (by kernel_rfl) (fun _ _ _ h => h) (by rfl) ?_ ?_ ?_
             rotate_left 2;(intro w';go_simp;with_reducible rfl);(simp only [Act.put, sa_, sz_, ss_, i64_w, i32_w];rfl)
             refine tn_ HT_ HW_ 5 87 ?_ ?_ q6_7 rfl rfl (by kernel_rfl) (fun _ _ _ h => h) (by rfl) hHeld ?_ ?_ ?_
             rotate_left 2;(rintro w' ⟨s0, s1, s2, s3, s4⟩;go_simp;with_reducible rfl);(simp only [Act.put, sa_, sz_, ss_, i64_w, i32_w];rfl)
             refine tn_ HT_ HW_ 8 90 ?_ ?_ q6_8 rfl rfl (by kernel_rfl) (fun _ _ _ h => h) (by rfl) hHeld ?_ ?_ ?_
             rotate_left 2;(rintro w' ⟨s0, s1, s2, s3, s4⟩;go_simp;with_reducible rfl);(simp only [Act.put, sa_, sz_, ss_, i64_w, i32_w];rfl)
             refine on_ HT_ 6 88 q6_9 rfl rfl (by kernel_rfl) (by decide) (fun K hK => ?_)
             refine goes_ Try.func118 (by kernel_rfl) rfl #[.string a0_3] (by rfl) rfl rfl (by (try simp only [List.map_toArray, List.map_cons, List.map_nil]); first | done | rfl | (simp only [List.length_drop, List.length_take]; rfl)) ?_
             with_reducible refine (spec_Small.calls a0_3 t181 _ A55.out).mono ?_
             rintro e w61 ⟨rfl, hb⟩
             refine ⟨_, rfl, ?_⟩
             have n0_ := Aside0.mk (blk_below (g := gb172) (o := .cells #[.int .i64 a0_0, .string a0_1, .slice A0_2 l0_2.length c0_2, .string a0_3, .bool a0_4] 87 (0, 0)) (by (with_reducible repeat (first | refine dn_ ?_ _ | refine dd_ ?_ | refine da_ ?_ _)); exact BK172.out) hb)
             have n1_ := Aside0.mk (below_step (by repeat (first | (with_reducible first | exact HB.out | apply ba_ | apply bn_ | apply b1_ | refine below_set ?_ GE172.out) | exact HB.out)) hb)
             clear BK172
             clear HB
             have BK172 := n0_
             have HB := n1_
             clear n0_ n1_
             (try clear hb)
             refine hK.out _ _ ⟨(bc_ BK172.out 0).trans rfl, (bc_ BK172.out 1).trans rfl, (bc_ BK172.out 2).trans rfl, (bc_ BK172.out 3).trans rfl, (bc_ BK172.out 4).trans rfl⟩ (fun hHeld => ?_)
             clear hK K
             refine norm_ (a' := ?_) ?_ ?_
             rotate_left
             ·show Act.put _ (some 88) _ = _
              simp only [Act.put, sa_, sz_, ss_, i64_w, i32_w]
              rfl
             refine pn_ HT_ 9 91 ?_ ?_ q6_10 rfl rfl (by kernel_rfl) (fun _ _ _ h => h) (by rfl) ?_ ?_ ?_
             rotate_left 2;(intro w';go_simp;with_reducible rfl);(simp only [Act.put, sa_, sz_, ss_, i64_w, i32_w];rfl)
             refine pn_ HT_ 10 92 ?_ ?_ q6_11 rfl rfl (by kernel_rfl) (fun _ _ _ h => h) (by rfl) ?_ ?_ ?_
             rotate_left 2;(intro w';go_simp;with_reducible rfl);(simp only [Act.put, sa_, sz_, ss_, i64_w, i32_w];rfl)
             refine pn_ HT_ 11 93 ?_ ?_ q6_12 rfl rfl (by kernel_rfl) (fun _ _ _ h => h) (by rfl) ?_ ?_ ?_
             rotate_left 2;(intro w';go_simp;with_reducible rfl);(simp only [Act.put, sa_, sz_, ss_, i64_w, i32_w];rfl)
             refine pn_ HT_ 12 94 ?_ ?_ q6_13 rfl rfl (by kernel_rfl) (fun _ _ _ h => h) (by rfl) ?_ ?_ ?_
             rotate_left 2;(intro w';go_simp;with_reducible rfl);(simp only [Act.put, sa_, sz_, ss_, i64_w, i32_w];rfl)
             refine tn_ HT_ HW_ 13 95 ?_ ?_ q6_14 rfl rfl (by kernel_rfl) (fun _ _ _ h => h) (by rfl) hHeld ?_ ?_ ?_
             rotate_left 2;(rintro w' ⟨s0, s1, s2, s3, s4⟩;go_simp;with_reducible rfl);(simp only [Act.put, sa_, sz_, ss_, i64_w, i32_w];rfl)
             refine on_ HT_ 14 96 q6_15 rfl rfl (by kernel_rfl) (by decide) (fun K hK => ?_)
             refine goes_ Try.func119 (by kernel_rfl) rfl #[.string a0_3, .int .i64 0, .int .u8 62] (by rfl) rfl rfl (by (try simp only [List.map_toArray, List.map_cons, List.map_nil]); first | done | rfl | (simp only [List.length_drop, List.length_take]; rfl)) ?_
             with_reducible refine (spec_l4Find.calls kj19 a0_3 0 62 t182 _ A57.out).mono ?_
             rintro e w' ⟨rfl, ⟨nd, rfl⟩⟩
             refine ⟨_, rfl, ?_⟩
             refine hK.out _ _ ⟨(bc_ BK172.out 0).trans rfl, (bc_ BK172.out 1).trans rfl, (bc_ BK172.out 2).trans rfl, (bc_ BK172.out 3).trans rfl, (bc_ BK172.out 4).trans rfl⟩ (fun hHeld => ?_)
             clear hK K
             refine norm_ (a' := ?_) ?_ ?_
             rotate_left
             ·show Act.put _ (some 96) _ = _
              simp only [Act.put, sa_, sz_, ss_, i64_w, i32_w]
              rfl
             refine pn_ HT_ 15 97 ?_ ?_ q6_16 rfl rfl (by kernel_rfl) (fun _ _ _ h => h) (by rfl) ?_ ?_ ?_
             rotate_left 2;(intro w';go_simp;with_reducible rfl);(simp only [Act.put, sa_, sz_, ss_, i64_w, i32_w];rfl)
             refine pn_ HT_ 16 98 ?_ ?_ q6_17 rfl rfl (by kernel_rfl) (fun _ _ _ h => h) (by rfl) ?_ ?_ ?_
             rotate_left 2;(intro w';go_simp;with_reducible rfl);(simp only [Act.put, sa_, sz_, ss_, i64_w, i32_w];rfl)
             refine pn_ HT_ 17 99 ?_ ?_ q6_18 rfl rfl (by kernel_rfl) (fun _ _ _ h => h) (by rfl) ?_ ?_ ?_
             rotate_left 2;(intro w';go_simp;with_reducible rfl);(simp only [Act.put, sa_, sz_, ss_, i64_w, i32_w];rfl)
             refine pn_ HT_ 18 100 ?_ ?_ q6_19 rfl rfl (by kernel_rfl) (fun _ _ _ h => h) (by rfl) ?_ ?_ ?_
             rotate_left 2;(intro w';go_simp;with_reducible rfl);(simp only [Act.put, sa_, sz_, ss_, i64_w, i32_w];rfl)
             refine tn_ HT_ HW_ 19 101 ?_ ?_ q6_20 rfl rfl (by kernel_rfl) (fun _ _ _ h => h) (by rfl) hHeld ?_ ?_ ?_
             rotate_left 2;(rintro w' ⟨s0, s1, s2, s3, s4⟩;go_simp;with_reducible rfl);(simp only [Act.put, sa_, sz_, ss_, i64_w, i32_w];rfl)
             refine on_ HT_ 20 102 q6_21 rfl rfl (by kernel_rfl) (by decide) (fun K hK => ?_)
             refine goes_ Try.func120 (by kernel_rfl) rfl #[.string a0_3, .int .i64 0] (by rfl) rfl rfl (by (try simp only [List.map_toArray, List.map_cons, List.map_nil]); first | done | rfl | (simp only [List.length_drop, List.length_take]; rfl)) ?_
             with_reducible refine (spec_l4Blanks.calls kj19 a0_3 0 t183 _ A59.out).mono ?_
             rintro e w' ⟨rfl, ⟨nd, rfl⟩⟩
             refine ⟨_, rfl, ?_⟩
             refine hK.out _ _ ⟨(bc_ BK172.out 0).trans rfl, (bc_ BK172.out 1).trans rfl, (bc_ BK172.out 2).trans rfl, (bc_ BK172.out 3).trans rfl, (bc_ BK172.out 4).trans rfl⟩ (fun hHeld => ?_)
             clear hK K
             refine norm_ (a' := ?_) ?_ ?_
             rotate_left
             ·show Act.put _ (some 102) _ = _
              simp only [Act.put, sa_, sz_, ss_, i64_w, i32_w]
              rfl
             refine pn_ HT_ 21 103 ?_ ?_ q6_22 rfl rfl (by kernel_rfl) (fun _ _ _ h => h) (by rfl) ?_ ?_ ?_
             rotate_left 2;(intro w';go_simp;with_reducible rfl);(simp only [Act.put, sa_, sz_, ss_, i64_w, i32_w];rfl)
             refine pn_ HT_ 22 104 ?_ ?_ q6_23 rfl rfl (by kernel_rfl) (fun _ _ _ h => h) (by rfl) ?_ ?_ ?_
             rotate_left 2;(intro w';go_simp;with_reducible rfl);(simp only [Act.put, sa_, sz_, ss_, i64_w, i32_w];rfl)
             refine pn_ HT_ 23 2 ?_ ?_ q6_24 rfl rfl (by kernel_rfl) (fun _ _ _ h => h) (by rfl) ?_ ?_ ?_
             rotate_left 2;(intro w';go_simp;with_reducible rfl);(simp only [Act.put, sa_, sz_, ss_, i64_w, i32_w];rfl)
             refine done_ (done_of HT_.out (by kernel_rfl)) ?_
             try go_wp2
             go_ret
             exact ⟨by first | rfl | (rw [← ZA12_A5.out]; rfl) | (rw [← ZA5_A12.out]; rfl) | (simp [errW_none, errW_some] <;> rfl) | (simp [*, errW_none, errW_some] <;> rfl) | (simp [errW_none, errW_some, q_nil]; done), by repeat (first | (with_reducible first | exact HB.out | apply ba_ | apply bn_ | apply b1_ | refine below_set ?_ GE172.out) | exact HB.out)⟩
            ·rw [if_neg c58] at H
             have c58b0 : decide (t182 < 0) = false := decide_eq_false c58
             clear c58
             obtain rfl := Option.some.inj H
             try go_wp2
             have n0_ := Aside0.mk (dd_ BK172.out)
             have n1_ := Aside0.mk (b1_ HB.out)
             clear BK172
             clear HB
             have BK172 := n0_
             have HB := n1_
             clear n0_ n1_
             refine start_ (n := 24) (S := fun w' => w'.cell? ⟨gb172, 0, none⟩ = some (.int .i64 a0_0) ∧ w'.cell? ⟨gb172, 1, none⟩ = some (.string a0_1) ∧ w'.cell? ⟨gb172, 2, none⟩ = some (.slice A0_2 l0_2.length c0_2) ∧ w'.cell? ⟨gb172, 3, none⟩ = some (.string a0_3) ∧ w'.cell? ⟨gb172, 4, none⟩ = some (.bool a0_4)) (ds := []) q6_0 (by kernel_rfl) rfl rfl ⟨(bc_ BK172.out 0).trans rfl, (bc_ BK172.out 1).trans rfl, (bc_ BK172.out 2).trans rfl, (bc_ BK172.out 3).trans rfl, (bc_ BK172.out 4).trans rfl⟩ (fun hHeld => ?_); refine with_tabW spec_l5Token.tab12 spec_l5Token.bits12 (fun HT_ HW_ => ?_)
             generalize wc.drew = w62 at BK172 HB hHeld ⊢
             refine pn_ HT_ 0 82 ?_ ?_ q6_1 rfl rfl (by kernel_rfl) (fun _ _ _ h => h) (by rfl) ?_ ?_ ?_
             rotate_left 2;(intro w';go_simp;with_reducible rfl);(simp only [Act.put, sa_, sz_, ss_, i64_w, i32_w];rfl)
             refine tn_ HT_ HW_ 1 83 ?_ ?_ q6_2 rfl rfl (by kernel_rfl) (fun _ _ _ h => h) (by rfl) hHeld ?_ ?_ ?_
             rotate_left 2;(rintro w' ⟨s0, s1, s2, s3, s4⟩;go_simp;with_reducible rfl);(simp only [Act.put, sa_, sz_, ss_, i64_w, i32_w];rfl)
             refine pn_ HT_ 2 84 ?_ ?_ q6_3 rfl rfl (by kernel_rfl) (fun _ _ _ h => h) (by rfl) ?_ ?_ ?_
             rotate_left 2;(intro w';go_simp;with_reducible rfl);(simp only [Act.put, sa_, sz_, ss_, i64_w, i32_w];rfl)
             refine pn_ HT_ 3 85 ?_ ?_ q6_4 rfl rfl (by kernel_rfl) (fun _ _ _ h => h) (by rfl) ?_ ?_ ?_
             rotate_left 2;(intro w';go_simp;with_reducible rfl);(simp only [Act.put, sa_, sz_, ss_, i64_w, i32_w];rfl)
             refine pn_ HT_ 4 86 ?_ ?_ q6_5 rfl rfl (by kernel_rfl) (fun _ _ _ h => h) (by rfl) ?_ ?_ ?_
             rotate_left 2;(intro w';go_simp;with_reducible rfl);(simp only [Act.put, sa_, sz_, ss_, i64_w, i32_w];rfl)
             refine pn_ HT_ 7 89 ?_ ?_ q6_6 rfl rfl (by kernel_rfl) (fun _ _ _ h => h) (by rfl) ?_ ?_ ?_
             rotate_left 2;(intro w';go_simp;with_reducible rfl);(simp only [Act.put, sa_, sz_, ss_, i64_w, i32_w];rfl)
             refine tn_ HT_ HW_ 5 87 ?_ ?_ q6_7 rfl rfl (by kernel_rfl) (fun _ _ _ h => h) (by rfl) hHeld ?_ ?_ ?_
             rotate_left 2;(rintro w' ⟨s0, s1, s2, s3, s4⟩;go_simp;with_reducible rfl);(simp only [Act.put, sa_, sz_, ss_, i64_w, i32_w];rfl)
             refine tn_ HT_ HW_ 8 90 ?_ ?_ q6_8 rfl rfl (by kernel_rfl) (fun _ _ _ h => h) (by rfl) hHeld ?_ ?_ ?_
             rotate_left 2;(rintro w' ⟨s0, s1, s2, s3, s4⟩;go_simp;with_reducible rfl);(simp only [Act.put, sa_, sz_, ss_, i64_w, i32_w];rfl)
             refine on_ HT_ 6 88 q6_9 rfl rfl (by kernel_rfl) (by decide) (fun K hK => ?_)
             refine goes_ Try.func118 (by kernel_rfl) rfl #[.string a0_3] (by rfl) rfl rfl (by (try simp only [List.map_toArray, List.map_cons, List.map_nil]); first | done | rfl | (simp only [List.length_drop, List.length_take]; rfl)) ?_
             with_reducible refine (spec_Small.calls a0_3 t181 _ A55.out).mono ?_
             rintro e w63 ⟨rfl, hb⟩
             refine ⟨_, rfl, ?_⟩
             have n0_ := Aside0.mk (blk_below (g := gb172) (o := .cells #[.int .i64 a0_0, .string a0_1, .slice A0_2 l0_2.length c0_2, .string a0_3, .bool a0_4] 87 (0, 0)) (by (with_reducible repeat (first | refine dn_ ?_ _ | refine dd_ ?_ | refine da_ ?_ _)); exact BK172.out) hb)
             have n1_ := Aside0.mk (below_step (by repeat (first | (with_reducible first | exact HB.out | apply ba_ | apply bn_ | apply b1_ | refine below_set ?_ GE172.out) | exact HB.out)) hb)
             clear BK172
             clear HB
             have BK172 := n0_
             have HB := n1_
             clear n0_ n1_
             (try clear hb)
             refine hK.out _ _ ⟨(bc_ BK172.out 0).trans rfl, (bc_ BK172.out 1).trans rfl, (bc_ BK172.out 2).trans rfl, (bc_ BK172.out 3).trans rfl, (bc_ BK172.out 4).trans rfl⟩ (fun hHeld => ?_)
             clear hK K
             refine norm_ (a' := ?_) ?_ ?_
             rotate_left
             ·show Act.put _ (some 88) _ = _
              simp only [Act.put, sa_, sz_, ss_, i64_w, i32_w]
              rfl
             refine pn_ HT_ 9 91 ?_ ?_ q6_10 rfl rfl (by kernel_rfl) (fun _ _ _ h => h) (by rfl) ?_ ?_ ?_
             rotate_left 2;(intro w';go_simp;with_reducible rfl);(simp only [Act.put, sa_, sz_, ss_, i64_w, i32_w];rfl)
             refine pn_ HT_ 10 92 ?_ ?_ q6_11 rfl rfl (by kernel_rfl) (fun _ _ _ h => h) (by rfl) ?_ ?_ ?_
             rotate_left 2;(intro w';go_simp;with_reducible rfl);(simp only [Act.put, sa_, sz_, ss_, i64_w, i32_w];rfl)
             refine pn_ HT_ 11 93 ?_ ?_ q6_12 rfl rfl (by kernel_rfl) (fun _ _ _ h => h) (by rfl) ?_ ?_ ?_
             rotate_left 2;(intro w';go_simp;with_reducible rfl);(simp only [Act.put, sa_, sz_, ss_, i64_w, i32_w];rfl)
             refine pn_ HT_ 12 94 ?_ ?_ q6_13 rfl rfl (by kernel_rfl) (fun _ _ _ h => h) (by rfl) ?_ ?_ ?_
             rotate_left 2;(intro w';go_simp;with_reducible rfl);(simp only [Act.put, sa_, sz_, ss_, i64_w, i32_w];rfl)
             refine tn_ HT_ HW_ 13 95 ?_ ?_ q6_14 rfl rfl (by kernel_rfl) (fun _ _ _ h => h) (by rfl) hHeld ?_ ?_ ?_
             rotate_left 2;(rintro w' ⟨s0, s1, s2, s3, s4⟩;go_simp;with_reducible rfl);(simp only [Act.put, sa_, sz_, ss_, i64_w, i32_w];rfl)
             refine on_ HT_ 14 96 q6_15 rfl rfl (by kernel_rfl) (by decide) (fun K hK => ?_)
             refine goes_ Try.func119 (by kernel_rfl) rfl #[.string a0_3, .int .i64 0, .int .u8 62] (by rfl) rfl rfl (by (try simp only [List.map_toArray, List.map_cons, List.map_nil]); first | done | rfl | (simp only [List.length_drop, List.length_take]; rfl)) ?_
             with_reducible refine (spec_l4Find.calls kj19 a0_3 0 62 t182 _ A57.out).mono ?_
             rintro e w' ⟨rfl, ⟨nd, rfl⟩⟩
             refine ⟨_, rfl, ?_⟩
             refine hK.out _ _ ⟨(bc_ BK172.out 0).trans rfl, (bc_ BK172.out 1).trans rfl, (bc_ BK172.out 2).trans rfl, (bc_ BK172.out 3).trans rfl, (bc_ BK172.out 4).trans rfl⟩ (fun hHeld => ?_)
             clear hK K
             refine norm_ (a' := ?_) ?_ ?_
             rotate_left
             ·show Act.put _ (some 96) _ = _
              simp only [Act.put, sa_, sz_, ss_, i64_w, i32_w]
              rfl
             refine pn_ HT_ 15 97 ?_ ?_ q6_16 rfl rfl (by kernel_rfl) (fun _ _ _ h => h) (by rfl) ?_ ?_ ?_
             rotate_left 2;(intro w';go_simp;with_reducible rfl);(simp only [Act.put, sa_, sz_, ss_, i64_w, i32_w];rfl)
             refine pn_ HT_ 16 98 ?_ ?_ q6_17 rfl rfl (by kernel_rfl) (fun _ _ _ h => h) (by rfl) ?_ ?_ ?_
             rotate_left 2;(intro w';go_simp;with_reducible rfl);(simp only [Act.put, sa_, sz_, ss_, i64_w, i32_w];rfl)
             refine pn_ HT_ 17 99 ?_ ?_ q6_18 rfl rfl (by kernel_rfl) (fun _ _ _ h => h) (by rfl) ?_ ?_ ?_
             rotate_left 2;(intro w';go_simp;with_reducible rfl);(simp only [Act.put, sa_, sz_, ss_, i64_w, i32_w];rfl)
             refine po_ HT_ 18 100 ?_ q6_19 rfl rfl (by kernel_rfl) (fun _ _ _ h => h) (by rfl) ?_ ?_
             rotate_left;(simp only [Act.put, sa_, sz_, ss_, i64_w, i32_w];rfl)
             refine po_ HT_ 19 101 ?_ q6_20 rfl rfl (by kernel_rfl) (fun _ _ _ h => h) (by rfl) ?_ ?_
             rotate_left;(simp only [Act.put, sa_, sz_, ss_, i64_w, i32_w];rfl)
             refine po_ HT_ 20 102 ?_ q6_21 rfl rfl (by kernel_rfl) (fun _ _ _ h => h) (by rfl) ?_ ?_
             rotate_left;(simp only [Act.put, sa_, sz_, ss_, i64_w, i32_w];rfl)
             refine po_ HT_ 21 103 ?_ q6_22 rfl rfl (by kernel_rfl) (fun _ _ _ h => h) (by rfl) ?_ ?_
             rotate_left;(simp only [Act.put, sa_, sz_, ss_, i64_w, i32_w];rfl)
             refine pn_ HT_ 22 104 ?_ ?_ q6_23 rfl rfl (by kernel_rfl) (fun _ _ _ h => h) (by rfl) ?_ ?_ ?_
             rotate_left 2;(intro w';go_simp;with_reducible rfl);(simp only [Act.put, sa_, sz_, ss_, i64_w, i32_w];rfl)
             refine pn_ HT_ 23 2 ?_ ?_ q6_24 rfl rfl (by kernel_rfl) (fun _ _ _ h => h) (by rfl) ?_ ?_ ?_
             rotate_left 2;(intro w';go_simp;with_reducible rfl);(simp only [Act.put, sa_, sz_, ss_, i64_w, i32_w];rfl)
             refine done_ (done_of HT_.out (by kernel_rfl)) ?_
             try go_wp2
             go_ret
             exact ⟨by first | rfl | (rw [← ZA12_A5.out]; rfl) | (rw [← ZA5_A12.out]; rfl) | (simp [errW_none, errW_some] <;> rfl) | (simp [*, errW_none, errW_some] <;> rfl) | (simp [errW_none, errW_some, q_nil]; done), by repeat (first | (with_reducible first | exact HB.out | apply ba_ | apply bn_ | apply b1_ | refine below_set ?_ GE172.out) | exact HB.out)⟩
           ·rw [if_neg c56] at H
            have c56b0 : (t181.toList == a0_3.toList) = false := beq_eq_false_iff_ne.mpr c56
            have c56b1 : (t181.toList != a0_3.toList) = true := bne_iff_ne.mpr c56
            obtain rfl := Option.some.inj H
            try go_wp2
            have n0_ := Aside0.mk (dd_ BK172.out)
            have n1_ := Aside0.mk (b1_ HB.out)
            clear BK172
            clear HB
            have BK172 := n0_
            have HB := n1_
            clear n0_ n1_
            refine start_ (n := 24) (S := fun w' => w'.cell? ⟨gb172, 0, none⟩ = some (.int .i64 a0_0) ∧ w'.cell? ⟨gb172, 1, none⟩ = some (.string a0_1) ∧ w'.cell? ⟨gb172, 2, none⟩ = some (.slice A0_2 l0_2.length c0_2) ∧ w'.cell? ⟨gb172, 3, none⟩ = some (.string a0_3) ∧ w'.cell? ⟨gb172, 4, none⟩ = some (.bool a0_4)) (ds := []) q6_0 (by kernel_rfl) rfl rfl ⟨(bc_ BK172.out 0).trans rfl, (bc_ BK172.out 1).trans rfl, (bc_ BK172.out 2).trans rfl, (bc_ BK172.out 3).trans rfl, (bc_ BK172.out 4).trans rfl⟩ (fun hHeld => ?_); refine with_tabW spec_l5Token.tab12 spec_l5Token.bits12 (fun HT_ HW_ => ?_)
            generalize wc.drew = w64 at BK172 HB hHeld ⊢
            refine pn_ HT_ 0 82 ?_ ?_ q6_1 rfl rfl (by kernel_rfl) (fun _ _ _ h => h) (by rfl) ?_ ?_ ?_
            rotate_left 2;(intro w';go_simp;with_reducible rfl);(simp only [Act.put, sa_, sz_, ss_, i64_w, i32_w];rfl)
            refine tn_ HT_ HW_ 1 83 ?_ ?_ q6_2 rfl rfl (by kernel_rfl) (fun _ _ _ h => h) (by rfl) hHeld ?_ ?_ ?_
            rotate_left 2;(rintro w' ⟨s0, s1, s2, s3, s4⟩;go_simp;with_reducible rfl);(simp only [Act.put, sa_, sz_, ss_, i64_w, i32_w];rfl)
            refine pn_ HT_ 2 84 ?_ ?_ q6_3 rfl rfl (by kernel_rfl) (fun _ _ _ h => h) (by rfl) ?_ ?_ ?_
            rotate_left 2;(intro w';go_simp;with_reducible rfl);(simp only [Act.put, sa_, sz_, ss_, i64_w, i32_w];rfl)
            refine pn_ HT_ 3 85 ?_ ?_ q6_4 rfl rfl (by kernel_rfl) (fun _ _ _ h => h) (by rfl) ?_ ?_ ?_
            rotate_left 2;(intro w';go_simp;with_reducible rfl);(simp only [Act.put, sa_, sz_, ss_, i64_w, i32_w];rfl)
            refine pn_ HT_ 4 86 ?_ ?_ q6_5 rfl rfl (by kernel_rfl) (fun _ _ _ h => h) (by rfl) ?_ ?_ ?_
            rotate_left 2;(intro w';go_simp;with_reducible rfl);(simp only [Act.put, sa_, sz_, ss_, i64_w, i32_w];rfl)
            refine pn_ HT_ 7 89 ?_ ?_ q6_6 rfl rfl (by kernel_rfl) (fun _ _ _ h => h) (by rfl) ?_ ?_ ?_
            rotate_left 2;(intro w';go_simp;with_reducible rfl);(simp only [Act.put, sa_, sz_, ss_, i64_w, i32_w];rfl)
            refine tn_ HT_ HW_ 5 87 ?_ ?_ q6_7 rfl rfl (by kernel_rfl) (fun _ _ _ h => h) (by rfl) hHeld ?_ ?_ ?_
            rotate_left 2;(rintro w' ⟨s0, s1, s2, s3, s4⟩;go_simp;with_reducible rfl);(simp only [Act.put, sa_, sz_, ss_, i64_w, i32_w];rfl)
            refine tn_ HT_ HW_ 8 90 ?_ ?_ q6_8 rfl rfl (by kernel_rfl) (fun _ _ _ h => h) (by rfl) hHeld ?_ ?_ ?_
            rotate_left 2;(rintro w' ⟨s0, s1, s2, s3, s4⟩;go_simp;with_reducible rfl);(simp only [Act.put, sa_, sz_, ss_, i64_w, i32_w];rfl)
            refine on_ HT_ 6 88 q6_9 rfl rfl (by kernel_rfl) (by decide) (fun K hK => ?_)
            refine goes_ Try.func118 (by kernel_rfl) rfl #[.string a0_3] (by rfl) rfl rfl (by (try simp only [List.map_toArray, List.map_cons, List.map_nil]); first | done | rfl | (simp only [List.length_drop, List.length_take]; rfl)) ?_
            with_reducible refine (spec_Small.calls a0_3 t181 _ A55.out).mono ?_
            rintro e w65 ⟨rfl, hb⟩
            refine ⟨_, rfl, ?_⟩
            have n0_ := Aside0.mk (blk_below (g := gb172) (o := .cells #[.int .i64 a0_0, .string a0_1, .slice A0_2 l0_2.length c0_2, .string a0_3, .bool a0_4] 87 (0, 0)) (by (with_reducible repeat (first | refine dn_ ?_ _ | refine dd_ ?_ | refine da_ ?_ _)); exact BK172.out) hb)
            have n1_ := Aside0.mk (below_step (by repeat (first | (with_reducible first | exact HB.out | apply ba_ | apply bn_ | apply b1_ | refine below_set ?_ GE172.out) | exact HB.out)) hb)
            clear BK172
            clear HB
            have BK172 := n0_
            have HB := n1_
            clear n0_ n1_
            (try clear hb)
            refine hK.out _ _ ⟨(bc_ BK172.out 0).trans rfl, (bc_ BK172.out 1).trans rfl, (bc_ BK172.out 2).trans rfl, (bc_ BK172.out 3).trans rfl, (bc_ BK172.out 4).trans rfl⟩ (fun hHeld => ?_)
            clear hK K
            refine norm_ (a' := ?_) ?_ ?_
            rotate_left
            ·show Act.put _ (some 88) _ = _
             simp only [Act.put, sa_, sz_, ss_, i64_w, i32_w]
             rfl
            refine pn_ HT_ 9 91 ?_ ?_ q6_10 rfl rfl (by kernel_rfl) (fun _ _ _ h => h) (by rfl) ?_ ?_ ?_
            rotate_left 2;(intro w';go_simp;with_reducible rfl);(simp only [Act.put, sa_, sz_, ss_, i64_w, i32_w];rfl)
            refine pn_ HT_ 10 92 ?_ ?_ q6_11 rfl rfl (by kernel_rfl) (fun _ _ _ h => h) (by rfl) ?_ ?_ ?_
            rotate_left 2;(intro w';go_simp;with_reducible rfl);(simp only [Act.put, sa_, sz_, ss_, i64_w, i32_w];rfl)
            refine pn_ HT_ 11 93 ?_ ?_ q6_12 rfl rfl (by kernel_rfl) (fun _ _ _ h => h) (by rfl) ?_ ?_ ?_
            rotate_left 2;(intro w';go_simp;with_reducible rfl);(simp only [Act.put, sa_, sz_, ss_, i64_w, i32_w];rfl)
            refine po_ HT_ 12 94 ?_ q6_13 rfl rfl (by kernel_rfl) (fun _ _ _ h => h) (by rfl) ?_ ?_
            rotate_left;(simp only [Act.put, sa_, sz_, ss_, i64_w, i32_w];rfl)
            refine po_ HT_ 13 95 ?_ q6_14 rfl rfl (by kernel_rfl) (fun _ _ _ h => h) (by rfl) ?_ ?_
            rotate_left;(simp only [Act.put, sa_, sz_, ss_, i64_w, i32_w];rfl)
            refine po_ HT_ 14 96 ?_ q6_15 rfl rfl (by kernel_rfl) (fun _ _ _ h => h) (by rfl) ?_ ?_
            rotate_left;(simp only [Act.put, sa_, sz_, ss_, i64_w, i32_w];rfl)
            refine po_ HT_ 15 97 ?_ q6_16 rfl rfl (by kernel_rfl) (fun _ _ _ h => h) (by rfl) ?_ ?_
            rotate_left;(simp only [Act.put, sa_, sz_, ss_, i64_w, i32_w];rfl)
            refine pn_ HT_ 16 98 ?_ ?_ q6_17 rfl rfl (by kernel_rfl) (fun _ _ _ h => h) (by rfl) ?_ ?_ ?_
            rotate_left 2;(intro w';go_simp;with_reducible rfl);(simp only [Act.put, sa_, sz_, ss_, i64_w, i32_w];rfl)
            refine pn_ HT_ 17 99 ?_ ?_ q6_18 rfl rfl (by kernel_rfl) (fun _ _ _ h => h) (by rfl) ?_ ?_ ?_
            rotate_left 2;(intro w';go_simp;with_reducible rfl);(simp only [Act.put, sa_, sz_, ss_, i64_w, i32_w];rfl)
            refine po_ HT_ 18 100 ?_ q6_19 rfl rfl (by kernel_rfl) (fun _ _ _ h => h) (by rfl) ?_ ?_
            rotate_left;(simp only [Act.put, sa_, sz_, ss_, i64_w, i32_w];rfl)
            refine po_ HT_ 19 101 ?_ q6_20 rfl rfl (by kernel_rfl) (fun _ _ _ h => h) (by rfl) ?_ ?_
            rotate_left;(simp only [Act.put, sa_, sz_, ss_, i64_w, i32_w];rfl)
            refine po_ HT_ 20 102 ?_ q6_21 rfl rfl (by kernel_rfl) (fun _ _ _ h => h) (by rfl) ?_ ?_
            rotate_left;(simp only [Act.put, sa_, sz_, ss_, i64_w, i32_w];rfl)
            refine po_ HT_ 21 103 ?_ q6_22 rfl rfl (by kernel_rfl) (fun _ _ _ h => h) (by rfl) ?_ ?_
            rotate_left;(simp only [Act.put, sa_, sz_, ss_, i64_w, i32_w];rfl)
            refine pn_ HT_ 22 104 ?_ ?_ q6_23 rfl rfl (by kernel_rfl) (fun _ _ _ h => h) (by rfl) ?_ ?_ ?_
            rotate_left 2;(intro w';go_simp;with_reducible rfl);(simp only [Act.put, sa_, sz_, ss_, i64_w, i32_w];rfl)
            refine pn_ HT_ 23 2 ?_ ?_ q6_24 rfl rfl (by kernel_rfl) (fun _ _ _ h => h) (by rfl) ?_ ?_ ?_
            rotate_left 2;(intro w';go_simp;with_reducible rfl);(simp only [Act.put, sa_, sz_, ss_, i64_w, i32_w];rfl)
            refine done_ (done_of HT_.out (by kernel_rfl)) ?_
            try go_wp2
            go_ret
            exact ⟨by first | rfl | (rw [← ZA12_A5.out]; rfl) | (rw [← ZA5_A12.out]; rfl) | (simp [errW_none, errW_some] <;> rfl) | (simp [*, errW_none, errW_some] <;> rfl) | (simp [errW_none, errW_some, q_nil]; done), by repeat (first | (with_reducible first | exact HB.out | apply ba_ | apply bn_ | apply b1_ | refine below_set ?_ GE172.out) | exact HB.out)⟩
          ·rw [if_neg c54] at H
           have c54b0 : (a0_1.toList == ([] : List UInt8)) = false := beq_eq_false_iff_ne.mpr c54
           have c54b1 : (a0_1.toList != ([] : List UInt8)) = true := bne_iff_ne.mpr c54
           obtain rfl := Option.some.inj H
           try go_wp2
           have n0_ := Aside0.mk (dd_ BK172.out)
           have n1_ := Aside0.mk (b1_ HB.out)
           clear BK172
           clear HB
           have BK172 := n0_
           have HB := n1_
           clear n0_ n1_
           refine start_ (n := 24) (S := fun w' => w'.cell? ⟨gb172, 0, none⟩ = some (.int .i64 a0_0) ∧ w'.cell? ⟨gb172, 1, none⟩ = some (.string a0_1) ∧ w'.cell? ⟨gb172, 2, none⟩ = some (.slice A0_2 l0_2.length c0_2) ∧ w'.cell? ⟨gb172, 3, none⟩ = some (.string a0_3) ∧ w'.cell? ⟨gb172, 4, none⟩ = some (.bool a0_4)) (ds := []) q6_0 (by kernel_rfl) rfl rfl ⟨(bc_ BK172.out 0).trans rfl, (bc_ BK172.out 1).trans rfl, (bc_ BK172.out 2).trans rfl, (bc_ BK172.out 3).trans rfl, (bc_ BK172.out 4).trans rfl⟩ (fun hHeld => ?_); refine with_tabW spec_l5Token.tab12 spec_l5Token.bits12 (fun HT_ HW_ => ?_)
           generalize wc.drew = w66 at BK172 HB hHeld ⊢
           refine pn_ HT_ 0 82 ?_ ?_ q6_1 rfl rfl (by kernel_rfl) (fun _ _ _ h => h) (by rfl) ?_ ?_ ?_
           rotate_left 2;(intro w';go_simp;with_reducible rfl);(simp only [Act.put, sa_, sz_, ss_, i64_w, i32_w];rfl)
           refine tn_ HT_ HW_ 1 83 ?_ ?_ q6_2 rfl rfl (by kernel_rfl) (fun _ _ _ h => h) (by rfl) hHeld ?_ ?_ ?_
           rotate_left 2;(rintro w' ⟨s0, s1, s2, s3, s4⟩;go_simp;with_reducible rfl);(simp only [Act.put, sa_, sz_, ss_, i64_w, i32_w];rfl)
           refine pn_ HT_ 2 84 ?_ ?_ q6_3 rfl rfl (by kernel_rfl) (fun _ _ _ h => h) (by rfl) ?_ ?_ ?_
           rotate_left 2;(intro w';go_simp;with_reducible rfl);(simp only [Act.put, sa_, sz_, ss_, i64_w, i32_w];rfl)
           refine pn_ HT_ 3 85 ?_ ?_ q6_4 rfl rfl (by kernel_rfl) (fun _ _ _ h => h) (by rfl) ?_ ?_ ?_
           rotate_left 2;(intro w';go_simp;with_reducible rfl);(simp only [Act.put, sa_, sz_, ss_, i64_w, i32_w];rfl)
           refine po_ HT_ 4 86 ?_ q6_5 rfl rfl (by kernel_rfl) (fun _ _ _ h => h) (by rfl) ?_ ?_
           rotate_left;(simp only [Act.put, sa_, sz_, ss_, i64_w, i32_w];rfl)
           refine po_ HT_ 5 87 ?_ q6_25 rfl rfl (by kernel_rfl) (fun _ _ _ h => h) (by rfl) ?_ ?_
           rotate_left;(simp only [Act.put, sa_, sz_, ss_, i64_w, i32_w];rfl)
           refine po_ HT_ 6 88 ?_ q6_26 rfl rfl (by kernel_rfl) (fun _ _ _ h => h) (by rfl) ?_ ?_
           rotate_left;(simp only [Act.put, sa_, sz_, ss_, i64_w, i32_w];rfl)
           refine po_ HT_ 7 89 ?_ q6_27 rfl rfl (by kernel_rfl) (fun _ _ _ h => h) (by rfl) ?_ ?_
           rotate_left;(simp only [Act.put, sa_, sz_, ss_, i64_w, i32_w];rfl)
           refine po_ HT_ 8 90 ?_ q6_9 rfl rfl (by kernel_rfl) (fun _ _ _ h => h) (by rfl) ?_ ?_
           rotate_left;(simp only [Act.put, sa_, sz_, ss_, i64_w, i32_w];rfl)
           refine po_ HT_ 9 91 ?_ q6_10 rfl rfl (by kernel_rfl) (fun _ _ _ h => h) (by rfl) ?_ ?_
           rotate_left;(simp only [Act.put, sa_, sz_, ss_, i64_w, i32_w];rfl)
           refine pn_ HT_ 10 92 ?_ ?_ q6_11 rfl rfl (by kernel_rfl) (fun _ _ _ h => h) (by rfl) ?_ ?_ ?_
           rotate_left 2;(intro w';go_simp;with_reducible rfl);(simp only [Act.put, sa_, sz_, ss_, i64_w, i32_w];rfl)
           refine pn_ HT_ 11 93 ?_ ?_ q6_12 rfl rfl (by kernel_rfl) (fun _ _ _ h => h) (by rfl) ?_ ?_ ?_
           rotate_left 2;(intro w';go_simp;with_reducible rfl);(simp only [Act.put, sa_, sz_, ss_, i64_w, i32_w];rfl)
           refine po_ HT_ 12 94 ?_ q6_13 rfl rfl (by kernel_rfl) (fun _ _ _ h => h) (by rfl) ?_ ?_
           rotate_left;(simp only [Act.put, sa_, sz_, ss_, i64_w, i32_w];rfl)
           refine po_ HT_ 13 95 ?_ q6_14 rfl rfl (by kernel_rfl) (fun _ _ _ h => h) (by rfl) ?_ ?_
           rotate_left;(simp only [Act.put, sa_, sz_, ss_, i64_w, i32_w];rfl)
           refine po_ HT_ 14 96 ?_ q6_15 rfl rfl (by kernel_rfl) (fun _ _ _ h => h) (by rfl) ?_ ?_
           rotate_left;(simp only [Act.put, sa_, sz_, ss_, i64_w, i32_w];rfl)
           refine po_ HT_ 15 97 ?_ q6_16 rfl rfl (by kernel_rfl) (fun _ _ _ h => h) (by rfl) ?_ ?_
           rotate_left;(simp only [Act.put, sa_, sz_, ss_, i64_w, i32_w];rfl)
           refine pn_ HT_ 16 98 ?_ ?_ q6_17 rfl rfl (by kernel_rfl) (fun _ _ _ h => h) (by rfl) ?_ ?_ ?_
           rotate_left 2;(intro w';go_simp;with_reducible rfl);(simp only [Act.put, sa_, sz_, ss_, i64_w, i32_w];rfl)
           refine pn_ HT_ 17 99 ?_ ?_ q6_18 rfl rfl (by kernel_rfl) (fun _ _ _ h => h) (by rfl) ?_ ?_ ?_
           rotate_left 2;(intro w';go_simp;with_reducible rfl);(simp only [Act.put, sa_, sz_, ss_, i64_w, i32_w];rfl)
           refine po_ HT_ 18 100 ?_ q6_19 rfl rfl (by kernel_rfl) (fun _ _ _ h => h) (by rfl) ?_ ?_
           rotate_left;(simp only [Act.put, sa_, sz_, ss_, i64_w, i32_w];rfl)
           refine po_ HT_ 19 101 ?_ q6_20 rfl rfl (by kernel_rfl) (fun _ _ _ h => h) (by rfl) ?_ ?_
           rotate_left;(simp only [Act.put, sa_, sz_, ss_, i64_w, i32_w];rfl)
           refine po_ HT_ 20 102 ?_ q6_21 rfl rfl (by kernel_rfl) (fun _ _ _ h => h) (by rfl) ?_ ?_
           rotate_left;(simp only [Act.put, sa_, sz_, ss_, i64_w, i32_w];rfl)
           refine po_ HT_ 21 103 ?_ q6_22 rfl rfl (by kernel_rfl) (fun _ _ _ h => h) (by rfl) ?_ ?_
           rotate_left;(simp only [Act.put, sa_, sz_, ss_, i64_w, i32_w];rfl)
           refine pn_ HT_ 22 104 ?_ ?_ q6_23 rfl rfl (by kernel_rfl) (fun _ _ _ h => h) (by rfl) ?_ ?_ ?_
           rotate_left 2;(intro w';go_simp;with_reducible rfl);(simp only [Act.put, sa_, sz_, ss_, i64_w, i32_w];rfl)
           refine pn_ HT_ 23 2 ?_ ?_ q6_24 rfl rfl (by kernel_rfl) (fun _ _ _ h => h) (by rfl) ?_ ?_ ?_
           rotate_left 2;(intro w';go_simp;with_reducible rfl);(simp only [Act.put, sa_, sz_, ss_, i64_w, i32_w];rfl)
           refine done_ (done_of HT_.out (by kernel_rfl)) ?_
           try go_wp2
           go_ret
           exact ⟨by first | rfl | (rw [← ZA12_A5.out]; rfl) | (rw [← ZA5_A12.out]; rfl) | (simp [errW_none, errW_some] <;> rfl) | (simp [*, errW_none, errW_some] <;> rfl) | (simp [errW_none, errW_some, q_nil]; done), by repeat (first | (with_reducible first | exact HB.out | apply ba_ | apply bn_ | apply b1_ | refine below_set ?_ GE172.out) | exact HB.out)⟩
         ·rw [if_neg c53] at H
          have c53b0 : (a0_0 == 5) = false := beq_eq_false_iff_ne.mpr c53
          have c53b1 : (a0_0 != 5) = true := bne_iff_ne.mpr c53
          obtain rfl := Option.some.inj H
          go_wp2
          go_ret
          exact ⟨by first | rfl | (rw [← ZA12_A5.out]; rfl) | (rw [← ZA5_A12.out]; rfl) | (simp [errW_none, errW_some] <;> rfl) | (simp [*, errW_none, errW_some] <;> rfl) | (simp [errW_none, errW_some, q_nil]; done), by repeat (first | (with_reducible first | exact HB.out | apply ba_ | apply bn_ | apply b1_ | refine below_set ?_ GE172.out) | exact HB.out)⟩
end Go.Proofs.Yteafgjebaedjbaa.PFnExactTokensOk
