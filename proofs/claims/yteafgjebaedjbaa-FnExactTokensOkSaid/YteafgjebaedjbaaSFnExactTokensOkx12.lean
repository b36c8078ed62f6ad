-- Written by this session's program wip/slim.py out of the print's texts. Lean checks it.
import Derived.Test.YteafgjebaedjbaaSFnExactTokensOkx0
import Derived.Test.YteafgjebaedjbaaSFnExactTokensOkx10
import Derived.Test.YteafgjebaedjbaaSFnExactTokensOkx11
namespace Go.Proofs.Yteafgjebaedjbaa.PFnExactTokensOk
open Go.RowKit Go.Proofs.YteafgjebaedjbaaW.PrintWords Go.Proofs.YteafgjebaedjbaaW.PrintLast Go.Proofs.YteafgjebaedjbaaW.PrintMore
def q12_0 : Array Bool := bz 29 0
def q12_1 : Array Bool := bz 29 1
def q12_2 : Array Bool := bz 29 3
def q12_3 : Array Bool := bz 29 7
def q12_4 : Array Bool := bz 29 15
def q12_5 : Array Bool := bz 29 31
def q12_6 : Array Bool := bz 29 63
def q12_7 : Array Bool := bz 29 127
def q12_8 : Array Bool := bz 29 255
def q12_9 : Array Bool := bz 29 511
def q12_10 : Array Bool := bz 29 1023
def q12_11 : Array Bool := bz 29 2047
def q12_12 : Array Bool := bz 29 4095
def q12_13 : Array Bool := bz 29 8191
def q12_14 : Array Bool := bz 29 16383
def q12_15 : Array Bool := bz 29 32767
def q12_16 : Array Bool := bz 29 65535
def q12_17 : Array Bool := bz 29 131071
def q12_18 : Array Bool := bz 29 262143
def q12_19 : Array Bool := bz 29 524287
def q12_20 : Array Bool := bz 29 1048575
def q12_21 : Array Bool := bz 29 2097151
def q12_22 : Array Bool := bz 29 4194303
def q12_23 : Array Bool := bz 29 8388607
def q12_24 : Array Bool := bz 29 16777215
def q12_25 : Array Bool := bz 29 33554431
def q12_26 : Array Bool := bz 29 67108863
def q12_27 : Array Bool := bz 29 134217727
def q12_28 : Array Bool := bz 29 268435455
def q12_29 : Array Bool := bz 29 536870911
attribute [local go_sem] max2_int min2_int max_two min_two max_three min_three max_four min_four
set_option linter.unusedVariables false
set_option linter.unusedSimpArgs false
def impl_attrsOk.l0 : Nat → List (S117) → List (S117) → Int → Int → Option (Bool)
 | 0, _, _, _, _ => none
 | k + 1, x0, x5, x6, x7 => if x7 < x6 then (if 0 ≤ x7 then (if x7 < (x5.length : Int) then (if ((rd_T117 x5 x7).f0).toList = ([] : List UInt8) then (some false) else ((impl_hasNone.f k ((rd_T117 x5 x7).f0) (⟨#[47, 62]⟩ : ByteArray)).bind fun t274 => (if t274 = true then (if 1 ≤ (((rd_T117 x5 x7).f0).size : Int) then ((strings_Contains.f (((rd_T117 x5 x7).f0).extract 1 ((rd_T117 x5 x7).f0).size) (⟨#[61]⟩ : ByteArray)).bind fun t275 => (if t275 = true then (some false) else (if x7 ≤ (x0.length : Int) then ((impl_hasAttr.f (x0.take (x7 : Int).toNat) ((rd_T117 x5 x7).f0)).bind fun t280 => (if t280 = true then (some false) else ((impl_plainText.f k ((rd_T117 x5 x7).f1)).bind fun t281 => (if t281 = true then (impl_attrsOk.l0 k x0 x5 x6 (wrap64 (x7 + 1))) else (some false))))) else (none)))) else (none)) else (some false)))) else (none)) else (none)) else (some true)
def impl_attrsOk.f (k : Nat) (l0 : List (S117)) : Option (Bool) := impl_attrsOk.l0 k l0 l0 (l0.length : Int) 0
theorem impl_attrsOk.mono_l : ∀ k, (∀ y0 y1 y2 y3, LeO (impl_attrsOk.l0 k y0 y1 y2 y3) (impl_attrsOk.l0 (k + 1) y0 y1 y2 y3))
 | 0 => fun _ _ _ _ r h => by simp [impl_attrsOk.l0] at h
 | k + 1 => by
  have ih0 := impl_attrsOk.mono_l k
  ·intro y0 y1 y2 y3
   unfold impl_attrsOk.l0
   repeat' first
   | (with_reducible exact ih0 _ _ _ _)
   | (with_reducible exact impl_hasNone.mono _ _ _)
   | (with_reducible exact impl_plainText.mono _ _)
   | (with_reducible exact LeO.refl _)
   | (with_reducible exact LeO.none _)
   | (with_reducible refine LeO.ite ?_ ?_)
   | (with_reducible refine LeO.bind ?_ (fun _ => ?_))
theorem impl_attrsOk.mono : ∀ a0 k, LeO (impl_attrsOk.f k a0) (impl_attrsOk.f (k + 1) a0) := by
 intro a0 k
 have ih0 := impl_attrsOk.mono_l k
 unfold impl_attrsOk.f
 repeat' first
   | (with_reducible exact ih0 _ _ _ _)
   | (with_reducible exact impl_hasNone.mono _ _ _)
   | (with_reducible exact impl_plainText.mono _ _)
   | (with_reducible exact LeO.refl _)
   | (with_reducible exact LeO.none _)
   | (with_reducible refine LeO.ite ?_ ?_)
   | (with_reducible refine LeO.bind ?_ (fun _ => ?_))
def impl_attrsOk.T4 : Bool × List (List Nat × List Nat) := (true, [([], []), ([0], [0]), ([1], [1]), ([2], [2]), ([3], [3]), ([4, 3], [3, 4]), ([5, 3, 3], [3, 5]), ([6, 3], [3, 6]), ([3, 7], [3, 7]), ([8, 6], [8]), ([9], [9]), ([10, 9], [9, 10]), ([11, 9], [9, 11]), ([12, 9, 9], [9, 12]), ([9, 13], [9, 13]), ([14, 13], [14]), ([15], [15]), ([15], [15]), ([16, 17, 15], [15, 16, 17]), ([15], [15]), ([19, 15], [15, 19]), ([18, 20, 15, 15], [15, 18, 20]), ([15, 21], [15, 21]), ([22, 21], [22]), ([23], [23]), ([24, 23], [23, 24]), ([25, 23, 23], [23, 25]), ([26, 23], [23, 26]), ([23, 27], [23, 27])])
def impl_attrsOk.B4 : List Nat := [0, 1, 3, 7, 15, 31, 63, 127, 255, 511, 1023, 2047, 4095, 8191, 16383, 32767, 65535, 65535, 262143, 65535, 589823, 2097151, 4194303, 8388607, 16777215, 33554431, 67108863, 134217727, 268435455]
theorem impl_attrsOk.tab4 : rtab .any (opsOf Try.f127 4) = impl_attrsOk.T4 := by kernel_rfl
theorem impl_attrsOk.bits4 : waitsOk impl_attrsOk.T4.2 impl_attrsOk.B4 = true := by kernel_rfl
set_option maxHeartbeats 8000000 in
set_option maxRecDepth 100000 in
theorem impl_attrsOk.calls (k : Nat) (A0 : Option Addr) (c0 : Nat) (l0 : List (S117)) (r : Bool) (w : World) (hr0 : Kd.C k117 w A0 l0.length l0) (hc0 : l0.length ≤ c0) (hG : MaxSeen w) (h : impl_attrsOk.f k l0 = some r) :
  Calls Try.prog 127 #[.slice A0 l0.length c0] w fun e w' => e = .returned (.bool r) ∧ Below w.heap.size w w' := by
 have hu117 := Try.underlying117
 have HR0 := Aside0.mk hr0
 have HC0 := Aside0.mk hc0
 clear hr0 hc0
 have HB := Aside0.mk (Below.refl w.heap.size w)
 have HG := Aside0.mk hG
 clear hG
 have H : (impl_attrsOk.l0 k l0 l0 (l0.length : Int) 0) = some r := h
 clear h
 have H' := Aside0.mk H
 clear H
 go_enter Try.func127, Try.ntmps127
 go_wp2
 go_loopg [7] k (fun kq v7 w' => ∃ (x7_1 : Int), v7 = .int .i64 x7_1 ∧ Aside0 (impl_attrsOk.l0 kq l0 l0 (l0.length : Int) x7_1 = some r) ∧ Aside0 (kq ≤ k) ∧ Aside0 (Below w.heap.size w w'))
 case atStart => exact ⟨(0), (by first | rfl | (simp; done) | (simp [*]; done)), H', ⟨Nat.le_refl _⟩, ⟨by repeat (first | (with_reducible first | exact HB.out | apply ba_ | apply bn_ | apply b1_) | exact HB.out)⟩⟩
 case round =>
  clear H'
  obtain ⟨x7_1, rfl, HA, HK1, HB⟩ := hrel
  cases gk with
  | zero => exact absurd HA.out (by simp [impl_attrsOk.l0])
  | succ k1 =>
   have H := HA.out
   clear HA
   simp only [impl_attrsOk.l0] at H
   by_cases c2 : x7_1 < (l0.length : Int)
   ·rw [if_pos c2] at H
    have c2b0 : decide (x7_1 < (l0.length : Int)) = true := decide_eq_true c2
    clear c2
    by_cases c3 : 0 ≤ x7_1
    ·rw [if_pos c3] at H
     have c3b0 : decide (0 ≤ x7_1) = true := decide_eq_true c3
     clear c3
     by_cases c4 : x7_1 < (l0.length : Int)
     ·rw [if_pos c4] at H
      have c4b0 : decide (x7_1 < (l0.length : Int)) = true := decide_eq_true c4
      clear c4
      by_cases c5 : ((rd_T117 l0 x7_1).f0).toList = ([] : List UInt8)
      ·rw [if_pos c5] at H
       have c5b0 : (((rd_T117 l0 x7_1).f0).toList == ([] : List UInt8)) = true := beq_iff_eq.mpr c5
       have c5b1 : (((rd_T117 l0 x7_1).f0).toList != ([] : List UInt8)) = false := bne_eq_false_iff_eq.mpr c5
       clear c5
       obtain rfl := Option.some.inj H
       have p272 : 0 ≤ (x7_1 : Int) := dq_ (by assumption)
       have q272 : x7_1 < (l0.length : Int) := dq_ (by assumption)
       obtain ⟨ad272, e272, hx272_0, hx272_1⟩ := at_T117 HR0.out x7_1 p272 q272
       cases e272
       replace hx272_0 := pw_cell_below HB.out hx272_0
       replace hx272_1 := pw_cell_below HB.out hx272_1
       replace p272 := eq_true p272
       replace q272 := eq_true q272
       try go_wp2_with (first | ((with_reducible refine gate_dst (N := 4) rfl ?_); refine box_event ?hg (N := 4) ?hd (cs := #[.string (⟨#[]⟩ : ByteArray), .string (⟨#[]⟩ : ByteArray)]) (t := 117) ?hr ?_; (case hd => rfl); (case hg => rfl); (case hr => first | (go_simp; done) | (go_simp; rfl)); intro gb273 hg w6 hbox hb; have n0_ := Aside0.mk (below_step (by repeat (first | (with_reducible first | exact HB.out | apply ba_ | apply bn_ | apply b1_) | exact HB.out)) hb); have n1_ := Aside0.mk (hbox); have n2_ := Aside0.mk ((by rw [hg]; exact (below_size (by repeat (first | (with_reducible first | exact HB.out | apply ba_ | apply bn_ | apply b1_) | exact HB.out))) : w.heap.size ≤ gb273)); have n3_ := Aside0.mk ((by rw [hg]; exact (below_size (by repeat (first | (with_reducible first | exact HB.out | apply ba_ | apply bn_ | apply b1_) | exact HB.out))) : w.heap.size ≤ gb273)); clear HB; have HB := n0_; have BK273 := n1_; have GW273 := n2_; have GE273 := n3_; clear n0_ n1_ n2_ n3_; clear hb hbox hg; have hcz7_0 : w6.cell? ⟨gb273, 0, none⟩ = some (.string (⟨#[]⟩ : ByteArray)) := (bc_ BK273.out 0).trans rfl; have hcz7_1 : w6.cell? ⟨gb273, 1, none⟩ = some (.string (⟨#[]⟩ : ByteArray)) := (bc_ BK273.out 1).trans rfl; have hfz7_0 := blk_frozen BK273.out 0; have hfz7_1 := blk_frozen BK273.out 1))
       have n0_ : Aside0 (((w6.setCell ⟨gb273, 0, none⟩ (.string ((rd_T117 l0 x7_1).f0))).setCell ⟨gb273, 1, none⟩ (.string ((rd_T117 l0 x7_1).f1))).heap[gb273]? = some (.cells #[.string ((rd_T117 l0 x7_1).f0), .string ((rd_T117 l0 x7_1).f1)] 117 (0, 0))) := ⟨by (with_reducible repeat (first | refine dn_ ?_ _ | refine dd_ ?_ | refine da_ ?_ _)); refine blk_put (cs := #[.string ((rd_T117 l0 x7_1).f0), .string (⟨#[]⟩ : ByteArray)]) ?_ 1 _ rfl; (with_reducible repeat (first | refine dn_ ?_ _ | refine dd_ ?_ | refine da_ ?_ _)); refine blk_put (cs := #[.string (⟨#[]⟩ : ByteArray), .string (⟨#[]⟩ : ByteArray)]) ?_ 0 _ rfl; (with_reducible repeat (first | refine dn_ ?_ _ | refine dd_ ?_ | refine da_ ?_ _)); exact BK273.out⟩
       have n1_ : Aside0 (Below w.heap.size w ((w6.setCell ⟨gb273, 0, none⟩ (.string ((rd_T117 l0 x7_1).f0))).setCell ⟨gb273, 1, none⟩ (.string ((rd_T117 l0 x7_1).f1)))) := ⟨by repeat (first | (with_reducible first | exact HB.out | apply ba_ | apply bn_ | apply b1_ | refine below_set ?_ GE273.out) | exact HB.out)⟩
       (try clear BK273)
       (try clear HB)
       generalize ((w6.setCell ⟨gb273, 0, none⟩ (.string ((rd_T117 l0 x7_1).f0))).setCell ⟨gb273, 1, none⟩ (.string ((rd_T117 l0 x7_1).f1))) = w8 at n0_ n1_ ⊢
       have BK273 := n0_
       have HB := n1_
       clear n0_ n1_
       have n0_ := Aside0.mk (dd_ BK273.out)
       have n1_ := Aside0.mk (b1_ HB.out)
       clear BK273
       clear HB
       have BK273 := n0_
       have HB := n1_
       clear n0_ n1_
       refine start_ (n := 29) (S := fun w' => w'.cell? ⟨gb273, 0, none⟩ = some (.string ((rd_T117 l0 x7_1).f0)) ∧ w'.cell? ⟨gb273, 1, none⟩ = some (.string ((rd_T117 l0 x7_1).f1))) (ds := []) q12_0 (by kernel_rfl) rfl rfl ⟨(bc_ BK273.out 0).trans rfl, (bc_ BK273.out 1).trans rfl⟩ (fun hHeld => ?_); refine with_tabW impl_attrsOk.tab4 impl_attrsOk.bits4 (fun HT_ HW_ => ?_)
       generalize w8.drew = w9 at BK273 HB hHeld ⊢
       refine pn_ HT_ 0 12 ?_ ?_ q12_1 rfl rfl (by kernel_rfl) (fun _ _ _ h => h) (by rfl) ?_ ?_ ?_
       rotate_left 2;(intro w';go_simp;with_reducible rfl);(simp only [Act.put, sa_, sz_, ss_, i64_w, i32_w];rfl)
       refine tn_ HT_ HW_ 1 13 ?_ ?_ q12_2 rfl rfl (by kernel_rfl) (fun _ _ _ h => h) (by rfl) hHeld ?_ ?_ ?_
       rotate_left 2;(rintro w' ⟨s0, s1⟩;go_simp;with_reducible rfl);(simp only [Act.put, sa_, sz_, ss_, i64_w, i32_w];rfl)
       refine pn_ HT_ 2 14 ?_ ?_ q12_3 rfl rfl (by kernel_rfl) (fun _ _ _ h => h) (by rfl) ?_ ?_ ?_
       rotate_left 2;(intro w';go_simp;with_reducible rfl);(simp only [Act.put, sa_, sz_, ss_, i64_w, i32_w];rfl)
       refine pn_ HT_ 3 15 ?_ ?_ q12_4 rfl rfl (by kernel_rfl) (fun _ _ _ h => h) (by rfl) ?_ ?_ ?_
       rotate_left 2;(intro w';go_simp;with_reducible rfl);(simp only [Act.put, sa_, sz_, ss_, i64_w, i32_w];rfl)
       refine po_ HT_ 4 16 ?_ q12_5 rfl rfl (by kernel_rfl) (fun _ _ _ h => h) (by rfl) ?_ ?_
       rotate_left;(simp only [Act.put, sa_, sz_, ss_, i64_w, i32_w];rfl)
       refine po_ HT_ 5 17 ?_ q12_6 rfl rfl (by kernel_rfl) (fun _ _ _ h => h) (by rfl) ?_ ?_
       rotate_left;(simp only [Act.put, sa_, sz_, ss_, i64_w, i32_w];rfl)
       refine po_ HT_ 6 18 ?_ q12_7 rfl rfl (by kernel_rfl) (fun _ _ _ h => h) (by rfl) ?_ ?_
       rotate_left;(simp only [Act.put, sa_, sz_, ss_, i64_w, i32_w];rfl)
       refine po_ HT_ 7 19 ?_ q12_8 rfl rfl (by kernel_rfl) (fun _ _ _ h => h) (by rfl) ?_ ?_
       rotate_left;(simp only [Act.put, sa_, sz_, ss_, i64_w, i32_w];rfl)
       refine pn_ HT_ 8 20 ?_ ?_ q12_9 rfl rfl (by kernel_rfl) (fun _ _ _ h => h) (by rfl) ?_ ?_ ?_
       rotate_left 2;(intro w';go_simp;with_reducible rfl);(simp only [Act.put, sa_, sz_, ss_, i64_w, i32_w];rfl)
       refine pn_ HT_ 9 21 ?_ ?_ q12_10 rfl rfl (by kernel_rfl) (fun _ _ _ h => h) (by rfl) ?_ ?_ ?_
       rotate_left 2;(intro w';go_simp;with_reducible rfl);(simp only [Act.put, sa_, sz_, ss_, i64_w, i32_w];rfl)
       refine po_ HT_ 10 22 ?_ q12_11 rfl rfl (by kernel_rfl) (fun _ _ _ h => h) (by rfl) ?_ ?_
       rotate_left;(simp only [Act.put, sa_, sz_, ss_, i64_w, i32_w];rfl)
       refine po_ HT_ 11 23 ?_ q12_12 rfl rfl (by kernel_rfl) (fun _ _ _ h => h) (by rfl) ?_ ?_
       rotate_left;(simp only [Act.put, sa_, sz_, ss_, i64_w, i32_w];rfl)
       refine po_ HT_ 12 24 ?_ q12_13 rfl rfl (by kernel_rfl) (fun _ _ _ h => h) (by rfl) ?_ ?_
       rotate_left;(simp only [Act.put, sa_, sz_, ss_, i64_w, i32_w];rfl)
       refine po_ HT_ 13 25 ?_ q12_14 rfl rfl (by kernel_rfl) (fun _ _ _ h => h) (by rfl) ?_ ?_
       rotate_left;(simp only [Act.put, sa_, sz_, ss_, i64_w, i32_w];rfl)
       refine pn_ HT_ 14 26 ?_ ?_ q12_15 rfl rfl (by kernel_rfl) (fun _ _ _ h => h) (by rfl) ?_ ?_ ?_
       rotate_left 2;(intro w';go_simp;with_reducible rfl);(simp only [Act.put, sa_, sz_, ss_, i64_w, i32_w];rfl)
       refine pn_ HT_ 15 27 ?_ ?_ q12_16 rfl rfl (by kernel_rfl) (fun _ _ _ h => h) (by rfl) ?_ ?_ ?_
       rotate_left 2;(intro w';go_simp;with_reducible rfl);(simp only [Act.put, sa_, sz_, ss_, i64_w, i32_w];rfl)
       refine po_ HT_ 16 28 ?_ q12_17 rfl rfl (by kernel_rfl) (fun _ _ _ h => h) (by rfl) ?_ ?_
       rotate_left;(simp only [Act.put, sa_, sz_, ss_, i64_w, i32_w];rfl)
       refine po_ HT_ 17 29 ?_ q12_18 rfl rfl (by kernel_rfl) (fun _ _ _ h => h) (by rfl) ?_ ?_
       rotate_left;(simp only [Act.put, sa_, sz_, ss_, i64_w, i32_w];rfl)
       refine po_ HT_ 18 30 ?_ q12_19 rfl rfl (by kernel_rfl) (fun _ _ _ h => h) (by rfl) ?_ ?_
       rotate_left;(simp only [Act.put, sa_, sz_, ss_, i64_w, i32_w];rfl)
       refine po_ HT_ 19 31 ?_ q12_20 rfl rfl (by kernel_rfl) (fun _ _ _ h => h) (by rfl) ?_ ?_
       rotate_left;(simp only [Act.put, sa_, sz_, ss_, i64_w, i32_w];rfl)
       refine po_ HT_ 20 32 ?_ q12_21 rfl rfl (by kernel_rfl) (fun _ _ _ h => h) (by rfl) ?_ ?_
       rotate_left;(simp only [Act.put, sa_, sz_, ss_, i64_w, i32_w];rfl)
       refine po_ HT_ 21 33 ?_ q12_22 rfl rfl (by kernel_rfl) (fun _ _ _ h => h) (by rfl) ?_ ?_
       rotate_left;(simp only [Act.put, sa_, sz_, ss_, i64_w, i32_w];rfl)
       refine pn_ HT_ 22 34 ?_ ?_ q12_23 rfl rfl (by kernel_rfl) (fun _ _ _ h => h) (by rfl) ?_ ?_ ?_
       rotate_left 2;(intro w';go_simp;with_reducible rfl);(simp only [Act.put, sa_, sz_, ss_, i64_w, i32_w];rfl)
       refine pn_ HT_ 23 35 ?_ ?_ q12_24 rfl rfl (by kernel_rfl) (fun _ _ _ h => h) (by rfl) ?_ ?_ ?_
       rotate_left 2;(intro w';go_simp;with_reducible rfl);(simp only [Act.put, sa_, sz_, ss_, i64_w, i32_w];rfl)
       refine po_ HT_ 24 36 ?_ q12_25 rfl rfl (by kernel_rfl) (fun _ _ _ h => h) (by rfl) ?_ ?_
       rotate_left;(simp only [Act.put, sa_, sz_, ss_, i64_w, i32_w];rfl)
       refine po_ HT_ 25 37 ?_ q12_26 rfl rfl (by kernel_rfl) (fun _ _ _ h => h) (by rfl) ?_ ?_
       rotate_left;(simp only [Act.put, sa_, sz_, ss_, i64_w, i32_w];rfl)
       refine po_ HT_ 26 38 ?_ q12_27 rfl rfl (by kernel_rfl) (fun _ _ _ h => h) (by rfl) ?_ ?_
       rotate_left;(simp only [Act.put, sa_, sz_, ss_, i64_w, i32_w];rfl)
       refine po_ HT_ 27 39 ?_ q12_28 rfl rfl (by kernel_rfl) (fun _ _ _ h => h) (by rfl) ?_ ?_
       rotate_left;(simp only [Act.put, sa_, sz_, ss_, i64_w, i32_w];rfl)
       refine pn_ HT_ 28 40 ?_ ?_ q12_29 rfl rfl (by kernel_rfl) (fun _ _ _ h => h) (by rfl) ?_ ?_ ?_
       rotate_left 2;(intro w';go_simp;with_reducible rfl);(simp only [Act.put, sa_, sz_, ss_, i64_w, i32_w];rfl)
       refine done_ (done_of HT_.out (by kernel_rfl)) ?_
       try go_wp2
       go_ret
       exact ⟨by first | rfl | (simp [errW_none, errW_some] <;> rfl) | (simp [*, errW_none, errW_some] <;> rfl), by repeat (first | (with_reducible first | exact HB.out | apply ba_ | apply bn_ | apply b1_ | refine below_set ?_ GE273.out) | exact HB.out)⟩
      ·rw [if_neg c5] at H
       have c5b0 : (((rd_T117 l0 x7_1).f0).toList == ([] : List UInt8)) = false := beq_eq_false_iff_ne.mpr c5
       have c5b1 : (((rd_T117 l0 x7_1).f0).toList != ([] : List UInt8)) = true := bne_iff_ne.mpr c5
       replace H := Option.bind_eq_some_iff.mp H
       obtain ⟨t274, A100, H⟩ := H
       replace H : (if t274 = true then (if 1 ≤ (((rd_T117 l0 x7_1).f0).size : Int) then ((strings_Contains.f (((rd_T117 l0 x7_1).f0).extract 1 ((rd_T117 l0 x7_1).f0).size) (⟨#[61]⟩ : ByteArray)).bind fun t275 => (if t275 = true then (some false) else (if x7_1 ≤ (l0.length : Int) then ((impl_hasAttr.f (l0.take (x7_1 : Int).toNat) ((rd_T117 l0 x7_1).f0)).bind fun t280 => (if t280 = true then (some false) else ((impl_plainText.f k1 ((rd_T117 l0 x7_1).f1)).bind fun t281 => (if t281 = true then (impl_attrsOk.l0 k1 l0 l0 (l0.length : Int) (wrap64 (x7_1 + 1))) else (some false))))) else (none)))) else (none)) else (some false)) = some r := H
       have A10 := Aside0.mk A100
       clear A100
       by_cases c11 : t274 = true
       ·subst c11
        have H1 : (if 1 ≤ (((rd_T117 l0 x7_1).f0).size : Int) then ((strings_Contains.f (((rd_T117 l0 x7_1).f0).extract 1 ((rd_T117 l0 x7_1).f0).size) (⟨#[61]⟩ : ByteArray)).bind fun t275 => (if t275 = true then (some false) else (if x7_1 ≤ (l0.length : Int) then ((impl_hasAttr.f (l0.take (x7_1 : Int).toNat) ((rd_T117 l0 x7_1).f0)).bind fun t280 => (if t280 = true then (some false) else ((impl_plainText.f k1 ((rd_T117 l0 x7_1).f1)).bind fun t281 => (if t281 = true then (impl_attrsOk.l0 k1 l0 l0 (l0.length : Int) (wrap64 (x7_1 + 1))) else (some false))))) else (none)))) else (none)) = some r := by rw [if_pos rfl] at H; exact H
        clear H
        have H := H1
        clear H1
        by_cases c12 : 1 ≤ (((rd_T117 l0 x7_1).f0).size : Int)
        ·rw [if_pos c12] at H
         have c12b0 := eq_true c12
         have c12b1 : decide (1 ≤ (((rd_T117 l0 x7_1).f0).size : Int)) = true := decide_eq_true c12
         clear c12
         replace H := Option.bind_eq_some_iff.mp H
         obtain ⟨t275, A130, H⟩ := H
         replace H : (if t275 = true then (some false) else (if x7_1 ≤ (l0.length : Int) then ((impl_hasAttr.f (l0.take (x7_1 : Int).toNat) ((rd_T117 l0 x7_1).f0)).bind fun t280 => (if t280 = true then (some false) else ((impl_plainText.f k1 ((rd_T117 l0 x7_1).f1)).bind fun t281 => (if t281 = true then (impl_attrsOk.l0 k1 l0 l0 (l0.length : Int) (wrap64 (x7_1 + 1))) else (some false))))) else (none))) = some r := H
         have A13 := Aside0.mk A130
         clear A130
         by_cases c14 : t275 = true
         ·subst c14
          have H1 : (some false) = some r := by rw [if_pos rfl] at H; exact H
          clear H
          have H := H1
          clear H1
          obtain rfl := Option.some.inj H
          have p272 : 0 ≤ (x7_1 : Int) := dq_ (by assumption)
          have q272 : x7_1 < (l0.length : Int) := dq_ (by assumption)
          obtain ⟨ad272, e272, hx272_0, hx272_1⟩ := at_T117 HR0.out x7_1 p272 q272
          cases e272
          replace hx272_0 := pw_cell_below HB.out hx272_0
          replace hx272_1 := pw_cell_below HB.out hx272_1
          replace p272 := eq_true p272
          replace q272 := eq_true q272
          try go_wp2_with (first | ((with_reducible refine gate_dst (N := 4) rfl ?_); refine box_event ?hg (N := 4) ?hd (cs := #[.string (⟨#[]⟩ : ByteArray), .string (⟨#[]⟩ : ByteArray)]) (t := 117) ?hr ?_; (case hd => rfl); (case hg => rfl); (case hr => first | (go_simp; done) | (go_simp; rfl)); intro gb273 hg w15 hbox hb; have n0_ := Aside0.mk (below_step (by repeat (first | (with_reducible first | exact HB.out | apply ba_ | apply bn_ | apply b1_) | exact HB.out)) hb); have n1_ := Aside0.mk (hbox); have n2_ := Aside0.mk ((by rw [hg]; exact (below_size (by repeat (first | (with_reducible first | exact HB.out | apply ba_ | apply bn_ | apply b1_) | exact HB.out))) : w.heap.size ≤ gb273)); have n3_ := Aside0.mk ((by rw [hg]; exact (below_size (by repeat (first | (with_reducible first | exact HB.out | apply ba_ | apply bn_ | apply b1_) | exact HB.out))) : w.heap.size ≤ gb273)); clear HB; have HB := n0_; have BK273 := n1_; have GW273 := n2_; have GE273 := n3_; clear n0_ n1_ n2_ n3_; clear hb hbox hg; have hcz16_0 : w15.cell? ⟨gb273, 0, none⟩ = some (.string (⟨#[]⟩ : ByteArray)) := (bc_ BK273.out 0).trans rfl; have hcz16_1 : w15.cell? ⟨gb273, 1, none⟩ = some (.string (⟨#[]⟩ : ByteArray)) := (bc_ BK273.out 1).trans rfl; have hfz16_0 := blk_frozen BK273.out 0; have hfz16_1 := blk_frozen BK273.out 1))
          have n0_ : Aside0 (((w15.setCell ⟨gb273, 0, none⟩ (.string ((rd_T117 l0 x7_1).f0))).setCell ⟨gb273, 1, none⟩ (.string ((rd_T117 l0 x7_1).f1))).heap[gb273]? = some (.cells #[.string ((rd_T117 l0 x7_1).f0), .string ((rd_T117 l0 x7_1).f1)] 117 (0, 0))) := ⟨by (with_reducible repeat (first | refine dn_ ?_ _ | refine dd_ ?_ | refine da_ ?_ _)); refine blk_put (cs := #[.string ((rd_T117 l0 x7_1).f0), .string (⟨#[]⟩ : ByteArray)]) ?_ 1 _ rfl; (with_reducible repeat (first | refine dn_ ?_ _ | refine dd_ ?_ | refine da_ ?_ _)); refine blk_put (cs := #[.string (⟨#[]⟩ : ByteArray), .string (⟨#[]⟩ : ByteArray)]) ?_ 0 _ rfl; (with_reducible repeat (first | refine dn_ ?_ _ | refine dd_ ?_ | refine da_ ?_ _)); exact BK273.out⟩
          have n1_ : Aside0 (Below w.heap.size w ((w15.setCell ⟨gb273, 0, none⟩ (.string ((rd_T117 l0 x7_1).f0))).setCell ⟨gb273, 1, none⟩ (.string ((rd_T117 l0 x7_1).f1)))) := ⟨by repeat (first | (with_reducible first | exact HB.out | apply ba_ | apply bn_ | apply b1_ | refine below_set ?_ GE273.out) | exact HB.out)⟩
          (try clear BK273)
          (try clear HB)
          generalize ((w15.setCell ⟨gb273, 0, none⟩ (.string ((rd_T117 l0 x7_1).f0))).setCell ⟨gb273, 1, none⟩ (.string ((rd_T117 l0 x7_1).f1))) = w17 at n0_ n1_ ⊢
          have BK273 := n0_
          have HB := n1_
          clear n0_ n1_
          have n0_ := Aside0.mk (dd_ BK273.out)
          have n1_ := Aside0.mk (b1_ HB.out)
          clear BK273
          clear HB
          have BK273 := n0_
          have HB := n1_
          clear n0_ n1_
          refine start_ (n := 29) (S := fun w' => w'.cell? ⟨gb273, 0, none⟩ = some (.string ((rd_T117 l0 x7_1).f0)) ∧ w'.cell? ⟨gb273, 1, none⟩ = some (.string ((rd_T117 l0 x7_1).f1))) (ds := []) q12_0 (by kernel_rfl) rfl rfl ⟨(bc_ BK273.out 0).trans rfl, (bc_ BK273.out 1).trans rfl⟩ (fun hHeld => ?_); refine with_tabW impl_attrsOk.tab4 impl_attrsOk.bits4 (fun HT_ HW_ => ?_)
          generalize w17.drew = w18 at BK273 HB hHeld ⊢
          refine pn_ HT_ 0 12 ?_ ?_ q12_1 rfl rfl (by kernel_rfl) (fun _ _ _ h => h) (by rfl) ?_ ?_ ?_
          rotate_left 2;(intro w';go_simp;with_reducible rfl);(simp only [Act.put, sa_, sz_, ss_, i64_w, i32_w];rfl)
          refine tn_ HT_ HW_ 1 13 ?_ ?_ q12_2 rfl rfl (by kernel_rfl) (fun _ _ _ h => h) (by rfl) hHeld ?_ ?_ ?_
          rotate_left 2;(rintro w' ⟨s0, s1⟩;go_simp;with_reducible rfl);(simp only [Act.put, sa_, sz_, ss_, i64_w, i32_w];rfl)
          refine pn_ HT_ 2 14 ?_ ?_ q12_3 rfl rfl (by kernel_rfl) (fun _ _ _ h => h) (by rfl) ?_ ?_ ?_
          rotate_left 2;(intro w';go_simp;with_reducible rfl);(simp only [Act.put, sa_, sz_, ss_, i64_w, i32_w];rfl)
          refine pn_ HT_ 3 15 ?_ ?_ q12_4 rfl rfl (by kernel_rfl) (fun _ _ _ h => h) (by rfl) ?_ ?_ ?_
          rotate_left 2;(intro w';go_simp;with_reducible rfl);(simp only [Act.put, sa_, sz_, ss_, i64_w, i32_w];rfl)
          refine pn_ HT_ 4 16 ?_ ?_ q12_5 rfl rfl (by kernel_rfl) (fun _ _ _ h => h) (by rfl) ?_ ?_ ?_
          rotate_left 2;(intro w';go_simp;with_reducible rfl);(simp only [Act.put, sa_, sz_, ss_, i64_w, i32_w];rfl)
          refine tn_ HT_ HW_ 5 17 ?_ ?_ q12_6 rfl rfl (by kernel_rfl) (fun _ _ _ h => h) (by rfl) hHeld ?_ ?_ ?_
          rotate_left 2;(rintro w' ⟨s0, s1⟩;go_simp;with_reducible rfl);(simp only [Act.put, sa_, sz_, ss_, i64_w, i32_w];rfl)
          refine on_ HT_ 6 18 q12_7 rfl rfl (by kernel_rfl) (by decide) (fun K hK => ?_)
          refine goes_ Try.func141 (by kernel_rfl) rfl #[.string ((rd_T117 l0 x7_1).f0), .string (⟨#[47, 62]⟩ : ByteArray)] (by rfl) rfl rfl (by (try simp only [List.map_toArray, List.map_cons, List.map_nil]); first | done | rfl | (simp only [List.length_drop, List.length_take]; rfl)) ?_
          with_reducible refine (impl_hasNone.calls k1 ((rd_T117 l0 x7_1).f0) (⟨#[47, 62]⟩ : ByteArray) true _ A10.out).mono ?_
          rintro e w19 ⟨rfl, hb⟩
          refine ⟨_, rfl, ?_⟩
          have n0_ := Aside0.mk (blk_below (g := gb273) (o := .cells #[.string ((rd_T117 l0 x7_1).f0), .string ((rd_T117 l0 x7_1).f1)] 117 (0, 0)) (by (with_reducible repeat (first | refine dn_ ?_ _ | refine dd_ ?_ | refine da_ ?_ _)); exact BK273.out) hb)
          have n1_ := Aside0.mk (below_step (by repeat (first | (with_reducible first | exact HB.out | apply ba_ | apply bn_ | apply b1_ | refine below_set ?_ GE273.out) | exact HB.out)) hb)
          clear BK273
          clear HB
          have BK273 := n0_
          have HB := n1_
          clear n0_ n1_
          (try clear hb)
          refine hK.out _ _ ⟨(bc_ BK273.out 0).trans rfl, (bc_ BK273.out 1).trans rfl⟩ (fun hHeld => ?_)
          clear hK K
          refine norm_ (a' := ?_) ?_ ?_
          rotate_left
          ·show Act.put _ (some 18) _ = _
           simp only [Act.put, sa_, sz_, ss_, i64_w, i32_w]
           rfl
          refine pn_ HT_ 7 19 ?_ ?_ q12_8 rfl rfl (by kernel_rfl) (fun _ _ _ h => h) (by rfl) ?_ ?_ ?_
          rotate_left 2;(intro w';go_simp;with_reducible rfl);(simp only [Act.put, sa_, sz_, ss_, i64_w, i32_w];rfl)
          refine pn_ HT_ 8 20 ?_ ?_ q12_9 rfl rfl (by kernel_rfl) (fun _ _ _ h => h) (by rfl) ?_ ?_ ?_
          rotate_left 2;(intro w';go_simp;with_reducible rfl);(simp only [Act.put, sa_, sz_, ss_, i64_w, i32_w];rfl)
          refine pn_ HT_ 9 21 ?_ ?_ q12_10 rfl rfl (by kernel_rfl) (fun _ _ _ h => h) (by rfl) ?_ ?_ ?_
          rotate_left 2;(intro w';go_simp;with_reducible rfl);(simp only [Act.put, sa_, sz_, ss_, i64_w, i32_w];rfl)
          refine pn_ HT_ 10 22 ?_ ?_ q12_11 rfl rfl (by kernel_rfl) (fun _ _ _ h => h) (by rfl) ?_ ?_ ?_
          rotate_left 2;(intro w';go_simp;with_reducible rfl);(simp only [Act.put, sa_, sz_, ss_, i64_w, i32_w];rfl)
          refine tn_ HT_ HW_ 11 23 ?_ ?_ q12_12 rfl rfl (by kernel_rfl) (fun _ _ _ h => h) (by rfl) hHeld ?_ ?_ ?_
          rotate_left 2;(rintro w' ⟨s0, s1⟩;go_simp;with_reducible rfl);(simp only [Act.put, sa_, sz_, ss_, i64_w, i32_w];rfl)
          refine pn_ HT_ 12 24 ?_ ?_ q12_13 rfl rfl (by kernel_rfl) (fun _ _ _ h => h) (by rfl) ?_ ?_ ?_
          rotate_left 2;(intro w';go_simp;with_reducible rfl);(simp only [Act.put, sa_, sz_, ss_, i64_w, i32_w];rfl)
          refine on_ HT_ 13 25 q12_14 rfl rfl (by kernel_rfl) (by decide) (fun K hK => ?_)
          refine goes_ Try.func99 (by kernel_rfl) rfl #[.string (((rd_T117 l0 x7_1).f0).extract 1 ((rd_T117 l0 x7_1).f0).size), .string (⟨#[61]⟩ : ByteArray)] (by rfl) rfl rfl (by (try simp only [List.map_toArray, List.map_cons, List.map_nil]); first | done | rfl | (simp only [List.length_drop, List.length_take]; rfl)) ?_
          with_reducible refine (strings_Contains.calls (((rd_T117 l0 x7_1).f0).extract 1 ((rd_T117 l0 x7_1).f0).size) (⟨#[61]⟩ : ByteArray) true _ ?side1 A13.out).mono ?_
          (case side1 => exact MaxSeen.below HG.out (by repeat (first | (with_reducible first | exact HB.out | apply ba_ | apply bn_ | apply b1_ | refine below_set ?_ GE273.out) | exact HB.out)))
          rintro e w20 ⟨rfl, hb⟩
          refine ⟨_, rfl, ?_⟩
          have n0_ := Aside0.mk (blk_below (g := gb273) (o := .cells #[.string ((rd_T117 l0 x7_1).f0), .string ((rd_T117 l0 x7_1).f1)] 117 (0, 0)) (by (with_reducible repeat (first | refine dn_ ?_ _ | refine dd_ ?_ | refine da_ ?_ _)); exact BK273.out) hb)
          have n1_ := Aside0.mk (below_step (by repeat (first | (with_reducible first | exact HB.out | apply ba_ | apply bn_ | apply b1_ | refine below_set ?_ GE273.out) | exact HB.out)) hb)
          clear BK273
          clear HB
          have BK273 := n0_
          have HB := n1_
          clear n0_ n1_
          (try clear hb)
          refine hK.out _ _ ⟨(bc_ BK273.out 0).trans rfl, (bc_ BK273.out 1).trans rfl⟩ (fun hHeld => ?_)
          clear hK K
          refine norm_ (a' := ?_) ?_ ?_
          rotate_left
          ·show Act.put _ (some 25) _ = _
           simp only [Act.put, sa_, sz_, ss_, i64_w, i32_w]
           rfl
          refine pn_ HT_ 14 26 ?_ ?_ q12_15 rfl rfl (by kernel_rfl) (fun _ _ _ h => h) (by rfl) ?_ ?_ ?_
          rotate_left 2;(intro w';go_simp;with_reducible rfl);(simp only [Act.put, sa_, sz_, ss_, i64_w, i32_w];rfl)
          refine pn_ HT_ 15 27 ?_ ?_ q12_16 rfl rfl (by kernel_rfl) (fun _ _ _ h => h) (by rfl) ?_ ?_ ?_
          rotate_left 2;(intro w';go_simp;with_reducible rfl);(simp only [Act.put, sa_, sz_, ss_, i64_w, i32_w];rfl)
          refine po_ HT_ 16 28 ?_ q12_17 rfl rfl (by kernel_rfl) (fun _ _ _ h => h) (by rfl) ?_ ?_
          rotate_left;(simp only [Act.put, sa_, sz_, ss_, i64_w, i32_w];rfl)
          refine po_ HT_ 17 29 ?_ q12_18 rfl rfl (by kernel_rfl) (fun _ _ _ h => h) (by rfl) ?_ ?_
          rotate_left;(simp only [Act.put, sa_, sz_, ss_, i64_w, i32_w];rfl)
          refine po_ HT_ 18 30 ?_ q12_19 rfl rfl (by kernel_rfl) (fun _ _ _ h => h) (by rfl) ?_ ?_
          rotate_left;(simp only [Act.put, sa_, sz_, ss_, i64_w, i32_w];rfl)
          refine po_ HT_ 19 31 ?_ q12_20 rfl rfl (by kernel_rfl) (fun _ _ _ h => h) (by rfl) ?_ ?_
          rotate_left;(simp only [Act.put, sa_, sz_, ss_, i64_w, i32_w];rfl)
          refine po_ HT_ 20 32 ?_ q12_21 rfl rfl (by kernel_rfl) (fun _ _ _ h => h) (by rfl) ?_ ?_
          rotate_left;(simp only [Act.put, sa_, sz_, ss_, i64_w, i32_w];rfl)
          refine po_ HT_ 21 33 ?_ q12_22 rfl rfl (by kernel_rfl) (fun _ _ _ h => h) (by rfl) ?_ ?_
          rotate_left;(simp only [Act.put, sa_, sz_, ss_, i64_w, i32_w];rfl)
          refine pn_ HT_ 22 34 ?_ ?_ q12_23 rfl rfl (by kernel_rfl) (fun _ _ _ h => h) (by rfl) ?_ ?_ ?_
          rotate_left 2;(intro w';go_simp;with_reducible rfl);(simp only [Act.put, sa_, sz_, ss_, i64_w, i32_w];rfl)
          refine pn_ HT_ 23 35 ?_ ?_ q12_24 rfl rfl (by kernel_rfl) (fun _ _ _ h => h) (by rfl) ?_ ?_ ?_
          rotate_left 2;(intro w';go_simp;with_reducible rfl);(simp only [Act.put, sa_, sz_, ss_, i64_w, i32_w];rfl)
          refine po_ HT_ 24 36 ?_ q12_25 rfl rfl (by kernel_rfl) (fun _ _ _ h => h) (by rfl) ?_ ?_
          rotate_left;(simp only [Act.put, sa_, sz_, ss_, i64_w, i32_w];rfl)
          refine po_ HT_ 25 37 ?_ q12_26 rfl rfl (by kernel_rfl) (fun _ _ _ h => h) (by rfl) ?_ ?_
          rotate_left;(simp only [Act.put, sa_, sz_, ss_, i64_w, i32_w];rfl)
          refine po_ HT_ 26 38 ?_ q12_27 rfl rfl (by kernel_rfl) (fun _ _ _ h => h) (by rfl) ?_ ?_
          rotate_left;(simp only [Act.put, sa_, sz_, ss_, i64_w, i32_w];rfl)
          refine po_ HT_ 27 39 ?_ q12_28 rfl rfl (by kernel_rfl) (fun _ _ _ h => h) (by rfl) ?_ ?_
          rotate_left;(simp only [Act.put, sa_, sz_, ss_, i64_w, i32_w];rfl)
          refine pn_ HT_ 28 40 ?_ ?_ q12_29 rfl rfl (by kernel_rfl) (fun _ _ _ h => h) (by rfl) ?_ ?_ ?_
          rotate_left 2;(intro w';go_simp;with_reducible rfl);(simp only [Act.put, sa_, sz_, ss_, i64_w, i32_w];rfl)
          refine done_ (done_of HT_.out (by kernel_rfl)) ?_
          try go_wp2
          go_ret
          exact ⟨by first | rfl | (simp [errW_none, errW_some] <;> rfl) | (simp [*, errW_none, errW_some] <;> rfl), by repeat (first | (with_reducible first | exact HB.out | apply ba_ | apply bn_ | apply b1_ | refine below_set ?_ GE273.out) | exact HB.out)⟩
         ·replace c14 := Bool.eq_false_iff.mpr c14
          subst c14
          have H1 : (if x7_1 ≤ (l0.length : Int) then ((impl_hasAttr.f (l0.take (x7_1 : Int).toNat) ((rd_T117 l0 x7_1).f0)).bind fun t280 => (if t280 = true then (some false) else ((impl_plainText.f k1 ((rd_T117 l0 x7_1).f1)).bind fun t281 => (if t281 = true then (impl_attrsOk.l0 k1 l0 l0 (l0.length : Int) (wrap64 (x7_1 + 1))) else (some false))))) else (none)) = some r := by rw [if_neg (show ¬ (false = true) by decide)] at H; exact H
          clear H
          have H := H1
          clear H1
          have c21b0 := eq_true (dq_ (by assumption) : 0 ≤ x7_1)
          by_cases c22 : x7_1 ≤ (l0.length : Int)
          ·rw [if_pos c22] at H
           have c22b0 := eq_true c22
           have c22b1 : decide (x7_1 ≤ (l0.length : Int)) = true := decide_eq_true c22
           clear c22
           obtain ⟨y276, hy276⟩ : ∃ y_ : List (S117), y_ = (l0.take (x7_1 : Int).toNat) := ⟨_, rfl⟩
           replace H : ((impl_hasAttr.f y276 ((rd_T117 l0 x7_1).f0)).bind fun t280 => (if t280 = true then (some false) else ((impl_plainText.f k1 ((rd_T117 l0 x7_1).f1)).bind fun t281 => (if t281 = true then (impl_attrsOk.l0 k1 l0 l0 (l0.length : Int) (wrap64 (x7_1 + 1))) else (some false))))) = some r := by first | (rw [hy276]; with_reducible exact H) | (have H2_ := (Option.bind_some _ _).symm.trans H; rw [hy276]; with_reducible exact H2_) | (have H2_ := (Option.bind_some _ _).symm.trans H; with_reducible exact H2_) | with_reducible exact H | (rw [hy276]; exact H) | exact H
           have Ny276 := Aside0.mk hy276
           clear hy276
           replace H := Option.bind_eq_some_iff.mp H
           obtain ⟨t280, A230, H⟩ := H
           replace H : (if t280 = true then (some false) else ((impl_plainText.f k1 ((rd_T117 l0 x7_1).f1)).bind fun t281 => (if t281 = true then (impl_attrsOk.l0 k1 l0 l0 (l0.length : Int) (wrap64 (x7_1 + 1))) else (some false)))) = some r := H
           have A23 := Aside0.mk A230
           clear A230
           by_cases c24 : t280 = true
           ·subst c24
            have H1 : (some false) = some r := by rw [if_pos rfl] at H; exact H
            clear H
            have H := H1
            clear H1
            obtain rfl := Option.some.inj H
            have p272 : 0 ≤ (x7_1 : Int) := dq_ (by assumption)
            have q272 : x7_1 < (l0.length : Int) := dq_ (by assumption)
            obtain ⟨ad272, e272, hx272_0, hx272_1⟩ := at_T117 HR0.out x7_1 p272 q272
            cases e272
            replace hx272_0 := pw_cell_below HB.out hx272_0
            replace hx272_1 := pw_cell_below HB.out hx272_1
            replace p272 := eq_true p272
            replace q272 := eq_true q272
            try go_wp2_with (first | ((with_reducible refine gate_dst (N := 4) rfl ?_); refine box_event ?hg (N := 4) ?hd (cs := #[.string (⟨#[]⟩ : ByteArray), .string (⟨#[]⟩ : ByteArray)]) (t := 117) ?hr ?_; (case hd => rfl); (case hg => rfl); (case hr => first | (go_simp; done) | (go_simp; rfl)); intro gb273 hg w25 hbox hb; have n0_ := Aside0.mk (below_step (by repeat (first | (with_reducible first | exact HB.out | apply ba_ | apply bn_ | apply b1_) | exact HB.out)) hb); have n1_ := Aside0.mk (hbox); have n2_ := Aside0.mk ((by rw [hg]; exact (below_size (by repeat (first | (with_reducible first | exact HB.out | apply ba_ | apply bn_ | apply b1_) | exact HB.out))) : w.heap.size ≤ gb273)); have n3_ := Aside0.mk ((by rw [hg]; exact (below_size (by repeat (first | (with_reducible first | exact HB.out | apply ba_ | apply bn_ | apply b1_) | exact HB.out))) : w.heap.size ≤ gb273)); clear HB; have HB := n0_; have BK273 := n1_; have GW273 := n2_; have GE273 := n3_; clear n0_ n1_ n2_ n3_; clear hb hbox hg; have hcz26_0 : w25.cell? ⟨gb273, 0, none⟩ = some (.string (⟨#[]⟩ : ByteArray)) := (bc_ BK273.out 0).trans rfl; have hcz26_1 : w25.cell? ⟨gb273, 1, none⟩ = some (.string (⟨#[]⟩ : ByteArray)) := (bc_ BK273.out 1).trans rfl; have hfz26_0 := blk_frozen BK273.out 0; have hfz26_1 := blk_frozen BK273.out 1))
            have n0_ : Aside0 (((w25.setCell ⟨gb273, 0, none⟩ (.string ((rd_T117 l0 x7_1).f0))).setCell ⟨gb273, 1, none⟩ (.string ((rd_T117 l0 x7_1).f1))).heap[gb273]? = some (.cells #[.string ((rd_T117 l0 x7_1).f0), .string ((rd_T117 l0 x7_1).f1)] 117 (0, 0))) := ⟨by (with_reducible repeat (first | refine dn_ ?_ _ | refine dd_ ?_ | refine da_ ?_ _)); refine blk_put (cs := #[.string ((rd_T117 l0 x7_1).f0), .string (⟨#[]⟩ : ByteArray)]) ?_ 1 _ rfl; (with_reducible repeat (first | refine dn_ ?_ _ | refine dd_ ?_ | refine da_ ?_ _)); refine blk_put (cs := #[.string (⟨#[]⟩ : ByteArray), .string (⟨#[]⟩ : ByteArray)]) ?_ 0 _ rfl; (with_reducible repeat (first | refine dn_ ?_ _ | refine dd_ ?_ | refine da_ ?_ _)); exact BK273.out⟩
            have n1_ : Aside0 (Below w.heap.size w ((w25.setCell ⟨gb273, 0, none⟩ (.string ((rd_T117 l0 x7_1).f0))).setCell ⟨gb273, 1, none⟩ (.string ((rd_T117 l0 x7_1).f1)))) := ⟨by repeat (first | (with_reducible first | exact HB.out | apply ba_ | apply bn_ | apply b1_ | refine below_set ?_ GE273.out) | exact HB.out)⟩
            (try clear BK273)
            (try clear HB)
            generalize ((w25.setCell ⟨gb273, 0, none⟩ (.string ((rd_T117 l0 x7_1).f0))).setCell ⟨gb273, 1, none⟩ (.string ((rd_T117 l0 x7_1).f1))) = w27 at n0_ n1_ ⊢
            have BK273 := n0_
            have HB := n1_
            clear n0_ n1_
            have n0_ := Aside0.mk (dd_ BK273.out)
            have n1_ := Aside0.mk (b1_ HB.out)
            clear BK273
            clear HB
            have BK273 := n0_
            have HB := n1_
            clear n0_ n1_
            refine start_ (n := 29) (S := fun w' => w'.cell? ⟨gb273, 0, none⟩ = some (.string ((rd_T117 l0 x7_1).f0)) ∧ w'.cell? ⟨gb273, 1, none⟩ = some (.string ((rd_T117 l0 x7_1).f1))) (ds := []) q12_0 (by kernel_rfl) rfl rfl ⟨(bc_ BK273.out 0).trans rfl, (bc_ BK273.out 1).trans rfl⟩ (fun hHeld => ?_); refine with_tabW impl_attrsOk.tab4 impl_attrsOk.bits4 (fun HT_ HW_ => ?_)
            generalize w27.drew = w28 at BK273 HB hHeld ⊢
            refine pn_ HT_ 0 12 ?_ ?_ q12_1 rfl rfl (by kernel_rfl) (fun _ _ _ h => h) (by rfl) ?_ ?_ ?_
            rotate_left 2;(intro w';go_simp;with_reducible rfl);(simp only [Act.put, sa_, sz_, ss_, i64_w, i32_w];rfl)
            refine tn_ HT_ HW_ 1 13 ?_ ?_ q12_2 rfl rfl (by kernel_rfl) (fun _ _ _ h => h) (by rfl) hHeld ?_ ?_ ?_
            rotate_left 2;(rintro w' ⟨s0, s1⟩;go_simp;with_reducible rfl);(simp only [Act.put, sa_, sz_, ss_, i64_w, i32_w];rfl)
            refine pn_ HT_ 2 14 ?_ ?_ q12_3 rfl rfl (by kernel_rfl) (fun _ _ _ h => h) (by rfl) ?_ ?_ ?_
            rotate_left 2;(intro w';go_simp;with_reducible rfl);(simp only [Act.put, sa_, sz_, ss_, i64_w, i32_w];rfl)
            refine pn_ HT_ 3 15 ?_ ?_ q12_4 rfl rfl (by kernel_rfl) (fun _ _ _ h => h) (by rfl) ?_ ?_ ?_
            rotate_left 2;(intro w';go_simp;with_reducible rfl);(simp only [Act.put, sa_, sz_, ss_, i64_w, i32_w];rfl)
            refine pn_ HT_ 4 16 ?_ ?_ q12_5 rfl rfl (by kernel_rfl) (fun _ _ _ h => h) (by rfl) ?_ ?_ ?_
            rotate_left 2;(intro w';go_simp;with_reducible rfl);(simp only [Act.put, sa_, sz_, ss_, i64_w, i32_w];rfl)
            refine tn_ HT_ HW_ 5 17 ?_ ?_ q12_6 rfl rfl (by kernel_rfl) (fun _ _ _ h => h) (by rfl) hHeld ?_ ?_ ?_
            rotate_left 2;(rintro w' ⟨s0, s1⟩;go_simp;with_reducible rfl);(simp only [Act.put, sa_, sz_, ss_, i64_w, i32_w];rfl)
            refine on_ HT_ 6 18 q12_7 rfl rfl (by kernel_rfl) (by decide) (fun K hK => ?_)
            refine goes_ Try.func141 (by kernel_rfl) rfl #[.string ((rd_T117 l0 x7_1).f0), .string (⟨#[47, 62]⟩ : ByteArray)] (by rfl) rfl rfl (by (try simp only [List.map_toArray, List.map_cons, List.map_nil]); first | done | rfl | (simp only [List.length_drop, List.length_take]; rfl)) ?_
            with_reducible refine (impl_hasNone.calls k1 ((rd_T117 l0 x7_1).f0) (⟨#[47, 62]⟩ : ByteArray) true _ A10.out).mono ?_
            rintro e w29 ⟨rfl, hb⟩
            refine ⟨_, rfl, ?_⟩
            have n0_ := Aside0.mk (blk_below (g := gb273) (o := .cells #[.string ((rd_T117 l0 x7_1).f0), .string ((rd_T117 l0 x7_1).f1)] 117 (0, 0)) (by (with_reducible repeat (first | refine dn_ ?_ _ | refine dd_ ?_ | refine da_ ?_ _)); exact BK273.out) hb)
            have n1_ := Aside0.mk (below_step (by repeat (first | (with_reducible first | exact HB.out | apply ba_ | apply bn_ | apply b1_ | refine below_set ?_ GE273.out) | exact HB.out)) hb)
            clear BK273
            clear HB
            have BK273 := n0_
            have HB := n1_
            clear n0_ n1_
            (try clear hb)
            refine hK.out _ _ ⟨(bc_ BK273.out 0).trans rfl, (bc_ BK273.out 1).trans rfl⟩ (fun hHeld => ?_)
            clear hK K
            refine norm_ (a' := ?_) ?_ ?_
            rotate_left
            ·show Act.put _ (some 18) _ = _
             simp only [Act.put, sa_, sz_, ss_, i64_w, i32_w]
             rfl
            refine pn_ HT_ 7 19 ?_ ?_ q12_8 rfl rfl (by kernel_rfl) (fun _ _ _ h => h) (by rfl) ?_ ?_ ?_
            rotate_left 2;(intro w';go_simp;with_reducible rfl);(simp only [Act.put, sa_, sz_, ss_, i64_w, i32_w];rfl)
            refine pn_ HT_ 8 20 ?_ ?_ q12_9 rfl rfl (by kernel_rfl) (fun _ _ _ h => h) (by rfl) ?_ ?_ ?_
            rotate_left 2;(intro w';go_simp;with_reducible rfl);(simp only [Act.put, sa_, sz_, ss_, i64_w, i32_w];rfl)
            refine pn_ HT_ 9 21 ?_ ?_ q12_10 rfl rfl (by kernel_rfl) (fun _ _ _ h => h) (by rfl) ?_ ?_ ?_
            rotate_left 2;(intro w';go_simp;with_reducible rfl);(simp only [Act.put, sa_, sz_, ss_, i64_w, i32_w];rfl)
            refine pn_ HT_ 10 22 ?_ ?_ q12_11 rfl rfl (by kernel_rfl) (fun _ _ _ h => h) (by rfl) ?_ ?_ ?_
            rotate_left 2;(intro w';go_simp;with_reducible rfl);(simp only [Act.put, sa_, sz_, ss_, i64_w, i32_w];rfl)
            refine tn_ HT_ HW_ 11 23 ?_ ?_ q12_12 rfl rfl (by kernel_rfl) (fun _ _ _ h => h) (by rfl) hHeld ?_ ?_ ?_
            rotate_left 2;(rintro w' ⟨s0, s1⟩;go_simp;with_reducible rfl);(simp only [Act.put, sa_, sz_, ss_, i64_w, i32_w];rfl)
            refine pn_ HT_ 12 24 ?_ ?_ q12_13 rfl rfl (by kernel_rfl) (fun _ _ _ h => h) (by rfl) ?_ ?_ ?_
            rotate_left 2;(intro w';go_simp;with_reducible rfl);(simp only [Act.put, sa_, sz_, ss_, i64_w, i32_w];rfl)
            refine on_ HT_ 13 25 q12_14 rfl rfl (by kernel_rfl) (by decide) (fun K hK => ?_)
            refine goes_ Try.func99 (by kernel_rfl) rfl #[.string (((rd_T117 l0 x7_1).f0).extract 1 ((rd_T117 l0 x7_1).f0).size), .string (⟨#[61]⟩ : ByteArray)] (by rfl) rfl rfl (by (try simp only [List.map_toArray, List.map_cons, List.map_nil]); first | done | rfl | (simp only [List.length_drop, List.length_take]; rfl)) ?_
            with_reducible refine (strings_Contains.calls (((rd_T117 l0 x7_1).f0).extract 1 ((rd_T117 l0 x7_1).f0).size) (⟨#[61]⟩ : ByteArray) false _ ?side1 A13.out).mono ?_
            (case side1 => exact MaxSeen.below HG.out (by repeat (first | (with_reducible first | exact HB.out | apply ba_ | apply bn_ | apply b1_ | refine below_set ?_ GE273.out) | exact HB.out)))
            rintro e w30 ⟨rfl, hb⟩
            refine ⟨_, rfl, ?_⟩
            have n0_ := Aside0.mk (blk_below (g := gb273) (o := .cells #[.string ((rd_T117 l0 x7_1).f0), .string ((rd_T117 l0 x7_1).f1)] 117 (0, 0)) (by (with_reducible repeat (first | refine dn_ ?_ _ | refine dd_ ?_ | refine da_ ?_ _)); exact BK273.out) hb)
            have n1_ := Aside0.mk (below_step (by repeat (first | (with_reducible first | exact HB.out | apply ba_ | apply bn_ | apply b1_ | refine below_set ?_ GE273.out) | exact HB.out)) hb)
            clear BK273
            clear HB
            have BK273 := n0_
            have HB := n1_
            clear n0_ n1_
            (try clear hb)
            have q31 : (x7_1 : Int) ≤ ((l0.length : Int) : Int) := dq_ (by assumption)
            obtain ⟨i031, hi031, _, hsz31, _⟩ := info_parts info117
            have hroom31 : l0.length ≤ c0 := HC0.out
            have hC31 : Kd.C k117 _ (some ad272) l0.length l0 := HR0.out
            have hcut31 := cut_to (P := Try.prog) 85 117 .i64 Try.underlying85 hi031 (some ad272) l0.length c0 x7_1 (dq_ (by assumption)) q31 hroom31
            have hr31 := Kd.C_take (m := (x7_1 : Int).toNat) hC31 (by omega)
            have hy31 : y276.length = (x7_1 : Int).toNat := (by rw [Ny276.out, List.length_take]; omega)
            rw [← Ny276.out] at hr31
            rw [← hy31] at hcut31
            have HR279 := Aside0.mk hr31
            have HC279 := Aside0.mk (show y276.length ≤ c0 from by omega)
            clear hr31 hC31 hroom31 hi031 hsz31
            have KY31 := Aside0.mk hy31
            clear hy31
            replace q31 := eq_true q31
            refine hK.out _ _ ⟨(bc_ BK273.out 0).trans rfl, (bc_ BK273.out 1).trans rfl⟩ (fun hHeld => ?_)
            clear hK K
            refine norm_ (a' := ?_) ?_ ?_
            rotate_left
            ·show Act.put _ (some 25) _ = _
             simp only [Act.put, sa_, sz_, ss_, i64_w, i32_w]
             rfl
            refine pn_ HT_ 14 26 ?_ ?_ q12_15 rfl rfl (by kernel_rfl) (fun _ _ _ h => h) (by rfl) ?_ ?_ ?_
            rotate_left 2;(intro w';go_simp;with_reducible rfl);(simp only [Act.put, sa_, sz_, ss_, i64_w, i32_w];rfl)
            refine pn_ HT_ 15 27 ?_ ?_ q12_16 rfl rfl (by kernel_rfl) (fun _ _ _ h => h) (by rfl) ?_ ?_ ?_
            rotate_left 2;(intro w';go_simp;with_reducible rfl);(simp only [Act.put, sa_, sz_, ss_, i64_w, i32_w];rfl)
            refine pn_ HT_ 16 28 ?_ ?_ q12_17 rfl rfl (by kernel_rfl) (fun _ _ _ h => h) (by rfl) ?_ ?_ ?_
            rotate_left 2;(intro w';go_simp;with_reducible rfl);(simp only [Act.put, sa_, sz_, ss_, i64_w, i32_w];rfl)
            refine pn_ HT_ 17 29 ?_ ?_ q12_18 rfl rfl (by kernel_rfl) (fun _ _ _ h => h) (by rfl) ?_ ?_ ?_
            rotate_left 2;(intro w';go_simp;with_reducible rfl);(simp only [Act.put, sa_, sz_, ss_, i64_w, i32_w];rfl)
            refine pn_ HT_ 18 30 ?_ ?_ q12_19 rfl rfl (by kernel_rfl) (fun _ _ _ h => h) (by rfl) ?_ ?_ ?_
            rotate_left 2;(intro w';go_simp;with_reducible rfl);(simp only [Act.put, sa_, sz_, ss_, i64_w, i32_w];rfl)
            refine pn_ HT_ 19 31 ?_ ?_ q12_20 rfl rfl (by kernel_rfl) (fun _ _ _ h => h) (by rfl) ?_ ?_ ?_
            rotate_left 2;(intro w';go_simp;with_reducible rfl);(simp only [Act.put, sa_, sz_, ss_, i64_w, i32_w];rfl)
            refine tn_ HT_ HW_ 20 32 ?_ ?_ q12_21 rfl rfl (by kernel_rfl) (fun _ _ _ h => h) (by rfl) hHeld ?_ ?_ ?_
            rotate_left 2;(rintro w' ⟨s0, s1⟩;go_simp;with_reducible rfl);(simp only [Act.put, sa_, sz_, ss_, i64_w, i32_w];rfl)
            refine on_ HT_ 21 33 q12_22 rfl rfl (by kernel_rfl) (by decide) (fun K hK => ?_)
            refine goes_ Try.func142 (by kernel_rfl) rfl #[.slice (some ad272) y276.length c0, .string ((rd_T117 l0 x7_1).f0)] (by rfl) rfl rfl (by (try simp only [List.map_toArray, List.map_cons, List.map_nil]); first | done | rfl | (simp only [List.length_drop, List.length_take]; rfl)) ?_
            with_reducible refine (impl_hasAttr.calls _ _ y276 ((rd_T117 l0 x7_1).f0) true _ ?side1 ?side2 A23.out).mono ?_
            (case side1 => repeat (first | exact (Kd.C_below HR279.out HB.out) | (with_reducible refine ca_ ?_ _) | (with_reducible refine cn_ ?_ _) | (with_reducible refine cd_ ?_)))
            (case side2 => exact HC279.out)
            rintro e w32 ⟨rfl, hb⟩
            refine ⟨_, rfl, ?_⟩
            have n0_ := Aside0.mk (blk_below (g := gb273) (o := .cells #[.string ((rd_T117 l0 x7_1).f0), .string ((rd_T117 l0 x7_1).f1)] 117 (0, 0)) (by (with_reducible repeat (first | refine dn_ ?_ _ | refine dd_ ?_ | refine da_ ?_ _)); exact BK273.out) hb)
            have n1_ := Aside0.mk (below_step (by repeat (first | (with_reducible first | exact HB.out | apply ba_ | apply bn_ | apply b1_ | refine below_set ?_ GE273.out) | exact HB.out)) hb)
            clear BK273
            clear HB
            have BK273 := n0_
            have HB := n1_
            clear n0_ n1_
            (try clear hb)
            refine hK.out _ _ ⟨(bc_ BK273.out 0).trans rfl, (bc_ BK273.out 1).trans rfl⟩ (fun hHeld => ?_)
            clear hK K
            refine norm_ (a' := ?_) ?_ ?_
            rotate_left
            ·show Act.put _ (some 33) _ = _
             simp only [Act.put, sa_, sz_, ss_, i64_w, i32_w]
             rfl
            refine pn_ HT_ 22 34 ?_ ?_ q12_23 rfl rfl (by kernel_rfl) (fun _ _ _ h => h) (by rfl) ?_ ?_ ?_
            rotate_left 2;(intro w';go_simp;with_reducible rfl);(simp only [Act.put, sa_, sz_, ss_, i64_w, i32_w];rfl)
            refine pn_ HT_ 23 35 ?_ ?_ q12_24 rfl rfl (by kernel_rfl) (fun _ _ _ h => h) (by rfl) ?_ ?_ ?_
            rotate_left 2;(intro w';go_simp;with_reducible rfl);(simp only [Act.put, sa_, sz_, ss_, i64_w, i32_w];rfl)
            refine po_ HT_ 24 36 ?_ q12_25 rfl rfl (by kernel_rfl) (fun _ _ _ h => h) (by rfl) ?_ ?_
            rotate_left;(simp only [Act.put, sa_, sz_, ss_, i64_w, i32_w];rfl)
            refine po_ HT_ 25 37 ?_ q12_26 rfl rfl (by kernel_rfl) (fun _ _ _ h => h) (by rfl) ?_ ?_
            rotate_left;(simp only [Act.put, sa_, sz_, ss_, i64_w, i32_w];rfl)
            refine po_ HT_ 26 38 ?_ q12_27 rfl rfl (by kernel_rfl) (fun _ _ _ h => h) (by rfl) ?_ ?_
            rotate_left;(simp only [Act.put, sa_, sz_, ss_, i64_w, i32_w];rfl)
            refine po_ HT_ 27 39 ?_ q12_28 rfl rfl (by kernel_rfl) (fun _ _ _ h => h) (by rfl) ?_ ?_
            rotate_left;(simp only [Act.put, sa_, sz_, ss_, i64_w, i32_w];rfl)
            refine pn_ HT_ 28 40 ?_ ?_ q12_29 rfl rfl (by kernel_rfl) (fun _ _ _ h => h) (by rfl) ?_ ?_ ?_
            rotate_left 2;(intro w';go_simp;with_reducible rfl);(simp only [Act.put, sa_, sz_, ss_, i64_w, i32_w];rfl)
            refine done_ (done_of HT_.out (by kernel_rfl)) ?_
            try go_wp2
            go_ret
            exact ⟨by first | rfl | (simp [errW_none, errW_some] <;> rfl) | (simp [*, errW_none, errW_some] <;> rfl), by repeat (first | (with_reducible first | exact HB.out | apply ba_ | apply bn_ | apply b1_ | refine below_set ?_ GE273.out) | exact HB.out)⟩
           ·replace c24 := Bool.eq_false_iff.mpr c24
            subst c24
            have H1 : ((impl_plainText.f k1 ((rd_T117 l0 x7_1).f1)).bind fun t281 => (if t281 = true then (impl_attrsOk.l0 k1 l0 l0 (l0.length : Int) (wrap64 (x7_1 + 1))) else (some false))) = some r := by rw [if_neg (show ¬ (false = true) by decide)] at H; exact H
            clear H
            have H := H1
            clear H1
            replace H := Option.bind_eq_some_iff.mp H
            obtain ⟨t281, A330, H⟩ := H
            replace H : (if t281 = true then (impl_attrsOk.l0 k1 l0 l0 (l0.length : Int) (wrap64 (x7_1 + 1))) else (some false)) = some r := H
            have A33 := Aside0.mk A330
            clear A330
            by_cases c34 : t281 = true
            ·subst c34
             have H1 : (impl_attrsOk.l0 k1 l0 l0 (l0.length : Int) (wrap64 (x7_1 + 1))) = some r := by rw [if_pos rfl] at H; exact H
             clear H
             have H := H1
             clear H1
             have H' := Aside0.mk H
             clear H
             have p272 : 0 ≤ (x7_1 : Int) := dq_ (by assumption)
             have q272 : x7_1 < (l0.length : Int) := dq_ (by assumption)
             obtain ⟨ad272, e272, hx272_0, hx272_1⟩ := at_T117 HR0.out x7_1 p272 q272
             cases e272
             replace hx272_0 := pw_cell_below HB.out hx272_0
             replace hx272_1 := pw_cell_below HB.out hx272_1
             replace p272 := eq_true p272
             replace q272 := eq_true q272
             try go_wp2_with (first | ((with_reducible refine gate_dst (N := 4) rfl ?_); refine box_event ?hg (N := 4) ?hd (cs := #[.string (⟨#[]⟩ : ByteArray), .string (⟨#[]⟩ : ByteArray)]) (t := 117) ?hr ?_; (case hd => rfl); (case hg => rfl); (case hr => first | (go_simp; done) | (go_simp; rfl)); intro gb273 hg w35 hbox hb; have n0_ := Aside0.mk (below_step (by repeat (first | (with_reducible first | exact HB.out | apply ba_ | apply bn_ | apply b1_) | exact HB.out)) hb); have n1_ := Aside0.mk (hbox); have n2_ := Aside0.mk ((by rw [hg]; exact (below_size (by repeat (first | (with_reducible first | exact HB.out | apply ba_ | apply bn_ | apply b1_) | exact HB.out))) : w.heap.size ≤ gb273)); have n3_ := Aside0.mk ((by rw [hg]; exact (below_size (by repeat (first | (with_reducible first | exact HB.out | apply ba_ | apply bn_ | apply b1_) | exact HB.out))) : w.heap.size ≤ gb273)); clear HB; have HB := n0_; have BK273 := n1_; have GW273 := n2_; have GE273 := n3_; clear n0_ n1_ n2_ n3_; clear hb hbox hg; have hcz36_0 : w35.cell? ⟨gb273, 0, none⟩ = some (.string (⟨#[]⟩ : ByteArray)) := (bc_ BK273.out 0).trans rfl; have hcz36_1 : w35.cell? ⟨gb273, 1, none⟩ = some (.string (⟨#[]⟩ : ByteArray)) := (bc_ BK273.out 1).trans rfl; have hfz36_0 := blk_frozen BK273.out 0; have hfz36_1 := blk_frozen BK273.out 1))
             have n0_ : Aside0 (((w35.setCell ⟨gb273, 0, none⟩ (.string ((rd_T117 l0 x7_1).f0))).setCell ⟨gb273, 1, none⟩ (.string ((rd_T117 l0 x7_1).f1))).heap[gb273]? = some (.cells #[.string ((rd_T117 l0 x7_1).f0), .string ((rd_T117 l0 x7_1).f1)] 117 (0, 0))) := ⟨by (with_reducible repeat (first | refine dn_ ?_ _ | refine dd_ ?_ | refine da_ ?_ _)); refine blk_put (cs := #[.string ((rd_T117 l0 x7_1).f0), .string (⟨#[]⟩ : ByteArray)]) ?_ 1 _ rfl; (with_reducible repeat (first | refine dn_ ?_ _ | refine dd_ ?_ | refine da_ ?_ _)); refine blk_put (cs := #[.string (⟨#[]⟩ : ByteArray), .string (⟨#[]⟩ : ByteArray)]) ?_ 0 _ rfl; (with_reducible repeat (first | refine dn_ ?_ _ | refine dd_ ?_ | refine da_ ?_ _)); exact BK273.out⟩
             have n1_ : Aside0 (Below w.heap.size w ((w35.setCell ⟨gb273, 0, none⟩ (.string ((rd_T117 l0 x7_1).f0))).setCell ⟨gb273, 1, none⟩ (.string ((rd_T117 l0 x7_1).f1)))) := ⟨by repeat (first | (with_reducible first | exact HB.out | apply ba_ | apply bn_ | apply b1_ | refine below_set ?_ GE273.out) | exact HB.out)⟩
             (try clear BK273)
             (try clear HB)
             generalize ((w35.setCell ⟨gb273, 0, none⟩ (.string ((rd_T117 l0 x7_1).f0))).setCell ⟨gb273, 1, none⟩ (.string ((rd_T117 l0 x7_1).f1))) = w37 at n0_ n1_ ⊢
             have BK273 := n0_
             have HB := n1_
             clear n0_ n1_
             have n0_ := Aside0.mk (dd_ BK273.out)
             have n1_ := Aside0.mk (b1_ HB.out)
             clear BK273
             clear HB
             have BK273 := n0_
             have HB := n1_
             clear n0_ n1_
             refine start_ (n := 29) (S := fun w' => w'.cell? ⟨gb273, 0, none⟩ = some (.string ((rd_T117 l0 x7_1).f0)) ∧ w'.cell? ⟨gb273, 1, none⟩ = some (.string ((rd_T117 l0 x7_1).f1))) (ds := []) q12_0 (by kernel_rfl) rfl rfl ⟨(bc_ BK273.out 0).trans rfl, (bc_ BK273.out 1).trans rfl⟩ (fun hHeld => ?_); refine with_tabW impl_attrsOk.tab4 impl_attrsOk.bits4 (fun HT_ HW_ => ?_)
             generalize w37.drew = w38 at BK273 HB hHeld ⊢
             refine pn_ HT_ 0 12 ?_ ?_ q12_1 rfl rfl (by kernel_rfl) (fun _ _ _ h => h) (by rfl) ?_ ?_ ?_
             rotate_left 2;(intro w';go_simp;with_reducible rfl);(simp only [Act.put, sa_, sz_, ss_, i64_w, i32_w];rfl)
             refine tn_ HT_ HW_ 1 13 ?_ ?_ q12_2 rfl rfl (by kernel_rfl) (fun _ _ _ h => h) (by rfl) hHeld ?_ ?_ ?_
             rotate_left 2;(rintro w' ⟨s0, s1⟩;go_simp;with_reducible rfl);(simp only [Act.put, sa_, sz_, ss_, i64_w, i32_w];rfl)
             refine pn_ HT_ 2 14 ?_ ?_ q12_3 rfl rfl (by kernel_rfl) (fun _ _ _ h => h) (by rfl) ?_ ?_ ?_
             rotate_left 2;(intro w';go_simp;with_reducible rfl);(simp only [Act.put, sa_, sz_, ss_, i64_w, i32_w];rfl)
             refine pn_ HT_ 3 15 ?_ ?_ q12_4 rfl rfl (by kernel_rfl) (fun _ _ _ h => h) (by rfl) ?_ ?_ ?_
             rotate_left 2;(intro w';go_simp;with_reducible rfl);(simp only [Act.put, sa_, sz_, ss_, i64_w, i32_w];rfl)
             refine pn_ HT_ 4 16 ?_ ?_ q12_5 rfl rfl (by kernel_rfl) (fun _ _ _ h => h) (by rfl) ?_ ?_ ?_
             rotate_left 2;(intro w';go_simp;with_reducible rfl);(simp only [Act.put, sa_, sz_, ss_, i64_w, i32_w];rfl)
             refine tn_ HT_ HW_ 5 17 ?_ ?_ q12_6 rfl rfl (by kernel_rfl) (fun _ _ _ h => h) (by rfl) hHeld ?_ ?_ ?_
             rotate_left 2;(rintro w' ⟨s0, s1⟩;go_simp;with_reducible rfl);(simp only [Act.put, sa_, sz_, ss_, i64_w, i32_w];rfl)
             refine on_ HT_ 6 18 q12_7 rfl rfl (by kernel_rfl) (by decide) (fun K hK => ?_)
             refine goes_ Try.func141 (by kernel_rfl) rfl #[.string ((rd_T117 l0 x7_1).f0), .string (⟨#[47, 62]⟩ : ByteArray)] (by rfl) rfl rfl (by (try simp only [List.map_toArray, List.map_cons, List.map_nil]); first | done | rfl | (simp only [List.length_drop, List.length_take]; rfl)) ?_
             with_reducible refine (impl_hasNone.calls k1 ((rd_T117 l0 x7_1).f0) (⟨#[47, 62]⟩ : ByteArray) true _ A10.out).mono ?_
             rintro e w39 ⟨rfl, hb⟩
             refine ⟨_, rfl, ?_⟩
             have n0_ := Aside0.mk (blk_below (g := gb273) (o := .cells #[.string ((rd_T117 l0 x7_1).f0), .string ((rd_T117 l0 x7_1).f1)] 117 (0, 0)) (by (with_reducible repeat (first | refine dn_ ?_ _ | refine dd_ ?_ | refine da_ ?_ _)); exact BK273.out) hb)
             have n1_ := Aside0.mk (below_step (by repeat (first | (with_reducible first | exact HB.out | apply ba_ | apply bn_ | apply b1_ | refine below_set ?_ GE273.out) | exact HB.out)) hb)
             clear BK273
             clear HB
             have BK273 := n0_
             have HB := n1_
             clear n0_ n1_
             (try clear hb)
             refine hK.out _ _ ⟨(bc_ BK273.out 0).trans rfl, (bc_ BK273.out 1).trans rfl⟩ (fun hHeld => ?_)
             clear hK K
             refine norm_ (a' := ?_) ?_ ?_
             rotate_left
             ·show Act.put _ (some 18) _ = _
              simp only [Act.put, sa_, sz_, ss_, i64_w, i32_w]
              rfl
             refine pn_ HT_ 7 19 ?_ ?_ q12_8 rfl rfl (by kernel_rfl) (fun _ _ _ h => h) (by rfl) ?_ ?_ ?_
             rotate_left 2;(intro w';go_simp;with_reducible rfl);(simp only [Act.put, sa_, sz_, ss_, i64_w, i32_w];rfl)
             refine pn_ HT_ 8 20 ?_ ?_ q12_9 rfl rfl (by kernel_rfl) (fun _ _ _ h => h) (by rfl) ?_ ?_ ?_
             rotate_left 2;(intro w';go_simp;with_reducible rfl);(simp only [Act.put, sa_, sz_, ss_, i64_w, i32_w];rfl)
             refine pn_ HT_ 9 21 ?_ ?_ q12_10 rfl rfl (by kernel_rfl) (fun _ _ _ h => h) (by rfl) ?_ ?_ ?_
             rotate_left 2;(intro w';go_simp;with_reducible rfl);(simp only [Act.put, sa_, sz_, ss_, i64_w, i32_w];rfl)
             refine pn_ HT_ 10 22 ?_ ?_ q12_11 rfl rfl (by kernel_rfl) (fun _ _ _ h => h) (by rfl) ?_ ?_ ?_
             rotate_left 2;(intro w';go_simp;with_reducible rfl);(simp only [Act.put, sa_, sz_, ss_, i64_w, i32_w];rfl)
             refine tn_ HT_ HW_ 11 23 ?_ ?_ q12_12 rfl rfl (by kernel_rfl) (fun _ _ _ h => h) (by rfl) hHeld ?_ ?_ ?_
             rotate_left 2;(rintro w' ⟨s0, s1⟩;go_simp;with_reducible rfl);(simp only [Act.put, sa_, sz_, ss_, i64_w, i32_w];rfl)
             refine pn_ HT_ 12 24 ?_ ?_ q12_13 rfl rfl (by kernel_rfl) (fun _ _ _ h => h) (by rfl) ?_ ?_ ?_
             rotate_left 2;(intro w';go_simp;with_reducible rfl);(simp only [Act.put, sa_, sz_, ss_, i64_w, i32_w];rfl)
             refine on_ HT_ 13 25 q12_14 rfl rfl (by kernel_rfl) (by decide) (fun K hK => ?_)
             refine goes_ Try.func99 (by kernel_rfl) rfl #[.string (((rd_T117 l0 x7_1).f0).extract 1 ((rd_T117 l0 x7_1).f0).size), .string (⟨#[61]⟩ : ByteArray)] (by rfl) rfl rfl (by (try simp only [List.map_toArray, List.map_cons, List.map_nil]); first | done | rfl | (simp only [List.length_drop, List.length_take]; rfl)) ?_
             with_reducible refine (strings_Contains.calls (((rd_T117 l0 x7_1).f0).extract 1 ((rd_T117 l0 x7_1).f0).size) (⟨#[61]⟩ : ByteArray) false _ ?side1 A13.out).mono ?_
             (case side1 => exact MaxSeen.below HG.out (by repeat (first | (with_reducible first | exact HB.out | apply ba_ | apply bn_ | apply b1_ | refine below_set ?_ GE273.out) | exact HB.out)))
             rintro e w40 ⟨rfl, hb⟩
             refine ⟨_, rfl, ?_⟩
             have n0_ := Aside0.mk (blk_below (g := gb273) (o := .cells #[.string ((rd_T117 l0 x7_1).f0), .string ((rd_T117 l0 x7_1).f1)] 117 (0, 0)) (by (with_reducible repeat (first | refine dn_ ?_ _ | refine dd_ ?_ | refine da_ ?_ _)); exact BK273.out) hb)
             have n1_ := Aside0.mk (below_step (by repeat (first | (with_reducible first | exact HB.out | apply ba_ | apply bn_ | apply b1_ | refine below_set ?_ GE273.out) | exact HB.out)) hb)
             clear BK273
             clear HB
             have BK273 := n0_
             have HB := n1_
             clear n0_ n1_
             (try clear hb)
             have q41 : (x7_1 : Int) ≤ ((l0.length : Int) : Int) := dq_ (by assumption)
             obtain ⟨i041, hi041, _, hsz41, _⟩ := info_parts info117
             have hroom41 : l0.length ≤ c0 := HC0.out
             have hC41 : Kd.C k117 _ (some ad272) l0.length l0 := HR0.out
             have hcut41 := cut_to (P := Try.prog) 85 117 .i64 Try.underlying85 hi041 (some ad272) l0.length c0 x7_1 (dq_ (by assumption)) q41 hroom41
             have hr41 := Kd.C_take (m := (x7_1 : Int).toNat) hC41 (by omega)
             have hy41 : y276.length = (x7_1 : Int).toNat := (by rw [Ny276.out, List.length_take]; omega)
             rw [← Ny276.out] at hr41
             rw [← hy41] at hcut41
             have HR279 := Aside0.mk hr41
             have HC279 := Aside0.mk (show y276.length ≤ c0 from by omega)
             clear hr41 hC41 hroom41 hi041 hsz41
             have KY41 := Aside0.mk hy41
             clear hy41
             replace q41 := eq_true q41
             refine hK.out _ _ ⟨(bc_ BK273.out 0).trans rfl, (bc_ BK273.out 1).trans rfl⟩ (fun hHeld => ?_)
             clear hK K
             refine norm_ (a' := ?_) ?_ ?_
             rotate_left
             ·show Act.put _ (some 25) _ = _
              simp only [Act.put, sa_, sz_, ss_, i64_w, i32_w]
              rfl
             refine pn_ HT_ 14 26 ?_ ?_ q12_15 rfl rfl (by kernel_rfl) (fun _ _ _ h => h) (by rfl) ?_ ?_ ?_
             rotate_left 2;(intro w';go_simp;with_reducible rfl);(simp only [Act.put, sa_, sz_, ss_, i64_w, i32_w];rfl)
             refine pn_ HT_ 15 27 ?_ ?_ q12_16 rfl rfl (by kernel_rfl) (fun _ _ _ h => h) (by rfl) ?_ ?_ ?_
             rotate_left 2;(intro w';go_simp;with_reducible rfl);(simp only [Act.put, sa_, sz_, ss_, i64_w, i32_w];rfl)
             refine pn_ HT_ 16 28 ?_ ?_ q12_17 rfl rfl (by kernel_rfl) (fun _ _ _ h => h) (by rfl) ?_ ?_ ?_
             rotate_left 2;(intro w';go_simp;with_reducible rfl);(simp only [Act.put, sa_, sz_, ss_, i64_w, i32_w];rfl)
             refine pn_ HT_ 17 29 ?_ ?_ q12_18 rfl rfl (by kernel_rfl) (fun _ _ _ h => h) (by rfl) ?_ ?_ ?_
             rotate_left 2;(intro w';go_simp;with_reducible rfl);(simp only [Act.put, sa_, sz_, ss_, i64_w, i32_w];rfl)
             refine pn_ HT_ 18 30 ?_ ?_ q12_19 rfl rfl (by kernel_rfl) (fun _ _ _ h => h) (by rfl) ?_ ?_ ?_
             rotate_left 2;(intro w';go_simp;with_reducible rfl);(simp only [Act.put, sa_, sz_, ss_, i64_w, i32_w];rfl)
             refine pn_ HT_ 19 31 ?_ ?_ q12_20 rfl rfl (by kernel_rfl) (fun _ _ _ h => h) (by rfl) ?_ ?_ ?_
             rotate_left 2;(intro w';go_simp;with_reducible rfl);(simp only [Act.put, sa_, sz_, ss_, i64_w, i32_w];rfl)
             refine tn_ HT_ HW_ 20 32 ?_ ?_ q12_21 rfl rfl (by kernel_rfl) (fun _ _ _ h => h) (by rfl) hHeld ?_ ?_ ?_
             rotate_left 2;(rintro w' ⟨s0, s1⟩;go_simp;with_reducible rfl);(simp only [Act.put, sa_, sz_, ss_, i64_w, i32_w];rfl)
             refine on_ HT_ 21 33 q12_22 rfl rfl (by kernel_rfl) (by decide) (fun K hK => ?_)
             refine goes_ Try.func142 (by kernel_rfl) rfl #[.slice (some ad272) y276.length c0, .string ((rd_T117 l0 x7_1).f0)] (by rfl) rfl rfl (by (try simp only [List.map_toArray, List.map_cons, List.map_nil]); first | done | rfl | (simp only [List.length_drop, List.length_take]; rfl)) ?_
             with_reducible refine (impl_hasAttr.calls _ _ y276 ((rd_T117 l0 x7_1).f0) false _ ?side1 ?side2 A23.out).mono ?_
             (case side1 => repeat (first | exact (Kd.C_below HR279.out HB.out) | (with_reducible refine ca_ ?_ _) | (with_reducible refine cn_ ?_ _) | (with_reducible refine cd_ ?_)))
             (case side2 => exact HC279.out)
             rintro e w42 ⟨rfl, hb⟩
             refine ⟨_, rfl, ?_⟩
             have n0_ := Aside0.mk (blk_below (g := gb273) (o := .cells #[.string ((rd_T117 l0 x7_1).f0), .string ((rd_T117 l0 x7_1).f1)] 117 (0, 0)) (by (with_reducible repeat (first | refine dn_ ?_ _ | refine dd_ ?_ | refine da_ ?_ _)); exact BK273.out) hb)
             have n1_ := Aside0.mk (below_step (by repeat (first | (with_reducible first | exact HB.out | apply ba_ | apply bn_ | apply b1_ | refine below_set ?_ GE273.out) | exact HB.out)) hb)
             clear BK273
             clear HB
             have BK273 := n0_
             have HB := n1_
             clear n0_ n1_
             (try clear hb)
             refine hK.out _ _ ⟨(bc_ BK273.out 0).trans rfl, (bc_ BK273.out 1).trans rfl⟩ (fun hHeld => ?_)
             clear hK K
             refine norm_ (a' := ?_) ?_ ?_
             rotate_left
             ·show Act.put _ (some 33) _ = _
              simp only [Act.put, sa_, sz_, ss_, i64_w, i32_w]
              rfl
             refine pn_ HT_ 22 34 ?_ ?_ q12_23 rfl rfl (by kernel_rfl) (fun _ _ _ h => h) (by rfl) ?_ ?_ ?_
             rotate_left 2;(intro w';go_simp;with_reducible rfl);(simp only [Act.put, sa_, sz_, ss_, i64_w, i32_w];rfl)
             refine pn_ HT_ 23 35 ?_ ?_ q12_24 rfl rfl (by kernel_rfl) (fun _ _ _ h => h) (by rfl) ?_ ?_ ?_
             rotate_left 2;(intro w';go_simp;with_reducible rfl);(simp only [Act.put, sa_, sz_, ss_, i64_w, i32_w];rfl)
             refine pn_ HT_ 24 36 ?_ ?_ q12_25 rfl rfl (by kernel_rfl) (fun _ _ _ h => h) (by rfl) ?_ ?_ ?_
             rotate_left 2;(intro w';go_simp;with_reducible rfl);(simp only [Act.put, sa_, sz_, ss_, i64_w, i32_w];rfl)
             refine tn_ HT_ HW_ 25 37 ?_ ?_ q12_26 rfl rfl (by kernel_rfl) (fun _ _ _ h => h) (by rfl) hHeld ?_ ?_ ?_
             rotate_left 2;(rintro w' ⟨s0, s1⟩;go_simp;with_reducible rfl);(simp only [Act.put, sa_, sz_, ss_, i64_w, i32_w];rfl)
             refine on_ HT_ 26 38 q12_27 rfl rfl (by kernel_rfl) (by decide) (fun K hK => ?_)
             refine goes_ Try.func125 (by kernel_rfl) rfl #[.string ((rd_T117 l0 x7_1).f1)] (by rfl) rfl rfl (by (try simp only [List.map_toArray, List.map_cons, List.map_nil]); first | done | rfl | (simp only [List.length_drop, List.length_take]; rfl)) ?_
             with_reducible refine (impl_plainText.calls k1 ((rd_T117 l0 x7_1).f1) true _ ?side1 A33.out).mono ?_
             (case side1 => exact MaxSeen.below HG.out (by repeat (first | (with_reducible first | exact HB.out | apply ba_ | apply bn_ | apply b1_ | refine below_set ?_ GE273.out) | exact HB.out)))
             rintro e w43 ⟨rfl, hb⟩
             refine ⟨_, rfl, ?_⟩
             have n0_ := Aside0.mk (blk_below (g := gb273) (o := .cells #[.string ((rd_T117 l0 x7_1).f0), .string ((rd_T117 l0 x7_1).f1)] 117 (0, 0)) (by (with_reducible repeat (first | refine dn_ ?_ _ | refine dd_ ?_ | refine da_ ?_ _)); exact BK273.out) hb)
             have n1_ := Aside0.mk (below_step (by repeat (first | (with_reducible first | exact HB.out | apply ba_ | apply bn_ | apply b1_ | refine below_set ?_ GE273.out) | exact HB.out)) hb)
             clear BK273
             clear HB
             have BK273 := n0_
             have HB := n1_
             clear n0_ n1_
             (try clear hb)
             refine hK.out _ _ ⟨(bc_ BK273.out 0).trans rfl, (bc_ BK273.out 1).trans rfl⟩ (fun hHeld => ?_)
             clear hK K
             refine norm_ (a' := ?_) ?_ ?_
             rotate_left
             ·show Act.put _ (some 38) _ = _
              simp only [Act.put, sa_, sz_, ss_, i64_w, i32_w]
              rfl
             refine pn_ HT_ 27 39 ?_ ?_ q12_28 rfl rfl (by kernel_rfl) (fun _ _ _ h => h) (by rfl) ?_ ?_ ?_
             rotate_left 2;(intro w';go_simp;with_reducible rfl);(simp only [Act.put, sa_, sz_, ss_, i64_w, i32_w];rfl)
             refine pn_ HT_ 28 40 ?_ ?_ q12_29 rfl rfl (by kernel_rfl) (fun _ _ _ h => h) (by rfl) ?_ ?_ ?_
             rotate_left 2;(intro w';go_simp;with_reducible rfl);(simp only [Act.put, sa_, sz_, ss_, i64_w, i32_w];rfl)
             refine done_ (done_of HT_.out (by kernel_rfl)) ?_
             try go_wp2
             go_roundg k1
             case measure => have := HK1.out; omega
             case rel => exact ⟨(wrap64 (x7_1 + 1)), (by first | rfl | (simp; done) | (simp [*]; done)), H', ⟨by have := HK1.out; omega⟩, ⟨by repeat (first | (with_reducible first | exact HB.out | apply ba_ | apply bn_ | apply b1_ | refine below_set ?_ GE273.out) | exact HB.out)⟩⟩
            ·replace c34 := Bool.eq_false_iff.mpr c34
             subst c34
             have H1 : (some false) = some r := by rw [if_neg (show ¬ (false = true) by decide)] at H; exact H
             clear H
             have H := H1
             clear H1
             obtain rfl := Option.some.inj H
             have p272 : 0 ≤ (x7_1 : Int) := dq_ (by assumption)
             have q272 : x7_1 < (l0.length : Int) := dq_ (by assumption)
             obtain ⟨ad272, e272, hx272_0, hx272_1⟩ := at_T117 HR0.out x7_1 p272 q272
             cases e272
             replace hx272_0 := pw_cell_below HB.out hx272_0
             replace hx272_1 := pw_cell_below HB.out hx272_1
             replace p272 := eq_true p272
             replace q272 := eq_true q272
             try go_wp2_with (first | ((with_reducible refine gate_dst (N := 4) rfl ?_); refine box_event ?hg (N := 4) ?hd (cs := #[.string (⟨#[]⟩ : ByteArray), .string (⟨#[]⟩ : ByteArray)]) (t := 117) ?hr ?_; (case hd => rfl); (case hg => rfl); (case hr => first | (go_simp; done) | (go_simp; rfl)); intro gb273 hg w44 hbox hb; have n0_ := Aside0.mk (below_step (by repeat (first | (with_reducible first | exact HB.out | apply ba_ | apply bn_ | apply b1_) | exact HB.out)) hb); have n1_ := Aside0.mk (hbox); have n2_ := Aside0.mk ((by rw [hg]; exact (below_size (by repeat (first | (with_reducible first | exact HB.out | apply ba_ | apply bn_ | apply b1_) | exact HB.out))) : w.heap.size ≤ gb273)); have n3_ := Aside0.mk ((by rw [hg]; exact (below_size (by repeat (first | (with_reducible first | exact HB.out | apply ba_ | apply bn_ | apply b1_) | exact HB.out))) : w.heap.size ≤ gb273)); clear HB; have HB := n0_; have BK273 := n1_; have GW273 := n2_; have GE273 := n3_; clear n0_ n1_ n2_ n3_; clear hb hbox hg; have hcz45_0 : w44.cell? ⟨gb273, 0, none⟩ = some (.string (⟨#[]⟩ : ByteArray)) := (bc_ BK273.out 0).trans rfl; have hcz45_1 : w44.cell? ⟨gb273, 1, none⟩ = some (.string (⟨#[]⟩ : ByteArray)) := (bc_ BK273.out 1).trans rfl; have hfz45_0 := blk_frozen BK273.out 0; have hfz45_1 := blk_frozen BK273.out 1))
             have n0_ : Aside0 (((w44.setCell ⟨gb273, 0, none⟩ (.string ((rd_T117 l0 x7_1).f0))).setCell ⟨gb273, 1, none⟩ (.string ((rd_T117 l0 x7_1).f1))).heap[gb273]? = some (.cells #[.string ((rd_T117 l0 x7_1).f0), .string ((rd_T117 l0 x7_1).f1)] 117 (0, 0))) := ⟨by (with_reducible repeat (first | refine dn_ ?_ _ | refine dd_ ?_ | refine da_ ?_ _)); refine blk_put (cs := #[.string ((rd_T117 l0 x7_1).f0), .string (⟨#[]⟩ : ByteArray)]) ?_ 1 _ rfl; (with_reducible repeat (first | refine dn_ ?_ _ | refine dd_ ?_ | refine da_ ?_ _)); refine blk_put (cs := #[.string (⟨#[]⟩ : ByteArray), .string (⟨#[]⟩ : ByteArray)]) ?_ 0 _ rfl; (with_reducible repeat (first | refine dn_ ?_ _ | refine dd_ ?_ | refine da_ ?_ _)); exact BK273.out⟩
             have n1_ : Aside0 (Below w.heap.size w ((w44.setCell ⟨gb273, 0, none⟩ (.string ((rd_T117 l0 x7_1).f0))).setCell ⟨gb273, 1, none⟩ (.string ((rd_T117 l0 x7_1).f1)))) := ⟨by repeat (first | (with_reducible first | exact HB.out | apply ba_ | apply bn_ | apply b1_ | refine below_set ?_ GE273.out) | exact HB.out)⟩
             (try clear BK273)
             (try clear HB)
             generalize ((w44.setCell ⟨gb273, 0, none⟩ (.string ((rd_T117 l0 x7_1).f0))).setCell ⟨gb273, 1, none⟩ (.string ((rd_T117 l0 x7_1).f1))) = w46 at n0_ n1_ ⊢
             have BK273 := n0_
             have HB := n1_
             clear n0_ n1_
             have n0_ := Aside0.mk (dd_ BK273.out)
             have n1_ := Aside0.mk (b1_ HB.out)
             clear BK273
             clear HB
             have BK273 := n0_
             have HB := n1_
             clear n0_ n1_
             refine start_ (n := 29) (S := fun w' => w'.cell? ⟨gb273, 0, none⟩ = some (.string ((rd_T117 l0 x7_1).f0)) ∧ w'.cell? ⟨gb273, 1, none⟩ = some (.string ((rd_T117 l0 x7_1).f1))) (ds := []) q12_0 (by kernel_rfl) rfl rfl ⟨(bc_ BK273.out 0).trans rfl, (bc_ BK273.out 1).trans rfl⟩ (fun hHeld => ?_); refine with_tabW impl_attrsOk.tab4 impl_attrsOk.bits4 (fun HT_ HW_ => ?_)
             generalize w46.drew = w47 at BK273 HB hHeld ⊢
             refine pn_ HT_ 0 12 ?_ ?_ q12_1 rfl rfl (by kernel_rfl) (fun _ _ _ h => h) (by rfl) ?_ ?_ ?_
             rotate_left 2;(intro w';go_simp;with_reducible rfl);(simp only [Act.put, sa_, sz_, ss_, i64_w, i32_w];rfl)
             refine tn_ HT_ HW_ 1 13 ?_ ?_ q12_2 rfl rfl (by kernel_rfl) (fun _ _ _ h => h) (by rfl) hHeld ?_ ?_ ?_
             rotate_left 2;(rintro w' ⟨s0, s1⟩;go_simp;with_reducible rfl);(simp only [Act.put, sa_, sz_, ss_, i64_w, i32_w];rfl)
             refine pn_ HT_ 2 14 ?_ ?_ q12_3 rfl rfl (by kernel_rfl) (fun _ _ _ h => h) (by rfl) ?_ ?_ ?_
             rotate_left 2;(intro w';go_simp;with_reducible rfl);(simp only [Act.put, sa_, sz_, ss_, i64_w, i32_w];rfl)
             refine pn_ HT_ 3 15 ?_ ?_ q12_4 rfl rfl (by kernel_rfl) (fun _ _ _ h => h) (by rfl) ?_ ?_ ?_
             rotate_left 2;(intro w';go_simp;with_reducible rfl);(simp only [Act.put, sa_, sz_, ss_, i64_w, i32_w];rfl)
             refine pn_ HT_ 4 16 ?_ ?_ q12_5 rfl rfl (by kernel_rfl) (fun _ _ _ h => h) (by rfl) ?_ ?_ ?_
             rotate_left 2;(intro w';go_simp;with_reducible rfl);(simp only [Act.put, sa_, sz_, ss_, i64_w, i32_w];rfl)
             refine tn_ HT_ HW_ 5 17 ?_ ?_ q12_6 rfl rfl (by kernel_rfl) (fun _ _ _ h => h) (by rfl) hHeld ?_ ?_ ?_
             rotate_left 2;(rintro w' ⟨s0, s1⟩;go_simp;with_reducible rfl);(simp only [Act.put, sa_, sz_, ss_, i64_w, i32_w];rfl)
             refine on_ HT_ 6 18 q12_7 rfl rfl (by kernel_rfl) (by decide) (fun K hK => ?_)
             refine goes_ Try.func141 (by kernel_rfl) rfl #[.string ((rd_T117 l0 x7_1).f0), .string (⟨#[47, 62]⟩ : ByteArray)] (by rfl) rfl rfl (by (try simp only [List.map_toArray, List.map_cons, List.map_nil]); first | done | rfl | (simp only [List.length_drop, List.length_take]; rfl)) ?_
             with_reducible refine (impl_hasNone.calls k1 ((rd_T117 l0 x7_1).f0) (⟨#[47, 62]⟩ : ByteArray) true _ A10.out).mono ?_
             rintro e w48 ⟨rfl, hb⟩
             refine ⟨_, rfl, ?_⟩
             have n0_ := Aside0.mk (blk_below (g := gb273) (o := .cells #[.string ((rd_T117 l0 x7_1).f0), .string ((rd_T117 l0 x7_1).f1)] 117 (0, 0)) (by (with_reducible repeat (first | refine dn_ ?_ _ | refine dd_ ?_ | refine da_ ?_ _)); exact BK273.out) hb)
             have n1_ := Aside0.mk (below_step (by repeat (first | (with_reducible first | exact HB.out | apply ba_ | apply bn_ | apply b1_ | refine below_set ?_ GE273.out) | exact HB.out)) hb)
             clear BK273
             clear HB
             have BK273 := n0_
             have HB := n1_
             clear n0_ n1_
             (try clear hb)
             refine hK.out _ _ ⟨(bc_ BK273.out 0).trans rfl, (bc_ BK273.out 1).trans rfl⟩ (fun hHeld => ?_)
             clear hK K
             refine norm_ (a' := ?_) ?_ ?_
             rotate_left
             ·show Act.put _ (some 18) _ = _
              simp only [Act.put, sa_, sz_, ss_, i64_w, i32_w]
              rfl
             refine pn_ HT_ 7 19 ?_ ?_ q12_8 rfl rfl (by kernel_rfl) (fun _ _ _ h => h) (by rfl) ?_ ?_ ?_
             rotate_left 2;(intro w';go_simp;with_reducible rfl);(simp only [Act.put, sa_, sz_, ss_, i64_w, i32_w];rfl)
             refine pn_ HT_ 8 20 ?_ ?_ q12_9 rfl rfl (by kernel_rfl) (fun _ _ _ h => h) (by rfl) ?_ ?_ ?_
             rotate_left 2;(intro w';go_simp;with_reducible rfl);(simp only [Act.put, sa_, sz_, ss_, i64_w, i32_w];rfl)
             refine pn_ HT_ 9 21 ?_ ?_ q12_10 rfl rfl (by kernel_rfl) (fun _ _ _ h => h) (by rfl) ?_ ?_ ?_
             rotate_left 2;(intro w';go_simp;with_reducible rfl);(simp only [Act.put, sa_, sz_, ss_, i64_w, i32_w];rfl)
             refine pn_ HT_ 10 22 ?_ ?_ q12_11 rfl rfl (by kernel_rfl) (fun _ _ _ h => h) (by rfl) ?_ ?_ ?_
             rotate_left 2;(intro w';go_simp;with_reducible rfl);(simp only [Act.put, sa_, sz_, ss_, i64_w, i32_w];rfl)
             refine tn_ HT_ HW_ 11 23 ?_ ?_ q12_12 rfl rfl (by kernel_rfl) (fun _ _ _ h => h) (by rfl) hHeld ?_ ?_ ?_
             rotate_left 2;(rintro w' ⟨s0, s1⟩;go_simp;with_reducible rfl);(simp only [Act.put, sa_, sz_, ss_, i64_w, i32_w];rfl)
             refine pn_ HT_ 12 24 ?_ ?_ q12_13 rfl rfl (by kernel_rfl) (fun _ _ _ h => h) (by rfl) ?_ ?_ ?_
             rotate_left 2;(intro w';go_simp;with_reducible rfl);(simp only [Act.put, sa_, sz_, ss_, i64_w, i32_w];rfl)
             refine on_ HT_ 13 25 q12_14 rfl rfl (by kernel_rfl) (by decide) (fun K hK => ?_)
             refine goes_ Try.func99 (by kernel_rfl) rfl #[.string (((rd_T117 l0 x7_1).f0).extract 1 ((rd_T117 l0 x7_1).f0).size), .string (⟨#[61]⟩ : ByteArray)] (by rfl) rfl rfl (by (try simp only [List.map_toArray, List.map_cons, List.map_nil]); first | done | rfl | (simp only [List.length_drop, List.length_take]; rfl)) ?_
             with_reducible refine (strings_Contains.calls (((rd_T117 l0 x7_1).f0).extract 1 ((rd_T117 l0 x7_1).f0).size) (⟨#[61]⟩ : ByteArray) false _ ?side1 A13.out).mono ?_
             (case side1 => exact MaxSeen.below HG.out (by repeat (first | (with_reducible first | exact HB.out | apply ba_ | apply bn_ | apply b1_ | refine below_set ?_ GE273.out) | exact HB.out)))
             rintro e w49 ⟨rfl, hb⟩
             refine ⟨_, rfl, ?_⟩
             have n0_ := Aside0.mk (blk_below (g := gb273) (o := .cells #[.string ((rd_T117 l0 x7_1).f0), .string ((rd_T117 l0 x7_1).f1)] 117 (0, 0)) (by (with_reducible repeat (first | refine dn_ ?_ _ | refine dd_ ?_ | refine da_ ?_ _)); exact BK273.out) hb)
             have n1_ := Aside0.mk (below_step (by repeat (first | (with_reducible first | exact HB.out | apply ba_ | apply bn_ | apply b1_ | refine below_set ?_ GE273.out) | exact HB.out)) hb)
             clear BK273
             clear HB
             have BK273 := n0_
             have HB := n1_
             clear n0_ n1_
             (try clear hb)
             have q50 : (x7_1 : Int) ≤ ((l0.length : Int) : Int) := dq_ (by assumption)
             obtain ⟨i050, hi050, _, hsz50, _⟩ := info_parts info117
             have hroom50 : l0.length ≤ c0 := HC0.out
             have hC50 : Kd.C k117 _ (some ad272) l0.length l0 := HR0.out
             have hcut50 := cut_to (P := Try.prog) 85 117 .i64 Try.underlying85 hi050 (some ad272) l0.length c0 x7_1 (dq_ (by assumption)) q50 hroom50
             have hr50 := Kd.C_take (m := (x7_1 : Int).toNat) hC50 (by omega)
             have hy50 : y276.length = (x7_1 : Int).toNat := (by rw [Ny276.out, List.length_take]; omega)
             rw [← Ny276.out] at hr50
             rw [← hy50] at hcut50
             have HR279 := Aside0.mk hr50
             have HC279 := Aside0.mk (show y276.length ≤ c0 from by omega)
             clear hr50 hC50 hroom50 hi050 hsz50
             have KY50 := Aside0.mk hy50
             clear hy50
             replace q50 := eq_true q50
             refine hK.out _ _ ⟨(bc_ BK273.out 0).trans rfl, (bc_ BK273.out 1).trans rfl⟩ (fun hHeld => ?_)
             clear hK K
             refine norm_ (a' := ?_) ?_ ?_
             rotate_left
             ·show Act.put _ (some 25) _ = _
              simp only [Act.put, sa_, sz_, ss_, i64_w, i32_w]
              rfl
             refine pn_ HT_ 14 26 ?_ ?_ q12_15 rfl rfl (by kernel_rfl) (fun _ _ _ h => h) (by rfl) ?_ ?_ ?_
             rotate_left 2;(intro w';go_simp;with_reducible rfl);(simp only [Act.put, sa_, sz_, ss_, i64_w, i32_w];rfl)
             refine pn_ HT_ 15 27 ?_ ?_ q12_16 rfl rfl (by kernel_rfl) (fun _ _ _ h => h) (by rfl) ?_ ?_ ?_
             rotate_left 2;(intro w';go_simp;with_reducible rfl);(simp only [Act.put, sa_, sz_, ss_, i64_w, i32_w];rfl)
             refine pn_ HT_ 16 28 ?_ ?_ q12_17 rfl rfl (by kernel_rfl) (fun _ _ _ h => h) (by rfl) ?_ ?_ ?_
             rotate_left 2;(intro w';go_simp;with_reducible rfl);(simp only [Act.put, sa_, sz_, ss_, i64_w, i32_w];rfl)
             refine pn_ HT_ 17 29 ?_ ?_ q12_18 rfl rfl (by kernel_rfl) (fun _ _ _ h => h) (by rfl) ?_ ?_ ?_
             rotate_left 2;(intro w';go_simp;with_reducible rfl);(simp only [Act.put, sa_, sz_, ss_, i64_w, i32_w];rfl)
             refine pn_ HT_ 18 30 ?_ ?_ q12_19 rfl rfl (by kernel_rfl) (fun _ _ _ h => h) (by rfl) ?_ ?_ ?_
             rotate_left 2;(intro w';go_simp;with_reducible rfl);(simp only [Act.put, sa_, sz_, ss_, i64_w, i32_w];rfl)
             refine pn_ HT_ 19 31 ?_ ?_ q12_20 rfl rfl (by kernel_rfl) (fun _ _ _ h => h) (by rfl) ?_ ?_ ?_
             rotate_left 2;(intro w';go_simp;with_reducible rfl);(simp only [Act.put, sa_, sz_, ss_, i64_w, i32_w];rfl)
             refine tn_ HT_ HW_ 20 32 ?_ ?_ q12_21 rfl rfl (by kernel_rfl) (fun _ _ _ h => h) (by rfl) hHeld ?_ ?_ ?_
             rotate_left 2;(rintro w' ⟨s0, s1⟩;go_simp;with_reducible rfl);(simp only [Act.put, sa_, sz_, ss_, i64_w, i32_w];rfl)
             refine on_ HT_ 21 33 q12_22 rfl rfl (by kernel_rfl) (by decide) (fun K hK => ?_)
             refine goes_ Try.func142 (by kernel_rfl) rfl #[.slice (some ad272) y276.length c0, .string ((rd_T117 l0 x7_1).f0)] (by rfl) rfl rfl (by (try simp only [List.map_toArray, List.map_cons, List.map_nil]); first | done | rfl | (simp only [List.length_drop, List.length_take]; rfl)) ?_
             with_reducible refine (impl_hasAttr.calls _ _ y276 ((rd_T117 l0 x7_1).f0) false _ ?side1 ?side2 A23.out).mono ?_
             (case side1 => repeat (first | exact (Kd.C_below HR279.out HB.out) | (with_reducible refine ca_ ?_ _) | (with_reducible refine cn_ ?_ _) | (with_reducible refine cd_ ?_)))
             (case side2 => exact HC279.out)
             rintro e w51 ⟨rfl, hb⟩
             refine ⟨_, rfl, ?_⟩
             have n0_ := Aside0.mk (blk_below (g := gb273) (o := .cells #[.string ((rd_T117 l0 x7_1).f0), .string ((rd_T117 l0 x7_1).f1)] 117 (0, 0)) (by (with_reducible repeat (first | refine dn_ ?_ _ | refine dd_ ?_ | refine da_ ?_ _)); exact BK273.out) hb)
             have n1_ := Aside0.mk (below_step (by repeat (first | (with_reducible first | exact HB.out | apply ba_ | apply bn_ | apply b1_ | refine below_set ?_ GE273.out) | exact HB.out)) hb)
             clear BK273
             clear HB
             have BK273 := n0_
             have HB := n1_
             clear n0_ n1_
             (try clear hb)
             refine hK.out _ _ ⟨(bc_ BK273.out 0).trans rfl, (bc_ BK273.out 1).trans rfl⟩ (fun hHeld => ?_)
             clear hK K
             refine norm_ (a' := ?_) ?_ ?_
             rotate_left
             ·show Act.put _ (some 33) _ = _
              simp only [Act.put, sa_, sz_, ss_, i64_w, i32_w]
              rfl
             refine pn_ HT_ 22 34 ?_ ?_ q12_23 rfl rfl (by kernel_rfl) (fun _ _ _ h => h) (by rfl) ?_ ?_ ?_
             rotate_left 2;(intro w';go_simp;with_reducible rfl);(simp only [Act.put, sa_, sz_, ss_, i64_w, i32_w];rfl)
             refine pn_ HT_ 23 35 ?_ ?_ q12_24 rfl rfl (by kernel_rfl) (fun _ _ _ h => h) (by rfl) ?_ ?_ ?_
             rotate_left 2;(intro w';go_simp;with_reducible rfl);(simp only [Act.put, sa_, sz_, ss_, i64_w, i32_w];rfl)
             refine pn_ HT_ 24 36 ?_ ?_ q12_25 rfl rfl (by kernel_rfl) (fun _ _ _ h => h) (by rfl) ?_ ?_ ?_
             rotate_left 2;(intro w';go_simp;with_reducible rfl);(simp only [Act.put, sa_, sz_, ss_, i64_w, i32_w];rfl)
             refine tn_ HT_ HW_ 25 37 ?_ ?_ q12_26 rfl rfl (by kernel_rfl) (fun _ _ _ h => h) (by rfl) hHeld ?_ ?_ ?_
             rotate_left 2;(rintro w' ⟨s0, s1⟩;go_simp;with_reducible rfl);(simp only [Act.put, sa_, sz_, ss_, i64_w, i32_w];rfl)
             refine on_ HT_ 26 38 q12_27 rfl rfl (by kernel_rfl) (by decide) (fun K hK => ?_)
             refine goes_ Try.func125 (by kernel_rfl) rfl #[.string ((rd_T117 l0 x7_1).f1)] (by rfl) rfl rfl (by (try simp only [List.map_toArray, List.map_cons, List.map_nil]); first | done | rfl | (simp only [List.length_drop, List.length_take]; rfl)) ?_
             with_reducible refine (impl_plainText.calls k1 ((rd_T117 l0 x7_1).f1) false _ ?side1 A33.out).mono ?_
             (case side1 => exact MaxSeen.below HG.out (by repeat (first | (with_reducible first | exact HB.out | apply ba_ | apply bn_ | apply b1_ | refine below_set ?_ GE273.out) | exact HB.out)))
             rintro e w52 ⟨rfl, hb⟩
             refine ⟨_, rfl, ?_⟩
             have n0_ := Aside0.mk (blk_below (g := gb273) (o := .cells #[.string ((rd_T117 l0 x7_1).f0), .string ((rd_T117 l0 x7_1).f1)] 117 (0, 0)) (by (with_reducible repeat (first | refine dn_ ?_ _ | refine dd_ ?_ | refine da_ ?_ _)); exact BK273.out) hb)
             have n1_ := Aside0.mk (below_step (by repeat (first | (with_reducible first | exact HB.out | apply ba_ | apply bn_ | apply b1_ | refine below_set ?_ GE273.out) | exact HB.out)) hb)
             clear BK273
             clear HB
             have BK273 := n0_
             have HB := n1_
             clear n0_ n1_
             (try clear hb)
             refine hK.out _ _ ⟨(bc_ BK273.out 0).trans rfl, (bc_ BK273.out 1).trans rfl⟩ (fun hHeld => ?_)
             clear hK K
             refine norm_ (a' := ?_) ?_ ?_
             rotate_left
             ·show Act.put _ (some 38) _ = _
              simp only [Act.put, sa_, sz_, ss_, i64_w, i32_w]
              rfl
             refine pn_ HT_ 27 39 ?_ ?_ q12_28 rfl rfl (by kernel_rfl) (fun _ _ _ h => h) (by rfl) ?_ ?_ ?_
             rotate_left 2;(intro w';go_simp;with_reducible rfl);(simp only [Act.put, sa_, sz_, ss_, i64_w, i32_w];rfl)
             refine pn_ HT_ 28 40 ?_ ?_ q12_29 rfl rfl (by kernel_rfl) (fun _ _ _ h => h) (by rfl) ?_ ?_ ?_
             rotate_left 2;(intro w';go_simp;with_reducible rfl);(simp only [Act.put, sa_, sz_, ss_, i64_w, i32_w];rfl)
             refine done_ (done_of HT_.out (by kernel_rfl)) ?_
             try go_wp2
             go_ret
             exact ⟨by first | rfl | (simp [errW_none, errW_some] <;> rfl) | (simp [*, errW_none, errW_some] <;> rfl), by repeat (first | (with_reducible first | exact HB.out | apply ba_ | apply bn_ | apply b1_ | refine below_set ?_ GE273.out) | exact HB.out)⟩
          ·rw [if_neg c22] at H
           exact absurd H (by simp)
        ·rw [if_neg c12] at H
         exact absurd H (by simp)
       ·replace c11 := Bool.eq_false_iff.mpr c11
        subst c11
        have H1 : (some false) = some r := by rw [if_neg (show ¬ (false = true) by decide)] at H; exact H
        clear H
        have H := H1
        clear H1
        obtain rfl := Option.some.inj H
        have p272 : 0 ≤ (x7_1 : Int) := dq_ (by assumption)
        have q272 : x7_1 < (l0.length : Int) := dq_ (by assumption)
        obtain ⟨ad272, e272, hx272_0, hx272_1⟩ := at_T117 HR0.out x7_1 p272 q272
        cases e272
        replace hx272_0 := pw_cell_below HB.out hx272_0
        replace hx272_1 := pw_cell_below HB.out hx272_1
        replace p272 := eq_true p272
        replace q272 := eq_true q272
        try go_wp2_with (first | ((with_reducible refine gate_dst (N := 4) rfl ?_); refine box_event ?hg (N := 4) ?hd (cs := #[.string (⟨#[]⟩ : ByteArray), .string (⟨#[]⟩ : ByteArray)]) (t := 117) ?hr ?_; (case hd => rfl); (case hg => rfl); (case hr => first | (go_simp; done) | (go_simp; rfl)); intro gb273 hg w53 hbox hb; have n0_ := Aside0.mk (below_step (by repeat (first | (with_reducible first | exact HB.out | apply ba_ | apply bn_ | apply b1_) | exact HB.out)) hb); have n1_ := Aside0.mk (hbox); have n2_ := Aside0.mk ((by rw [hg]; exact (below_size (by repeat (first | (with_reducible first | exact HB.out | apply ba_ | apply bn_ | apply b1_) | exact HB.out))) : w.heap.size ≤ gb273)); have n3_ := Aside0.mk ((by rw [hg]; exact (below_size (by repeat (first | (with_reducible first | exact HB.out | apply ba_ | apply bn_ | apply b1_) | exact HB.out))) : w.heap.size ≤ gb273)); clear HB; have HB := n0_; have BK273 := n1_; have GW273 := n2_; have GE273 := n3_; clear n0_ n1_ n2_ n3_; clear hb hbox hg; have hcz54_0 : w53.cell? ⟨gb273, 0, none⟩ = some (.string (⟨#[]⟩ : ByteArray)) := (bc_ BK273.out 0).trans rfl; have hcz54_1 : w53.cell? ⟨gb273, 1, none⟩ = some (.string (⟨#[]⟩ : ByteArray)) := (bc_ BK273.out 1).trans rfl; have hfz54_0 := blk_frozen BK273.out 0; have hfz54_1 := blk_frozen BK273.out 1))
        have n0_ : Aside0 (((w53.setCell ⟨gb273, 0, none⟩ (.string ((rd_T117 l0 x7_1).f0))).setCell ⟨gb273, 1, none⟩ (.string ((rd_T117 l0 x7_1).f1))).heap[gb273]? = some (.cells #[.string ((rd_T117 l0 x7_1).f0), .string ((rd_T117 l0 x7_1).f1)] 117 (0, 0))) := ⟨by (with_reducible repeat (first | refine dn_ ?_ _ | refine dd_ ?_ | refine da_ ?_ _)); refine blk_put (cs := #[.string ((rd_T117 l0 x7_1).f0), .string (⟨#[]⟩ : ByteArray)]) ?_ 1 _ rfl; (with_reducible repeat (first | refine dn_ ?_ _ | refine dd_ ?_ | refine da_ ?_ _)); refine blk_put (cs := #[.string (⟨#[]⟩ : ByteArray), .string (⟨#[]⟩ : ByteArray)]) ?_ 0 _ rfl; (with_reducible repeat (first | refine dn_ ?_ _ | refine dd_ ?_ | refine da_ ?_ _)); exact BK273.out⟩
        have n1_ : Aside0 (Below w.heap.size w ((w53.setCell ⟨gb273, 0, none⟩ (.string ((rd_T117 l0 x7_1).f0))).setCell ⟨gb273, 1, none⟩ (.string ((rd_T117 l0 x7_1).f1)))) := ⟨by repeat (first | (with_reducible first | exact HB.out | apply ba_ | apply bn_ | apply b1_ | refine below_set ?_ GE273.out) | exact HB.out)⟩
        (try clear BK273)
        (try clear HB)
        generalize ((w53.setCell ⟨gb273, 0, none⟩ (.string ((rd_T117 l0 x7_1).f0))).setCell ⟨gb273, 1, none⟩ (.string ((rd_T117 l0 x7_1).f1))) = w55 at n0_ n1_ ⊢
        have BK273 := n0_
        have HB := n1_
        clear n0_ n1_
        have n0_ := Aside0.mk (dd_ BK273.out)
        have n1_ := Aside0.mk (b1_ HB.out)
        clear BK273
        clear HB
        have BK273 := n0_
        have HB := n1_
        clear n0_ n1_
        refine start_ (n := 29) (S := fun w' => w'.cell? ⟨gb273, 0, none⟩ = some (.string ((rd_T117 l0 x7_1).f0)) ∧ w'.cell? ⟨gb273, 1, none⟩ = some (.string ((rd_T117 l0 x7_1).f1))) (ds := []) q12_0 (by kernel_rfl) rfl rfl ⟨(bc_ BK273.out 0).trans rfl, (bc_ BK273.out 1).trans rfl⟩ (fun hHeld => ?_); refine with_tabW impl_attrsOk.tab4 impl_attrsOk.bits4 (fun HT_ HW_ => ?_)
        generalize w55.drew = w56 at BK273 HB hHeld ⊢
        refine pn_ HT_ 0 12 ?_ ?_ q12_1 rfl rfl (by kernel_rfl) (fun _ _ _ h => h) (by rfl) ?_ ?_ ?_
        rotate_left 2;(intro w';go_simp;with_reducible rfl);(simp only [Act.put, sa_, sz_, ss_, i64_w, i32_w];rfl)
        refine tn_ HT_ HW_ 1 13 ?_ ?_ q12_2 rfl rfl (by kernel_rfl) (fun _ _ _ h => h) (by rfl) hHeld ?_ ?_ ?_
        rotate_left 2;(rintro w' ⟨s0, s1⟩;go_simp;with_reducible rfl);(simp only [Act.put, sa_, sz_, ss_, i64_w, i32_w];rfl)
        refine pn_ HT_ 2 14 ?_ ?_ q12_3 rfl rfl (by kernel_rfl) (fun _ _ _ h => h) (by rfl) ?_ ?_ ?_
        rotate_left 2;(intro w';go_simp;with_reducible rfl);(simp only [Act.put, sa_, sz_, ss_, i64_w, i32_w];rfl)
        refine pn_ HT_ 3 15 ?_ ?_ q12_4 rfl rfl (by kernel_rfl) (fun _ _ _ h => h) (by rfl) ?_ ?_ ?_
        rotate_left 2;(intro w';go_simp;with_reducible rfl);(simp only [Act.put, sa_, sz_, ss_, i64_w, i32_w];rfl)
        refine pn_ HT_ 4 16 ?_ ?_ q12_5 rfl rfl (by kernel_rfl) (fun _ _ _ h => h) (by rfl) ?_ ?_ ?_
        rotate_left 2;(intro w';go_simp;with_reducible rfl);(simp only [Act.put, sa_, sz_, ss_, i64_w, i32_w];rfl)
        refine tn_ HT_ HW_ 5 17 ?_ ?_ q12_6 rfl rfl (by kernel_rfl) (fun _ _ _ h => h) (by rfl) hHeld ?_ ?_ ?_
        rotate_left 2;(rintro w' ⟨s0, s1⟩;go_simp;with_reducible rfl);(simp only [Act.put, sa_, sz_, ss_, i64_w, i32_w];rfl)
        refine on_ HT_ 6 18 q12_7 rfl rfl (by kernel_rfl) (by decide) (fun K hK => ?_)
        refine goes_ Try.func141 (by kernel_rfl) rfl #[.string ((rd_T117 l0 x7_1).f0), .string (⟨#[47, 62]⟩ : ByteArray)] (by rfl) rfl rfl (by (try simp only [List.map_toArray, List.map_cons, List.map_nil]); first | done | rfl | (simp only [List.length_drop, List.length_take]; rfl)) ?_
        with_reducible refine (impl_hasNone.calls k1 ((rd_T117 l0 x7_1).f0) (⟨#[47, 62]⟩ : ByteArray) false _ A10.out).mono ?_
        rintro e w57 ⟨rfl, hb⟩
        refine ⟨_, rfl, ?_⟩
        have n0_ := Aside0.mk (blk_below (g := gb273) (o := .cells #[.string ((rd_T117 l0 x7_1).f0), .string ((rd_T117 l0 x7_1).f1)] 117 (0, 0)) (by (with_reducible repeat (first | refine dn_ ?_ _ | refine dd_ ?_ | refine da_ ?_ _)); exact BK273.out) hb)
        have n1_ := Aside0.mk (below_step (by repeat (first | (with_reducible first | exact HB.out | apply ba_ | apply bn_ | apply b1_ | refine below_set ?_ GE273.out) | exact HB.out)) hb)
        clear BK273
        clear HB
        have BK273 := n0_
        have HB := n1_
        clear n0_ n1_
        (try clear hb)
        refine hK.out _ _ ⟨(bc_ BK273.out 0).trans rfl, (bc_ BK273.out 1).trans rfl⟩ (fun hHeld => ?_)
        clear hK K
        refine norm_ (a' := ?_) ?_ ?_
        rotate_left
        ·show Act.put _ (some 18) _ = _
         simp only [Act.put, sa_, sz_, ss_, i64_w, i32_w]
         rfl
        refine pn_ HT_ 7 19 ?_ ?_ q12_8 rfl rfl (by kernel_rfl) (fun _ _ _ h => h) (by rfl) ?_ ?_ ?_
        rotate_left 2;(intro w';go_simp;with_reducible rfl);(simp only [Act.put, sa_, sz_, ss_, i64_w, i32_w];rfl)
        refine pn_ HT_ 8 20 ?_ ?_ q12_9 rfl rfl (by kernel_rfl) (fun _ _ _ h => h) (by rfl) ?_ ?_ ?_
        rotate_left 2;(intro w';go_simp;with_reducible rfl);(simp only [Act.put, sa_, sz_, ss_, i64_w, i32_w];rfl)
        refine pn_ HT_ 9 21 ?_ ?_ q12_10 rfl rfl (by kernel_rfl) (fun _ _ _ h => h) (by rfl) ?_ ?_ ?_
        rotate_left 2;(intro w';go_simp;with_reducible rfl);(simp only [Act.put, sa_, sz_, ss_, i64_w, i32_w];rfl)
        refine po_ HT_ 10 22 ?_ q12_11 rfl rfl (by kernel_rfl) (fun _ _ _ h => h) (by rfl) ?_ ?_
        rotate_left;(simp only [Act.put, sa_, sz_, ss_, i64_w, i32_w];rfl)
        refine po_ HT_ 11 23 ?_ q12_12 rfl rfl (by kernel_rfl) (fun _ _ _ h => h) (by rfl) ?_ ?_
        rotate_left;(simp only [Act.put, sa_, sz_, ss_, i64_w, i32_w];rfl)
        refine po_ HT_ 12 24 ?_ q12_13 rfl rfl (by kernel_rfl) (fun _ _ _ h => h) (by rfl) ?_ ?_
        rotate_left;(simp only [Act.put, sa_, sz_, ss_, i64_w, i32_w];rfl)
        refine po_ HT_ 13 25 ?_ q12_14 rfl rfl (by kernel_rfl) (fun _ _ _ h => h) (by rfl) ?_ ?_
        rotate_left;(simp only [Act.put, sa_, sz_, ss_, i64_w, i32_w];rfl)
        refine pn_ HT_ 14 26 ?_ ?_ q12_15 rfl rfl (by kernel_rfl) (fun _ _ _ h => h) (by rfl) ?_ ?_ ?_
        rotate_left 2;(intro w';go_simp;with_reducible rfl);(simp only [Act.put, sa_, sz_, ss_, i64_w, i32_w];rfl)
        refine pn_ HT_ 15 27 ?_ ?_ q12_16 rfl rfl (by kernel_rfl) (fun _ _ _ h => h) (by rfl) ?_ ?_ ?_
        rotate_left 2;(intro w';go_simp;with_reducible rfl);(simp only [Act.put, sa_, sz_, ss_, i64_w, i32_w];rfl)
        refine po_ HT_ 16 28 ?_ q12_17 rfl rfl (by kernel_rfl) (fun _ _ _ h => h) (by rfl) ?_ ?_
        rotate_left;(simp only [Act.put, sa_, sz_, ss_, i64_w, i32_w];rfl)
        refine po_ HT_ 17 29 ?_ q12_18 rfl rfl (by kernel_rfl) (fun _ _ _ h => h) (by rfl) ?_ ?_
        rotate_left;(simp only [Act.put, sa_, sz_, ss_, i64_w, i32_w];rfl)
        refine po_ HT_ 18 30 ?_ q12_19 rfl rfl (by kernel_rfl) (fun _ _ _ h => h) (by rfl) ?_ ?_
        rotate_left;(simp only [Act.put, sa_, sz_, ss_, i64_w, i32_w];rfl)
        refine po_ HT_ 19 31 ?_ q12_20 rfl rfl (by kernel_rfl) (fun _ _ _ h => h) (by rfl) ?_ ?_
        rotate_left;(simp only [Act.put, sa_, sz_, ss_, i64_w, i32_w];rfl)
        refine po_ HT_ 20 32 ?_ q12_21 rfl rfl (by kernel_rfl) (fun _ _ _ h => h) (by rfl) ?_ ?_
        rotate_left;(simp only [Act.put, sa_, sz_, ss_, i64_w, i32_w];rfl)
        refine po_ HT_ 21 33 ?_ q12_22 rfl rfl (by kernel_rfl) (fun _ _ _ h => h) (by rfl) ?_ ?_
        rotate_left;(simp only [Act.put, sa_, sz_, ss_, i64_w, i32_w];rfl)
        refine pn_ HT_ 22 34 ?_ ?_ q12_23 rfl rfl (by kernel_rfl) (fun _ _ _ h => h) (by rfl) ?_ ?_ ?_
        rotate_left 2;(intro w';go_simp;with_reducible rfl);(simp only [Act.put, sa_, sz_, ss_, i64_w, i32_w];rfl)
        refine pn_ HT_ 23 35 ?_ ?_ q12_24 rfl rfl (by kernel_rfl) (fun _ _ _ h => h) (by rfl) ?_ ?_ ?_
        rotate_left 2;(intro w';go_simp;with_reducible rfl);(simp only [Act.put, sa_, sz_, ss_, i64_w, i32_w];rfl)
        refine po_ HT_ 24 36 ?_ q12_25 rfl rfl (by kernel_rfl) (fun _ _ _ h => h) (by rfl) ?_ ?_
        rotate_left;(simp only [Act.put, sa_, sz_, ss_, i64_w, i32_w];rfl)
        refine po_ HT_ 25 37 ?_ q12_26 rfl rfl (by kernel_rfl) (fun _ _ _ h => h) (by rfl) ?_ ?_
        rotate_left;(simp only [Act.put, sa_, sz_, ss_, i64_w, i32_w];rfl)
        refine po_ HT_ 26 38 ?_ q12_27 rfl rfl (by kernel_rfl) (fun _ _ _ h => h) (by rfl) ?_ ?_
        rotate_left;(simp only [Act.put, sa_, sz_, ss_, i64_w, i32_w];rfl)
        refine po_ HT_ 27 39 ?_ q12_28 rfl rfl (by kernel_rfl) (fun _ _ _ h => h) (by rfl) ?_ ?_
        rotate_left;(simp only [Act.put, sa_, sz_, ss_, i64_w, i32_w];rfl)
        refine pn_ HT_ 28 40 ?_ ?_ q12_29 rfl rfl (by kernel_rfl) (fun _ _ _ h => h) (by rfl) ?_ ?_ ?_
        rotate_left 2;(intro w';go_simp;with_reducible rfl);(simp only [Act.put, sa_, sz_, ss_, i64_w, i32_w];rfl)
        refine done_ (done_of HT_.out (by kernel_rfl)) ?_
        try go_wp2
        go_ret
        exact ⟨by first | rfl | (simp [errW_none, errW_some] <;> rfl) | (simp [*, errW_none, errW_some] <;> rfl), by repeat (first | (with_reducible first | exact HB.out | apply ba_ | apply bn_ | apply b1_ | refine below_set ?_ GE273.out) | exact HB.out)⟩
     ·rw [if_neg c4] at H
      exact absurd H (by simp)
    ·rw [if_neg c3] at H
     exact absurd H (by simp)
   ·rw [if_neg c2] at H
    have c2b0 : decide (x7_1 < (l0.length : Int)) = false := decide_eq_false c2
    clear c2
    obtain rfl := Option.some.inj H
    go_wp2
    go_ret
    exact ⟨by first | rfl | (simp [errW_none, errW_some] <;> rfl) | (simp [*, errW_none, errW_some] <;> rfl), by repeat (first | (with_reducible first | exact HB.out | apply ba_ | apply bn_ | apply b1_) | exact HB.out)⟩
end Go.Proofs.Yteafgjebaedjbaa.PFnExactTokensOk
