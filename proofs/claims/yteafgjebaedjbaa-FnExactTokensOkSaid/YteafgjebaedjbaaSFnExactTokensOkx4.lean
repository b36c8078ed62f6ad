-- Written by this session's program wip/slim.py out of the print's texts. Lean checks it.
import Derived.Test.YteafgjebaedjbaaSFnExactTokensOkx0
import Derived.Test.YteafgjebaedjbaaSFnExactTokensOkx2
import Derived.Test.YteafgjebaedjbaaSFnExactTokensOkx3
namespace Go.Proofs.Yteafgjebaedjbaa.PFnExactTokensOk
open Go.RowKit Go.Proofs.YteafgjebaedjbaaW.PrintWords Go.Proofs.YteafgjebaedjbaaW.PrintLast Go.Proofs.YteafgjebaedjbaaW.PrintMore
def q4_0 : Array Bool := bz 36 0
def q4_1 : Array Bool := bz 36 1
def q4_2 : Array Bool := bz 36 3
def q4_3 : Array Bool := bz 36 7
def q4_4 : Array Bool := bz 36 15
def q4_5 : Array Bool := bz 36 31
def q4_6 : Array Bool := bz 36 63
def q4_7 : Array Bool := bz 36 127
def q4_8 : Array Bool := bz 36 255
def q4_9 : Array Bool := bz 36 511
def q4_10 : Array Bool := bz 36 1023
def q4_11 : Array Bool := bz 36 2047
def q4_12 : Array Bool := bz 36 4095
def q4_13 : Array Bool := bz 36 8191
def q4_14 : Array Bool := bz 36 16383
def q4_15 : Array Bool := bz 36 32767
def q4_16 : Array Bool := bz 36 65535
def q4_17 : Array Bool := bz 36 131071
def q4_18 : Array Bool := bz 36 262143
def q4_19 : Array Bool := bz 36 524287
def q4_20 : Array Bool := bz 36 1048575
def q4_21 : Array Bool := bz 36 2097151
def q4_22 : Array Bool := bz 36 4194303
def q4_23 : Array Bool := bz 36 8388607
def q4_24 : Array Bool := bz 36 16777215
def q4_25 : Array Bool := bz 36 33554431
def q4_26 : Array Bool := bz 36 67108863
def q4_27 : Array Bool := bz 36 134217727
def q4_28 : Array Bool := bz 36 268435455
def q4_29 : Array Bool := bz 36 536870911
def q4_30 : Array Bool := bz 36 1073741823
def q4_31 : Array Bool := bz 36 2147483647
def q4_32 : Array Bool := bz 36 4294967295
def q4_33 : Array Bool := bz 36 8589934591
def q4_34 : Array Bool := bz 36 17179869183
def q4_35 : Array Bool := bz 36 34359738367
def q4_36 : Array Bool := bz 36 68719476735
attribute [local go_sem] max2_int min2_int max_two min_two max_three min_three max_four min_four
set_option linter.unusedVariables false
set_option linter.unusedSimpArgs false
def spec_l5Attrs.l0 : Nat → List (S117) → Int → Option (Bool)
 | 0, _, _ => none
 | k + 1, x0, x3 => if x3 < (x0.length : Int) then (if 0 ≤ x3 then ((spec_l5Name.f k ((rd_T117 x0 x3).f0) (⟨#[47, 62]⟩ : ByteArray)).bind fun t159 => (if t159 = true then ((spec_l4Find.f k ((rd_T117 x0 x3).f0) 1 61).bind fun t161 => (if t161 ≥ 0 then (some false) else ((spec_l5Line.f k ((rd_T117 x0 x3).f1)).bind fun t163 => (if t163 = true then (if x3 ≤ (x0.length : Int) then ((spec_l4Has.f k (x0.take (x3 : Int).toNat) ((rd_T117 x0 x3).f0)).bind fun t169 => (if t169 = true then (some false) else (spec_l5Attrs.l0 k x0 (wrap64 (x3 + 1))))) else (none)) else (some false))))) else (some false))) else (none)) else (some true)
def spec_l5Attrs.f (k : Nat) (l0 : List (S117)) : Option (Bool) := spec_l5Attrs.l0 k l0 0
theorem spec_l5Attrs.mono_l : ∀ k, (∀ y0 y1, LeO (spec_l5Attrs.l0 k y0 y1) (spec_l5Attrs.l0 (k + 1) y0 y1))
 | 0 => fun _ _ r h => by simp [spec_l5Attrs.l0] at h
 | k + 1 => by
  have ih0 := spec_l5Attrs.mono_l k
  ·intro y0 y1
   unfold spec_l5Attrs.l0
   repeat' first
   | (with_reducible exact ih0 _ _)
   | (with_reducible exact spec_l4Find.mono _ _ _ _)
   | (with_reducible exact spec_l4Has.mono _ _ _)
   | (with_reducible exact spec_l5Line.mono _ _)
   | (with_reducible exact spec_l5Name.mono _ _ _)
   | (with_reducible exact LeO.refl _)
   | (with_reducible exact LeO.none _)
   | (with_reducible refine LeO.ite ?_ ?_)
   | (with_reducible refine LeO.bind ?_ (fun _ => ?_))
theorem spec_l5Attrs.mono : ∀ a0 k, LeO (spec_l5Attrs.f k a0) (spec_l5Attrs.f (k + 1) a0) := by
 intro a0 k
 have ih0 := spec_l5Attrs.mono_l k
 unfold spec_l5Attrs.f
 repeat' first
   | (with_reducible exact ih0 _ _)
   | (with_reducible exact spec_l4Find.mono _ _ _ _)
   | (with_reducible exact spec_l4Has.mono _ _ _)
   | (with_reducible exact spec_l5Line.mono _ _)
   | (with_reducible exact spec_l5Name.mono _ _ _)
   | (with_reducible exact LeO.refl _)
   | (with_reducible exact LeO.none _)
   | (with_reducible refine LeO.ite ?_ ?_)
   | (with_reducible refine LeO.bind ?_ (fun _ => ?_))
def spec_l5Attrs.T4 : Bool × List (List Nat × List Nat) := (true, [([], []), ([], []), ([0, 1], [0, 1]), ([2], [2]), ([3], [3]), ([4], [4]), ([5], [5]), ([6, 5], [6]), ([7], [7]), ([7], [7]), ([8, 9, 7], [7, 8, 9]), ([10, 7], [7, 10]), ([11, 7], [7, 11]), ([12, 7, 7], [7, 12]), ([13, 7], [7, 13]), ([7, 14], [7, 14]), ([15, 13], [15]), ([16], [16]), ([16], [16]), ([17, 18, 16], [16, 17, 18]), ([19, 16], [16, 19]), ([20, 16], [16, 20]), ([21, 16, 16], [16, 21]), ([22, 16], [16, 22]), ([16, 23], [16, 23]), ([24, 22], [24]), ([25], [25]), ([25], [25]), ([26, 27, 25], [25, 26, 27]), ([25], [25]), ([25], [25]), ([29, 30, 25], [25, 29, 30]), ([31, 25], [25, 31]), ([32, 25], [25, 32]), ([28, 33, 25, 25], [25, 28, 33]), ([25, 34], [25, 34])])
def spec_l5Attrs.B4 : List Nat := [0, 0, 3, 7, 15, 31, 63, 127, 255, 255, 1023, 2047, 4095, 8191, 16383, 32767, 65535, 131071, 131071, 524287, 1048575, 2097151, 4194303, 8388607, 16777215, 33554431, 67108863, 67108863, 268435455, 67108863, 67108863, 1677721599, 3825205247, 8120172543, 17179869183, 34359738367]
theorem spec_l5Attrs.tab4 : rtab .any (opsOf Try.f115 4) = spec_l5Attrs.T4 := by kernel_rfl
theorem spec_l5Attrs.bits4 : waitsOk spec_l5Attrs.T4.2 spec_l5Attrs.B4 = true := by kernel_rfl
set_option maxHeartbeats 8000000 in
set_option maxRecDepth 100000 in
theorem spec_l5Attrs.calls (k : Nat) (A0 : Option Addr) (c0 : Nat) (l0 : List (S117)) (r : Bool) (w : World) (hr0 : Kd.C k117 w A0 l0.length l0) (hc0 : l0.length ≤ c0) (h : spec_l5Attrs.f k l0 = some r) :
  Calls Try.prog 115 #[.slice A0 l0.length c0] w fun e w' => e = .returned (.bool r) ∧ Below w.heap.size w w' := by
 have HR0 := Aside0.mk hr0
 have HC0 := Aside0.mk hc0
 clear hr0 hc0
 have HB := Aside0.mk (Below.refl w.heap.size w)
 have H : (spec_l5Attrs.l0 k l0 0) = some r := h
 clear h
 have H' := Aside0.mk H
 clear H
 go_enter Try.func115, Try.ntmps115
 go_wp2
 go_loopg [3] k (fun kq v3 w' => ∃ (x3_1 : Int), v3 = .int .i64 x3_1 ∧ Aside0 (spec_l5Attrs.l0 kq l0 x3_1 = some r) ∧ Aside0 (kq ≤ k) ∧ Aside0 (Below w.heap.size w w'))
 case atStart => exact ⟨(0), (by first | rfl | (simp; done) | (simp [*]; done)), H', ⟨Nat.le_refl _⟩, ⟨by repeat (first | (with_reducible first | exact HB.out | apply ba_ | apply bn_ | apply b1_) | exact HB.out)⟩⟩
 case round =>
  clear H'
  obtain ⟨x3_1, rfl, HA, HK1, HB⟩ := hrel
  cases gk with
  | zero => exact absurd HA.out (by simp [spec_l5Attrs.l0])
  | succ k1 =>
   have H := HA.out
   clear HA
   simp only [spec_l5Attrs.l0] at H
   by_cases c2 : x3_1 < (l0.length : Int)
   ·rw [if_pos c2] at H
    have c2b0 : decide (x3_1 < (l0.length : Int)) = true := decide_eq_true c2
    clear c2
    by_cases c3 : 0 ≤ x3_1
    ·rw [if_pos c3] at H
     have c3b0 : decide (0 ≤ x3_1) = true := decide_eq_true c3
     clear c3
     replace H := Option.bind_eq_some_iff.mp H
     obtain ⟨t159, A40, H⟩ := H
     replace H : (if t159 = true then ((spec_l4Find.f k1 ((rd_T117 l0 x3_1).f0) 1 61).bind fun t161 => (if t161 ≥ 0 then (some false) else ((spec_l5Line.f k1 ((rd_T117 l0 x3_1).f1)).bind fun t163 => (if t163 = true then (if x3_1 ≤ (l0.length : Int) then ((spec_l4Has.f k1 (l0.take (x3_1 : Int).toNat) ((rd_T117 l0 x3_1).f0)).bind fun t169 => (if t169 = true then (some false) else (spec_l5Attrs.l0 k1 l0 (wrap64 (x3_1 + 1))))) else (none)) else (some false))))) else (some false)) = some r := H
     have A4 := Aside0.mk A40
     clear A40
     by_cases c5 : t159 = true
     ·subst c5
      have H1 : ((spec_l4Find.f k1 ((rd_T117 l0 x3_1).f0) 1 61).bind fun t161 => (if t161 ≥ 0 then (some false) else ((spec_l5Line.f k1 ((rd_T117 l0 x3_1).f1)).bind fun t163 => (if t163 = true then (if x3_1 ≤ (l0.length : Int) then ((spec_l4Has.f k1 (l0.take (x3_1 : Int).toNat) ((rd_T117 l0 x3_1).f0)).bind fun t169 => (if t169 = true then (some false) else (spec_l5Attrs.l0 k1 l0 (wrap64 (x3_1 + 1))))) else (none)) else (some false))))) = some r := by rw [if_pos rfl] at H; exact H
      clear H
      have H := H1
      clear H1
      replace H := Option.bind_eq_some_iff.mp H
      obtain ⟨t161, A60, H⟩ := H
      replace H : (if t161 ≥ 0 then (some false) else ((spec_l5Line.f k1 ((rd_T117 l0 x3_1).f1)).bind fun t163 => (if t163 = true then (if x3_1 ≤ (l0.length : Int) then ((spec_l4Has.f k1 (l0.take (x3_1 : Int).toNat) ((rd_T117 l0 x3_1).f0)).bind fun t169 => (if t169 = true then (some false) else (spec_l5Attrs.l0 k1 l0 (wrap64 (x3_1 + 1))))) else (none)) else (some false)))) = some r := H
      have A6 := Aside0.mk A60
      clear A60
      by_cases c7 : t161 ≥ 0
      ·rw [if_pos c7] at H
       have c7b0 : decide (0 ≤ t161) = true := decide_eq_true c7
       clear c7
       obtain rfl := Option.some.inj H
       try go_wp2
       replace HB := Aside0.mk (b1_ HB.out)
       have p158 : 0 ≤ (x3_1 : Int) := dq_ (by assumption)
       have q158 : x3_1 < (l0.length : Int) := dq_ (by assumption)
       obtain ⟨ad158, e158, hx158_0, hx158_1⟩ := at_T117 HR0.out x3_1 p158 q158
       have hw158_1 := hx158_1
       have hw158_0 := hx158_0
       cases e158
       replace hx158_0 := pw_cell_below HB.out hx158_0
       replace hx158_1 := pw_cell_below HB.out hx158_1
       replace p158 := eq_true p158
       replace q158 := eq_true q158
       have p160 : 0 ≤ (x3_1 : Int) := dq_ (by assumption)
       have q160 : x3_1 < (l0.length : Int) := dq_ (by assumption)
       obtain ⟨ad160, e160, hx160_0, hx160_1⟩ := at_T117 HR0.out x3_1 p160 q160
       have hw160_1 := hx160_1
       have hw160_0 := hx160_0
       obtain rfl : ad158 = ad160 := (by injection e160)
       replace hx160_0 := pw_cell_below HB.out hx160_0
       replace hx160_1 := pw_cell_below HB.out hx160_1
       replace p160 := eq_true p160
       replace q160 := eq_true q160
       refine start_ (n := 36) (S := fun w' => w'.cell? (ad158.add ((x3_1).toNat * 2)) = some (.string ((rd_T117 l0 x3_1).f0)) ∧ w'.cell? ⟨(ad158.add ((x3_1).toNat * 2)).block, (ad158.add ((x3_1).toNat * 2)).off + 1, none⟩ = some (.string ((rd_T117 l0 x3_1).f1)) ∧ w'.cell? (ad158.add ((x3_1).toNat * 2)) = some (.string ((rd_T117 l0 x3_1).f0)) ∧ w'.cell? ⟨(ad158.add ((x3_1).toNat * 2)).block, (ad158.add ((x3_1).toNat * 2)).off + 1, none⟩ = some (.string ((rd_T117 l0 x3_1).f1))) (ds := []) q4_0 (by kernel_rfl) rfl rfl ⟨(pw_cell_below HB.out hw158_0), (pw_cell_below HB.out hw158_1), (pw_cell_below HB.out hw160_0), (pw_cell_below HB.out hw160_1)⟩ (fun hHeld => ?_); refine with_tabW spec_l5Attrs.tab4 spec_l5Attrs.bits4 (fun HT_ HW_ => ?_)
       generalize wr.drew = w8 at HB hx158_0 hx158_1 hx160_0 hx160_1 hHeld ⊢
       refine pn_ HT_ 0 10 ?_ ?_ q4_1 rfl rfl (by kernel_rfl) (fun _ _ _ h => h) (by rfl) ?_ ?_ ?_
       rotate_left 2;(intro w';go_simp;with_reducible rfl);(simp only [Act.put, sa_, sz_, ss_, i64_w, i32_w];rfl)
       refine pn_ HT_ 1 11 ?_ ?_ q4_2 rfl rfl (by kernel_rfl) (fun _ _ _ h => h) (by rfl) ?_ ?_ ?_
       rotate_left 2;(intro w';go_simp;with_reducible rfl);(simp only [Act.put, sa_, sz_, ss_, i64_w, i32_w];rfl)
       refine pn_ HT_ 2 12 ?_ ?_ q4_3 rfl rfl (by kernel_rfl) (fun _ _ _ h => h) (by rfl) ?_ ?_ ?_
       rotate_left 2;(intro w';go_simp;with_reducible rfl);(simp only [Act.put, sa_, sz_, ss_, i64_w, i32_w];rfl)
       refine pn_ HT_ 3 13 ?_ ?_ q4_4 rfl rfl (by kernel_rfl) (fun _ _ _ h => h) (by rfl) ?_ ?_ ?_
       rotate_left 2;(intro w';go_simp;with_reducible rfl);(simp only [Act.put, sa_, sz_, ss_, i64_w, i32_w];rfl)
       refine tn_ HT_ HW_ 4 14 ?_ ?_ q4_5 rfl rfl (by kernel_rfl) (fun _ _ _ h => h) (by rfl) hHeld ?_ ?_ ?_
       rotate_left 2;(rintro w' ⟨s0, s1, s2, s3⟩;go_simp;with_reducible rfl);(simp only [Act.put, sa_, sz_, ss_, i64_w, i32_w];rfl)
       refine on_ HT_ 5 15 q4_6 rfl rfl (by kernel_rfl) (by decide) (fun K hK => ?_)
       refine goes_ Try.func114 (by kernel_rfl) rfl #[.string ((rd_T117 l0 x3_1).f0), .string (⟨#[47, 62]⟩ : ByteArray)] (by rfl) rfl rfl (by (try simp only [List.map_toArray, List.map_cons, List.map_nil]); first | done | rfl | (simp only [List.length_drop, List.length_take]; rfl)) ?_
       with_reducible refine (spec_l5Name.calls k1 ((rd_T117 l0 x3_1).f0) (⟨#[47, 62]⟩ : ByteArray) true _ A4.out).mono ?_
       rintro e w9 ⟨rfl, hb⟩
       refine ⟨_, rfl, ?_⟩
       replace HB := Aside0.mk (below_step (by repeat (first | (with_reducible first | exact HB.out | apply ba_ | apply bn_ | apply b1_) | exact HB.out)) hb)
       (try clear hb)
       refine hK.out _ _ ⟨(pw_cell_below HB.out hw158_0), (pw_cell_below HB.out hw158_1), (pw_cell_below HB.out hw160_0), (pw_cell_below HB.out hw160_1)⟩ (fun hHeld => ?_)
       clear hK K
       refine norm_ (a' := ?_) ?_ ?_
       rotate_left
       ·show Act.put _ (some 15) _ = _
        simp only [Act.put, sa_, sz_, ss_, i64_w, i32_w]
        rfl
       refine pn_ HT_ 6 16 ?_ ?_ q4_7 rfl rfl (by kernel_rfl) (fun _ _ _ h => h) (by rfl) ?_ ?_ ?_
       rotate_left 2;(intro w';go_simp;with_reducible rfl);(simp only [Act.put, sa_, sz_, ss_, i64_w, i32_w];rfl)
       refine pn_ HT_ 7 17 ?_ ?_ q4_8 rfl rfl (by kernel_rfl) (fun _ _ _ h => h) (by rfl) ?_ ?_ ?_
       rotate_left 2;(intro w';go_simp;with_reducible rfl);(simp only [Act.put, sa_, sz_, ss_, i64_w, i32_w];rfl)
       refine pn_ HT_ 8 18 ?_ ?_ q4_9 rfl rfl (by kernel_rfl) (fun _ _ _ h => h) (by rfl) ?_ ?_ ?_
       rotate_left 2;(intro w';go_simp;with_reducible rfl);(simp only [Act.put, sa_, sz_, ss_, i64_w, i32_w];rfl)
       refine pn_ HT_ 9 19 ?_ ?_ q4_10 rfl rfl (by kernel_rfl) (fun _ _ _ h => h) (by rfl) ?_ ?_ ?_
       rotate_left 2;(intro w';go_simp;with_reducible rfl);(simp only [Act.put, sa_, sz_, ss_, i64_w, i32_w];rfl)
       refine pn_ HT_ 10 20 ?_ ?_ q4_11 rfl rfl (by kernel_rfl) (fun _ _ _ h => h) (by rfl) ?_ ?_ ?_
       rotate_left 2;(intro w';go_simp;with_reducible rfl);(simp only [Act.put, sa_, sz_, ss_, i64_w, i32_w];rfl)
       refine pn_ HT_ 11 21 ?_ ?_ q4_12 rfl rfl (by kernel_rfl) (fun _ _ _ h => h) (by rfl) ?_ ?_ ?_
       rotate_left 2;(intro w';go_simp;with_reducible rfl);(simp only [Act.put, sa_, sz_, ss_, i64_w, i32_w];rfl)
       refine tn_ HT_ HW_ 12 22 ?_ ?_ q4_13 rfl rfl (by kernel_rfl) (fun _ _ _ h => h) (by rfl) hHeld ?_ ?_ ?_
       rotate_left 2;(rintro w' ⟨s0, s1, s2, s3⟩;go_simp;with_reducible rfl);(simp only [Act.put, sa_, sz_, ss_, i64_w, i32_w];rfl)
       refine on_ HT_ 13 23 q4_14 rfl rfl (by kernel_rfl) (by decide) (fun K hK => ?_)
       refine goes_ Try.func119 (by kernel_rfl) rfl #[.string ((rd_T117 l0 x3_1).f0), .int .i64 1, .int .u8 61] (by rfl) rfl rfl (by (try simp only [List.map_toArray, List.map_cons, List.map_nil]); first | done | rfl | (simp only [List.length_drop, List.length_take]; rfl)) ?_
       with_reducible refine (spec_l4Find.calls k1 ((rd_T117 l0 x3_1).f0) 1 61 t161 _ A6.out).mono ?_
       rintro e w' ⟨rfl, ⟨nd, rfl⟩⟩
       refine ⟨_, rfl, ?_⟩
       refine hK.out _ _ ⟨(pw_cell_below HB.out hw158_0), (pw_cell_below HB.out hw158_1), (pw_cell_below HB.out hw160_0), (pw_cell_below HB.out hw160_1)⟩ (fun hHeld => ?_)
       clear hK K
       refine norm_ (a' := ?_) ?_ ?_
       rotate_left
       ·show Act.put _ (some 23) _ = _
        simp only [Act.put, sa_, sz_, ss_, i64_w, i32_w]
        rfl
       refine pn_ HT_ 14 24 ?_ ?_ q4_15 rfl rfl (by kernel_rfl) (fun _ _ _ h => h) (by rfl) ?_ ?_ ?_
       rotate_left 2;(intro w';go_simp;with_reducible rfl);(simp only [Act.put, sa_, sz_, ss_, i64_w, i32_w];rfl)
       refine pn_ HT_ 15 25 ?_ ?_ q4_16 rfl rfl (by kernel_rfl) (fun _ _ _ h => h) (by rfl) ?_ ?_ ?_
       rotate_left 2;(intro w';go_simp;with_reducible rfl);(simp only [Act.put, sa_, sz_, ss_, i64_w, i32_w];rfl)
       refine pn_ HT_ 16 26 ?_ ?_ q4_17 rfl rfl (by kernel_rfl) (fun _ _ _ h => h) (by rfl) ?_ ?_ ?_
       rotate_left 2;(intro w';go_simp;with_reducible rfl);(simp only [Act.put, sa_, sz_, ss_, i64_w, i32_w];rfl)
       refine po_ HT_ 17 27 ?_ q4_18 rfl rfl (by kernel_rfl) (fun _ _ _ h => h) (by rfl) ?_ ?_
       rotate_left;(simp only [Act.put, sa_, sz_, ss_, i64_w, i32_w];rfl)
       refine po_ HT_ 18 28 ?_ q4_19 rfl rfl (by kernel_rfl) (fun _ _ _ h => h) (by rfl) ?_ ?_
       rotate_left;(simp only [Act.put, sa_, sz_, ss_, i64_w, i32_w];rfl)
       refine po_ HT_ 19 29 ?_ q4_20 rfl rfl (by kernel_rfl) (fun _ _ _ h => h) (by rfl) ?_ ?_
       rotate_left;(simp only [Act.put, sa_, sz_, ss_, i64_w, i32_w];rfl)
       refine po_ HT_ 20 30 ?_ q4_21 rfl rfl (by kernel_rfl) (fun _ _ _ h => h) (by rfl) ?_ ?_
       rotate_left;(simp only [Act.put, sa_, sz_, ss_, i64_w, i32_w];rfl)
       refine po_ HT_ 21 31 ?_ q4_22 rfl rfl (by kernel_rfl) (fun _ _ _ h => h) (by rfl) ?_ ?_
       rotate_left;(simp only [Act.put, sa_, sz_, ss_, i64_w, i32_w];rfl)
       refine po_ HT_ 22 32 ?_ q4_23 rfl rfl (by kernel_rfl) (fun _ _ _ h => h) (by rfl) ?_ ?_
       rotate_left;(simp only [Act.put, sa_, sz_, ss_, i64_w, i32_w];rfl)
       refine po_ HT_ 23 33 ?_ q4_24 rfl rfl (by kernel_rfl) (fun _ _ _ h => h) (by rfl) ?_ ?_
       rotate_left;(simp only [Act.put, sa_, sz_, ss_, i64_w, i32_w];rfl)
       refine pn_ HT_ 24 34 ?_ ?_ q4_25 rfl rfl (by kernel_rfl) (fun _ _ _ h => h) (by rfl) ?_ ?_ ?_
       rotate_left 2;(intro w';go_simp;with_reducible rfl);(simp only [Act.put, sa_, sz_, ss_, i64_w, i32_w];rfl)
       refine pn_ HT_ 25 35 ?_ ?_ q4_26 rfl rfl (by kernel_rfl) (fun _ _ _ h => h) (by rfl) ?_ ?_ ?_
       rotate_left 2;(intro w';go_simp;with_reducible rfl);(simp only [Act.put, sa_, sz_, ss_, i64_w, i32_w];rfl)
       refine po_ HT_ 26 36 ?_ q4_27 rfl rfl (by kernel_rfl) (fun _ _ _ h => h) (by rfl) ?_ ?_
       rotate_left;(simp only [Act.put, sa_, sz_, ss_, i64_w, i32_w];rfl)
       refine po_ HT_ 27 37 ?_ q4_28 rfl rfl (by kernel_rfl) (fun _ _ _ h => h) (by rfl) ?_ ?_
       rotate_left;(simp only [Act.put, sa_, sz_, ss_, i64_w, i32_w];rfl)
       refine po_ HT_ 28 38 ?_ q4_29 rfl rfl (by kernel_rfl) (fun _ _ _ h => h) (by rfl) ?_ ?_
       rotate_left;(simp only [Act.put, sa_, sz_, ss_, i64_w, i32_w];rfl)
       refine po_ HT_ 29 39 ?_ q4_30 rfl rfl (by kernel_rfl) (fun _ _ _ h => h) (by rfl) ?_ ?_
       rotate_left;(simp only [Act.put, sa_, sz_, ss_, i64_w, i32_w];rfl)
       refine po_ HT_ 30 40 ?_ q4_31 rfl rfl (by kernel_rfl) (fun _ _ _ h => h) (by rfl) ?_ ?_
       rotate_left;(simp only [Act.put, sa_, sz_, ss_, i64_w, i32_w];rfl)
       refine po_ HT_ 31 41 ?_ q4_32 rfl rfl (by kernel_rfl) (fun _ _ _ h => h) (by rfl) ?_ ?_
       rotate_left;(simp only [Act.put, sa_, sz_, ss_, i64_w, i32_w];rfl)
       refine po_ HT_ 32 42 ?_ q4_33 rfl rfl (by kernel_rfl) (fun _ _ _ h => h) (by rfl) ?_ ?_
       rotate_left;(simp only [Act.put, sa_, sz_, ss_, i64_w, i32_w];rfl)
       refine po_ HT_ 33 43 ?_ q4_34 rfl rfl (by kernel_rfl) (fun _ _ _ h => h) (by rfl) ?_ ?_
       rotate_left;(simp only [Act.put, sa_, sz_, ss_, i64_w, i32_w];rfl)
       refine po_ HT_ 34 44 ?_ q4_35 rfl rfl (by kernel_rfl) (fun _ _ _ h => h) (by rfl) ?_ ?_
       rotate_left;(simp only [Act.put, sa_, sz_, ss_, i64_w, i32_w];rfl)
       refine pn_ HT_ 35 45 ?_ ?_ q4_36 rfl rfl (by kernel_rfl) (fun _ _ _ h => h) (by rfl) ?_ ?_ ?_
       rotate_left 2;(intro w';go_simp;with_reducible rfl);(simp only [Act.put, sa_, sz_, ss_, i64_w, i32_w];rfl)
       refine done_ (done_of HT_.out (by kernel_rfl)) ?_
       try go_wp2
       go_ret
       exact ⟨by first | rfl | (simp [errW_none, errW_some] <;> rfl) | (simp [*, errW_none, errW_some] <;> rfl), by repeat (first | (with_reducible first | exact HB.out | apply ba_ | apply bn_ | apply b1_) | exact HB.out)⟩
      ·rw [if_neg c7] at H
       have c7b0 : decide (0 ≤ t161) = false := decide_eq_false c7
       clear c7
       replace H := Option.bind_eq_some_iff.mp H
       obtain ⟨t163, A100, H⟩ := H
       replace H : (if t163 = true then (if x3_1 ≤ (l0.length : Int) then ((spec_l4Has.f k1 (l0.take (x3_1 : Int).toNat) ((rd_T117 l0 x3_1).f0)).bind fun t169 => (if t169 = true then (some false) else (spec_l5Attrs.l0 k1 l0 (wrap64 (x3_1 + 1))))) else (none)) else (some false)) = some r := H
       have A10 := Aside0.mk A100
       clear A100
       by_cases c11 : t163 = true
       ·subst c11
        have H1 : (if x3_1 ≤ (l0.length : Int) then ((spec_l4Has.f k1 (l0.take (x3_1 : Int).toNat) ((rd_T117 l0 x3_1).f0)).bind fun t169 => (if t169 = true then (some false) else (spec_l5Attrs.l0 k1 l0 (wrap64 (x3_1 + 1))))) else (none)) = some r := by rw [if_pos rfl] at H; exact H
        clear H
        have H := H1
        clear H1
        have c12b0 := eq_true (dq_ (by assumption) : 0 ≤ x3_1)
        by_cases c13 : x3_1 ≤ (l0.length : Int)
        ·rw [if_pos c13] at H
         have c13b0 := eq_true c13
         have c13b1 : decide (x3_1 ≤ (l0.length : Int)) = true := decide_eq_true c13
         clear c13
         obtain ⟨y164, hy164⟩ : ∃ y_ : List (S117), y_ = (l0.take (x3_1 : Int).toNat) := ⟨_, rfl⟩
         replace H : ((spec_l4Has.f k1 y164 ((rd_T117 l0 x3_1).f0)).bind fun t169 => (if t169 = true then (some false) else (spec_l5Attrs.l0 k1 l0 (wrap64 (x3_1 + 1))))) = some r := by first | (rw [hy164]; with_reducible exact H) | (have H2_ := (Option.bind_some _ _).symm.trans H; rw [hy164]; with_reducible exact H2_) | (have H2_ := (Option.bind_some _ _).symm.trans H; with_reducible exact H2_) | with_reducible exact H | (rw [hy164]; exact H) | exact H
         have Ny164 := Aside0.mk hy164
         clear hy164
         replace H := Option.bind_eq_some_iff.mp H
         obtain ⟨t169, A140, H⟩ := H
         replace H : (if t169 = true then (some false) else (spec_l5Attrs.l0 k1 l0 (wrap64 (x3_1 + 1)))) = some r := H
         have A14 := Aside0.mk A140
         clear A140
         by_cases c15 : t169 = true
         ·subst c15
          have H1 : (some false) = some r := by rw [if_pos rfl] at H; exact H
          clear H
          have H := H1
          clear H1
          obtain rfl := Option.some.inj H
          try go_wp2
          replace HB := Aside0.mk (b1_ HB.out)
          have p158 : 0 ≤ (x3_1 : Int) := dq_ (by assumption)
          have q158 : x3_1 < (l0.length : Int) := dq_ (by assumption)
          obtain ⟨ad158, e158, hx158_0, hx158_1⟩ := at_T117 HR0.out x3_1 p158 q158
          have hw158_1 := hx158_1
          have hw158_0 := hx158_0
          cases e158
          replace hx158_0 := pw_cell_below HB.out hx158_0
          replace hx158_1 := pw_cell_below HB.out hx158_1
          replace p158 := eq_true p158
          replace q158 := eq_true q158
          have p160 : 0 ≤ (x3_1 : Int) := dq_ (by assumption)
          have q160 : x3_1 < (l0.length : Int) := dq_ (by assumption)
          obtain ⟨ad160, e160, hx160_0, hx160_1⟩ := at_T117 HR0.out x3_1 p160 q160
          have hw160_1 := hx160_1
          have hw160_0 := hx160_0
          obtain rfl : ad158 = ad160 := (by injection e160)
          replace hx160_0 := pw_cell_below HB.out hx160_0
          replace hx160_1 := pw_cell_below HB.out hx160_1
          replace p160 := eq_true p160
          replace q160 := eq_true q160
          have p162 : 0 ≤ (x3_1 : Int) := dq_ (by assumption)
          have q162 : x3_1 < (l0.length : Int) := dq_ (by assumption)
          obtain ⟨ad162, e162, hx162_0, hx162_1⟩ := at_T117 HR0.out x3_1 p162 q162
          have hw162_1 := hx162_1
          have hw162_0 := hx162_0
          obtain rfl : ad158 = ad162 := (by injection e162)
          replace hx162_0 := pw_cell_below HB.out hx162_0
          replace hx162_1 := pw_cell_below HB.out hx162_1
          replace p162 := eq_true p162
          replace q162 := eq_true q162
          have p168 : 0 ≤ (x3_1 : Int) := dq_ (by assumption)
          have q168 : x3_1 < (l0.length : Int) := dq_ (by assumption)
          obtain ⟨ad168, e168, hx168_0, hx168_1⟩ := at_T117 HR0.out x3_1 p168 q168
          have hw168_1 := hx168_1
          have hw168_0 := hx168_0
          obtain rfl : ad158 = ad168 := (by injection e168)
          replace hx168_0 := pw_cell_below HB.out hx168_0
          replace hx168_1 := pw_cell_below HB.out hx168_1
          replace p168 := eq_true p168
          replace q168 := eq_true q168
          refine start_ (n := 36) (S := fun w' => w'.cell? (ad158.add ((x3_1).toNat * 2)) = some (.string ((rd_T117 l0 x3_1).f0)) ∧ w'.cell? ⟨(ad158.add ((x3_1).toNat * 2)).block, (ad158.add ((x3_1).toNat * 2)).off + 1, none⟩ = some (.string ((rd_T117 l0 x3_1).f1)) ∧ w'.cell? (ad158.add ((x3_1).toNat * 2)) = some (.string ((rd_T117 l0 x3_1).f0)) ∧ w'.cell? ⟨(ad158.add ((x3_1).toNat * 2)).block, (ad158.add ((x3_1).toNat * 2)).off + 1, none⟩ = some (.string ((rd_T117 l0 x3_1).f1)) ∧ w'.cell? (ad158.add ((x3_1).toNat * 2)) = some (.string ((rd_T117 l0 x3_1).f0)) ∧ w'.cell? ⟨(ad158.add ((x3_1).toNat * 2)).block, (ad158.add ((x3_1).toNat * 2)).off + 1, none⟩ = some (.string ((rd_T117 l0 x3_1).f1)) ∧ w'.cell? (ad158.add ((x3_1).toNat * 2)) = some (.string ((rd_T117 l0 x3_1).f0)) ∧ w'.cell? ⟨(ad158.add ((x3_1).toNat * 2)).block, (ad158.add ((x3_1).toNat * 2)).off + 1, none⟩ = some (.string ((rd_T117 l0 x3_1).f1))) (ds := []) q4_0 (by kernel_rfl) rfl rfl ⟨(pw_cell_below HB.out hw158_0), (pw_cell_below HB.out hw158_1), (pw_cell_below HB.out hw160_0), (pw_cell_below HB.out hw160_1), (pw_cell_below HB.out hw162_0), (pw_cell_below HB.out hw162_1), (pw_cell_below HB.out hw168_0), (pw_cell_below HB.out hw168_1)⟩ (fun hHeld => ?_); refine with_tabW spec_l5Attrs.tab4 spec_l5Attrs.bits4 (fun HT_ HW_ => ?_)
          generalize wr.drew = w16 at HB hx158_0 hx158_1 hx160_0 hx160_1 hx162_0 hx162_1 hx168_0 hx168_1 hHeld ⊢
          refine pn_ HT_ 0 10 ?_ ?_ q4_1 rfl rfl (by kernel_rfl) (fun _ _ _ h => h) (by rfl) ?_ ?_ ?_
          rotate_left 2;(intro w';go_simp;with_reducible rfl);(simp only [Act.put, sa_, sz_, ss_, i64_w, i32_w];rfl)
          refine pn_ HT_ 1 11 ?_ ?_ q4_2 rfl rfl (by kernel_rfl) (fun _ _ _ h => h) (by rfl) ?_ ?_ ?_
          rotate_left 2;(intro w';go_simp;with_reducible rfl);(simp only [Act.put, sa_, sz_, ss_, i64_w, i32_w];rfl)
          refine pn_ HT_ 2 12 ?_ ?_ q4_3 rfl rfl (by kernel_rfl) (fun _ _ _ h => h) (by rfl) ?_ ?_ ?_
          rotate_left 2;(intro w';go_simp;with_reducible rfl);(simp only [Act.put, sa_, sz_, ss_, i64_w, i32_w];rfl)
          refine pn_ HT_ 3 13 ?_ ?_ q4_4 rfl rfl (by kernel_rfl) (fun _ _ _ h => h) (by rfl) ?_ ?_ ?_
          rotate_left 2;(intro w';go_simp;with_reducible rfl);(simp only [Act.put, sa_, sz_, ss_, i64_w, i32_w];rfl)
          refine tn_ HT_ HW_ 4 14 ?_ ?_ q4_5 rfl rfl (by kernel_rfl) (fun _ _ _ h => h) (by rfl) hHeld ?_ ?_ ?_
          rotate_left 2;(rintro w' ⟨s0, s1, s2, s3, s4, s5, s6, s7⟩;go_simp;with_reducible rfl);(simp only [Act.put, sa_, sz_, ss_, i64_w, i32_w];rfl)
          refine on_ HT_ 5 15 q4_6 rfl rfl (by kernel_rfl) (by decide) (fun K hK => ?_)
          refine goes_ Try.func114 (by kernel_rfl) rfl #[.string ((rd_T117 l0 x3_1).f0), .string (⟨#[47, 62]⟩ : ByteArray)] (by rfl) rfl rfl (by (try simp only [List.map_toArray, List.map_cons, List.map_nil]); first | done | rfl | (simp only [List.length_drop, List.length_take]; rfl)) ?_
          with_reducible refine (spec_l5Name.calls k1 ((rd_T117 l0 x3_1).f0) (⟨#[47, 62]⟩ : ByteArray) true _ A4.out).mono ?_
          rintro e w17 ⟨rfl, hb⟩
          refine ⟨_, rfl, ?_⟩
          replace HB := Aside0.mk (below_step (by repeat (first | (with_reducible first | exact HB.out | apply ba_ | apply bn_ | apply b1_) | exact HB.out)) hb)
          (try clear hb)
          refine hK.out _ _ ⟨(pw_cell_below HB.out hw158_0), (pw_cell_below HB.out hw158_1), (pw_cell_below HB.out hw160_0), (pw_cell_below HB.out hw160_1), (pw_cell_below HB.out hw162_0), (pw_cell_below HB.out hw162_1), (pw_cell_below HB.out hw168_0), (pw_cell_below HB.out hw168_1)⟩ (fun hHeld => ?_)
          clear hK K
          refine norm_ (a' := ?_) ?_ ?_
          rotate_left
          ·show Act.put _ (some 15) _ = _
           simp only [Act.put, sa_, sz_, ss_, i64_w, i32_w]
           rfl
          refine pn_ HT_ 6 16 ?_ ?_ q4_7 rfl rfl (by kernel_rfl) (fun _ _ _ h => h) (by rfl) ?_ ?_ ?_
          rotate_left 2;(intro w';go_simp;with_reducible rfl);(simp only [Act.put, sa_, sz_, ss_, i64_w, i32_w];rfl)
          refine pn_ HT_ 7 17 ?_ ?_ q4_8 rfl rfl (by kernel_rfl) (fun _ _ _ h => h) (by rfl) ?_ ?_ ?_
          rotate_left 2;(intro w';go_simp;with_reducible rfl);(simp only [Act.put, sa_, sz_, ss_, i64_w, i32_w];rfl)
          refine pn_ HT_ 8 18 ?_ ?_ q4_9 rfl rfl (by kernel_rfl) (fun _ _ _ h => h) (by rfl) ?_ ?_ ?_
          rotate_left 2;(intro w';go_simp;with_reducible rfl);(simp only [Act.put, sa_, sz_, ss_, i64_w, i32_w];rfl)
          refine pn_ HT_ 9 19 ?_ ?_ q4_10 rfl rfl (by kernel_rfl) (fun _ _ _ h => h) (by rfl) ?_ ?_ ?_
          rotate_left 2;(intro w';go_simp;with_reducible rfl);(simp only [Act.put, sa_, sz_, ss_, i64_w, i32_w];rfl)
          refine pn_ HT_ 10 20 ?_ ?_ q4_11 rfl rfl (by kernel_rfl) (fun _ _ _ h => h) (by rfl) ?_ ?_ ?_
          rotate_left 2;(intro w';go_simp;with_reducible rfl);(simp only [Act.put, sa_, sz_, ss_, i64_w, i32_w];rfl)
          refine pn_ HT_ 11 21 ?_ ?_ q4_12 rfl rfl (by kernel_rfl) (fun _ _ _ h => h) (by rfl) ?_ ?_ ?_
          rotate_left 2;(intro w';go_simp;with_reducible rfl);(simp only [Act.put, sa_, sz_, ss_, i64_w, i32_w];rfl)
          refine tn_ HT_ HW_ 12 22 ?_ ?_ q4_13 rfl rfl (by kernel_rfl) (fun _ _ _ h => h) (by rfl) hHeld ?_ ?_ ?_
          rotate_left 2;(rintro w' ⟨s0, s1, s2, s3, s4, s5, s6, s7⟩;go_simp;with_reducible rfl);(simp only [Act.put, sa_, sz_, ss_, i64_w, i32_w];rfl)
          refine on_ HT_ 13 23 q4_14 rfl rfl (by kernel_rfl) (by decide) (fun K hK => ?_)
          refine goes_ Try.func119 (by kernel_rfl) rfl #[.string ((rd_T117 l0 x3_1).f0), .int .i64 1, .int .u8 61] (by rfl) rfl rfl (by (try simp only [List.map_toArray, List.map_cons, List.map_nil]); first | done | rfl | (simp only [List.length_drop, List.length_take]; rfl)) ?_
          with_reducible refine (spec_l4Find.calls k1 ((rd_T117 l0 x3_1).f0) 1 61 t161 _ A6.out).mono ?_
          rintro e w' ⟨rfl, ⟨nd, rfl⟩⟩
          refine ⟨_, rfl, ?_⟩
          refine hK.out _ _ ⟨(pw_cell_below HB.out hw158_0), (pw_cell_below HB.out hw158_1), (pw_cell_below HB.out hw160_0), (pw_cell_below HB.out hw160_1), (pw_cell_below HB.out hw162_0), (pw_cell_below HB.out hw162_1), (pw_cell_below HB.out hw168_0), (pw_cell_below HB.out hw168_1)⟩ (fun hHeld => ?_)
          clear hK K
          refine norm_ (a' := ?_) ?_ ?_
          rotate_left
          ·show Act.put _ (some 23) _ = _
           simp only [Act.put, sa_, sz_, ss_, i64_w, i32_w]
           rfl
          refine pn_ HT_ 14 24 ?_ ?_ q4_15 rfl rfl (by kernel_rfl) (fun _ _ _ h => h) (by rfl) ?_ ?_ ?_
          rotate_left 2;(intro w';go_simp;with_reducible rfl);(simp only [Act.put, sa_, sz_, ss_, i64_w, i32_w];rfl)
          refine pn_ HT_ 15 25 ?_ ?_ q4_16 rfl rfl (by kernel_rfl) (fun _ _ _ h => h) (by rfl) ?_ ?_ ?_
          rotate_left 2;(intro w';go_simp;with_reducible rfl);(simp only [Act.put, sa_, sz_, ss_, i64_w, i32_w];rfl)
          refine pn_ HT_ 16 26 ?_ ?_ q4_17 rfl rfl (by kernel_rfl) (fun _ _ _ h => h) (by rfl) ?_ ?_ ?_
          rotate_left 2;(intro w';go_simp;with_reducible rfl);(simp only [Act.put, sa_, sz_, ss_, i64_w, i32_w];rfl)
          refine pn_ HT_ 17 27 ?_ ?_ q4_18 rfl rfl (by kernel_rfl) (fun _ _ _ h => h) (by rfl) ?_ ?_ ?_
          rotate_left 2;(intro w';go_simp;with_reducible rfl);(simp only [Act.put, sa_, sz_, ss_, i64_w, i32_w];rfl)
          refine pn_ HT_ 18 28 ?_ ?_ q4_19 rfl rfl (by kernel_rfl) (fun _ _ _ h => h) (by rfl) ?_ ?_ ?_
          rotate_left 2;(intro w';go_simp;with_reducible rfl);(simp only [Act.put, sa_, sz_, ss_, i64_w, i32_w];rfl)
          refine pn_ HT_ 19 29 ?_ ?_ q4_20 rfl rfl (by kernel_rfl) (fun _ _ _ h => h) (by rfl) ?_ ?_ ?_
          rotate_left 2;(intro w';go_simp;with_reducible rfl);(simp only [Act.put, sa_, sz_, ss_, i64_w, i32_w];rfl)
          refine pn_ HT_ 20 30 ?_ ?_ q4_21 rfl rfl (by kernel_rfl) (fun _ _ _ h => h) (by rfl) ?_ ?_ ?_
          rotate_left 2;(intro w';go_simp;with_reducible rfl);(simp only [Act.put, sa_, sz_, ss_, i64_w, i32_w];rfl)
          refine tn_ HT_ HW_ 21 31 ?_ ?_ q4_22 rfl rfl (by kernel_rfl) (fun _ _ _ h => h) (by rfl) hHeld ?_ ?_ ?_
          rotate_left 2;(rintro w' ⟨s0, s1, s2, s3, s4, s5, s6, s7⟩;go_simp;with_reducible rfl);(simp only [Act.put, sa_, sz_, ss_, i64_w, i32_w];rfl)
          refine on_ HT_ 22 32 q4_23 rfl rfl (by kernel_rfl) (by decide) (fun K hK => ?_)
          refine goes_ Try.func113 (by kernel_rfl) rfl #[.string ((rd_T117 l0 x3_1).f1)] (by rfl) rfl rfl (by (try simp only [List.map_toArray, List.map_cons, List.map_nil]); first | done | rfl | (simp only [List.length_drop, List.length_take]; rfl)) ?_
          with_reducible refine (spec_l5Line.calls k1 ((rd_T117 l0 x3_1).f1) true _ A10.out).mono ?_
          rintro e w18 ⟨rfl, hb⟩
          refine ⟨_, rfl, ?_⟩
          replace HB := Aside0.mk (below_step (by repeat (first | (with_reducible first | exact HB.out | apply ba_ | apply bn_ | apply b1_) | exact HB.out)) hb)
          (try clear hb)
          have q19 : (x3_1 : Int) ≤ ((l0.length : Int) : Int) := dq_ (by assumption)
          obtain ⟨i019, hi019, _, hsz19, _⟩ := info_parts info117
          have hroom19 : l0.length ≤ c0 := HC0.out
          have hC19 : Kd.C k117 _ (some ad158) l0.length l0 := HR0.out
          have hcut19 := cut_to (P := Try.prog) 85 117 .i64 Try.underlying85 hi019 (some ad158) l0.length c0 x3_1 (dq_ (by assumption)) q19 hroom19
          have hr19 := Kd.C_take (m := (x3_1 : Int).toNat) hC19 (by omega)
          have hy19 : y164.length = (x3_1 : Int).toNat := (by rw [Ny164.out, List.length_take]; omega)
          rw [← Ny164.out] at hr19
          rw [← hy19] at hcut19
          have HR167 := Aside0.mk hr19
          have HC167 := Aside0.mk (show y164.length ≤ c0 from by omega)
          clear hr19 hC19 hroom19 hi019 hsz19
          have KY19 := Aside0.mk hy19
          clear hy19
          replace q19 := eq_true q19
          refine hK.out _ _ ⟨(pw_cell_below HB.out hw158_0), (pw_cell_below HB.out hw158_1), (pw_cell_below HB.out hw160_0), (pw_cell_below HB.out hw160_1), (pw_cell_below HB.out hw162_0), (pw_cell_below HB.out hw162_1), (pw_cell_below HB.out hw168_0), (pw_cell_below HB.out hw168_1)⟩ (fun hHeld => ?_)
          clear hK K
          refine norm_ (a' := ?_) ?_ ?_
          rotate_left
          ·show Act.put _ (some 32) _ = _
           simp only [Act.put, sa_, sz_, ss_, i64_w, i32_w]
           rfl
          refine pn_ HT_ 23 33 ?_ ?_ q4_24 rfl rfl (by kernel_rfl) (fun _ _ _ h => h) (by rfl) ?_ ?_ ?_
          rotate_left 2;(intro w';go_simp;with_reducible rfl);(simp only [Act.put, sa_, sz_, ss_, i64_w, i32_w];rfl)
          refine pn_ HT_ 24 34 ?_ ?_ q4_25 rfl rfl (by kernel_rfl) (fun _ _ _ h => h) (by rfl) ?_ ?_ ?_
          rotate_left 2;(intro w';go_simp;with_reducible rfl);(simp only [Act.put, sa_, sz_, ss_, i64_w, i32_w];rfl)
          refine pn_ HT_ 25 35 ?_ ?_ q4_26 rfl rfl (by kernel_rfl) (fun _ _ _ h => h) (by rfl) ?_ ?_ ?_
          rotate_left 2;(intro w';go_simp;with_reducible rfl);(simp only [Act.put, sa_, sz_, ss_, i64_w, i32_w];rfl)
          refine pn_ HT_ 26 36 ?_ ?_ q4_27 rfl rfl (by kernel_rfl) (fun _ _ _ h => h) (by rfl) ?_ ?_ ?_
          rotate_left 2;(intro w';go_simp;with_reducible rfl);(simp only [Act.put, sa_, sz_, ss_, i64_w, i32_w];rfl)
          refine pn_ HT_ 27 37 ?_ ?_ q4_28 rfl rfl (by kernel_rfl) (fun _ _ _ h => h) (by rfl) ?_ ?_ ?_
          rotate_left 2;(intro w';go_simp;with_reducible rfl);(simp only [Act.put, sa_, sz_, ss_, i64_w, i32_w];rfl)
          refine pn_ HT_ 28 38 ?_ ?_ q4_29 rfl rfl (by kernel_rfl) (fun _ _ _ h => h) (by rfl) ?_ ?_ ?_
          rotate_left 2;(intro w';go_simp;with_reducible rfl);(simp only [Act.put, sa_, sz_, ss_, i64_w, i32_w];rfl)
          refine pn_ HT_ 29 39 ?_ ?_ q4_30 rfl rfl (by kernel_rfl) (fun _ _ _ h => h) (by rfl) ?_ ?_ ?_
          rotate_left 2;(intro w';go_simp;with_reducible rfl);(simp only [Act.put, sa_, sz_, ss_, i64_w, i32_w];rfl)
          refine pn_ HT_ 30 40 ?_ ?_ q4_31 rfl rfl (by kernel_rfl) (fun _ _ _ h => h) (by rfl) ?_ ?_ ?_
          rotate_left 2;(intro w';go_simp;with_reducible rfl);(simp only [Act.put, sa_, sz_, ss_, i64_w, i32_w];rfl)
          refine pn_ HT_ 31 41 ?_ ?_ q4_32 rfl rfl (by kernel_rfl) (fun _ _ _ h => h) (by rfl) ?_ ?_ ?_
          rotate_left 2;(intro w';go_simp;with_reducible rfl);(simp only [Act.put, sa_, sz_, ss_, i64_w, i32_w];rfl)
          refine pn_ HT_ 32 42 ?_ ?_ q4_33 rfl rfl (by kernel_rfl) (fun _ _ _ h => h) (by rfl) ?_ ?_ ?_
          rotate_left 2;(intro w';go_simp;with_reducible rfl);(simp only [Act.put, sa_, sz_, ss_, i64_w, i32_w];rfl)
          refine tn_ HT_ HW_ 33 43 ?_ ?_ q4_34 rfl rfl (by kernel_rfl) (fun _ _ _ h => h) (by rfl) hHeld ?_ ?_ ?_
          rotate_left 2;(rintro w' ⟨s0, s1, s2, s3, s4, s5, s6, s7⟩;go_simp;with_reducible rfl);(simp only [Act.put, sa_, sz_, ss_, i64_w, i32_w];rfl)
          refine on_ HT_ 34 44 q4_35 rfl rfl (by kernel_rfl) (by decide) (fun K hK => ?_)
          refine goes_ Try.func137 (by kernel_rfl) rfl #[.slice (some ad158) y164.length c0, .string ((rd_T117 l0 x3_1).f0)] (by rfl) rfl rfl (by (try simp only [List.map_toArray, List.map_cons, List.map_nil]); first | done | rfl | (simp only [List.length_drop, List.length_take]; rfl)) ?_
          with_reducible refine (spec_l4Has.calls k1 _ _ y164 ((rd_T117 l0 x3_1).f0) true _ ?side1 ?side2 A14.out).mono ?_
          (case side1 => repeat (first | exact (Kd.C_below HR167.out HB.out) | (with_reducible refine ca_ ?_ _) | (with_reducible refine cn_ ?_ _) | (with_reducible refine cd_ ?_)))
          (case side2 => exact HC167.out)
          rintro e w' ⟨rfl, ⟨nd, rfl⟩⟩
          refine ⟨_, rfl, ?_⟩
          refine hK.out _ _ ⟨(pw_cell_below HB.out hw158_0), (pw_cell_below HB.out hw158_1), (pw_cell_below HB.out hw160_0), (pw_cell_below HB.out hw160_1), (pw_cell_below HB.out hw162_0), (pw_cell_below HB.out hw162_1), (pw_cell_below HB.out hw168_0), (pw_cell_below HB.out hw168_1)⟩ (fun hHeld => ?_)
          clear hK K
          refine norm_ (a' := ?_) ?_ ?_
          rotate_left
          ·show Act.put _ (some 44) _ = _
           simp only [Act.put, sa_, sz_, ss_, i64_w, i32_w]
           rfl
          refine pn_ HT_ 35 45 ?_ ?_ q4_36 rfl rfl (by kernel_rfl) (fun _ _ _ h => h) (by rfl) ?_ ?_ ?_
          rotate_left 2;(intro w';go_simp;with_reducible rfl);(simp only [Act.put, sa_, sz_, ss_, i64_w, i32_w];rfl)
          refine done_ (done_of HT_.out (by kernel_rfl)) ?_
          try go_wp2
          go_ret
          exact ⟨by first | rfl | (simp [errW_none, errW_some] <;> rfl) | (simp [*, errW_none, errW_some] <;> rfl), by repeat (first | (with_reducible first | exact HB.out | apply ba_ | apply bn_ | apply b1_) | exact HB.out)⟩
         ·replace c15 := Bool.eq_false_iff.mpr c15
          subst c15
          have H1 : (spec_l5Attrs.l0 k1 l0 (wrap64 (x3_1 + 1))) = some r := by rw [if_neg (show ¬ (false = true) by decide)] at H; exact H
          clear H
          have H := H1
          clear H1
          have H' := Aside0.mk H
          clear H
          try go_wp2
          replace HB := Aside0.mk (b1_ HB.out)
          have p158 : 0 ≤ (x3_1 : Int) := dq_ (by assumption)
          have q158 : x3_1 < (l0.length : Int) := dq_ (by assumption)
          obtain ⟨ad158, e158, hx158_0, hx158_1⟩ := at_T117 HR0.out x3_1 p158 q158
          have hw158_1 := hx158_1
          have hw158_0 := hx158_0
          cases e158
          replace hx158_0 := pw_cell_below HB.out hx158_0
          replace hx158_1 := pw_cell_below HB.out hx158_1
          replace p158 := eq_true p158
          replace q158 := eq_true q158
          have p160 : 0 ≤ (x3_1 : Int) := dq_ (by assumption)
          have q160 : x3_1 < (l0.length : Int) := dq_ (by assumption)
          obtain ⟨ad160, e160, hx160_0, hx160_1⟩ := at_T117 HR0.out x3_1 p160 q160
          have hw160_1 := hx160_1
          have hw160_0 := hx160_0
          obtain rfl : ad158 = ad160 := (by injection e160)
          replace hx160_0 := pw_cell_below HB.out hx160_0
          replace hx160_1 := pw_cell_below HB.out hx160_1
          replace p160 := eq_true p160
          replace q160 := eq_true q160
          have p162 : 0 ≤ (x3_1 : Int) := dq_ (by assumption)
          have q162 : x3_1 < (l0.length : Int) := dq_ (by assumption)
          obtain ⟨ad162, e162, hx162_0, hx162_1⟩ := at_T117 HR0.out x3_1 p162 q162
          have hw162_1 := hx162_1
          have hw162_0 := hx162_0
          obtain rfl : ad158 = ad162 := (by injection e162)
          replace hx162_0 := pw_cell_below HB.out hx162_0
          replace hx162_1 := pw_cell_below HB.out hx162_1
          replace p162 := eq_true p162
          replace q162 := eq_true q162
          have p168 : 0 ≤ (x3_1 : Int) := dq_ (by assumption)
          have q168 : x3_1 < (l0.length : Int) := dq_ (by assumption)
          obtain ⟨ad168, e168, hx168_0, hx168_1⟩ := at_T117 HR0.out x3_1 p168 q168
          have hw168_1 := hx168_1
          have hw168_0 := hx168_0
          obtain rfl : ad158 = ad168 := (by injection e168)
          replace hx168_0 := pw_cell_below HB.out hx168_0
          replace hx168_1 := pw_cell_below HB.out hx168_1
          replace p168 := eq_true p168
          replace q168 := eq_true q168
          refine start_ (n := 36) (S := fun w' => w'.cell? (ad158.add ((x3_1).toNat * 2)) = some (.string ((rd_T117 l0 x3_1).f0)) ∧ w'.cell? ⟨(ad158.add ((x3_1).toNat * 2)).block, (ad158.add ((x3_1).toNat * 2)).off + 1, none⟩ = some (.string ((rd_T117 l0 x3_1).f1)) ∧ w'.cell? (ad158.add ((x3_1).toNat * 2)) = some (.string ((rd_T117 l0 x3_1).f0)) ∧ w'.cell? ⟨(ad158.add ((x3_1).toNat * 2)).block, (ad158.add ((x3_1).toNat * 2)).off + 1, none⟩ = some (.string ((rd_T117 l0 x3_1).f1)) ∧ w'.cell? (ad158.add ((x3_1).toNat * 2)) = some (.string ((rd_T117 l0 x3_1).f0)) ∧ w'.cell? ⟨(ad158.add ((x3_1).toNat * 2)).block, (ad158.add ((x3_1).toNat * 2)).off + 1, none⟩ = some (.string ((rd_T117 l0 x3_1).f1)) ∧ w'.cell? (ad158.add ((x3_1).toNat * 2)) = some (.string ((rd_T117 l0 x3_1).f0)) ∧ w'.cell? ⟨(ad158.add ((x3_1).toNat * 2)).block, (ad158.add ((x3_1).toNat * 2)).off + 1, none⟩ = some (.string ((rd_T117 l0 x3_1).f1))) (ds := []) q4_0 (by kernel_rfl) rfl rfl ⟨(pw_cell_below HB.out hw158_0), (pw_cell_below HB.out hw158_1), (pw_cell_below HB.out hw160_0), (pw_cell_below HB.out hw160_1), (pw_cell_below HB.out hw162_0), (pw_cell_below HB.out hw162_1), (pw_cell_below HB.out hw168_0), (pw_cell_below HB.out hw168_1)⟩ (fun hHeld => ?_); refine with_tabW spec_l5Attrs.tab4 spec_l5Attrs.bits4 (fun HT_ HW_ => ?_)
          generalize wr.drew = w20 at HB hx158_0 hx158_1 hx160_0 hx160_1 hx162_0 hx162_1 hx168_0 hx168_1 hHeld ⊢
          refine pn_ HT_ 0 10 ?_ ?_ q4_1 rfl rfl (by kernel_rfl) (fun _ _ _ h => h) (by rfl) ?_ ?_ ?_
          rotate_left 2;(intro w';go_simp;with_reducible rfl);(simp only [Act.put, sa_, sz_, ss_, i64_w, i32_w];rfl)
          refine pn_ HT_ 1 11 ?_ ?_ q4_2 rfl rfl (by kernel_rfl) (fun _ _ _ h => h) (by rfl) ?_ ?_ ?_
          rotate_left 2;(intro w';go_simp;with_reducible rfl);(simp only [Act.put, sa_, sz_, ss_, i64_w, i32_w];rfl)
          refine pn_ HT_ 2 12 ?_ ?_ q4_3 rfl rfl (by kernel_rfl) (fun _ _ _ h => h) (by rfl) ?_ ?_ ?_
          rotate_left 2;(intro w';go_simp;with_reducible rfl);(simp only [Act.put, sa_, sz_, ss_, i64_w, i32_w];rfl)
          refine pn_ HT_ 3 13 ?_ ?_ q4_4 rfl rfl (by kernel_rfl) (fun _ _ _ h => h) (by rfl) ?_ ?_ ?_
          rotate_left 2;(intro w';go_simp;with_reducible rfl);(simp only [Act.put, sa_, sz_, ss_, i64_w, i32_w];rfl)
          refine tn_ HT_ HW_ 4 14 ?_ ?_ q4_5 rfl rfl (by kernel_rfl) (fun _ _ _ h => h) (by rfl) hHeld ?_ ?_ ?_
          rotate_left 2;(rintro w' ⟨s0, s1, s2, s3, s4, s5, s6, s7⟩;go_simp;with_reducible rfl);(simp only [Act.put, sa_, sz_, ss_, i64_w, i32_w];rfl)
          refine on_ HT_ 5 15 q4_6 rfl rfl (by kernel_rfl) (by decide) (fun K hK => ?_)
          refine goes_ Try.func114 (by kernel_rfl) rfl #[.string ((rd_T117 l0 x3_1).f0), .string (⟨#[47, 62]⟩ : ByteArray)] (by rfl) rfl rfl (by (try simp only [List.map_toArray, List.map_cons, List.map_nil]); first | done | rfl | (simp only [List.length_drop, List.length_take]; rfl)) ?_
          with_reducible refine (spec_l5Name.calls k1 ((rd_T117 l0 x3_1).f0) (⟨#[47, 62]⟩ : ByteArray) true _ A4.out).mono ?_
          rintro e w21 ⟨rfl, hb⟩
          refine ⟨_, rfl, ?_⟩
          replace HB := Aside0.mk (below_step (by repeat (first | (with_reducible first | exact HB.out | apply ba_ | apply bn_ | apply b1_) | exact HB.out)) hb)
          (try clear hb)
          refine hK.out _ _ ⟨(pw_cell_below HB.out hw158_0), (pw_cell_below HB.out hw158_1), (pw_cell_below HB.out hw160_0), (pw_cell_below HB.out hw160_1), (pw_cell_below HB.out hw162_0), (pw_cell_below HB.out hw162_1), (pw_cell_below HB.out hw168_0), (pw_cell_below HB.out hw168_1)⟩ (fun hHeld => ?_)
          clear hK K
          refine norm_ (a' := ?_) ?_ ?_
          rotate_left
          ·show Act.put _ (some 15) _ = _
           simp only [Act.put, sa_, sz_, ss_, i64_w, i32_w]
           rfl
          refine pn_ HT_ 6 16 ?_ ?_ q4_7 rfl rfl (by kernel_rfl) (fun _ _ _ h => h) (by rfl) ?_ ?_ ?_
          rotate_left 2;(intro w';go_simp;with_reducible rfl);(simp only [Act.put, sa_, sz_, ss_, i64_w, i32_w];rfl)
          refine pn_ HT_ 7 17 ?_ ?_ q4_8 rfl rfl (by kernel_rfl) (fun _ _ _ h => h) (by rfl) ?_ ?_ ?_
          rotate_left 2;(intro w';go_simp;with_reducible rfl);(simp only [Act.put, sa_, sz_, ss_, i64_w, i32_w];rfl)
          refine pn_ HT_ 8 18 ?_ ?_ q4_9 rfl rfl (by kernel_rfl) (fun _ _ _ h => h) (by rfl) ?_ ?_ ?_
          rotate_left 2;(intro w';go_simp;with_reducible rfl);(simp only [Act.put, sa_, sz_, ss_, i64_w, i32_w];rfl)
          refine pn_ HT_ 9 19 ?_ ?_ q4_10 rfl rfl (by kernel_rfl) (fun _ _ _ h => h) (by rfl) ?_ ?_ ?_
          rotate_left 2;(intro w';go_simp;with_reducible rfl);(simp only [Act.put, sa_, sz_, ss_, i64_w, i32_w];rfl)
          refine pn_ HT_ 10 20 ?_ ?_ q4_11 rfl rfl (by kernel_rfl) (fun _ _ _ h => h) (by rfl) ?_ ?_ ?_
          rotate_left 2;(intro w';go_simp;with_reducible rfl);(simp only [Act.put, sa_, sz_, ss_, i64_w, i32_w];rfl)
          refine pn_ HT_ 11 21 ?_ ?_ q4_12 rfl rfl (by kernel_rfl) (fun _ _ _ h => h) (by rfl) ?_ ?_ ?_
          rotate_left 2;(intro w';go_simp;with_reducible rfl);(simp only [Act.put, sa_, sz_, ss_, i64_w, i32_w];rfl)
          refine tn_ HT_ HW_ 12 22 ?_ ?_ q4_13 rfl rfl (by kernel_rfl) (fun _ _ _ h => h) (by rfl) hHeld ?_ ?_ ?_
          rotate_left 2;(rintro w' ⟨s0, s1, s2, s3, s4, s5, s6, s7⟩;go_simp;with_reducible rfl);(simp only [Act.put, sa_, sz_, ss_, i64_w, i32_w];rfl)
          refine on_ HT_ 13 23 q4_14 rfl rfl (by kernel_rfl) (by decide) (fun K hK => ?_)
          refine goes_ Try.func119 (by kernel_rfl) rfl #[.string ((rd_T117 l0 x3_1).f0), .int .i64 1, .int .u8 61] (by rfl) rfl rfl (by (try simp only [List.map_toArray, List.map_cons, List.map_nil]); first | done | rfl | (simp only [List.length_drop, List.length_take]; rfl)) ?_
          with_reducible refine (spec_l4Find.calls k1 ((rd_T117 l0 x3_1).f0) 1 61 t161 _ A6.out).mono ?_
          rintro e w' ⟨rfl, ⟨nd, rfl⟩⟩
          refine ⟨_, rfl, ?_⟩
          refine hK.out _ _ ⟨(pw_cell_below HB.out hw158_0), (pw_cell_below HB.out hw158_1), (pw_cell_below HB.out hw160_0), (pw_cell_below HB.out hw160_1), (pw_cell_below HB.out hw162_0), (pw_cell_below HB.out hw162_1), (pw_cell_below HB.out hw168_0), (pw_cell_below HB.out hw168_1)⟩ (fun hHeld => ?_)
          clear hK K
          refine norm_ (a' := ?_) ?_ ?_
          rotate_left
          ·show Act.put _ (some 23) _ = _
           simp only [Act.put, sa_, sz_, ss_, i64_w, i32_w]
           rfl
          refine pn_ HT_ 14 24 ?_ ?_ q4_15 rfl rfl (by kernel_rfl) (fun _ _ _ h => h) (by rfl) ?_ ?_ ?_
          rotate_left 2;(intro w';go_simp;with_reducible rfl);(simp only [Act.put, sa_, sz_, ss_, i64_w, i32_w];rfl)
          refine pn_ HT_ 15 25 ?_ ?_ q4_16 rfl rfl (by kernel_rfl) (fun _ _ _ h => h) (by rfl) ?_ ?_ ?_
          rotate_left 2;(intro w';go_simp;with_reducible rfl);(simp only [Act.put, sa_, sz_, ss_, i64_w, i32_w];rfl)
          refine pn_ HT_ 16 26 ?_ ?_ q4_17 rfl rfl (by kernel_rfl) (fun _ _ _ h => h) (by rfl) ?_ ?_ ?_
          rotate_left 2;(intro w';go_simp;with_reducible rfl);(simp only [Act.put, sa_, sz_, ss_, i64_w, i32_w];rfl)
          refine pn_ HT_ 17 27 ?_ ?_ q4_18 rfl rfl (by kernel_rfl) (fun _ _ _ h => h) (by rfl) ?_ ?_ ?_
          rotate_left 2;(intro w';go_simp;with_reducible rfl);(simp only [Act.put, sa_, sz_, ss_, i64_w, i32_w];rfl)
          refine pn_ HT_ 18 28 ?_ ?_ q4_19 rfl rfl (by kernel_rfl) (fun _ _ _ h => h) (by rfl) ?_ ?_ ?_
          rotate_left 2;(intro w';go_simp;with_reducible rfl);(simp only [Act.put, sa_, sz_, ss_, i64_w, i32_w];rfl)
          refine pn_ HT_ 19 29 ?_ ?_ q4_20 rfl rfl (by kernel_rfl) (fun _ _ _ h => h) (by rfl) ?_ ?_ ?_
          rotate_left 2;(intro w';go_simp;with_reducible rfl);(simp only [Act.put, sa_, sz_, ss_, i64_w, i32_w];rfl)
          refine pn_ HT_ 20 30 ?_ ?_ q4_21 rfl rfl (by kernel_rfl) (fun _ _ _ h => h) (by rfl) ?_ ?_ ?_
          rotate_left 2;(intro w';go_simp;with_reducible rfl);(simp only [Act.put, sa_, sz_, ss_, i64_w, i32_w];rfl)
          refine tn_ HT_ HW_ 21 31 ?_ ?_ q4_22 rfl rfl (by kernel_rfl) (fun _ _ _ h => h) (by rfl) hHeld ?_ ?_ ?_
          rotate_left 2;(rintro w' ⟨s0, s1, s2, s3, s4, s5, s6, s7⟩;go_simp;with_reducible rfl);(simp only [Act.put, sa_, sz_, ss_, i64_w, i32_w];rfl)
          refine on_ HT_ 22 32 q4_23 rfl rfl (by kernel_rfl) (by decide) (fun K hK => ?_)
          refine goes_ Try.func113 (by kernel_rfl) rfl #[.string ((rd_T117 l0 x3_1).f1)] (by rfl) rfl rfl (by (try simp only [List.map_toArray, List.map_cons, List.map_nil]); first | done | rfl | (simp only [List.length_drop, List.length_take]; rfl)) ?_
          with_reducible refine (spec_l5Line.calls k1 ((rd_T117 l0 x3_1).f1) true _ A10.out).mono ?_
          rintro e w22 ⟨rfl, hb⟩
          refine ⟨_, rfl, ?_⟩
          replace HB := Aside0.mk (below_step (by repeat (first | (with_reducible first | exact HB.out | apply ba_ | apply bn_ | apply b1_) | exact HB.out)) hb)
          (try clear hb)
          have q23 : (x3_1 : Int) ≤ ((l0.length : Int) : Int) := dq_ (by assumption)
          obtain ⟨i023, hi023, _, hsz23, _⟩ := info_parts info117
          have hroom23 : l0.length ≤ c0 := HC0.out
          have hC23 : Kd.C k117 _ (some ad158) l0.length l0 := HR0.out
          have hcut23 := cut_to (P := Try.prog) 85 117 .i64 Try.underlying85 hi023 (some ad158) l0.length c0 x3_1 (dq_ (by assumption)) q23 hroom23
          have hr23 := Kd.C_take (m := (x3_1 : Int).toNat) hC23 (by omega)
          have hy23 : y164.length = (x3_1 : Int).toNat := (by rw [Ny164.out, List.length_take]; omega)
          rw [← Ny164.out] at hr23
          rw [← hy23] at hcut23
          have HR167 := Aside0.mk hr23
          have HC167 := Aside0.mk (show y164.length ≤ c0 from by omega)
          clear hr23 hC23 hroom23 hi023 hsz23
          have KY23 := Aside0.mk hy23
          clear hy23
          replace q23 := eq_true q23
          refine hK.out _ _ ⟨(pw_cell_below HB.out hw158_0), (pw_cell_below HB.out hw158_1), (pw_cell_below HB.out hw160_0), (pw_cell_below HB.out hw160_1), (pw_cell_below HB.out hw162_0), (pw_cell_below HB.out hw162_1), (pw_cell_below HB.out hw168_0), (pw_cell_below HB.out hw168_1)⟩ (fun hHeld => ?_)
          clear hK K
          refine norm_ (a' := ?_) ?_ ?_
          rotate_left
          ·show Act.put _ (some 32) _ = _
           simp only [Act.put, sa_, sz_, ss_, i64_w, i32_w]
           rfl
          refine pn_ HT_ 23 33 ?_ ?_ q4_24 rfl rfl (by kernel_rfl) (fun _ _ _ h => h) (by rfl) ?_ ?_ ?_
          rotate_left 2;(intro w';go_simp;with_reducible rfl);(simp only [Act.put, sa_, sz_, ss_, i64_w, i32_w];rfl)
          refine pn_ HT_ 24 34 ?_ ?_ q4_25 rfl rfl (by kernel_rfl) (fun _ _ _ h => h) (by rfl) ?_ ?_ ?_
          rotate_left 2;(intro w';go_simp;with_reducible rfl);(simp only [Act.put, sa_, sz_, ss_, i64_w, i32_w];rfl)
          refine pn_ HT_ 25 35 ?_ ?_ q4_26 rfl rfl (by kernel_rfl) (fun _ _ _ h => h) (by rfl) ?_ ?_ ?_
          rotate_left 2;(intro w';go_simp;with_reducible rfl);(simp only [Act.put, sa_, sz_, ss_, i64_w, i32_w];rfl)
          refine pn_ HT_ 26 36 ?_ ?_ q4_27 rfl rfl (by kernel_rfl) (fun _ _ _ h => h) (by rfl) ?_ ?_ ?_
          rotate_left 2;(intro w';go_simp;with_reducible rfl);(simp only [Act.put, sa_, sz_, ss_, i64_w, i32_w];rfl)
          refine pn_ HT_ 27 37 ?_ ?_ q4_28 rfl rfl (by kernel_rfl) (fun _ _ _ h => h) (by rfl) ?_ ?_ ?_
          rotate_left 2;(intro w';go_simp;with_reducible rfl);(simp only [Act.put, sa_, sz_, ss_, i64_w, i32_w];rfl)
          refine pn_ HT_ 28 38 ?_ ?_ q4_29 rfl rfl (by kernel_rfl) (fun _ _ _ h => h) (by rfl) ?_ ?_ ?_
          rotate_left 2;(intro w';go_simp;with_reducible rfl);(simp only [Act.put, sa_, sz_, ss_, i64_w, i32_w];rfl)
          refine pn_ HT_ 29 39 ?_ ?_ q4_30 rfl rfl (by kernel_rfl) (fun _ _ _ h => h) (by rfl) ?_ ?_ ?_
          rotate_left 2;(intro w';go_simp;with_reducible rfl);(simp only [Act.put, sa_, sz_, ss_, i64_w, i32_w];rfl)
          refine pn_ HT_ 30 40 ?_ ?_ q4_31 rfl rfl (by kernel_rfl) (fun _ _ _ h => h) (by rfl) ?_ ?_ ?_
          rotate_left 2;(intro w';go_simp;with_reducible rfl);(simp only [Act.put, sa_, sz_, ss_, i64_w, i32_w];rfl)
          refine pn_ HT_ 31 41 ?_ ?_ q4_32 rfl rfl (by kernel_rfl) (fun _ _ _ h => h) (by rfl) ?_ ?_ ?_
          rotate_left 2;(intro w';go_simp;with_reducible rfl);(simp only [Act.put, sa_, sz_, ss_, i64_w, i32_w];rfl)
          refine pn_ HT_ 32 42 ?_ ?_ q4_33 rfl rfl (by kernel_rfl) (fun _ _ _ h => h) (by rfl) ?_ ?_ ?_
          rotate_left 2;(intro w';go_simp;with_reducible rfl);(simp only [Act.put, sa_, sz_, ss_, i64_w, i32_w];rfl)
          refine tn_ HT_ HW_ 33 43 ?_ ?_ q4_34 rfl rfl (by kernel_rfl) (fun _ _ _ h => h) (by rfl) hHeld ?_ ?_ ?_
          rotate_left 2;(rintro w' ⟨s0, s1, s2, s3, s4, s5, s6, s7⟩;go_simp;with_reducible rfl);(simp only [Act.put, sa_, sz_, ss_, i64_w, i32_w];rfl)
          refine on_ HT_ 34 44 q4_35 rfl rfl (by kernel_rfl) (by decide) (fun K hK => ?_)
          refine goes_ Try.func137 (by kernel_rfl) rfl #[.slice (some ad158) y164.length c0, .string ((rd_T117 l0 x3_1).f0)] (by rfl) rfl rfl (by (try simp only [List.map_toArray, List.map_cons, List.map_nil]); first | done | rfl | (simp only [List.length_drop, List.length_take]; rfl)) ?_
          with_reducible refine (spec_l4Has.calls k1 _ _ y164 ((rd_T117 l0 x3_1).f0) false _ ?side1 ?side2 A14.out).mono ?_
          (case side1 => repeat (first | exact (Kd.C_below HR167.out HB.out) | (with_reducible refine ca_ ?_ _) | (with_reducible refine cn_ ?_ _) | (with_reducible refine cd_ ?_)))
          (case side2 => exact HC167.out)
          rintro e w' ⟨rfl, ⟨nd, rfl⟩⟩
          refine ⟨_, rfl, ?_⟩
          refine hK.out _ _ ⟨(pw_cell_below HB.out hw158_0), (pw_cell_below HB.out hw158_1), (pw_cell_below HB.out hw160_0), (pw_cell_below HB.out hw160_1), (pw_cell_below HB.out hw162_0), (pw_cell_below HB.out hw162_1), (pw_cell_below HB.out hw168_0), (pw_cell_below HB.out hw168_1)⟩ (fun hHeld => ?_)
          clear hK K
          refine norm_ (a' := ?_) ?_ ?_
          rotate_left
          ·show Act.put _ (some 44) _ = _
           simp only [Act.put, sa_, sz_, ss_, i64_w, i32_w]
           rfl
          refine pn_ HT_ 35 45 ?_ ?_ q4_36 rfl rfl (by kernel_rfl) (fun _ _ _ h => h) (by rfl) ?_ ?_ ?_
          rotate_left 2;(intro w';go_simp;with_reducible rfl);(simp only [Act.put, sa_, sz_, ss_, i64_w, i32_w];rfl)
          refine done_ (done_of HT_.out (by kernel_rfl)) ?_
          try go_wp2
          go_roundg k1
          case measure => have := HK1.out; omega
          case rel => exact ⟨(wrap64 (x3_1 + 1)), (by first | rfl | (simp; done) | (simp [*]; done)), H', ⟨by have := HK1.out; omega⟩, ⟨by repeat (first | (with_reducible first | exact HB.out | apply ba_ | apply bn_ | apply b1_) | exact HB.out)⟩⟩
        ·rw [if_neg c13] at H
         exact absurd H (by simp)
       ·replace c11 := Bool.eq_false_iff.mpr c11
        subst c11
        have H1 : (some false) = some r := by rw [if_neg (show ¬ (false = true) by decide)] at H; exact H
        clear H
        have H := H1
        clear H1
        obtain rfl := Option.some.inj H
        try go_wp2
        replace HB := Aside0.mk (b1_ HB.out)
        have p158 : 0 ≤ (x3_1 : Int) := dq_ (by assumption)
        have q158 : x3_1 < (l0.length : Int) := dq_ (by assumption)
        obtain ⟨ad158, e158, hx158_0, hx158_1⟩ := at_T117 HR0.out x3_1 p158 q158
        have hw158_1 := hx158_1
        have hw158_0 := hx158_0
        cases e158
        replace hx158_0 := pw_cell_below HB.out hx158_0
        replace hx158_1 := pw_cell_below HB.out hx158_1
        replace p158 := eq_true p158
        replace q158 := eq_true q158
        have p160 : 0 ≤ (x3_1 : Int) := dq_ (by assumption)
        have q160 : x3_1 < (l0.length : Int) := dq_ (by assumption)
        obtain ⟨ad160, e160, hx160_0, hx160_1⟩ := at_T117 HR0.out x3_1 p160 q160
        have hw160_1 := hx160_1
        have hw160_0 := hx160_0
        obtain rfl : ad158 = ad160 := (by injection e160)
        replace hx160_0 := pw_cell_below HB.out hx160_0
        replace hx160_1 := pw_cell_below HB.out hx160_1
        replace p160 := eq_true p160
        replace q160 := eq_true q160
        have p162 : 0 ≤ (x3_1 : Int) := dq_ (by assumption)
        have q162 : x3_1 < (l0.length : Int) := dq_ (by assumption)
        obtain ⟨ad162, e162, hx162_0, hx162_1⟩ := at_T117 HR0.out x3_1 p162 q162
        have hw162_1 := hx162_1
        have hw162_0 := hx162_0
        obtain rfl : ad158 = ad162 := (by injection e162)
        replace hx162_0 := pw_cell_below HB.out hx162_0
        replace hx162_1 := pw_cell_below HB.out hx162_1
        replace p162 := eq_true p162
        replace q162 := eq_true q162
        refine start_ (n := 36) (S := fun w' => w'.cell? (ad158.add ((x3_1).toNat * 2)) = some (.string ((rd_T117 l0 x3_1).f0)) ∧ w'.cell? ⟨(ad158.add ((x3_1).toNat * 2)).block, (ad158.add ((x3_1).toNat * 2)).off + 1, none⟩ = some (.string ((rd_T117 l0 x3_1).f1)) ∧ w'.cell? (ad158.add ((x3_1).toNat * 2)) = some (.string ((rd_T117 l0 x3_1).f0)) ∧ w'.cell? ⟨(ad158.add ((x3_1).toNat * 2)).block, (ad158.add ((x3_1).toNat * 2)).off + 1, none⟩ = some (.string ((rd_T117 l0 x3_1).f1)) ∧ w'.cell? (ad158.add ((x3_1).toNat * 2)) = some (.string ((rd_T117 l0 x3_1).f0)) ∧ w'.cell? ⟨(ad158.add ((x3_1).toNat * 2)).block, (ad158.add ((x3_1).toNat * 2)).off + 1, none⟩ = some (.string ((rd_T117 l0 x3_1).f1))) (ds := []) q4_0 (by kernel_rfl) rfl rfl ⟨(pw_cell_below HB.out hw158_0), (pw_cell_below HB.out hw158_1), (pw_cell_below HB.out hw160_0), (pw_cell_below HB.out hw160_1), (pw_cell_below HB.out hw162_0), (pw_cell_below HB.out hw162_1)⟩ (fun hHeld => ?_); refine with_tabW spec_l5Attrs.tab4 spec_l5Attrs.bits4 (fun HT_ HW_ => ?_)
        generalize wr.drew = w24 at HB hx158_0 hx158_1 hx160_0 hx160_1 hx162_0 hx162_1 hHeld ⊢
        refine pn_ HT_ 0 10 ?_ ?_ q4_1 rfl rfl (by kernel_rfl) (fun _ _ _ h => h) (by rfl) ?_ ?_ ?_
        rotate_left 2;(intro w';go_simp;with_reducible rfl);(simp only [Act.put, sa_, sz_, ss_, i64_w, i32_w];rfl)
        refine pn_ HT_ 1 11 ?_ ?_ q4_2 rfl rfl (by kernel_rfl) (fun _ _ _ h => h) (by rfl) ?_ ?_ ?_
        rotate_left 2;(intro w';go_simp;with_reducible rfl);(simp only [Act.put, sa_, sz_, ss_, i64_w, i32_w];rfl)
        refine pn_ HT_ 2 12 ?_ ?_ q4_3 rfl rfl (by kernel_rfl) (fun _ _ _ h => h) (by rfl) ?_ ?_ ?_
        rotate_left 2;(intro w';go_simp;with_reducible rfl);(simp only [Act.put, sa_, sz_, ss_, i64_w, i32_w];rfl)
        refine pn_ HT_ 3 13 ?_ ?_ q4_4 rfl rfl (by kernel_rfl) (fun _ _ _ h => h) (by rfl) ?_ ?_ ?_
        rotate_left 2;(intro w';go_simp;with_reducible rfl);(simp only [Act.put, sa_, sz_, ss_, i64_w, i32_w];rfl)
        refine tn_ HT_ HW_ 4 14 ?_ ?_ q4_5 rfl rfl (by kernel_rfl) (fun _ _ _ h => h) (by rfl) hHeld ?_ ?_ ?_
        rotate_left 2;(rintro w' ⟨s0, s1, s2, s3, s4, s5⟩;go_simp;with_reducible rfl);(simp only [Act.put, sa_, sz_, ss_, i64_w, i32_w];rfl)
        refine on_ HT_ 5 15 q4_6 rfl rfl (by kernel_rfl) (by decide) (fun K hK => ?_)
        refine goes_ Try.func114 (by kernel_rfl) rfl #[.string ((rd_T117 l0 x3_1).f0), .string (⟨#[47, 62]⟩ : ByteArray)] (by rfl) rfl rfl (by (try simp only [List.map_toArray, List.map_cons, List.map_nil]); first | done | rfl | (simp only [List.length_drop, List.length_take]; rfl)) ?_
        with_reducible refine (spec_l5Name.calls k1 ((rd_T117 l0 x3_1).f0) (⟨#[47, 62]⟩ : ByteArray) true _ A4.out).mono ?_
        rintro e w25 ⟨rfl, hb⟩
        refine ⟨_, rfl, ?_⟩
        replace HB := Aside0.mk (below_step (by repeat (first | (with_reducible first | exact HB.out | apply ba_ | apply bn_ | apply b1_) | exact HB.out)) hb)
        (try clear hb)
        refine hK.out _ _ ⟨(pw_cell_below HB.out hw158_0), (pw_cell_below HB.out hw158_1), (pw_cell_below HB.out hw160_0), (pw_cell_below HB.out hw160_1), (pw_cell_below HB.out hw162_0), (pw_cell_below HB.out hw162_1)⟩ (fun hHeld => ?_)
        clear hK K
        refine norm_ (a' := ?_) ?_ ?_
        rotate_left
        ·show Act.put _ (some 15) _ = _
         simp only [Act.put, sa_, sz_, ss_, i64_w, i32_w]
         rfl
        refine pn_ HT_ 6 16 ?_ ?_ q4_7 rfl rfl (by kernel_rfl) (fun _ _ _ h => h) (by rfl) ?_ ?_ ?_
        rotate_left 2;(intro w';go_simp;with_reducible rfl);(simp only [Act.put, sa_, sz_, ss_, i64_w, i32_w];rfl)
        refine pn_ HT_ 7 17 ?_ ?_ q4_8 rfl rfl (by kernel_rfl) (fun _ _ _ h => h) (by rfl) ?_ ?_ ?_
        rotate_left 2;(intro w';go_simp;with_reducible rfl);(simp only [Act.put, sa_, sz_, ss_, i64_w, i32_w];rfl)
        refine pn_ HT_ 8 18 ?_ ?_ q4_9 rfl rfl (by kernel_rfl) (fun _ _ _ h => h) (by rfl) ?_ ?_ ?_
        rotate_left 2;(intro w';go_simp;with_reducible rfl);(simp only [Act.put, sa_, sz_, ss_, i64_w, i32_w];rfl)
        refine pn_ HT_ 9 19 ?_ ?_ q4_10 rfl rfl (by kernel_rfl) (fun _ _ _ h => h) (by rfl) ?_ ?_ ?_
        rotate_left 2;(intro w';go_simp;with_reducible rfl);(simp only [Act.put, sa_, sz_, ss_, i64_w, i32_w];rfl)
        refine pn_ HT_ 10 20 ?_ ?_ q4_11 rfl rfl (by kernel_rfl) (fun _ _ _ h => h) (by rfl) ?_ ?_ ?_
        rotate_left 2;(intro w';go_simp;with_reducible rfl);(simp only [Act.put, sa_, sz_, ss_, i64_w, i32_w];rfl)
        refine pn_ HT_ 11 21 ?_ ?_ q4_12 rfl rfl (by kernel_rfl) (fun _ _ _ h => h) (by rfl) ?_ ?_ ?_
        rotate_left 2;(intro w';go_simp;with_reducible rfl);(simp only [Act.put, sa_, sz_, ss_, i64_w, i32_w];rfl)
        refine tn_ HT_ HW_ 12 22 ?_ ?_ q4_13 rfl rfl (by kernel_rfl) (fun _ _ _ h => h) (by rfl) hHeld ?_ ?_ ?_
        rotate_left 2;(rintro w' ⟨s0, s1, s2, s3, s4, s5⟩;go_simp;with_reducible rfl);(simp only [Act.put, sa_, sz_, ss_, i64_w, i32_w];rfl)
        refine on_ HT_ 13 23 q4_14 rfl rfl (by kernel_rfl) (by decide) (fun K hK => ?_)
        refine goes_ Try.func119 (by kernel_rfl) rfl #[.string ((rd_T117 l0 x3_1).f0), .int .i64 1, .int .u8 61] (by rfl) rfl rfl (by (try simp only [List.map_toArray, List.map_cons, List.map_nil]); first | done | rfl | (simp only [List.length_drop, List.length_take]; rfl)) ?_
        with_reducible refine (spec_l4Find.calls k1 ((rd_T117 l0 x3_1).f0) 1 61 t161 _ A6.out).mono ?_
        rintro e w' ⟨rfl, ⟨nd, rfl⟩⟩
        refine ⟨_, rfl, ?_⟩
        refine hK.out _ _ ⟨(pw_cell_below HB.out hw158_0), (pw_cell_below HB.out hw158_1), (pw_cell_below HB.out hw160_0), (pw_cell_below HB.out hw160_1), (pw_cell_below HB.out hw162_0), (pw_cell_below HB.out hw162_1)⟩ (fun hHeld => ?_)
        clear hK K
        refine norm_ (a' := ?_) ?_ ?_
        rotate_left
        ·show Act.put _ (some 23) _ = _
         simp only [Act.put, sa_, sz_, ss_, i64_w, i32_w]
         rfl
        refine pn_ HT_ 14 24 ?_ ?_ q4_15 rfl rfl (by kernel_rfl) (fun _ _ _ h => h) (by rfl) ?_ ?_ ?_
        rotate_left 2;(intro w';go_simp;with_reducible rfl);(simp only [Act.put, sa_, sz_, ss_, i64_w, i32_w];rfl)
        refine pn_ HT_ 15 25 ?_ ?_ q4_16 rfl rfl (by kernel_rfl) (fun _ _ _ h => h) (by rfl) ?_ ?_ ?_
        rotate_left 2;(intro w';go_simp;with_reducible rfl);(simp only [Act.put, sa_, sz_, ss_, i64_w, i32_w];rfl)
        refine pn_ HT_ 16 26 ?_ ?_ q4_17 rfl rfl (by kernel_rfl) (fun _ _ _ h => h) (by rfl) ?_ ?_ ?_
        rotate_left 2;(intro w';go_simp;with_reducible rfl);(simp only [Act.put, sa_, sz_, ss_, i64_w, i32_w];rfl)
        refine pn_ HT_ 17 27 ?_ ?_ q4_18 rfl rfl (by kernel_rfl) (fun _ _ _ h => h) (by rfl) ?_ ?_ ?_
        rotate_left 2;(intro w';go_simp;with_reducible rfl);(simp only [Act.put, sa_, sz_, ss_, i64_w, i32_w];rfl)
        refine pn_ HT_ 18 28 ?_ ?_ q4_19 rfl rfl (by kernel_rfl) (fun _ _ _ h => h) (by rfl) ?_ ?_ ?_
        rotate_left 2;(intro w';go_simp;with_reducible rfl);(simp only [Act.put, sa_, sz_, ss_, i64_w, i32_w];rfl)
        refine pn_ HT_ 19 29 ?_ ?_ q4_20 rfl rfl (by kernel_rfl) (fun _ _ _ h => h) (by rfl) ?_ ?_ ?_
        rotate_left 2;(intro w';go_simp;with_reducible rfl);(simp only [Act.put, sa_, sz_, ss_, i64_w, i32_w];rfl)
        refine pn_ HT_ 20 30 ?_ ?_ q4_21 rfl rfl (by kernel_rfl) (fun _ _ _ h => h) (by rfl) ?_ ?_ ?_
        rotate_left 2;(intro w';go_simp;with_reducible rfl);(simp only [Act.put, sa_, sz_, ss_, i64_w, i32_w];rfl)
        refine tn_ HT_ HW_ 21 31 ?_ ?_ q4_22 rfl rfl (by kernel_rfl) (fun _ _ _ h => h) (by rfl) hHeld ?_ ?_ ?_
        rotate_left 2;(rintro w' ⟨s0, s1, s2, s3, s4, s5⟩;go_simp;with_reducible rfl);(simp only [Act.put, sa_, sz_, ss_, i64_w, i32_w];rfl)
        refine on_ HT_ 22 32 q4_23 rfl rfl (by kernel_rfl) (by decide) (fun K hK => ?_)
        refine goes_ Try.func113 (by kernel_rfl) rfl #[.string ((rd_T117 l0 x3_1).f1)] (by rfl) rfl rfl (by (try simp only [List.map_toArray, List.map_cons, List.map_nil]); first | done | rfl | (simp only [List.length_drop, List.length_take]; rfl)) ?_
        with_reducible refine (spec_l5Line.calls k1 ((rd_T117 l0 x3_1).f1) false _ A10.out).mono ?_
        rintro e w26 ⟨rfl, hb⟩
        refine ⟨_, rfl, ?_⟩
        replace HB := Aside0.mk (below_step (by repeat (first | (with_reducible first | exact HB.out | apply ba_ | apply bn_ | apply b1_) | exact HB.out)) hb)
        (try clear hb)
        refine hK.out _ _ ⟨(pw_cell_below HB.out hw158_0), (pw_cell_below HB.out hw158_1), (pw_cell_below HB.out hw160_0), (pw_cell_below HB.out hw160_1), (pw_cell_below HB.out hw162_0), (pw_cell_below HB.out hw162_1)⟩ (fun hHeld => ?_)
        clear hK K
        refine norm_ (a' := ?_) ?_ ?_
        rotate_left
        ·show Act.put _ (some 32) _ = _
         simp only [Act.put, sa_, sz_, ss_, i64_w, i32_w]
         rfl
        refine pn_ HT_ 23 33 ?_ ?_ q4_24 rfl rfl (by kernel_rfl) (fun _ _ _ h => h) (by rfl) ?_ ?_ ?_
        rotate_left 2;(intro w';go_simp;with_reducible rfl);(simp only [Act.put, sa_, sz_, ss_, i64_w, i32_w];rfl)
        refine pn_ HT_ 24 34 ?_ ?_ q4_25 rfl rfl (by kernel_rfl) (fun _ _ _ h => h) (by rfl) ?_ ?_ ?_
        rotate_left 2;(intro w';go_simp;with_reducible rfl);(simp only [Act.put, sa_, sz_, ss_, i64_w, i32_w];rfl)
        refine pn_ HT_ 25 35 ?_ ?_ q4_26 rfl rfl (by kernel_rfl) (fun _ _ _ h => h) (by rfl) ?_ ?_ ?_
        rotate_left 2;(intro w';go_simp;with_reducible rfl);(simp only [Act.put, sa_, sz_, ss_, i64_w, i32_w];rfl)
        refine po_ HT_ 26 36 ?_ q4_27 rfl rfl (by kernel_rfl) (fun _ _ _ h => h) (by rfl) ?_ ?_
        rotate_left;(simp only [Act.put, sa_, sz_, ss_, i64_w, i32_w];rfl)
        refine po_ HT_ 27 37 ?_ q4_28 rfl rfl (by kernel_rfl) (fun _ _ _ h => h) (by rfl) ?_ ?_
        rotate_left;(simp only [Act.put, sa_, sz_, ss_, i64_w, i32_w];rfl)
        refine po_ HT_ 28 38 ?_ q4_29 rfl rfl (by kernel_rfl) (fun _ _ _ h => h) (by rfl) ?_ ?_
        rotate_left;(simp only [Act.put, sa_, sz_, ss_, i64_w, i32_w];rfl)
        refine po_ HT_ 29 39 ?_ q4_30 rfl rfl (by kernel_rfl) (fun _ _ _ h => h) (by rfl) ?_ ?_
        rotate_left;(simp only [Act.put, sa_, sz_, ss_, i64_w, i32_w];rfl)
        refine po_ HT_ 30 40 ?_ q4_31 rfl rfl (by kernel_rfl) (fun _ _ _ h => h) (by rfl) ?_ ?_
        rotate_left;(simp only [Act.put, sa_, sz_, ss_, i64_w, i32_w];rfl)
        refine po_ HT_ 31 41 ?_ q4_32 rfl rfl (by kernel_rfl) (fun _ _ _ h => h) (by rfl) ?_ ?_
        rotate_left;(simp only [Act.put, sa_, sz_, ss_, i64_w, i32_w];rfl)
        refine po_ HT_ 32 42 ?_ q4_33 rfl rfl (by kernel_rfl) (fun _ _ _ h => h) (by rfl) ?_ ?_
        rotate_left;(simp only [Act.put, sa_, sz_, ss_, i64_w, i32_w];rfl)
        refine po_ HT_ 33 43 ?_ q4_34 rfl rfl (by kernel_rfl) (fun _ _ _ h => h) (by rfl) ?_ ?_
        rotate_left;(simp only [Act.put, sa_, sz_, ss_, i64_w, i32_w];rfl)
        refine po_ HT_ 34 44 ?_ q4_35 rfl rfl (by kernel_rfl) (fun _ _ _ h => h) (by rfl) ?_ ?_
        rotate_left;(simp only [Act.put, sa_, sz_, ss_, i64_w, i32_w];rfl)
        refine pn_ HT_ 35 45 ?_ ?_ q4_36 rfl rfl (by kernel_rfl) (fun _ _ _ h => h) (by rfl) ?_ ?_ ?_
        rotate_left 2;(intro w';go_simp;with_reducible rfl);(simp only [Act.put, sa_, sz_, ss_, i64_w, i32_w];rfl)
        refine done_ (done_of HT_.out (by kernel_rfl)) ?_
        try go_wp2
        go_ret
        exact ⟨by first | rfl | (simp [errW_none, errW_some] <;> rfl) | (simp [*, errW_none, errW_some] <;> rfl), by repeat (first | (with_reducible first | exact HB.out | apply ba_ | apply bn_ | apply b1_) | exact HB.out)⟩
     ·replace c5 := Bool.eq_false_iff.mpr c5
      subst c5
      have H1 : (some false) = some r := by rw [if_neg (show ¬ (false = true) by decide)] at H; exact H
      clear H
      have H := H1
      clear H1
      obtain rfl := Option.some.inj H
      try go_wp2
      replace HB := Aside0.mk (b1_ HB.out)
      have p158 : 0 ≤ (x3_1 : Int) := dq_ (by assumption)
      have q158 : x3_1 < (l0.length : Int) := dq_ (by assumption)
      obtain ⟨ad158, e158, hx158_0, hx158_1⟩ := at_T117 HR0.out x3_1 p158 q158
      have hw158_1 := hx158_1
      have hw158_0 := hx158_0
      cases e158
      replace hx158_0 := pw_cell_below HB.out hx158_0
      replace hx158_1 := pw_cell_below HB.out hx158_1
      replace p158 := eq_true p158
      replace q158 := eq_true q158
      refine start_ (n := 36) (S := fun w' => w'.cell? (ad158.add ((x3_1).toNat * 2)) = some (.string ((rd_T117 l0 x3_1).f0)) ∧ w'.cell? ⟨(ad158.add ((x3_1).toNat * 2)).block, (ad158.add ((x3_1).toNat * 2)).off + 1, none⟩ = some (.string ((rd_T117 l0 x3_1).f1))) (ds := []) q4_0 (by kernel_rfl) rfl rfl ⟨(pw_cell_below HB.out hw158_0), (pw_cell_below HB.out hw158_1)⟩ (fun hHeld => ?_); refine with_tabW spec_l5Attrs.tab4 spec_l5Attrs.bits4 (fun HT_ HW_ => ?_)
      generalize wr.drew = w27 at HB hx158_0 hx158_1 hHeld ⊢
      refine pn_ HT_ 0 10 ?_ ?_ q4_1 rfl rfl (by kernel_rfl) (fun _ _ _ h => h) (by rfl) ?_ ?_ ?_
      rotate_left 2;(intro w';go_simp;with_reducible rfl);(simp only [Act.put, sa_, sz_, ss_, i64_w, i32_w];rfl)
      refine pn_ HT_ 1 11 ?_ ?_ q4_2 rfl rfl (by kernel_rfl) (fun _ _ _ h => h) (by rfl) ?_ ?_ ?_
      rotate_left 2;(intro w';go_simp;with_reducible rfl);(simp only [Act.put, sa_, sz_, ss_, i64_w, i32_w];rfl)
      refine pn_ HT_ 2 12 ?_ ?_ q4_3 rfl rfl (by kernel_rfl) (fun _ _ _ h => h) (by rfl) ?_ ?_ ?_
      rotate_left 2;(intro w';go_simp;with_reducible rfl);(simp only [Act.put, sa_, sz_, ss_, i64_w, i32_w];rfl)
      refine pn_ HT_ 3 13 ?_ ?_ q4_4 rfl rfl (by kernel_rfl) (fun _ _ _ h => h) (by rfl) ?_ ?_ ?_
      rotate_left 2;(intro w';go_simp;with_reducible rfl);(simp only [Act.put, sa_, sz_, ss_, i64_w, i32_w];rfl)
      refine tn_ HT_ HW_ 4 14 ?_ ?_ q4_5 rfl rfl (by kernel_rfl) (fun _ _ _ h => h) (by rfl) hHeld ?_ ?_ ?_
      rotate_left 2;(rintro w' ⟨s0, s1⟩;go_simp;with_reducible rfl);(simp only [Act.put, sa_, sz_, ss_, i64_w, i32_w];rfl)
      refine on_ HT_ 5 15 q4_6 rfl rfl (by kernel_rfl) (by decide) (fun K hK => ?_)
      refine goes_ Try.func114 (by kernel_rfl) rfl #[.string ((rd_T117 l0 x3_1).f0), .string (⟨#[47, 62]⟩ : ByteArray)] (by rfl) rfl rfl (by (try simp only [List.map_toArray, List.map_cons, List.map_nil]); first | done | rfl | (simp only [List.length_drop, List.length_take]; rfl)) ?_
      with_reducible refine (spec_l5Name.calls k1 ((rd_T117 l0 x3_1).f0) (⟨#[47, 62]⟩ : ByteArray) false _ A4.out).mono ?_
      rintro e w28 ⟨rfl, hb⟩
      refine ⟨_, rfl, ?_⟩
      replace HB := Aside0.mk (below_step (by repeat (first | (with_reducible first | exact HB.out | apply ba_ | apply bn_ | apply b1_) | exact HB.out)) hb)
      (try clear hb)
      refine hK.out _ _ ⟨(pw_cell_below HB.out hw158_0), (pw_cell_below HB.out hw158_1)⟩ (fun hHeld => ?_)
      clear hK K
      refine norm_ (a' := ?_) ?_ ?_
      rotate_left
      ·show Act.put _ (some 15) _ = _
       simp only [Act.put, sa_, sz_, ss_, i64_w, i32_w]
       rfl
      refine pn_ HT_ 6 16 ?_ ?_ q4_7 rfl rfl (by kernel_rfl) (fun _ _ _ h => h) (by rfl) ?_ ?_ ?_
      rotate_left 2;(intro w';go_simp;with_reducible rfl);(simp only [Act.put, sa_, sz_, ss_, i64_w, i32_w];rfl)
      refine pn_ HT_ 7 17 ?_ ?_ q4_8 rfl rfl (by kernel_rfl) (fun _ _ _ h => h) (by rfl) ?_ ?_ ?_
      rotate_left 2;(intro w';go_simp;with_reducible rfl);(simp only [Act.put, sa_, sz_, ss_, i64_w, i32_w];rfl)
      refine po_ HT_ 8 18 ?_ q4_9 rfl rfl (by kernel_rfl) (fun _ _ _ h => h) (by rfl) ?_ ?_
      rotate_left;(simp only [Act.put, sa_, sz_, ss_, i64_w, i32_w];rfl)
      refine po_ HT_ 9 19 ?_ q4_10 rfl rfl (by kernel_rfl) (fun _ _ _ h => h) (by rfl) ?_ ?_
      rotate_left;(simp only [Act.put, sa_, sz_, ss_, i64_w, i32_w];rfl)
      refine po_ HT_ 10 20 ?_ q4_11 rfl rfl (by kernel_rfl) (fun _ _ _ h => h) (by rfl) ?_ ?_
      rotate_left;(simp only [Act.put, sa_, sz_, ss_, i64_w, i32_w];rfl)
      refine po_ HT_ 11 21 ?_ q4_12 rfl rfl (by kernel_rfl) (fun _ _ _ h => h) (by rfl) ?_ ?_
      rotate_left;(simp only [Act.put, sa_, sz_, ss_, i64_w, i32_w];rfl)
      refine po_ HT_ 12 22 ?_ q4_13 rfl rfl (by kernel_rfl) (fun _ _ _ h => h) (by rfl) ?_ ?_
      rotate_left;(simp only [Act.put, sa_, sz_, ss_, i64_w, i32_w];rfl)
      refine po_ HT_ 13 23 ?_ q4_14 rfl rfl (by kernel_rfl) (fun _ _ _ h => h) (by rfl) ?_ ?_
      rotate_left;(simp only [Act.put, sa_, sz_, ss_, i64_w, i32_w];rfl)
      refine po_ HT_ 14 24 ?_ q4_15 rfl rfl (by kernel_rfl) (fun _ _ _ h => h) (by rfl) ?_ ?_
      rotate_left;(simp only [Act.put, sa_, sz_, ss_, i64_w, i32_w];rfl)
      refine pn_ HT_ 15 25 ?_ ?_ q4_16 rfl rfl (by kernel_rfl) (fun _ _ _ h => h) (by rfl) ?_ ?_ ?_
      rotate_left 2;(intro w';go_simp;with_reducible rfl);(simp only [Act.put, sa_, sz_, ss_, i64_w, i32_w];rfl)
      refine pn_ HT_ 16 26 ?_ ?_ q4_17 rfl rfl (by kernel_rfl) (fun _ _ _ h => h) (by rfl) ?_ ?_ ?_
      rotate_left 2;(intro w';go_simp;with_reducible rfl);(simp only [Act.put, sa_, sz_, ss_, i64_w, i32_w];rfl)
      refine po_ HT_ 17 27 ?_ q4_18 rfl rfl (by kernel_rfl) (fun _ _ _ h => h) (by rfl) ?_ ?_
      rotate_left;(simp only [Act.put, sa_, sz_, ss_, i64_w, i32_w];rfl)
      refine po_ HT_ 18 28 ?_ q4_19 rfl rfl (by kernel_rfl) (fun _ _ _ h => h) (by rfl) ?_ ?_
      rotate_left;(simp only [Act.put, sa_, sz_, ss_, i64_w, i32_w];rfl)
      refine po_ HT_ 19 29 ?_ q4_20 rfl rfl (by kernel_rfl) (fun _ _ _ h => h) (by rfl) ?_ ?_
      rotate_left;(simp only [Act.put, sa_, sz_, ss_, i64_w, i32_w];rfl)
      refine po_ HT_ 20 30 ?_ q4_21 rfl rfl (by kernel_rfl) (fun _ _ _ h => h) (by rfl) ?_ ?_
      rotate_left;(simp only [Act.put, sa_, sz_, ss_, i64_w, i32_w];rfl)
      refine po_ HT_ 21 31 ?_ q4_22 rfl rfl (by kernel_rfl) (fun _ _ _ h => h) (by rfl) ?_ ?_
      rotate_left;(simp only [Act.put, sa_, sz_, ss_, i64_w, i32_w];rfl)
      refine po_ HT_ 22 32 ?_ q4_23 rfl rfl (by kernel_rfl) (fun _ _ _ h => h) (by rfl) ?_ ?_
      rotate_left;(simp only [Act.put, sa_, sz_, ss_, i64_w, i32_w];rfl)
      refine po_ HT_ 23 33 ?_ q4_24 rfl rfl (by kernel_rfl) (fun _ _ _ h => h) (by rfl) ?_ ?_
      rotate_left;(simp only [Act.put, sa_, sz_, ss_, i64_w, i32_w];rfl)
      refine pn_ HT_ 24 34 ?_ ?_ q4_25 rfl rfl (by kernel_rfl) (fun _ _ _ h => h) (by rfl) ?_ ?_ ?_
      rotate_left 2;(intro w';go_simp;with_reducible rfl);(simp only [Act.put, sa_, sz_, ss_, i64_w, i32_w];rfl)
      refine pn_ HT_ 25 35 ?_ ?_ q4_26 rfl rfl (by kernel_rfl) (fun _ _ _ h => h) (by rfl) ?_ ?_ ?_
      rotate_left 2;(intro w';go_simp;with_reducible rfl);(simp only [Act.put, sa_, sz_, ss_, i64_w, i32_w];rfl)
      refine po_ HT_ 26 36 ?_ q4_27 rfl rfl (by kernel_rfl) (fun _ _ _ h => h) (by rfl) ?_ ?_
      rotate_left;(simp only [Act.put, sa_, sz_, ss_, i64_w, i32_w];rfl)
      refine po_ HT_ 27 37 ?_ q4_28 rfl rfl (by kernel_rfl) (fun _ _ _ h => h) (by rfl) ?_ ?_
      rotate_left;(simp only [Act.put, sa_, sz_, ss_, i64_w, i32_w];rfl)
      refine po_ HT_ 28 38 ?_ q4_29 rfl rfl (by kernel_rfl) (fun _ _ _ h => h) (by rfl) ?_ ?_
      rotate_left;(simp only [Act.put, sa_, sz_, ss_, i64_w, i32_w];rfl)
      refine po_ HT_ 29 39 ?_ q4_30 rfl rfl (by kernel_rfl) (fun _ _ _ h => h) (by rfl) ?_ ?_
      rotate_left;(simp only [Act.put, sa_, sz_, ss_, i64_w, i32_w];rfl)
      refine po_ HT_ 30 40 ?_ q4_31 rfl rfl (by kernel_rfl) (fun _ _ _ h => h) (by rfl) ?_ ?_
      rotate_left;(simp only [Act.put, sa_, sz_, ss_, i64_w, i32_w];rfl)
      refine po_ HT_ 31 41 ?_ q4_32 rfl rfl (by kernel_rfl) (fun _ _ _ h => h) (by rfl) ?_ ?_
      rotate_left;(simp only [Act.put, sa_, sz_, ss_, i64_w, i32_w];rfl)
      refine po_ HT_ 32 42 ?_ q4_33 rfl rfl (by kernel_rfl) (fun _ _ _ h => h) (by rfl) ?_ ?_
      rotate_left;(simp only [Act.put, sa_, sz_, ss_, i64_w, i32_w];rfl)
      refine po_ HT_ 33 43 ?_ q4_34 rfl rfl (by kernel_rfl) (fun _ _ _ h => h) (by rfl) ?_ ?_
      rotate_left;(simp only [Act.put, sa_, sz_, ss_, i64_w, i32_w];rfl)
      refine po_ HT_ 34 44 ?_ q4_35 rfl rfl (by kernel_rfl) (fun _ _ _ h => h) (by rfl) ?_ ?_
      rotate_left;(simp only [Act.put, sa_, sz_, ss_, i64_w, i32_w];rfl)
      refine pn_ HT_ 35 45 ?_ ?_ q4_36 rfl rfl (by kernel_rfl) (fun _ _ _ h => h) (by rfl) ?_ ?_ ?_
      rotate_left 2;(intro w';go_simp;with_reducible rfl);(simp only [Act.put, sa_, sz_, ss_, i64_w, i32_w];rfl)
      refine done_ (done_of HT_.out (by kernel_rfl)) ?_
      try go_wp2
      go_ret
      exact ⟨by first | rfl | (simp [errW_none, errW_some] <;> rfl) | (simp [*, errW_none, errW_some] <;> rfl), by repeat (first | (with_reducible first | exact HB.out | apply ba_ | apply bn_ | apply b1_) | exact HB.out)⟩
    ·rw [if_neg c3] at H
     exact absurd H (by simp)
   ·rw [if_neg c2] at H
    have c2b0 : decide (x3_1 < (l0.length : Int)) = false := decide_eq_false c2
    clear c2
    obtain rfl := Option.some.inj H
    go_wp2
    go_ret
    exact ⟨by first | rfl | (simp [errW_none, errW_some] <;> rfl) | (simp [*, errW_none, errW_some] <;> rfl), by repeat (first | (with_reducible first | exact HB.out | apply ba_ | apply bn_ | apply b1_) | exact HB.out)⟩
end Go.Proofs.Yteafgjebaedjbaa.PFnExactTokensOk
