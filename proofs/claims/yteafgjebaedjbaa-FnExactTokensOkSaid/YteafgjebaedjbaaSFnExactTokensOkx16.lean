-- Written by this session's program wip/slim.py out of the print's texts. Lean checks it.
import Derived.Test.YteafgjebaedjbaaSFnExactTokensOkx0
import Derived.Test.YteafgjebaedjbaaSFnExactTokensOkx10
import Derived.Test.YteafgjebaedjbaaSFnExactTokensOkx13
import Derived.Test.YteafgjebaedjbaaSFnExactTokensOkx14
import Derived.Test.YteafgjebaedjbaaSFnExactTokensOkx15
namespace Go.Proofs.Yteafgjebaedjbaa.PFnExactTokensOk
open Go.RowKit Go.Proofs.YteafgjebaedjbaaW.PrintWords Go.Proofs.YteafgjebaedjbaaW.PrintLast Go.Proofs.YteafgjebaedjbaaW.PrintMore
def q16_0 : Array Bool := bz 23 0
def q16_1 : Array Bool := bz 23 1
def q16_2 : Array Bool := bz 23 3
def q16_3 : Array Bool := bz 23 7
def q16_4 : Array Bool := bz 23 15
def q16_5 : Array Bool := bz 23 31
def q16_6 : Array Bool := bz 23 63
def q16_7 : Array Bool := bz 23 127
def q16_8 : Array Bool := bz 23 255
def q16_9 : Array Bool := bz 23 511
def q16_10 : Array Bool := bz 23 1023
def q16_11 : Array Bool := bz 23 2047
def q16_12 : Array Bool := bz 23 4095
def q16_13 : Array Bool := bz 23 8191
def q16_14 : Array Bool := bz 23 16383
def q16_15 : Array Bool := bz 23 32767
def q16_16 : Array Bool := bz 23 65535
def q16_17 : Array Bool := bz 23 131071
def q16_18 : Array Bool := bz 23 262143
def q16_19 : Array Bool := bz 23 524287
def q16_20 : Array Bool := bz 23 1048575
def q16_21 : Array Bool := bz 23 2097151
def q16_22 : Array Bool := bz 23 4194303
def q16_23 : Array Bool := bz 23 8388607
def q16_24 : Array Bool := bz 23 98303
def q16_25 : Array Bool := bz 23 229375
def q16_26 : Array Bool := bz 23 491519
def q16_27 : Array Bool := bz 23 1015807
attribute [local go_sem] max2_int min2_int max_two min_two max_three min_three max_four min_four
set_option linter.unusedVariables false
set_option linter.unusedSimpArgs false
mutual
def impl_TokensOk.l0 : Nat → List (S87) → List (S87) → Int → Int → Option (Bool)
 | 0, _, _, _, _ => none
 | k + 1, x0, x5, x6, x7 => if x7 < x6 then (if 0 ≤ x7 then (if x7 < (x5.length : Int) then ((impl_tokenOk.f k ((rd_T87 x5 x7).f0) ((rd_T87 x5 x7).f1) ((rd_T87 x5 x7).f2) ((rd_T87 x5 x7).f3) ((rd_T87 x5 x7).f4)).bind fun t324 => (if t324 = true then (if x7 > 0 then (if ((rd_T87 x5 x7).f0) = 1 then (if 0 ≤ (wrap64 (x7 - 1)) then (if (wrap64 (x7 - 1)) < (x0.length : Int) then (impl_TokensOk.j1 k x0 x7 x5 x6 x7 (((rd_T87 x0 (wrap64 (x7 - 1))).f0) == 1) ((rd_T87 x5 x7).f0) ((rd_T87 x5 x7).f1) ((rd_T87 x5 x7).f2) ((rd_T87 x5 x7).f3) ((rd_T87 x5 x7).f4)) else (none)) else (none)) else (impl_TokensOk.j1 k x0 x7 x5 x6 x7 false ((rd_T87 x5 x7).f0) ((rd_T87 x5 x7).f1) ((rd_T87 x5 x7).f2) ((rd_T87 x5 x7).f3) ((rd_T87 x5 x7).f4))) else (impl_TokensOk.j1 k x0 x7 x5 x6 x7 false ((rd_T87 x5 x7).f0) ((rd_T87 x5 x7).f1) ((rd_T87 x5 x7).f2) ((rd_T87 x5 x7).f3) ((rd_T87 x5 x7).f4))) else (impl_TokensOk.j1 k x0 x7 x5 x6 x7 true ((rd_T87 x5 x7).f0) ((rd_T87 x5 x7).f1) ((rd_T87 x5 x7).f2) ((rd_T87 x5 x7).f3) ((rd_T87 x5 x7).f4)))) else (none)) else (none)) else (some true)
def impl_TokensOk.j1 : Nat → List (S87) → Int → List (S87) → Int → Int → Bool → Int → ByteArray → List (S117) → ByteArray → Bool → Option (Bool)
 | 0, _, _, _, _, _, _, _, _, _, _, _ => none
 | k + 1, x0, x3, x5, x6, x7, x32, x324000, x324001, x324002, x324003, x324004 => if x32 = true then (some false) else (if x324000 = 2 then (if x324004 = true then (impl_TokensOk.l0 k x0 x5 x6 (wrap64 (x7 + 1))) else ((impl_Raw.f x324001).bind fun t326 => (if t326 = true then (if 0 ≤ (wrap64 (x3 + 1)) then (if (wrap64 (x3 + 1)) ≤ (x0.length : Int) then ((impl_rawOk.f k x324001 (x0.drop ((wrap64 (x3 + 1)) : Int).toNat)).bind fun t331 => (if t331 = true then (impl_TokensOk.l0 k x0 x5 x6 (wrap64 (x7 + 1))) else (some false))) else (none)) else (none)) else (impl_TokensOk.l0 k x0 x5 x6 (wrap64 (x7 + 1)))))) else (impl_TokensOk.l0 k x0 x5 x6 (wrap64 (x7 + 1))))
end
def impl_TokensOk.f (k : Nat) (l0 : List (S87)) : Option (Bool) := impl_TokensOk.l0 k l0 l0 (l0.length : Int) 0
theorem impl_TokensOk.mono_l : ∀ k, (∀ y0 y1 y2 y3, LeO (impl_TokensOk.l0 k y0 y1 y2 y3) (impl_TokensOk.l0 (k + 1) y0 y1 y2 y3)) ∧ (∀ y0 y1 y2 y3 y4 y5 y6 y7 y8 y9 y10, LeO (impl_TokensOk.j1 k y0 y1 y2 y3 y4 y5 y6 y7 y8 y9 y10) (impl_TokensOk.j1 (k + 1) y0 y1 y2 y3 y4 y5 y6 y7 y8 y9 y10))
 | 0 => ⟨fun _ _ _ _ r h => by simp [impl_TokensOk.l0] at h, fun _ _ _ _ _ _ _ _ _ _ _ r h => by simp [impl_TokensOk.j1] at h⟩
 | k + 1 => by
  obtain ⟨ih0, ih1⟩ := impl_TokensOk.mono_l k
  refine ⟨?_, ?_⟩
  ·intro y0 y1 y2 y3
   unfold impl_TokensOk.l0
   repeat' first
   | (with_reducible exact ih0 _ _ _ _)
   | (with_reducible exact ih1 _ _ _ _ _ _ _ _ _ _ _)
   | (with_reducible exact impl_rawOk.mono _ _ _)
   | (with_reducible exact impl_tokenOk.mono _ _ _ _ _ _)
   | (with_reducible exact LeO.refl _)
   | (with_reducible exact LeO.none _)
   | (with_reducible refine LeO.ite ?_ ?_)
   | (with_reducible refine LeO.bind ?_ (fun _ => ?_))
  ·intro y0 y1 y2 y3 y4 y5 y6 y7 y8 y9 y10
   unfold impl_TokensOk.j1
   repeat' first
   | (with_reducible exact ih0 _ _ _ _)
   | (with_reducible exact ih1 _ _ _ _ _ _ _ _ _ _ _)
   | (with_reducible exact impl_rawOk.mono _ _ _)
   | (with_reducible exact impl_tokenOk.mono _ _ _ _ _ _)
   | (with_reducible exact LeO.refl _)
   | (with_reducible exact LeO.none _)
   | (with_reducible refine LeO.ite ?_ ?_)
   | (with_reducible refine LeO.bind ?_ (fun _ => ?_))
theorem impl_TokensOk.mono : ∀ a0 k, LeO (impl_TokensOk.f k a0) (impl_TokensOk.f (k + 1) a0) := by
 intro a0 k
 obtain ⟨ih0, ih1⟩ := impl_TokensOk.mono_l k
 unfold impl_TokensOk.f
 repeat' first
   | (with_reducible exact ih0 _ _ _ _)
   | (with_reducible exact ih1 _ _ _ _ _ _ _ _ _ _ _)
   | (with_reducible exact impl_rawOk.mono _ _ _)
   | (with_reducible exact impl_tokenOk.mono _ _ _ _ _ _)
   | (with_reducible exact LeO.refl _)
   | (with_reducible exact LeO.none _)
   | (with_reducible refine LeO.ite ?_ ?_)
   | (with_reducible refine LeO.bind ?_ (fun _ => ?_))
def impl_TokensOk.T6 : Bool × List (List Nat × List Nat) := (true, [([], []), ([0], [0]), ([1], [1]), ([2], [2]), ([3], [3]), ([4, 3], [3, 4]), ([5, 3], [3, 5]), ([3, 6], [3, 6]), ([7, 3], [7]), ([8], [8]), ([9, 8], [8, 9]), ([10, 8, 8], [8, 10]), ([8, 11], [8, 11]), ([12, 11], [12]), ([13], [13]), ([14, 13], [13, 14]), ([13], [13]), ([13], [13]), ([17, 13], [13, 17]), ([16, 18, 13], [13, 16, 18]), ([15, 19, 13, 13], [13, 15, 19]), ([20, 13], [13, 20]), ([13, 21], [13, 21])])
def impl_TokensOk.B6 : List Nat := [0, 1, 3, 7, 15, 31, 63, 127, 255, 511, 1023, 2047, 4095, 8191, 16383, 32767, 16383, 16383, 147455, 475135, 1048575, 2097151, 4194303]
theorem impl_TokensOk.tab6 : rtab .any (opsOf Try.f60 6) = impl_TokensOk.T6 := by kernel_rfl
theorem impl_TokensOk.bits6 : waitsOk impl_TokensOk.T6.2 impl_TokensOk.B6 = true := by kernel_rfl
set_option maxHeartbeats 8000000 in
set_option maxRecDepth 100000 in
theorem impl_TokensOk.calls (k : Nat) (A0 : Option Addr) (c0 : Nat) (l0 : List (S87)) (r : Bool) (w : World) (hr0 : Kd.C k87 w A0 l0.length l0) (hc0 : l0.length ≤ c0) (hG : MaxSeen w) (h : impl_TokensOk.f k l0 = some r) :
  Calls Try.prog 60 #[.slice A0 l0.length c0] w fun e w' => e = .returned (.bool r) ∧ Below w.heap.size w w' := by
 have hu87 := Try.underlying87
 have HR0 := Aside0.mk hr0
 have HC0 := Aside0.mk hc0
 clear hr0 hc0
 have HB := Aside0.mk (Below.refl w.heap.size w)
 have HG := Aside0.mk hG
 clear hG
 have H : (impl_TokensOk.l0 k l0 l0 (l0.length : Int) 0) = some r := h
 clear h
 have H' := Aside0.mk H
 clear H
 go_enter Try.func60, Try.ntmps60
 go_wp2
 go_loopg [7] k (fun kq v7 w' => ∃ (x7_1 : Int), v7 = .int .i64 x7_1 ∧ Aside0 (impl_TokensOk.l0 kq l0 l0 (l0.length : Int) x7_1 = some r) ∧ Aside0 (kq ≤ k) ∧ Aside0 (Below w.heap.size w w'))
 case atStart => exact ⟨(0), (by first | rfl | (simp; done) | (simp [*]; done)), H', ⟨Nat.le_refl _⟩, ⟨by repeat (first | (with_reducible first | exact HB.out | apply ba_ | apply bn_ | apply b1_) | exact HB.out)⟩⟩
 case round =>
  clear H'
  obtain ⟨x7_1, rfl, HA, HK1, HB⟩ := hrel
  cases gk with
  | zero => exact absurd HA.out (by simp [impl_TokensOk.l0])
  | succ k1 =>
   have H := HA.out
   clear HA
   simp only [impl_TokensOk.l0] at H
   by_cases c2 : x7_1 < (l0.length : Int)
   ·rw [if_pos c2] at H
    have c2b0 : decide (x7_1 < (l0.length : Int)) = true := decide_eq_true c2
    clear c2
    by_cases c3 : 0 ≤ x7_1
    ·rw [if_pos c3] at H
     have c3b0 : decide (0 ≤ x7_1) = true := decide_eq_true c3
     clear c3
     by_cases c4 : x7_1 < (l0.length : Int)
     ·rw [if_pos c4] at H
      have c4b0 : decide (x7_1 < (l0.length : Int)) = true := decide_eq_true c4
      clear c4
      have HC5 := Aside0.mk H
      clear H
      have p322 : 0 ≤ (x7_1 : Int) := dq_ (by assumption)
      have q322 : x7_1 < (l0.length : Int) := dq_ (by assumption)
      obtain ⟨ad322, A322_2, c322_2, e322, hx322_0, hx322_1, hx322_2, hx322_3, hx322_4, hl322_2, hi322_2⟩ := at_T87 HR0.out x7_1 p322 q322
      cases e322
      replace hx322_0 := pw_cell_below HB.out hx322_0
      replace hx322_1 := pw_cell_below HB.out hx322_1
      replace hx322_2 := pw_cell_below HB.out hx322_2
      replace hx322_3 := pw_cell_below HB.out hx322_3
      replace hx322_4 := pw_cell_below HB.out hx322_4
      have HR322_2 := Aside0.mk hi322_2
      have HC322_2 := Aside0.mk hl322_2
      clear hi322_2 hl322_2
      replace p322 := eq_true p322
      replace q322 := eq_true q322
      go_upto_region 4 with (first | ((with_reducible refine gate_dst (N := 4) rfl ?_); refine box_event ?hg (N := 4) ?hd (cs := #[.int .i64 0, .string (⟨#[]⟩ : ByteArray), .slice none 0 0, .string (⟨#[]⟩ : ByteArray), .bool false]) (t := 87) ?hr ?_; (case hd => rfl); (case hg => rfl); (case hr => first | (go_simp; done) | (go_simp; rfl)); intro gb323 hg w6 hbox hb; have n0_ := Aside0.mk (below_step (by repeat (first | (with_reducible first | exact HB.out | apply ba_ | apply bn_ | apply b1_) | exact HB.out)) hb); have n1_ := Aside0.mk (hbox); have n2_ := Aside0.mk ((by rw [hg]; exact (below_size (by repeat (first | (with_reducible first | exact HB.out | apply ba_ | apply bn_ | apply b1_) | exact HB.out))) : w.heap.size ≤ gb323)); have n3_ := Aside0.mk ((by rw [hg]; exact (below_size (by repeat (first | (with_reducible first | exact HB.out | apply ba_ | apply bn_ | apply b1_) | exact HB.out))) : w.heap.size ≤ gb323)); clear HB; have HB := n0_; have BK323 := n1_; have GW323 := n2_; have GE323 := n3_; clear n0_ n1_ n2_ n3_; clear hb hbox hg; have hcz7_0 : w6.cell? ⟨gb323, 0, none⟩ = some (.int .i64 0) := (bc_ BK323.out 0).trans rfl; have hcz7_1 : w6.cell? ⟨gb323, 1, none⟩ = some (.string (⟨#[]⟩ : ByteArray)) := (bc_ BK323.out 1).trans rfl; have hcz7_2 : w6.cell? ⟨gb323, 2, none⟩ = some (.slice none 0 0) := (bc_ BK323.out 2).trans rfl; have hcz7_3 : w6.cell? ⟨gb323, 3, none⟩ = some (.string (⟨#[]⟩ : ByteArray)) := (bc_ BK323.out 3).trans rfl; have hcz7_4 : w6.cell? ⟨gb323, 4, none⟩ = some (.bool false) := (bc_ BK323.out 4).trans rfl; have hfz7_0 := blk_frozen BK323.out 0; have hfz7_1 := blk_frozen BK323.out 1; have hfz7_2 := blk_frozen BK323.out 2; have hfz7_3 := blk_frozen BK323.out 3; have hfz7_4 := blk_frozen BK323.out 4))
      (try simp only [Act.put, sa_, sz_, ss_])
      go_cut [32] (fun v32 wc => ∃ (kq : Nat) (x32_4 : Bool), v32 = .bool x32_4 ∧ Aside0 (impl_TokensOk.j1 kq l0 x7_1 l0 (l0.length : Int) x7_1 x32_4 ((rd_T87 l0 x7_1).f0) ((rd_T87 l0 x7_1).f1) ((rd_T87 l0 x7_1).f2) ((rd_T87 l0 x7_1).f3) ((rd_T87 l0 x7_1).f4) = some r) ∧ Aside0 (kq ≤ k1) ∧ Aside0 (wc.heap[gb323]? = some (.cells #[.int .i64 ((rd_T87 l0 x7_1).f0), .string ((rd_T87 l0 x7_1).f1), (.slice A322_2 ((rd_T87 l0 x7_1).f2).length c322_2), .string ((rd_T87 l0 x7_1).f3), .bool ((rd_T87 l0 x7_1).f4)] 87 (0, 0))) ∧ Aside0 (Below w.heap.size w wc))
      case first =>
       have H := HC5.out
       clear HC5
       replace H := Option.bind_eq_some_iff.mp H
       obtain ⟨t324, A80, H⟩ := H
       replace H : (if t324 = true then (if x7_1 > 0 then (if ((rd_T87 l0 x7_1).f0) = 1 then (if 0 ≤ (wrap64 (x7_1 - 1)) then (if (wrap64 (x7_1 - 1)) < (l0.length : Int) then (impl_TokensOk.j1 k1 l0 x7_1 l0 (l0.length : Int) x7_1 (((rd_T87 l0 (wrap64 (x7_1 - 1))).f0) == 1) ((rd_T87 l0 x7_1).f0) ((rd_T87 l0 x7_1).f1) ((rd_T87 l0 x7_1).f2) ((rd_T87 l0 x7_1).f3) ((rd_T87 l0 x7_1).f4)) else (none)) else (none)) else (impl_TokensOk.j1 k1 l0 x7_1 l0 (l0.length : Int) x7_1 false ((rd_T87 l0 x7_1).f0) ((rd_T87 l0 x7_1).f1) ((rd_T87 l0 x7_1).f2) ((rd_T87 l0 x7_1).f3) ((rd_T87 l0 x7_1).f4))) else (impl_TokensOk.j1 k1 l0 x7_1 l0 (l0.length : Int) x7_1 false ((rd_T87 l0 x7_1).f0) ((rd_T87 l0 x7_1).f1) ((rd_T87 l0 x7_1).f2) ((rd_T87 l0 x7_1).f3) ((rd_T87 l0 x7_1).f4))) else (impl_TokensOk.j1 k1 l0 x7_1 l0 (l0.length : Int) x7_1 true ((rd_T87 l0 x7_1).f0) ((rd_T87 l0 x7_1).f1) ((rd_T87 l0 x7_1).f2) ((rd_T87 l0 x7_1).f3) ((rd_T87 l0 x7_1).f4))) = some r := H
       have A8 := Aside0.mk A80
       clear A80
       by_cases c9 : t324 = true
       ·subst c9
        have H1 : (if x7_1 > 0 then (if ((rd_T87 l0 x7_1).f0) = 1 then (if 0 ≤ (wrap64 (x7_1 - 1)) then (if (wrap64 (x7_1 - 1)) < (l0.length : Int) then (impl_TokensOk.j1 k1 l0 x7_1 l0 (l0.length : Int) x7_1 (((rd_T87 l0 (wrap64 (x7_1 - 1))).f0) == 1) ((rd_T87 l0 x7_1).f0) ((rd_T87 l0 x7_1).f1) ((rd_T87 l0 x7_1).f2) ((rd_T87 l0 x7_1).f3) ((rd_T87 l0 x7_1).f4)) else (none)) else (none)) else (impl_TokensOk.j1 k1 l0 x7_1 l0 (l0.length : Int) x7_1 false ((rd_T87 l0 x7_1).f0) ((rd_T87 l0 x7_1).f1) ((rd_T87 l0 x7_1).f2) ((rd_T87 l0 x7_1).f3) ((rd_T87 l0 x7_1).f4))) else (impl_TokensOk.j1 k1 l0 x7_1 l0 (l0.length : Int) x7_1 false ((rd_T87 l0 x7_1).f0) ((rd_T87 l0 x7_1).f1) ((rd_T87 l0 x7_1).f2) ((rd_T87 l0 x7_1).f3) ((rd_T87 l0 x7_1).f4))) = some r := by rw [if_pos rfl] at H; exact H
        clear H
        have H := H1
        clear H1
        by_cases c10 : x7_1 > 0
        ·rw [if_pos c10] at H
         have c10b0 : decide (0 < x7_1) = true := decide_eq_true c10
         clear c10
         (first | rw [c10b0] | (simp only [i64_w, i32_w]; rw [c10b0]) | skip)
         by_cases c11 : ((rd_T87 l0 x7_1).f0) = 1
         ·rw [if_pos c11] at H
          have c11b0 : (((rd_T87 l0 x7_1).f0) == 1) = true := beq_iff_eq.mpr c11
          have c11b1 : (((rd_T87 l0 x7_1).f0) != 1) = false := bne_eq_false_iff_eq.mpr c11
          clear c11
          obtain ⟨ji12, hji12⟩ : ∃ j_ : Int, (wrap64 (x7_1 - 1)) = j_ := ⟨_, rfl⟩
          replace H : (if 0 ≤ (ji12) then (if (ji12) < (l0.length : Int) then (impl_TokensOk.j1 k1 l0 x7_1 l0 (l0.length : Int) x7_1 (((rd_T87 l0 (ji12)).f0) == 1) ((rd_T87 l0 x7_1).f0) ((rd_T87 l0 x7_1).f1) ((rd_T87 l0 x7_1).f2) ((rd_T87 l0 x7_1).f3) ((rd_T87 l0 x7_1).f4)) else (none)) else (none)) = some r := by first | (rw [hji12] at H; exact H) | (simp only [hji12] at H ⊢; exact H)
          (try rw [hji12] at A8)
          have hji12w : (IntKind.i64.wrap (x7_1 - 1)) = ji12 := (i64_w _).trans hji12
          by_cases c13 : 0 ≤ (ji12)
          ·rw [if_pos c13] at H
           have c13b0 : decide (0 ≤ (ji12)) = true := decide_eq_true c13
           clear c13
           by_cases c14 : (ji12) < (l0.length : Int)
           ·rw [if_pos c14] at H
            have c14b0 : decide ((ji12) < (l0.length : Int)) = true := decide_eq_true c14
            clear c14
            have H' := Aside0.mk H
            clear H
            have hcz15_0 : w6.cell? ⟨gb323, 0, none⟩ = some (.int .i64 0) := (bc_ BK323.out 0).trans rfl
            have hcz15_1 : w6.cell? ⟨gb323, 1, none⟩ = some (.string (⟨#[]⟩ : ByteArray)) := (bc_ BK323.out 1).trans rfl
            have hcz15_2 : w6.cell? ⟨gb323, 2, none⟩ = some (.slice none 0 0) := (bc_ BK323.out 2).trans rfl
            have hcz15_3 : w6.cell? ⟨gb323, 3, none⟩ = some (.string (⟨#[]⟩ : ByteArray)) := (bc_ BK323.out 3).trans rfl
            have hcz15_4 : w6.cell? ⟨gb323, 4, none⟩ = some (.bool false) := (bc_ BK323.out 4).trans rfl
            have hfz15_0 := blk_frozen BK323.out 0
            have hfz15_1 := blk_frozen BK323.out 1
            have hfz15_2 := blk_frozen BK323.out 2
            have hfz15_3 := blk_frozen BK323.out 3
            have hfz15_4 := blk_frozen BK323.out 4
            go_wp2_with (first | ((with_reducible refine gate_callee (f := 94) rfl ?_); refine goesL_ (some 13) rfl rfl Try.func94 (by kernel_rfl) rfl #[.agg #[.int .i64 ((rd_T87 l0 x7_1).f0), .string ((rd_T87 l0 x7_1).f1), .slice A322_2 ((rd_T87 l0 x7_1).f2).length c322_2, .string ((rd_T87 l0 x7_1).f3), .bool ((rd_T87 l0 x7_1).f4)]] rfl (by (try simp only [List.map_toArray, List.map_cons, List.map_nil]); first | done | rfl | (simp only [List.length_drop, List.length_take]; rfl)) ?_; (with_reducible refine (impl_tokenOk.calls k1 ((rd_T87 l0 x7_1).f0) ((rd_T87 l0 x7_1).f1) _ _ ((rd_T87 l0 x7_1).f2) ((rd_T87 l0 x7_1).f3) ((rd_T87 l0 x7_1).f4) true _ ?side1 ?side2 ?side3 A8.out).mono ?_); (case side1 => exact Kd.C_below HR322_2.out (by repeat (first | (with_reducible first | exact HB.out | apply ba_ | apply bn_ | apply b1_ | refine below_set ?_ GE323.out) | exact HB.out))); (case side2 => exact HC322_2.out); (case side3 => exact MaxSeen.below HG.out (by repeat (first | (with_reducible first | exact HB.out | apply ba_ | apply bn_ | apply b1_ | refine below_set ?_ GE323.out) | exact HB.out))); rintro e w16 ⟨rfl, hb⟩; refine ⟨_, rfl, ?_⟩; have n0_ := Aside0.mk (blk_below (g := gb323) (o := .cells #[.int .i64 ((rd_T87 l0 x7_1).f0), .string ((rd_T87 l0 x7_1).f1), .slice A322_2 ((rd_T87 l0 x7_1).f2).length c322_2, .string ((rd_T87 l0 x7_1).f3), .bool ((rd_T87 l0 x7_1).f4)] 87 (0, 0)) (by (with_reducible repeat (first | refine dn_ ?_ _ | refine dd_ ?_ | refine da_ ?_ _)); refine blk_put (cs := #[.int .i64 ((rd_T87 l0 x7_1).f0), .string ((rd_T87 l0 x7_1).f1), .slice A322_2 ((rd_T87 l0 x7_1).f2).length c322_2, .string ((rd_T87 l0 x7_1).f3), .bool false]) ?_ 4 _ rfl; (with_reducible repeat (first | refine dn_ ?_ _ | refine dd_ ?_ | refine da_ ?_ _)); refine blk_put (cs := #[.int .i64 ((rd_T87 l0 x7_1).f0), .string ((rd_T87 l0 x7_1).f1), .slice A322_2 ((rd_T87 l0 x7_1).f2).length c322_2, .string (⟨#[]⟩ : ByteArray), .bool false]) ?_ 3 _ rfl; (with_reducible repeat (first | refine dn_ ?_ _ | refine dd_ ?_ | refine da_ ?_ _)); refine blk_put (cs := #[.int .i64 ((rd_T87 l0 x7_1).f0), .string ((rd_T87 l0 x7_1).f1), .slice none 0 0, .string (⟨#[]⟩ : ByteArray), .bool false]) ?_ 2 _ rfl; (with_reducible repeat (first | refine dn_ ?_ _ | refine dd_ ?_ | refine da_ ?_ _)); refine blk_put (cs := #[.int .i64 ((rd_T87 l0 x7_1).f0), .string (⟨#[]⟩ : ByteArray), .slice none 0 0, .string (⟨#[]⟩ : ByteArray), .bool false]) ?_ 1 _ rfl; (with_reducible repeat (first | refine dn_ ?_ _ | refine dd_ ?_ | refine da_ ?_ _)); refine blk_put (cs := #[.int .i64 0, .string (⟨#[]⟩ : ByteArray), .slice none 0 0, .string (⟨#[]⟩ : ByteArray), .bool false]) ?_ 0 _ rfl; (with_reducible repeat (first | refine dn_ ?_ _ | refine dd_ ?_ | refine da_ ?_ _)); exact BK323.out) hb); have n1_ := Aside0.mk (below_step (by repeat (first | (with_reducible first | exact HB.out | apply ba_ | apply bn_ | apply b1_ | refine below_set ?_ GE323.out) | exact HB.out)) hb); clear BK323; clear HB; have BK323 := n0_; have HB := n1_; clear n0_ n1_; (try clear hb); have hcz17_0 : w16.cell? ⟨gb323, 0, none⟩ = some (.int .i64 ((rd_T87 l0 x7_1).f0)) := (bc_ BK323.out 0).trans rfl; have hcz17_1 : w16.cell? ⟨gb323, 1, none⟩ = some (.string ((rd_T87 l0 x7_1).f1)) := (bc_ BK323.out 1).trans rfl; have hcz17_2 : w16.cell? ⟨gb323, 2, none⟩ = some (.slice A322_2 ((rd_T87 l0 x7_1).f2).length c322_2) := (bc_ BK323.out 2).trans rfl; have hcz17_3 : w16.cell? ⟨gb323, 3, none⟩ = some (.string ((rd_T87 l0 x7_1).f3)) := (bc_ BK323.out 3).trans rfl; have hcz17_4 : w16.cell? ⟨gb323, 4, none⟩ = some (.bool ((rd_T87 l0 x7_1).f4)) := (bc_ BK323.out 4).trans rfl; have hfz17_0 := blk_frozen BK323.out 0; have hfz17_1 := blk_frozen BK323.out 1; have hfz17_2 := blk_frozen BK323.out 2; have hfz17_3 := blk_frozen BK323.out 3; have hfz17_4 := blk_frozen BK323.out 4; have p325 : 0 ≤ ((ji12) : Int) := dq_ (by assumption); have q325 : (ji12) < (l0.length : Int) := dq_ (by assumption); obtain ⟨ad325, A325_2, c325_2, e325, hx325_0, hx325_1, hx325_2, hx325_3, hx325_4, hl325_2, hi325_2⟩ := at_T87 HR0.out (ji12) p325 q325; obtain rfl : ad322 = ad325 := (by injection e325); replace hx325_0 := pw_cell_below HB.out hx325_0; replace hx325_1 := pw_cell_below HB.out hx325_1; replace hx325_2 := pw_cell_below HB.out hx325_2; replace hx325_3 := pw_cell_below HB.out hx325_3; replace hx325_4 := pw_cell_below HB.out hx325_4; have HR325_2 := Aside0.mk hi325_2; have HC325_2 := Aside0.mk hl325_2; clear hi325_2 hl325_2; replace p325 := eq_true p325; replace q325 := eq_true q325))
            (try subst hji12)
            go_meet
            case rel => exact ⟨_, ((((rd_T87 l0 ((wrap64 (x7_1 - 1)))).f0) == 1)), (by first | rfl | (simp; done) | (simp only [← hji12] <;> (first | rfl | simp)) | (simp [*]; done)), H', ⟨by have := HK1.out; first | omega | exact Nat.le_refl _⟩, ⟨by (with_reducible repeat (first | refine dn_ ?_ _ | refine dd_ ?_ | refine da_ ?_ _)); exact BK323.out⟩, ⟨by repeat (first | (with_reducible first | exact HB.out | apply ba_ | apply bn_ | apply b1_ | refine below_set ?_ GE323.out) | exact HB.out)⟩⟩
           ·rw [if_neg c14] at H
            exact absurd H (by simp)
          ·rw [if_neg c13] at H
           exact absurd H (by simp)
         ·rw [if_neg c11] at H
          have c11b0 : (((rd_T87 l0 x7_1).f0) == 1) = false := beq_eq_false_iff_ne.mpr c11
          have c11b1 : (((rd_T87 l0 x7_1).f0) != 1) = true := bne_iff_ne.mpr c11
          have H' := Aside0.mk H
          clear H
          have hcz18_0 : w6.cell? ⟨gb323, 0, none⟩ = some (.int .i64 0) := (bc_ BK323.out 0).trans rfl
          have hcz18_1 : w6.cell? ⟨gb323, 1, none⟩ = some (.string (⟨#[]⟩ : ByteArray)) := (bc_ BK323.out 1).trans rfl
          have hcz18_2 : w6.cell? ⟨gb323, 2, none⟩ = some (.slice none 0 0) := (bc_ BK323.out 2).trans rfl
          have hcz18_3 : w6.cell? ⟨gb323, 3, none⟩ = some (.string (⟨#[]⟩ : ByteArray)) := (bc_ BK323.out 3).trans rfl
          have hcz18_4 : w6.cell? ⟨gb323, 4, none⟩ = some (.bool false) := (bc_ BK323.out 4).trans rfl
          have hfz18_0 := blk_frozen BK323.out 0
          have hfz18_1 := blk_frozen BK323.out 1
          have hfz18_2 := blk_frozen BK323.out 2
          have hfz18_3 := blk_frozen BK323.out 3
          have hfz18_4 := blk_frozen BK323.out 4
          go_wp2_with (first | ((with_reducible refine gate_callee (f := 94) rfl ?_); refine goesL_ (some 13) rfl rfl Try.func94 (by kernel_rfl) rfl #[.agg #[.int .i64 ((rd_T87 l0 x7_1).f0), .string ((rd_T87 l0 x7_1).f1), .slice A322_2 ((rd_T87 l0 x7_1).f2).length c322_2, .string ((rd_T87 l0 x7_1).f3), .bool ((rd_T87 l0 x7_1).f4)]] rfl (by (try simp only [List.map_toArray, List.map_cons, List.map_nil]); first | done | rfl | (simp only [List.length_drop, List.length_take]; rfl)) ?_; (with_reducible refine (impl_tokenOk.calls k1 ((rd_T87 l0 x7_1).f0) ((rd_T87 l0 x7_1).f1) _ _ ((rd_T87 l0 x7_1).f2) ((rd_T87 l0 x7_1).f3) ((rd_T87 l0 x7_1).f4) true _ ?side1 ?side2 ?side3 A8.out).mono ?_); (case side1 => exact Kd.C_below HR322_2.out (by repeat (first | (with_reducible first | exact HB.out | apply ba_ | apply bn_ | apply b1_ | refine below_set ?_ GE323.out) | exact HB.out))); (case side2 => exact HC322_2.out); (case side3 => exact MaxSeen.below HG.out (by repeat (first | (with_reducible first | exact HB.out | apply ba_ | apply bn_ | apply b1_ | refine below_set ?_ GE323.out) | exact HB.out))); rintro e w19 ⟨rfl, hb⟩; refine ⟨_, rfl, ?_⟩; have n0_ := Aside0.mk (blk_below (g := gb323) (o := .cells #[.int .i64 ((rd_T87 l0 x7_1).f0), .string ((rd_T87 l0 x7_1).f1), .slice A322_2 ((rd_T87 l0 x7_1).f2).length c322_2, .string ((rd_T87 l0 x7_1).f3), .bool ((rd_T87 l0 x7_1).f4)] 87 (0, 0)) (by (with_reducible repeat (first | refine dn_ ?_ _ | refine dd_ ?_ | refine da_ ?_ _)); refine blk_put (cs := #[.int .i64 ((rd_T87 l0 x7_1).f0), .string ((rd_T87 l0 x7_1).f1), .slice A322_2 ((rd_T87 l0 x7_1).f2).length c322_2, .string ((rd_T87 l0 x7_1).f3), .bool false]) ?_ 4 _ rfl; (with_reducible repeat (first | refine dn_ ?_ _ | refine dd_ ?_ | refine da_ ?_ _)); refine blk_put (cs := #[.int .i64 ((rd_T87 l0 x7_1).f0), .string ((rd_T87 l0 x7_1).f1), .slice A322_2 ((rd_T87 l0 x7_1).f2).length c322_2, .string (⟨#[]⟩ : ByteArray), .bool false]) ?_ 3 _ rfl; (with_reducible repeat (first | refine dn_ ?_ _ | refine dd_ ?_ | refine da_ ?_ _)); refine blk_put (cs := #[.int .i64 ((rd_T87 l0 x7_1).f0), .string ((rd_T87 l0 x7_1).f1), .slice none 0 0, .string (⟨#[]⟩ : ByteArray), .bool false]) ?_ 2 _ rfl; (with_reducible repeat (first | refine dn_ ?_ _ | refine dd_ ?_ | refine da_ ?_ _)); refine blk_put (cs := #[.int .i64 ((rd_T87 l0 x7_1).f0), .string (⟨#[]⟩ : ByteArray), .slice none 0 0, .string (⟨#[]⟩ : ByteArray), .bool false]) ?_ 1 _ rfl; (with_reducible repeat (first | refine dn_ ?_ _ | refine dd_ ?_ | refine da_ ?_ _)); refine blk_put (cs := #[.int .i64 0, .string (⟨#[]⟩ : ByteArray), .slice none 0 0, .string (⟨#[]⟩ : ByteArray), .bool false]) ?_ 0 _ rfl; (with_reducible repeat (first | refine dn_ ?_ _ | refine dd_ ?_ | refine da_ ?_ _)); exact BK323.out) hb); have n1_ := Aside0.mk (below_step (by repeat (first | (with_reducible first | exact HB.out | apply ba_ | apply bn_ | apply b1_ | refine below_set ?_ GE323.out) | exact HB.out)) hb); clear BK323; clear HB; have BK323 := n0_; have HB := n1_; clear n0_ n1_; (try clear hb); have hcz20_0 : w19.cell? ⟨gb323, 0, none⟩ = some (.int .i64 ((rd_T87 l0 x7_1).f0)) := (bc_ BK323.out 0).trans rfl; have hcz20_1 : w19.cell? ⟨gb323, 1, none⟩ = some (.string ((rd_T87 l0 x7_1).f1)) := (bc_ BK323.out 1).trans rfl; have hcz20_2 : w19.cell? ⟨gb323, 2, none⟩ = some (.slice A322_2 ((rd_T87 l0 x7_1).f2).length c322_2) := (bc_ BK323.out 2).trans rfl; have hcz20_3 : w19.cell? ⟨gb323, 3, none⟩ = some (.string ((rd_T87 l0 x7_1).f3)) := (bc_ BK323.out 3).trans rfl; have hcz20_4 : w19.cell? ⟨gb323, 4, none⟩ = some (.bool ((rd_T87 l0 x7_1).f4)) := (bc_ BK323.out 4).trans rfl; have hfz20_0 := blk_frozen BK323.out 0; have hfz20_1 := blk_frozen BK323.out 1; have hfz20_2 := blk_frozen BK323.out 2; have hfz20_3 := blk_frozen BK323.out 3; have hfz20_4 := blk_frozen BK323.out 4))
          (try subst hji12)
          go_meet
          case rel => exact ⟨_, (false), (by first | rfl | (simp; done) | (simp [*]; done)), H', ⟨by have := HK1.out; first | omega | exact Nat.le_refl _⟩, ⟨by (with_reducible repeat (first | refine dn_ ?_ _ | refine dd_ ?_ | refine da_ ?_ _)); exact BK323.out⟩, ⟨by repeat (first | (with_reducible first | exact HB.out | apply ba_ | apply bn_ | apply b1_ | refine below_set ?_ GE323.out) | exact HB.out)⟩⟩
        ·rw [if_neg c10] at H
         have c10b0 : decide (0 < x7_1) = false := decide_eq_false c10
         clear c10
         (first | rw [c10b0] | (simp only [i64_w, i32_w]; rw [c10b0]) | skip)
         have H' := Aside0.mk H
         clear H
         have hcz21_0 : w6.cell? ⟨gb323, 0, none⟩ = some (.int .i64 0) := (bc_ BK323.out 0).trans rfl
         have hcz21_1 : w6.cell? ⟨gb323, 1, none⟩ = some (.string (⟨#[]⟩ : ByteArray)) := (bc_ BK323.out 1).trans rfl
         have hcz21_2 : w6.cell? ⟨gb323, 2, none⟩ = some (.slice none 0 0) := (bc_ BK323.out 2).trans rfl
         have hcz21_3 : w6.cell? ⟨gb323, 3, none⟩ = some (.string (⟨#[]⟩ : ByteArray)) := (bc_ BK323.out 3).trans rfl
         have hcz21_4 : w6.cell? ⟨gb323, 4, none⟩ = some (.bool false) := (bc_ BK323.out 4).trans rfl
         have hfz21_0 := blk_frozen BK323.out 0
         have hfz21_1 := blk_frozen BK323.out 1
         have hfz21_2 := blk_frozen BK323.out 2
         have hfz21_3 := blk_frozen BK323.out 3
         have hfz21_4 := blk_frozen BK323.out 4
         go_wp2_with (first | ((with_reducible refine gate_callee (f := 94) rfl ?_); refine goesL_ (some 13) rfl rfl Try.func94 (by kernel_rfl) rfl #[.agg #[.int .i64 ((rd_T87 l0 x7_1).f0), .string ((rd_T87 l0 x7_1).f1), .slice A322_2 ((rd_T87 l0 x7_1).f2).length c322_2, .string ((rd_T87 l0 x7_1).f3), .bool ((rd_T87 l0 x7_1).f4)]] rfl (by (try simp only [List.map_toArray, List.map_cons, List.map_nil]); first | done | rfl | (simp only [List.length_drop, List.length_take]; rfl)) ?_; (with_reducible refine (impl_tokenOk.calls k1 ((rd_T87 l0 x7_1).f0) ((rd_T87 l0 x7_1).f1) _ _ ((rd_T87 l0 x7_1).f2) ((rd_T87 l0 x7_1).f3) ((rd_T87 l0 x7_1).f4) true _ ?side1 ?side2 ?side3 A8.out).mono ?_); (case side1 => exact Kd.C_below HR322_2.out (by repeat (first | (with_reducible first | exact HB.out | apply ba_ | apply bn_ | apply b1_ | refine below_set ?_ GE323.out) | exact HB.out))); (case side2 => exact HC322_2.out); (case side3 => exact MaxSeen.below HG.out (by repeat (first | (with_reducible first | exact HB.out | apply ba_ | apply bn_ | apply b1_ | refine below_set ?_ GE323.out) | exact HB.out))); rintro e w22 ⟨rfl, hb⟩; refine ⟨_, rfl, ?_⟩; have n0_ := Aside0.mk (blk_below (g := gb323) (o := .cells #[.int .i64 ((rd_T87 l0 x7_1).f0), .string ((rd_T87 l0 x7_1).f1), .slice A322_2 ((rd_T87 l0 x7_1).f2).length c322_2, .string ((rd_T87 l0 x7_1).f3), .bool ((rd_T87 l0 x7_1).f4)] 87 (0, 0)) (by (with_reducible repeat (first | refine dn_ ?_ _ | refine dd_ ?_ | refine da_ ?_ _)); refine blk_put (cs := #[.int .i64 ((rd_T87 l0 x7_1).f0), .string ((rd_T87 l0 x7_1).f1), .slice A322_2 ((rd_T87 l0 x7_1).f2).length c322_2, .string ((rd_T87 l0 x7_1).f3), .bool false]) ?_ 4 _ rfl; (with_reducible repeat (first | refine dn_ ?_ _ | refine dd_ ?_ | refine da_ ?_ _)); refine blk_put (cs := #[.int .i64 ((rd_T87 l0 x7_1).f0), .string ((rd_T87 l0 x7_1).f1), .slice A322_2 ((rd_T87 l0 x7_1).f2).length c322_2, .string (⟨#[]⟩ : ByteArray), .bool false]) ?_ 3 _ rfl; (with_reducible repeat (first | refine dn_ ?_ _ | refine dd_ ?_ | refine da_ ?_ _)); refine blk_put (cs := #[.int .i64 ((rd_T87 l0 x7_1).f0), .string ((rd_T87 l0 x7_1).f1), .slice none 0 0, .string (⟨#[]⟩ : ByteArray), .bool false]) ?_ 2 _ rfl; (with_reducible repeat (first | refine dn_ ?_ _ | refine dd_ ?_ | refine da_ ?_ _)); refine blk_put (cs := #[.int .i64 ((rd_T87 l0 x7_1).f0), .string (⟨#[]⟩ : ByteArray), .slice none 0 0, .string (⟨#[]⟩ : ByteArray), .bool false]) ?_ 1 _ rfl; (with_reducible repeat (first | refine dn_ ?_ _ | refine dd_ ?_ | refine da_ ?_ _)); refine blk_put (cs := #[.int .i64 0, .string (⟨#[]⟩ : ByteArray), .slice none 0 0, .string (⟨#[]⟩ : ByteArray), .bool false]) ?_ 0 _ rfl; (with_reducible repeat (first | refine dn_ ?_ _ | refine dd_ ?_ | refine da_ ?_ _)); exact BK323.out) hb); have n1_ := Aside0.mk (below_step (by repeat (first | (with_reducible first | exact HB.out | apply ba_ | apply bn_ | apply b1_ | refine below_set ?_ GE323.out) | exact HB.out)) hb); clear BK323; clear HB; have BK323 := n0_; have HB := n1_; clear n0_ n1_; (try clear hb)))
         go_meet
         case rel => exact ⟨_, (false), (by first | rfl | (simp; done) | (simp [*]; done)), H', ⟨by have := HK1.out; first | omega | exact Nat.le_refl _⟩, ⟨by (with_reducible repeat (first | refine dn_ ?_ _ | refine dd_ ?_ | refine da_ ?_ _)); exact BK323.out⟩, ⟨by repeat (first | (with_reducible first | exact HB.out | apply ba_ | apply bn_ | apply b1_ | refine below_set ?_ GE323.out) | exact HB.out)⟩⟩
       ·replace c9 := Bool.eq_false_iff.mpr c9
        subst c9
        have H1 : (impl_TokensOk.j1 k1 l0 x7_1 l0 (l0.length : Int) x7_1 true ((rd_T87 l0 x7_1).f0) ((rd_T87 l0 x7_1).f1) ((rd_T87 l0 x7_1).f2) ((rd_T87 l0 x7_1).f3) ((rd_T87 l0 x7_1).f4)) = some r := by rw [if_neg (show ¬ (false = true) by decide)] at H; exact H
        clear H
        have H := H1
        clear H1
        have H' := Aside0.mk H
        clear H
        have hcz23_0 : w6.cell? ⟨gb323, 0, none⟩ = some (.int .i64 0) := (bc_ BK323.out 0).trans rfl
        have hcz23_1 : w6.cell? ⟨gb323, 1, none⟩ = some (.string (⟨#[]⟩ : ByteArray)) := (bc_ BK323.out 1).trans rfl
        have hcz23_2 : w6.cell? ⟨gb323, 2, none⟩ = some (.slice none 0 0) := (bc_ BK323.out 2).trans rfl
        have hcz23_3 : w6.cell? ⟨gb323, 3, none⟩ = some (.string (⟨#[]⟩ : ByteArray)) := (bc_ BK323.out 3).trans rfl
        have hcz23_4 : w6.cell? ⟨gb323, 4, none⟩ = some (.bool false) := (bc_ BK323.out 4).trans rfl
        have hfz23_0 := blk_frozen BK323.out 0
        have hfz23_1 := blk_frozen BK323.out 1
        have hfz23_2 := blk_frozen BK323.out 2
        have hfz23_3 := blk_frozen BK323.out 3
        have hfz23_4 := blk_frozen BK323.out 4
        go_wp2_with (first | ((with_reducible refine gate_callee (f := 94) rfl ?_); refine goesL_ (some 13) rfl rfl Try.func94 (by kernel_rfl) rfl #[.agg #[.int .i64 ((rd_T87 l0 x7_1).f0), .string ((rd_T87 l0 x7_1).f1), .slice A322_2 ((rd_T87 l0 x7_1).f2).length c322_2, .string ((rd_T87 l0 x7_1).f3), .bool ((rd_T87 l0 x7_1).f4)]] rfl (by (try simp only [List.map_toArray, List.map_cons, List.map_nil]); first | done | rfl | (simp only [List.length_drop, List.length_take]; rfl)) ?_; (with_reducible refine (impl_tokenOk.calls k1 ((rd_T87 l0 x7_1).f0) ((rd_T87 l0 x7_1).f1) _ _ ((rd_T87 l0 x7_1).f2) ((rd_T87 l0 x7_1).f3) ((rd_T87 l0 x7_1).f4) false _ ?side1 ?side2 ?side3 A8.out).mono ?_); (case side1 => exact Kd.C_below HR322_2.out (by repeat (first | (with_reducible first | exact HB.out | apply ba_ | apply bn_ | apply b1_ | refine below_set ?_ GE323.out) | exact HB.out))); (case side2 => exact HC322_2.out); (case side3 => exact MaxSeen.below HG.out (by repeat (first | (with_reducible first | exact HB.out | apply ba_ | apply bn_ | apply b1_ | refine below_set ?_ GE323.out) | exact HB.out))); rintro e w24 ⟨rfl, hb⟩; refine ⟨_, rfl, ?_⟩; have n0_ := Aside0.mk (blk_below (g := gb323) (o := .cells #[.int .i64 ((rd_T87 l0 x7_1).f0), .string ((rd_T87 l0 x7_1).f1), .slice A322_2 ((rd_T87 l0 x7_1).f2).length c322_2, .string ((rd_T87 l0 x7_1).f3), .bool ((rd_T87 l0 x7_1).f4)] 87 (0, 0)) (by (with_reducible repeat (first | refine dn_ ?_ _ | refine dd_ ?_ | refine da_ ?_ _)); refine blk_put (cs := #[.int .i64 ((rd_T87 l0 x7_1).f0), .string ((rd_T87 l0 x7_1).f1), .slice A322_2 ((rd_T87 l0 x7_1).f2).length c322_2, .string ((rd_T87 l0 x7_1).f3), .bool false]) ?_ 4 _ rfl; (with_reducible repeat (first | refine dn_ ?_ _ | refine dd_ ?_ | refine da_ ?_ _)); refine blk_put (cs := #[.int .i64 ((rd_T87 l0 x7_1).f0), .string ((rd_T87 l0 x7_1).f1), .slice A322_2 ((rd_T87 l0 x7_1).f2).length c322_2, .string (⟨#[]⟩ : ByteArray), .bool false]) ?_ 3 _ rfl; (with_reducible repeat (first | refine dn_ ?_ _ | refine dd_ ?_ | refine da_ ?_ _)); refine blk_put (cs := #[.int .i64 ((rd_T87 l0 x7_1).f0), .string ((rd_T87 l0 x7_1).f1), .slice none 0 0, .string (⟨#[]⟩ : ByteArray), .bool false]) ?_ 2 _ rfl; (with_reducible repeat (first | refine dn_ ?_ _ | refine dd_ ?_ | refine da_ ?_ _)); refine blk_put (cs := #[.int .i64 ((rd_T87 l0 x7_1).f0), .string (⟨#[]⟩ : ByteArray), .slice none 0 0, .string (⟨#[]⟩ : ByteArray), .bool false]) ?_ 1 _ rfl; (with_reducible repeat (first | refine dn_ ?_ _ | refine dd_ ?_ | refine da_ ?_ _)); refine blk_put (cs := #[.int .i64 0, .string (⟨#[]⟩ : ByteArray), .slice none 0 0, .string (⟨#[]⟩ : ByteArray), .bool false]) ?_ 0 _ rfl; (with_reducible repeat (first | refine dn_ ?_ _ | refine dd_ ?_ | refine da_ ?_ _)); exact BK323.out) hb); have n1_ := Aside0.mk (below_step (by repeat (first | (with_reducible first | exact HB.out | apply ba_ | apply bn_ | apply b1_ | refine below_set ?_ GE323.out) | exact HB.out)) hb); clear BK323; clear HB; have BK323 := n0_; have HB := n1_; clear n0_ n1_; (try clear hb)))
        go_meet
        case rel => exact ⟨_, (true), (by first | rfl | (simp; done) | (simp [*]; done)), H', ⟨by have := HK1.out; first | omega | exact Nat.le_refl _⟩, ⟨by (with_reducible repeat (first | refine dn_ ?_ _ | refine dd_ ?_ | refine da_ ?_ _)); exact BK323.out⟩, ⟨by repeat (first | (with_reducible first | exact HB.out | apply ba_ | apply bn_ | apply b1_ | refine below_set ?_ GE323.out) | exact HB.out)⟩⟩
      case rest =>
       clear HC5
       try clear c1
       try clear c2
       try clear c2b0
       try clear c3
       try clear c3b0
       try clear c4
       try clear c4b0
       try clear c9
       try clear c10
       try clear c10b0
       try clear c11
       try clear c11b0
       try clear c11b1
       try clear c13
       try clear c13b0
       try clear c14
       try clear c14b0
       try clear hcz15_0
       try clear hcz15_1
       try clear hcz15_2
       try clear hcz15_3
       try clear hcz15_4
       try clear hcz17_0
       try clear hcz17_1
       try clear hcz17_2
       try clear hcz17_3
       try clear hcz17_4
       try clear hcz18_0
       try clear hcz18_1
       try clear hcz18_2
       try clear hcz18_3
       try clear hcz18_4
       try clear hcz20_0
       try clear hcz20_1
       try clear hcz20_2
       try clear hcz20_3
       try clear hcz20_4
       try clear hcz21_0
       try clear hcz21_1
       try clear hcz21_2
       try clear hcz21_3
       try clear hcz21_4
       try clear hcz23_0
       try clear hcz23_1
       try clear hcz23_2
       try clear hcz23_3
       try clear hcz23_4
       try clear hcz7_0
       try clear hcz7_1
       try clear hcz7_2
       try clear hcz7_3
       try clear hcz7_4
       try clear hfz15_0
       try clear hfz15_1
       try clear hfz15_2
       try clear hfz15_3
       try clear hfz15_4
       try clear hfz17_0
       try clear hfz17_1
       try clear hfz17_2
       try clear hfz17_3
       try clear hfz17_4
       try clear hfz18_0
       try clear hfz18_1
       try clear hfz18_2
       try clear hfz18_3
       try clear hfz18_4
       try clear hfz20_0
       try clear hfz20_1
       try clear hfz20_2
       try clear hfz20_3
       try clear hfz20_4
       try clear hfz21_0
       try clear hfz21_1
       try clear hfz21_2
       try clear hfz21_3
       try clear hfz21_4
       try clear hfz23_0
       try clear hfz23_1
       try clear hfz23_2
       try clear hfz23_3
       try clear hfz23_4
       try clear hfz7_0
       try clear hfz7_1
       try clear hfz7_2
       try clear hfz7_3
       try clear hfz7_4
       try clear hx322_0
       try clear hx322_1
       try clear hx322_2
       try clear hx322_3
       try clear hx322_4
       try clear hx325_0
       try clear hx325_1
       try clear hx325_2
       try clear hx325_3
       try clear hx325_4
       try clear p322
       try clear p325
       try clear q322
       try clear q325
       obtain ⟨kq, x32_4, rfl, HA, HJ4, BK323, HB⟩ := hcut
       cases kq with
       | zero => exact absurd HA.out (by simp [impl_TokensOk.j1])
       | succ kj4 =>
        have H := HA.out
        clear HA
        simp only [impl_TokensOk.j1] at H
        by_cases c25 : x32_4 = true
        ·subst c25
         have H1 : (some false) = some r := by rw [if_pos rfl] at H; exact H
         clear H
         have H := H1
         clear H1
         obtain rfl := Option.some.inj H
         go_wp2
         go_ret
         exact ⟨by first | rfl | (simp [errW_none, errW_some] <;> rfl) | (simp [*, errW_none, errW_some] <;> rfl), by repeat (first | (with_reducible first | exact HB.out | apply ba_ | apply bn_ | apply b1_ | refine below_set ?_ GE323.out) | exact HB.out)⟩
        ·replace c25 := Bool.eq_false_iff.mpr c25
         subst c25
         have H1 : (if ((rd_T87 l0 x7_1).f0) = 2 then (if ((rd_T87 l0 x7_1).f4) = true then (impl_TokensOk.l0 kj4 l0 l0 (l0.length : Int) (wrap64 (x7_1 + 1))) else ((impl_Raw.f ((rd_T87 l0 x7_1).f1)).bind fun t326 => (if t326 = true then (if 0 ≤ (wrap64 (x7_1 + 1)) then (if (wrap64 (x7_1 + 1)) ≤ (l0.length : Int) then ((impl_rawOk.f kj4 ((rd_T87 l0 x7_1).f1) (l0.drop ((wrap64 (x7_1 + 1)) : Int).toNat)).bind fun t331 => (if t331 = true then (impl_TokensOk.l0 kj4 l0 l0 (l0.length : Int) (wrap64 (x7_1 + 1))) else (some false))) else (none)) else (none)) else (impl_TokensOk.l0 kj4 l0 l0 (l0.length : Int) (wrap64 (x7_1 + 1)))))) else (impl_TokensOk.l0 kj4 l0 l0 (l0.length : Int) (wrap64 (x7_1 + 1)))) = some r := by rw [if_neg (show ¬ (false = true) by decide)] at H; exact H
         clear H
         have H := H1
         clear H1
         by_cases c26 : ((rd_T87 l0 x7_1).f0) = 2
         ·rw [if_pos c26] at H
          have c26b0 : (((rd_T87 l0 x7_1).f0) == 2) = true := beq_iff_eq.mpr c26
          have c26b1 : (((rd_T87 l0 x7_1).f0) != 2) = false := bne_eq_false_iff_eq.mpr c26
          clear c26
          by_cases c27 : ((rd_T87 l0 x7_1).f4) = true
          ·rw [if_pos c27] at H
           have c27b0 : ((rd_T87 l0 x7_1).f4) = true := c27
           clear c27
           have H' := Aside0.mk H
           clear H
           try go_wp2
           have n0_ := Aside0.mk (dd_ BK323.out)
           have n1_ := Aside0.mk (b1_ HB.out)
           clear BK323
           clear HB
           have BK323 := n0_
           have HB := n1_
           clear n0_ n1_
           refine start_ (n := 23) (S := fun w' => w'.cell? ⟨gb323, 0, none⟩ = some (.int .i64 ((rd_T87 l0 x7_1).f0)) ∧ w'.cell? ⟨gb323, 1, none⟩ = some (.string ((rd_T87 l0 x7_1).f1)) ∧ w'.cell? ⟨gb323, 2, none⟩ = some (.slice A322_2 ((rd_T87 l0 x7_1).f2).length c322_2) ∧ w'.cell? ⟨gb323, 3, none⟩ = some (.string ((rd_T87 l0 x7_1).f3)) ∧ w'.cell? ⟨gb323, 4, none⟩ = some (.bool ((rd_T87 l0 x7_1).f4))) (ds := []) q16_0 (by kernel_rfl) rfl rfl ⟨(bc_ BK323.out 0).trans rfl, (bc_ BK323.out 1).trans rfl, (bc_ BK323.out 2).trans rfl, (bc_ BK323.out 3).trans rfl, (bc_ BK323.out 4).trans rfl⟩ (fun hHeld => ?_); refine with_tabW impl_TokensOk.tab6 impl_TokensOk.bits6 (fun HT_ HW_ => ?_)
           generalize wc.drew = w28 at BK323 HB hHeld ⊢
           refine pn_ HT_ 0 33 ?_ ?_ q16_1 rfl rfl (by kernel_rfl) (fun _ _ _ h => h) (by rfl) ?_ ?_ ?_
           rotate_left 2;(intro w';go_simp;with_reducible rfl);(simp only [Act.put, sa_, sz_, ss_, i64_w, i32_w];rfl)
           refine tn_ HT_ HW_ 1 34 ?_ ?_ q16_2 rfl rfl (by kernel_rfl) (fun _ _ _ h => h) (by rfl) hHeld ?_ ?_ ?_
           rotate_left 2;(rintro w' ⟨s0, s1, s2, s3, s4⟩;go_simp;with_reducible rfl);(simp only [Act.put, sa_, sz_, ss_, i64_w, i32_w];rfl)
           refine pn_ HT_ 2 35 ?_ ?_ q16_3 rfl rfl (by kernel_rfl) (fun _ _ _ h => h) (by rfl) ?_ ?_ ?_
           rotate_left 2;(intro w';go_simp;with_reducible rfl);(simp only [Act.put, sa_, sz_, ss_, i64_w, i32_w];rfl)
           refine pn_ HT_ 3 36 ?_ ?_ q16_4 rfl rfl (by kernel_rfl) (fun _ _ _ h => h) (by rfl) ?_ ?_ ?_
           rotate_left 2;(intro w';go_simp;with_reducible rfl);(simp only [Act.put, sa_, sz_, ss_, i64_w, i32_w];rfl)
           refine pn_ HT_ 4 37 ?_ ?_ q16_5 rfl rfl (by kernel_rfl) (fun _ _ _ h => h) (by rfl) ?_ ?_ ?_
           rotate_left 2;(intro w';go_simp;with_reducible rfl);(simp only [Act.put, sa_, sz_, ss_, i64_w, i32_w];rfl)
           refine tn_ HT_ HW_ 5 38 ?_ ?_ q16_6 rfl rfl (by kernel_rfl) (fun _ _ _ h => h) (by rfl) hHeld ?_ ?_ ?_
           rotate_left 2;(rintro w' ⟨s0, s1, s2, s3, s4⟩;go_simp;with_reducible rfl);(simp only [Act.put, sa_, sz_, ss_, i64_w, i32_w];rfl)
           refine pn_ HT_ 6 39 ?_ ?_ q16_7 rfl rfl (by kernel_rfl) (fun _ _ _ h => h) (by rfl) ?_ ?_ ?_
           rotate_left 2;(intro w';go_simp;with_reducible rfl);(simp only [Act.put, sa_, sz_, ss_, i64_w, i32_w];rfl)
           refine pn_ HT_ 7 40 ?_ ?_ q16_8 rfl rfl (by kernel_rfl) (fun _ _ _ h => h) (by rfl) ?_ ?_ ?_
           rotate_left 2;(intro w';go_simp;with_reducible rfl);(simp only [Act.put, sa_, sz_, ss_, i64_w, i32_w];rfl)
           refine pn_ HT_ 8 41 ?_ ?_ q16_9 rfl rfl (by kernel_rfl) (fun _ _ _ h => h) (by rfl) ?_ ?_ ?_
           rotate_left 2;(intro w';go_simp;with_reducible rfl);(simp only [Act.put, sa_, sz_, ss_, i64_w, i32_w];rfl)
           refine po_ HT_ 9 42 ?_ q16_10 rfl rfl (by kernel_rfl) (fun _ _ _ h => h) (by rfl) ?_ ?_
           rotate_left;(simp only [Act.put, sa_, sz_, ss_, i64_w, i32_w];rfl)
           refine po_ HT_ 10 43 ?_ q16_11 rfl rfl (by kernel_rfl) (fun _ _ _ h => h) (by rfl) ?_ ?_
           rotate_left;(simp only [Act.put, sa_, sz_, ss_, i64_w, i32_w];rfl)
           refine po_ HT_ 11 44 ?_ q16_12 rfl rfl (by kernel_rfl) (fun _ _ _ h => h) (by rfl) ?_ ?_
           rotate_left;(simp only [Act.put, sa_, sz_, ss_, i64_w, i32_w];rfl)
           refine pn_ HT_ 12 45 ?_ ?_ q16_13 rfl rfl (by kernel_rfl) (fun _ _ _ h => h) (by rfl) ?_ ?_ ?_
           rotate_left 2;(intro w';go_simp;with_reducible rfl);(simp only [Act.put, sa_, sz_, ss_, i64_w, i32_w];rfl)
           refine pn_ HT_ 13 46 ?_ ?_ q16_14 rfl rfl (by kernel_rfl) (fun _ _ _ h => h) (by rfl) ?_ ?_ ?_
           rotate_left 2;(intro w';go_simp;with_reducible rfl);(simp only [Act.put, sa_, sz_, ss_, i64_w, i32_w];rfl)
           refine po_ HT_ 14 47 ?_ q16_15 rfl rfl (by kernel_rfl) (fun _ _ _ h => h) (by rfl) ?_ ?_
           rotate_left;(simp only [Act.put, sa_, sz_, ss_, i64_w, i32_w];rfl)
           refine po_ HT_ 15 48 ?_ q16_16 rfl rfl (by kernel_rfl) (fun _ _ _ h => h) (by rfl) ?_ ?_
           rotate_left;(simp only [Act.put, sa_, sz_, ss_, i64_w, i32_w];rfl)
           refine po_ HT_ 16 49 ?_ q16_17 rfl rfl (by kernel_rfl) (fun _ _ _ h => h) (by rfl) ?_ ?_
           rotate_left;(simp only [Act.put, sa_, sz_, ss_, i64_w, i32_w];rfl)
           refine po_ HT_ 17 50 ?_ q16_18 rfl rfl (by kernel_rfl) (fun _ _ _ h => h) (by rfl) ?_ ?_
           rotate_left;(simp only [Act.put, sa_, sz_, ss_, i64_w, i32_w];rfl)
           refine po_ HT_ 18 51 ?_ q16_19 rfl rfl (by kernel_rfl) (fun _ _ _ h => h) (by rfl) ?_ ?_
           rotate_left;(simp only [Act.put, sa_, sz_, ss_, i64_w, i32_w];rfl)
           refine po_ HT_ 19 52 ?_ q16_20 rfl rfl (by kernel_rfl) (fun _ _ _ h => h) (by rfl) ?_ ?_
           rotate_left;(simp only [Act.put, sa_, sz_, ss_, i64_w, i32_w];rfl)
           refine po_ HT_ 20 53 ?_ q16_21 rfl rfl (by kernel_rfl) (fun _ _ _ h => h) (by rfl) ?_ ?_
           rotate_left;(simp only [Act.put, sa_, sz_, ss_, i64_w, i32_w];rfl)
           refine po_ HT_ 21 54 ?_ q16_22 rfl rfl (by kernel_rfl) (fun _ _ _ h => h) (by rfl) ?_ ?_
           rotate_left;(simp only [Act.put, sa_, sz_, ss_, i64_w, i32_w];rfl)
           refine pn_ HT_ 22 55 ?_ ?_ q16_23 rfl rfl (by kernel_rfl) (fun _ _ _ h => h) (by rfl) ?_ ?_ ?_
           rotate_left 2;(intro w';go_simp;with_reducible rfl);(simp only [Act.put, sa_, sz_, ss_, i64_w, i32_w];rfl)
           refine done_ (done_of HT_.out (by kernel_rfl)) ?_
           try go_wp2
           go_roundg kj4
           case measure => have := HK1.out; have := HJ4.out; omega
           case rel => exact ⟨(wrap64 (x7_1 + 1)), (by first | rfl | (simp; done) | (simp [*]; done)), H', ⟨by have := HK1.out; have := HJ4.out; omega⟩, ⟨by repeat (first | (with_reducible first | exact HB.out | apply ba_ | apply bn_ | apply b1_ | refine below_set ?_ GE323.out) | exact HB.out)⟩⟩
          ·rw [if_neg c27] at H
           have c27b0 : ((rd_T87 l0 x7_1).f4) = false := by simpa using c27
           clear c27
           replace H := Option.bind_eq_some_iff.mp H
           obtain ⟨t326, A290, H⟩ := H
           replace H : (if t326 = true then (if 0 ≤ (wrap64 (x7_1 + 1)) then (if (wrap64 (x7_1 + 1)) ≤ (l0.length : Int) then ((impl_rawOk.f kj4 ((rd_T87 l0 x7_1).f1) (l0.drop ((wrap64 (x7_1 + 1)) : Int).toNat)).bind fun t331 => (if t331 = true then (impl_TokensOk.l0 kj4 l0 l0 (l0.length : Int) (wrap64 (x7_1 + 1))) else (some false))) else (none)) else (none)) else (impl_TokensOk.l0 kj4 l0 l0 (l0.length : Int) (wrap64 (x7_1 + 1)))) = some r := H
           have A29 := Aside0.mk A290
           clear A290
           by_cases c30 : t326 = true
           ·subst c30
            have H1 : (if 0 ≤ (wrap64 (x7_1 + 1)) then (if (wrap64 (x7_1 + 1)) ≤ (l0.length : Int) then ((impl_rawOk.f kj4 ((rd_T87 l0 x7_1).f1) (l0.drop ((wrap64 (x7_1 + 1)) : Int).toNat)).bind fun t331 => (if t331 = true then (impl_TokensOk.l0 kj4 l0 l0 (l0.length : Int) (wrap64 (x7_1 + 1))) else (some false))) else (none)) else (none)) = some r := by rw [if_pos rfl] at H; exact H
            clear H
            have H := H1
            clear H1
            obtain ⟨ji31, hji31⟩ : ∃ j_ : Int, (wrap64 (x7_1 + 1)) = j_ := ⟨_, rfl⟩
            replace H : (if 0 ≤ (ji31) then (if (ji31) ≤ (l0.length : Int) then ((impl_rawOk.f kj4 ((rd_T87 l0 x7_1).f1) (l0.drop ((ji31) : Int).toNat)).bind fun t331 => (if t331 = true then (impl_TokensOk.l0 kj4 l0 l0 (l0.length : Int) ji31) else (some false))) else (none)) else (none)) = some r := by first | (rw [hji31] at H; exact H) | (simp only [hji31] at H ⊢; exact H)
            (try rw [hji31] at A29)
            have hji31w : (IntKind.i64.wrap (x7_1 + 1)) = ji31 := (i64_w _).trans hji31
            by_cases c32 : 0 ≤ (ji31)
            ·rw [if_pos c32] at H
             have c32b0 := eq_true c32
             have c32b1 : decide (0 ≤ (ji31)) = true := decide_eq_true c32
             clear c32
             by_cases c33 : (ji31) ≤ (l0.length : Int)
             ·rw [if_pos c33] at H
              have c33b0 := eq_true c33
              have c33b1 : decide ((ji31) ≤ (l0.length : Int)) = true := decide_eq_true c33
              clear c33
              obtain ⟨y327, hy327⟩ : ∃ y_ : List (S87), y_ = (l0.drop ((ji31) : Int).toNat) := ⟨_, rfl⟩
              replace H : ((impl_rawOk.f kj4 ((rd_T87 l0 x7_1).f1) y327).bind fun t331 => (if t331 = true then (impl_TokensOk.l0 kj4 l0 l0 (l0.length : Int) ji31) else (some false))) = some r := by first | (rw [hy327]; with_reducible exact H) | (have H2_ := (Option.bind_some _ _).symm.trans H; rw [hy327]; with_reducible exact H2_) | (have H2_ := (Option.bind_some _ _).symm.trans H; with_reducible exact H2_) | with_reducible exact H | (rw [hy327]; exact H) | exact H
              have Ny327 := Aside0.mk hy327
              clear hy327
              replace H := Option.bind_eq_some_iff.mp H
              obtain ⟨t331, A340, H⟩ := H
              replace H : (if t331 = true then (impl_TokensOk.l0 kj4 l0 l0 (l0.length : Int) ji31) else (some false)) = some r := H
              have A34 := Aside0.mk A340
              clear A340
              by_cases c35 : t331 = true
              ·subst c35
               have H1 : (impl_TokensOk.l0 kj4 l0 l0 (l0.length : Int) ji31) = some r := by rw [if_pos rfl] at H; exact H
               clear H
               have H := H1
               clear H1
               have H' := Aside0.mk H
               clear H
               try go_wp2
               have n0_ := Aside0.mk (dd_ BK323.out)
               have n1_ := Aside0.mk (b1_ HB.out)
               clear BK323
               clear HB
               have BK323 := n0_
               have HB := n1_
               clear n0_ n1_
               refine start_ (n := 23) (S := fun w' => w'.cell? ⟨gb323, 0, none⟩ = some (.int .i64 ((rd_T87 l0 x7_1).f0)) ∧ w'.cell? ⟨gb323, 1, none⟩ = some (.string ((rd_T87 l0 x7_1).f1)) ∧ w'.cell? ⟨gb323, 2, none⟩ = some (.slice A322_2 ((rd_T87 l0 x7_1).f2).length c322_2) ∧ w'.cell? ⟨gb323, 3, none⟩ = some (.string ((rd_T87 l0 x7_1).f3)) ∧ w'.cell? ⟨gb323, 4, none⟩ = some (.bool ((rd_T87 l0 x7_1).f4))) (ds := []) q16_0 (by kernel_rfl) rfl rfl ⟨(bc_ BK323.out 0).trans rfl, (bc_ BK323.out 1).trans rfl, (bc_ BK323.out 2).trans rfl, (bc_ BK323.out 3).trans rfl, (bc_ BK323.out 4).trans rfl⟩ (fun hHeld => ?_); refine with_tabW impl_TokensOk.tab6 impl_TokensOk.bits6 (fun HT_ HW_ => ?_)
               generalize wc.drew = w36 at BK323 HB hHeld ⊢
               refine pn_ HT_ 0 33 ?_ ?_ q16_1 rfl rfl (by kernel_rfl) (fun _ _ _ h => h) (by rfl) ?_ ?_ ?_
               rotate_left 2;(intro w';go_simp;with_reducible rfl);(simp only [Act.put, sa_, sz_, ss_, i64_w, i32_w];rfl)
               refine tn_ HT_ HW_ 1 34 ?_ ?_ q16_2 rfl rfl (by kernel_rfl) (fun _ _ _ h => h) (by rfl) hHeld ?_ ?_ ?_
               rotate_left 2;(rintro w' ⟨s0, s1, s2, s3, s4⟩;go_simp;with_reducible rfl);(simp only [Act.put, sa_, sz_, ss_, i64_w, i32_w];rfl)
               refine pn_ HT_ 2 35 ?_ ?_ q16_3 rfl rfl (by kernel_rfl) (fun _ _ _ h => h) (by rfl) ?_ ?_ ?_
               rotate_left 2;(intro w';go_simp;with_reducible rfl);(simp only [Act.put, sa_, sz_, ss_, i64_w, i32_w];rfl)
               refine pn_ HT_ 3 36 ?_ ?_ q16_4 rfl rfl (by kernel_rfl) (fun _ _ _ h => h) (by rfl) ?_ ?_ ?_
               rotate_left 2;(intro w';go_simp;with_reducible rfl);(simp only [Act.put, sa_, sz_, ss_, i64_w, i32_w];rfl)
               refine pn_ HT_ 4 37 ?_ ?_ q16_5 rfl rfl (by kernel_rfl) (fun _ _ _ h => h) (by rfl) ?_ ?_ ?_
               rotate_left 2;(intro w';go_simp;with_reducible rfl);(simp only [Act.put, sa_, sz_, ss_, i64_w, i32_w];rfl)
               refine tn_ HT_ HW_ 5 38 ?_ ?_ q16_6 rfl rfl (by kernel_rfl) (fun _ _ _ h => h) (by rfl) hHeld ?_ ?_ ?_
               rotate_left 2;(rintro w' ⟨s0, s1, s2, s3, s4⟩;go_simp;with_reducible rfl);(simp only [Act.put, sa_, sz_, ss_, i64_w, i32_w];rfl)
               refine pn_ HT_ 6 39 ?_ ?_ q16_7 rfl rfl (by kernel_rfl) (fun _ _ _ h => h) (by rfl) ?_ ?_ ?_
               rotate_left 2;(intro w';go_simp;with_reducible rfl);(simp only [Act.put, sa_, sz_, ss_, i64_w, i32_w];rfl)
               refine pn_ HT_ 7 40 ?_ ?_ q16_8 rfl rfl (by kernel_rfl) (fun _ _ _ h => h) (by rfl) ?_ ?_ ?_
               rotate_left 2;(intro w';go_simp;with_reducible rfl);(simp only [Act.put, sa_, sz_, ss_, i64_w, i32_w];rfl)
               refine pn_ HT_ 8 41 ?_ ?_ q16_9 rfl rfl (by kernel_rfl) (fun _ _ _ h => h) (by rfl) ?_ ?_ ?_
               rotate_left 2;(intro w';go_simp;with_reducible rfl);(simp only [Act.put, sa_, sz_, ss_, i64_w, i32_w];rfl)
               refine pn_ HT_ 9 42 ?_ ?_ q16_10 rfl rfl (by kernel_rfl) (fun _ _ _ h => h) (by rfl) ?_ ?_ ?_
               rotate_left 2;(intro w';go_simp;with_reducible rfl);(simp only [Act.put, sa_, sz_, ss_, i64_w, i32_w];rfl)
               refine tn_ HT_ HW_ 10 43 ?_ ?_ q16_11 rfl rfl (by kernel_rfl) (fun _ _ _ h => h) (by rfl) hHeld ?_ ?_ ?_
               rotate_left 2;(rintro w' ⟨s0, s1, s2, s3, s4⟩;go_simp;with_reducible rfl);(simp only [Act.put, sa_, sz_, ss_, i64_w, i32_w];rfl)
               refine on_ HT_ 11 44 q16_12 rfl rfl (by kernel_rfl) (by decide) (fun K hK => ?_)
               refine goes_ Try.func95 (by kernel_rfl) rfl #[.string ((rd_T87 l0 x7_1).f1)] (by rfl) rfl rfl (by (try simp only [List.map_toArray, List.map_cons, List.map_nil]); first | done | rfl | (simp only [List.length_drop, List.length_take]; rfl)) ?_
               with_reducible refine (impl_Raw.calls ((rd_T87 l0 x7_1).f1) true _ ?side1 A29.out).mono ?_
               (case side1 => exact MaxSeen.below HG.out (by repeat (first | (with_reducible first | exact HB.out | apply ba_ | apply bn_ | apply b1_ | refine below_set ?_ GE323.out) | exact HB.out)))
               rintro e w37 ⟨rfl, hb⟩
               refine ⟨_, rfl, ?_⟩
               have n0_ := Aside0.mk (blk_below (g := gb323) (o := .cells #[.int .i64 ((rd_T87 l0 x7_1).f0), .string ((rd_T87 l0 x7_1).f1), .slice A322_2 ((rd_T87 l0 x7_1).f2).length c322_2, .string ((rd_T87 l0 x7_1).f3), .bool ((rd_T87 l0 x7_1).f4)] 87 (0, 0)) (by (with_reducible repeat (first | refine dn_ ?_ _ | refine dd_ ?_ | refine da_ ?_ _)); exact BK323.out) hb)
               have n1_ := Aside0.mk (below_step (by repeat (first | (with_reducible first | exact HB.out | apply ba_ | apply bn_ | apply b1_ | refine below_set ?_ GE323.out) | exact HB.out)) hb)
               clear BK323
               clear HB
               have BK323 := n0_
               have HB := n1_
               clear n0_ n1_
               (try clear hb)
               have q38 : ((ji31) : Int) ≤ ((l0.length : Int) : Int) := dq_ (by assumption)
               obtain ⟨i038, hi038, _, hsz38, _⟩ := info_parts info87
               have hroom38 : l0.length ≤ c0 := HC0.out
               have hC38 : Kd.C k87 _ (some ad322) l0.length l0 := HR0.out
               have q038 : (0 : Int) ≤ ((ji31) : Int) := dq_ (by assumption)
               have hcut38 := cut_from (P := Try.prog) 46 87 .i64 Try.underlying46 hi038 5 hsz38 (some ad322) l0.length c0 (ji31) q038 q38
               have hr38 := Kd.C_drop (m := ((ji31) : Int).toNat) (c := c0) hC38 (by omega) hroom38
               obtain ⟨A38, hA38⟩ : ∃ A1, A1 = (if c0 = ((ji31) : Int).toNat then (some ad322) else ((some ad322) : Option Addr).map (·.add (((ji31) : Int).toNat * 5))) := ⟨_, rfl⟩
               obtain ⟨c38, hc38⟩ : ∃ c1, c1 = c0 - ((ji31) : Int).toNat := ⟨_, rfl⟩
               have hy38 : y327.length = l0.length - ((ji31) : Int).toNat := (by rw [Ny327.out, List.length_drop] <;> omega)
               rw [show (l0).drop ((ji31) : Int).toNat = y327 from Ny327.out.symm] at hr38
               replace hr38 : Kd.C k87 _ A38 y327.length y327 := (by rw [hA38]; exact hr38)
               rw [← hy38, ← hA38, ← hc38] at hcut38
               have HR330 := Aside0.mk hr38
               have HC330 := Aside0.mk (show y327.length ≤ c38 from by rw [hy38, hc38]; exact Nat.sub_le_sub_right hroom38 _)
               clear hr38 hC38 hroom38 hi038 hsz38 hc38
               have KY38 := Aside0.mk hy38
               have KA38 := Aside0.mk hA38
               clear hy38 hA38
               replace q38 := eq_true q38
               refine hK.out _ _ ⟨(bc_ BK323.out 0).trans rfl, (bc_ BK323.out 1).trans rfl, (bc_ BK323.out 2).trans rfl, (bc_ BK323.out 3).trans rfl, (bc_ BK323.out 4).trans rfl⟩ (fun hHeld => ?_)
               clear hK K
               refine norm_ (a' := ?_) ?_ ?_
               rotate_left
               ·show Act.put _ (some 44) _ = _
                simp only [Act.put, sa_, sz_, ss_, i64_w, i32_w]
                rfl
               refine pn_ HT_ 12 45 ?_ ?_ q16_13 rfl rfl (by kernel_rfl) (fun _ _ _ h => h) (by rfl) ?_ ?_ ?_
               rotate_left 2;(intro w';go_simp;with_reducible rfl);(simp only [Act.put, sa_, sz_, ss_, i64_w, i32_w];rfl)
               refine pn_ HT_ 13 46 ?_ ?_ q16_14 rfl rfl (by kernel_rfl) (fun _ _ _ h => h) (by rfl) ?_ ?_ ?_
               rotate_left 2;(intro w';go_simp;with_reducible rfl);(simp only [Act.put, sa_, sz_, ss_, i64_w, i32_w];rfl)
               refine pn_ HT_ 14 47 ?_ ?_ q16_15 rfl rfl (by kernel_rfl) (fun _ _ _ h => h) (by rfl) ?_ ?_ ?_
               rotate_left 2;(intro w';go_simp;with_reducible rfl);(simp only [Act.put, sa_, sz_, ss_, i64_w, i32_w];rfl)
               refine pn_ HT_ 16 49 ?_ ?_ q16_24 rfl rfl (by kernel_rfl) (fun _ _ _ h => h) (by rfl) ?_ ?_ ?_
               rotate_left 2;(intro w';go_simp;with_reducible rfl);(simp only [Act.put, sa_, sz_, ss_, i64_w, i32_w];rfl)
               refine pn_ HT_ 17 50 ?_ ?_ q16_25 rfl rfl (by kernel_rfl) (fun _ _ _ h => h) (by rfl) ?_ ?_ ?_
               rotate_left 2;(intro w';go_simp;with_reducible rfl);(simp only [Act.put, sa_, sz_, ss_, i64_w, i32_w];rfl)
               refine pn_ HT_ 18 51 ?_ ?_ q16_26 rfl rfl (by kernel_rfl) (fun _ _ _ h => h) (by rfl) ?_ ?_ ?_
               rotate_left 2;(intro w';go_simp;with_reducible rfl);(simp only [Act.put, sa_, sz_, ss_, i64_w, i32_w];rfl)
               refine pn_ HT_ 19 52 ?_ ?_ q16_27 rfl rfl (by kernel_rfl) (fun _ _ _ h => h) (by rfl) ?_ ?_ ?_
               rotate_left 2;(intro w';go_simp;with_reducible rfl);(simp only [Act.put, sa_, sz_, ss_, i64_w, i32_w];rfl)
               refine tn_ HT_ HW_ 15 48 ?_ ?_ q16_20 rfl rfl (by kernel_rfl) (fun _ _ _ h => h) (by rfl) hHeld ?_ ?_ ?_
               rotate_left 2;(rintro w' ⟨s0, s1, s2, s3, s4⟩;go_simp;with_reducible rfl);(simp only [Act.put, sa_, sz_, ss_, i64_w, i32_w];rfl)
               refine on_ HT_ 20 53 q16_21 rfl rfl (by kernel_rfl) (by decide) (fun K hK => ?_)
               refine goes_ Try.func96 (by kernel_rfl) rfl #[.string ((rd_T87 l0 x7_1).f1), .slice A38 y327.length c38] (by rfl) rfl rfl (by (try simp only [List.map_toArray, List.map_cons, List.map_nil]); first | done | rfl | (simp only [List.length_drop, List.length_take]; rfl)) ?_
               with_reducible refine (impl_rawOk.calls kj4 ((rd_T87 l0 x7_1).f1) _ _ y327 true _ ?side1 ?side2 A34.out).mono ?_
               (case side1 => repeat (first | exact (Kd.C_below HR330.out HB.out) | (with_reducible refine ca_ ?_ _) | (with_reducible refine cn_ ?_ _) | (with_reducible refine cd_ ?_)))
               (case side2 => exact HC330.out)
               rintro e w39 ⟨rfl, hb⟩
               refine ⟨_, rfl, ?_⟩
               have n0_ := Aside0.mk (blk_below (g := gb323) (o := .cells #[.int .i64 ((rd_T87 l0 x7_1).f0), .string ((rd_T87 l0 x7_1).f1), .slice A322_2 ((rd_T87 l0 x7_1).f2).length c322_2, .string ((rd_T87 l0 x7_1).f3), .bool ((rd_T87 l0 x7_1).f4)] 87 (0, 0)) (by (with_reducible repeat (first | refine dn_ ?_ _ | refine dd_ ?_ | refine da_ ?_ _)); exact BK323.out) hb)
               have n1_ := Aside0.mk (below_step (by repeat (first | (with_reducible first | exact HB.out | apply ba_ | apply bn_ | apply b1_ | refine below_set ?_ GE323.out) | exact HB.out)) hb)
               clear BK323
               clear HB
               have BK323 := n0_
               have HB := n1_
               clear n0_ n1_
               (try clear hb)
               refine hK.out _ _ ⟨(bc_ BK323.out 0).trans rfl, (bc_ BK323.out 1).trans rfl, (bc_ BK323.out 2).trans rfl, (bc_ BK323.out 3).trans rfl, (bc_ BK323.out 4).trans rfl⟩ (fun hHeld => ?_)
               clear hK K
               refine norm_ (a' := ?_) ?_ ?_
               rotate_left
               ·show Act.put _ (some 53) _ = _
                simp only [Act.put, sa_, sz_, ss_, i64_w, i32_w]
                rfl
               refine pn_ HT_ 21 54 ?_ ?_ q16_22 rfl rfl (by kernel_rfl) (fun _ _ _ h => h) (by rfl) ?_ ?_ ?_
               rotate_left 2;(intro w';go_simp;with_reducible rfl);(simp only [Act.put, sa_, sz_, ss_, i64_w, i32_w];rfl)
               refine pn_ HT_ 22 55 ?_ ?_ q16_23 rfl rfl (by kernel_rfl) (fun _ _ _ h => h) (by rfl) ?_ ?_ ?_
               rotate_left 2;(intro w';go_simp;with_reducible rfl);(simp only [Act.put, sa_, sz_, ss_, i64_w, i32_w];rfl)
               refine done_ (done_of HT_.out (by kernel_rfl)) ?_
               try go_wp2
               (try subst hji31)
               go_roundg kj4
               case measure => have := HK1.out; have := HJ4.out; omega
               case rel => exact ⟨((wrap64 (x7_1 + 1))), (by first | rfl | (simp; done) | (simp only [← hji31] <;> (first | rfl | simp)) | (simp [*]; done)), H', ⟨by have := HK1.out; have := HJ4.out; omega⟩, ⟨by repeat (first | (with_reducible first | exact HB.out | apply ba_ | apply bn_ | apply b1_ | refine below_set ?_ GE323.out) | exact HB.out)⟩⟩
              ·replace c35 := Bool.eq_false_iff.mpr c35
               subst c35
               have H1 : (some false) = some r := by rw [if_neg (show ¬ (false = true) by decide)] at H; exact H
               clear H
               have H := H1
               clear H1
               obtain rfl := Option.some.inj H
               try go_wp2
               have n0_ := Aside0.mk (dd_ BK323.out)
               have n1_ := Aside0.mk (b1_ HB.out)
               clear BK323
               clear HB
               have BK323 := n0_
               have HB := n1_
               clear n0_ n1_
               refine start_ (n := 23) (S := fun w' => w'.cell? ⟨gb323, 0, none⟩ = some (.int .i64 ((rd_T87 l0 x7_1).f0)) ∧ w'.cell? ⟨gb323, 1, none⟩ = some (.string ((rd_T87 l0 x7_1).f1)) ∧ w'.cell? ⟨gb323, 2, none⟩ = some (.slice A322_2 ((rd_T87 l0 x7_1).f2).length c322_2) ∧ w'.cell? ⟨gb323, 3, none⟩ = some (.string ((rd_T87 l0 x7_1).f3)) ∧ w'.cell? ⟨gb323, 4, none⟩ = some (.bool ((rd_T87 l0 x7_1).f4))) (ds := []) q16_0 (by kernel_rfl) rfl rfl ⟨(bc_ BK323.out 0).trans rfl, (bc_ BK323.out 1).trans rfl, (bc_ BK323.out 2).trans rfl, (bc_ BK323.out 3).trans rfl, (bc_ BK323.out 4).trans rfl⟩ (fun hHeld => ?_); refine with_tabW impl_TokensOk.tab6 impl_TokensOk.bits6 (fun HT_ HW_ => ?_)
               generalize wc.drew = w40 at BK323 HB hHeld ⊢
               refine pn_ HT_ 0 33 ?_ ?_ q16_1 rfl rfl (by kernel_rfl) (fun _ _ _ h => h) (by rfl) ?_ ?_ ?_
               rotate_left 2;(intro w';go_simp;with_reducible rfl);(simp only [Act.put, sa_, sz_, ss_, i64_w, i32_w];rfl)
               refine tn_ HT_ HW_ 1 34 ?_ ?_ q16_2 rfl rfl (by kernel_rfl) (fun _ _ _ h => h) (by rfl) hHeld ?_ ?_ ?_
               rotate_left 2;(rintro w' ⟨s0, s1, s2, s3, s4⟩;go_simp;with_reducible rfl);(simp only [Act.put, sa_, sz_, ss_, i64_w, i32_w];rfl)
               refine pn_ HT_ 2 35 ?_ ?_ q16_3 rfl rfl (by kernel_rfl) (fun _ _ _ h => h) (by rfl) ?_ ?_ ?_
               rotate_left 2;(intro w';go_simp;with_reducible rfl);(simp only [Act.put, sa_, sz_, ss_, i64_w, i32_w];rfl)
               refine pn_ HT_ 3 36 ?_ ?_ q16_4 rfl rfl (by kernel_rfl) (fun _ _ _ h => h) (by rfl) ?_ ?_ ?_
               rotate_left 2;(intro w';go_simp;with_reducible rfl);(simp only [Act.put, sa_, sz_, ss_, i64_w, i32_w];rfl)
               refine pn_ HT_ 4 37 ?_ ?_ q16_5 rfl rfl (by kernel_rfl) (fun _ _ _ h => h) (by rfl) ?_ ?_ ?_
               rotate_left 2;(intro w';go_simp;with_reducible rfl);(simp only [Act.put, sa_, sz_, ss_, i64_w, i32_w];rfl)
               refine tn_ HT_ HW_ 5 38 ?_ ?_ q16_6 rfl rfl (by kernel_rfl) (fun _ _ _ h => h) (by rfl) hHeld ?_ ?_ ?_
               rotate_left 2;(rintro w' ⟨s0, s1, s2, s3, s4⟩;go_simp;with_reducible rfl);(simp only [Act.put, sa_, sz_, ss_, i64_w, i32_w];rfl)
               refine pn_ HT_ 6 39 ?_ ?_ q16_7 rfl rfl (by kernel_rfl) (fun _ _ _ h => h) (by rfl) ?_ ?_ ?_
               rotate_left 2;(intro w';go_simp;with_reducible rfl);(simp only [Act.put, sa_, sz_, ss_, i64_w, i32_w];rfl)
               refine pn_ HT_ 7 40 ?_ ?_ q16_8 rfl rfl (by kernel_rfl) (fun _ _ _ h => h) (by rfl) ?_ ?_ ?_
               rotate_left 2;(intro w';go_simp;with_reducible rfl);(simp only [Act.put, sa_, sz_, ss_, i64_w, i32_w];rfl)
               refine pn_ HT_ 8 41 ?_ ?_ q16_9 rfl rfl (by kernel_rfl) (fun _ _ _ h => h) (by rfl) ?_ ?_ ?_
               rotate_left 2;(intro w';go_simp;with_reducible rfl);(simp only [Act.put, sa_, sz_, ss_, i64_w, i32_w];rfl)
               refine pn_ HT_ 9 42 ?_ ?_ q16_10 rfl rfl (by kernel_rfl) (fun _ _ _ h => h) (by rfl) ?_ ?_ ?_
               rotate_left 2;(intro w';go_simp;with_reducible rfl);(simp only [Act.put, sa_, sz_, ss_, i64_w, i32_w];rfl)
               refine tn_ HT_ HW_ 10 43 ?_ ?_ q16_11 rfl rfl (by kernel_rfl) (fun _ _ _ h => h) (by rfl) hHeld ?_ ?_ ?_
               rotate_left 2;(rintro w' ⟨s0, s1, s2, s3, s4⟩;go_simp;with_reducible rfl);(simp only [Act.put, sa_, sz_, ss_, i64_w, i32_w];rfl)
               refine on_ HT_ 11 44 q16_12 rfl rfl (by kernel_rfl) (by decide) (fun K hK => ?_)
               refine goes_ Try.func95 (by kernel_rfl) rfl #[.string ((rd_T87 l0 x7_1).f1)] (by rfl) rfl rfl (by (try simp only [List.map_toArray, List.map_cons, List.map_nil]); first | done | rfl | (simp only [List.length_drop, List.length_take]; rfl)) ?_
               with_reducible refine (impl_Raw.calls ((rd_T87 l0 x7_1).f1) true _ ?side1 A29.out).mono ?_
               (case side1 => exact MaxSeen.below HG.out (by repeat (first | (with_reducible first | exact HB.out | apply ba_ | apply bn_ | apply b1_ | refine below_set ?_ GE323.out) | exact HB.out)))
               rintro e w41 ⟨rfl, hb⟩
               refine ⟨_, rfl, ?_⟩
               have n0_ := Aside0.mk (blk_below (g := gb323) (o := .cells #[.int .i64 ((rd_T87 l0 x7_1).f0), .string ((rd_T87 l0 x7_1).f1), .slice A322_2 ((rd_T87 l0 x7_1).f2).length c322_2, .string ((rd_T87 l0 x7_1).f3), .bool ((rd_T87 l0 x7_1).f4)] 87 (0, 0)) (by (with_reducible repeat (first | refine dn_ ?_ _ | refine dd_ ?_ | refine da_ ?_ _)); exact BK323.out) hb)
               have n1_ := Aside0.mk (below_step (by repeat (first | (with_reducible first | exact HB.out | apply ba_ | apply bn_ | apply b1_ | refine below_set ?_ GE323.out) | exact HB.out)) hb)
               clear BK323
               clear HB
               have BK323 := n0_
               have HB := n1_
               clear n0_ n1_
               (try clear hb)
               have q42 : ((ji31) : Int) ≤ ((l0.length : Int) : Int) := dq_ (by assumption)
               obtain ⟨i042, hi042, _, hsz42, _⟩ := info_parts info87
               have hroom42 : l0.length ≤ c0 := HC0.out
               have hC42 : Kd.C k87 _ (some ad322) l0.length l0 := HR0.out
               have q042 : (0 : Int) ≤ ((ji31) : Int) := dq_ (by assumption)
               have hcut42 := cut_from (P := Try.prog) 46 87 .i64 Try.underlying46 hi042 5 hsz42 (some ad322) l0.length c0 (ji31) q042 q42
               have hr42 := Kd.C_drop (m := ((ji31) : Int).toNat) (c := c0) hC42 (by omega) hroom42
               obtain ⟨A42, hA42⟩ : ∃ A1, A1 = (if c0 = ((ji31) : Int).toNat then (some ad322) else ((some ad322) : Option Addr).map (·.add (((ji31) : Int).toNat * 5))) := ⟨_, rfl⟩
               obtain ⟨c42, hc42⟩ : ∃ c1, c1 = c0 - ((ji31) : Int).toNat := ⟨_, rfl⟩
               have hy42 : y327.length = l0.length - ((ji31) : Int).toNat := (by rw [Ny327.out, List.length_drop] <;> omega)
               rw [show (l0).drop ((ji31) : Int).toNat = y327 from Ny327.out.symm] at hr42
               replace hr42 : Kd.C k87 _ A42 y327.length y327 := (by rw [hA42]; exact hr42)
               rw [← hy42, ← hA42, ← hc42] at hcut42
               have HR330 := Aside0.mk hr42
               have HC330 := Aside0.mk (show y327.length ≤ c42 from by rw [hy42, hc42]; exact Nat.sub_le_sub_right hroom42 _)
               clear hr42 hC42 hroom42 hi042 hsz42 hc42
               have KY42 := Aside0.mk hy42
               have KA42 := Aside0.mk hA42
               clear hy42 hA42
               replace q42 := eq_true q42
               refine hK.out _ _ ⟨(bc_ BK323.out 0).trans rfl, (bc_ BK323.out 1).trans rfl, (bc_ BK323.out 2).trans rfl, (bc_ BK323.out 3).trans rfl, (bc_ BK323.out 4).trans rfl⟩ (fun hHeld => ?_)
               clear hK K
               refine norm_ (a' := ?_) ?_ ?_
               rotate_left
               ·show Act.put _ (some 44) _ = _
                simp only [Act.put, sa_, sz_, ss_, i64_w, i32_w]
                rfl
               refine pn_ HT_ 12 45 ?_ ?_ q16_13 rfl rfl (by kernel_rfl) (fun _ _ _ h => h) (by rfl) ?_ ?_ ?_
               rotate_left 2;(intro w';go_simp;with_reducible rfl);(simp only [Act.put, sa_, sz_, ss_, i64_w, i32_w];rfl)
               refine pn_ HT_ 13 46 ?_ ?_ q16_14 rfl rfl (by kernel_rfl) (fun _ _ _ h => h) (by rfl) ?_ ?_ ?_
               rotate_left 2;(intro w';go_simp;with_reducible rfl);(simp only [Act.put, sa_, sz_, ss_, i64_w, i32_w];rfl)
               refine pn_ HT_ 14 47 ?_ ?_ q16_15 rfl rfl (by kernel_rfl) (fun _ _ _ h => h) (by rfl) ?_ ?_ ?_
               rotate_left 2;(intro w';go_simp;with_reducible rfl);(simp only [Act.put, sa_, sz_, ss_, i64_w, i32_w];rfl)
               refine pn_ HT_ 16 49 ?_ ?_ q16_24 rfl rfl (by kernel_rfl) (fun _ _ _ h => h) (by rfl) ?_ ?_ ?_
               rotate_left 2;(intro w';go_simp;with_reducible rfl);(simp only [Act.put, sa_, sz_, ss_, i64_w, i32_w];rfl)
               refine pn_ HT_ 17 50 ?_ ?_ q16_25 rfl rfl (by kernel_rfl) (fun _ _ _ h => h) (by rfl) ?_ ?_ ?_
               rotate_left 2;(intro w';go_simp;with_reducible rfl);(simp only [Act.put, sa_, sz_, ss_, i64_w, i32_w];rfl)
               refine pn_ HT_ 18 51 ?_ ?_ q16_26 rfl rfl (by kernel_rfl) (fun _ _ _ h => h) (by rfl) ?_ ?_ ?_
               rotate_left 2;(intro w';go_simp;with_reducible rfl);(simp only [Act.put, sa_, sz_, ss_, i64_w, i32_w];rfl)
               refine pn_ HT_ 19 52 ?_ ?_ q16_27 rfl rfl (by kernel_rfl) (fun _ _ _ h => h) (by rfl) ?_ ?_ ?_
               rotate_left 2;(intro w';go_simp;with_reducible rfl);(simp only [Act.put, sa_, sz_, ss_, i64_w, i32_w];rfl)
               refine tn_ HT_ HW_ 15 48 ?_ ?_ q16_20 rfl rfl (by kernel_rfl) (fun _ _ _ h => h) (by rfl) hHeld ?_ ?_ ?_
               rotate_left 2;(rintro w' ⟨s0, s1, s2, s3, s4⟩;go_simp;with_reducible rfl);(simp only [Act.put, sa_, sz_, ss_, i64_w, i32_w];rfl)
               refine on_ HT_ 20 53 q16_21 rfl rfl (by kernel_rfl) (by decide) (fun K hK => ?_)
               refine goes_ Try.func96 (by kernel_rfl) rfl #[.string ((rd_T87 l0 x7_1).f1), .slice A42 y327.length c42] (by rfl) rfl rfl (by (try simp only [List.map_toArray, List.map_cons, List.map_nil]); first | done | rfl | (simp only [List.length_drop, List.length_take]; rfl)) ?_
               with_reducible refine (impl_rawOk.calls kj4 ((rd_T87 l0 x7_1).f1) _ _ y327 false _ ?side1 ?side2 A34.out).mono ?_
               (case side1 => repeat (first | exact (Kd.C_below HR330.out HB.out) | (with_reducible refine ca_ ?_ _) | (with_reducible refine cn_ ?_ _) | (with_reducible refine cd_ ?_)))
               (case side2 => exact HC330.out)
               rintro e w43 ⟨rfl, hb⟩
               refine ⟨_, rfl, ?_⟩
               have n0_ := Aside0.mk (blk_below (g := gb323) (o := .cells #[.int .i64 ((rd_T87 l0 x7_1).f0), .string ((rd_T87 l0 x7_1).f1), .slice A322_2 ((rd_T87 l0 x7_1).f2).length c322_2, .string ((rd_T87 l0 x7_1).f3), .bool ((rd_T87 l0 x7_1).f4)] 87 (0, 0)) (by (with_reducible repeat (first | refine dn_ ?_ _ | refine dd_ ?_ | refine da_ ?_ _)); exact BK323.out) hb)
               have n1_ := Aside0.mk (below_step (by repeat (first | (with_reducible first | exact HB.out | apply ba_ | apply bn_ | apply b1_ | refine below_set ?_ GE323.out) | exact HB.out)) hb)
               clear BK323
               clear HB
               have BK323 := n0_
               have HB := n1_
               clear n0_ n1_
               (try clear hb)
               refine hK.out _ _ ⟨(bc_ BK323.out 0).trans rfl, (bc_ BK323.out 1).trans rfl, (bc_ BK323.out 2).trans rfl, (bc_ BK323.out 3).trans rfl, (bc_ BK323.out 4).trans rfl⟩ (fun hHeld => ?_)
               clear hK K
               refine norm_ (a' := ?_) ?_ ?_
               rotate_left
               ·show Act.put _ (some 53) _ = _
                simp only [Act.put, sa_, sz_, ss_, i64_w, i32_w]
                rfl
               refine pn_ HT_ 21 54 ?_ ?_ q16_22 rfl rfl (by kernel_rfl) (fun _ _ _ h => h) (by rfl) ?_ ?_ ?_
               rotate_left 2;(intro w';go_simp;with_reducible rfl);(simp only [Act.put, sa_, sz_, ss_, i64_w, i32_w];rfl)
               refine pn_ HT_ 22 55 ?_ ?_ q16_23 rfl rfl (by kernel_rfl) (fun _ _ _ h => h) (by rfl) ?_ ?_ ?_
               rotate_left 2;(intro w';go_simp;with_reducible rfl);(simp only [Act.put, sa_, sz_, ss_, i64_w, i32_w];rfl)
               refine done_ (done_of HT_.out (by kernel_rfl)) ?_
               try go_wp2
               go_ret
               exact ⟨by first | rfl | (simp [errW_none, errW_some] <;> rfl) | (simp only [← hji31]; first | rfl | (simp [errW_none, errW_some] <;> rfl)) | (simp [*, errW_none, errW_some] <;> rfl), by repeat (first | (with_reducible first | exact HB.out | apply ba_ | apply bn_ | apply b1_ | refine below_set ?_ GE323.out) | exact HB.out)⟩
             ·rw [if_neg c33] at H
              exact absurd H (by simp)
            ·rw [if_neg c32] at H
             exact absurd H (by simp)
           ·replace c30 := Bool.eq_false_iff.mpr c30
            subst c30
            have H1 : (impl_TokensOk.l0 kj4 l0 l0 (l0.length : Int) (wrap64 (x7_1 + 1))) = some r := by rw [if_neg (show ¬ (false = true) by decide)] at H; exact H
            clear H
            have H := H1
            clear H1
            have H' := Aside0.mk H
            clear H
            try go_wp2
            have n0_ := Aside0.mk (dd_ BK323.out)
            have n1_ := Aside0.mk (b1_ HB.out)
            clear BK323
            clear HB
            have BK323 := n0_
            have HB := n1_
            clear n0_ n1_
            refine start_ (n := 23) (S := fun w' => w'.cell? ⟨gb323, 0, none⟩ = some (.int .i64 ((rd_T87 l0 x7_1).f0)) ∧ w'.cell? ⟨gb323, 1, none⟩ = some (.string ((rd_T87 l0 x7_1).f1)) ∧ w'.cell? ⟨gb323, 2, none⟩ = some (.slice A322_2 ((rd_T87 l0 x7_1).f2).length c322_2) ∧ w'.cell? ⟨gb323, 3, none⟩ = some (.string ((rd_T87 l0 x7_1).f3)) ∧ w'.cell? ⟨gb323, 4, none⟩ = some (.bool ((rd_T87 l0 x7_1).f4))) (ds := []) q16_0 (by kernel_rfl) rfl rfl ⟨(bc_ BK323.out 0).trans rfl, (bc_ BK323.out 1).trans rfl, (bc_ BK323.out 2).trans rfl, (bc_ BK323.out 3).trans rfl, (bc_ BK323.out 4).trans rfl⟩ (fun hHeld => ?_); refine with_tabW impl_TokensOk.tab6 impl_TokensOk.bits6 (fun HT_ HW_ => ?_)
            generalize wc.drew = w44 at BK323 HB hHeld ⊢
            refine pn_ HT_ 0 33 ?_ ?_ q16_1 rfl rfl (by kernel_rfl) (fun _ _ _ h => h) (by rfl) ?_ ?_ ?_
            rotate_left 2;(intro w';go_simp;with_reducible rfl);(simp only [Act.put, sa_, sz_, ss_, i64_w, i32_w];rfl)
            refine tn_ HT_ HW_ 1 34 ?_ ?_ q16_2 rfl rfl (by kernel_rfl) (fun _ _ _ h => h) (by rfl) hHeld ?_ ?_ ?_
            rotate_left 2;(rintro w' ⟨s0, s1, s2, s3, s4⟩;go_simp;with_reducible rfl);(simp only [Act.put, sa_, sz_, ss_, i64_w, i32_w];rfl)
            refine pn_ HT_ 2 35 ?_ ?_ q16_3 rfl rfl (by kernel_rfl) (fun _ _ _ h => h) (by rfl) ?_ ?_ ?_
            rotate_left 2;(intro w';go_simp;with_reducible rfl);(simp only [Act.put, sa_, sz_, ss_, i64_w, i32_w];rfl)
            refine pn_ HT_ 3 36 ?_ ?_ q16_4 rfl rfl (by kernel_rfl) (fun _ _ _ h => h) (by rfl) ?_ ?_ ?_
            rotate_left 2;(intro w';go_simp;with_reducible rfl);(simp only [Act.put, sa_, sz_, ss_, i64_w, i32_w];rfl)
            refine pn_ HT_ 4 37 ?_ ?_ q16_5 rfl rfl (by kernel_rfl) (fun _ _ _ h => h) (by rfl) ?_ ?_ ?_
            rotate_left 2;(intro w';go_simp;with_reducible rfl);(simp only [Act.put, sa_, sz_, ss_, i64_w, i32_w];rfl)
            refine tn_ HT_ HW_ 5 38 ?_ ?_ q16_6 rfl rfl (by kernel_rfl) (fun _ _ _ h => h) (by rfl) hHeld ?_ ?_ ?_
            rotate_left 2;(rintro w' ⟨s0, s1, s2, s3, s4⟩;go_simp;with_reducible rfl);(simp only [Act.put, sa_, sz_, ss_, i64_w, i32_w];rfl)
            refine pn_ HT_ 6 39 ?_ ?_ q16_7 rfl rfl (by kernel_rfl) (fun _ _ _ h => h) (by rfl) ?_ ?_ ?_
            rotate_left 2;(intro w';go_simp;with_reducible rfl);(simp only [Act.put, sa_, sz_, ss_, i64_w, i32_w];rfl)
            refine pn_ HT_ 7 40 ?_ ?_ q16_8 rfl rfl (by kernel_rfl) (fun _ _ _ h => h) (by rfl) ?_ ?_ ?_
            rotate_left 2;(intro w';go_simp;with_reducible rfl);(simp only [Act.put, sa_, sz_, ss_, i64_w, i32_w];rfl)
            refine pn_ HT_ 8 41 ?_ ?_ q16_9 rfl rfl (by kernel_rfl) (fun _ _ _ h => h) (by rfl) ?_ ?_ ?_
            rotate_left 2;(intro w';go_simp;with_reducible rfl);(simp only [Act.put, sa_, sz_, ss_, i64_w, i32_w];rfl)
            refine pn_ HT_ 9 42 ?_ ?_ q16_10 rfl rfl (by kernel_rfl) (fun _ _ _ h => h) (by rfl) ?_ ?_ ?_
            rotate_left 2;(intro w';go_simp;with_reducible rfl);(simp only [Act.put, sa_, sz_, ss_, i64_w, i32_w];rfl)
            refine tn_ HT_ HW_ 10 43 ?_ ?_ q16_11 rfl rfl (by kernel_rfl) (fun _ _ _ h => h) (by rfl) hHeld ?_ ?_ ?_
            rotate_left 2;(rintro w' ⟨s0, s1, s2, s3, s4⟩;go_simp;with_reducible rfl);(simp only [Act.put, sa_, sz_, ss_, i64_w, i32_w];rfl)
            refine on_ HT_ 11 44 q16_12 rfl rfl (by kernel_rfl) (by decide) (fun K hK => ?_)
            refine goes_ Try.func95 (by kernel_rfl) rfl #[.string ((rd_T87 l0 x7_1).f1)] (by rfl) rfl rfl (by (try simp only [List.map_toArray, List.map_cons, List.map_nil]); first | done | rfl | (simp only [List.length_drop, List.length_take]; rfl)) ?_
            with_reducible refine (impl_Raw.calls ((rd_T87 l0 x7_1).f1) false _ ?side1 A29.out).mono ?_
            (case side1 => exact MaxSeen.below HG.out (by repeat (first | (with_reducible first | exact HB.out | apply ba_ | apply bn_ | apply b1_ | refine below_set ?_ GE323.out) | exact HB.out)))
            rintro e w45 ⟨rfl, hb⟩
            refine ⟨_, rfl, ?_⟩
            have n0_ := Aside0.mk (blk_below (g := gb323) (o := .cells #[.int .i64 ((rd_T87 l0 x7_1).f0), .string ((rd_T87 l0 x7_1).f1), .slice A322_2 ((rd_T87 l0 x7_1).f2).length c322_2, .string ((rd_T87 l0 x7_1).f3), .bool ((rd_T87 l0 x7_1).f4)] 87 (0, 0)) (by (with_reducible repeat (first | refine dn_ ?_ _ | refine dd_ ?_ | refine da_ ?_ _)); exact BK323.out) hb)
            have n1_ := Aside0.mk (below_step (by repeat (first | (with_reducible first | exact HB.out | apply ba_ | apply bn_ | apply b1_ | refine below_set ?_ GE323.out) | exact HB.out)) hb)
            clear BK323
            clear HB
            have BK323 := n0_
            have HB := n1_
            clear n0_ n1_
            (try clear hb)
            refine hK.out _ _ ⟨(bc_ BK323.out 0).trans rfl, (bc_ BK323.out 1).trans rfl, (bc_ BK323.out 2).trans rfl, (bc_ BK323.out 3).trans rfl, (bc_ BK323.out 4).trans rfl⟩ (fun hHeld => ?_)
            clear hK K
            refine norm_ (a' := ?_) ?_ ?_
            rotate_left
            ·show Act.put _ (some 44) _ = _
             simp only [Act.put, sa_, sz_, ss_, i64_w, i32_w]
             rfl
            refine pn_ HT_ 12 45 ?_ ?_ q16_13 rfl rfl (by kernel_rfl) (fun _ _ _ h => h) (by rfl) ?_ ?_ ?_
            rotate_left 2;(intro w';go_simp;with_reducible rfl);(simp only [Act.put, sa_, sz_, ss_, i64_w, i32_w];rfl)
            refine pn_ HT_ 13 46 ?_ ?_ q16_14 rfl rfl (by kernel_rfl) (fun _ _ _ h => h) (by rfl) ?_ ?_ ?_
            rotate_left 2;(intro w';go_simp;with_reducible rfl);(simp only [Act.put, sa_, sz_, ss_, i64_w, i32_w];rfl)
            refine po_ HT_ 14 47 ?_ q16_15 rfl rfl (by kernel_rfl) (fun _ _ _ h => h) (by rfl) ?_ ?_
            rotate_left;(simp only [Act.put, sa_, sz_, ss_, i64_w, i32_w];rfl)
            refine po_ HT_ 15 48 ?_ q16_16 rfl rfl (by kernel_rfl) (fun _ _ _ h => h) (by rfl) ?_ ?_
            rotate_left;(simp only [Act.put, sa_, sz_, ss_, i64_w, i32_w];rfl)
            refine po_ HT_ 16 49 ?_ q16_17 rfl rfl (by kernel_rfl) (fun _ _ _ h => h) (by rfl) ?_ ?_
            rotate_left;(simp only [Act.put, sa_, sz_, ss_, i64_w, i32_w];rfl)
            refine po_ HT_ 17 50 ?_ q16_18 rfl rfl (by kernel_rfl) (fun _ _ _ h => h) (by rfl) ?_ ?_
            rotate_left;(simp only [Act.put, sa_, sz_, ss_, i64_w, i32_w];rfl)
            refine po_ HT_ 18 51 ?_ q16_19 rfl rfl (by kernel_rfl) (fun _ _ _ h => h) (by rfl) ?_ ?_
            rotate_left;(simp only [Act.put, sa_, sz_, ss_, i64_w, i32_w];rfl)
            refine po_ HT_ 19 52 ?_ q16_20 rfl rfl (by kernel_rfl) (fun _ _ _ h => h) (by rfl) ?_ ?_
            rotate_left;(simp only [Act.put, sa_, sz_, ss_, i64_w, i32_w];rfl)
            refine po_ HT_ 20 53 ?_ q16_21 rfl rfl (by kernel_rfl) (fun _ _ _ h => h) (by rfl) ?_ ?_
            rotate_left;(simp only [Act.put, sa_, sz_, ss_, i64_w, i32_w];rfl)
            refine po_ HT_ 21 54 ?_ q16_22 rfl rfl (by kernel_rfl) (fun _ _ _ h => h) (by rfl) ?_ ?_
            rotate_left;(simp only [Act.put, sa_, sz_, ss_, i64_w, i32_w];rfl)
            refine pn_ HT_ 22 55 ?_ ?_ q16_23 rfl rfl (by kernel_rfl) (fun _ _ _ h => h) (by rfl) ?_ ?_ ?_
            rotate_left 2;(intro w';go_simp;with_reducible rfl);(simp only [Act.put, sa_, sz_, ss_, i64_w, i32_w];rfl)
            refine done_ (done_of HT_.out (by kernel_rfl)) ?_
            try go_wp2
            (try subst hji31)
            go_roundg kj4
            case measure => have := HK1.out; have := HJ4.out; omega
            case rel => exact ⟨(wrap64 (x7_1 + 1)), (by first | rfl | (simp; done) | (simp [*]; done)), H', ⟨by have := HK1.out; have := HJ4.out; omega⟩, ⟨by repeat (first | (with_reducible first | exact HB.out | apply ba_ | apply bn_ | apply b1_ | refine below_set ?_ GE323.out) | exact HB.out)⟩⟩
         ·rw [if_neg c26] at H
          have c26b0 : (((rd_T87 l0 x7_1).f0) == 2) = false := beq_eq_false_iff_ne.mpr c26
          have c26b1 : (((rd_T87 l0 x7_1).f0) != 2) = true := bne_iff_ne.mpr c26
          have H' := Aside0.mk H
          clear H
          try go_wp2
          have n0_ := Aside0.mk (dd_ BK323.out)
          have n1_ := Aside0.mk (b1_ HB.out)
          clear BK323
          clear HB
          have BK323 := n0_
          have HB := n1_
          clear n0_ n1_
          refine start_ (n := 23) (S := fun w' => w'.cell? ⟨gb323, 0, none⟩ = some (.int .i64 ((rd_T87 l0 x7_1).f0)) ∧ w'.cell? ⟨gb323, 1, none⟩ = some (.string ((rd_T87 l0 x7_1).f1)) ∧ w'.cell? ⟨gb323, 2, none⟩ = some (.slice A322_2 ((rd_T87 l0 x7_1).f2).length c322_2) ∧ w'.cell? ⟨gb323, 3, none⟩ = some (.string ((rd_T87 l0 x7_1).f3)) ∧ w'.cell? ⟨gb323, 4, none⟩ = some (.bool ((rd_T87 l0 x7_1).f4))) (ds := []) q16_0 (by kernel_rfl) rfl rfl ⟨(bc_ BK323.out 0).trans rfl, (bc_ BK323.out 1).trans rfl, (bc_ BK323.out 2).trans rfl, (bc_ BK323.out 3).trans rfl, (bc_ BK323.out 4).trans rfl⟩ (fun hHeld => ?_); refine with_tabW impl_TokensOk.tab6 impl_TokensOk.bits6 (fun HT_ HW_ => ?_)
          generalize wc.drew = w46 at BK323 HB hHeld ⊢
          refine pn_ HT_ 0 33 ?_ ?_ q16_1 rfl rfl (by kernel_rfl) (fun _ _ _ h => h) (by rfl) ?_ ?_ ?_
          rotate_left 2;(intro w';go_simp;with_reducible rfl);(simp only [Act.put, sa_, sz_, ss_, i64_w, i32_w];rfl)
          refine tn_ HT_ HW_ 1 34 ?_ ?_ q16_2 rfl rfl (by kernel_rfl) (fun _ _ _ h => h) (by rfl) hHeld ?_ ?_ ?_
          rotate_left 2;(rintro w' ⟨s0, s1, s2, s3, s4⟩;go_simp;with_reducible rfl);(simp only [Act.put, sa_, sz_, ss_, i64_w, i32_w];rfl)
          refine pn_ HT_ 2 35 ?_ ?_ q16_3 rfl rfl (by kernel_rfl) (fun _ _ _ h => h) (by rfl) ?_ ?_ ?_
          rotate_left 2;(intro w';go_simp;with_reducible rfl);(simp only [Act.put, sa_, sz_, ss_, i64_w, i32_w];rfl)
          refine pn_ HT_ 3 36 ?_ ?_ q16_4 rfl rfl (by kernel_rfl) (fun _ _ _ h => h) (by rfl) ?_ ?_ ?_
          rotate_left 2;(intro w';go_simp;with_reducible rfl);(simp only [Act.put, sa_, sz_, ss_, i64_w, i32_w];rfl)
          refine po_ HT_ 4 37 ?_ q16_5 rfl rfl (by kernel_rfl) (fun _ _ _ h => h) (by rfl) ?_ ?_
          rotate_left;(simp only [Act.put, sa_, sz_, ss_, i64_w, i32_w];rfl)
          refine po_ HT_ 5 38 ?_ q16_6 rfl rfl (by kernel_rfl) (fun _ _ _ h => h) (by rfl) ?_ ?_
          rotate_left;(simp only [Act.put, sa_, sz_, ss_, i64_w, i32_w];rfl)
          refine po_ HT_ 6 39 ?_ q16_7 rfl rfl (by kernel_rfl) (fun _ _ _ h => h) (by rfl) ?_ ?_
          rotate_left;(simp only [Act.put, sa_, sz_, ss_, i64_w, i32_w];rfl)
          refine pn_ HT_ 7 40 ?_ ?_ q16_8 rfl rfl (by kernel_rfl) (fun _ _ _ h => h) (by rfl) ?_ ?_ ?_
          rotate_left 2;(intro w';go_simp;with_reducible rfl);(simp only [Act.put, sa_, sz_, ss_, i64_w, i32_w];rfl)
          refine pn_ HT_ 8 41 ?_ ?_ q16_9 rfl rfl (by kernel_rfl) (fun _ _ _ h => h) (by rfl) ?_ ?_ ?_
          rotate_left 2;(intro w';go_simp;with_reducible rfl);(simp only [Act.put, sa_, sz_, ss_, i64_w, i32_w];rfl)
          refine po_ HT_ 9 42 ?_ q16_10 rfl rfl (by kernel_rfl) (fun _ _ _ h => h) (by rfl) ?_ ?_
          rotate_left;(simp only [Act.put, sa_, sz_, ss_, i64_w, i32_w];rfl)
          refine po_ HT_ 10 43 ?_ q16_11 rfl rfl (by kernel_rfl) (fun _ _ _ h => h) (by rfl) ?_ ?_
          rotate_left;(simp only [Act.put, sa_, sz_, ss_, i64_w, i32_w];rfl)
          refine po_ HT_ 11 44 ?_ q16_12 rfl rfl (by kernel_rfl) (fun _ _ _ h => h) (by rfl) ?_ ?_
          rotate_left;(simp only [Act.put, sa_, sz_, ss_, i64_w, i32_w];rfl)
          refine pn_ HT_ 12 45 ?_ ?_ q16_13 rfl rfl (by kernel_rfl) (fun _ _ _ h => h) (by rfl) ?_ ?_ ?_
          rotate_left 2;(intro w';go_simp;with_reducible rfl);(simp only [Act.put, sa_, sz_, ss_, i64_w, i32_w];rfl)
          refine pn_ HT_ 13 46 ?_ ?_ q16_14 rfl rfl (by kernel_rfl) (fun _ _ _ h => h) (by rfl) ?_ ?_ ?_
          rotate_left 2;(intro w';go_simp;with_reducible rfl);(simp only [Act.put, sa_, sz_, ss_, i64_w, i32_w];rfl)
          refine po_ HT_ 14 47 ?_ q16_15 rfl rfl (by kernel_rfl) (fun _ _ _ h => h) (by rfl) ?_ ?_
          rotate_left;(simp only [Act.put, sa_, sz_, ss_, i64_w, i32_w];rfl)
          refine po_ HT_ 15 48 ?_ q16_16 rfl rfl (by kernel_rfl) (fun _ _ _ h => h) (by rfl) ?_ ?_
          rotate_left;(simp only [Act.put, sa_, sz_, ss_, i64_w, i32_w];rfl)
          refine po_ HT_ 16 49 ?_ q16_17 rfl rfl (by kernel_rfl) (fun _ _ _ h => h) (by rfl) ?_ ?_
          rotate_left;(simp only [Act.put, sa_, sz_, ss_, i64_w, i32_w];rfl)
          refine po_ HT_ 17 50 ?_ q16_18 rfl rfl (by kernel_rfl) (fun _ _ _ h => h) (by rfl) ?_ ?_
          rotate_left;(simp only [Act.put, sa_, sz_, ss_, i64_w, i32_w];rfl)
          refine po_ HT_ 18 51 ?_ q16_19 rfl rfl (by kernel_rfl) (fun _ _ _ h => h) (by rfl) ?_ ?_
          rotate_left;(simp only [Act.put, sa_, sz_, ss_, i64_w, i32_w];rfl)
          refine po_ HT_ 19 52 ?_ q16_20 rfl rfl (by kernel_rfl) (fun _ _ _ h => h) (by rfl) ?_ ?_
          rotate_left;(simp only [Act.put, sa_, sz_, ss_, i64_w, i32_w];rfl)
          refine po_ HT_ 20 53 ?_ q16_21 rfl rfl (by kernel_rfl) (fun _ _ _ h => h) (by rfl) ?_ ?_
          rotate_left;(simp only [Act.put, sa_, sz_, ss_, i64_w, i32_w];rfl)
          refine po_ HT_ 21 54 ?_ q16_22 rfl rfl (by kernel_rfl) (fun _ _ _ h => h) (by rfl) ?_ ?_
          rotate_left;(simp only [Act.put, sa_, sz_, ss_, i64_w, i32_w];rfl)
          refine pn_ HT_ 22 55 ?_ ?_ q16_23 rfl rfl (by kernel_rfl) (fun _ _ _ h => h) (by rfl) ?_ ?_ ?_
          rotate_left 2;(intro w';go_simp;with_reducible rfl);(simp only [Act.put, sa_, sz_, ss_, i64_w, i32_w];rfl)
          refine done_ (done_of HT_.out (by kernel_rfl)) ?_
          try go_wp2
          go_roundg kj4
          case measure => have := HK1.out; have := HJ4.out; omega
          case rel => exact ⟨(wrap64 (x7_1 + 1)), (by first | rfl | (simp; done) | (simp [*]; done)), H', ⟨by have := HK1.out; have := HJ4.out; omega⟩, ⟨by repeat (first | (with_reducible first | exact HB.out | apply ba_ | apply bn_ | apply b1_ | refine below_set ?_ GE323.out) | exact HB.out)⟩⟩
     ·rw [if_neg c4] at H
      exact absurd H (by simp)
    ·rw [if_neg c3] at H
     exact absurd H (by simp)
   ·rw [if_neg c2] at H
    have c2b0 : decide (x7_1 < (l0.length : Int)) = false := decide_eq_false c2
    clear c2
    obtain rfl := Option.some.inj H
    go_wp2
    go_ret
    exact ⟨by first | rfl | (simp [errW_none, errW_some] <;> rfl) | (simp [*, errW_none, errW_some] <;> rfl), by repeat (first | (with_reducible first | exact HB.out | apply ba_ | apply bn_ | apply b1_) | exact HB.out)⟩
end Go.Proofs.Yteafgjebaedjbaa.PFnExactTokensOk
