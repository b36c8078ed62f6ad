-- Written by this session's program wip/slim.py: the print's texts (with contracts of our own), only what this row needs, shortened. Lean checks it.
import Derived.Test.YteafgjebaedjbaaSFnExactTokensOkx0
import Derived.Test.YteafgjebaedjbaaSFnExactTokensOkx10
import Derived.Test.YteafgjebaedjbaaSFnExactTokensOkx13
import Derived.Test.YteafgjebaedjbaaSFnExactTokensOkx14
import Derived.Test.YteafgjebaedjbaaSFnExactTokensOkx15
namespace Go.Proofs.Yteafgjebaedjbaa.PFnExactTokensOk
open Go.RowKit Go.Proofs.YteafgjebaedjbaaW.PrintWords Go.Proofs.YteafgjebaedjbaaW.PrintLast Go.Proofs.YteafgjebaedjbaaW.PrintMore
def q16_0 : Array Bool := #[false, false, false, false, false, false, false, false, false, false, false, false, false, false, false, false, false, false, false, false, false, false, false]
def q16_1 : Array Bool := #[true, false, false, false, false, false, false, false, false, false, false, false, false, false, false, false, false, false, false, false, false, false, false]
def q16_2 : Array Bool := #[true, true, false, false, false, false, false, false, false, false, false, false, false, false, false, false, false, false, false, false, false, false, false]
def q16_3 : Array Bool := #[true, true, true, false, false, false, false, false, false, false, false, false, false, false, false, false, false, false, false, false, false, false, false]
def q16_4 : Array Bool := #[true, true, true, true, false, false, false, false, false, false, false, false, false, false, false, false, false, false, false, false, false, false, false]
def q16_5 : Array Bool := #[true, true, true, true, true, false, false, false, false, false, false, false, false, false, false, false, false, false, false, false, false, false, false]
def q16_6 : Array Bool := #[true, true, true, true, true, true, false, false, false, false, false, false, false, false, false, false, false, false, false, false, false, false, false]
def q16_7 : Array Bool := #[true, true, true, true, true, true, true, false, false, false, false, false, false, false, false, false, false, false, false, false, false, false, false]
def q16_8 : Array Bool := #[true, true, true, true, true, true, true, true, false, false, false, false, false, false, false, false, false, false, false, false, false, false, false]
def q16_9 : Array Bool := #[true, true, true, true, true, true, true, true, true, false, false, false, false, false, false, false, false, false, false, false, false, false, false]
def q16_10 : Array Bool := #[true, true, true, true, true, true, true, true, true, true, false, false, false, false, false, false, false, false, false, false, false, false, false]
def q16_11 : Array Bool := #[true, true, true, true, true, true, true, true, true, true, true, false, false, false, false, false, false, false, false, false, false, false, false]
def q16_12 : Array Bool := #[true, true, true, true, true, true, true, true, true, true, true, true, false, false, false, false, false, false, false, false, false, false, false]
def q16_13 : Array Bool := #[true, true, true, true, true, true, true, true, true, true, true, true, true, false, false, false, false, false, false, false, false, false, false]
def q16_14 : Array Bool := #[true, true, true, true, true, true, true, true, true, true, true, true, true, true, false, false, false, false, false, false, false, false, false]
def q16_15 : Array Bool := #[true, true, true, true, true, true, true, true, true, true, true, true, true, true, true, false, false, false, false, false, false, false, false]
def q16_16 : Array Bool := #[true, true, true, true, true, true, true, true, true, true, true, true, true, true, true, true, false, false, false, false, false, false, false]
def q16_17 : Array Bool := #[true, true, true, true, true, true, true, true, true, true, true, true, true, true, true, true, true, false, false, false, false, false, false]
def q16_18 : Array Bool := #[true, true, true, true, true, true, true, true, true, true, true, true, true, true, true, true, true, true, false, false, false, false, false]
def q16_19 : Array Bool := #[true, true, true, true, true, true, true, true, true, true, true, true, true, true, true, true, true, true, true, false, false, false, false]
def q16_20 : Array Bool := #[true, true, true, true, true, true, true, true, true, true, true, true, true, true, true, true, true, true, true, true, false, false, false]
def q16_21 : Array Bool := #[true, true, true, true, true, true, true, true, true, true, true, true, true, true, true, true, true, true, true, true, true, false, false]
def q16_22 : Array Bool := #[true, true, true, true, true, true, true, true, true, true, true, true, true, true, true, true, true, true, true, true, true, true, false]
def q16_23 : Array Bool := #[true, true, true, true, true, true, true, true, true, true, true, true, true, true, true, true, true, true, true, true, true, true, true]
def q16_24 : Array Bool := #[true, true, true, true, true, true, true, true, true, true, true, true, true, true, true, false, true, false, false, false, false, false, false]
def q16_25 : Array Bool := #[true, true, true, true, true, true, true, true, true, true, true, true, true, true, true, false, true, true, false, false, false, false, false]
def q16_26 : Array Bool := #[true, true, true, true, true, true, true, true, true, true, true, true, true, true, true, false, true, true, true, false, false, false, false]
def q16_27 : Array Bool := #[true, true, true, true, true, true, true, true, true, true, true, true, true, true, true, false, true, true, true, true, false, false, false]
attribute [local go_sem] max2_int min2_int max_two min_two max_three min_three max_four min_four
set_option linter.unusedVariables false
set_option linter.unusedSimpArgs false
mutual
def impl_TokensOk.l0 : Nat → List (S87) → List (S87) → Int → Int → Option (Bool)
 | 0, _, _, _, _ => none
 | k + 1, x0, x5, x6, x7 => if x7 < x6 then (if 0 ≤ x7 then (if x7 < (x5.length : Int) then ((impl_tokenOk.f k ((rd_T87 x5 x7).f0) ((rd_T87 x5 x7).f1) ((rd_T87 x5 x7).f2) ((rd_T87 x5 x7).f3) ((rd_T87 x5 x7).f4)).bind fun t338 => (if t338 = true then (if x7 > 0 then (if ((rd_T87 x5 x7).f0) = 1 then (if 0 ≤ (wrap64 (x7 - 1)) then (if (wrap64 (x7 - 1)) < (x0.length : Int) then (impl_TokensOk.j1 k x0 x7 x5 x6 x7 (((rd_T87 x0 (wrap64 (x7 - 1))).f0) == 1) ((rd_T87 x5 x7).f0) ((rd_T87 x5 x7).f1) ((rd_T87 x5 x7).f2) ((rd_T87 x5 x7).f3) ((rd_T87 x5 x7).f4)) else (none)) else (none)) else (impl_TokensOk.j1 k x0 x7 x5 x6 x7 false ((rd_T87 x5 x7).f0) ((rd_T87 x5 x7).f1) ((rd_T87 x5 x7).f2) ((rd_T87 x5 x7).f3) ((rd_T87 x5 x7).f4))) else (impl_TokensOk.j1 k x0 x7 x5 x6 x7 false ((rd_T87 x5 x7).f0) ((rd_T87 x5 x7).f1) ((rd_T87 x5 x7).f2) ((rd_T87 x5 x7).f3) ((rd_T87 x5 x7).f4))) else (impl_TokensOk.j1 k x0 x7 x5 x6 x7 true ((rd_T87 x5 x7).f0) ((rd_T87 x5 x7).f1) ((rd_T87 x5 x7).f2) ((rd_T87 x5 x7).f3) ((rd_T87 x5 x7).f4)))) else (none)) else (none)) else (some true)
def impl_TokensOk.j1 : Nat → List (S87) → Int → List (S87) → Int → Int → Bool → Int → ByteArray → List (S117) → ByteArray → Bool → Option (Bool)
 | 0, _, _, _, _, _, _, _, _, _, _, _ => none
 | k + 1, x0, x3, x5, x6, x7, x32, x338000, x338001, x338002, x338003, x338004 => if x32 = true then (some false) else (if x338000 = 2 then (if x338004 = true then (impl_TokensOk.l0 k x0 x5 x6 (wrap64 (x7 + 1))) else ((impl_Raw.f x338001).bind fun t340 => (if t340 = true then (if 0 ≤ (wrap64 (x3 + 1)) then (if (wrap64 (x3 + 1)) ≤ (x0.length : Int) then ((impl_rawOk.f k x338001 (x0.drop ((wrap64 (x3 + 1)) : Int).toNat)).bind fun t345 => (if t345 = true then (impl_TokensOk.l0 k x0 x5 x6 (wrap64 (x7 + 1))) else (some false))) else (none)) else (none)) else (impl_TokensOk.l0 k x0 x5 x6 (wrap64 (x7 + 1)))))) else (impl_TokensOk.l0 k x0 x5 x6 (wrap64 (x7 + 1))))
end
def impl_TokensOk.f (k : Nat) (l0 : List (S87)) : Option (Bool) := impl_TokensOk.l0 k l0 l0 (l0.length : Int) 0
theorem impl_TokensOk.mono_l : ∀ k, (∀ y0 y1 y2 y3, LeO (impl_TokensOk.l0 k y0 y1 y2 y3) (impl_TokensOk.l0 (k + 1) y0 y1 y2 y3)) ∧ (∀ y0 y1 y2 y3 y4 y5 y6 y7 y8 y9 y10, LeO (impl_TokensOk.j1 k y0 y1 y2 y3 y4 y5 y6 y7 y8 y9 y10) (impl_TokensOk.j1 (k + 1) y0 y1 y2 y3 y4 y5 y6 y7 y8 y9 y10))
 | 0 => ⟨fun _ _ _ _ r h => by simp [impl_TokensOk.l0] at h, fun _ _ _ _ _ _ _ _ _ _ _ r h => by simp [impl_TokensOk.j1] at h⟩
 | k + 1 => by
  obtain ⟨ih0, ih1⟩ := impl_TokensOk.mono_l k
  refine ⟨?_, ?_⟩
  ·intro y0 y1 y2 y3
   unfold impl_TokensOk.l0
   repeat' first
   | (with_reducible exact ih0 _ _ _ _)
   | (with_reducible exact ih1 _ _ _ _ _ _ _ _ _ _ _)
   | (with_reducible exact impl_rawOk.mono _ _ _)
   | (with_reducible exact impl_tokenOk.mono _ _ _ _ _ _)
   | (with_reducible exact LeO.refl _)
   | (with_reducible exact LeO.none _)
   | (with_reducible refine LeO.ite ?_ ?_)
   | (with_reducible refine LeO.bind ?_ (fun _ => ?_))
  ·intro y0 y1 y2 y3 y4 y5 y6 y7 y8 y9 y10
   unfold impl_TokensOk.j1
   repeat' first
   | (with_reducible exact ih0 _ _ _ _)
   | (with_reducible exact ih1 _ _ _ _ _ _ _ _ _ _ _)
   | (with_reducible exact impl_rawOk.mono _ _ _)
   | (with_reducible exact impl_tokenOk.mono _ _ _ _ _ _)
   | (with_reducible exact LeO.refl _)
   | (with_reducible exact LeO.none _)
   | (with_reducible refine LeO.ite ?_ ?_)
   | (with_reducible refine LeO.bind ?_ (fun _ => ?_))
theorem impl_TokensOk.mono : ∀ a0 k, LeO (impl_TokensOk.f k a0) (impl_TokensOk.f (k + 1) a0) := by
 intro a0 k
 obtain ⟨ih0, ih1⟩ := impl_TokensOk.mono_l k
 unfold impl_TokensOk.f
 repeat' first
   | (with_reducible exact ih0 _ _ _ _)
   | (with_reducible exact ih1 _ _ _ _ _ _ _ _ _ _ _)
   | (with_reducible exact impl_rawOk.mono _ _ _)
   | (with_reducible exact impl_tokenOk.mono _ _ _ _ _ _)
   | (with_reducible exact LeO.refl _)
   | (with_reducible exact LeO.none _)
   | (with_reducible refine LeO.ite ?_ ?_)
   | (with_reducible refine LeO.bind ?_ (fun _ => ?_))
def impl_TokensOk.T6 : Bool × List (List Nat × List Nat) := (true, [([], []), ([0], [0]), ([1], [1]), ([2], [2]), ([3], [3]), ([4, 3], [3, 4]), ([5, 3], [3, 5]), ([3, 6], [3, 6]), ([7, 3], [7]), ([8], [8]), ([9, 8], [8, 9]), ([10, 8, 8], [8, 10]), ([8, 11], [8, 11]), ([12, 11], [12]), ([13], [13]), ([14, 13], [13, 14]), ([13], [13]), ([13], [13]), ([17, 13], [13, 17]), ([16, 18, 13], [13, 16, 18]), ([15, 19, 13, 13], [13, 15, 19]), ([20, 13], [13, 20]), ([13, 21], [13, 21])])
def impl_TokensOk.B6 : List Nat := [0, 1, 3, 7, 15, 31, 63, 127, 255, 511, 1023, 2047, 4095, 8191, 16383, 32767, 16383, 16383, 147455, 475135, 1048575, 2097151, 4194303]
theorem impl_TokensOk.tab6 : rtab .any (opsOf Try.f60 6) = impl_TokensOk.T6 := by kernel_rfl
theorem impl_TokensOk.bits6 : waitsOk impl_TokensOk.T6.2 impl_TokensOk.B6 = true := by kernel_rfl
set_option maxHeartbeats 8000000 in
set_option maxRecDepth 100000 in
theorem impl_TokensOk.calls (k : Nat) (A0 : Option Addr) (c0 : Nat) (l0 : List (S87)) (r : Bool) (w : World) (hr0 : Kd.C k87 w A0 l0.length l0) (hc0 : l0.length ≤ c0) (hG : MaxSeen w) (h : impl_TokensOk.f k l0 = some r) :
  Calls Try.prog 60 #[.slice A0 l0.length c0] w fun e w' => e = .returned (.bool r) ∧ Below w.heap.size w w' := by
 have hu87 := Try.underlying87
 have HR0 := Aside0.mk hr0
 have HC0 := Aside0.mk hc0
 clear hr0 hc0
 have HB := Aside0.mk (Below.refl w.heap.size w)
 have HG := Aside0.mk hG
 clear hG
 have H : (impl_TokensOk.l0 k l0 l0 (l0.length : Int) 0) = some r := h
 clear h
 have H' := Aside0.mk H
 clear H
 go_enter Try.func60, Try.ntmps60
 go_wp2
 go_loopg [7] k (fun kq v7 w' => ∃ (x7_1 : Int), v7 = .int .i64 x7_1 ∧ Aside0 (impl_TokensOk.l0 kq l0 l0 (l0.length : Int) x7_1 = some r) ∧ Aside0 (kq ≤ k) ∧ Aside0 (Below w.heap.size w w'))
 case atStart => exact ⟨(0), (by first | rfl | (simp; done) | (simp [*]; done)), H', ⟨Nat.le_refl _⟩, ⟨hb_⟩⟩
 case round =>
  clear H'
  obtain ⟨x7_1, rfl, HA, HK1, HB⟩ := hrel
  cases gk with
  | zero => exact absurd HA.out (by simp [impl_TokensOk.l0])
  | succ k1 =>
   have H := HA.out
   clear HA
   simp only [impl_TokensOk.l0] at H
   by_cases c2 : x7_1 < (l0.length : Int)
   ·rw [if_pos c2] at H
    have c2b0 : decide (x7_1 < (l0.length : Int)) = true := decide_eq_true c2
    clear c2
    by_cases c3 : 0 ≤ x7_1
    ·rw [if_pos c3] at H
     have c3b0 : decide (0 ≤ x7_1) = true := decide_eq_true c3
     clear c3
     by_cases c4 : x7_1 < (l0.length : Int)
     ·rw [if_pos c4] at H
      have c4b0 : decide (x7_1 < (l0.length : Int)) = true := decide_eq_true c4
      clear c4
      have HC5 := Aside0.mk H
      clear H
      have p336 : 0 ≤ (x7_1 : Int) := dt_
      have q336 : x7_1 < (l0.length : Int) := dt_
      obtain ⟨ad336, A336_2, c336_2, e336, hx336_0, hx336_1, hx336_2, hx336_3, hx336_4, hl336_2, hi336_2⟩ := at_T87 HR0.out x7_1 p336 q336
      cases e336
      replace hx336_0 := pw_cell_below HB.out hx336_0
      replace hx336_1 := pw_cell_below HB.out hx336_1
      replace hx336_2 := pw_cell_below HB.out hx336_2
      replace hx336_3 := pw_cell_below HB.out hx336_3
      replace hx336_4 := pw_cell_below HB.out hx336_4
      have HR336_2 := Aside0.mk hi336_2
      have HC336_2 := Aside0.mk hl336_2
      clear hi336_2 hl336_2
      replace p336 := eq_true p336
      replace q336 := eq_true q336
      go_upto_region 4 with (first | ((with_reducible refine gate_dst (N := 4) rfl ?_); refine box_event ?hg (N := 4) ?hd (cs := #[.int .i64 0, .string (⟨#[]⟩ : ByteArray), .slice none 0 0, .string (⟨#[]⟩ : ByteArray), .bool false]) (t := 87) ?hr ?_; (case hd => rfl); (case hg => rfl); (case hr => first | (go_simp; done) | (go_simp; rfl)); intro gb337 hg w6 hbox hb; have n0_ := Aside0.mk (below_step hb_ hb); have n1_ := Aside0.mk (hbox); have n2_ := Aside0.mk ((by rw [hg]; exact (below_size hb_) : w.heap.size ≤ gb337)); have n3_ := Aside0.mk ((by rw [hg]; exact (below_size hb_) : w.heap.size ≤ gb337)); clear HB; have HB := n0_; have BK337 := n1_; have GW337 := n2_; have GE337 := n3_; clear n0_ n1_ n2_ n3_; clear hb hbox hg; have hcz7_0 : w6.cell? ⟨gb337, 0, none⟩ = some (.int .i64 0) := (bc_ BK337.out 0).trans rfl; have hcz7_1 : w6.cell? ⟨gb337, 1, none⟩ = some (.string (⟨#[]⟩ : ByteArray)) := (bc_ BK337.out 1).trans rfl; have hcz7_2 : w6.cell? ⟨gb337, 2, none⟩ = some (.slice none 0 0) := (bc_ BK337.out 2).trans rfl; have hcz7_3 : w6.cell? ⟨gb337, 3, none⟩ = some (.string (⟨#[]⟩ : ByteArray)) := (bc_ BK337.out 3).trans rfl; have hcz7_4 : w6.cell? ⟨gb337, 4, none⟩ = some (.bool false) := (bc_ BK337.out 4).trans rfl; have hfz7_0 := blk_frozen BK337.out 0; have hfz7_1 := blk_frozen BK337.out 1; have hfz7_2 := blk_frozen BK337.out 2; have hfz7_3 := blk_frozen BK337.out 3; have hfz7_4 := blk_frozen BK337.out 4))
      (try simp only [Act.put, sa_, sz_, ss_])
      go_cut [32] (fun v32 wc => ∃ (kq : Nat) (x32_4 : Bool), v32 = .bool x32_4 ∧ Aside0 (impl_TokensOk.j1 kq l0 x7_1 l0 (l0.length : Int) x7_1 x32_4 ((rd_T87 l0 x7_1).f0) ((rd_T87 l0 x7_1).f1) ((rd_T87 l0 x7_1).f2) ((rd_T87 l0 x7_1).f3) ((rd_T87 l0 x7_1).f4) = some r) ∧ Aside0 (kq ≤ k1) ∧ Aside0 (wc.heap[gb337]? = some (.cells #[.int .i64 ((rd_T87 l0 x7_1).f0), .string ((rd_T87 l0 x7_1).f1), (.slice A336_2 ((rd_T87 l0 x7_1).f2).length c336_2), .string ((rd_T87 l0 x7_1).f3), .bool ((rd_T87 l0 x7_1).f4)] 87 (0, 0))) ∧ Aside0 (Below w.heap.size w wc))
      case first =>
       have H := HC5.out
       clear HC5
       replace H := Option.bind_eq_some_iff.mp H
       obtain ⟨t338, A80, H⟩ := H
       replace H : (if t338 = true then (if x7_1 > 0 then (if ((rd_T87 l0 x7_1).f0) = 1 then (if 0 ≤ (wrap64 (x7_1 - 1)) then (if (wrap64 (x7_1 - 1)) < (l0.length : Int) then (impl_TokensOk.j1 k1 l0 x7_1 l0 (l0.length : Int) x7_1 (((rd_T87 l0 (wrap64 (x7_1 - 1))).f0) == 1) ((rd_T87 l0 x7_1).f0) ((rd_T87 l0 x7_1).f1) ((rd_T87 l0 x7_1).f2) ((rd_T87 l0 x7_1).f3) ((rd_T87 l0 x7_1).f4)) else (none)) else (none)) else (impl_TokensOk.j1 k1 l0 x7_1 l0 (l0.length : Int) x7_1 false ((rd_T87 l0 x7_1).f0) ((rd_T87 l0 x7_1).f1) ((rd_T87 l0 x7_1).f2) ((rd_T87 l0 x7_1).f3) ((rd_T87 l0 x7_1).f4))) else (impl_TokensOk.j1 k1 l0 x7_1 l0 (l0.length : Int) x7_1 false ((rd_T87 l0 x7_1).f0) ((rd_T87 l0 x7_1).f1) ((rd_T87 l0 x7_1).f2) ((rd_T87 l0 x7_1).f3) ((rd_T87 l0 x7_1).f4))) else (impl_TokensOk.j1 k1 l0 x7_1 l0 (l0.length : Int) x7_1 true ((rd_T87 l0 x7_1).f0) ((rd_T87 l0 x7_1).f1) ((rd_T87 l0 x7_1).f2) ((rd_T87 l0 x7_1).f3) ((rd_T87 l0 x7_1).f4))) = some r := H
       have A8 := Aside0.mk A80
       clear A80
       by_cases c9 : t338 = true
       ·subst c9
        have H1 : (if x7_1 > 0 then (if ((rd_T87 l0 x7_1).f0) = 1 then (if 0 ≤ (wrap64 (x7_1 - 1)) then (if (wrap64 (x7_1 - 1)) < (l0.length : Int) then (impl_TokensOk.j1 k1 l0 x7_1 l0 (l0.length : Int) x7_1 (((rd_T87 l0 (wrap64 (x7_1 - 1))).f0) == 1) ((rd_T87 l0 x7_1).f0) ((rd_T87 l0 x7_1).f1) ((rd_T87 l0 x7_1).f2) ((rd_T87 l0 x7_1).f3) ((rd_T87 l0 x7_1).f4)) else (none)) else (none)) else (impl_TokensOk.j1 k1 l0 x7_1 l0 (l0.length : Int) x7_1 false ((rd_T87 l0 x7_1).f0) ((rd_T87 l0 x7_1).f1) ((rd_T87 l0 x7_1).f2) ((rd_T87 l0 x7_1).f3) ((rd_T87 l0 x7_1).f4))) else (impl_TokensOk.j1 k1 l0 x7_1 l0 (l0.length : Int) x7_1 false ((rd_T87 l0 x7_1).f0) ((rd_T87 l0 x7_1).f1) ((rd_T87 l0 x7_1).f2) ((rd_T87 l0 x7_1).f3) ((rd_T87 l0 x7_1).f4))) = some r := by rw [if_pos rfl] at H; exact H
        clear H
        have H := H1
        clear H1
        by_cases c10 : x7_1 > 0
        ·rw [if_pos c10] at H
         have c10b0 : decide (0 < x7_1) = true := decide_eq_true c10
         clear c10
         (first | rw [c10b0] | (simp only [i64_w, i32_w]; rw [c10b0]) | skip)
         by_cases c11 : ((rd_T87 l0 x7_1).f0) = 1
         ·rw [if_pos c11] at H
          have c11b0 : (((rd_T87 l0 x7_1).f0) == 1) = true := beq_iff_eq.mpr c11
          have c11b1 : (((rd_T87 l0 x7_1).f0) != 1) = false := bne_eq_false_iff_eq.mpr c11
          clear c11
          obtain ⟨ji12, hji12⟩ : ∃ j_ : Int, (wrap64 (x7_1 - 1)) = j_ := ⟨_, rfl⟩
          replace H : (if 0 ≤ (ji12) then (if (ji12) < (l0.length : Int) then (impl_TokensOk.j1 k1 l0 x7_1 l0 (l0.length : Int) x7_1 (((rd_T87 l0 (ji12)).f0) == 1) ((rd_T87 l0 x7_1).f0) ((rd_T87 l0 x7_1).f1) ((rd_T87 l0 x7_1).f2) ((rd_T87 l0 x7_1).f3) ((rd_T87 l0 x7_1).f4)) else (none)) else (none)) = some r := by first | (rw [hji12] at H; exact H) | (simp only [hji12] at H ⊢; exact H)
          (try rw [hji12] at A8)
          have hji12w : (IntKind.i64.wrap (x7_1 - 1)) = ji12 := (i64_w _).trans hji12
          by_cases c13 : 0 ≤ (ji12)
          ·rw [if_pos c13] at H
           have c13b0 : decide (0 ≤ (ji12)) = true := decide_eq_true c13
           clear c13
           by_cases c14 : (ji12) < (l0.length : Int)
           ·rw [if_pos c14] at H
            have c14b0 : decide ((ji12) < (l0.length : Int)) = true := decide_eq_true c14
            clear c14
            have H' := Aside0.mk H
            clear H
            have hcz15_0 : w6.cell? ⟨gb337, 0, none⟩ = some (.int .i64 0) := (bc_ BK337.out 0).trans rfl
            have hcz15_1 : w6.cell? ⟨gb337, 1, none⟩ = some (.string (⟨#[]⟩ : ByteArray)) := (bc_ BK337.out 1).trans rfl
            have hcz15_2 : w6.cell? ⟨gb337, 2, none⟩ = some (.slice none 0 0) := (bc_ BK337.out 2).trans rfl
            have hcz15_3 : w6.cell? ⟨gb337, 3, none⟩ = some (.string (⟨#[]⟩ : ByteArray)) := (bc_ BK337.out 3).trans rfl
            have hcz15_4 : w6.cell? ⟨gb337, 4, none⟩ = some (.bool false) := (bc_ BK337.out 4).trans rfl
            have hfz15_0 := blk_frozen BK337.out 0
            have hfz15_1 := blk_frozen BK337.out 1
            have hfz15_2 := blk_frozen BK337.out 2
            have hfz15_3 := blk_frozen BK337.out 3
            have hfz15_4 := blk_frozen BK337.out 4
            go_wp2_with (first | ((with_reducible refine gate_callee (f := 94) rfl ?_); refine goesL_ (some 13) rfl rfl Try.func94 (by kernel_rfl) rfl #[.agg #[.int .i64 ((rd_T87 l0 x7_1).f0), .string ((rd_T87 l0 x7_1).f1), .slice A336_2 ((rd_T87 l0 x7_1).f2).length c336_2, .string ((rd_T87 l0 x7_1).f3), .bool ((rd_T87 l0 x7_1).f4)]] rfl (by (try simp only [List.map_toArray, List.map_cons, List.map_nil]); first | done | rfl | (simp only [List.length_drop, List.length_take]; rfl)) ?_; (with_reducible refine (impl_tokenOk.calls k1 ((rd_T87 l0 x7_1).f0) ((rd_T87 l0 x7_1).f1) _ _ ((rd_T87 l0 x7_1).f2) ((rd_T87 l0 x7_1).f3) ((rd_T87 l0 x7_1).f4) true _ ?side1 ?side2 ?side3 A8.out).mono ?_); (case side1 => exact Kd.C_below HR336_2.out hb_); (case side2 => exact HC336_2.out); (case side3 => exact MaxSeen.below HG.out hb_); rintro e w16 ⟨rfl, hb⟩; refine ⟨_, rfl, ?_⟩; have n0_ := Aside0.mk (blk_below (g := gb337) (o := .cells #[.int .i64 ((rd_T87 l0 x7_1).f0), .string ((rd_T87 l0 x7_1).f1), .slice A336_2 ((rd_T87 l0 x7_1).f2).length c336_2, .string ((rd_T87 l0 x7_1).f3), .bool ((rd_T87 l0 x7_1).f4)] 87 (0, 0)) (by (with_reducible repeat (first | refine dn_ ?_ _ | refine dd_ ?_ | refine da_ ?_ _)); refine blk_put (cs := #[.int .i64 ((rd_T87 l0 x7_1).f0), .string ((rd_T87 l0 x7_1).f1), .slice A336_2 ((rd_T87 l0 x7_1).f2).length c336_2, .string ((rd_T87 l0 x7_1).f3), .bool false]) ?_ 4 _ rfl; (with_reducible repeat (first | refine dn_ ?_ _ | refine dd_ ?_ | refine da_ ?_ _)); refine blk_put (cs := #[.int .i64 ((rd_T87 l0 x7_1).f0), .string ((rd_T87 l0 x7_1).f1), .slice A336_2 ((rd_T87 l0 x7_1).f2).length c336_2, .string (⟨#[]⟩ : ByteArray), .bool false]) ?_ 3 _ rfl; (with_reducible repeat (first | refine dn_ ?_ _ | refine dd_ ?_ | refine da_ ?_ _)); refine blk_put (cs := #[.int .i64 ((rd_T87 l0 x7_1).f0), .string ((rd_T87 l0 x7_1).f1), .slice none 0 0, .string (⟨#[]⟩ : ByteArray), .bool false]) ?_ 2 _ rfl; (with_reducible repeat (first | refine dn_ ?_ _ | refine dd_ ?_ | refine da_ ?_ _)); refine blk_put (cs := #[.int .i64 ((rd_T87 l0 x7_1).f0), .string (⟨#[]⟩ : ByteArray), .slice none 0 0, .string (⟨#[]⟩ : ByteArray), .bool false]) ?_ 1 _ rfl; (with_reducible repeat (first | refine dn_ ?_ _ | refine dd_ ?_ | refine da_ ?_ _)); refine blk_put (cs := #[.int .i64 0, .string (⟨#[]⟩ : ByteArray), .slice none 0 0, .string (⟨#[]⟩ : ByteArray), .bool false]) ?_ 0 _ rfl; (with_reducible repeat (first | refine dn_ ?_ _ | refine dd_ ?_ | refine da_ ?_ _)); exact BK337.out) hb); have n1_ := Aside0.mk (below_step hb_ hb); clear BK337; clear HB; have BK337 := n0_; have HB := n1_; clear n0_ n1_; (try clear hb); (try clear hb2); (try clear hk); (try clear hi); have hcz17_0 : w16.cell? ⟨gb337, 0, none⟩ = some (.int .i64 ((rd_T87 l0 x7_1).f0)) := (bc_ BK337.out 0).trans rfl; have hcz17_1 : w16.cell? ⟨gb337, 1, none⟩ = some (.string ((rd_T87 l0 x7_1).f1)) := (bc_ BK337.out 1).trans rfl; have hcz17_2 : w16.cell? ⟨gb337, 2, none⟩ = some (.slice A336_2 ((rd_T87 l0 x7_1).f2).length c336_2) := (bc_ BK337.out 2).trans rfl; have hcz17_3 : w16.cell? ⟨gb337, 3, none⟩ = some (.string ((rd_T87 l0 x7_1).f3)) := (bc_ BK337.out 3).trans rfl; have hcz17_4 : w16.cell? ⟨gb337, 4, none⟩ = some (.bool ((rd_T87 l0 x7_1).f4)) := (bc_ BK337.out 4).trans rfl; have hfz17_0 := blk_frozen BK337.out 0; have hfz17_1 := blk_frozen BK337.out 1; have hfz17_2 := blk_frozen BK337.out 2; have hfz17_3 := blk_frozen BK337.out 3; have hfz17_4 := blk_frozen BK337.out 4; have p339 : 0 ≤ ((ji12) : Int) := dt_; have q339 : (ji12) < (l0.length : Int) := dt_; obtain ⟨ad339, A339_2, c339_2, e339, hx339_0, hx339_1, hx339_2, hx339_3, hx339_4, hl339_2, hi339_2⟩ := at_T87 HR0.out (ji12) p339 q339; obtain rfl : ad336 = ad339 := (by injection e339); replace hx339_0 := pw_cell_below HB.out hx339_0; replace hx339_1 := pw_cell_below HB.out hx339_1; replace hx339_2 := pw_cell_below HB.out hx339_2; replace hx339_3 := pw_cell_below HB.out hx339_3; replace hx339_4 := pw_cell_below HB.out hx339_4; have HR339_2 := Aside0.mk hi339_2; have HC339_2 := Aside0.mk hl339_2; clear hi339_2 hl339_2; replace p339 := eq_true p339; replace q339 := eq_true q339))
            (try subst hji12)
            go_meet
            case rel => exact ⟨_, ((((rd_T87 l0 ((wrap64 (x7_1 - 1)))).f0) == 1)), (by first | rfl | (simp; done) | (simp only [← hji12] <;> (first | rfl | simp)) | (simp [*]; done)), H', ⟨by have := HK1.out; first | omega | exact Nat.le_refl _⟩, ⟨by (with_reducible repeat (first | refine dn_ ?_ _ | refine dd_ ?_ | refine da_ ?_ _)); exact BK337.out⟩, ⟨hb_⟩⟩
           ·rw [if_neg c14] at H
            exact absurd H (by simp)
          ·rw [if_neg c13] at H
           exact absurd H (by simp)
         ·rw [if_neg c11] at H
          have c11b0 : (((rd_T87 l0 x7_1).f0) == 1) = false := beq_eq_false_iff_ne.mpr c11
          have c11b1 : (((rd_T87 l0 x7_1).f0) != 1) = true := bne_iff_ne.mpr c11
          have H' := Aside0.mk H
          clear H
          have hcz18_0 : w6.cell? ⟨gb337, 0, none⟩ = some (.int .i64 0) := (bc_ BK337.out 0).trans rfl
          have hcz18_1 : w6.cell? ⟨gb337, 1, none⟩ = some (.string (⟨#[]⟩ : ByteArray)) := (bc_ BK337.out 1).trans rfl
          have hcz18_2 : w6.cell? ⟨gb337, 2, none⟩ = some (.slice none 0 0) := (bc_ BK337.out 2).trans rfl
          have hcz18_3 : w6.cell? ⟨gb337, 3, none⟩ = some (.string (⟨#[]⟩ : ByteArray)) := (bc_ BK337.out 3).trans rfl
          have hcz18_4 : w6.cell? ⟨gb337, 4, none⟩ = some (.bool false) := (bc_ BK337.out 4).trans rfl
          have hfz18_0 := blk_frozen BK337.out 0
          have hfz18_1 := blk_frozen BK337.out 1
          have hfz18_2 := blk_frozen BK337.out 2
          have hfz18_3 := blk_frozen BK337.out 3
          have hfz18_4 := blk_frozen BK337.out 4
          go_wp2_with (first | ((with_reducible refine gate_callee (f := 94) rfl ?_); refine goesL_ (some 13) rfl rfl Try.func94 (by kernel_rfl) rfl #[.agg #[.int .i64 ((rd_T87 l0 x7_1).f0), .string ((rd_T87 l0 x7_1).f1), .slice A336_2 ((rd_T87 l0 x7_1).f2).length c336_2, .string ((rd_T87 l0 x7_1).f3), .bool ((rd_T87 l0 x7_1).f4)]] rfl (by (try simp only [List.map_toArray, List.map_cons, List.map_nil]); first | done | rfl | (simp only [List.length_drop, List.length_take]; rfl)) ?_; (with_reducible refine (impl_tokenOk.calls k1 ((rd_T87 l0 x7_1).f0) ((rd_T87 l0 x7_1).f1) _ _ ((rd_T87 l0 x7_1).f2) ((rd_T87 l0 x7_1).f3) ((rd_T87 l0 x7_1).f4) true _ ?side1 ?side2 ?side3 A8.out).mono ?_); (case side1 => exact Kd.C_below HR336_2.out hb_); (case side2 => exact HC336_2.out); (case side3 => exact MaxSeen.below HG.out hb_); rintro e w19 ⟨rfl, hb⟩; refine ⟨_, rfl, ?_⟩; have n0_ := Aside0.mk (blk_below (g := gb337) (o := .cells #[.int .i64 ((rd_T87 l0 x7_1).f0), .string ((rd_T87 l0 x7_1).f1), .slice A336_2 ((rd_T87 l0 x7_1).f2).length c336_2, .string ((rd_T87 l0 x7_1).f3), .bool ((rd_T87 l0 x7_1).f4)] 87 (0, 0)) (by (with_reducible repeat (first | refine dn_ ?_ _ | refine dd_ ?_ | refine da_ ?_ _)); refine blk_put (cs := #[.int .i64 ((rd_T87 l0 x7_1).f0), .string ((rd_T87 l0 x7_1).f1), .slice A336_2 ((rd_T87 l0 x7_1).f2).length c336_2, .string ((rd_T87 l0 x7_1).f3), .bool false]) ?_ 4 _ rfl; (with_reducible repeat (first | refine dn_ ?_ _ | refine dd_ ?_ | refine da_ ?_ _)); refine blk_put (cs := #[.int .i64 ((rd_T87 l0 x7_1).f0), .string ((rd_T87 l0 x7_1).f1), .slice A336_2 ((rd_T87 l0 x7_1).f2).length c336_2, .string (⟨#[]⟩ : ByteArray), .bool false]) ?_ 3 _ rfl; (with_reducible repeat (first | refine dn_ ?_ _ | refine dd_ ?_ | refine da_ ?_ _)); refine blk_put (cs := #[.int .i64 ((rd_T87 l0 x7_1).f0), .string ((rd_T87 l0 x7_1).f1), .slice none 0 0, .string (⟨#[]⟩ : ByteArray), .bool false]) ?_ 2 _ rfl; (with_reducible repeat (first | refine dn_ ?_ _ | refine dd_ ?_ | refine da_ ?_ _)); refine blk_put (cs := #[.int .i64 ((rd_T87 l0 x7_1).f0), .string (⟨#[]⟩ : ByteArray), .slice none 0 0, .string (⟨#[]⟩ : ByteArray), .bool false]) ?_ 1 _ rfl; (with_reducible repeat (first | refine dn_ ?_ _ | refine dd_ ?_ | refine da_ ?_ _)); refine blk_put (cs := #[.int .i64 0, .string (⟨#[]⟩ : ByteArray), .slice none 0 0, .string (⟨#[]⟩ : ByteArray), .bool false]) ?_ 0 _ rfl; (with_reducible repeat (first | refine dn_ ?_ _ | refine dd_ ?_ | refine da_ ?_ _)); exact BK337.out) hb); have n1_ := Aside0.mk (below_step hb_ hb); clear BK337; clear HB; have BK337 := n0_; have HB := n1_; clear n0_ n1_; (try clear hb); (try clear hb2); (try clear hk); (try clear hi); have hcz20_0 : w19.cell? ⟨gb337, 0, none⟩ = some (.int .i64 ((rd_T87 l0 x7_1).f0)) := (bc_ BK337.out 0).trans rfl; have hcz20_1 : w19.cell? ⟨gb337, 1, none⟩ = some (.string ((rd_T87 l0 x7_1).f1)) := (bc_ BK337.out 1).trans rfl; have hcz20_2 : w19.cell? ⟨gb337, 2, none⟩ = some (.slice A336_2 ((rd_T87 l0 x7_1).f2).length c336_2) := (bc_ BK337.out 2).trans rfl; have hcz20_3 : w19.cell? ⟨gb337, 3, none⟩ = some (.string ((rd_T87 l0 x7_1).f3)) := (bc_ BK337.out 3).trans rfl; have hcz20_4 : w19.cell? ⟨gb337, 4, none⟩ = some (.bool ((rd_T87 l0 x7_1).f4)) := (bc_ BK337.out 4).trans rfl; have hfz20_0 := blk_frozen BK337.out 0; have hfz20_1 := blk_frozen BK337.out 1; have hfz20_2 := blk_frozen BK337.out 2; have hfz20_3 := blk_frozen BK337.out 3; have hfz20_4 := blk_frozen BK337.out 4))
          (try subst hji12)
          go_meet
          case rel => exact ⟨_, (false), (by first | rfl | (simp; done) | (simp [*]; done)), H', ⟨by have := HK1.out; first | omega | exact Nat.le_refl _⟩, ⟨by (with_reducible repeat (first | refine dn_ ?_ _ | refine dd_ ?_ | refine da_ ?_ _)); exact BK337.out⟩, ⟨hb_⟩⟩
        ·rw [if_neg c10] at H
         have c10b0 : decide (0 < x7_1) = false := decide_eq_false c10
         clear c10
         (first | rw [c10b0] | (simp only [i64_w, i32_w]; rw [c10b0]) | skip)
         have H' := Aside0.mk H
         clear H
         have hcz21_0 : w6.cell? ⟨gb337, 0, none⟩ = some (.int .i64 0) := (bc_ BK337.out 0).trans rfl
         have hcz21_1 : w6.cell? ⟨gb337, 1, none⟩ = some (.string (⟨#[]⟩ : ByteArray)) := (bc_ BK337.out 1).trans rfl
         have hcz21_2 : w6.cell? ⟨gb337, 2, none⟩ = some (.slice none 0 0) := (bc_ BK337.out 2).trans rfl
         have hcz21_3 : w6.cell? ⟨gb337, 3, none⟩ = some (.string (⟨#[]⟩ : ByteArray)) := (bc_ BK337.out 3).trans rfl
         have hcz21_4 : w6.cell? ⟨gb337, 4, none⟩ = some (.bool false) := (bc_ BK337.out 4).trans rfl
         have hfz21_0 := blk_frozen BK337.out 0
         have hfz21_1 := blk_frozen BK337.out 1
         have hfz21_2 := blk_frozen BK337.out 2
         have hfz21_3 := blk_frozen BK337.out 3
         have hfz21_4 := blk_frozen BK337.out 4
         go_wp2_with (first | ((with_reducible refine gate_callee (f := 94) rfl ?_); refine goesL_ (some 13) rfl rfl Try.func94 (by kernel_rfl) rfl #[.agg #[.int .i64 ((rd_T87 l0 x7_1).f0), .string ((rd_T87 l0 x7_1).f1), .slice A336_2 ((rd_T87 l0 x7_1).f2).length c336_2, .string ((rd_T87 l0 x7_1).f3), .bool ((rd_T87 l0 x7_1).f4)]] rfl (by (try simp only [List.map_toArray, List.map_cons, List.map_nil]); first | done | rfl | (simp only [List.length_drop, List.length_take]; rfl)) ?_; (with_reducible refine (impl_tokenOk.calls k1 ((rd_T87 l0 x7_1).f0) ((rd_T87 l0 x7_1).f1) _ _ ((rd_T87 l0 x7_1).f2) ((rd_T87 l0 x7_1).f3) ((rd_T87 l0 x7_1).f4) true _ ?side1 ?side2 ?side3 A8.out).mono ?_); (case side1 => exact Kd.C_below HR336_2.out hb_); (case side2 => exact HC336_2.out); (case side3 => exact MaxSeen.below HG.out hb_); rintro e w22 ⟨rfl, hb⟩; refine ⟨_, rfl, ?_⟩; have n0_ := Aside0.mk (blk_below (g := gb337) (o := .cells #[.int .i64 ((rd_T87 l0 x7_1).f0), .string ((rd_T87 l0 x7_1).f1), .slice A336_2 ((rd_T87 l0 x7_1).f2).length c336_2, .string ((rd_T87 l0 x7_1).f3), .bool ((rd_T87 l0 x7_1).f4)] 87 (0, 0)) (by (with_reducible repeat (first | refine dn_ ?_ _ | refine dd_ ?_ | refine da_ ?_ _)); refine blk_put (cs := #[.int .i64 ((rd_T87 l0 x7_1).f0), .string ((rd_T87 l0 x7_1).f1), .slice A336_2 ((rd_T87 l0 x7_1).f2).length c336_2, .string ((rd_T87 l0 x7_1).f3), .bool false]) ?_ 4 _ rfl; (with_reducible repeat (first | refine dn_ ?_ _ | refine dd_ ?_ | refine da_ ?_ _)); refine blk_put (cs := #[.int .i64 ((rd_T87 l0 x7_1).f0), .string ((rd_T87 l0 x7_1).f1), .slice A336_2 ((rd_T87 l0 x7_1).f2).length c336_2, .string (⟨#[]⟩ : ByteArray), .bool false]) ?_ 3 _ rfl; (with_reducible repeat (first | refine dn_ ?_ _ | refine dd_ ?_ | refine da_ ?_ _)); refine blk_put (cs := #[.int .i64 ((rd_T87 l0 x7_1).f0), .string ((rd_T87 l0 x7_1).f1), .slice none 0 0, .string (⟨#[]⟩ : ByteArray), .bool false]) ?_ 2 _ rfl; (with_reducible repeat (first | refine dn_ ?_ _ | refine dd_ ?_ | refine da_ ?_ _)); refine blk_put (cs := #[.int .i64 ((rd_T87 l0 x7_1).f0), .string (⟨#[]⟩ : ByteArray), .slice none 0 0, .string (⟨#[]⟩ : ByteArray), .bool false]) ?_ 1 _ rfl; (with_reducible repeat (first | refine dn_ ?_ _ | refine dd_ ?_ | refine da_ ?_ _)); refine blk_put (cs := #[.int .i64 0, .string (⟨#[]⟩ : ByteArray), .slice none 0 0, .string (⟨#[]⟩ : ByteArray), .bool false]) ?_ 0 _ rfl; (with_reducible repeat (first | refine dn_ ?_ _ | refine dd_ ?_ | refine da_ ?_ _)); exact BK337.out) hb); have n1_ := Aside0.mk (below_step hb_ hb); clear BK337; clear HB; have BK337 := n0_; have HB := n1_; clear n0_ n1_; (try clear hb); (try clear hb2); (try clear hk); (try clear hi)))
         go_meet
         case rel => exact ⟨_, (false), (by first | rfl | (simp; done) | (simp [*]; done)), H', ⟨by have := HK1.out; first | omega | exact Nat.le_refl _⟩, ⟨by (with_reducible repeat (first | refine dn_ ?_ _ | refine dd_ ?_ | refine da_ ?_ _)); exact BK337.out⟩, ⟨hb_⟩⟩
       ·replace c9 := Bool.eq_false_iff.mpr c9
        subst c9
        have H1 : (impl_TokensOk.j1 k1 l0 x7_1 l0 (l0.length : Int) x7_1 true ((rd_T87 l0 x7_1).f0) ((rd_T87 l0 x7_1).f1) ((rd_T87 l0 x7_1).f2) ((rd_T87 l0 x7_1).f3) ((rd_T87 l0 x7_1).f4)) = some r := by rw [if_neg (show ¬ (false = true) by decide)] at H; exact H
        clear H
        have H := H1
        clear H1
        have H' := Aside0.mk H
        clear H
        have hcz23_0 : w6.cell? ⟨gb337, 0, none⟩ = some (.int .i64 0) := (bc_ BK337.out 0).trans rfl
        have hcz23_1 : w6.cell? ⟨gb337, 1, none⟩ = some (.string (⟨#[]⟩ : ByteArray)) := (bc_ BK337.out 1).trans rfl
        have hcz23_2 : w6.cell? ⟨gb337, 2, none⟩ = some (.slice none 0 0) := (bc_ BK337.out 2).trans rfl
        have hcz23_3 : w6.cell? ⟨gb337, 3, none⟩ = some (.string (⟨#[]⟩ : ByteArray)) := (bc_ BK337.out 3).trans rfl
        have hcz23_4 : w6.cell? ⟨gb337, 4, none⟩ = some (.bool false) := (bc_ BK337.out 4).trans rfl
        have hfz23_0 := blk_frozen BK337.out 0
        have hfz23_1 := blk_frozen BK337.out 1
        have hfz23_2 := blk_frozen BK337.out 2
        have hfz23_3 := blk_frozen BK337.out 3
        have hfz23_4 := blk_frozen BK337.out 4
        go_wp2_with (first | ((with_reducible refine gate_callee (f := 94) rfl ?_); refine goesL_ (some 13) rfl rfl Try.func94 (by kernel_rfl) rfl #[.agg #[.int .i64 ((rd_T87 l0 x7_1).f0), .string ((rd_T87 l0 x7_1).f1), .slice A336_2 ((rd_T87 l0 x7_1).f2).length c336_2, .string ((rd_T87 l0 x7_1).f3), .bool ((rd_T87 l0 x7_1).f4)]] rfl (by (try simp only [List.map_toArray, List.map_cons, List.map_nil]); first | done | rfl | (simp only [List.length_drop, List.length_take]; rfl)) ?_; (with_reducible refine (impl_tokenOk.calls k1 ((rd_T87 l0 x7_1).f0) ((rd_T87 l0 x7_1).f1) _ _ ((rd_T87 l0 x7_1).f2) ((rd_T87 l0 x7_1).f3) ((rd_T87 l0 x7_1).f4) false _ ?side1 ?side2 ?side3 A8.out).mono ?_); (case side1 => exact Kd.C_below HR336_2.out hb_); (case side2 => exact HC336_2.out); (case side3 => exact MaxSeen.below HG.out hb_); rintro e w24 ⟨rfl, hb⟩; refine ⟨_, rfl, ?_⟩; have n0_ := Aside0.mk (blk_below (g := gb337) (o := .cells #[.int .i64 ((rd_T87 l0 x7_1).f0), .string ((rd_T87 l0 x7_1).f1), .slice A336_2 ((rd_T87 l0 x7_1).f2).length c336_2, .string ((rd_T87 l0 x7_1).f3), .bool ((rd_T87 l0 x7_1).f4)] 87 (0, 0)) (by (with_reducible repeat (first | refine dn_ ?_ _ | refine dd_ ?_ | refine da_ ?_ _)); refine blk_put (cs := #[.int .i64 ((rd_T87 l0 x7_1).f0), .string ((rd_T87 l0 x7_1).f1), .slice A336_2 ((rd_T87 l0 x7_1).f2).length c336_2, .string ((rd_T87 l0 x7_1).f3), .bool false]) ?_ 4 _ rfl; (with_reducible repeat (first | refine dn_ ?_ _ | refine dd_ ?_ | refine da_ ?_ _)); refine blk_put (cs := #[.int .i64 ((rd_T87 l0 x7_1).f0), .string ((rd_T87 l0 x7_1).f1), .slice A336_2 ((rd_T87 l0 x7_1).f2).length c336_2, .string (⟨#[]⟩ : ByteArray), .bool false]) ?_ 3 _ rfl; (with_reducible repeat (first | refine dn_ ?_ _ | refine dd_ ?_ | refine da_ ?_ _)); refine blk_put (cs := #[.int .i64 ((rd_T87 l0 x7_1).f0), .string ((rd_T87 l0 x7_1).f1), .slice none 0 0, .string (⟨#[]⟩ : ByteArray), .bool false]) ?_ 2 _ rfl; (with_reducible repeat (first | refine dn_ ?_ _ | refine dd_ ?_ | refine da_ ?_ _)); refine blk_put (cs := #[.int .i64 ((rd_T87 l0 x7_1).f0), .string (⟨#[]⟩ : ByteArray), .slice none 0 0, .string (⟨#[]⟩ : ByteArray), .bool false]) ?_ 1 _ rfl; (with_reducible repeat (first | refine dn_ ?_ _ | refine dd_ ?_ | refine da_ ?_ _)); refine blk_put (cs := #[.int .i64 0, .string (⟨#[]⟩ : ByteArray), .slice none 0 0, .string (⟨#[]⟩ : ByteArray), .bool false]) ?_ 0 _ rfl; (with_reducible repeat (first | refine dn_ ?_ _ | refine dd_ ?_ | refine da_ ?_ _)); exact BK337.out) hb); have n1_ := Aside0.mk (below_step hb_ hb); clear BK337; clear HB; have BK337 := n0_; have HB := n1_; clear n0_ n1_; (try clear hb); (try clear hb2); (try clear hk); (try clear hi)))
        go_meet
        case rel => exact ⟨_, (true), (by first | rfl | (simp; done) | (simp [*]; done)), H', ⟨by have := HK1.out; first | omega | exact Nat.le_refl _⟩, ⟨by (with_reducible repeat (first | refine dn_ ?_ _ | refine dd_ ?_ | refine da_ ?_ _)); exact BK337.out⟩, ⟨hb_⟩⟩
      case rest =>
       clear HC5
       try clear c1
       try clear c2
       try clear c2b0
       try clear p2
       try clear c3
       try clear c3b0
       try clear p3
       try clear q3
       try clear hx3
       try clear c4
       try clear c4b0
       try clear c6
       try clear p6
       try clear c9
       try clear c10
       try clear c10b0
       try clear c11
       try clear c11b0
       try clear c11b1
       try clear c13
       try clear c13b0
       try clear c14
       try clear c14b0
       try clear hcz15_0
       try clear hcz15_1
       try clear hcz15_2
       try clear hcz15_3
       try clear hcz15_4
       try clear hcz17_0
       try clear hcz17_1
       try clear hcz17_2
       try clear hcz17_3
       try clear hcz17_4
       try clear hcz18_0
       try clear hcz18_1
       try clear hcz18_2
       try clear hcz18_3
       try clear hcz18_4
       try clear hcz20_0
       try clear hcz20_1
       try clear hcz20_2
       try clear hcz20_3
       try clear hcz20_4
       try clear hcz21_0
       try clear hcz21_1
       try clear hcz21_2
       try clear hcz21_3
       try clear hcz21_4
       try clear hcz23_0
       try clear hcz23_1
       try clear hcz23_2
       try clear hcz23_3
       try clear hcz23_4
       try clear hcz7_0
       try clear hcz7_1
       try clear hcz7_2
       try clear hcz7_3
       try clear hcz7_4
       try clear hfz15_0
       try clear hfz15_1
       try clear hfz15_2
       try clear hfz15_3
       try clear hfz15_4
       try clear hfz17_0
       try clear hfz17_1
       try clear hfz17_2
       try clear hfz17_3
       try clear hfz17_4
       try clear hfz18_0
       try clear hfz18_1
       try clear hfz18_2
       try clear hfz18_3
       try clear hfz18_4
       try clear hfz20_0
       try clear hfz20_1
       try clear hfz20_2
       try clear hfz20_3
       try clear hfz20_4
       try clear hfz21_0
       try clear hfz21_1
       try clear hfz21_2
       try clear hfz21_3
       try clear hfz21_4
       try clear hfz23_0
       try clear hfz23_1
       try clear hfz23_2
       try clear hfz23_3
       try clear hfz23_4
       try clear hfz7_0
       try clear hfz7_1
       try clear hfz7_2
       try clear hfz7_3
       try clear hfz7_4
       try clear hx336_0
       try clear hx336_1
       try clear hx336_2
       try clear hx336_3
       try clear hx336_4
       try clear hx339_0
       try clear hx339_1
       try clear hx339_2
       try clear hx339_3
       try clear hx339_4
       try clear p336
       try clear p339
       try clear q336
       try clear q339
       obtain ⟨kq, x32_4, rfl, HA, HJ4, BK337, HB⟩ := hcut
       cases kq with
       | zero => exact absurd HA.out (by simp [impl_TokensOk.j1])
       | succ kj4 =>
        have H := HA.out
        clear HA
        simp only [impl_TokensOk.j1] at H
        by_cases c25 : x32_4 = true
        ·subst c25
         have H1 : (some false) = some r := by rw [if_pos rfl] at H; exact H
         clear H
         have H := H1
         clear H1
         obtain rfl := Option.some.inj H
         go_wp2
         go_ret
         exact ⟨by first | rfl | (simp [errW_none, errW_some] <;> rfl) | (simp [*, errW_none, errW_some] <;> rfl), hb_⟩
        ·replace c25 := Bool.eq_false_iff.mpr c25
         subst c25
         have H1 : (if ((rd_T87 l0 x7_1).f0) = 2 then (if ((rd_T87 l0 x7_1).f4) = true then (impl_TokensOk.l0 kj4 l0 l0 (l0.length : Int) (wrap64 (x7_1 + 1))) else ((impl_Raw.f ((rd_T87 l0 x7_1).f1)).bind fun t340 => (if t340 = true then (if 0 ≤ (wrap64 (x7_1 + 1)) then (if (wrap64 (x7_1 + 1)) ≤ (l0.length : Int) then ((impl_rawOk.f kj4 ((rd_T87 l0 x7_1).f1) (l0.drop ((wrap64 (x7_1 + 1)) : Int).toNat)).bind fun t345 => (if t345 = true then (impl_TokensOk.l0 kj4 l0 l0 (l0.length : Int) (wrap64 (x7_1 + 1))) else (some false))) else (none)) else (none)) else (impl_TokensOk.l0 kj4 l0 l0 (l0.length : Int) (wrap64 (x7_1 + 1)))))) else (impl_TokensOk.l0 kj4 l0 l0 (l0.length : Int) (wrap64 (x7_1 + 1)))) = some r := by rw [if_neg (show ¬ (false = true) by decide)] at H; exact H
         clear H
         have H := H1
         clear H1
         by_cases c26 : ((rd_T87 l0 x7_1).f0) = 2
         ·rw [if_pos c26] at H
          have c26b0 : (((rd_T87 l0 x7_1).f0) == 2) = true := beq_iff_eq.mpr c26
          have c26b1 : (((rd_T87 l0 x7_1).f0) != 2) = false := bne_eq_false_iff_eq.mpr c26
          clear c26
          by_cases c27 : ((rd_T87 l0 x7_1).f4) = true
          ·rw [if_pos c27] at H
           have c27b0 : ((rd_T87 l0 x7_1).f4) = true := c27
           clear c27
           have H' := Aside0.mk H
           clear H
           try go_wp2
           have n0_ := Aside0.mk (dd_ BK337.out)
           have n1_ := Aside0.mk (b1_ HB.out)
           clear BK337
           clear HB
           have BK337 := n0_
           have HB := n1_
           clear n0_ n1_
           refine start_ (n := 23) (S := fun w' => w'.cell? ⟨gb337, 0, none⟩ = some (.int .i64 ((rd_T87 l0 x7_1).f0)) ∧ w'.cell? ⟨gb337, 1, none⟩ = some (.string ((rd_T87 l0 x7_1).f1)) ∧ w'.cell? ⟨gb337, 2, none⟩ = some (.slice A336_2 ((rd_T87 l0 x7_1).f2).length c336_2) ∧ w'.cell? ⟨gb337, 3, none⟩ = some (.string ((rd_T87 l0 x7_1).f3)) ∧ w'.cell? ⟨gb337, 4, none⟩ = some (.bool ((rd_T87 l0 x7_1).f4))) (ds := []) q16_0 (by kernel_rfl) rfl rfl ⟨(bc_ BK337.out 0).trans rfl, (bc_ BK337.out 1).trans rfl, (bc_ BK337.out 2).trans rfl, (bc_ BK337.out 3).trans rfl, (bc_ BK337.out 4).trans rfl⟩ (fun hHeld => ?_); refine with_tabW impl_TokensOk.tab6 impl_TokensOk.bits6 (fun HT_ HW_ => ?_)
           generalize wc.drew = w28 at BK337 HB hHeld ⊢
           refine pu_ 0 33 q16_1 ?_
           refine tk_ 1 34 q16_2 hHeld ?_
           refine pu_ 2 35 q16_3 ?_
           refine pu_ 3 36 q16_4 ?_
           refine pu_ 4 37 q16_5 ?_
           refine tk_ 5 38 q16_6 hHeld ?_
           refine pu_ 6 39 q16_7 ?_
           refine pu_ 7 40 q16_8 ?_
           refine pu_ 8 41 q16_9 ?_
           refine pv_ 9 42 q16_10 ?_
           refine pv_ 10 43 q16_11 ?_
           refine pv_ 11 44 q16_12 ?_
           refine pu_ 12 45 q16_13 ?_
           refine pu_ 13 46 q16_14 ?_
           refine pv_ 14 47 q16_15 ?_
           refine pv_ 15 48 q16_16 ?_
           refine pv_ 16 49 q16_17 ?_
           refine pv_ 17 50 q16_18 ?_
           refine pv_ 18 51 q16_19 ?_
           refine pv_ 19 52 q16_20 ?_
           refine pv_ 20 53 q16_21 ?_
           refine pv_ 21 54 q16_22 ?_
           refine pu_ 22 55 q16_23 ?_
           refine done_ (done_of HT_.out (by kernel_rfl)) ?_
           try go_wp2
           go_roundg kj4
           case measure => have := HK1.out; have := HJ4.out; omega
           case rel => exact ⟨(wrap64 (x7_1 + 1)), (by first | rfl | (simp; done) | (simp [*]; done)), H', ⟨by have := HK1.out; have := HJ4.out; omega⟩, ⟨hb_⟩⟩
          ·rw [if_neg c27] at H
           have c27b0 : ((rd_T87 l0 x7_1).f4) = false := by simpa using c27
           clear c27
           replace H := Option.bind_eq_some_iff.mp H
           obtain ⟨t340, A290, H⟩ := H
           replace H : (if t340 = true then (if 0 ≤ (wrap64 (x7_1 + 1)) then (if (wrap64 (x7_1 + 1)) ≤ (l0.length : Int) then ((impl_rawOk.f kj4 ((rd_T87 l0 x7_1).f1) (l0.drop ((wrap64 (x7_1 + 1)) : Int).toNat)).bind fun t345 => (if t345 = true then (impl_TokensOk.l0 kj4 l0 l0 (l0.length : Int) (wrap64 (x7_1 + 1))) else (some false))) else (none)) else (none)) else (impl_TokensOk.l0 kj4 l0 l0 (l0.length : Int) (wrap64 (x7_1 + 1)))) = some r := H
           have A29 := Aside0.mk A290
           clear A290
           by_cases c30 : t340 = true
           ·subst c30
            have H1 : (if 0 ≤ (wrap64 (x7_1 + 1)) then (if (wrap64 (x7_1 + 1)) ≤ (l0.length : Int) then ((impl_rawOk.f kj4 ((rd_T87 l0 x7_1).f1) (l0.drop ((wrap64 (x7_1 + 1)) : Int).toNat)).bind fun t345 => (if t345 = true then (impl_TokensOk.l0 kj4 l0 l0 (l0.length : Int) (wrap64 (x7_1 + 1))) else (some false))) else (none)) else (none)) = some r := by rw [if_pos rfl] at H; exact H
            clear H
            have H := H1
            clear H1
            obtain ⟨ji31, hji31⟩ : ∃ j_ : Int, (wrap64 (x7_1 + 1)) = j_ := ⟨_, rfl⟩
            replace H : (if 0 ≤ (ji31) then (if (ji31) ≤ (l0.length : Int) then ((impl_rawOk.f kj4 ((rd_T87 l0 x7_1).f1) (l0.drop ((ji31) : Int).toNat)).bind fun t345 => (if t345 = true then (impl_TokensOk.l0 kj4 l0 l0 (l0.length : Int) ji31) else (some false))) else (none)) else (none)) = some r := by first | (rw [hji31] at H; exact H) | (simp only [hji31] at H ⊢; exact H)
            (try rw [hji31] at A29)
            have hji31w : (IntKind.i64.wrap (x7_1 + 1)) = ji31 := (i64_w _).trans hji31
            by_cases c32 : 0 ≤ (ji31)
            ·rw [if_pos c32] at H
             have c32b0 := eq_true c32
             have c32b1 : decide (0 ≤ (ji31)) = true := decide_eq_true c32
             clear c32
             by_cases c33 : (ji31) ≤ (l0.length : Int)
             ·rw [if_pos c33] at H
              have c33b0 := eq_true c33
              have c33b1 : decide ((ji31) ≤ (l0.length : Int)) = true := decide_eq_true c33
              clear c33
              obtain ⟨y341, hy341⟩ : ∃ y_ : List (S87), y_ = (l0.drop ((ji31) : Int).toNat) := ⟨_, rfl⟩
              replace H : ((impl_rawOk.f kj4 ((rd_T87 l0 x7_1).f1) y341).bind fun t345 => (if t345 = true then (impl_TokensOk.l0 kj4 l0 l0 (l0.length : Int) ji31) else (some false))) = some r := by first | (rw [hy341]; with_reducible exact H) | (have H2_ := (Option.bind_some _ _).symm.trans H; rw [hy341]; with_reducible exact H2_) | (have H2_ := (Option.bind_some _ _).symm.trans H; with_reducible exact H2_) | with_reducible exact H | (rw [hy341]; exact H) | exact H
              have Ny341 := Aside0.mk hy341
              clear hy341
              replace H := Option.bind_eq_some_iff.mp H
              obtain ⟨t345, A340, H⟩ := H
              replace H : (if t345 = true then (impl_TokensOk.l0 kj4 l0 l0 (l0.length : Int) ji31) else (some false)) = some r := H
              have A34 := Aside0.mk A340
              clear A340
              by_cases c35 : t345 = true
              ·subst c35
               have H1 : (impl_TokensOk.l0 kj4 l0 l0 (l0.length : Int) ji31) = some r := by rw [if_pos rfl] at H; exact H
               clear H
               have H := H1
               clear H1
               have H' := Aside0.mk H
               clear H
               try go_wp2
               have n0_ := Aside0.mk (dd_ BK337.out)
               have n1_ := Aside0.mk (b1_ HB.out)
               clear BK337
               clear HB
               have BK337 := n0_
               have HB := n1_
               clear n0_ n1_
               refine start_ (n := 23) (S := fun w' => w'.cell? ⟨gb337, 0, none⟩ = some (.int .i64 ((rd_T87 l0 x7_1).f0)) ∧ w'.cell? ⟨gb337, 1, none⟩ = some (.string ((rd_T87 l0 x7_1).f1)) ∧ w'.cell? ⟨gb337, 2, none⟩ = some (.slice A336_2 ((rd_T87 l0 x7_1).f2).length c336_2) ∧ w'.cell? ⟨gb337, 3, none⟩ = some (.string ((rd_T87 l0 x7_1).f3)) ∧ w'.cell? ⟨gb337, 4, none⟩ = some (.bool ((rd_T87 l0 x7_1).f4))) (ds := []) q16_0 (by kernel_rfl) rfl rfl ⟨(bc_ BK337.out 0).trans rfl, (bc_ BK337.out 1).trans rfl, (bc_ BK337.out 2).trans rfl, (bc_ BK337.out 3).trans rfl, (bc_ BK337.out 4).trans rfl⟩ (fun hHeld => ?_); refine with_tabW impl_TokensOk.tab6 impl_TokensOk.bits6 (fun HT_ HW_ => ?_)
               generalize wc.drew = w36 at BK337 HB hHeld ⊢
               refine pu_ 0 33 q16_1 ?_
               refine tk_ 1 34 q16_2 hHeld ?_
               refine pu_ 2 35 q16_3 ?_
               refine pu_ 3 36 q16_4 ?_
               refine pu_ 4 37 q16_5 ?_
               refine tk_ 5 38 q16_6 hHeld ?_
               refine pu_ 6 39 q16_7 ?_
               refine pu_ 7 40 q16_8 ?_
               refine pu_ 8 41 q16_9 ?_
               refine pu_ 9 42 q16_10 ?_
               refine tk_ 10 43 q16_11 hHeld ?_
               refine on_ 11 44 q16_12 (fun K hK => ?_)
               refine goes_ Try.func95 (by kernel_rfl) rfl #[.string ((rd_T87 l0 x7_1).f1)] (by rfl) rfl rfl (by (try simp only [List.map_toArray, List.map_cons, List.map_nil]); first | done | rfl | (simp only [List.length_drop, List.length_take]; rfl)) ?_
               with_reducible refine (impl_Raw.calls ((rd_T87 l0 x7_1).f1) true _ ?side1 A29.out).mono ?_
               (case side1 => exact MaxSeen.below HG.out hb_)
               rintro e w37 ⟨rfl, hb⟩
               refine ⟨_, rfl, ?_⟩
               have n0_ := Aside0.mk (blk_below (g := gb337) (o := .cells #[.int .i64 ((rd_T87 l0 x7_1).f0), .string ((rd_T87 l0 x7_1).f1), .slice A336_2 ((rd_T87 l0 x7_1).f2).length c336_2, .string ((rd_T87 l0 x7_1).f3), .bool ((rd_T87 l0 x7_1).f4)] 87 (0, 0)) (by (with_reducible repeat (first | refine dn_ ?_ _ | refine dd_ ?_ | refine da_ ?_ _)); exact BK337.out) hb)
               have n1_ := Aside0.mk (below_step hb_ hb)
               clear BK337
               clear HB
               have BK337 := n0_
               have HB := n1_
               clear n0_ n1_
               (try clear hb)
               (try clear hb2)
               (try clear hk)
               (try clear hi)
               have q38 : ((ji31) : Int) ≤ ((l0.length : Int) : Int) := dt_
               obtain ⟨i038, hi038, _, hsz38, _⟩ := info_parts info87
               have hroom38 : l0.length ≤ c0 := HC0.out
               have hC38 : Kd.C k87 _ (some ad336) l0.length l0 := HR0.out
               have q038 : (0 : Int) ≤ ((ji31) : Int) := dt_
               have hcut38 := cut_from (P := Try.prog) 46 87 .i64 Try.underlying46 hi038 5 hsz38 (some ad336) l0.length c0 (ji31) q038 q38
               have hr38 := Kd.C_drop (m := ((ji31) : Int).toNat) (c := c0) hC38 (by omega) hroom38
               obtain ⟨A38, hA38⟩ : ∃ A1, A1 = (if c0 = ((ji31) : Int).toNat then (some ad336) else ((some ad336) : Option Addr).map (·.add (((ji31) : Int).toNat * 5))) := ⟨_, rfl⟩
               obtain ⟨c38, hc38⟩ : ∃ c1, c1 = c0 - ((ji31) : Int).toNat := ⟨_, rfl⟩
               have hy38 : y341.length = l0.length - ((ji31) : Int).toNat := (by rw [Ny341.out, List.length_drop] <;> omega)
               rw [show (l0).drop ((ji31) : Int).toNat = y341 from Ny341.out.symm] at hr38
               replace hr38 : Kd.C k87 _ A38 y341.length y341 := (by rw [hA38]; exact hr38)
               rw [← hy38, ← hA38, ← hc38] at hcut38
               have HR344 := Aside0.mk hr38
               have HC344 := Aside0.mk (show y341.length ≤ c38 from by rw [hy38, hc38]; exact Nat.sub_le_sub_right hroom38 _)
               clear hr38 hC38 hroom38 hi038 hsz38 hc38
               have KY38 := Aside0.mk hy38
               have KA38 := Aside0.mk hA38
               clear hy38 hA38
               replace q38 := eq_true q38
               refine hK.out _ _ ⟨(bc_ BK337.out 0).trans rfl, (bc_ BK337.out 1).trans rfl, (bc_ BK337.out 2).trans rfl, (bc_ BK337.out 3).trans rfl, (bc_ BK337.out 4).trans rfl⟩ (fun hHeld => ?_)
               clear hK K
               refine no_ ?_
               refine pu_ 12 45 q16_13 ?_
               refine pu_ 13 46 q16_14 ?_
               refine pu_ 14 47 q16_15 ?_
               refine pu_ 16 49 q16_24 ?_
               refine pu_ 17 50 q16_25 ?_
               refine pu_ 18 51 q16_26 ?_
               refine pu_ 19 52 q16_27 ?_
               refine tk_ 15 48 q16_20 hHeld ?_
               refine on_ 20 53 q16_21 (fun K hK => ?_)
               refine goes_ Try.func96 (by kernel_rfl) rfl #[.string ((rd_T87 l0 x7_1).f1), .slice A38 y341.length c38] (by rfl) rfl rfl (by (try simp only [List.map_toArray, List.map_cons, List.map_nil]); first | done | rfl | (simp only [List.length_drop, List.length_take]; rfl)) ?_
               with_reducible refine (impl_rawOk.calls kj4 ((rd_T87 l0 x7_1).f1) _ _ y341 true _ ?side1 ?side2 A34.out).mono ?_
               (case side1 => repeat (first | exact (Kd.C_below HR344.out HB.out) | (with_reducible refine ca_ ?_ _) | (with_reducible refine cn_ ?_ _) | (with_reducible refine cd_ ?_)))
               (case side2 => exact HC344.out)
               rintro e w39 ⟨rfl, hb⟩
               refine ⟨_, rfl, ?_⟩
               have n0_ := Aside0.mk (blk_below (g := gb337) (o := .cells #[.int .i64 ((rd_T87 l0 x7_1).f0), .string ((rd_T87 l0 x7_1).f1), .slice A336_2 ((rd_T87 l0 x7_1).f2).length c336_2, .string ((rd_T87 l0 x7_1).f3), .bool ((rd_T87 l0 x7_1).f4)] 87 (0, 0)) (by (with_reducible repeat (first | refine dn_ ?_ _ | refine dd_ ?_ | refine da_ ?_ _)); exact BK337.out) hb)
               have n1_ := Aside0.mk (below_step hb_ hb)
               clear BK337
               clear HB
               have BK337 := n0_
               have HB := n1_
               clear n0_ n1_
               (try clear hb)
               (try clear hb2)
               (try clear hk)
               (try clear hi)
               refine hK.out _ _ ⟨(bc_ BK337.out 0).trans rfl, (bc_ BK337.out 1).trans rfl, (bc_ BK337.out 2).trans rfl, (bc_ BK337.out 3).trans rfl, (bc_ BK337.out 4).trans rfl⟩ (fun hHeld => ?_)
               clear hK K
               refine no_ ?_
               refine pu_ 21 54 q16_22 ?_
               refine pu_ 22 55 q16_23 ?_
               refine done_ (done_of HT_.out (by kernel_rfl)) ?_
               try go_wp2
               (try subst hji31)
               go_roundg kj4
               case measure => have := HK1.out; have := HJ4.out; omega
               case rel => exact ⟨((wrap64 (x7_1 + 1))), (by first | rfl | (simp; done) | (simp only [← hji31] <;> (first | rfl | simp)) | (simp [*]; done)), H', ⟨by have := HK1.out; have := HJ4.out; omega⟩, ⟨hb_⟩⟩
              ·replace c35 := Bool.eq_false_iff.mpr c35
               subst c35
               have H1 : (some false) = some r := by rw [if_neg (show ¬ (false = true) by decide)] at H; exact H
               clear H
               have H := H1
               clear H1
               obtain rfl := Option.some.inj H
               try go_wp2
               have n0_ := Aside0.mk (dd_ BK337.out)
               have n1_ := Aside0.mk (b1_ HB.out)
               clear BK337
               clear HB
               have BK337 := n0_
               have HB := n1_
               clear n0_ n1_
               refine start_ (n := 23) (S := fun w' => w'.cell? ⟨gb337, 0, none⟩ = some (.int .i64 ((rd_T87 l0 x7_1).f0)) ∧ w'.cell? ⟨gb337, 1, none⟩ = some (.string ((rd_T87 l0 x7_1).f1)) ∧ w'.cell? ⟨gb337, 2, none⟩ = some (.slice A336_2 ((rd_T87 l0 x7_1).f2).length c336_2) ∧ w'.cell? ⟨gb337, 3, none⟩ = some (.string ((rd_T87 l0 x7_1).f3)) ∧ w'.cell? ⟨gb337, 4, none⟩ = some (.bool ((rd_T87 l0 x7_1).f4))) (ds := []) q16_0 (by kernel_rfl) rfl rfl ⟨(bc_ BK337.out 0).trans rfl, (bc_ BK337.out 1).trans rfl, (bc_ BK337.out 2).trans rfl, (bc_ BK337.out 3).trans rfl, (bc_ BK337.out 4).trans rfl⟩ (fun hHeld => ?_); refine with_tabW impl_TokensOk.tab6 impl_TokensOk.bits6 (fun HT_ HW_ => ?_)
               generalize wc.drew = w40 at BK337 HB hHeld ⊢
               refine pu_ 0 33 q16_1 ?_
               refine tk_ 1 34 q16_2 hHeld ?_
               refine pu_ 2 35 q16_3 ?_
               refine pu_ 3 36 q16_4 ?_
               refine pu_ 4 37 q16_5 ?_
               refine tk_ 5 38 q16_6 hHeld ?_
               refine pu_ 6 39 q16_7 ?_
               refine pu_ 7 40 q16_8 ?_
               refine pu_ 8 41 q16_9 ?_
               refine pu_ 9 42 q16_10 ?_
               refine tk_ 10 43 q16_11 hHeld ?_
               refine on_ 11 44 q16_12 (fun K hK => ?_)
               refine goes_ Try.func95 (by kernel_rfl) rfl #[.string ((rd_T87 l0 x7_1).f1)] (by rfl) rfl rfl (by (try simp only [List.map_toArray, List.map_cons, List.map_nil]); first | done | rfl | (simp only [List.length_drop, List.length_take]; rfl)) ?_
               with_reducible refine (impl_Raw.calls ((rd_T87 l0 x7_1).f1) true _ ?side1 A29.out).mono ?_
               (case side1 => exact MaxSeen.below HG.out hb_)
               rintro e w41 ⟨rfl, hb⟩
               refine ⟨_, rfl, ?_⟩
               have n0_ := Aside0.mk (blk_below (g := gb337) (o := .cells #[.int .i64 ((rd_T87 l0 x7_1).f0), .string ((rd_T87 l0 x7_1).f1), .slice A336_2 ((rd_T87 l0 x7_1).f2).length c336_2, .string ((rd_T87 l0 x7_1).f3), .bool ((rd_T87 l0 x7_1).f4)] 87 (0, 0)) (by (with_reducible repeat (first | refine dn_ ?_ _ | refine dd_ ?_ | refine da_ ?_ _)); exact BK337.out) hb)
               have n1_ := Aside0.mk (below_step hb_ hb)
               clear BK337
               clear HB
               have BK337 := n0_
               have HB := n1_
               clear n0_ n1_
               (try clear hb)
               (try clear hb2)
               (try clear hk)
               (try clear hi)
               have q42 : ((ji31) : Int) ≤ ((l0.length : Int) : Int) := dt_
               obtain ⟨i042, hi042, _, hsz42, _⟩ := info_parts info87
               have hroom42 : l0.length ≤ c0 := HC0.out
               have hC42 : Kd.C k87 _ (some ad336) l0.length l0 := HR0.out
               have q042 : (0 : Int) ≤ ((ji31) : Int) := dt_
               have hcut42 := cut_from (P := Try.prog) 46 87 .i64 Try.underlying46 hi042 5 hsz42 (some ad336) l0.length c0 (ji31) q042 q42
               have hr42 := Kd.C_drop (m := ((ji31) : Int).toNat) (c := c0) hC42 (by omega) hroom42
               obtain ⟨A42, hA42⟩ : ∃ A1, A1 = (if c0 = ((ji31) : Int).toNat then (some ad336) else ((some ad336) : Option Addr).map (·.add (((ji31) : Int).toNat * 5))) := ⟨_, rfl⟩
               obtain ⟨c42, hc42⟩ : ∃ c1, c1 = c0 - ((ji31) : Int).toNat := ⟨_, rfl⟩
               have hy42 : y341.length = l0.length - ((ji31) : Int).toNat := (by rw [Ny341.out, List.length_drop] <;> omega)
               rw [show (l0).drop ((ji31) : Int).toNat = y341 from Ny341.out.symm] at hr42
               replace hr42 : Kd.C k87 _ A42 y341.length y341 := (by rw [hA42]; exact hr42)
               rw [← hy42, ← hA42, ← hc42] at hcut42
               have HR344 := Aside0.mk hr42
               have HC344 := Aside0.mk (show y341.length ≤ c42 from by rw [hy42, hc42]; exact Nat.sub_le_sub_right hroom42 _)
               clear hr42 hC42 hroom42 hi042 hsz42 hc42
               have KY42 := Aside0.mk hy42
               have KA42 := Aside0.mk hA42
               clear hy42 hA42
               replace q42 := eq_true q42
               refine hK.out _ _ ⟨(bc_ BK337.out 0).trans rfl, (bc_ BK337.out 1).trans rfl, (bc_ BK337.out 2).trans rfl, (bc_ BK337.out 3).trans rfl, (bc_ BK337.out 4).trans rfl⟩ (fun hHeld => ?_)
               clear hK K
               refine no_ ?_
               refine pu_ 12 45 q16_13 ?_
               refine pu_ 13 46 q16_14 ?_
               refine pu_ 14 47 q16_15 ?_
               refine pu_ 16 49 q16_24 ?_
               refine pu_ 17 50 q16_25 ?_
               refine pu_ 18 51 q16_26 ?_
               refine pu_ 19 52 q16_27 ?_
               refine tk_ 15 48 q16_20 hHeld ?_
               refine on_ 20 53 q16_21 (fun K hK => ?_)
               refine goes_ Try.func96 (by kernel_rfl) rfl #[.string ((rd_T87 l0 x7_1).f1), .slice A42 y341.length c42] (by rfl) rfl rfl (by (try simp only [List.map_toArray, List.map_cons, List.map_nil]); first | done | rfl | (simp only [List.length_drop, List.length_take]; rfl)) ?_
               with_reducible refine (impl_rawOk.calls kj4 ((rd_T87 l0 x7_1).f1) _ _ y341 false _ ?side1 ?side2 A34.out).mono ?_
               (case side1 => repeat (first | exact (Kd.C_below HR344.out HB.out) | (with_reducible refine ca_ ?_ _) | (with_reducible refine cn_ ?_ _) | (with_reducible refine cd_ ?_)))
               (case side2 => exact HC344.out)
               rintro e w43 ⟨rfl, hb⟩
               refine ⟨_, rfl, ?_⟩
               have n0_ := Aside0.mk (blk_below (g := gb337) (o := .cells #[.int .i64 ((rd_T87 l0 x7_1).f0), .string ((rd_T87 l0 x7_1).f1), .slice A336_2 ((rd_T87 l0 x7_1).f2).length c336_2, .string ((rd_T87 l0 x7_1).f3), .bool ((rd_T87 l0 x7_1).f4)] 87 (0, 0)) (by (with_reducible repeat (first | refine dn_ ?_ _ | refine dd_ ?_ | refine da_ ?_ _)); exact BK337.out) hb)
               have n1_ := Aside0.mk (below_step hb_ hb)
               clear BK337
               clear HB
               have BK337 := n0_
               have HB := n1_
               clear n0_ n1_
               (try clear hb)
               (try clear hb2)
               (try clear hk)
               (try clear hi)
               refine hK.out _ _ ⟨(bc_ BK337.out 0).trans rfl, (bc_ BK337.out 1).trans rfl, (bc_ BK337.out 2).trans rfl, (bc_ BK337.out 3).trans rfl, (bc_ BK337.out 4).trans rfl⟩ (fun hHeld => ?_)
               clear hK K
               refine no_ ?_
               refine pu_ 21 54 q16_22 ?_
               refine pu_ 22 55 q16_23 ?_
               refine done_ (done_of HT_.out (by kernel_rfl)) ?_
               try go_wp2
               go_ret
               exact ⟨by first | rfl | (simp [errW_none, errW_some] <;> rfl) | (simp only [← hji31]; first | rfl | (simp [errW_none, errW_some] <;> rfl)) | (simp [*, errW_none, errW_some] <;> rfl), hb_⟩
             ·rw [if_neg c33] at H
              exact absurd H (by simp)
            ·rw [if_neg c32] at H
             exact absurd H (by simp)
           ·replace c30 := Bool.eq_false_iff.mpr c30
            subst c30
            have H1 : (impl_TokensOk.l0 kj4 l0 l0 (l0.length : Int) (wrap64 (x7_1 + 1))) = some r := by rw [if_neg (show ¬ (false = true) by decide)] at H; exact H
            clear H
            have H := H1
            clear H1
            have H' := Aside0.mk H
            clear H
            try go_wp2
            have n0_ := Aside0.mk (dd_ BK337.out)
            have n1_ := Aside0.mk (b1_ HB.out)
            clear BK337
            clear HB
            have BK337 := n0_
            have HB := n1_
            clear n0_ n1_
            refine start_ (n := 23) (S := fun w' => w'.cell? ⟨gb337, 0, none⟩ = some (.int .i64 ((rd_T87 l0 x7_1).f0)) ∧ w'.cell? ⟨gb337, 1, none⟩ = some (.string ((rd_T87 l0 x7_1).f1)) ∧ w'.cell? ⟨gb337, 2, none⟩ = some (.slice A336_2 ((rd_T87 l0 x7_1).f2).length c336_2) ∧ w'.cell? ⟨gb337, 3, none⟩ = some (.string ((rd_T87 l0 x7_1).f3)) ∧ w'.cell? ⟨gb337, 4, none⟩ = some (.bool ((rd_T87 l0 x7_1).f4))) (ds := []) q16_0 (by kernel_rfl) rfl rfl ⟨(bc_ BK337.out 0).trans rfl, (bc_ BK337.out 1).trans rfl, (bc_ BK337.out 2).trans rfl, (bc_ BK337.out 3).trans rfl, (bc_ BK337.out 4).trans rfl⟩ (fun hHeld => ?_); refine with_tabW impl_TokensOk.tab6 impl_TokensOk.bits6 (fun HT_ HW_ => ?_)
            generalize wc.drew = w44 at BK337 HB hHeld ⊢
            refine pu_ 0 33 q16_1 ?_
            refine tk_ 1 34 q16_2 hHeld ?_
            refine pu_ 2 35 q16_3 ?_
            refine pu_ 3 36 q16_4 ?_
            refine pu_ 4 37 q16_5 ?_
            refine tk_ 5 38 q16_6 hHeld ?_
            refine pu_ 6 39 q16_7 ?_
            refine pu_ 7 40 q16_8 ?_
            refine pu_ 8 41 q16_9 ?_
            refine pu_ 9 42 q16_10 ?_
            refine tk_ 10 43 q16_11 hHeld ?_
            refine on_ 11 44 q16_12 (fun K hK => ?_)
            refine goes_ Try.func95 (by kernel_rfl) rfl #[.string ((rd_T87 l0 x7_1).f1)] (by rfl) rfl rfl (by (try simp only [List.map_toArray, List.map_cons, List.map_nil]); first | done | rfl | (simp only [List.length_drop, List.length_take]; rfl)) ?_
            with_reducible refine (impl_Raw.calls ((rd_T87 l0 x7_1).f1) false _ ?side1 A29.out).mono ?_
            (case side1 => exact MaxSeen.below HG.out hb_)
            rintro e w45 ⟨rfl, hb⟩
            refine ⟨_, rfl, ?_⟩
            have n0_ := Aside0.mk (blk_below (g := gb337) (o := .cells #[.int .i64 ((rd_T87 l0 x7_1).f0), .string ((rd_T87 l0 x7_1).f1), .slice A336_2 ((rd_T87 l0 x7_1).f2).length c336_2, .string ((rd_T87 l0 x7_1).f3), .bool ((rd_T87 l0 x7_1).f4)] 87 (0, 0)) (by (with_reducible repeat (first | refine dn_ ?_ _ | refine dd_ ?_ | refine da_ ?_ _)); exact BK337.out) hb)
            have n1_ := Aside0.mk (below_step hb_ hb)
            clear BK337
            clear HB
            have BK337 := n0_
            have HB := n1_
            clear n0_ n1_
            (try clear hb)
            (try clear hb2)
            (try clear hk)
            (try clear hi)
            refine hK.out _ _ ⟨(bc_ BK337.out 0).trans rfl, (bc_ BK337.out 1).trans rfl, (bc_ BK337.out 2).trans rfl, (bc_ BK337.out 3).trans rfl, (bc_ BK337.out 4).trans rfl⟩ (fun hHeld => ?_)
            clear hK K
            refine no_ ?_
            refine pu_ 12 45 q16_13 ?_
            refine pu_ 13 46 q16_14 ?_
            refine pv_ 14 47 q16_15 ?_
            refine pv_ 15 48 q16_16 ?_
            refine pv_ 16 49 q16_17 ?_
            refine pv_ 17 50 q16_18 ?_
            refine pv_ 18 51 q16_19 ?_
            refine pv_ 19 52 q16_20 ?_
            refine pv_ 20 53 q16_21 ?_
            refine pv_ 21 54 q16_22 ?_
            refine pu_ 22 55 q16_23 ?_
            refine done_ (done_of HT_.out (by kernel_rfl)) ?_
            try go_wp2
            (try subst hji31)
            go_roundg kj4
            case measure => have := HK1.out; have := HJ4.out; omega
            case rel => exact ⟨(wrap64 (x7_1 + 1)), (by first | rfl | (simp; done) | (simp [*]; done)), H', ⟨by have := HK1.out; have := HJ4.out; omega⟩, ⟨hb_⟩⟩
         ·rw [if_neg c26] at H
          have c26b0 : (((rd_T87 l0 x7_1).f0) == 2) = false := beq_eq_false_iff_ne.mpr c26
          have c26b1 : (((rd_T87 l0 x7_1).f0) != 2) = true := bne_iff_ne.mpr c26
          have H' := Aside0.mk H
          clear H
          try go_wp2
          have n0_ := Aside0.mk (dd_ BK337.out)
          have n1_ := Aside0.mk (b1_ HB.out)
          clear BK337
          clear HB
          have BK337 := n0_
          have HB := n1_
          clear n0_ n1_
          refine start_ (n := 23) (S := fun w' => w'.cell? ⟨gb337, 0, none⟩ = some (.int .i64 ((rd_T87 l0 x7_1).f0)) ∧ w'.cell? ⟨gb337, 1, none⟩ = some (.string ((rd_T87 l0 x7_1).f1)) ∧ w'.cell? ⟨gb337, 2, none⟩ = some (.slice A336_2 ((rd_T87 l0 x7_1).f2).length c336_2) ∧ w'.cell? ⟨gb337, 3, none⟩ = some (.string ((rd_T87 l0 x7_1).f3)) ∧ w'.cell? ⟨gb337, 4, none⟩ = some (.bool ((rd_T87 l0 x7_1).f4))) (ds := []) q16_0 (by kernel_rfl) rfl rfl ⟨(bc_ BK337.out 0).trans rfl, (bc_ BK337.out 1).trans rfl, (bc_ BK337.out 2).trans rfl, (bc_ BK337.out 3).trans rfl, (bc_ BK337.out 4).trans rfl⟩ (fun hHeld => ?_); refine with_tabW impl_TokensOk.tab6 impl_TokensOk.bits6 (fun HT_ HW_ => ?_)
          generalize wc.drew = w46 at BK337 HB hHeld ⊢
          refine pu_ 0 33 q16_1 ?_
          refine tk_ 1 34 q16_2 hHeld ?_
          refine pu_ 2 35 q16_3 ?_
          refine pu_ 3 36 q16_4 ?_
          refine pv_ 4 37 q16_5 ?_
          refine pv_ 5 38 q16_6 ?_
          refine pv_ 6 39 q16_7 ?_
          refine pu_ 7 40 q16_8 ?_
          refine pu_ 8 41 q16_9 ?_
          refine pv_ 9 42 q16_10 ?_
          refine pv_ 10 43 q16_11 ?_
          refine pv_ 11 44 q16_12 ?_
          refine pu_ 12 45 q16_13 ?_
          refine pu_ 13 46 q16_14 ?_
          refine pv_ 14 47 q16_15 ?_
          refine pv_ 15 48 q16_16 ?_
          refine pv_ 16 49 q16_17 ?_
          refine pv_ 17 50 q16_18 ?_
          refine pv_ 18 51 q16_19 ?_
          refine pv_ 19 52 q16_20 ?_
          refine pv_ 20 53 q16_21 ?_
          refine pv_ 21 54 q16_22 ?_
          refine pu_ 22 55 q16_23 ?_
          refine done_ (done_of HT_.out (by kernel_rfl)) ?_
          try go_wp2
          go_roundg kj4
          case measure => have := HK1.out; have := HJ4.out; omega
          case rel => exact ⟨(wrap64 (x7_1 + 1)), (by first | rfl | (simp; done) | (simp [*]; done)), H', ⟨by have := HK1.out; have := HJ4.out; omega⟩, ⟨hb_⟩⟩
     ·rw [if_neg c4] at H
      exact absurd H (by simp)
    ·rw [if_neg c3] at H
     exact absurd H (by simp)
   ·rw [if_neg c2] at H
    have c2b0 : decide (x7_1 < (l0.length : Int)) = false := decide_eq_false c2
    clear c2
    obtain rfl := Option.some.inj H
    go_wp2
    go_ret
    exact ⟨by first | rfl | (simp [errW_none, errW_some] <;> rfl) | (simp [*, errW_none, errW_some] <;> rfl), hb_⟩
end Go.Proofs.Yteafgjebaedjbaa.PFnExactTokensOk
