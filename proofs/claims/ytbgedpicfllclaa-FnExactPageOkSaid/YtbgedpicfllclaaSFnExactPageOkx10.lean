-- Written by this session's program wip/slim.py: the print's texts (with contracts of our own), only what this row needs, shortened. Lean checks it.
import Derived.Test.YtbgedpicfllclaaSFnExactPageOkx0
import Derived.Test.YtbgedpicfllclaaSFnExactPageOkx6
import Derived.Test.YtbgedpicfllclaaSFnExactPageOkx9
namespace Go.Proofs.Ytbgedpicfllclaa.PFnExactPageOk
open Go.RowKit Go.Proofs.YtbgedpicfllclaaW.PrintWords Go.Proofs.YtbgedpicfllclaaW.PrintLast Go.Proofs.YtbgedpicfllclaaW.PrintMore
attribute [local go_sem] max2_int min2_int max_two min_two max_three min_three max_four min_four
set_option linter.unusedVariables false
set_option linter.unusedSimpArgs false
def IsPg (W : World) (g : Nat) (A0 : Option Addr) (c0 : Nat) (l : List (S44)) (A1 : Option Addr) (c1 : Nat) (o : List Int) (A2 : Option Addr) (c2 : Nat) (f : List Int) (a b : Int) : Prop := W.heap[g]? = some (.cells #[.slice A0 l.length c0, .slice A1 o.length c1, .slice A2 f.length c2, .int .i64 a, .int .i64 b] 30 (0, 0))
section
variable {W W1 : World} {g : Nat} {A0 : Option Addr} {c0 : Nat} {l : List (S44)} {A1 : Option Addr} {c1 : Nat} {o : List Int} {A2 : Option Addr} {c2 : Nat} {f : List Int} {a b : Int}
theorem IsPg.below (h : IsPg W g A0 c0 l A1 c1 o A2 c2 f a b) (hb : Below W.heap.size W W1) : IsPg W1 g A0 c0 l A1 c1 o A2 c2 f a b := blk_below h hb
theorem IsPg.drewN (h : IsPg W g A0 c0 l A1 c1 o A2 c2 f a b) (n : Nat) : IsPg (W.drewN n) g A0 c0 l A1 c1 o A2 c2 f a b := h
theorem IsPg.x0 (h : IsPg W g A0 c0 l A1 c1 o A2 c2 f a b) : W.cell? ⟨g, 0, none⟩ = some (.slice A0 l.length c0) := (bc_ h 0).trans rfl
theorem IsPg.x1 (h : IsPg W g A0 c0 l A1 c1 o A2 c2 f a b) : W.cell? ⟨g, 1, none⟩ = some (.slice A1 o.length c1) := (bc_ h 1).trans rfl
theorem IsPg.x2 (h : IsPg W g A0 c0 l A1 c1 o A2 c2 f a b) : W.cell? ⟨g, 2, none⟩ = some (.slice A2 f.length c2) := (bc_ h 2).trans rfl
theorem IsPg.x3 (h : IsPg W g A0 c0 l A1 c1 o A2 c2 f a b) : W.cell? ⟨g, 3, none⟩ = some (.int .i64 a) := (bc_ h 3).trans rfl
theorem IsPg.x4 (h : IsPg W g A0 c0 l A1 c1 o A2 c2 f a b) : W.cell? ⟨g, 4, none⟩ = some (.int .i64 b) := (bc_ h 4).trans rfl
end
theorem inRange_len (i : Int) (n : Nat) (h : n ≤ 4611686018427387903) : impl_inRange.f i 0 (wrap64 ((n : Int) - 1)) = some (decide (0 ≤ i ∧ i < (n : Int))) := by
 rw [show wrap64 ((n : Int) - 1) = (n : Int) - 1 by unfold wrap64; omega]
 unfold impl_inRange.f
 by_cases a : i ≥ 0
 ·rw [if_pos a]
  congr 1
  exact decide_eq_decide.2 ⟨fun x => ⟨a, by omega⟩, fun x => by omega⟩
 ·rw [if_neg a, decide_eq_false (fun h => a h.1)]
def TAGB (l : List (S44)) (i : Int) : Bool := decide (0 ≤ i ∧ i < (l.length : Int)) && ((rd_T44 l i).f0 == 2)
def NAMB (l : List (S44)) (i : Int) (s : ByteArray) : Bool := (i == 0) || (TAGB l i && ((rd_T44 l i).f2.toList == s.toList))
set_option maxHeartbeats 2000000 in
set_option maxRecDepth 100000 in
theorem page_isTag (g : Nat) (A0 : Option Addr) (c0 : Nat) (l : List (S44)) (A1 : Option Addr) (c1 : Nat) (o : List Int) (A2 : Option Addr) (c2 : Nat) (f : List Int) (a b i : Int) (w : World) (hlen : l.length ≤ 4611686018427387903) (hP : IsPg w g A0 c0 l A1 c1 o A2 c2 f a b) (hr : Kd.C k44 w A0 l.length l) :
  Calls Try.prog 44 #[.pointer (some ⟨g, 0, none⟩), .int .i64 i] w fun e w' => e = .returned (.bool (TAGB l i)) ∧ Drawn0 w w' := by
 have hcz0 := hP.x0
 by_cases c : 0 ≤ i ∧ i < (l.length : Int)
 ·have A3 := Aside0.mk (show impl_inRange.f i 0 (wrap64 ((l.length : Int) - 1)) = some true by rw [inRange_len i l.length hlen, decide_eq_true c])
  obtain ⟨p288, q288⟩ := c
  obtain ⟨ad288, A288_3, c288_3, A288_6, c288_6, e288, hx288_0, hx288_1, hx288_2, hx288_3, hx288_4, hx288_5, hx288_6, hl288_3, hi288_3, hl288_6, hi288_6⟩ := at_T44 hr i p288 q288
  cases e288
  have HT := Aside0.mk (show TAGB l i = ((rd_T44 l i).f0 == 2) by unfold TAGB; rw [decide_eq_true ⟨p288, q288⟩, Bool.true_and])
  clear hi288_3 hi288_6 hl288_3 hl288_6 hP hr hlen hx288_1 hx288_2 hx288_3 hx288_4 hx288_5 hx288_6
  replace p288 := eq_true p288
  replace q288 := eq_true q288
  go_enter Try.func44, Try.ntmps44
  go_wp2_with (go_at_call 55; (with_reducible refine (impl_inRange.calls i 0 (wrap64 ((l.length : Int) - 1)) true _ A3.out).mono ?_); rintro e w' ⟨rfl, ⟨nd, rfl⟩⟩)
  go_ret
  exact ⟨by rw [HT.out]; first | rfl | (simp; done), by repeat (first | exact Drawn0.refl _ | apply Drawn0.step)⟩
 ·have A3 := Aside0.mk (show impl_inRange.f i 0 (wrap64 ((l.length : Int) - 1)) = some false by rw [inRange_len i l.length hlen, decide_eq_false c])
  have HT := Aside0.mk (show TAGB l i = false by unfold TAGB; rw [decide_eq_false c, Bool.false_and])
  clear hP hr hlen c
  go_enter Try.func44, Try.ntmps44
  go_wp2_with (go_at_call 55; (with_reducible refine (impl_inRange.calls i 0 (wrap64 ((l.length : Int) - 1)) false _ A3.out).mono ?_); rintro e w' ⟨rfl, ⟨nd, rfl⟩⟩)
  go_ret
  exact ⟨by rw [HT.out]; first | rfl | (simp; done), by repeat (first | exact Drawn0.refl _ | apply Drawn0.step)⟩
theorem TAGB_in {l : List (S44)} {i : Int} (h : TAGB l i = true) : 0 ≤ i ∧ i < (l.length : Int) := by
 unfold TAGB at h
 exact of_decide_eq_true (Bool.and_eq_true_iff.1 h).1
set_option maxHeartbeats 2000000 in
set_option maxRecDepth 100000 in
theorem page_isFormat (g : Nat) (A0 : Option Addr) (c0 : Nat) (l : List (S44)) (A1 : Option Addr) (c1 : Nat) (o : List Int) (A2 : Option Addr) (c2 : Nat) (f : List Int) (a b i : Int) (t : Bool) (w : World) (hlen : l.length ≤ 4611686018427387903) (hP : IsPg w g A0 c0 l A1 c1 o A2 c2 f a b) (hr : Kd.C k44 w A0 l.length l) (hG : MaxSeen w) (hF : TAGB l i = true → impl_Format.f (rd_T44 l i).f2 = some t) :
  Calls Try.prog 46 #[.pointer (some ⟨g, 0, none⟩), .int .i64 i] w fun e w' => e = .returned (.bool (TAGB l i && t)) ∧ Below w.heap.size w w' := by
 have HC := Aside0.mk (page_isTag g A0 c0 l A1 c1 o A2 c2 f a b i w hlen hP hr)
 have HP := Aside0.mk hP
 have HR := Aside0.mk hr
 have HG := Aside0.mk hG
 clear hP hr hlen hG
 cases ht : TAGB l i with
 | true =>
  have HF := Aside0.mk (hF ht)
  rw [ht] at HC
  have HIN := Aside0.mk (TAGB_in ht)
  clear hF ht
  go_enter Try.func46, Try.ntmps46
  go_wp2_with (first | (go_at_call 44; refine HC.out.mono ?_; rintro e w' ⟨rfl, ⟨nd, rfl⟩⟩; have hcz0 := IsPg.x0 (IsPg.drewN HP.out nd); obtain ⟨p288, q288⟩ := HIN.out; obtain ⟨ad288, A288_3, c288_3, A288_6, c288_6, e288, hx288_0, hx288_1, hx288_2, hx288_3, hx288_4, hx288_5, hx288_6, hl288_3, hi288_3, hl288_6, hi288_6⟩ := at_T44 (cn_ HR.out nd) i p288 q288; cases e288; clear hi288_3 hi288_6 hl288_3 hl288_6 hx288_0 hx288_1 hx288_3 hx288_4 hx288_5 hx288_6; replace p288 := eq_true p288; replace q288 := eq_true q288) | (go_at_call 74; (refine (impl_Format.calls (rd_T44 l i).f2 t _ (MaxSeen.below HG.out (bn_ (Below.refl _ _) _)) HF.out).mono ?_); rintro e w' ⟨rfl, hb⟩; have HB := Aside0.mk (below_step (bn_ (Below.refl _ _) _) hb); clear hb))
  go_ret
  exact ⟨by first | rfl | (simp; done), HB.out⟩
 | false =>
  rw [ht] at HC
  clear hF ht
  go_enter Try.func46, Try.ntmps46
  go_wp2_with (go_at_call 44; refine HC.out.mono ?_; rintro e w' ⟨rfl, ⟨nd, rfl⟩⟩)
  go_ret
  exact ⟨by first | rfl | (simp; done), bn_ (Below.refl _ _) _⟩
set_option maxHeartbeats 2000000 in
set_option maxRecDepth 100000 in
theorem page_isNamed (g : Nat) (A0 : Option Addr) (c0 : Nat) (l : List (S44)) (A1 : Option Addr) (c1 : Nat) (o : List Int) (A2 : Option Addr) (c2 : Nat) (f : List Int) (a b i : Int) (s : ByteArray) (w : World) (hlen : l.length ≤ 4611686018427387903) (hP : IsPg w g A0 c0 l A1 c1 o A2 c2 f a b) (hr : Kd.C k44 w A0 l.length l) :
  Calls Try.prog 47 #[.pointer (some ⟨g, 0, none⟩), .int .i64 i, .string s] w fun e w' => e = .returned (.bool (NAMB l i s)) ∧ Drawn0 w w' := by
 have HC := Aside0.mk (page_isTag g A0 c0 l A1 c1 o A2 c2 f a b i w hlen hP hr)
 have HP := Aside0.mk hP
 have HR := Aside0.mk hr
 clear hP hr hlen
 by_cases h0 : i = 0
 ·have c0b : (i == 0) = true := beq_iff_eq.mpr h0
  have HT := Aside0.mk (show NAMB l i s = true by unfold NAMB; rw [c0b, Bool.true_or])
  clear h0
  go_enter Try.func47, Try.ntmps47
  go_wp2
  go_ret
  exact ⟨by rw [HT.out]; first | rfl | (simp; done), by repeat (first | exact Drawn0.refl _ | apply Drawn0.step)⟩
 ·have c0b : (i == 0) = false := beq_eq_false_iff_ne.mpr h0
  clear h0
  cases ht : TAGB l i with
  | true =>
   rw [ht] at HC
   have HIN := Aside0.mk (TAGB_in ht)
   have HT := Aside0.mk (show NAMB l i s = ((rd_T44 l i).f2.toList == s.toList) by unfold NAMB; rw [c0b, ht, Bool.false_or, Bool.true_and])
   clear ht
   go_enter Try.func47, Try.ntmps47
   go_wp2_with (go_at_call 44; refine HC.out.mono ?_; rintro e w' ⟨rfl, ⟨nd, rfl⟩⟩; have hcz0 := IsPg.x0 (IsPg.drewN HP.out nd); obtain ⟨p288, q288⟩ := HIN.out; obtain ⟨ad288, A288_3, c288_3, A288_6, c288_6, e288, hx288_0, hx288_1, hx288_2, hx288_3, hx288_4, hx288_5, hx288_6, hl288_3, hi288_3, hl288_6, hi288_6⟩ := at_T44 (cn_ HR.out nd) i p288 q288; cases e288; clear hi288_3 hi288_6 hl288_3 hl288_6 hx288_0 hx288_1 hx288_3 hx288_4 hx288_5 hx288_6; replace p288 := eq_true p288; replace q288 := eq_true q288)
   go_ret
   exact ⟨by rw [HT.out]; first | rfl | (simp; done), by repeat (first | exact Drawn0.refl _ | apply Drawn0.step)⟩
  | false =>
   rw [ht] at HC
   have HT := Aside0.mk (show NAMB l i s = false by unfold NAMB; rw [c0b, ht, Bool.false_or, Bool.false_and])
   clear ht
   go_enter Try.func47, Try.ntmps47
   go_wp2_with (go_at_call 44; refine HC.out.mono ?_; rintro e w' ⟨rfl, ⟨nd, rfl⟩⟩)
   go_ret
   exact ⟨by rw [HT.out]; first | rfl | (simp; done), by repeat (first | exact Drawn0.refl _ | apply Drawn0.step)⟩
mutual
def impl_PageOk.l0 : Nat → List (S44) → List Int → List Int → Int → Int → Int → Option Bool
 | 0, _, _, _, _, _, _ => none
 | k + 1, l, o, f, a, b, x => if x < (o.length : Int) then (if 0 ≤ x then (if TAGB l (rd o x) = true then ((slices_Index_int_int.f k o (rd o x)).bind fun t => (if t = x then (impl_PageOk.l0 k l o f a b (wrap64 (x + 1))) else (some false))) else (some false)) else none) else (impl_PageOk.l1 k l o f a b 0)
def impl_PageOk.l1 : Nat → List (S44) → List Int → List Int → Int → Int → Int → Option Bool
 | 0, _, _, _, _, _, _ => none
 | k + 1, l, o, f, a, b, x => if x < (f.length : Int) then (if 0 ≤ x then (if rd f x = (-1) then (impl_PageOk.l1 k l o f a b (wrap64 (x + 1))) else (if TAGB l (rd f x) = true then ((impl_Format.f (rd_T44 l (rd f x)).f2).bind fun t => (if t = true then (impl_PageOk.l1 k l o f a b (wrap64 (x + 1))) else (some false))) else (some false))) else none) else (if (o.length : Int) ≤ 40 then (if (f.length : Int) ≤ 120 then (if NAMB l a (⟨#[104, 101, 97, 100]⟩ : ByteArray) = true then (if NAMB l b (⟨#[98, 111, 100, 121]⟩ : ByteArray) = true then (impl_TreeOk.f k l) else (some false)) else (some false)) else (some false)) else (some false))
end
def impl_PageOk.f (k : Nat) (l : List (S44)) (o : List Int) (f : List Int) (a : Int) (b : Int) : Option Bool := if l.length ≤ 4611686018427387903 then (impl_PageOk.l0 k l o f a b 0) else none
theorem impl_PageOk.mono_l : ∀ k, (∀ y0 y1 y2 y3 y4 y5, LeO (impl_PageOk.l0 k y0 y1 y2 y3 y4 y5) (impl_PageOk.l0 (k + 1) y0 y1 y2 y3 y4 y5)) ∧ (∀ y0 y1 y2 y3 y4 y5, LeO (impl_PageOk.l1 k y0 y1 y2 y3 y4 y5) (impl_PageOk.l1 (k + 1) y0 y1 y2 y3 y4 y5))
 | 0 => ⟨fun _ _ _ _ _ _ r h => by simp [impl_PageOk.l0] at h, fun _ _ _ _ _ _ r h => by simp [impl_PageOk.l1] at h⟩
 | k + 1 => by
  obtain ⟨ih0, ih1⟩ := impl_PageOk.mono_l k
  refine ⟨?_, ?_⟩
  ·intro y0 y1 y2 y3 y4 y5
   unfold impl_PageOk.l0
   repeat' first
    | (with_reducible exact ih0 _ _ _ _ _ _)
    | (with_reducible exact ih1 _ _ _ _ _ _)
    | (with_reducible exact slices_Index_int_int.mono _ _ _)
    | (with_reducible exact LeO.refl _)
    | (with_reducible exact LeO.none _)
    | (with_reducible refine LeO.ite ?_ ?_)
    | (with_reducible refine LeO.bind ?_ (fun _ => ?_))
  ·intro y0 y1 y2 y3 y4 y5
   unfold impl_PageOk.l1
   repeat' first
    | (with_reducible exact ih1 _ _ _ _ _ _)
    | (with_reducible exact impl_TreeOk.mono _ _)
    | (with_reducible exact LeO.refl _)
    | (with_reducible exact LeO.none _)
    | (with_reducible refine LeO.ite ?_ ?_)
    | (with_reducible refine LeO.bind ?_ (fun _ => ?_))
theorem impl_PageOk.mono : ∀ a0 a1 a2 a3 a4 k, LeO (impl_PageOk.f k a0 a1 a2 a3 a4) (impl_PageOk.f (k + 1) a0 a1 a2 a3 a4) := by
 intro a0 a1 a2 a3 a4 k
 unfold impl_PageOk.f
 exact LeO.ite ((impl_PageOk.mono_l k).1 _ _ _ _ _ _) (LeO.none _)
set_option maxHeartbeats 8000000 in
set_option maxRecDepth 100000 in
theorem impl_PageOk.calls (k : Nat) (A0_0 : Option Addr) (c0_0 : Nat) (l0_0 : List (S44)) (A0_1 : Option Addr) (c0_1 : Nat) (l0_1 : List Int) (A0_2 : Option Addr) (c0_2 : Nat) (l0_2 : List Int) (a0_3 : Int) (a0_4 : Int) (r : Bool) (w : World) (hr0_0 : Kd.C k44 w A0_0 l0_0.length l0_0) (hc0_0 : l0_0.length ≤ c0_0) (hr0_1 : Kd.C (Kd.int .i64) w A0_1 l0_1.length l0_1) (hc0_1 : l0_1.length ≤ c0_1) (hr0_2 : Kd.C (Kd.int .i64) w A0_2 l0_2.length l0_2) (hc0_2 : l0_2.length ≤ c0_2) (hG : MaxSeen w) (h : impl_PageOk.f k l0_0 l0_1 l0_2 a0_3 a0_4 = some r) :
  Calls Try.prog 13 #[.agg #[.slice A0_0 l0_0.length c0_0, .slice A0_1 l0_1.length c0_1, .slice A0_2 l0_2.length c0_2, .int .i64 a0_3, .int .i64 a0_4]] w fun e w' => e = .returned (.bool r) ∧ Below w.heap.size w w' := by
 unfold impl_PageOk.f at h
 by_cases hlen : l0_0.length ≤ 4611686018427387903
 rotate_left
 ·rw [if_neg hlen] at h; exact absurd h (by simp)
 rw [if_pos hlen] at h
 have H' := Aside0.mk h
 have HLEN := Aside0.mk hlen
 have HG := Aside0.mk hG
 have HR0 := Aside0.mk hr0_0
 have HR1 := Aside0.mk hr0_1
 have HR2 := Aside0.mk hr0_2
 have HC0 := Aside0.mk hc0_0
 have HC1 := Aside0.mk hc0_1
 have HP := Aside0.mk (show IsPg (w.alloc (.cells #[.slice A0_0 l0_0.length c0_0, .slice A0_1 l0_1.length c0_1, .slice A0_2 l0_2.length c0_2, .int .i64 a0_3, .int .i64 a0_4] 30)) w.heap.size A0_0 c0_0 l0_0 A0_1 c0_1 l0_1 A0_2 c0_2 l0_2 a0_3 a0_4 from blk_new _ _)
 have HB := Aside0.mk ((Below.refl w.heap.size w).alloc (Nat.le_refl _) (.cells #[.slice A0_0 l0_0.length c0_0, .slice A0_1 l0_1.length c0_1, .slice A0_2 l0_2.length c0_2, .int .i64 a0_3, .int .i64 a0_4] 30))
 clear h hlen hG hr0_0 hr0_1 hr0_2 hc0_0 hc0_1 hc0_2
 go_enter Try.func13, Try.ntmps13
 go_wp2
 go_loopg [10] k (fun kq v10 w' => ∃ (x : Int), v10 = .int .i64 x ∧ Aside0 (impl_PageOk.l0 kq l0_0 l0_1 l0_2 a0_3 a0_4 x = some r) ∧ Aside0 (kq ≤ k) ∧ Aside0 (IsPg w' w.heap.size A0_0 c0_0 l0_0 A0_1 c0_1 l0_1 A0_2 c0_2 l0_2 a0_3 a0_4) ∧ Aside0 (Below w.heap.size w w'))
 case atStart => exact ⟨0, rfl, H', ⟨Nat.le_refl _⟩, HP, HB⟩
 case round =>
  clear H' HP HB
  obtain ⟨x, rfl, HA, HK1, HP, HB⟩ := hrel
  cases gk with
  | zero => exact absurd HA.out (by simp [impl_PageOk.l0])
  | succ k1 =>
   have H := HA.out
   clear HA
   simp only [impl_PageOk.l0] at H
   by_cases c1 : x < (l0_1.length : Int)
   ·rw [if_pos c1] at H
    have c1b0 : decide (x < (l0_1.length : Int)) = true := decide_eq_true c1
    by_cases c2 : 0 ≤ x
    rotate_left
    ·rw [if_neg c2] at H; exact absurd H (by simp)
    rw [if_pos c2] at H
    obtain ⟨ad5, e5, hx5⟩ := Kd.at_int (Kd.C_below HR1.out HB.out) x c2 c1
    cases e5
    have HTC := Aside0.mk (page_isTag w.heap.size A0_0 c0_0 l0_0 (some ad5) c0_1 l0_1 A0_2 c0_2 l0_2 a0_3 a0_4 (rd l0_1 x) wr HLEN.out HP.out (Kd.C_below HR0.out HB.out))
    replace c1 := eq_true c1
    replace c2 := eq_true c2
    cases ht : TAGB l0_0 (rd l0_1 x) with
    | false =>
     rw [ht] at H HTC
     rw [if_neg (by decide)] at H
     obtain rfl := Option.some.inj H
     go_wp2_with (go_at_call 44; refine HTC.out.mono ?_; rintro e w' ⟨rfl, ⟨nd, rfl⟩⟩)
     go_ret
     exact ⟨by first | rfl | (simp; done), bn_ HB.out _⟩
    | true =>
     rw [ht] at H HTC
     rw [if_pos rfl] at H
     obtain ⟨t, AI0, H⟩ := Option.bind_eq_some_iff.mp H
     have AI := Aside0.mk AI0
     clear AI0
     by_cases c3 : t = x
     ·rw [if_pos c3] at H
      subst c3
      have H' := Aside0.mk H
      clear H
      go_wp2_with (first | (go_at_call 44; refine HTC.out.mono ?_; rintro e w' ⟨rfl, ⟨nd, rfl⟩⟩; have hcz1 := IsPg.x1 (IsPg.drewN HP.out nd)) | (go_at_call 45; (refine (slices_Index_int_int.calls k1 _ c0_1 l0_1 (rd l0_1 t) t _ (Kd.C_below HR1.out (bn_ HB.out _)) HC1.out AI.out).mono ?_); rintro e w' ⟨rfl, ⟨nd2, rfl⟩⟩))
      go_roundg k1
      case measure => have := HK1.out; omega
      case rel => exact ⟨wrap64 (t + 1), by first | rfl | (simp; done), H', ⟨by have := HK1.out; omega⟩, ⟨HP.out⟩, ⟨by repeat (first | exact HB.out | apply bn_)⟩⟩
     ·rw [if_neg c3] at H
      have c3b0 : (t == x) = false := beq_eq_false_iff_ne.mpr c3
      have c3b1 : (t != x) = true := bne_iff_ne.mpr c3
      obtain rfl := Option.some.inj H
      go_wp2_with (first | (go_at_call 44; refine HTC.out.mono ?_; rintro e w' ⟨rfl, ⟨nd, rfl⟩⟩; have hcz1 := IsPg.x1 (IsPg.drewN HP.out nd)) | (go_at_call 45; (refine (slices_Index_int_int.calls k1 _ c0_1 l0_1 (rd l0_1 x) t _ (Kd.C_below HR1.out (bn_ HB.out _)) HC1.out AI.out).mono ?_); rintro e w' ⟨rfl, ⟨nd2, rfl⟩⟩))
      go_ret
      exact ⟨by first | rfl | (simp; done), by repeat (first | exact HB.out | apply bn_)⟩
   ·rw [if_neg c1] at H
    have c1b0 : decide (x < (l0_1.length : Int)) = false := decide_eq_false c1
    have H' := Aside0.mk H
    have hcz2 := IsPg.x2 HP.out
    clear H c1
    go_wp2
    clear hcz2
    go_loopg [30] k1 (fun kq v30 w' => ∃ (x : Int), v30 = .int .i64 x ∧ Aside0 (impl_PageOk.l1 kq l0_0 l0_1 l0_2 a0_3 a0_4 x = some r) ∧ Aside0 (kq ≤ k1) ∧ Aside0 (IsPg w' w.heap.size A0_0 c0_0 l0_0 A0_1 c0_1 l0_1 A0_2 c0_2 l0_2 a0_3 a0_4) ∧ Aside0 (Below w.heap.size w w'))
    case atStart => exact ⟨0, rfl, H', ⟨Nat.le_refl _⟩, HP, HB⟩
    case round =>
     clear H' HP HB
     obtain ⟨x, rfl, HA, HK2, HP, HB⟩ := hrel
     cases gk with
     | zero => exact absurd HA.out (by simp [impl_PageOk.l1])
     | succ k2 =>
      have H := HA.out
      clear HA
      simp only [impl_PageOk.l1] at H
      by_cases c1 : x < (l0_2.length : Int)
      ·rw [if_pos c1] at H
       have c1b0 : decide (x < (l0_2.length : Int)) = true := decide_eq_true c1
       by_cases c2 : 0 ≤ x
       rotate_left
       ·rw [if_neg c2] at H; exact absurd H (by simp)
       rw [if_pos c2] at H
       obtain ⟨ad5, e5, hx5⟩ := Kd.at_int (Kd.C_below HR2.out HB.out) x c2 c1
       cases e5
       replace c1 := eq_true c1
       replace c2 := eq_true c2
       by_cases c3 : rd l0_2 x = (-1)
       ·rw [if_pos c3] at H
        have c3b0 : (rd l0_2 x == (-1)) = true := beq_iff_eq.mpr c3
        have c3b1 : (rd l0_2 x != (-1)) = false := bne_eq_false_iff_eq.mpr c3
        clear c3
        have H' := Aside0.mk H
        clear H
        go_wp2
        go_roundg k2
        case measure => have := HK2.out; omega
        case rel => exact ⟨wrap64 (x + 1), by first | rfl | (simp; done), H', ⟨by have := HK2.out; omega⟩, HP, HB⟩
       ·rw [if_neg c3] at H
        have c3b0 : (rd l0_2 x == (-1)) = false := beq_eq_false_iff_ne.mpr c3
        have c3b1 : (rd l0_2 x != (-1)) = true := bne_iff_ne.mpr c3
        clear c3
        by_cases c4 : TAGB l0_0 (rd l0_2 x) = true
        ·rw [if_pos c4] at H
         obtain ⟨t, AF, H⟩ := Option.bind_eq_some_iff.mp H
         have HFC := Aside0.mk (page_isFormat w.heap.size A0_0 c0_0 l0_0 A0_1 c0_1 l0_1 (some ad5) c0_2 l0_2 a0_3 a0_4 (rd l0_2 x) t wr HLEN.out HP.out (Kd.C_below HR0.out HB.out) (MaxSeen.below HG.out HB.out) (fun _ => AF))
         clear AF
         rw [c4, Bool.true_and] at HFC
         clear c4
         cases t with
         | true =>
          rw [if_pos rfl] at H
          have H' := Aside0.mk H
          clear H
          go_wp2_with (go_at_call 46; refine HFC.out.mono ?_; rintro e w' ⟨rfl, hb⟩; have HB2 := Aside0.mk (below_step HB.out hb); have HP2 := Aside0.mk (IsPg.below HP.out hb); clear hb)
          go_roundg k2
          case measure => have := HK2.out; omega
          case rel => exact ⟨wrap64 (x + 1), by first | rfl | (simp; done), H', ⟨by have := HK2.out; omega⟩, HP2, HB2⟩
         | false =>
          rw [if_neg (by decide)] at H
          obtain rfl := Option.some.inj H
          go_wp2_with (go_at_call 46; refine HFC.out.mono ?_; rintro e w' ⟨rfl, hb⟩; have HB2 := Aside0.mk (below_step HB.out hb); clear hb)
          go_ret
          exact ⟨by first | rfl | (simp; done), HB2.out⟩
        ·rw [if_neg c4] at H
         obtain rfl := Option.some.inj H
         have HFC := Aside0.mk (page_isFormat w.heap.size A0_0 c0_0 l0_0 A0_1 c0_1 l0_1 (some ad5) c0_2 l0_2 a0_3 a0_4 (rd l0_2 x) true wr HLEN.out HP.out (Kd.C_below HR0.out HB.out) (MaxSeen.below HG.out HB.out) (fun h => absurd h c4))
         rw [Bool.eq_false_iff.mpr c4, Bool.false_and] at HFC
         clear c4
         go_wp2_with (go_at_call 46; refine HFC.out.mono ?_; rintro e w' ⟨rfl, hb⟩; have HB2 := Aside0.mk (below_step HB.out hb); clear hb)
         go_ret
         exact ⟨by first | rfl | (simp; done), HB2.out⟩
      ·rw [if_neg c1] at H
       have c1b0 : decide (x < (l0_2.length : Int)) = false := decide_eq_false c1
       clear c1
       have hcz1 := IsPg.x1 HP.out
       have hcz2 := IsPg.x2 HP.out
       have hcz3 := IsPg.x3 HP.out
       by_cases d1 : (l0_1.length : Int) ≤ 40
       rotate_left
       ·rw [if_neg d1] at H
        obtain rfl := Option.some.inj H
        have d1b : decide ((l0_1.length : Int) ≤ 40) = false := decide_eq_false d1
        clear d1
        go_wp2
        go_ret
        exact ⟨by first | rfl | (simp; done), HB.out⟩
       rw [if_pos d1] at H
       have d1b : decide ((l0_1.length : Int) ≤ 40) = true := decide_eq_true d1
       clear d1
       by_cases d2 : (l0_2.length : Int) ≤ 120
       rotate_left
       ·rw [if_neg d2] at H
        obtain rfl := Option.some.inj H
        have d2b : decide ((l0_2.length : Int) ≤ 120) = false := decide_eq_false d2
        clear d2
        go_wp2
        go_ret
        exact ⟨by first | rfl | (simp; done), HB.out⟩
       rw [if_pos d2] at H
       have d2b : decide ((l0_2.length : Int) ≤ 120) = true := decide_eq_true d2
       clear d2
       have HN1 := Aside0.mk (page_isNamed w.heap.size A0_0 c0_0 l0_0 A0_1 c0_1 l0_1 A0_2 c0_2 l0_2 a0_3 a0_4 a0_3 (⟨#[104, 101, 97, 100]⟩ : ByteArray) wr HLEN.out HP.out (Kd.C_below HR0.out HB.out))
       cases e1 : NAMB l0_0 a0_3 (⟨#[104, 101, 97, 100]⟩ : ByteArray) with
       | false =>
        rw [e1] at H HN1
        rw [if_neg (by decide)] at H
        obtain rfl := Option.some.inj H
        go_wp2_with (go_at_call 47; refine HN1.out.mono ?_; rintro e w' ⟨rfl, ⟨nd, rfl⟩⟩)
        go_ret
        exact ⟨by first | rfl | (simp; done), bn_ HB.out _⟩
       | true =>
        rw [e1] at H HN1
        rw [if_pos rfl] at H
        cases e2 : NAMB l0_0 a0_4 (⟨#[98, 111, 100, 121]⟩ : ByteArray) with
        | false =>
         rw [e2] at H
         rw [if_neg (by decide)] at H
         obtain rfl := Option.some.inj H
         have HE2 := Aside0.mk e2
         clear e1 e2
         go_wp2_with (first | (go_at_call 47; refine HN1.out.mono ?_; rintro e w' ⟨rfl, ⟨nd, rfl⟩⟩; have hcz4 := IsPg.x4 (IsPg.drewN HP.out nd); have HN2 := Aside0.mk (page_isNamed w.heap.size A0_0 c0_0 l0_0 A0_1 c0_1 l0_1 A0_2 c0_2 l0_2 a0_3 a0_4 a0_4 (⟨#[98, 111, 100, 121]⟩ : ByteArray) (wr.drewN nd) HLEN.out (IsPg.drewN HP.out nd) (Kd.C_below HR0.out (bn_ HB.out nd))); rw [HE2.out] at HN2; clear HN1) | (go_at_call 47; refine HN2.out.mono ?_; rintro e w' ⟨rfl, ⟨nd2, rfl⟩⟩))
         go_ret
         exact ⟨by first | rfl | (simp; done), by repeat (first | exact HB.out | apply bn_)⟩
        | true =>
         rw [e2] at H
         rw [if_pos rfl] at H
         have AT := Aside0.mk H
         have HE2 := Aside0.mk e2
         clear e1 e2 H
         go_wp2_with (first | (go_at_call 47; refine HN1.out.mono ?_; rintro e w' ⟨rfl, ⟨nd, rfl⟩⟩; have hcz4 := IsPg.x4 (IsPg.drewN HP.out nd); have HN2 := Aside0.mk (page_isNamed w.heap.size A0_0 c0_0 l0_0 A0_1 c0_1 l0_1 A0_2 c0_2 l0_2 a0_3 a0_4 a0_4 (⟨#[98, 111, 100, 121]⟩ : ByteArray) (wr.drewN nd) HLEN.out (IsPg.drewN HP.out nd) (Kd.C_below HR0.out (bn_ HB.out nd))); rw [HE2.out] at HN2; clear HN1) | (go_at_call 47; refine HN2.out.mono ?_; rintro e w' ⟨rfl, ⟨nd2, rfl⟩⟩; have hcz0 := IsPg.x0 (IsPg.drewN HP.out (nd + nd2))) | (go_at_call 27; (refine (impl_TreeOk.calls k2 A0_0 c0_0 l0_0 r _ (Kd.C_below HR0.out (bn_ HB.out _)) HC0.out AT.out).mono ?_); rintro e w' ⟨rfl, hb⟩; have HB3 := Aside0.mk (below_step (bn_ HB.out _) hb); clear hb))
         go_ret
         exact ⟨by first | rfl | (simp; done), HB3.out⟩
def laws_eqIntS.l0 : Nat → List Int → List Int → Int → Option (Bool)
 | 0, _, _, _ => none
 | k + 1, x0, x1, x5 => if x5 < (x0.length : Int) then (if 0 ≤ x5 then (if x5 < (x1.length : Int) then (if (rd x0 x5) = (rd x1 x5) then (laws_eqIntS.l0 k x0 x1 (wrap64 (x5 + 1))) else (some false)) else (none)) else (none)) else (some true)
def laws_eqIntS.f (k : Nat) (l0 : List Int) (l1 : List Int) : Option (Bool) := if (l0.length : Int) = (l1.length : Int) then (laws_eqIntS.l0 k l0 l1 0) else (some false)
theorem laws_eqIntS.mono_l : ∀ k, (∀ y0 y1 y2, LeO (laws_eqIntS.l0 k y0 y1 y2) (laws_eqIntS.l0 (k + 1) y0 y1 y2))
 | 0 => fun _ _ _ r h => by simp [laws_eqIntS.l0] at h
 | k + 1 => by
  have ih0 := laws_eqIntS.mono_l k
  ·intro y0 y1 y2
   unfold laws_eqIntS.l0
   repeat' first
   | (with_reducible exact ih0 _ _ _)
   | (with_reducible exact LeO.refl _)
   | (with_reducible exact LeO.none _)
   | (with_reducible refine LeO.ite ?_ ?_)
   | (with_reducible refine LeO.bind ?_ (fun _ => ?_))
theorem laws_eqIntS.mono : ∀ a0 a1 k, LeO (laws_eqIntS.f k a0 a1) (laws_eqIntS.f (k + 1) a0 a1) := by
 intro a0 a1 k
 have ih0 := laws_eqIntS.mono_l k
 unfold laws_eqIntS.f
 repeat' first
   | (with_reducible exact ih0 _ _ _)
   | (with_reducible exact LeO.refl _)
   | (with_reducible exact LeO.none _)
   | (with_reducible refine LeO.ite ?_ ?_)
   | (with_reducible refine LeO.bind ?_ (fun _ => ?_))
set_option maxHeartbeats 8000000 in
set_option maxRecDepth 100000 in
theorem laws_eqIntS.calls (k : Nat) (A0 : Option Addr) (c0 : Nat) (l0 : List Int) (A1 : Option Addr) (c1 : Nat) (l1 : List Int) (r : Bool) (w : World) (hr0 : Kd.C (Kd.int .i64) w A0 l0.length l0) (hc0 : l0.length ≤ c0) (hr1 : Kd.C (Kd.int .i64) w A1 l1.length l1) (hc1 : l1.length ≤ c1) (h : laws_eqIntS.f k l0 l1 = some r) :
  Calls Try.prog 34 #[.slice A0 l0.length c0, .slice A1 l1.length c1] w fun e w' => e = .returned (.bool r) ∧ Drawn0 w w' := by
 have HR0 := Aside0.mk hr0
 have HC0 := Aside0.mk hc0
 clear hr0 hc0
 have HR1 := Aside0.mk hr1
 have HC1 := Aside0.mk hc1
 clear hr1 hc1
 have H : (if (l0.length : Int) = (l1.length : Int) then (laws_eqIntS.l0 k l0 l1 0) else (some false)) = some r := h
 clear h
 by_cases c3 : (l0.length : Int) = (l1.length : Int)
 ·rw [if_pos c3] at H
  have c3b0 : ((l0.length : Int) == (l1.length : Int)) = true := beq_iff_eq.mpr c3
  have c3b1 : ((l0.length : Int) != (l1.length : Int)) = false := bne_eq_false_iff_eq.mpr c3
  have c3b2 : (l0.length == l1.length) = true := by first | simpa using c3 | (simp at c3 ⊢; omega)
  clear c3
  have H' := Aside0.mk H
  clear H
  go_enter Try.func34, Try.ntmps34
  go_wp2
  repeat (go_quiet (fail); try go_wp2)
  go_loopg [5] k (fun kq v5 w' => ∃ (x5_1 : Int), v5 = .int .i64 x5_1 ∧ Aside0 (laws_eqIntS.l0 kq l0 l1 x5_1 = some r) ∧ Aside0 (kq ≤ k) ∧ Drawn0 w w')
  case atStart => exact ⟨(0), (by first | rfl | (simp; done) | (simp [*]; done)), H', ⟨Nat.le_refl _⟩, by repeat (first | exact Drawn0.refl _ | apply Drawn0.step)⟩
  case round =>
   clear H'
   try clear c1
   try clear p2
   try clear c3
   try clear c3b0
   try clear c3b1
   try clear c3b2
   obtain ⟨x5_1, rfl, HA, HK1, ⟨m1, rfl⟩⟩ := hrel
   cases gk with
   | zero => exact absurd HA.out (by simp [laws_eqIntS.l0])
   | succ k1 =>
    have H := HA.out
    clear HA
    simp only [laws_eqIntS.l0] at H
    by_cases c4 : x5_1 < (l0.length : Int)
    ·rw [if_pos c4] at H
     have c4b0 : decide (x5_1 < (l0.length : Int)) = true := decide_eq_true c4
     clear c4
     by_cases c5 : 0 ≤ x5_1
     ·rw [if_pos c5] at H
      have c5b0 : decide (0 ≤ x5_1) = true := decide_eq_true c5
      clear c5
      by_cases c6 : x5_1 < (l1.length : Int)
      ·rw [if_pos c6] at H
       have c6b0 : decide (x5_1 < (l1.length : Int)) = true := decide_eq_true c6
       clear c6
       by_cases c7 : (rd l0 x5_1) = (rd l1 x5_1)
       ·rw [if_pos c7] at H
        have c7b0 : ((rd l0 x5_1) == (rd l1 x5_1)) = true := beq_iff_eq.mpr c7
        have c7b1 : ((rd l0 x5_1) != (rd l1 x5_1)) = false := bne_eq_false_iff_eq.mpr c7
        clear c7
        have H' := Aside0.mk H
        clear H
        have p291 : 0 ≤ (x5_1 : Int) := of_decide_eq_true (by first | (with_reducible assumption) | assumption)
        have q291 : x5_1 < (l0.length : Int) := of_decide_eq_true (by first | (with_reducible assumption) | assumption)
        obtain ⟨ad291, e291, hx291_0⟩ := Kd.at_int HR0.out x5_1 p291 q291
        cases e291
        replace p291 := eq_true p291
        replace q291 := eq_true q291
        have p292 : 0 ≤ (x5_1 : Int) := of_decide_eq_true (by first | (with_reducible assumption) | assumption)
        have q292 : x5_1 < (l1.length : Int) := of_decide_eq_true (by first | (with_reducible assumption) | assumption)
        obtain ⟨ad292, e292, hx292_0⟩ := Kd.at_int HR1.out x5_1 p292 q292
        cases e292
        replace p292 := eq_true p292
        replace q292 := eq_true q292
        go_wp2
        repeat (go_quiet (fail); try go_wp2)
        go_roundg k1
        case measure => have := HK1.out; omega
        case rel => exact ⟨(wrap64 (x5_1 + 1)), (by first | rfl | (simp; done) | (simp [*]; done)), H', ⟨by have := HK1.out; omega⟩, by repeat (first | exact Drawn0.refl _ | apply Drawn0.step)⟩
       ·rw [if_neg c7] at H
        have c7b0 : ((rd l0 x5_1) == (rd l1 x5_1)) = false := beq_eq_false_iff_ne.mpr c7
        have c7b1 : ((rd l0 x5_1) != (rd l1 x5_1)) = true := bne_iff_ne.mpr c7
        obtain rfl := Option.some.inj H
        have p291 : 0 ≤ (x5_1 : Int) := of_decide_eq_true (by first | (with_reducible assumption) | assumption)
        have q291 : x5_1 < (l0.length : Int) := of_decide_eq_true (by first | (with_reducible assumption) | assumption)
        obtain ⟨ad291, e291, hx291_0⟩ := Kd.at_int HR0.out x5_1 p291 q291
        cases e291
        replace p291 := eq_true p291
        replace q291 := eq_true q291
        have p292 : 0 ≤ (x5_1 : Int) := of_decide_eq_true (by first | (with_reducible assumption) | assumption)
        have q292 : x5_1 < (l1.length : Int) := of_decide_eq_true (by first | (with_reducible assumption) | assumption)
        obtain ⟨ad292, e292, hx292_0⟩ := Kd.at_int HR1.out x5_1 p292 q292
        cases e292
        replace p292 := eq_true p292
        replace q292 := eq_true q292
        go_wp2
        repeat (go_quiet (fail); try go_wp2)
        go_ret
        exact ⟨by first | rfl | (simp; done) | (simp [*]; done), by repeat (first | exact Drawn0.refl _ | apply Drawn0.step)⟩
      ·rw [if_neg c6] at H
       exact absurd H (by simp)
     ·rw [if_neg c5] at H
      exact absurd H (by simp)
    ·rw [if_neg c4] at H
     have c4b0 : decide (x5_1 < (l0.length : Int)) = false := decide_eq_false c4
     clear c4
     obtain rfl := Option.some.inj H
     go_wp2
     repeat (go_quiet (fail); try go_wp2)
     go_ret
     exact ⟨by first | rfl | (simp; done) | (simp [*]; done), by repeat (first | exact Drawn0.refl _ | apply Drawn0.step)⟩
 ·rw [if_neg c3] at H
  have c3b0 : ((l0.length : Int) == (l1.length : Int)) = false := beq_eq_false_iff_ne.mpr c3
  have c3b1 : ((l0.length : Int) != (l1.length : Int)) = true := bne_iff_ne.mpr c3
  have c3b2 : (l0.length == l1.length) = false := by first | simpa using c3 | (simp at c3 ⊢; omega)
  obtain rfl := Option.some.inj H
  go_enter Try.func34, Try.ntmps34
  go_wp2
  repeat (go_quiet (fail); try go_wp2)
  go_ret
  exact ⟨by first | rfl | (simp; done) | (simp [*]; done), by repeat (first | exact Drawn0.refl _ | apply Drawn0.step)⟩
def laws_eqAttr.f (a0_0 : ByteArray) (a0_1 : ByteArray) (a1_0 : ByteArray) (a1_1 : ByteArray) : Option (Bool) := if a0_0.toList = a1_0.toList then (if a0_1.toList = a1_1.toList then (some true) else (some false)) else (some false)
set_option maxHeartbeats 8000000 in
set_option maxRecDepth 100000 in
theorem laws_eqAttr.calls (a0_0 : ByteArray) (a0_1 : ByteArray) (a1_0 : ByteArray) (a1_1 : ByteArray) (r : Bool) (w : World) (h : laws_eqAttr.f a0_0 a0_1 a1_0 a1_1 = some r) :
  Calls Try.prog 83 #[.agg #[.string a0_0, .string a0_1], .agg #[.string a1_0, .string a1_1]] w fun e w' => e = .returned (.bool r) ∧ Below w.heap.size w w' := by
 have hu91 := Try.underlying91
 have HB := Aside0.mk (Below.refl w.heap.size w)
 have H : (if a0_0.toList = a1_0.toList then (if a0_1.toList = a1_1.toList then (some true) else (some false)) else (some false)) = some r := h
 clear h
 by_cases c3 : a0_0.toList = a1_0.toList
 ·rw [if_pos c3] at H
  have c3b0 : (a0_0.toList == a1_0.toList) = true := beq_iff_eq.mpr c3
  have c3b1 : (a0_0.toList != a1_0.toList) = false := bne_eq_false_iff_eq.mpr c3
  clear c3
  by_cases c4 : a0_1.toList = a1_1.toList
  ·rw [if_pos c4] at H
   have c4b0 : (a0_1.toList == a1_1.toList) = true := beq_iff_eq.mpr c4
   have c4b1 : (a0_1.toList != a1_1.toList) = false := bne_eq_false_iff_eq.mpr c4
   clear c4
   obtain rfl := Option.some.inj H
   go_enter Try.func83, Try.ntmps83
   go_wp2_with (first | ((with_reducible refine gate_dst (N := 2) rfl ?_); refine box_event ?hg (N := 2) ?hd (cs := #[.string a0_0, .string a0_1]) (t := 91) ?hr ?_; (case hd => rfl); (case hg => rfl); (case hr => first | (go_simp; done) | (go_simp; rfl)); intro gb293 hg w5 hbox hb; have n0_ := Aside0.mk (below_step (by repeat (first | (with_reducible first | exact HB.out | apply ba_ | apply bn_ | apply b1_) | exact HB.out)) hb); have n1_ := Aside0.mk (hbox); have n2_ := Aside0.mk ((by rw [hg]; exact (below_size (by repeat (first | (with_reducible first | exact HB.out | apply ba_ | apply bn_ | apply b1_) | exact HB.out))) : w.heap.size ≤ gb293)); have n3_ := Aside0.mk ((by rw [hg]; exact (below_size (by repeat (first | (with_reducible first | exact HB.out | apply ba_ | apply bn_ | apply b1_) | exact HB.out))) : w.heap.size ≤ gb293)); clear HB; have HB := n0_; have BK293 := n1_; have GW293 := n2_; have GE293 := n3_; clear n0_ n1_ n2_ n3_; clear hb hbox hg) | ((with_reducible refine gate_dst (N := 3) rfl ?_); refine box_event ?hg (N := 3) ?hd (cs := #[.string a1_0, .string a1_1]) (t := 91) ?hr ?_; (case hd => rfl); (case hg => rfl); (case hr => first | (go_simp; done) | (go_simp; rfl)); intro gb294 hg w6 hbox hb; have n0_ := Aside0.mk (blk_below (g := gb293) (o := .cells #[.string a0_0, .string a0_1] 91 (0, 0)) (by (with_reducible repeat (first | refine dn_ ?_ _ | refine dd_ ?_ | refine da_ ?_ _)); exact BK293.out) hb); have n1_ := Aside0.mk (below_step (by repeat (first | (with_reducible first | exact HB.out | apply ba_ | apply bn_ | apply b1_ | refine below_set ?_ GE293.out) | exact HB.out)) hb); have n2_ := Aside0.mk (hbox); have n3_ := Aside0.mk ((by rw [hg]; exact (below_size (by repeat (first | (with_reducible first | exact HB.out | apply ba_ | apply bn_ | apply b1_ | refine below_set ?_ GE293.out) | exact HB.out))) : w.heap.size ≤ gb294)); have n4_ := Aside0.mk ((by rw [hg]; exact (below_size (by repeat (first | (with_reducible first | exact HB.out | apply ba_ | apply bn_ | apply b1_ | refine below_set ?_ GE293.out) | exact HB.out))) : w.heap.size ≤ gb294)); have n5_ := Aside0.mk ((by rw [hg]; exact Nat.ne_of_lt (blk_lt (g := gb293) (o := .cells #[.string a0_0, .string a0_1] 91 (0, 0)) (by (with_reducible repeat (first | refine dn_ ?_ _ | refine dd_ ?_ | refine da_ ?_ _)); exact BK293.out)) : gb293 ≠ gb294)); have n6_ := Aside0.mk ((by rw [hg]; exact Nat.ne_of_gt (blk_lt (g := gb293) (o := .cells #[.string a0_0, .string a0_1] 91 (0, 0)) (by (with_reducible repeat (first | refine dn_ ?_ _ | refine dd_ ?_ | refine da_ ?_ _)); exact BK293.out)) : gb294 ≠ gb293)); clear BK293; clear HB; have BK293 := n0_; have HB := n1_; have BK294 := n2_; have GW294 := n3_; have GE294 := n4_; have NB293_294 := n5_; have NB294_293 := n6_; clear n0_ n1_ n2_ n3_ n4_ n5_ n6_; clear hb hbox hg; have hnb7 := NB293_294.out; have hnc7 := NB294_293.out; have hcz8_0 : w6.cell? ⟨gb293, 0, none⟩ = some (.string a0_0) := (bc_ BK293.out 0).trans rfl; have hcz8_1 : w6.cell? ⟨gb293, 1, none⟩ = some (.string a0_1) := (bc_ BK293.out 1).trans rfl; have hcz9_0 : w6.cell? ⟨gb294, 0, none⟩ = some (.string a1_0) := (bc_ BK294.out 0).trans rfl; have hcz9_1 : w6.cell? ⟨gb294, 1, none⟩ = some (.string a1_1) := (bc_ BK294.out 1).trans rfl))
   go_ret
   exact ⟨by first | rfl | (simp [errW_none, errW_some] <;> rfl) | (simp [*, errW_none, errW_some] <;> rfl), by repeat (first | (with_reducible first | exact HB.out | apply ba_ | apply bn_ | apply b1_ | refine below_set ?_ GE293.out | refine below_set ?_ GE294.out) | exact HB.out)⟩
  ·rw [if_neg c4] at H
   have c4b0 : (a0_1.toList == a1_1.toList) = false := beq_eq_false_iff_ne.mpr c4
   have c4b1 : (a0_1.toList != a1_1.toList) = true := bne_iff_ne.mpr c4
   obtain rfl := Option.some.inj H
   go_enter Try.func83, Try.ntmps83
   go_wp2_with (first | ((with_reducible refine gate_dst (N := 2) rfl ?_); refine box_event ?hg (N := 2) ?hd (cs := #[.string a0_0, .string a0_1]) (t := 91) ?hr ?_; (case hd => rfl); (case hg => rfl); (case hr => first | (go_simp; done) | (go_simp; rfl)); intro gb293 hg w10 hbox hb; have n0_ := Aside0.mk (below_step (by repeat (first | (with_reducible first | exact HB.out | apply ba_ | apply bn_ | apply b1_) | exact HB.out)) hb); have n1_ := Aside0.mk (hbox); have n2_ := Aside0.mk ((by rw [hg]; exact (below_size (by repeat (first | (with_reducible first | exact HB.out | apply ba_ | apply bn_ | apply b1_) | exact HB.out))) : w.heap.size ≤ gb293)); have n3_ := Aside0.mk ((by rw [hg]; exact (below_size (by repeat (first | (with_reducible first | exact HB.out | apply ba_ | apply bn_ | apply b1_) | exact HB.out))) : w.heap.size ≤ gb293)); clear HB; have HB := n0_; have BK293 := n1_; have GW293 := n2_; have GE293 := n3_; clear n0_ n1_ n2_ n3_; clear hb hbox hg) | ((with_reducible refine gate_dst (N := 3) rfl ?_); refine box_event ?hg (N := 3) ?hd (cs := #[.string a1_0, .string a1_1]) (t := 91) ?hr ?_; (case hd => rfl); (case hg => rfl); (case hr => first | (go_simp; done) | (go_simp; rfl)); intro gb294 hg w11 hbox hb; have n0_ := Aside0.mk (blk_below (g := gb293) (o := .cells #[.string a0_0, .string a0_1] 91 (0, 0)) (by (with_reducible repeat (first | refine dn_ ?_ _ | refine dd_ ?_ | refine da_ ?_ _)); exact BK293.out) hb); have n1_ := Aside0.mk (below_step (by repeat (first | (with_reducible first | exact HB.out | apply ba_ | apply bn_ | apply b1_ | refine below_set ?_ GE293.out) | exact HB.out)) hb); have n2_ := Aside0.mk (hbox); have n3_ := Aside0.mk ((by rw [hg]; exact (below_size (by repeat (first | (with_reducible first | exact HB.out | apply ba_ | apply bn_ | apply b1_ | refine below_set ?_ GE293.out) | exact HB.out))) : w.heap.size ≤ gb294)); have n4_ := Aside0.mk ((by rw [hg]; exact (below_size (by repeat (first | (with_reducible first | exact HB.out | apply ba_ | apply bn_ | apply b1_ | refine below_set ?_ GE293.out) | exact HB.out))) : w.heap.size ≤ gb294)); have n5_ := Aside0.mk ((by rw [hg]; exact Nat.ne_of_lt (blk_lt (g := gb293) (o := .cells #[.string a0_0, .string a0_1] 91 (0, 0)) (by (with_reducible repeat (first | refine dn_ ?_ _ | refine dd_ ?_ | refine da_ ?_ _)); exact BK293.out)) : gb293 ≠ gb294)); have n6_ := Aside0.mk ((by rw [hg]; exact Nat.ne_of_gt (blk_lt (g := gb293) (o := .cells #[.string a0_0, .string a0_1] 91 (0, 0)) (by (with_reducible repeat (first | refine dn_ ?_ _ | refine dd_ ?_ | refine da_ ?_ _)); exact BK293.out)) : gb294 ≠ gb293)); clear BK293; clear HB; have BK293 := n0_; have HB := n1_; have BK294 := n2_; have GW294 := n3_; have GE294 := n4_; have NB293_294 := n5_; have NB294_293 := n6_; clear n0_ n1_ n2_ n3_ n4_ n5_ n6_; clear hb hbox hg; have hnb12 := NB293_294.out; have hnc12 := NB294_293.out; have hcz13_0 : w11.cell? ⟨gb293, 0, none⟩ = some (.string a0_0) := (bc_ BK293.out 0).trans rfl; have hcz13_1 : w11.cell? ⟨gb293, 1, none⟩ = some (.string a0_1) := (bc_ BK293.out 1).trans rfl; have hcz14_0 : w11.cell? ⟨gb294, 0, none⟩ = some (.string a1_0) := (bc_ BK294.out 0).trans rfl; have hcz14_1 : w11.cell? ⟨gb294, 1, none⟩ = some (.string a1_1) := (bc_ BK294.out 1).trans rfl))
   go_ret
   exact ⟨by first | rfl | (simp [errW_none, errW_some] <;> rfl) | (simp [*, errW_none, errW_some] <;> rfl), by repeat (first | (with_reducible first | exact HB.out | apply ba_ | apply bn_ | apply b1_ | refine below_set ?_ GE293.out | refine below_set ?_ GE294.out) | exact HB.out)⟩
 ·rw [if_neg c3] at H
  have c3b0 : (a0_0.toList == a1_0.toList) = false := beq_eq_false_iff_ne.mpr c3
  have c3b1 : (a0_0.toList != a1_0.toList) = true := bne_iff_ne.mpr c3
  obtain rfl := Option.some.inj H
  go_enter Try.func83, Try.ntmps83
  go_wp2_with (first | ((with_reducible refine gate_dst (N := 2) rfl ?_); refine box_event ?hg (N := 2) ?hd (cs := #[.string a0_0, .string a0_1]) (t := 91) ?hr ?_; (case hd => rfl); (case hg => rfl); (case hr => first | (go_simp; done) | (go_simp; rfl)); intro gb293 hg w15 hbox hb; have n0_ := Aside0.mk (below_step (by repeat (first | (with_reducible first | exact HB.out | apply ba_ | apply bn_ | apply b1_) | exact HB.out)) hb); have n1_ := Aside0.mk (hbox); have n2_ := Aside0.mk ((by rw [hg]; exact (below_size (by repeat (first | (with_reducible first | exact HB.out | apply ba_ | apply bn_ | apply b1_) | exact HB.out))) : w.heap.size ≤ gb293)); have n3_ := Aside0.mk ((by rw [hg]; exact (below_size (by repeat (first | (with_reducible first | exact HB.out | apply ba_ | apply bn_ | apply b1_) | exact HB.out))) : w.heap.size ≤ gb293)); clear HB; have HB := n0_; have BK293 := n1_; have GW293 := n2_; have GE293 := n3_; clear n0_ n1_ n2_ n3_; clear hb hbox hg) | ((with_reducible refine gate_dst (N := 3) rfl ?_); refine box_event ?hg (N := 3) ?hd (cs := #[.string a1_0, .string a1_1]) (t := 91) ?hr ?_; (case hd => rfl); (case hg => rfl); (case hr => first | (go_simp; done) | (go_simp; rfl)); intro gb294 hg w16 hbox hb; have n0_ := Aside0.mk (blk_below (g := gb293) (o := .cells #[.string a0_0, .string a0_1] 91 (0, 0)) (by (with_reducible repeat (first | refine dn_ ?_ _ | refine dd_ ?_ | refine da_ ?_ _)); exact BK293.out) hb); have n1_ := Aside0.mk (below_step (by repeat (first | (with_reducible first | exact HB.out | apply ba_ | apply bn_ | apply b1_ | refine below_set ?_ GE293.out) | exact HB.out)) hb); have n2_ := Aside0.mk (hbox); have n3_ := Aside0.mk ((by rw [hg]; exact (below_size (by repeat (first | (with_reducible first | exact HB.out | apply ba_ | apply bn_ | apply b1_ | refine below_set ?_ GE293.out) | exact HB.out))) : w.heap.size ≤ gb294)); have n4_ := Aside0.mk ((by rw [hg]; exact (below_size (by repeat (first | (with_reducible first | exact HB.out | apply ba_ | apply bn_ | apply b1_ | refine below_set ?_ GE293.out) | exact HB.out))) : w.heap.size ≤ gb294)); have n5_ := Aside0.mk ((by rw [hg]; exact Nat.ne_of_lt (blk_lt (g := gb293) (o := .cells #[.string a0_0, .string a0_1] 91 (0, 0)) (by (with_reducible repeat (first | refine dn_ ?_ _ | refine dd_ ?_ | refine da_ ?_ _)); exact BK293.out)) : gb293 ≠ gb294)); have n6_ := Aside0.mk ((by rw [hg]; exact Nat.ne_of_gt (blk_lt (g := gb293) (o := .cells #[.string a0_0, .string a0_1] 91 (0, 0)) (by (with_reducible repeat (first | refine dn_ ?_ _ | refine dd_ ?_ | refine da_ ?_ _)); exact BK293.out)) : gb294 ≠ gb293)); clear BK293; clear HB; have BK293 := n0_; have HB := n1_; have BK294 := n2_; have GW294 := n3_; have GE294 := n4_; have NB293_294 := n5_; have NB294_293 := n6_; clear n0_ n1_ n2_ n3_ n4_ n5_ n6_; clear hb hbox hg; have hnb17 := NB293_294.out; have hnc17 := NB294_293.out; have hcz18_0 : w16.cell? ⟨gb293, 0, none⟩ = some (.string a0_0) := (bc_ BK293.out 0).trans rfl; have hcz18_1 : w16.cell? ⟨gb293, 1, none⟩ = some (.string a0_1) := (bc_ BK293.out 1).trans rfl; have hcz19_0 : w16.cell? ⟨gb294, 0, none⟩ = some (.string a1_0) := (bc_ BK294.out 0).trans rfl; have hcz19_1 : w16.cell? ⟨gb294, 1, none⟩ = some (.string a1_1) := (bc_ BK294.out 1).trans rfl))
  go_ret
  exact ⟨by first | rfl | (simp [errW_none, errW_some] <;> rfl) | (simp [*, errW_none, errW_some] <;> rfl), by repeat (first | (with_reducible first | exact HB.out | apply ba_ | apply bn_ | apply b1_ | refine below_set ?_ GE293.out | refine below_set ?_ GE294.out) | exact HB.out)⟩
end Go.Proofs.Ytbgedpicfllclaa.PFnExactPageOk
