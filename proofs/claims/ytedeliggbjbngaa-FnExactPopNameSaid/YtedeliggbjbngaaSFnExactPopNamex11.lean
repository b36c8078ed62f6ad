-- Written by this session's program wip/slim.py: the print's texts (with contracts of our own), only what this row needs, shortened. Lean checks it.
import Derived.Test.YtedeliggbjbngaaSFnExactPopNamex0
import Derived.Test.YtedeliggbjbngaaSFnExactPopNamex2
import Derived.Test.YtedeliggbjbngaaSFnExactPopNamex3
import Derived.Test.YtedeliggbjbngaaSFnExactPopNamex6
import Derived.Test.YtedeliggbjbngaaSFnExactPopNamex7
import Derived.Test.YtedeliggbjbngaaSFnExactPopNamex9
import Derived.Test.YtedeliggbjbngaaSFnExactPopNamex10
namespace Go.Proofs.Ytedeliggbjbngaa.PFnExactPopName
open Go.RowKit Go.Proofs.YtedeliggbjbngaaW.PrintWords Go.Proofs.YtedeliggbjbngaaW.PrintLast Go.Proofs.YtedeliggbjbngaaW.PrintMore
attribute [local go_sem] max2_int min2_int max_two min_two max_three min_three max_four min_four
set_option linter.unusedVariables false
set_option linter.unusedSimpArgs false
theorem inRange_len (i : Int) (n : Nat) (h : n ≤ 4611686018427387903) : impl_inRange.f i 0 (wrap64 ((n : Int) - 1)) = some (decide (0 ≤ i ∧ i < (n : Int))) := by
 rw [show wrap64 ((n : Int) - 1) = (n : Int) - 1 by unfold wrap64; omega]
 unfold impl_inRange.f
 by_cases a : i ≥ 0
 ·rw [if_pos a]
  congr 1
  exact decide_eq_decide.2 ⟨fun x => ⟨a, by omega⟩, fun x => by omega⟩
 ·rw [if_neg a, decide_eq_false (fun h => a h.1)]
theorem isname_pred (B : Nat) (s u : ByteArray) (w : World) (hB : w.cell? ⟨B, 0, none⟩ = some (.string u)) :
  Calls Try.prog 67 #[.string s, .pointer (some ⟨B, 0, none⟩)] w fun e w' => e = .returned (.bool (s.toList == u.toList)) ∧ Drawn0 w w' := by
 go_enter Try.func67, Try.ntmps67
 go_wp2
 all_goals (go_ret; exact ⟨by first | rfl | (simp; done), by repeat (first | exact Drawn0.refl _ | apply Drawn0.step)⟩)
theorem isname_made (u : ByteArray) (w : World) :
  Calls Try.prog 54 #[.string u] w fun e w' => e = .returned (.func (.func 67) #[] #[.pointer (some ⟨w.heap.size, 0, none⟩)]) ∧ w' = w.alloc (.cells #[.string u] 9) := by
 have hmf : ∀ (fn : Fn) (first cap : Array Value) (w : World), (Instr.makeFunc fn first cap).run Try.prog w = .ok (.func fn first cap) w := fun _ _ _ _ => rfl
 go_enter Try.func54, Try.ntmps54
 go_wp2
 go_ret
 exact ⟨rfl, rfl⟩
def nameAt (l : List (S45)) (o : List Int) (k : Int) : ByteArray := if 0 ≤ rd o k ∧ rd o k < (l.length : Int) then (rd_T45 l (rd o k)).f2 else (⟨#[]⟩ : ByteArray)
set_option maxHeartbeats 4000000 in
set_option maxRecDepth 100000 in
theorem page_nameOf (g : Nat) (A0 : Option Addr) (c0 : Nat) (l : List (S45)) (A1 : Option Addr) (c1 : Nat) (o : List Int) (A2 : Option Addr) (c2 : Nat) (f : List Int) (a b i : Int) (w : World) (hlen : l.length ≤ 4611686018427387903) (hi0 : 0 ≤ i) (hi1 : i < (o.length : Int)) (hP : IsPg w g A0 c0 l A1 c1 o A2 c2 f a b) (hr : Kd.C k45 w A0 l.length l) (hro : Kd.C (Kd.int .i64) w A1 o.length o) :
  Calls Try.prog 62 #[.pointer (some ⟨g, 0, none⟩), .int .i64 i] w fun e w' => e = .returned (.string (nameAt l o i)) ∧ Drawn0 w w' := by
 have hcz0 := hP.x0
 have hcz1 := hP.x1
 obtain ⟨ad5, e5, hx5⟩ := Kd.at_int hro i hi0 hi1
 cases e5
 have hi0b := eq_true hi0
 have hi1b := eq_true hi1
 by_cases c : 0 ≤ rd o i ∧ rd o i < (l.length : Int)
 ·have A3 := Aside0.mk (show impl_inRange.f (rd o i) 0 (wrap64 ((l.length : Int) - 1)) = some true by rw [inRange_len _ l.length hlen, decide_eq_true c])
  have HT := Aside0.mk (show nameAt l o i = (rd_T45 l (rd o i)).f2 from if_pos c)
  obtain ⟨p288, q288⟩ := c
  obtain ⟨ad288, A288_3, c288_3, A288_6, c288_6, e288, hx288_0, hx288_1, hx288_2, hx288_3, hx288_4, hx288_5, hx288_6, hl288_3, hi288_3, hl288_6, hi288_6⟩ := at_T45 hr (rd o i) p288 q288
  cases e288
  clear hi288_3 hi288_6 hl288_3 hl288_6 hP hr hro hlen hx288_0 hx288_1 hx288_3 hx288_4 hx288_5 hx288_6 hi0 hi1
  replace p288 := eq_true p288
  replace q288 := eq_true q288
  go_enter Try.func62, Try.ntmps62
  go_wp2
  go_quiet (first | (go_at_call 61; (try simp only [i64_w]); refine (impl_inRange.calls (rd o i) 0 (wrap64 ((l.length : Int) - 1)) true _ A3.out).mono ?_; rintro e w' ⟨rfl, ⟨nd, rfl⟩⟩; (try first | exact ⟨rfl, _, rfl⟩ | exact ⟨rfl, _, World.drewN_drewN _ _ _⟩ | exact ⟨rfl, _, Eq.trans (World.drewN_drewN _ _ _) (congrArg (World.drewN _) (Nat.add_assoc _ _ _))⟩ | exact ⟨_, rfl, _, rfl⟩)))
  go_wp2
  go_quiet (fail)
  go_wp2
  go_ret
  exact ⟨by rw [HT.out]; first | rfl | (simp; done), by repeat (first | exact Drawn0.refl _ | apply Drawn0.step)⟩
 ·have A3 := Aside0.mk (show impl_inRange.f (rd o i) 0 (wrap64 ((l.length : Int) - 1)) = some false by rw [inRange_len _ l.length hlen, decide_eq_false c])
  have HT := Aside0.mk (show nameAt l o i = (⟨#[]⟩ : ByteArray) from if_neg c)
  clear hP hr hro hlen c hi0 hi1
  go_enter Try.func62, Try.ntmps62
  go_wp2
  go_quiet (first | (go_at_call 61; (try simp only [i64_w]); refine (impl_inRange.calls (rd o i) 0 (wrap64 ((l.length : Int) - 1)) false _ A3.out).mono ?_; rintro e w' ⟨rfl, ⟨nd, rfl⟩⟩; (try first | exact ⟨rfl, _, rfl⟩ | exact ⟨rfl, _, World.drewN_drewN _ _ _⟩ | exact ⟨rfl, _, Eq.trans (World.drewN_drewN _ _ _) (congrArg (World.drewN _) (Nat.add_assoc _ _ _))⟩ | exact ⟨_, rfl, _, rfl⟩)))
  go_wp2
  go_ret
  exact ⟨by rw [HT.out]; first | rfl | (simp; done), by repeat (first | exact Drawn0.refl _ | apply Drawn0.step)⟩
def lastName (l : List (S45)) (o : List Int) (u : ByteArray) : Nat → Int
 | 0 => -1
 | n + 1 => if ((nameAt l o (n : Int)).toList == u.toList) = true then (n : Int) else lastName l o u n
set_option maxHeartbeats 4000000 in
set_option maxRecDepth 100000 in
theorem page_innermost (g B : Nat) (A0 : Option Addr) (c0 : Nat) (l : List (S45)) (A1 : Option Addr) (c1 : Nat) (o : List Int) (A2 : Option Addr) (c2 : Nat) (f : List Int) (a b : Int) (u : ByteArray) (w : World) (hlen : l.length ≤ 4611686018427387903) (holen : o.length ≤ 4611686018427387903) (hP : IsPg w g A0 c0 l A1 c1 o A2 c2 f a b) (hr : Kd.C k45 w A0 l.length l) (hro : Kd.C (Kd.int .i64) w A1 o.length o) (hB : w.cell? ⟨B, 0, none⟩ = some (.string u)) :
  Calls Try.prog 53 #[.pointer (some ⟨g, 0, none⟩), .func (.func 67) #[] #[.pointer (some ⟨B, 0, none⟩)]] w fun e w' => e = .returned (.int .i64 (lastName l o u o.length)) ∧ Drawn0 w w' := by
 have HLEN := Aside0.mk hlen
 have HOL := Aside0.mk holen
 have HP := Aside0.mk hP
 have HR := Aside0.mk hr
 have HRO := Aside0.mk hro
 have HBC := Aside0.mk hB
 have hcz1 := hP.x1
 have HW := Aside0.mk (show wrap64 ((o.length : Int) - 1) = (o.length : Int) - 1 by unfold wrap64; omega)
 clear hlen holen hP hr hro hB
 go_enter Try.func53, Try.ntmps53
 go_wp2
 clear hcz1
 go_loopg [5] o.length (fun gg v5 w' => ∃ (n : Nat), v5 = .int .i64 ((n : Int) - 1) ∧ Aside0 (n = gg ∧ n ≤ o.length) ∧ Aside0 (lastName l o u n = lastName l o u o.length) ∧ Drawn0 w w')
 case atStart => exact ⟨o.length, by rw [HW.out], ⟨rfl, Nat.le_refl _⟩, ⟨rfl⟩, by repeat (first | exact Drawn0.refl _ | apply Drawn0.step)⟩
 case round =>
  obtain ⟨n, rfl, HN, HL, ⟨m1, rfl⟩⟩ := hrel
  cases n with
  | zero =>
   have d0 : decide ((((0 : Nat) : Int) - 1) ≥ 0) = false := by decide
   have d1 : decide (0 ≤ (((0 : Nat) : Int) - 1)) = false := by decide
   go_wp2
   go_ret
   exact ⟨by rw [← HL.out]; rfl, by repeat (first | exact Drawn0.refl _ | apply Drawn0.step)⟩
  | succ n =>
   have hnn := HN.out
   rw [show ((n + 1 : Nat) : Int) - 1 = (n : Int) by omega]
   have d0 : decide ((n : Int) ≥ 0) = true := by simp
   have d1 : decide (0 ≤ (n : Int)) = true := by simp
   have HC := Aside0.mk (page_nameOf g A0 c0 l A1 c1 o A2 c2 f a b (n : Int) (w.drewN m1) HLEN.out (by omega) (by omega) (IsPg.drewN HP.out m1) (cn_ HR.out m1) (cn_ HRO.out m1))
   have HW2 := Aside0.mk (show wrap64 ((n : Int) - 1) = (n : Int) - 1 by have := HOL.out; unfold wrap64; omega)
   generalize hq : nameAt l o (n : Int) = s at HC
   cases ht : (s.toList == u.toList) with
   | true =>
    have HE := Aside0.mk (show lastName l o u o.length = (n : Int) by rw [← HL.out]; show (if ((nameAt l o (n : Int)).toList == u.toList) = true then (n : Int) else lastName l o u n) = (n : Int); rw [hq, ht]; rfl)
    have HT := Aside0.mk ht
    clear ht hq hnn
    go_wp2_with (first | (go_at_call 62; refine HC.out.mono ?_; rintro e w' ⟨rfl, ⟨nd, rfl⟩⟩; have HI := Aside0.mk (isname_pred B s u (w.drewN (m1 + nd)) HBC.out); rw [HT.out] at HI) | (go_at_call 67; refine HI.out.mono ?_; rintro e w' ⟨rfl, ⟨nd2, rfl⟩⟩))
    go_ret
    exact ⟨by rw [HE.out]; first | rfl | (simp; done), by repeat (first | exact Drawn0.refl _ | apply Drawn0.step)⟩
   | false =>
    have HE := Aside0.mk (show lastName l o u n = lastName l o u o.length by rw [← HL.out]; show lastName l o u n = (if ((nameAt l o (n : Int)).toList == u.toList) = true then (n : Int) else lastName l o u n); rw [hq, ht]; rfl)
    have HT := Aside0.mk ht
    clear ht hq hnn
    go_wp2_with (first | (go_at_call 62; refine HC.out.mono ?_; rintro e w' ⟨rfl, ⟨nd, rfl⟩⟩; have HI := Aside0.mk (isname_pred B s u (w.drewN (m1 + nd)) HBC.out); rw [HT.out] at HI) | (go_at_call 67; refine HI.out.mono ?_; rintro e w' ⟨rfl, ⟨nd2, rfl⟩⟩))
    go_roundg n
    case measure => have := HN.out; omega
    case rel => exact ⟨n, by rw [HW2.out], ⟨rfl, by have := HN.out; omega⟩, HE, by repeat (first | exact Drawn0.refl _ | apply Drawn0.step)⟩
theorem own_len (A : Option Addr) (n m c : Nat) : (Value.slice A n c : Value).ownBlock = (Value.slice A m c : Value).ownBlock := by cases A <;> rfl
theorem pg_put5 {W : World} {g t : Nat} {z0 z1 z2 z3 z4 v0 v1 v2 v3 v4 : Value} (h : W.heap[g]? = some (.cells #[z0, z1, z2, z3, z4] t (0, 0))) : (((((W.setCell ⟨g, 0, none⟩ v0).setCell ⟨g, 1, none⟩ v1).setCell ⟨g, 2, none⟩ v2).setCell ⟨g, 3, none⟩ v3).setCell ⟨g, 4, none⟩ v4).heap[g]? = some (.cells #[v0, v1, v2, v3, v4] t (0, 0)) := blk_put (blk_put (blk_put (blk_put (blk_put h 0 _ rfl) 1 _ rfl) 2 _ rfl) 3 _ rfl) 4 _ rfl
section
variable {α : Type} {d : Kd α} {e base g : Nat} {W : World} {ok ok' : Nat → Prop} {v v0 v1 v2 v3 v4 : Value} {xs : List α}
theorem Kd.R_far5 (h : d.R e W base ok v xs) (hok : ∀ k, ok k → k ≠ g) (hm : ∀ k, ok k → ok' k) : d.R e (((((W.setCell ⟨g, 0, none⟩ v0).setCell ⟨g, 1, none⟩ v1).setCell ⟨g, 2, none⟩ v2).setCell ⟨g, 3, none⟩ v3).setCell ⟨g, 4, none⟩ v4) base ok' v xs := Kd.R_mono (Kd.R_far (p := ⟨g, 4, none⟩) (Kd.R_far (p := ⟨g, 3, none⟩) (Kd.R_far (p := ⟨g, 2, none⟩) (Kd.R_far (p := ⟨g, 1, none⟩) (Kd.R_far (p := ⟨g, 0, none⟩) h hok _) hok _) hok _) hok _) hok _) hm
theorem Kd.S_far5 (h : Kd.S d e W base ok v xs) (hok : ∀ k, ok k → k ≠ g) (hm : ∀ k, ok k → ok' k) : Kd.S d e (((((W.setCell ⟨g, 0, none⟩ v0).setCell ⟨g, 1, none⟩ v1).setCell ⟨g, 2, none⟩ v2).setCell ⟨g, 3, none⟩ v3).setCell ⟨g, 4, none⟩ v4) base ok' v xs := Kd.S_mono (Kd.S_far (p := ⟨g, 4, none⟩) (Kd.S_far (p := ⟨g, 3, none⟩) (Kd.S_far (p := ⟨g, 2, none⟩) (Kd.S_far (p := ⟨g, 1, none⟩) (Kd.S_far (p := ⟨g, 0, none⟩) h hok _) hok _) hok _) hok _) hok _) hm
theorem below_put5 {w : World} (h : Below base w W) (hg : base ≤ g) : Below base w (((((W.setCell ⟨g, 0, none⟩ v0).setCell ⟨g, 1, none⟩ v1).setCell ⟨g, 2, none⟩ v2).setCell ⟨g, 3, none⟩ v3).setCell ⟨g, 4, none⟩ v4) := ((((h.setCell (p := ⟨g, 0, none⟩) hg _).setCell (p := ⟨g, 1, none⟩) hg _).setCell (p := ⟨g, 2, none⟩) hg _).setCell (p := ⟨g, 3, none⟩) hg _).setCell (p := ⟨g, 4, none⟩) hg _
end
theorem kept_set1 {w W : World} {g o : Nat} {u : Value} (h : Kept w W (fun k => k = g)) : Kept w (W.setCell ⟨g, o, none⟩ u) (fun k => k = g) := ⟨by simpa using h.1, fun i hi hn => (Below.heap_setCell W ⟨g, o, none⟩ u i (fun e => hn e)).trans (h.2 i hi hn)⟩
theorem kept_drewN {w W : World} {S : Nat → Prop} (h : Kept w W S) (n : Nat) : Kept w (W.drewN n) S := h
set_option maxHeartbeats 4000000 in
set_option maxRecDepth 100000 in
theorem page_lastMark (g : Nat) (A0 : Option Addr) (c0 : Nat) (l : List (S45)) (A1 : Option Addr) (c1 : Nat) (o : List Int) (A2 : Option Addr) (c2 : Nat) (f : List Int) (a b : Int) (w : World) (hfl : f.length ≤ 4611686018427387903) (hP : IsPg w g A0 c0 l A1 c1 o A2 c2 f a b) (hrf : Kd.C (Kd.int .i64) w A2 f.length f) :
  Calls Try.prog 63 #[.pointer (some ⟨g, 0, none⟩)] w fun e w' => e = .returned (.int .i64 (lastMk f f.length)) ∧ Drawn0 w w' := by
 have HL := Aside0.mk hfl
 have HP := Aside0.mk hP
 have HR := Aside0.mk hrf
 have hx2 := hP.x2
 have HW := Aside0.mk (show wrap64 ((f.length : Int) - 1) = (f.length : Int) - 1 by unfold wrap64; omega)
 clear hfl hP hrf
 go_enter Try.func63, Try.ntmps63
 go_wp2
 go_loopg [3] f.length (fun gg v3 w' => ∃ (n : Nat), v3 = .int .i64 ((n : Int) - 1) ∧ Aside0 (n = gg ∧ n ≤ f.length) ∧ Aside0 (lastMk f n = lastMk f f.length) ∧ Drawn0 w w')
 case atStart => exact ⟨f.length, by rw [HW.out], ⟨rfl, Nat.le_refl _⟩, ⟨rfl⟩, by repeat (first | exact Drawn0.refl _ | apply Drawn0.step)⟩
 case round =>
  obtain ⟨n, rfl, HN, HLM, ⟨m1, rfl⟩⟩ := hrel
  cases n with
  | zero =>
   have d0 : decide ((((0 : Nat) : Int) - 1) ≥ 0) = false := by decide
   have d1 : decide (0 ≤ (((0 : Nat) : Int) - 1)) = false := by decide
   go_wp2
   go_ret
   exact ⟨by rw [← HLM.out]; rfl, by repeat (first | exact Drawn0.refl _ | apply Drawn0.step)⟩
  | succ n =>
   have hnn := HN.out
   rw [show ((n + 1 : Nat) : Int) - 1 = (n : Int) by omega]
   have d0 : decide ((n : Int) ≥ 0) = true := by simp
   have d1 : decide (0 ≤ (n : Int)) = true := by simp
   obtain ⟨ad, ea, hx⟩ := Kd.at_int HR.out (n : Int) (by omega) (by omega)
   have i0 : ((0 : Int) ≤ (n : Int)) = True := eq_true (by omega)
   have i1 : ((n : Int) < (f.length : Int)) = True := eq_true (by omega)
   have HW2 := Aside0.mk (show wrap64 ((n : Int) - 1) = (n : Int) - 1 by have := HL.out; unfold wrap64; omega)
   have hx2d : ∀ k, (w.drewN k).cell? ⟨g, 2, none⟩ = some (.slice A2 f.length c2) := fun _ => hx2
   rw [Int.toNat_natCast] at hx
   have hxd : ∀ k, (w.drewN k).cell? (ad.add n) = some (.int .i64 (rd f (n : Int))) := fun _ => hx
   subst ea
   by_cases ce : rd f (n : Int) = -1
   ·have HE := Aside0.mk (show lastMk f f.length = (n : Int) by rw [← HLM.out]; exact if_pos ce)
    have e0 : (rd f (n : Int) == -1) = true := beq_iff_eq.mpr ce
    clear ce hnn
    go_wp2
    go_ret
    exact ⟨by rw [HE.out]; first | rfl | (simp; done), by repeat (first | exact Drawn0.refl _ | apply Drawn0.step)⟩
   ·have HE := Aside0.mk (show lastMk f n = lastMk f f.length by rw [← HLM.out]; exact (if_neg ce).symm)
    have e0 : (rd f (n : Int) == -1) = false := beq_eq_false_iff_ne.mpr ce
    clear ce hnn
    go_wp2
    go_roundg n
    case measure => have := HN.out; omega
    case rel => exact ⟨n, by rw [HW2.out], ⟨rfl, by have := HN.out; omega⟩, HE, by repeat (first | exact Drawn0.refl _ | apply Drawn0.step)⟩
def cutF (u : ByteArray) (f : List Int) : List Int := if u.toList = ([116, 100] : List UInt8) ∨ u.toList = ([116, 104] : List UInt8) then f.take (if lastMk f f.length < 0 then (0 : Int) else lastMk f f.length).toNat else f
def popL (l : List (S45)) (o : List Int) (k : Nat) : Nat → List Int → List Int
 | 0, f => f
 | n + 1, f => if k < n + 1 then popL l o k n (cutF (nameAt l (o.take (n + 1)) (n : Int)) f) else f
def popO (o : List Int) (k : Int) : List Int := if 0 ≤ k ∧ k < (o.length : Int) then o.take k.toNat else o
def popF (l : List (S45)) (o f : List Int) (k : Int) : List Int := if 0 ≤ k ∧ k < (o.length : Int) then popL l o k.toNat o.length f else f
theorem popL_end (l : List (S45)) (o : List Int) (k : Nat) (f : List Int) : popL l o k k f = f := by
 cases k with
 | zero => rfl
 | succ n => exact if_neg (Nat.lt_irrefl _)
set_option maxHeartbeats 8000000 in
set_option maxRecDepth 100000 in
theorem page_popTo (g : Nat) (A0 : Option Addr) (c0 : Nat) (l : List (S45)) (A1 : Option Addr) (c1 : Nat) (o : List Int) (A2 : Option Addr) (c2 : Nat) (f : List Int) (a b : Int) (ku : Int) (okS okO okF : Nat → Prop) (w0 w : World) (hp : IsPg w g A0 c0 l A1 c1 o A2 c2 f a b) (hg : w0.heap.size ≤ g) (hB : Below w0.heap.size w0 w) (hs : Kd.S k45 45 w w0.heap.size okS (.slice A0 l.length c0) l) (ho : Kd.R (Kd.int .i64) 3 w w0.heap.size okO (.slice A1 o.length c1) o) (hf : Kd.R (Kd.int .i64) 3 w w0.heap.size okF (.slice A2 f.length c2) f) (hkS : ∀ k, okS k → k ≠ g) (hkO : ∀ k, okO k → k ≠ g) (hkF : ∀ k, okF k → k ≠ g) (hll : l.length ≤ 4611686018427387903) (hol : o.length ≤ 4611686018427387903) (hfl : f.length ≤ 4611686018427387903) :
  Calls Try.prog 44 #[.pointer (some ⟨g, 0, none⟩), .int .i64 ku] w fun e w' => (∃ v, e = .returned v) ∧ IsPg w' g A0 c0 l A1 c1 (popO o ku) A2 c2 (popF l o f ku) a b ∧ Kd.S k45 45 w' w0.heap.size okS (.slice A0 l.length c0) l ∧ Kd.R (Kd.int .i64) 3 w' w0.heap.size okO (.slice A1 (popO o ku).length c1) (popO o ku) ∧ Kd.R (Kd.int .i64) 3 w' w0.heap.size okF (.slice A2 (popF l o f ku).length c2) (popF l o f ku) ∧ Below w0.heap.size w0 w' ∧ Kept w w' (fun k => k = g) := by
 have hx1 := hp.x1
 have HG := Aside0.mk hg
 have KS := Aside0.mk hkS
 have KO := Aside0.mk hkO
 have KF := Aside0.mk hkF
 have LLEN := Aside0.mk hll
 have OLEN := Aside0.mk hol
 have HP := Aside0.mk hp
 have HB := Aside0.mk hB
 have HS := Aside0.mk hs
 have HO := Aside0.mk ho
 have HF := Aside0.mk hf
 have FL0 := Aside0.mk hfl
 clear hg hkS hkO hkF hll hp hB hs ho hf hfl
 by_cases c : 0 ≤ ku ∧ ku < (o.length : Int)
 rotate_left
 ·have A3 := Aside0.mk (show impl_inRange.f ku 0 (wrap64 ((o.length : Int) - 1)) = some false by rw [inRange_len _ _ hol, decide_eq_false c])
  rw [show popO o ku = o from if_neg c, show popF l o f ku = f from if_neg c]
  clear c hol
  go_enter Try.func44, Try.ntmps44
  go_wp2_with (go_at_call 61; (try simp only [i64_w]); refine (impl_inRange.calls ku 0 (wrap64 ((o.length : Int) - 1)) false _ A3.out).mono ?_; rintro e w' ⟨rfl, ⟨nd, rfl⟩⟩)
  ((try simp only [Exit.inBlock, Exit.then]); first | refine bodyPost_end (results_none rfl _ _ _) rfl ?_ | refine bodyPost_ret (results_none rfl _ _ _) rfl ?_)
  exact ⟨⟨_, rfl⟩, IsPg.drewN HP.out nd, Kd.S_drewN HS.out nd, Kd.R_drewN HO.out nd, Kd.R_drewN HF.out nd, bn_ HB.out nd, kept_drewN (Kept.refl w _) nd⟩
 have A3 := Aside0.mk (show impl_inRange.f ku 0 (wrap64 ((o.length : Int) - 1)) = some true by rw [inRange_len _ _ hol, decide_eq_true c])
 rw [show popO o ku = o.take ku.toNat from if_pos c, show popF l o f ku = popL l o ku.toNat o.length f from if_pos c]
 have CC := Aside0.mk c
 clear hol c
 go_enter Try.func44, Try.ntmps44
 go_wp2_with (go_at_call 61; (try simp only [i64_w]); refine (impl_inRange.calls ku 0 (wrap64 ((o.length : Int) - 1)) true _ A3.out).mono ?_; rintro e w' ⟨rfl, ⟨nd0, rfl⟩⟩)
 clear hx1
 go_loopg [] o.length (fun gg w' => ∃ (n : Nat) (f' : List Int), Aside0 (n = gg ∧ n ≤ o.length ∧ ku.toNat ≤ n) ∧ Aside0 (IsPg w' g A0 c0 l A1 c1 (o.take n) A2 c2 f' a b) ∧ Aside0 (popL l o ku.toNat n f' = popL l o ku.toNat o.length f ∧ f'.length ≤ 4611686018427387903) ∧ Aside0 (Kd.S k45 45 w' w0.heap.size okS (.slice A0 l.length c0) l) ∧ Aside0 (Kd.R (Kd.int .i64) 3 w' w0.heap.size okO (.slice A1 (o.take n).length c1) (o.take n)) ∧ Aside0 (Kd.R (Kd.int .i64) 3 w' w0.heap.size okF (.slice A2 f'.length c2) f') ∧ Aside0 (Below w0.heap.size w0 w') ∧ Aside0 (Kept w w' (fun k => k = g)))
 case atStart => exact ⟨o.length, f, ⟨rfl, Nat.le_refl _, by have := CC.out; omega⟩, ⟨by rw [List.take_length]; exact IsPg.drewN HP.out nd0⟩, ⟨rfl, FL0.out⟩, ⟨Kd.S_drewN HS.out nd0⟩, ⟨by rw [List.take_length]; exact Kd.R_drewN HO.out nd0⟩, ⟨Kd.R_drewN HF.out nd0⟩, ⟨bn_ HB.out nd0⟩, ⟨kept_drewN (Kept.refl w _) nd0⟩⟩
 case round =>
  clear HP HS HO HF HB
  obtain ⟨n, f', HN, HP, HPF, HS, HO, HF, HB, HK⟩ := hrel
  have hn := HN.out
  have hcc := CC.out
  by_cases cn : n = ku.toNat
  ·subst cn
   have HPE := Aside0.mk ((popL_end l o ku.toNat f').symm.trans HPF.out.1)
   obtain ⟨p, hp⟩ : ∃ p, o.take ku.toNat = p := ⟨_, rfl⟩
   have hlen : p.length = ku.toNat := by rw [← hp, List.length_take]; omega
   rw [hp] at HP HO
   have HPP := Aside0.mk hp
   have hx1 := IsPg.x1 HP.out
   have d0 : decide ((p.length : Int) > ku) = false := decide_eq_false (by rw [hlen]; omega)
   have d1 : decide (ku < (p.length : Int)) = false := decide_eq_false (by rw [hlen]; omega)
   clear hn hcc hlen hp
   go_wp2
   ((try simp only [Exit.inBlock, Exit.then]); first | refine bodyPost_end (results_none rfl _ _ _) rfl ?_ | refine bodyPost_ret (results_none rfl _ _ _) rfl ?_)
   refine ⟨⟨_, rfl⟩, ?_, HS.out, ?_, ?_, HB.out, HK.out⟩
   ·rw [← HPE.out, HPP.out]; exact HP.out
   ·rw [HPP.out]; exact HO.out
   ·rw [← HPE.out]; exact HF.out
  obtain ⟨m, rfl⟩ : ∃ m, n = m + 1 := ⟨n - 1, by omega⟩
  have hlen : (o.take (m + 1)).length = m + 1 := by rw [List.length_take]; omega
  have HTK := Aside0.mk (show (o.take (m + 1)).take m = o.take m by rw [List.take_take, Nat.min_eq_left (Nat.le_succ m)])
  have HPQ := Aside0.mk (show popL l o ku.toNat m (cutF (nameAt l (o.take (m + 1)) (m : Int)) f') = popL l o ku.toNat o.length f by rw [← HPF.out.1]; exact (if_pos (by omega)).symm)
  have FLEN := Aside0.mk HPF.out.2
  clear HPF
  generalize o.take (m + 1) = p at HP HO hlen HTK HPQ
  have hx1 := IsPg.x1 HP.out
  have d0 : decide ((p.length : Int) > ku) = true := decide_eq_true (by omega)
  have d1 : decide (ku < (p.length : Int)) = true := decide_eq_true (by omega)
  have hw1 : wrap64 ((p.length : Int) - 1) = (m : Int) := by have := OLEN.out; rw [hlen]; unfold wrap64; omega
  have HC := Aside0.mk (page_nameOf g A0 c0 l A1 c1 p A2 c2 f' a b (m : Int) wr LLEN.out (by omega) (by omega) HP.out (Kd.S_reads' HS.out).2.2 (Kd.R_reads' HO.out).2.2)
  generalize hq : nameAt l p (m : Int) = s at HC HPQ
  obtain ⟨i_, hi_, _, hsz_, _⟩ := info_parts info3
  obtain ⟨hcut6, _, _⟩ := print_take_of (P := Try.prog) (Value.int .i64) 0 23 3 .i64 Try.underlying23 hi_ hsz_ A1 c1 p (m : Int) (by omega) (by omega) (Kd.R_reads' HO.out).2.1
  rw [Int.toNat_natCast] at hcut6
  obtain ⟨p2, hp2⟩ : ∃ p2, p.take m = p2 := ⟨_, rfl⟩
  have HP2L := Aside0.mk (show p2.length = m by rw [← hp2, List.length_take]; omega)
  have HP2 := Aside0.mk hp2
  rw [hp2] at hcut6 HTK
  have HPL := Aside0.mk hlen
  have hpe : (p.length : Int) - 1 = (m : Int) := by omega
  have MN := Aside0.mk (show m + 1 = gk ∧ m + 1 ≤ o.length ∧ ku.toNat ≤ m by have := HN.out; omega)
  clear hp2 hn hcc hlen hpe
  by_cases ct : s.toList = ([116, 100] : List UInt8) ∨ s.toList = ([116, 104] : List UInt8)
  ·obtain ⟨QK, HLK⟩ : ∃ x, Aside0 (lastMk f' f'.length = x) := ⟨_, ⟨rfl⟩⟩
   have hql := lastMk_le f' f'.length
   rw [HLK.out] at hql
   obtain ⟨q, hqe, q0, q1⟩ : ∃ q : Int, (if QK < 0 then (0 : Int) else QK) = q ∧ 0 ≤ q ∧ q ≤ (f'.length : Int) := ⟨_, rfl, by split <;> omega, by split <;> omega⟩
   have QL := Aside0.mk (show (q : Int).toNat ≤ f'.length by omega)
   obtain ⟨hcut5, _, _⟩ := print_take_of (P := Try.prog) (Value.int .i64) 0 23 3 .i64 Try.underlying23 hi_ hsz_ A2 c2 f' q q0 q1 (Kd.R_reads' HF.out).2.1
   have HPF : popL l o ku.toNat m (f'.take (q : Int).toNat) = popL l o ku.toNat o.length f ∧ (f'.take (q : Int).toNat).length ≤ 4611686018427387903 := ⟨by rw [← HPQ.out]; exact congrArg _ (show f'.take (q : Int).toNat = cutF s f' from by unfold cutF; rw [if_pos ct, HLK.out, hqe]), by have := FLEN.out; rw [List.length_take]; omega⟩
   obtain ⟨f2, hf2⟩ : ∃ f2, f'.take (q : Int).toNat = f2 := ⟨_, rfl⟩
   have HF2 := Aside0.mk hf2
   have HF2L := Aside0.mk (show f2.length = (q : Int).toNat by rw [← hf2, List.length_take]; have := QL.out; omega)
   rw [hf2] at hcut5 HPF
   have hmx : Builtin.max2 (.int .i64 QK) (.int .i64 0) = pure (.int .i64 q) := by rw [← hqe]; exact max2_int .i64 .i64 QK 0
   clear q0 q1 hql hf2 hqe
   rcases ct with ct | ct
   ·have t0 : (s.toList == ([116, 100] : List UInt8)) = true := beq_iff_eq.mpr ct
    clear ct HPQ hq
    go_wp2_with (go_at_call 62; (try simp only [hw1]); refine HC.out.mono ?_; rintro e w' ⟨rfl, ⟨nd, rfl⟩⟩)
    refine start_ (n := 12) (S := fun w' => w'.cell? ⟨g, 2, none⟩ = some (.slice A2 f'.length c2)) (ds := [11]) #[false, false, false, false, false, false, false, false, false, false, false, false] (by kernel_rfl) rfl rfl (IsPg.x2 (IsPg.drewN (IsPg.drewN HP.out nd) 1)) (fun hHeld => ?_)
    have hd_ := Aside0.mk (show (wr.drewN nd).drew = (wr.drewN nd).drewN 1 from rfl)
    generalize (wr.drewN nd).drew = w3 at hHeld hd_ ⊢
    refine pure_ (i := 0) (N := some 37) (v := ?_) (a' := ?_) #[true, false, false, false, false, false, false, false, false, false, false, false] rfl rfl (by kernel_rfl) (fun _ _ _ h => h) (Or.inl ⟨by rfl, ?_⟩) ?_ ?_
    rotate_left
    ·intro w'
     go_simp
     with_reducible rfl
    rotate_left
    ·simp only [Act.put, sa_, sz_, ss_, i64_w, i32_w]
     rfl
    refine pure_ (i := 1) (N := some 38) (v := ?_) (a' := ?_) #[true, true, false, false, false, false, false, false, false, false, false, false] rfl rfl (by kernel_rfl) (fun _ _ _ h => h) (Or.inl ⟨by rfl, ?_⟩) ?_ ?_
    rotate_left
    ·intro w'
     go_simp
     with_reducible rfl
    rotate_left
    ·simp only [Act.put, sa_, sz_, ss_, i64_w, i32_w]
     rfl
    refine pure_ (i := 2) (N := some 39) (v := ?_) (a' := ?_) #[true, true, true, false, false, false, false, false, false, false, false, false] rfl rfl (by kernel_rfl) (fun _ _ _ h => h) (Or.inl ⟨by rfl, ?_⟩) ?_ ?_
    rotate_left
    ·intro w'
     go_simp
     with_reducible rfl
    rotate_left
    ·simp only [Act.put, sa_, sz_, ss_, i64_w, i32_w]
     rfl
    refine pure_ (i := 3) (N := some 40) (v := ?_) (a' := ?_) #[true, true, true, true, false, false, false, false, false, false, false, false] rfl rfl (by kernel_rfl) (fun _ _ _ h => h) (Or.inl ⟨by rfl, ?_⟩) ?_ ?_
    rotate_left
    ·intro w'
     go_simp
     with_reducible rfl
    rotate_left
    ·simp only [Act.put, sa_, sz_, ss_, i64_w, i32_w]
     rfl
    refine pure_ (i := 5) (N := some 42) (v := ?_) (a' := ?_) #[true, true, true, true, false, true, false, false, false, false, false, false] rfl rfl (by kernel_rfl) (fun _ _ _ h => h) (Or.inl ⟨by rfl, ?_⟩) ?_ ?_
    rotate_left
    ·intro w'
     go_simp
     with_reducible rfl
    rotate_left
    ·simp only [Act.put, sa_, sz_, ss_, i64_w, i32_w]
     rfl
    refine take_ (i := 4) (N := some 41) (v := ?_) (a' := ?_) #[true, true, true, true, true, true, false, false, false, false, false, false] rfl rfl (by kernel_rfl) (fun _ _ _ h => h) (Or.inl ⟨by rfl, ?_⟩) hHeld ?_ ?_
    rotate_left
    ·rintro w' s0_
     go_simp
     with_reducible rfl
    rotate_left
    ·simp only [Act.put, sa_, sz_, ss_, i64_w, i32_w]
     rfl
    refine one_ (i := 6) (N := some 43) #[true, true, true, true, true, true, true, false, false, false, false, false] rfl rfl (by kernel_rfl) (by decide) (fun K hK => ?_)
    refine goes_ Try.func63 (by kernel_rfl) rfl #[.pointer (some ⟨g, 0, none⟩)] (by rfl) rfl rfl (by (try simp only [List.map_toArray, List.map_cons, List.map_nil]); first | done | rfl) ?_
    have HLM := page_lastMark g A0 c0 l A1 c1 p A2 c2 f' a b w3 FLEN.out (by rw [hd_.out]; exact IsPg.drewN (IsPg.drewN HP.out nd) 1) (by rw [hd_.out]; exact cn_ (cn_ (Kd.R_reads' HF.out).2.2 nd) 1)
    rw [HLK.out] at HLM
    refine HLM.mono ?_
    rintro e w4 ⟨rfl, ⟨nd2, rfl⟩⟩
    refine ⟨_, rfl, ?_⟩
    clear HLM
    refine hK.out _ _ hHeld (fun hHeld => ?_)
    clear hK K
    refine norm_ (a' := ?_) ?_ ?_
    rotate_left
    ·show Act.put _ (some 43) _ = _
     simp only [Act.put, sa_, sz_, ss_, i64_w, i32_w]
     rfl
    refine pure_ (i := 7) (N := some 44) (v := ?_) (a' := ?_) #[true, true, true, true, true, true, true, true, false, false, false, false] rfl rfl (by kernel_rfl) (fun _ _ _ h => h) (Or.inl ⟨by rfl, ?_⟩) ?_ ?_
    rotate_left
    ·intro w'
     go_simp
     with_reducible rfl
    rotate_left
    ·simp only [Act.put, sa_, sz_, ss_, i64_w, i32_w]
     rfl
    refine pure_ (i := 8) (N := some 45) (v := ?_) (a' := ?_) #[true, true, true, true, true, true, true, true, true, false, false, false] rfl rfl (by kernel_rfl) (fun _ _ _ h => h) (Or.inl ⟨by rfl, ?_⟩) ?_ ?_
    rotate_left
    ·intro w'
     go_simp
     with_reducible rfl
    rotate_left
    ·simp only [Act.put, sa_, sz_, ss_, i64_w, i32_w]
     rfl
    refine pure_ (i := 9) (N := some 46) (v := ?_) (a' := ?_) #[true, true, true, true, true, true, true, true, true, true, false, false] rfl rfl (by kernel_rfl) (fun _ _ _ h => h) (Or.inl ⟨by rfl, ?_⟩) ?_ ?_
    rotate_left
    ·intro w'
     go_simp
     with_reducible rfl
    rotate_left
    ·simp only [Act.put, sa_, sz_, ss_, i64_w, i32_w]
     rfl
    refine pure_ (i := 10) (N := some 47) (v := ?_) (a' := ?_) #[true, true, true, true, true, true, true, true, true, true, true, false] rfl rfl (by kernel_rfl) (fun _ _ _ h => h) (Or.inl ⟨by rfl, ?_⟩) ?_ ?_
    rotate_left
    ·intro w'
     go_simp
     with_reducible rfl
    rotate_left
    ·simp only [Act.put, sa_, sz_, ss_, i64_w, i32_w]
     rfl
    refine last_ (i := 11) (N := none) #[true, true, true, true, true, true, true, true, true, true, true, true] rfl rfl (by kernel_rfl) (by decide) (fun K hK => ?_)
    have hfz2 : w3.frozen? ⟨g, 2, none⟩ = false := by rw [hd_.out]; exact blk_frozen HP.out 2
    refine skip_ (w1 := ?_) (by rfl) rfl ?_ ?_
    rotate_left
    ·go_simp
     rfl
    refine hK.out _ _ ?_
    clear hK K
    refine done_ (by kernel_rfl) ?_
    have HW4 := Aside0.mk (show ∃ n_, w3.drewN nd2 = wr.drewN n_ from ⟨nd + 1 + nd2, by rw [hd_.out, World.drewN_drewN, World.drewN_drewN, Nat.add_assoc]⟩)
    clear hd_ hHeld hfz2
    obtain ⟨n_, hn_⟩ := HW4.out
    have HP4 := Aside0.mk (show IsPg ((w3.drewN nd2).setCell ⟨g, 2, none⟩ (.slice A2 f2.length c2)) g A0 c0 l A1 c1 p A2 c2 f2 a b by rw [hn_]; exact blk_put (IsPg.drewN HP.out n_) 2 _ (by simp))
    have HS4 := Aside0.mk (show Kd.S k45 45 ((w3.drewN nd2).setCell ⟨g, 2, none⟩ (.slice A2 f2.length c2)) w0.heap.size okS (.slice A0 l.length c0) l by rw [hn_]; exact Kd.S_far (p := ⟨g, 2, none⟩) (Kd.S_drewN HS.out n_) KS.out _)
    have HO4 := Aside0.mk (show Kd.R (Kd.int .i64) 3 ((w3.drewN nd2).setCell ⟨g, 2, none⟩ (.slice A2 f2.length c2)) w0.heap.size okO (.slice A1 p.length c1) p by rw [hn_]; exact Kd.R_far (p := ⟨g, 2, none⟩) (Kd.R_drewN HO.out n_) KO.out _)
    have HF4 := Aside0.mk (show Kd.R (Kd.int .i64) 3 ((w3.drewN nd2).setCell ⟨g, 2, none⟩ (.slice A2 f2.length c2)) w0.heap.size okF (.slice A2 f2.length c2) f2 by rw [hn_]; have h_ := Kd.R_take (m := (q : Int).toNat) (Kd.R_far (p := ⟨g, 2, none⟩) (Kd.R_drewN HF.out n_) KF.out (.slice A2 f2.length c2)) QL.out; rw [HF2.out, ← HF2L.out] at h_; exact h_)
    have HB4 := Aside0.mk (show Below w0.heap.size w0 ((w3.drewN nd2).setCell ⟨g, 2, none⟩ (.slice A2 f2.length c2)) by rw [hn_]; exact Below.setCell (bn_ HB.out n_) (p := ⟨g, 2, none⟩) HG.out _)
    have HK4 := Aside0.mk (show Kept w ((w3.drewN nd2).setCell ⟨g, 2, none⟩ (.slice A2 f2.length c2)) (fun k => k = g) by rw [hn_]; exact kept_set1 (kept_drewN HK.out n_))
    generalize (w3.drewN nd2).setCell ⟨g, 2, none⟩ (.slice A2 f2.length c2) = w5 at HP4 HS4 HO4 HF4 HB4 HK4 ⊢
    clear hn_
    have hx1 := IsPg.x1 HP4.out
    have hfz1 : (w5).frozen? ⟨g, 1, none⟩ = false := blk_frozen HP4.out 1
    go_wp2
    go_roundg m
    case measure => have := MN.out; omega
    case rel => exact ⟨m, f2, ⟨rfl, by have := MN.out; omega, by have := MN.out; omega⟩, ⟨show IsPg _ g A0 c0 l A1 c1 (o.take m) A2 c2 f2 a b from by rw [← HTK.out]; exact blk_put HP4.out 1 _ (by simp)⟩, ⟨HPF⟩, ⟨Kd.S_far (p := ⟨g, 1, none⟩) HS4.out KS.out _⟩, ⟨by rw [← HTK.out]; have h_ := Kd.R_take (m := m) (Kd.R_far (p := ⟨g, 1, none⟩) HO4.out KO.out (.slice A1 p2.length c1)) (by have := HPL.out; omega); rw [HP2.out, ← HP2L.out] at h_; exact h_⟩, ⟨Kd.R_far (p := ⟨g, 1, none⟩) HF4.out KF.out _⟩, ⟨Below.setCell HB4.out (p := ⟨g, 1, none⟩) HG.out _⟩, ⟨kept_set1 HK4.out⟩⟩
   ·have t0 : (s.toList == ([116, 100] : List UInt8)) = false := beq_eq_false_iff_ne.mpr (fun h => by rw [h] at ct; exact absurd ct (by decide)); have t1 : (s.toList == ([116, 104] : List UInt8)) = true := beq_iff_eq.mpr ct
    clear ct HPQ hq
    go_wp2_with (go_at_call 62; (try simp only [hw1]); refine HC.out.mono ?_; rintro e w' ⟨rfl, ⟨nd, rfl⟩⟩)
    refine start_ (n := 12) (S := fun w' => w'.cell? ⟨g, 2, none⟩ = some (.slice A2 f'.length c2)) (ds := [11]) #[false, false, false, false, false, false, false, false, false, false, false, false] (by kernel_rfl) rfl rfl (IsPg.x2 (IsPg.drewN (IsPg.drewN HP.out nd) 1)) (fun hHeld => ?_)
    have hd_ := Aside0.mk (show (wr.drewN nd).drew = (wr.drewN nd).drewN 1 from rfl)
    generalize (wr.drewN nd).drew = w3 at hHeld hd_ ⊢
    refine pure_ (i := 0) (N := some 37) (v := ?_) (a' := ?_) #[true, false, false, false, false, false, false, false, false, false, false, false] rfl rfl (by kernel_rfl) (fun _ _ _ h => h) (Or.inl ⟨by rfl, ?_⟩) ?_ ?_
    rotate_left
    ·intro w'
     go_simp
     with_reducible rfl
    rotate_left
    ·simp only [Act.put, sa_, sz_, ss_, i64_w, i32_w]
     rfl
    refine pure_ (i := 1) (N := some 38) (v := ?_) (a' := ?_) #[true, true, false, false, false, false, false, false, false, false, false, false] rfl rfl (by kernel_rfl) (fun _ _ _ h => h) (Or.inl ⟨by rfl, ?_⟩) ?_ ?_
    rotate_left
    ·intro w'
     go_simp
     with_reducible rfl
    rotate_left
    ·simp only [Act.put, sa_, sz_, ss_, i64_w, i32_w]
     rfl
    refine pure_ (i := 2) (N := some 39) (v := ?_) (a' := ?_) #[true, true, true, false, false, false, false, false, false, false, false, false] rfl rfl (by kernel_rfl) (fun _ _ _ h => h) (Or.inl ⟨by rfl, ?_⟩) ?_ ?_
    rotate_left
    ·intro w'
     go_simp
     with_reducible rfl
    rotate_left
    ·simp only [Act.put, sa_, sz_, ss_, i64_w, i32_w]
     rfl
    refine pure_ (i := 3) (N := some 40) (v := ?_) (a' := ?_) #[true, true, true, true, false, false, false, false, false, false, false, false] rfl rfl (by kernel_rfl) (fun _ _ _ h => h) (Or.inl ⟨by rfl, ?_⟩) ?_ ?_
    rotate_left
    ·intro w'
     go_simp
     with_reducible rfl
    rotate_left
    ·simp only [Act.put, sa_, sz_, ss_, i64_w, i32_w]
     rfl
    refine pure_ (i := 5) (N := some 42) (v := ?_) (a' := ?_) #[true, true, true, true, false, true, false, false, false, false, false, false] rfl rfl (by kernel_rfl) (fun _ _ _ h => h) (Or.inl ⟨by rfl, ?_⟩) ?_ ?_
    rotate_left
    ·intro w'
     go_simp
     with_reducible rfl
    rotate_left
    ·simp only [Act.put, sa_, sz_, ss_, i64_w, i32_w]
     rfl
    refine take_ (i := 4) (N := some 41) (v := ?_) (a' := ?_) #[true, true, true, true, true, true, false, false, false, false, false, false] rfl rfl (by kernel_rfl) (fun _ _ _ h => h) (Or.inl ⟨by rfl, ?_⟩) hHeld ?_ ?_
    rotate_left
    ·rintro w' s0_
     go_simp
     with_reducible rfl
    rotate_left
    ·simp only [Act.put, sa_, sz_, ss_, i64_w, i32_w]
     rfl
    refine one_ (i := 6) (N := some 43) #[true, true, true, true, true, true, true, false, false, false, false, false] rfl rfl (by kernel_rfl) (by decide) (fun K hK => ?_)
    refine goes_ Try.func63 (by kernel_rfl) rfl #[.pointer (some ⟨g, 0, none⟩)] (by rfl) rfl rfl (by (try simp only [List.map_toArray, List.map_cons, List.map_nil]); first | done | rfl) ?_
    have HLM := page_lastMark g A0 c0 l A1 c1 p A2 c2 f' a b w3 FLEN.out (by rw [hd_.out]; exact IsPg.drewN (IsPg.drewN HP.out nd) 1) (by rw [hd_.out]; exact cn_ (cn_ (Kd.R_reads' HF.out).2.2 nd) 1)
    rw [HLK.out] at HLM
    refine HLM.mono ?_
    rintro e w4 ⟨rfl, ⟨nd2, rfl⟩⟩
    refine ⟨_, rfl, ?_⟩
    clear HLM
    refine hK.out _ _ hHeld (fun hHeld => ?_)
    clear hK K
    refine norm_ (a' := ?_) ?_ ?_
    rotate_left
    ·show Act.put _ (some 43) _ = _
     simp only [Act.put, sa_, sz_, ss_, i64_w, i32_w]
     rfl
    refine pure_ (i := 7) (N := some 44) (v := ?_) (a' := ?_) #[true, true, true, true, true, true, true, true, false, false, false, false] rfl rfl (by kernel_rfl) (fun _ _ _ h => h) (Or.inl ⟨by rfl, ?_⟩) ?_ ?_
    rotate_left
    ·intro w'
     go_simp
     with_reducible rfl
    rotate_left
    ·simp only [Act.put, sa_, sz_, ss_, i64_w, i32_w]
     rfl
    refine pure_ (i := 8) (N := some 45) (v := ?_) (a' := ?_) #[true, true, true, true, true, true, true, true, true, false, false, false] rfl rfl (by kernel_rfl) (fun _ _ _ h => h) (Or.inl ⟨by rfl, ?_⟩) ?_ ?_
    rotate_left
    ·intro w'
     go_simp
     with_reducible rfl
    rotate_left
    ·simp only [Act.put, sa_, sz_, ss_, i64_w, i32_w]
     rfl
    refine pure_ (i := 9) (N := some 46) (v := ?_) (a' := ?_) #[true, true, true, true, true, true, true, true, true, true, false, false] rfl rfl (by kernel_rfl) (fun _ _ _ h => h) (Or.inl ⟨by rfl, ?_⟩) ?_ ?_
    rotate_left
    ·intro w'
     go_simp
     with_reducible rfl
    rotate_left
    ·simp only [Act.put, sa_, sz_, ss_, i64_w, i32_w]
     rfl
    refine pure_ (i := 10) (N := some 47) (v := ?_) (a' := ?_) #[true, true, true, true, true, true, true, true, true, true, true, false] rfl rfl (by kernel_rfl) (fun _ _ _ h => h) (Or.inl ⟨by rfl, ?_⟩) ?_ ?_
    rotate_left
    ·intro w'
     go_simp
     with_reducible rfl
    rotate_left
    ·simp only [Act.put, sa_, sz_, ss_, i64_w, i32_w]
     rfl
    refine last_ (i := 11) (N := none) #[true, true, true, true, true, true, true, true, true, true, true, true] rfl rfl (by kernel_rfl) (by decide) (fun K hK => ?_)
    have hfz2 : w3.frozen? ⟨g, 2, none⟩ = false := by rw [hd_.out]; exact blk_frozen HP.out 2
    refine skip_ (w1 := ?_) (by rfl) rfl ?_ ?_
    rotate_left
    ·go_simp
     rfl
    refine hK.out _ _ ?_
    clear hK K
    refine done_ (by kernel_rfl) ?_
    have HW4 := Aside0.mk (show ∃ n_, w3.drewN nd2 = wr.drewN n_ from ⟨nd + 1 + nd2, by rw [hd_.out, World.drewN_drewN, World.drewN_drewN, Nat.add_assoc]⟩)
    clear hd_ hHeld hfz2
    obtain ⟨n_, hn_⟩ := HW4.out
    have HP4 := Aside0.mk (show IsPg ((w3.drewN nd2).setCell ⟨g, 2, none⟩ (.slice A2 f2.length c2)) g A0 c0 l A1 c1 p A2 c2 f2 a b by rw [hn_]; exact blk_put (IsPg.drewN HP.out n_) 2 _ (by simp))
    have HS4 := Aside0.mk (show Kd.S k45 45 ((w3.drewN nd2).setCell ⟨g, 2, none⟩ (.slice A2 f2.length c2)) w0.heap.size okS (.slice A0 l.length c0) l by rw [hn_]; exact Kd.S_far (p := ⟨g, 2, none⟩) (Kd.S_drewN HS.out n_) KS.out _)
    have HO4 := Aside0.mk (show Kd.R (Kd.int .i64) 3 ((w3.drewN nd2).setCell ⟨g, 2, none⟩ (.slice A2 f2.length c2)) w0.heap.size okO (.slice A1 p.length c1) p by rw [hn_]; exact Kd.R_far (p := ⟨g, 2, none⟩) (Kd.R_drewN HO.out n_) KO.out _)
    have HF4 := Aside0.mk (show Kd.R (Kd.int .i64) 3 ((w3.drewN nd2).setCell ⟨g, 2, none⟩ (.slice A2 f2.length c2)) w0.heap.size okF (.slice A2 f2.length c2) f2 by rw [hn_]; have h_ := Kd.R_take (m := (q : Int).toNat) (Kd.R_far (p := ⟨g, 2, none⟩) (Kd.R_drewN HF.out n_) KF.out (.slice A2 f2.length c2)) QL.out; rw [HF2.out, ← HF2L.out] at h_; exact h_)
    have HB4 := Aside0.mk (show Below w0.heap.size w0 ((w3.drewN nd2).setCell ⟨g, 2, none⟩ (.slice A2 f2.length c2)) by rw [hn_]; exact Below.setCell (bn_ HB.out n_) (p := ⟨g, 2, none⟩) HG.out _)
    have HK4 := Aside0.mk (show Kept w ((w3.drewN nd2).setCell ⟨g, 2, none⟩ (.slice A2 f2.length c2)) (fun k => k = g) by rw [hn_]; exact kept_set1 (kept_drewN HK.out n_))
    generalize (w3.drewN nd2).setCell ⟨g, 2, none⟩ (.slice A2 f2.length c2) = w5 at HP4 HS4 HO4 HF4 HB4 HK4 ⊢
    clear hn_
    have hx1 := IsPg.x1 HP4.out
    have hfz1 : (w5).frozen? ⟨g, 1, none⟩ = false := blk_frozen HP4.out 1
    go_wp2
    go_roundg m
    case measure => have := MN.out; omega
    case rel => exact ⟨m, f2, ⟨rfl, by have := MN.out; omega, by have := MN.out; omega⟩, ⟨show IsPg _ g A0 c0 l A1 c1 (o.take m) A2 c2 f2 a b from by rw [← HTK.out]; exact blk_put HP4.out 1 _ (by simp)⟩, ⟨HPF⟩, ⟨Kd.S_far (p := ⟨g, 1, none⟩) HS4.out KS.out _⟩, ⟨by rw [← HTK.out]; have h_ := Kd.R_take (m := m) (Kd.R_far (p := ⟨g, 1, none⟩) HO4.out KO.out (.slice A1 p2.length c1)) (by have := HPL.out; omega); rw [HP2.out, ← HP2L.out] at h_; exact h_⟩, ⟨Kd.R_far (p := ⟨g, 1, none⟩) HF4.out KF.out _⟩, ⟨Below.setCell HB4.out (p := ⟨g, 1, none⟩) HG.out _⟩, ⟨kept_set1 HK4.out⟩⟩
  ·have t0 : (s.toList == ([116, 100] : List UInt8)) = false := beq_eq_false_iff_ne.mpr (fun h => ct (.inl h))
   have t1 : (s.toList == ([116, 104] : List UInt8)) = false := beq_eq_false_iff_ne.mpr (fun h => ct (.inr h))
   have HPF : popL l o ku.toNat m f' = popL l o ku.toNat o.length f ∧ f'.length ≤ 4611686018427387903 := ⟨by rw [← HPQ.out]; exact congrArg _ (show f' = cutF s f' from (if_neg ct).symm), FLEN.out⟩
   clear ct HPQ hq
   go_wp2_with (go_at_call 62; (try simp only [hw1]); refine HC.out.mono ?_; rintro e w' ⟨rfl, ⟨nd, rfl⟩⟩; have HPd := Aside0.mk (IsPg.drewN HP.out nd); have HSd := Aside0.mk (Kd.S_drewN HS.out nd); have HOd := Aside0.mk (Kd.R_drewN HO.out nd); have HFd := Aside0.mk (Kd.R_drewN HF.out nd); have HBd := Aside0.mk (bn_ HB.out nd); have HKd := Aside0.mk (kept_drewN HK.out nd); have hx1 := IsPg.x1 HPd.out; have hfz1 : (wr.drewN nd).frozen? ⟨g, 1, none⟩ = false := blk_frozen HPd.out 1)
   have hx1 := IsPg.x1 HPd.out
   have hfz1 : (wr.drewN nd).frozen? ⟨g, 1, none⟩ = false := blk_frozen HPd.out 1
   go_wp2
   go_roundg m
   case measure => have := MN.out; omega
   case rel => exact ⟨m, f', ⟨rfl, by have := MN.out; omega, by have := MN.out; omega⟩, ⟨show IsPg _ g A0 c0 l A1 c1 (o.take m) A2 c2 f' a b from by rw [← HTK.out]; exact blk_put HPd.out 1 _ (by simp)⟩, ⟨HPF⟩, ⟨Kd.S_far (p := ⟨g, 1, none⟩) HSd.out KS.out _⟩, ⟨by rw [← HTK.out]; have h_ := Kd.R_take (m := m) (Kd.R_far (p := ⟨g, 1, none⟩) HOd.out KO.out (.slice A1 p2.length c1)) (by have := HPL.out; omega); rw [HP2.out, ← HP2L.out] at h_; exact h_⟩, ⟨Kd.R_far (p := ⟨g, 1, none⟩) HFd.out KF.out _⟩, ⟨Below.setCell HBd.out (p := ⟨g, 1, none⟩) HG.out _⟩, ⟨kept_set1 HKd.out⟩⟩
set_option maxHeartbeats 4000000 in
set_option maxRecDepth 100000 in
theorem page_popName (g : Nat) (A0 : Option Addr) (c0 : Nat) (l : List (S45)) (A1 : Option Addr) (c1 : Nat) (o : List Int) (A2 : Option Addr) (c2 : Nat) (f : List Int) (a b : Int) (u : ByteArray) (okS okO okF : Nat → Prop) (w0 w : World) (hp : IsPg w g A0 c0 l A1 c1 o A2 c2 f a b) (hg : w0.heap.size ≤ g) (hB : Below w0.heap.size w0 w) (hs : Kd.S k45 45 w w0.heap.size okS (.slice A0 l.length c0) l) (ho : Kd.R (Kd.int .i64) 3 w w0.heap.size okO (.slice A1 o.length c1) o) (hf : Kd.R (Kd.int .i64) 3 w w0.heap.size okF (.slice A2 f.length c2) f) (hkS : ∀ k, okS k → k ≠ g) (hkO : ∀ k, okO k → k ≠ g) (hkF : ∀ k, okF k → k ≠ g) (hll : l.length ≤ 4611686018427387903) (hol : o.length ≤ 4611686018427387903) (hfl : f.length ≤ 4611686018427387903) :
  Calls Try.prog 45 #[.pointer (some ⟨g, 0, none⟩), .string u] w fun e w' => (∃ v, e = .returned v) ∧ IsPg w' g A0 c0 l A1 c1 (popO o (lastName l o u o.length : Int)) A2 c2 (popF l o f (lastName l o u o.length : Int)) a b ∧ Kd.S k45 45 w' w0.heap.size okS (.slice A0 l.length c0) l ∧ Kd.R (Kd.int .i64) 3 w' w0.heap.size okO (.slice A1 (popO o (lastName l o u o.length : Int)).length c1) (popO o (lastName l o u o.length : Int)) ∧ Kd.R (Kd.int .i64) 3 w' w0.heap.size okF (.slice A2 (popF l o f (lastName l o u o.length : Int)).length c2) (popF l o f (lastName l o u o.length : Int)) ∧ Below w0.heap.size w0 w' ∧ Kept w w' (fun k => k = g) := by
 have hba : Below w.heap.size w (w.alloc (.cells #[.string u] 9)) := (Below.refl w.heap.size w).alloc (Nat.le_refl _) _
 have HM := Aside0.mk (isname_made u w)
 have HP := Aside0.mk (IsPg.below hp hba)
 have HS := Aside0.mk (Kd.S_below hs hba)
 have HO := Aside0.mk (Kd.R_below ho hba)
 have HF := Aside0.mk (Kd.R_below hf hba)
 have HBA := Aside0.mk hba
 have HB2 := Aside0.mk (below_step hB hba)
 have HI := Aside0.mk (page_innermost g w.heap.size A0 c0 l A1 c1 o A2 c2 f a b u (w.alloc (.cells #[.string u] 9)) hll hol HP.out (Kd.S_reads' HS.out).2.2 (Kd.R_reads' HO.out).2.2 (by simp))
 have HT := Aside0.mk (fun n => page_popTo g A0 c0 l A1 c1 o A2 c2 f a b (lastName l o u o.length : Int) okS okO okF w0 ((w.alloc (.cells #[.string u] 9)).drewN n) (IsPg.drewN HP.out n) hg (bn_ HB2.out n) (Kd.S_drewN HS.out n) (Kd.R_drewN HO.out n) (Kd.R_drewN HF.out n) hkS hkO hkF hll hol hfl)
 clear hp hg hB hs ho hf hkS hkO hkF hll hol hfl hba
 go_enter Try.func45, Try.ntmps45
 go_wp2_with (first | (go_at_call 54; refine HM.out.mono ?_; rintro e w1 ⟨rfl, rfl⟩) | (go_at_call 53; refine HI.out.mono ?_; rintro e w2 ⟨rfl, ⟨nd, rfl⟩⟩) | (go_at_call 44; refine (HT.out nd).mono ?_; rintro e w3 ⟨⟨v9, rfl⟩, hp, hs, ho, hf, hb, hk⟩; have P5 := Aside0.mk hp; have S5 := Aside0.mk hs; have O5 := Aside0.mk ho; have F5 := Aside0.mk hf; have B5 := Aside0.mk hb; have K5 := Aside0.mk hk; clear hp hs ho hf hb hk))
 ((try simp only [Exit.inBlock, Exit.then]); first | refine bodyPost_end (results_none rfl _ _ _) rfl ?_ | refine bodyPost_ret (results_none rfl _ _ _) rfl ?_)
 exact ⟨⟨_, rfl⟩, P5.out, S5.out, O5.out, F5.out, B5.out, ⟨Nat.le_trans HBA.out.size K5.out.1, fun i hi hn => (K5.out.2 i (Nat.lt_of_lt_of_le hi HBA.out.size) hn).trans (HBA.out.block i hi)⟩⟩
def impl_PopName.f (l : List (S45)) (o f : List Int) (a b : Int) (u : ByteArray) : Option (List (S45) × List Int × List Int × Int × Int) := (impl_copyPage.f l o f a b).bind fun p => if p.1.length ≤ 4611686018427387903 ∧ p.2.1.length ≤ 4611686018427387903 ∧ p.2.2.1.length ≤ 4611686018427387903 then some (p.1, popO p.2.1 (lastName p.1 p.2.1 u p.2.1.length : Int), popF p.1 p.2.1 p.2.2.1 (lastName p.1 p.2.1 u p.2.1.length : Int), p.2.2.2.1, p.2.2.2.2) else none
set_option maxHeartbeats 8000000 in
set_option maxRecDepth 100000 in
theorem impl_PopName.calls (A0 : Option Addr) (c0 : Nat) (l : List (S45)) (A1 : Option Addr) (c1 : Nat) (o : List Int) (A2 : Option Addr) (c2 : Nat) (f : List Int) (a b : Int) (u : ByteArray) (q1 : List (S45)) (q2 q3 : List Int) (q4 q5 : Int) (w : World) (hr0 : Kd.C k45 w A0 l.length l) (hc0 : l.length ≤ c0) (hr1 : Kd.C (Kd.int .i64) w A1 o.length o) (hc1 : o.length ≤ c1) (hr2 : Kd.C (Kd.int .i64) w A2 f.length f) (hc2 : f.length ≤ c2) (h : impl_PopName.f l o f a b u = some (q1, q2, q3, q4, q5)) :
  Calls Try.prog 25 #[.agg #[.slice A0 l.length c0, .slice A1 o.length c1, .slice A2 f.length c2, .int .i64 a, .int .i64 b], .string u] w fun e w' => ∃ v0_ v1_ v2_ : Value, e = .returned (.agg #[v0_, v1_, v2_, .int .i64 q4, .int .i64 q5]) ∧ Kd.S k45 45 w' w.heap.size (fun k_ => some k_ ≠ (v1_ : Value).ownBlock ∧ some k_ ≠ (v2_ : Value).ownBlock) v0_ q1 ∧ Kd.R (Kd.int .i64) 3 w' w.heap.size (fun k_ => some k_ ≠ (v2_ : Value).ownBlock) v1_ q2 ∧ Kd.R (Kd.int .i64) 3 w' w.heap.size (fun k_ => some k_ ≠ (v1_ : Value).ownBlock) v2_ q3 ∧ Below w.heap.size w w' := by
 obtain ⟨⟨r1, r2, r3, r4, r5⟩, X1, h⟩ := Option.bind_eq_some_iff.mp h
 simp only [] at h
 by_cases cl : r1.length ≤ 4611686018427387903 ∧ r2.length ≤ 4611686018427387903 ∧ r3.length ≤ 4611686018427387903
 rotate_left
 ·rw [if_neg cl] at h; exact absurd h (by simp)
 rw [if_pos cl] at h
 simp only [Option.some.injEq, Prod.mk.injEq] at h
 obtain ⟨rfl, rfl, rfl, rfl, rfl⟩ := h
 have XL := Aside0.mk cl
 clear cl
 have X1 := Aside0.mk X1
 have H0 := Aside0.mk hr0
 have H1 := Aside0.mk hr1
 have H2 := Aside0.mk hr2
 have HC0 := Aside0.mk hc0
 have HC1 := Aside0.mk hc1
 have HC2 := Aside0.mk hc2
 clear hr0 hr1 hr2 hc0 hc1 hc2
 have hu := Try.underlying25
 have B := Aside0.mk (Below.refl w.heap.size w)
 go_enter Try.func25, Try.ntmps25
 go_wp2_with (first | ((with_reducible refine gate_dst (N := 2) rfl ?_); refine box_event ?hg (N := 2) ?hd (cs := #[.slice A0 l.length c0, .slice A1 o.length c1, .slice A2 f.length c2, .int .i64 a, .int .i64 b]) (t := 25) ?hr ?_; (case hd => rfl); (case hg => rfl); (case hr => first | (go_simp; done) | (go_simp; rfl)); intro g1 hg_ w1 hbox hb; have P1 := Aside0.mk (show IsPg w1 g1 A0 c0 l A1 c1 o A2 c2 f a b from hbox); have E1 := Aside0.mk (show w.heap.size ≤ g1 by rw [hg_]; exact Nat.le_refl _); have L1 := Aside0.mk (blk_lt hbox); clear hbox hg_; have n0_ := Aside0.mk (below_step B.out hb); clear B; have B := n0_; clear n0_ hb) | ((with_reducible refine gate_dst (N := 4) rfl ?_); refine box_event ?hg (N := 4) ?hd (cs := #[.slice none 0 0, .slice none 0 0, .slice none 0 0, .int .i64 0, .int .i64 0]) (t := 25) ?hr ?_; (case hd => rfl); (case hg => rfl); (case hr => first | (go_simp; done) | (go_simp; rfl)); intro g2 hg_ w2 hbox hb; have Z2 := Aside0.mk hbox; have E2 := Aside0.mk (show w.heap.size ≤ g2 by rw [hg_]; exact B.out.size); have L2 := Aside0.mk (blk_lt hbox); have N12 := Aside0.mk (show g1 ≠ g2 by rw [hg_]; exact Nat.ne_of_lt L1.out); clear hbox hg_; have n0_ := Aside0.mk (below_step B.out hb); have n1_ := Aside0.mk (IsPg.below P1.out hb); clear B P1; have B := n0_; have P1 := n1_; clear n0_ n1_ hb; have za0 := P1.out.x0; have za1 := P1.out.x1; have za2 := P1.out.x2; have za3 := P1.out.x3; have za4 := P1.out.x4) | (go_at_call 41; refine (impl_copyPage.calls A0 c0 l A1 c1 o A2 c2 f a b r1 r2 r3 r4 r5 _ (Kd.C_below H0.out B.out) HC0.out (Kd.C_below H1.out B.out) HC1.out (Kd.C_below H2.out B.out) HC2.out X1.out).mono ?_; rintro e w3 ⟨v0, v1, v2, rfl, hS, hO, hF, hb⟩; obtain ⟨a0, n0, rfl⟩ := Kd.S_slice hS; obtain ⟨a1, n1, rfl⟩ := Kd.R_slice hO; obtain ⟨a2, n2, rfl⟩ := Kd.R_slice hF; have hs_ := Aside0.mk (Kd.S_lower (Kd.S_mono (ok' := fun k => w2.heap.size ≤ k ∧ k < w3.heap.size ∧ some k ≠ (Value.slice a1 r2.length n1 : Value).ownBlock ∧ some k ≠ (Value.slice a2 r3.length n2 : Value).ownBlock) (Kd.S_bound hS) (fun k hk => ⟨hk.2.1, hk.2.2.1, hk.1.1, hk.1.2⟩)) B.out.size); have ho_ := Aside0.mk (Kd.R_lower (Kd.R_mono (ok' := fun k => w2.heap.size ≤ k ∧ k < w3.heap.size ∧ some k ≠ (Value.slice a2 r3.length n2 : Value).ownBlock) (Kd.R_bound hO) (fun k hk => ⟨hk.2.1, hk.2.2.1, hk.1⟩)) B.out.size); have hf_ := Aside0.mk (Kd.R_lower (Kd.R_mono (ok' := fun k => w2.heap.size ≤ k ∧ k ≠ w3.heap.size ∧ some k ≠ (Value.slice a1 r2.length n1 : Value).ownBlock) (Kd.R_bound hF) (fun k hk => ⟨hk.2.1, Nat.ne_of_lt hk.2.2.1, hk.1⟩)) B.out.size); have LF := Aside0.mk (Kd.R_lt hF); have LO := Aside0.mk (Kd.R_lt hO); have M23 := Aside0.mk hb.size; clear hS hO hF; clear za0 za1 za2 za3 za4; have n0_ := Aside0.mk (below_step B.out hb); have n1_ := Aside0.mk (IsPg.below P1.out hb); have n2_ := Aside0.mk (blk_below Z2.out hb); clear B P1 Z2; have B := n0_; have P1 := n1_; have Z2 := n2_; clear n0_ n1_ n2_ hb; have S3 := hs_; have O3 := ho_; have F3 := hf_; clear hs_ ho_ hf_) | ((with_reducible refine gate_store (t := 25) (p := 5) rfl ?_); refine store_event (t := 25) (p := 5) (v := ?vo1_) (w1 := ?w11_) ?hg ?ho ?hn ?hr ?_; (case ho => rfl); (case hg => rfl); (case hn => rfl); (case hr => go_simp; rfl); intro w4 hw_; have hb := (show Below w3.heap.size w3 w4 by rw [hw_]; exact (Below.refl w3.heap.size w3).alloc (Nat.le_refl _) _); have P3 := Aside0.mk (show IsPg w4 w3.heap.size a0 n0 r1 a1 n1 r2 a2 n2 r3 r4 r5 by rw [hw_]; exact blk_new _ _); clear hw_; have n0_ := Aside0.mk (below_step B.out hb); have n1_ := Aside0.mk (IsPg.below P1.out hb); have n2_ := Aside0.mk (blk_below Z2.out hb); have n3_ := Aside0.mk (Kd.S_below S3.out hb); have n4_ := Aside0.mk (Kd.R_below O3.out hb); have n5_ := Aside0.mk (Kd.R_below F3.out hb); clear B P1 Z2 S3 O3 F3; have B := n0_; have P1 := n1_; have Z2 := n2_; have S3 := n3_; have O3 := n4_; have F3 := n5_; clear n0_ n1_ n2_ n3_ n4_ n5_ hb; have L4 := Aside0.mk (blk_lt P3.out)) | (go_at_call 45; refine (page_popName w3.heap.size a0 n0 r1 a1 n1 r2 a2 n2 r3 r4 r5 u (fun k => k ≠ w3.heap.size ∧ k ≠ g2 ∧ some k ≠ (Value.slice a1 r2.length n1 : Value).ownBlock ∧ some k ≠ (Value.slice a2 r3.length n2 : Value).ownBlock) (fun k => k ≠ w3.heap.size ∧ k ≠ g2 ∧ some k ≠ (Value.slice a2 r3.length n2 : Value).ownBlock) (fun k => k ≠ w3.heap.size ∧ k ≠ g2 ∧ some k ≠ (Value.slice a1 r2.length n1 : Value).ownBlock) w _ P3.out (Nat.le_trans (Nat.le_trans E2.out (Nat.le_of_lt L2.out)) M23.out) B.out (Kd.S_mono S3.out (fun k h => ⟨Nat.ne_of_lt h.2.1, Nat.ne_of_gt (Nat.lt_of_lt_of_le L2.out h.1), h.2.2.1, h.2.2.2⟩)) (Kd.R_mono O3.out (fun k h => ⟨Nat.ne_of_lt h.2.1, Nat.ne_of_gt (Nat.lt_of_lt_of_le L2.out h.1), h.2.2⟩)) (Kd.R_mono F3.out (fun k h => ⟨h.2.1, Nat.ne_of_gt (Nat.lt_of_lt_of_le L2.out h.1), h.2.2⟩)) (fun k h => h.1) (fun k h => h.1) (fun k h => h.1) XL.out.1 XL.out.2.1 XL.out.2.2).mono ?_; rintro e w5 ⟨⟨v9, rfl⟩, hp, hs, ho, hf, hb, hk⟩; have P5 := Aside0.mk hp; have S5 := Aside0.mk (Kd.S_mono (ok' := fun k => k ≠ g2 ∧ some k ≠ (Value.slice a1 (popO r2 (lastName r1 r2 u r2.length : Int)).length n1 : Value).ownBlock ∧ some k ≠ (Value.slice a2 (popF r1 r2 r3 (lastName r1 r2 u r2.length : Int)).length n2 : Value).ownBlock) hs (fun k h => by rw [own_len a1 _ r2.length n1, own_len a2 _ r3.length n2]; exact h.2)); have O5 := Aside0.mk (Kd.R_mono (ok' := fun k => k ≠ g2 ∧ some k ≠ (Value.slice a2 (popF r1 r2 r3 (lastName r1 r2 u r2.length : Int)).length n2 : Value).ownBlock) ho (fun k h => by rw [own_len a2 _ r3.length n2]; exact h.2)); have F5 := Aside0.mk (Kd.R_mono (ok' := fun k => k ≠ g2 ∧ some k ≠ (Value.slice a1 (popO r2 (lastName r1 r2 u r2.length : Int)).length n1 : Value).ownBlock) hf (fun k h => by rw [own_len a1 _ r2.length n1]; exact h.2)); have Z5 := Aside0.mk ((hk.2 g2 (blk_lt Z2.out) (fun h3 => absurd L2.out (by rw [h3]; exact Nat.not_lt.2 M23.out))).trans Z2.out); clear B; have B := Aside0.mk hb; clear hp hs ho hf hb hk; have zb0 := P5.out.x0; have zb1 := P5.out.x1; have zb2 := P5.out.x2; have zb3 := P5.out.x3; have zb4 := P5.out.x4; have zc0 : w5.cell? ⟨g2, 0, none⟩ = some (.slice none 0 0) := (bc_ Z5.out 0).trans rfl; have zc1 : w5.cell? ⟨g2, 1, none⟩ = some (.slice none 0 0) := (bc_ Z5.out 1).trans rfl; have zc2 : w5.cell? ⟨g2, 2, none⟩ = some (.slice none 0 0) := (bc_ Z5.out 2).trans rfl; have zc3 : w5.cell? ⟨g2, 3, none⟩ = some (.int .i64 0) := (bc_ Z5.out 3).trans rfl; have zc4 : w5.cell? ⟨g2, 4, none⟩ = some (.int .i64 0) := (bc_ Z5.out 4).trans rfl; have zf0 := blk_frozen Z5.out 0; have zf1 := blk_frozen Z5.out 1; have zf2 := blk_frozen Z5.out 2; have zf3 := blk_frozen Z5.out 3; have zf4 := blk_frozen Z5.out 4))
 refine bodyPost_ret (results_cell_row rfl _ _ g2 25 #[.slice a0 r1.length n0, .slice a1 (popO r2 (lastName r1 r2 u r2.length : Int)).length n1, .slice a2 (popF r1 r2 r3 (lastName r1 r2 u r2.length : Int)).length n2, .int .i64 r4, .int .i64 r5] (0, 0) _ rfl (pg_put5 Z5.out) Try.underlying25 rfl (by kernel_rfl)) rfl ?_
 exact ⟨_, _, _, by first | rfl | (simp; done), Kd.S_far5 S5.out (fun k hk => hk.1) (fun k hk => hk.2), Kd.R_far5 O5.out (fun k hk => hk.1) (fun k hk => hk.2), Kd.R_far5 F5.out (fun k hk => hk.1) (fun k hk => hk.2), below_put5 B.out E2.out⟩
def IsPl (W : World) (g : Nat) (A0 : Option Addr) (c0 : Nat) (l : List (S64)) (A1 : Option Addr) (c1 : Nat) (o : List Int) (A2 : Option Addr) (c2 : Nat) (f : List Int) (a b : Int) : Prop := W.heap[g]? = some (.cells #[.slice A0 l.length c0, .slice A1 o.length c1, .slice A2 f.length c2, .int .i64 a, .int .i64 b] 32 (0, 0))
section
variable {W W1 : World} {g : Nat} {A0 : Option Addr} {c0 : Nat} {l : List (S64)} {A1 : Option Addr} {c1 : Nat} {o : List Int} {A2 : Option Addr} {c2 : Nat} {f : List Int} {a b : Int}
theorem IsPl.below (h : IsPl W g A0 c0 l A1 c1 o A2 c2 f a b) (hb : Below W.heap.size W W1) : IsPl W1 g A0 c0 l A1 c1 o A2 c2 f a b := blk_below h hb
theorem IsPl.drewN (h : IsPl W g A0 c0 l A1 c1 o A2 c2 f a b) (n : Nat) : IsPl (W.drewN n) g A0 c0 l A1 c1 o A2 c2 f a b := h
theorem IsPl.x0 (h : IsPl W g A0 c0 l A1 c1 o A2 c2 f a b) : W.cell? ⟨g, 0, none⟩ = some (.slice A0 l.length c0) := (bc_ h 0).trans rfl
theorem IsPl.x1 (h : IsPl W g A0 c0 l A1 c1 o A2 c2 f a b) : W.cell? ⟨g, 1, none⟩ = some (.slice A1 o.length c1) := (bc_ h 1).trans rfl
theorem IsPl.x2 (h : IsPl W g A0 c0 l A1 c1 o A2 c2 f a b) : W.cell? ⟨g, 2, none⟩ = some (.slice A2 f.length c2) := (bc_ h 2).trans rfl
theorem IsPl.x3 (h : IsPl W g A0 c0 l A1 c1 o A2 c2 f a b) : W.cell? ⟨g, 3, none⟩ = some (.int .i64 a) := (bc_ h 3).trans rfl
theorem IsPl.x4 (h : IsPl W g A0 c0 l A1 c1 o A2 c2 f a b) : W.cell? ⟨g, 4, none⟩ = some (.int .i64 b) := (bc_ h 4).trans rfl
end
theorem size_drew_ {n : Nat} {W : World} (h : n ≤ W.heap.size) : n ≤ W.drew.heap.size := h
theorem MK.len {W : World} {base n c : Nat} {P : Nat → Prop} {A : Option Addr} {M : List (S45)} (h : MK W base P (.slice A n c) M) : n = M.length := by
 rcases h with ⟨rfl, A', c', e⟩ | ⟨g, cap, Q, e, _⟩
 ·injection e
 ·injection e
theorem MK.C {W : World} {base n c : Nat} {P : Nat → Prop} {A : Option Addr} {M : List (S45)} (h : MK W base P (.slice A n c) M) (hl : n ≤ 9223372036854775807) : Kd.C k45 W A M.length M ∧ M.length ≤ c := by
 obtain ⟨A', c', e, hc, hC⟩ := MK.reads h (MK.len h ▸ hl)
 injection e with e1 e2 e3
 subst e1
 subst e3
 exact ⟨hC, hc⟩
def laws_FnExactPopName.f (k : Nat) (l : List (S64)) (o f : List Int) (a b : Int) (u : ByteArray) : Option Bool := if (u.size : Int) > 1048576 then some true else (laws_szPage.f k l o f a b 1048576).bind fun t => if t < 0 then some true else (laws_toPage.f k l o f a b).bind fun t => (spec_PopName.f k t.1 t.2.1 t.2.2.1 t.2.2.2.1 t.2.2.2.2 u).bind fun s => (impl_PopName.f t.1 t.2.1 t.2.2.1 t.2.2.2.1 t.2.2.2.2 u).bind fun p => (if laws_eqPage.f k p.1 p.2.1 p.2.2.1 p.2.2.2.1 p.2.2.2.2 s.1 s.2.1 s.2.2.1 s.2.2.2.1 s.2.2.2.2 = some true ∧ laws_eqPage.f k t.1 t.2.1 t.2.2.1 t.2.2.2.1 t.2.2.2.2 t.1 t.2.1 t.2.2.1 t.2.2.2.1 t.2.2.2.2 = some true then ((laws_markPage.f k t.1 t.2.1 t.2.2.1 1).bind fun m0 => (if 0 ≤ m0.1 then (laws_markPage.f k p.1 p.2.1 p.2.2.1 1).bind fun m => (if laws_heldPage.f k m.2.1 m.2.2.1 m.2.2.2 p.2.2.2.1 p.2.2.2.2 1 = some m.1 ∧ 0 ≤ m.1 then some true else none) else none)) else none)
set_option maxHeartbeats 16000000 in
set_option maxRecDepth 100000 in
theorem laws_FnExactPopName.calls (k : Nat) (A0 : Option Addr) (c0 : Nat) (l : List (S64)) (A1 : Option Addr) (c1 : Nat) (o : List Int) (A2 : Option Addr) (c2 : Nat) (f : List Int) (a b : Int) (u : ByteArray) (r : Bool) (w : World) (hr0 : Kd.C k64 w A0 l.length l) (hc0 : l.length ≤ c0) (hr1 : Kd.C (Kd.int .i64) w A1 o.length o) (hc1 : o.length ≤ c1) (hr2 : Kd.C (Kd.int .i64) w A2 f.length f) (hc2 : f.length ≤ c2) (h : laws_FnExactPopName.f k l o f a b u = some r) :
  Calls Try.prog 8 #[.agg #[.slice A0 l.length c0, .slice A1 o.length c1, .slice A2 f.length c2, .int .i64 a, .int .i64 b], .string u] w fun e w' => e = .returned (.bool r) ∧ Below w.heap.size w w' := by
 unfold laws_FnExactPopName.f at h
 have hu32 := Try.underlying32
 by_cases cu : (u.size : Int) > 1048576
 ·rw [if_pos cu] at h
  obtain rfl := Option.some.inj h
  have cu0 : decide ((u.size : Int) > 1048576) = true := decide_eq_true cu
  have cu1 : decide (1048576 < u.size) = true := decide_eq_true (by omega)
  have B := Aside0.mk (Below.refl w.heap.size w)
  clear cu h
  go_enter Try.func8, Try.ntmps8
  go_wp2_with (((with_reducible refine gate_dst (N := 2) rfl ?_); refine box_event ?hg (N := 2) ?hd (cs := #[.slice A0 l.length c0, .slice A1 o.length c1, .slice A2 f.length c2, .int .i64 a, .int .i64 b]) (t := 32) ?hr ?_; (case hd => rfl); (case hg => rfl); (case hr => first | (go_simp; done) | (go_simp; rfl)); intro gp hg_ w0 hbox hb; have hp_ := Aside0.mk (show IsPl w0 gp A0 c0 l A1 c1 o A2 c2 f a b from hbox); have LP := Aside0.mk (blk_lt hbox); clear hbox hg_; have n0_ := Aside0.mk (below_step B.out hb); clear B; have B := n0_; clear n0_ hb; have BP := hp_; clear hp_; have M0 := Aside0.mk (Nat.le_refl w0.heap.size); have zBP0 := IsPl.x0 BP.out; have zBP1 := IsPl.x1 BP.out; have zBP2 := IsPl.x2 BP.out; have zBP3 := IsPl.x3 BP.out; have zBP4 := IsPl.x4 BP.out))
  go_ret
  exact ⟨by first | rfl | (simp; done), B.out⟩
 rw [if_neg cu] at h
 have cu0 : decide ((u.size : Int) > 1048576) = false := decide_eq_false cu
 have cu1 : decide (1048576 < u.size) = false := decide_eq_false (by omega)
 clear cu
 obtain ⟨t, X0, h⟩ := Option.bind_eq_some_iff.mp h
 have X0 := Aside0.mk X0
 have H0 := Aside0.mk hr0
 have H1 := Aside0.mk hr1
 have H2 := Aside0.mk hr2
 have HC0 := Aside0.mk hc0
 have HC1 := Aside0.mk hc1
 have HC2 := Aside0.mk hc2
 clear hr0 hr1 hr2 hc0 hc1 hc2
 have hu25 := Try.underlying25
 have hu32 := Try.underlying32
 have B := Aside0.mk (Below.refl w.heap.size w)
 by_cases ct : t < 0
 ·rw [if_pos ct] at h
  obtain rfl := Option.some.inj h
  have ctb : decide (t < 0) = true := decide_eq_true ct
  clear ct
  go_enter Try.func8, Try.ntmps8
  go_wp2_with (first | ((with_reducible refine gate_dst (N := 2) rfl ?_); refine box_event ?hg (N := 2) ?hd (cs := #[.slice A0 l.length c0, .slice A1 o.length c1, .slice A2 f.length c2, .int .i64 a, .int .i64 b]) (t := 32) ?hr ?_; (case hd => rfl); (case hg => rfl); (case hr => first | (go_simp; done) | (go_simp; rfl)); intro gp hg_ w0 hbox hb; have hp_ := Aside0.mk (show IsPl w0 gp A0 c0 l A1 c1 o A2 c2 f a b from hbox); have LP := Aside0.mk (blk_lt hbox); clear hbox hg_; have n0_ := Aside0.mk (below_step B.out hb); clear B; have B := n0_; clear n0_ hb; have BP := hp_; clear hp_; have M0 := Aside0.mk (Nat.le_refl w0.heap.size); have zBP0 := IsPl.x0 BP.out; have zBP1 := IsPl.x1 BP.out; have zBP2 := IsPl.x2 BP.out; have zBP3 := IsPl.x3 BP.out; have zBP4 := IsPl.x4 BP.out) | (go_at_call 14; refine (laws_szPage.calls k A0 c0 l A1 c1 o A2 c2 f a b 1048576 t _ (Kd.C_below H0.out B.out) HC0.out (Kd.C_below H1.out B.out) HC1.out (Kd.C_below H2.out B.out) HC2.out X0.out).mono ?_; rintro e w1 ⟨rfl, hb⟩; clear zBP0 zBP1 zBP2 zBP3 zBP4; have n0_ := Aside0.mk (below_step B.out hb); have n1_ := Aside0.mk (blk_below BP.out hb); have n2_ := Aside0.mk (Nat.le_trans M0.out hb.size); clear B BP M0; have B := n0_; have BP := n1_; have M0 := n2_; clear n0_ n1_ n2_ hb; have zBP0 := IsPl.x0 BP.out; have zBP1 := IsPl.x1 BP.out; have zBP2 := IsPl.x2 BP.out; have zBP3 := IsPl.x3 BP.out; have zBP4 := IsPl.x4 BP.out))
  go_ret
  exact ⟨by first | rfl | (simp; done), B.out⟩
 rw [if_neg ct] at h
 have ctb : decide (t < 0) = false := decide_eq_false ct
 clear ct
 obtain ⟨⟨t1, t2, t3, t4, t5⟩, XA, h⟩ := Option.bind_eq_some_iff.mp h
 obtain ⟨⟨s1, s2, s3, s4, s5⟩, XB, h⟩ := Option.bind_eq_some_iff.mp h
 obtain ⟨⟨p1, p2, p3, p4, p5⟩, XC, h⟩ := Option.bind_eq_some_iff.mp h
 simp only [] at h XB XC
 by_cases ca : laws_eqPage.f k p1 p2 p3 p4 p5 s1 s2 s3 s4 s5 = some true ∧ laws_eqPage.f k t1 t2 t3 t4 t5 t1 t2 t3 t4 t5 = some true
 rotate_left
 ·rw [if_neg ca] at h; exact absurd h (by simp)
 rw [if_pos ca] at h
 have A3 := Aside0.mk ca.1
 have A3b := Aside0.mk ca.2
 clear ca
 obtain ⟨⟨m0, M0_, o0, f0⟩, A4a, h⟩ := Option.bind_eq_some_iff.mp h
 simp only [] at h
 by_cases cm : 0 ≤ m0
 rotate_left
 ·rw [if_neg cm] at h; exact absurd h (by simp)
 rw [if_pos cm] at h
 obtain ⟨⟨mm, M, o2, f2⟩, A4, h⟩ := Option.bind_eq_some_iff.mp h
 simp only [] at h
 by_cases cq : laws_heldPage.f k M o2 f2 p4 p5 1 = some mm ∧ 0 ≤ mm
 rotate_left
 ·rw [if_neg cq] at h; exact absurd h (by simp)
 rw [if_pos cq] at h
 obtain rfl := Option.some.inj h
 obtain ⟨A5, cq⟩ := cq
 have cmb : decide (m0 < 0) = false := decide_eq_false (by omega)
 have cqb : decide (mm < 0) = false := decide_eq_false (by omega)
 clear h cq cm
 replace XA := Aside0.mk XA
 replace XB := Aside0.mk XB
 replace XC := Aside0.mk XC
 replace A4a := Aside0.mk A4a
 replace A4 := Aside0.mk A4
 replace A5 := Aside0.mk A5
 go_enter Try.func8, Try.ntmps8
 go_wp2_with (first | ((with_reducible refine gate_dst (N := 2) rfl ?_); refine box_event ?hg (N := 2) ?hd (cs := #[.slice A0 l.length c0, .slice A1 o.length c1, .slice A2 f.length c2, .int .i64 a, .int .i64 b]) (t := 32) ?hr ?_; (case hd => rfl); (case hg => rfl); (case hr => first | (go_simp; done) | (go_simp; rfl)); intro gp hg_ w0 hbox hb; have hp_ := Aside0.mk (show IsPl w0 gp A0 c0 l A1 c1 o A2 c2 f a b from hbox); have LP := Aside0.mk (blk_lt hbox); clear hbox hg_; have n0_ := Aside0.mk (below_step B.out hb); clear B; have B := n0_; clear n0_ hb; have BP := hp_; clear hp_; have M0 := Aside0.mk (Nat.le_refl w0.heap.size); have zBP0 := IsPl.x0 BP.out; have zBP1 := IsPl.x1 BP.out; have zBP2 := IsPl.x2 BP.out; have zBP3 := IsPl.x3 BP.out; have zBP4 := IsPl.x4 BP.out) | (go_at_call 14; refine (laws_szPage.calls k A0 c0 l A1 c1 o A2 c2 f a b 1048576 t _ (Kd.C_below H0.out B.out) HC0.out (Kd.C_below H1.out B.out) HC1.out (Kd.C_below H2.out B.out) HC2.out X0.out).mono ?_; rintro e w1 ⟨rfl, hb⟩; clear zBP0 zBP1 zBP2 zBP3 zBP4; have n0_ := Aside0.mk (below_step B.out hb); have n1_ := Aside0.mk (blk_below BP.out hb); have n2_ := Aside0.mk (Nat.le_trans M0.out hb.size); clear B BP M0; have B := n0_; have BP := n1_; have M0 := n2_; clear n0_ n1_ n2_ hb; have zBP0 := IsPl.x0 BP.out; have zBP1 := IsPl.x1 BP.out; have zBP2 := IsPl.x2 BP.out; have zBP3 := IsPl.x3 BP.out; have zBP4 := IsPl.x4 BP.out) | (go_at_call 16; refine (laws_toPage.calls k A0 c0 l A1 c1 o A2 c2 f a b t1 t2 t3 t4 t5 _ (Kd.C_below H0.out B.out) HC0.out (Kd.C_below H1.out B.out) HC1.out (Kd.C_below H2.out B.out) HC2.out XA.out).mono ?_; rintro e w2 ⟨v0, v1, v2, rfl, hS, hO, hF, hb⟩; obtain ⟨a0, n0, rfl⟩ := Kd.S_slice hS; obtain ⟨a1, n1, rfl⟩ := Kd.R_slice hO; obtain ⟨a2, n2, rfl⟩ := Kd.R_slice hF; have hs_ := Aside0.mk (Kd.S_mono (ok' := fun k => k < w2.heap.size) (Kd.S_bound hS) (fun k hk => hk.2.2.1)); have ho_ := Aside0.mk (Kd.R_mono (ok' := fun k => k < w2.heap.size) (Kd.R_bound hO) (fun k hk => hk.2.2.1)); have hf_ := Aside0.mk (Kd.R_mono (ok' := fun k => k < w2.heap.size) (Kd.R_bound hF) (fun k hk => hk.2.2.1)); clear hS hO hF; clear zBP0 zBP1 zBP2 zBP3 zBP4; have n0_ := Aside0.mk (below_step B.out hb); have n1_ := Aside0.mk (blk_below BP.out hb); have n2_ := Aside0.mk (Nat.le_trans M0.out hb.size); clear B BP M0; have B := n0_; have BP := n1_; have M0 := n2_; clear n0_ n1_ n2_ hb; have SA := hs_; have OA := ho_; have FA := hf_; clear hs_ ho_ hf_) | (go_at_call 24; refine (spec_PopName.calls k a0 n0 t1 a1 n1 t2 a2 n2 t3 t4 t5 u s1 s2 s3 s4 s5 _ (Kd.S_reads' SA.out).2.2 (Kd.S_reads' SA.out).2.1 (Kd.R_reads' OA.out).2.2 (Kd.R_reads' OA.out).2.1 (Kd.R_reads' FA.out).2.2 (Kd.R_reads' FA.out).2.1 XB.out).mono ?_; rintro e w3 ⟨v0, v1, v2, rfl, hS, hO, hF, hb⟩; obtain ⟨a3, n3, rfl⟩ := Kd.S_slice hS; obtain ⟨a4, n4, rfl⟩ := Kd.R_slice hO; obtain ⟨a5, n5, rfl⟩ := Kd.R_slice hF; have hs_ := Aside0.mk (Kd.S_mono (ok' := fun k => k < w3.heap.size) (Kd.S_bound hS) (fun k hk => hk.2.2.1)); have ho_ := Aside0.mk (Kd.R_mono (ok' := fun k => k < w3.heap.size) (Kd.R_bound hO) (fun k hk => hk.2.2.1)); have hf_ := Aside0.mk (Kd.R_mono (ok' := fun k => k < w3.heap.size) (Kd.R_bound hF) (fun k hk => hk.2.2.1)); clear hS hO hF; have n0_ := Aside0.mk (below_step B.out hb); have n1_ := Aside0.mk (blk_below BP.out hb); have n2_ := Aside0.mk (Nat.le_trans M0.out hb.size); have n3_ := Aside0.mk (Kd.S_below SA.out hb); have n4_ := Aside0.mk (Kd.R_below OA.out hb); have n5_ := Aside0.mk (Kd.R_below FA.out hb); clear B BP M0 SA OA FA; have B := n0_; have BP := n1_; have M0 := n2_; have SA := n3_; have OA := n4_; have FA := n5_; clear n0_ n1_ n2_ n3_ n4_ n5_ hb; have SW := hs_; have OW := ho_; have FW := hf_; clear hs_ ho_ hf_; clear SA OA FA) | ((with_reducible refine gate_store (t := 25) (p := 6) rfl ?_); refine store_event (t := 25) (p := 6) (v := ?vo6_) (w1 := ?w16_) ?hg ?ho ?hn ?hr ?_; (case ho => rfl); (case hg => rfl); (case hn => rfl); (case hr => go_simp; rfl); intro w4 hw_; have hb := (show Below w3.heap.size w3 w4 by rw [hw_]; exact (Below.refl w3.heap.size w3).alloc (Nat.le_refl _) _); have hp_ := Aside0.mk (show IsPg w4 w3.heap.size a3 n3 s1 a4 n4 s2 a5 n5 s3 s4 s5 by rw [hw_]; exact blk_new _ _); have hz_ := Aside0.mk hb.size; clear hw_; have n0_ := Aside0.mk (below_step B.out hb); have n1_ := Aside0.mk (blk_below BP.out hb); have n2_ := Aside0.mk (Kd.S_below SW.out hb); have n3_ := Aside0.mk (Kd.R_below OW.out hb); have n4_ := Aside0.mk (Kd.R_below FW.out hb); clear B BP SW OW FW; have B := n0_; have BP := n1_; have SW := n2_; have OW := n3_; have FW := n4_; clear n0_ n1_ n2_ n3_ n4_ hb; have BW := hp_; have ZBW := hz_; clear hp_ hz_; have LW := Aside0.mk (blk_lt BW.out); have zBP0 := IsPl.x0 BP.out; have zBP1 := IsPl.x1 BP.out; have zBP2 := IsPl.x2 BP.out; have zBP3 := IsPl.x3 BP.out; have zBP4 := IsPl.x4 BP.out) | (go_at_call 16; refine (laws_toPage.calls k A0 c0 l A1 c1 o A2 c2 f a b t1 t2 t3 t4 t5 _ (Kd.C_below H0.out B.out) HC0.out (Kd.C_below H1.out B.out) HC1.out (Kd.C_below H2.out B.out) HC2.out XA.out).mono ?_; rintro e w5 ⟨v0, v1, v2, rfl, hS, hO, hF, hb⟩; obtain ⟨a6, n6, rfl⟩ := Kd.S_slice hS; obtain ⟨a7, n7, rfl⟩ := Kd.R_slice hO; obtain ⟨a8, n8, rfl⟩ := Kd.R_slice hF; have hs_ := Aside0.mk (Kd.S_lower (Kd.S_mono (ok' := fun k => w4.heap.size ≤ k ∧ k < w5.heap.size ∧ some k ≠ (Value.slice a7 t2.length n7 : Value).ownBlock ∧ some k ≠ (Value.slice a8 t3.length n8 : Value).ownBlock) (Kd.S_bound hS) (fun k hk => ⟨hk.2.1, hk.2.2.1, hk.1.1, hk.1.2⟩)) B.out.size); have ho_ := Aside0.mk (Kd.R_lower (Kd.R_mono (ok' := fun k => w4.heap.size ≤ k ∧ k < w5.heap.size ∧ some k = (Value.slice a7 t2.length n7 : Value).ownBlock ∧ some k ≠ (Value.slice a8 t3.length n8 : Value).ownBlock) (Kd.R_tight rfl hO) (fun k hk => by have h_ := (Kd.R_bound hO).1 k hk.symm; exact ⟨h_.2.1, h_.2.2.1, hk, h_.1⟩)) B.out.size); have hf_ := Aside0.mk (Kd.R_lower (Kd.R_mono (ok' := fun k => w4.heap.size ≤ k ∧ k < w5.heap.size ∧ some k = (Value.slice a8 t3.length n8 : Value).ownBlock ∧ some k ≠ (Value.slice a7 t2.length n7 : Value).ownBlock) (Kd.R_tight rfl hF) (fun k hk => by have h_ := (Kd.R_bound hF).1 k hk.symm; exact ⟨h_.2.1, h_.2.2.1, hk, h_.1⟩)) B.out.size); clear hS hO hF; have M45 := Aside0.mk hb.size; clear zBP0 zBP1 zBP2 zBP3 zBP4; have n0_ := Aside0.mk (below_step B.out hb); have n1_ := Aside0.mk (blk_below BP.out hb); have n2_ := Aside0.mk (Kd.S_below SW.out hb); have n3_ := Aside0.mk (Kd.R_below OW.out hb); have n4_ := Aside0.mk (Kd.R_below FW.out hb); have n5_ := Aside0.mk (blk_below BW.out hb); clear B BP SW OW FW BW; have B := n0_; have BP := n1_; have SW := n2_; have OW := n3_; have FW := n4_; have BW := n5_; clear n0_ n1_ n2_ n3_ n4_ n5_ hb; have SX := hs_; have OX := ho_; have FX := hf_; clear hs_ ho_ hf_; have ZX := Aside0.mk (Nat.le_refl w5.heap.size)) | ((with_reducible refine gate_store (t := 25) (p := 7) rfl ?_); refine store_event (t := 25) (p := 7) (v := ?vo7_) (w1 := ?w17_) ?hg ?ho ?hn ?hr ?_; (case ho => rfl); (case hg => rfl); (case hn => rfl); (case hr => go_simp; rfl); intro w6 hw_; have hb := (show Below w5.heap.size w5 w6 by rw [hw_]; exact (Below.refl w5.heap.size w5).alloc (Nat.le_refl _) _); have hp_ := Aside0.mk (show IsPg w6 w5.heap.size a6 n6 t1 a7 n7 t2 a8 n8 t3 t4 t5 by rw [hw_]; exact blk_new _ _); have hz_ := Aside0.mk hb.size; clear hw_; have n0_ := Aside0.mk (below_step B.out hb); have n1_ := Aside0.mk (blk_below BP.out hb); have n2_ := Aside0.mk (Kd.S_below SW.out hb); have n3_ := Aside0.mk (Kd.R_below OW.out hb); have n4_ := Aside0.mk (Kd.R_below FW.out hb); have n5_ := Aside0.mk (blk_below BW.out hb); have n6_ := Aside0.mk (Kd.S_below SX.out hb); have n7_ := Aside0.mk (Kd.R_below OX.out hb); have n8_ := Aside0.mk (Kd.R_below FX.out hb); have n9_ := Aside0.mk (Nat.le_trans ZX.out hb.size); clear B BP SW OW FW BW SX OX FX ZX; have B := n0_; have BP := n1_; have SW := n2_; have OW := n3_; have FW := n4_; have BW := n5_; have SX := n6_; have OX := n7_; have FX := n8_; have ZX := n9_; clear n0_ n1_ n2_ n3_ n4_ n5_ n6_ n7_ n8_ n9_ hb; have BX := hp_; have ZBX := hz_; clear hp_ hz_; have zBX0 := IsPg.x0 BX.out; have zBX1 := IsPg.x1 BX.out; have zBX2 := IsPg.x2 BX.out; have zBX3 := IsPg.x3 BX.out; have zBX4 := IsPg.x4 BX.out) | (go_at_call 25; refine (impl_PopName.calls a6 n6 t1 a7 n7 t2 a8 n8 t3 t4 t5 u p1 p2 p3 p4 p5 _ (Kd.S_reads' SX.out).2.2 (Kd.S_reads' SX.out).2.1 (Kd.R_reads' OX.out).2.2 (Kd.R_reads' OX.out).2.1 (Kd.R_reads' FX.out).2.2 (Kd.R_reads' FX.out).2.1 XC.out).mono ?_; rintro e w7 ⟨v0, v1, v2, rfl, hS, hO, hF, hb⟩; obtain ⟨a9, n9, rfl⟩ := Kd.S_slice hS; obtain ⟨a10, n10, rfl⟩ := Kd.R_slice hO; obtain ⟨a11, n11, rfl⟩ := Kd.R_slice hF; have hs_ := Aside0.mk (Kd.S_lower (Kd.S_mono (ok' := fun k => w6.heap.size ≤ k ∧ k < w7.heap.size ∧ some k ≠ (Value.slice a10 p2.length n10 : Value).ownBlock ∧ some k ≠ (Value.slice a11 p3.length n11 : Value).ownBlock) (Kd.S_bound hS) (fun k hk => ⟨hk.2.1, hk.2.2.1, hk.1.1, hk.1.2⟩)) B.out.size); have ho_ := Aside0.mk (Kd.R_lower (Kd.R_mono (ok' := fun k => w6.heap.size ≤ k ∧ k < w7.heap.size ∧ some k = (Value.slice a10 p2.length n10 : Value).ownBlock ∧ some k ≠ (Value.slice a11 p3.length n11 : Value).ownBlock) (Kd.R_tight rfl hO) (fun k hk => by have h_ := (Kd.R_bound hO).1 k hk.symm; exact ⟨h_.2.1, h_.2.2.1, hk, h_.1⟩)) B.out.size); have hf_ := Aside0.mk (Kd.R_lower (Kd.R_mono (ok' := fun k => w6.heap.size ≤ k ∧ k < w7.heap.size ∧ some k = (Value.slice a11 p3.length n11 : Value).ownBlock ∧ some k ≠ (Value.slice a10 p2.length n10 : Value).ownBlock) (Kd.R_tight rfl hF) (fun k hk => by have h_ := (Kd.R_bound hF).1 k hk.symm; exact ⟨h_.2.1, h_.2.2.1, hk, h_.1⟩)) B.out.size); clear hS hO hF; have M67 := Aside0.mk hb.size; clear zBX0 zBX1 zBX2 zBX3 zBX4; have n0_ := Aside0.mk (below_step B.out hb); have n1_ := Aside0.mk (blk_below BP.out hb); have n2_ := Aside0.mk (Kd.S_below SW.out hb); have n3_ := Aside0.mk (Kd.R_below OW.out hb); have n4_ := Aside0.mk (Kd.R_below FW.out hb); have n5_ := Aside0.mk (blk_below BW.out hb); have n6_ := Aside0.mk (Kd.S_below SX.out hb); have n7_ := Aside0.mk (Kd.R_below OX.out hb); have n8_ := Aside0.mk (Kd.R_below FX.out hb); have n9_ := Aside0.mk (Nat.le_trans ZX.out hb.size); have n10_ := Aside0.mk (blk_below BX.out hb); clear B BP SW OW FW BW SX OX FX ZX BX; have B := n0_; have BP := n1_; have SW := n2_; have OW := n3_; have FW := n4_; have BW := n5_; have SX := n6_; have OX := n7_; have FX := n8_; have ZX := n9_; have BX := n10_; clear n0_ n1_ n2_ n3_ n4_ n5_ n6_ n7_ n8_ n9_ n10_ hb; have SG := hs_; have OG := ho_; have FG := hf_; clear hs_ ho_ hf_; have Z := Aside0.mk (Nat.le_refl w7.heap.size)) | ((with_reducible refine gate_store (t := 25) (p := 8) rfl ?_); refine store_event (t := 25) (p := 8) (v := ?vo8_) (w1 := ?w18_) ?hg ?ho ?hn ?hr ?_; (case ho => rfl); (case hg => rfl); (case hn => rfl); (case hr => go_simp; rfl); intro w8 hw_; have hb := (show Below w7.heap.size w7 w8 by rw [hw_]; exact (Below.refl w7.heap.size w7).alloc (Nat.le_refl _) _); have hp_ := Aside0.mk (show IsPg w8 w7.heap.size a9 n9 p1 a10 n10 p2 a11 n11 p3 p4 p5 by rw [hw_]; exact blk_new _ _); have hz_ := Aside0.mk hb.size; clear hw_; have n0_ := Aside0.mk (below_step B.out hb); have n1_ := Aside0.mk (blk_below BP.out hb); have n2_ := Aside0.mk (Kd.S_below SW.out hb); have n3_ := Aside0.mk (Kd.R_below OW.out hb); have n4_ := Aside0.mk (Kd.R_below FW.out hb); have n5_ := Aside0.mk (blk_below BW.out hb); have n6_ := Aside0.mk (Kd.S_below SX.out hb); have n7_ := Aside0.mk (Kd.R_below OX.out hb); have n8_ := Aside0.mk (Kd.R_below FX.out hb); have n9_ := Aside0.mk (Nat.le_trans ZX.out hb.size); have n10_ := Aside0.mk (blk_below BX.out hb); have n11_ := Aside0.mk (Kd.S_below SG.out hb); have n12_ := Aside0.mk (Kd.R_below OG.out hb); have n13_ := Aside0.mk (Kd.R_below FG.out hb); have n14_ := Aside0.mk (Nat.le_trans Z.out hb.size); clear B BP SW OW FW BW SX OX FX ZX BX SG OG FG Z; have B := n0_; have BP := n1_; have SW := n2_; have OW := n3_; have FW := n4_; have BW := n5_; have SX := n6_; have OX := n7_; have FX := n8_; have ZX := n9_; have BX := n10_; have SG := n11_; have OG := n12_; have FG := n13_; have Z := n14_; clear n0_ n1_ n2_ n3_ n4_ n5_ n6_ n7_ n8_ n9_ n10_ n11_ n12_ n13_ n14_ hb; have BG := hp_; have ZBG := hz_; clear hp_ hz_; have zBG0 := IsPg.x0 BG.out; have zBG1 := IsPg.x1 BG.out; have zBG2 := IsPg.x2 BG.out; have zBG3 := IsPg.x3 BG.out; have zBG4 := IsPg.x4 BG.out; have zBW0 := IsPg.x0 BW.out; have zBW1 := IsPg.x1 BW.out; have zBW2 := IsPg.x2 BW.out; have zBW3 := IsPg.x3 BW.out; have zBW4 := IsPg.x4 BW.out) | (go_at_call 11; refine (laws_eqPage.calls k a9 n9 p1 a10 n10 p2 a11 n11 p3 p4 p5 a3 n3 s1 a4 n4 s2 a5 n5 s3 s4 s5 true _ (Kd.S_reads' SG.out).2.2 (Kd.S_reads' SG.out).2.1 (Kd.R_reads' OG.out).2.2 (Kd.R_reads' OG.out).2.1 (Kd.R_reads' FG.out).2.2 (Kd.R_reads' FG.out).2.1 (Kd.S_reads' SW.out).2.2 (Kd.S_reads' SW.out).2.1 (Kd.R_reads' OW.out).2.2 (Kd.R_reads' OW.out).2.1 (Kd.R_reads' FW.out).2.2 (Kd.R_reads' FW.out).2.1 A3.out).mono ?_; rintro e w9 ⟨rfl, hb⟩; clear zBG0 zBG1 zBG2 zBG3 zBG4 zBW0 zBW1 zBW2 zBW3 zBW4; have n0_ := Aside0.mk (below_step B.out hb); have n1_ := Aside0.mk (blk_below BP.out hb); have n2_ := Aside0.mk (Kd.S_below SW.out hb); have n3_ := Aside0.mk (Kd.R_below OW.out hb); have n4_ := Aside0.mk (Kd.R_below FW.out hb); have n5_ := Aside0.mk (blk_below BW.out hb); have n6_ := Aside0.mk (Kd.S_below SX.out hb); have n7_ := Aside0.mk (Kd.R_below OX.out hb); have n8_ := Aside0.mk (Kd.R_below FX.out hb); have n9_ := Aside0.mk (Nat.le_trans ZX.out hb.size); have n10_ := Aside0.mk (blk_below BX.out hb); have n11_ := Aside0.mk (Kd.S_below SG.out hb); have n12_ := Aside0.mk (Kd.R_below OG.out hb); have n13_ := Aside0.mk (Kd.R_below FG.out hb); have n14_ := Aside0.mk (Nat.le_trans Z.out hb.size); have n15_ := Aside0.mk (blk_below BG.out hb); clear B BP SW OW FW BW SX OX FX ZX BX SG OG FG Z BG; have B := n0_; have BP := n1_; have SW := n2_; have OW := n3_; have FW := n4_; have BW := n5_; have SX := n6_; have OX := n7_; have FX := n8_; have ZX := n9_; have BX := n10_; have SG := n11_; have OG := n12_; have FG := n13_; have Z := n14_; have BG := n15_; clear n0_ n1_ n2_ n3_ n4_ n5_ n6_ n7_ n8_ n9_ n10_ n11_ n12_ n13_ n14_ n15_ hb))
 have n0_ := Aside0.mk (b1_ B.out)
 have n1_ := Aside0.mk (dd_ BP.out)
 have n2_ := Aside0.mk (Kd.S_drew SW.out)
 have n3_ := Aside0.mk (Kd.R_drew OW.out)
 have n4_ := Aside0.mk (Kd.R_drew FW.out)
 have n5_ := Aside0.mk (dd_ BW.out)
 have n6_ := Aside0.mk (Kd.S_drew SX.out)
 have n7_ := Aside0.mk (Kd.R_drew OX.out)
 have n8_ := Aside0.mk (Kd.R_drew FX.out)
 have n9_ := Aside0.mk (size_drew_ ZX.out)
 have n10_ := Aside0.mk (dd_ BX.out)
 have n11_ := Aside0.mk (Kd.S_drew SG.out)
 have n12_ := Aside0.mk (Kd.R_drew OG.out)
 have n13_ := Aside0.mk (Kd.R_drew FG.out)
 have n14_ := Aside0.mk (size_drew_ Z.out)
 have n15_ := Aside0.mk (dd_ BG.out)
 clear B BP SW OW FW BW SX OX FX ZX BX SG OG FG Z BG
 have B := n0_
 have BP := n1_
 have SW := n2_
 have OW := n3_
 have FW := n4_
 have BW := n5_
 have SX := n6_
 have OX := n7_
 have FX := n8_
 have ZX := n9_
 have BX := n10_
 have SG := n11_
 have OG := n12_
 have FG := n13_
 have Z := n14_
 have BG := n15_
 clear n0_ n1_ n2_ n3_ n4_ n5_ n6_ n7_ n8_ n9_ n10_ n11_ n12_ n13_ n14_ n15_
 refine start_ (n := 5) (S := fun w' => w'.cell? ⟨w5.heap.size, 0, none⟩ = some (.slice a6 t1.length n6) ∧ w'.cell? ⟨w5.heap.size, 1, none⟩ = some (.slice a7 t2.length n7) ∧ w'.cell? ⟨w5.heap.size, 2, none⟩ = some (.slice a8 t3.length n8) ∧ w'.cell? ⟨w5.heap.size, 3, none⟩ = some (.int .i64 t4) ∧ w'.cell? ⟨w5.heap.size, 4, none⟩ = some (.int .i64 t5) ∧ w'.cell? ⟨gp, 0, none⟩ = some (.slice A0 l.length c0) ∧ w'.cell? ⟨gp, 1, none⟩ = some (.slice A1 o.length c1) ∧ w'.cell? ⟨gp, 2, none⟩ = some (.slice A2 f.length c2) ∧ w'.cell? ⟨gp, 3, none⟩ = some (.int .i64 a) ∧ w'.cell? ⟨gp, 4, none⟩ = some (.int .i64 b)) (ds := []) #[false, false, false, false, false] (by kernel_rfl) rfl rfl ⟨IsPg.x0 BX.out, IsPg.x1 BX.out, IsPg.x2 BX.out, IsPg.x3 BX.out, IsPg.x4 BX.out, IsPl.x0 BP.out, IsPl.x1 BP.out, IsPl.x2 BP.out, IsPl.x3 BP.out, IsPl.x4 BP.out⟩ (fun hHeld => ?_)
 generalize w9.drew = w10 at B BP SW OW FW BW SX OX FX ZX BX SG OG FG Z BG hHeld ⊢
 refine take_ (i := 0) (N := some 34) (v := ?_) (a' := ?_) #[true, false, false, false, false] rfl rfl (by kernel_rfl) (fun _ _ _ h => h) (Or.inl ⟨by rfl, ?_⟩) hHeld ?_ ?_
 rotate_left
 ·rintro w' ⟨s0_, s1_, s2_, s3_, s4_, s5_, s6_, s7_, s8_, s9_⟩
  go_simp
  with_reducible rfl
 rotate_left
 ·simp only [Act.put, sa_, sz_, ss_, i64_w, i32_w]
  rfl
 refine take_ (i := 1) (N := some 35) (v := ?_) (a' := ?_) #[true, true, false, false, false] rfl rfl (by kernel_rfl) (fun _ _ _ h => h) (Or.inl ⟨by rfl, ?_⟩) hHeld ?_ ?_
 rotate_left
 ·rintro w' ⟨s0_, s1_, s2_, s3_, s4_, s5_, s6_, s7_, s8_, s9_⟩
  go_simp
  with_reducible rfl
 rotate_left
 ·simp only [Act.put, sa_, sz_, ss_, i64_w, i32_w]
  rfl
 refine one_ (i := 2) (N := some 36) #[true, true, true, false, false] rfl rfl (by kernel_rfl) (by decide) (fun K hK => ?_)
 refine goes_ Try.func16 (by kernel_rfl) rfl #[.agg #[.slice A0 l.length c0, .slice A1 o.length c1, .slice A2 f.length c2, .int .i64 a, .int .i64 b]] (by rfl) rfl rfl (by (try simp only [List.map_toArray, List.map_cons, List.map_nil]); first | done | rfl | (simp only [List.length_drop, List.length_take]; rfl)) ?_
 refine (laws_toPage.calls k A0 c0 l A1 c1 o A2 c2 f a b t1 t2 t3 t4 t5 _ (Kd.C_below H0.out B.out) HC0.out (Kd.C_below H1.out B.out) HC1.out (Kd.C_below H2.out B.out) HC2.out XA.out).mono ?_
 rintro e w11 ⟨v0, v1, v2, rfl, hS, hO, hF, hb⟩
 refine ⟨_, rfl, ?_⟩
 obtain ⟨a12, n12, rfl⟩ := Kd.S_slice hS
 obtain ⟨a13, n13, rfl⟩ := Kd.R_slice hO
 obtain ⟨a14, n14, rfl⟩ := Kd.R_slice hF
 have hs_ := Aside0.mk (Kd.S_mono (ok' := fun k => k < w11.heap.size) (Kd.S_bound hS) (fun k hk => hk.2.2.1))
 have ho_ := Aside0.mk (Kd.R_mono (ok' := fun k => k < w11.heap.size) (Kd.R_bound hO) (fun k hk => hk.2.2.1))
 have hf_ := Aside0.mk (Kd.R_mono (ok' := fun k => k < w11.heap.size) (Kd.R_bound hF) (fun k hk => hk.2.2.1))
 clear hS hO hF
 have n0_ := Aside0.mk (below_step B.out hb)
 have n1_ := Aside0.mk (blk_below BP.out hb)
 have n2_ := Aside0.mk (Kd.S_below SW.out hb)
 have n3_ := Aside0.mk (Kd.R_below OW.out hb)
 have n4_ := Aside0.mk (Kd.R_below FW.out hb)
 have n5_ := Aside0.mk (blk_below BW.out hb)
 have n6_ := Aside0.mk (Kd.S_below SX.out hb)
 have n7_ := Aside0.mk (Kd.R_below OX.out hb)
 have n8_ := Aside0.mk (Kd.R_below FX.out hb)
 have n9_ := Aside0.mk (Nat.le_trans ZX.out hb.size)
 have n10_ := Aside0.mk (blk_below BX.out hb)
 have n11_ := Aside0.mk (Kd.S_below SG.out hb)
 have n12_ := Aside0.mk (Kd.R_below OG.out hb)
 have n13_ := Aside0.mk (Kd.R_below FG.out hb)
 have n14_ := Aside0.mk (Nat.le_trans Z.out hb.size)
 have n15_ := Aside0.mk (blk_below BG.out hb)
 clear B BP SW OW FW BW SX OX FX ZX BX SG OG FG Z BG
 have B := n0_
 have BP := n1_
 have SW := n2_
 have OW := n3_
 have FW := n4_
 have BW := n5_
 have SX := n6_
 have OX := n7_
 have FX := n8_
 have ZX := n9_
 have BX := n10_
 have SG := n11_
 have OG := n12_
 have FG := n13_
 have Z := n14_
 have BG := n15_
 clear n0_ n1_ n2_ n3_ n4_ n5_ n6_ n7_ n8_ n9_ n10_ n11_ n12_ n13_ n14_ n15_ hb
 have SC := hs_
 have OC := ho_
 have FC := hf_
 clear hs_ ho_ hf_
 refine hK.out _ _ ⟨IsPg.x0 BX.out, IsPg.x1 BX.out, IsPg.x2 BX.out, IsPg.x3 BX.out, IsPg.x4 BX.out, IsPl.x0 BP.out, IsPl.x1 BP.out, IsPl.x2 BP.out, IsPl.x3 BP.out, IsPl.x4 BP.out⟩ (fun hHeld => ?_)
 clear hK K
 refine norm_ (a' := ?_) ?_ ?_
 rotate_left
 ·show Act.put _ (some 36) _ = _
  simp only [Act.put, sa_, sz_, ss_, i64_w, i32_w]
  rfl
 refine one_ (i := 3) (N := some 37) #[true, true, true, true, false] rfl rfl (by kernel_rfl) (by decide) (fun K hK => ?_)
 refine goes_ Try.func11 (by kernel_rfl) rfl #[.agg #[.slice a6 t1.length n6, .slice a7 t2.length n7, .slice a8 t3.length n8, .int .i64 t4, .int .i64 t5], .agg #[.slice a12 t1.length n12, .slice a13 t2.length n13, .slice a14 t3.length n14, .int .i64 t4, .int .i64 t5]] (by rfl) rfl rfl (by (try simp only [List.map_toArray, List.map_cons, List.map_nil]); first | done | rfl | (simp only [List.length_drop, List.length_take]; rfl)) ?_
 refine (laws_eqPage.calls k a6 n6 t1 a7 n7 t2 a8 n8 t3 t4 t5 a12 n12 t1 a13 n13 t2 a14 n14 t3 t4 t5 true _ (Kd.S_reads' SX.out).2.2 (Kd.S_reads' SX.out).2.1 (Kd.R_reads' OX.out).2.2 (Kd.R_reads' OX.out).2.1 (Kd.R_reads' FX.out).2.2 (Kd.R_reads' FX.out).2.1 (Kd.S_reads' SC.out).2.2 (Kd.S_reads' SC.out).2.1 (Kd.R_reads' OC.out).2.2 (Kd.R_reads' OC.out).2.1 (Kd.R_reads' FC.out).2.2 (Kd.R_reads' FC.out).2.1 A3b.out).mono ?_
 rintro e w12 ⟨rfl, hb⟩
 refine ⟨_, rfl, ?_⟩
 clear SC OC FC
 have n0_ := Aside0.mk (below_step B.out hb)
 have n1_ := Aside0.mk (blk_below BP.out hb)
 have n2_ := Aside0.mk (Kd.S_below SW.out hb)
 have n3_ := Aside0.mk (Kd.R_below OW.out hb)
 have n4_ := Aside0.mk (Kd.R_below FW.out hb)
 have n5_ := Aside0.mk (blk_below BW.out hb)
 have n6_ := Aside0.mk (Kd.S_below SX.out hb)
 have n7_ := Aside0.mk (Kd.R_below OX.out hb)
 have n8_ := Aside0.mk (Kd.R_below FX.out hb)
 have n9_ := Aside0.mk (Nat.le_trans ZX.out hb.size)
 have n10_ := Aside0.mk (blk_below BX.out hb)
 have n11_ := Aside0.mk (Kd.S_below SG.out hb)
 have n12_ := Aside0.mk (Kd.R_below OG.out hb)
 have n13_ := Aside0.mk (Kd.R_below FG.out hb)
 have n14_ := Aside0.mk (Nat.le_trans Z.out hb.size)
 have n15_ := Aside0.mk (blk_below BG.out hb)
 clear B BP SW OW FW BW SX OX FX ZX BX SG OG FG Z BG
 have B := n0_
 have BP := n1_
 have SW := n2_
 have OW := n3_
 have FW := n4_
 have BW := n5_
 have SX := n6_
 have OX := n7_
 have FX := n8_
 have ZX := n9_
 have BX := n10_
 have SG := n11_
 have OG := n12_
 have FG := n13_
 have Z := n14_
 have BG := n15_
 clear n0_ n1_ n2_ n3_ n4_ n5_ n6_ n7_ n8_ n9_ n10_ n11_ n12_ n13_ n14_ n15_ hb
 refine hK.out _ _ ⟨IsPg.x0 BX.out, IsPg.x1 BX.out, IsPg.x2 BX.out, IsPg.x3 BX.out, IsPg.x4 BX.out, IsPl.x0 BP.out, IsPl.x1 BP.out, IsPl.x2 BP.out, IsPl.x3 BP.out, IsPl.x4 BP.out⟩ (fun hHeld => ?_)
 clear hK K
 refine norm_ (a' := ?_) ?_ ?_
 rotate_left
 ·show Act.put _ (some 37) _ = _
  simp only [Act.put, sa_, sz_, ss_, i64_w, i32_w]
  rfl
 refine pure_ (i := 4) (N := some 38) (v := ?_) (a' := ?_) #[true, true, true, true, true] rfl rfl (by kernel_rfl) (fun _ _ _ h => h) (Or.inl ⟨by rfl, ?_⟩) ?_ ?_
 rotate_left
 ·intro w'
  go_simp
  with_reducible rfl
 rotate_left
 ·simp only [Act.put, sa_, sz_, ss_, i64_w, i32_w]
  rfl
 refine done_ (by kernel_rfl) ?_
 clear hHeld
 have zBX0 := IsPg.x0 BX.out
 have zBX1 := IsPg.x1 BX.out
 have zBX2 := IsPg.x2 BX.out
 have zBX3 := IsPg.x3 BX.out
 have zBX4 := IsPg.x4 BX.out
 go_wp2_with (go_at_call 12; refine (laws_markPage.calls k (fun k => w4.heap.size ≤ k ∧ k < w5.heap.size ∧ some k ≠ (Value.slice a7 t2.length n7 : Value).ownBlock ∧ some k ≠ (Value.slice a8 t3.length n8 : Value).ownBlock) (fun k => w4.heap.size ≤ k ∧ k < w5.heap.size ∧ some k = (Value.slice a7 t2.length n7 : Value).ownBlock ∧ some k ≠ (Value.slice a8 t3.length n8 : Value).ownBlock) (fun k => w4.heap.size ≤ k ∧ k < w5.heap.size ∧ some k = (Value.slice a8 t3.length n8 : Value).ownBlock ∧ some k ≠ (Value.slice a7 t2.length n7 : Value).ownBlock) a6 n6 t1 a7 n7 t2 a8 n8 t3 t4 t5 1 m0 M0_ o0 f0 w _ B.out (fun k h3 => Nat.lt_of_lt_of_le (by rcases h3 with h | h | h <;> exact h.2.1) ZX.out) (fun k h1 h2 => h1.2.2.1 h2.2.2.1) (fun k h1 h2 => h1.2.2.2 h2.2.2.1) (fun k h1 h2 => h1.2.2.2 h2.2.2.1) SX.out OX.out FX.out A4a.out).mono ?_; rintro e w13 ⟨rfl, hM, hO, hF, hb, hk⟩; clear hM hO hF; clear zBX0 zBX1 zBX2 zBX3 zBX4; have n0_ := Aside0.mk (Kd.S_step SW.out (fun k h1 h2 => hk.2 k h2 (fun h3 => absurd (Nat.lt_of_lt_of_le h1 ZBW.out) (Nat.not_lt.2 (by rcases h3 with h | h | h <;> exact h.1))))); have n1_ := Aside0.mk (Kd.R_step OW.out (fun k h1 h2 => hk.2 k h2 (fun h3 => absurd (Nat.lt_of_lt_of_le h1 ZBW.out) (Nat.not_lt.2 (by rcases h3 with h | h | h <;> exact h.1))))); have n2_ := Aside0.mk (Kd.R_step FW.out (fun k h1 h2 => hk.2 k h2 (fun h3 => absurd (Nat.lt_of_lt_of_le h1 ZBW.out) (Nat.not_lt.2 (by rcases h3 with h | h | h <;> exact h.1))))); have n3_ := Aside0.mk ((hk.2 _ (blk_lt BW.out) (fun h3 => absurd (LW.out) (Nat.not_lt.2 (by rcases h3 with h | h | h <;> exact h.1)))).trans BW.out); have n4_ := Aside0.mk ((hk.2 _ (blk_lt BP.out) (fun h3 => absurd (Nat.lt_of_lt_of_le (Nat.lt_of_lt_of_le LP.out M0.out) ZBW.out) (Nat.not_lt.2 (by rcases h3 with h | h | h <;> exact h.1)))).trans BP.out); have n5_ := Aside0.mk ((hk.2 _ (blk_lt BG.out) (fun h3 => absurd (by rcases h3 with h | h | h <;> exact h.2.1) (Nat.not_lt.2 (Nat.le_trans ZBX.out M67.out)))).trans BG.out); have n6_ := Aside0.mk (Kd.S_step SG.out (fun k h1 h2 => hk.2 k h2 (fun h3 => absurd (by rcases h3 with h | h | h <;> exact h.2.1) (Nat.not_lt.2 (Nat.le_trans ZBX.out h1.1))))); have n7_ := Aside0.mk (Kd.R_step OG.out (fun k h1 h2 => hk.2 k h2 (fun h3 => absurd (by rcases h3 with h | h | h <;> exact h.2.1) (Nat.not_lt.2 (Nat.le_trans ZBX.out h1.1))))); have n8_ := Aside0.mk (Kd.R_step FG.out (fun k h1 h2 => hk.2 k h2 (fun h3 => absurd (by rcases h3 with h | h | h <;> exact h.2.1) (Nat.not_lt.2 (Nat.le_trans ZBX.out h1.1))))); have n9_ := Aside0.mk (hb); have n10_ := Aside0.mk (Nat.le_trans Z.out hk.1); clear B BP SW OW FW BW SX OX FX ZX BX SG OG FG Z BG hb hk; have SW := n0_; have OW := n1_; have FW := n2_; have BW := n3_; have BP := n4_; have BG := n5_; have SG := n6_; have OG := n7_; have FG := n8_; have B := n9_; have Z := n10_; clear n0_ n1_ n2_ n3_ n4_ n5_ n6_ n7_ n8_ n9_ n10_; have zBG0 := IsPg.x0 BG.out; have zBG1 := IsPg.x1 BG.out; have zBG2 := IsPg.x2 BG.out; have zBG3 := IsPg.x3 BG.out; have zBG4 := IsPg.x4 BG.out; have zBW0 := IsPg.x0 BW.out; have zBW1 := IsPg.x1 BW.out; have zBW2 := IsPg.x2 BW.out; have zBW3 := IsPg.x3 BW.out; have zBW4 := IsPg.x4 BW.out)
 go_wp2_with (go_at_call 11; refine (laws_eqPage.calls k a9 n9 p1 a10 n10 p2 a11 n11 p3 p4 p5 a3 n3 s1 a4 n4 s2 a5 n5 s3 s4 s5 true _ (Kd.S_reads' SG.out).2.2 (Kd.S_reads' SG.out).2.1 (Kd.R_reads' OG.out).2.2 (Kd.R_reads' OG.out).2.1 (Kd.R_reads' FG.out).2.2 (Kd.R_reads' FG.out).2.1 (Kd.S_reads' SW.out).2.2 (Kd.S_reads' SW.out).2.1 (Kd.R_reads' OW.out).2.2 (Kd.R_reads' OW.out).2.1 (Kd.R_reads' FW.out).2.2 (Kd.R_reads' FW.out).2.1 A3.out).mono ?_; rintro e w14 ⟨rfl, hb⟩; clear zBG0 zBG1 zBG2 zBG3 zBG4 zBW0 zBW1 zBW2 zBW3 zBW4; have n0_ := Aside0.mk (below_step B.out hb); have n1_ := Aside0.mk (Kd.S_below SW.out hb); have n2_ := Aside0.mk (Kd.R_below OW.out hb); have n3_ := Aside0.mk (Kd.R_below FW.out hb); have n4_ := Aside0.mk (blk_below BW.out hb); have n5_ := Aside0.mk (blk_below BP.out hb); have n6_ := Aside0.mk (blk_below BG.out hb); have n7_ := Aside0.mk (Kd.S_below SG.out hb); have n8_ := Aside0.mk (Kd.R_below OG.out hb); have n9_ := Aside0.mk (Kd.R_below FG.out hb); have n10_ := Aside0.mk (Nat.le_trans Z.out hb.size); clear B SW OW FW BW BP BG SG OG FG Z; have B := n0_; have SW := n1_; have OW := n2_; have FW := n3_; have BW := n4_; have BP := n5_; have BG := n6_; have SG := n7_; have OG := n8_; have FG := n9_; have Z := n10_; clear n0_ n1_ n2_ n3_ n4_ n5_ n6_ n7_ n8_ n9_ n10_ hb; have zBG0 := IsPg.x0 BG.out; have zBG1 := IsPg.x1 BG.out; have zBG2 := IsPg.x2 BG.out; have zBG3 := IsPg.x3 BG.out; have zBG4 := IsPg.x4 BG.out)
 go_wp2_with (go_at_call 12; refine (laws_markPage.calls k (fun k => w6.heap.size ≤ k ∧ k < w7.heap.size ∧ some k ≠ (Value.slice a10 p2.length n10 : Value).ownBlock ∧ some k ≠ (Value.slice a11 p3.length n11 : Value).ownBlock) (fun k => w6.heap.size ≤ k ∧ k < w7.heap.size ∧ some k = (Value.slice a10 p2.length n10 : Value).ownBlock ∧ some k ≠ (Value.slice a11 p3.length n11 : Value).ownBlock) (fun k => w6.heap.size ≤ k ∧ k < w7.heap.size ∧ some k = (Value.slice a11 p3.length n11 : Value).ownBlock ∧ some k ≠ (Value.slice a10 p2.length n10 : Value).ownBlock) a9 n9 p1 a10 n10 p2 a11 n11 p3 p4 p5 1 mm M o2 f2 w _ B.out (fun k h3 => Nat.lt_of_lt_of_le (by rcases h3 with h | h | h <;> exact h.2.1) Z.out) (fun k h1 h2 => h1.2.2.1 h2.2.2.1) (fun k h1 h2 => h1.2.2.2 h2.2.2.1) (fun k h1 h2 => h1.2.2.2 h2.2.2.1) SG.out OG.out FG.out A4.out).mono ?_; rintro e w15 ⟨rfl, hM, hO, hF, hb, hk⟩; have HL0 := Aside0.mk (MK.len hM); have HBG := Aside0.mk (Kd.S_reads' SG.out).2.2.2.1; have HM := Aside0.mk hM; have hl1 := (Kd.R_reads' hO).1; have hl2 := (Kd.R_reads' hF).1; rw [hl1] at hO; rw [hl2] at hF; have HL1 := Aside0.mk hl1; have HL2 := Aside0.mk hl2; have R5 := Aside0.mk hO; have R6 := Aside0.mk hF; clear zBG0 zBG1 zBG2 zBG3 zBG4; have n0_ := Aside0.mk (Kd.S_step SW.out (fun k h1 h2 => hk.2 k h2 (fun h3 => absurd (Nat.lt_of_lt_of_le h1 (Nat.le_trans ZBW.out (Nat.le_trans M45.out ZBX.out))) (Nat.not_lt.2 (by rcases h3 with h | h | h <;> exact h.1))))); have n1_ := Aside0.mk (Kd.R_step OW.out (fun k h1 h2 => hk.2 k h2 (fun h3 => absurd (Nat.lt_of_lt_of_le h1 (Nat.le_trans ZBW.out (Nat.le_trans M45.out ZBX.out))) (Nat.not_lt.2 (by rcases h3 with h | h | h <;> exact h.1))))); have n2_ := Aside0.mk (Kd.R_step FW.out (fun k h1 h2 => hk.2 k h2 (fun h3 => absurd (Nat.lt_of_lt_of_le h1 (Nat.le_trans ZBW.out (Nat.le_trans M45.out ZBX.out))) (Nat.not_lt.2 (by rcases h3 with h | h | h <;> exact h.1))))); have n3_ := Aside0.mk ((hk.2 _ (blk_lt BW.out) (fun h3 => absurd (Nat.lt_of_lt_of_le LW.out (Nat.le_trans M45.out ZBX.out)) (Nat.not_lt.2 (by rcases h3 with h | h | h <;> exact h.1)))).trans BW.out); have n4_ := Aside0.mk ((hk.2 _ (blk_lt BP.out) (fun h3 => absurd (Nat.lt_of_lt_of_le (Nat.lt_of_lt_of_le LP.out M0.out) (Nat.le_trans ZBW.out (Nat.le_trans M45.out ZBX.out))) (Nat.not_lt.2 (by rcases h3 with h | h | h <;> exact h.1)))).trans BP.out); have n5_ := Aside0.mk ((hk.2 _ (blk_lt BG.out) (fun h3 => absurd (by rcases h3 with h | h | h <;> exact h.2.1) (Nat.lt_irrefl w7.heap.size))).trans BG.out); have n6_ := Aside0.mk (hb); have n7_ := Aside0.mk (Nat.le_trans Z.out hk.1); clear B SW OW FW BW BP BG SG OG FG Z hM hO hF hl1 hl2 hb hk; have SW := n0_; have OW := n1_; have FW := n2_; have BW := n3_; have BP := n4_; have BG := n5_; have B := n6_; have Z := n7_; clear n0_ n1_ n2_ n3_ n4_ n5_ n6_ n7_; have zBG0 := IsPg.x0 BG.out; have zBG1 := IsPg.x1 BG.out; have zBG2 := IsPg.x2 BG.out; have zBG3 := IsPg.x3 BG.out; have zBG4 := IsPg.x4 BG.out)
 go_wp2_with (go_at_call 13; have HH := laws_heldPage.calls k a9 n9 M a10 n10 o2 a11 n11 f2 p4 p5 1 mm _ (MK.C HM.out HBG.out).1 (MK.C HM.out HBG.out).2 (Kd.R_reads' R5.out).2.2 (Kd.R_reads' R5.out).2.1 (Kd.R_reads' R6.out).2.2 (Kd.R_reads' R6.out).2.1 A5.out; rw [← HL0.out, ← HL1.out, ← HL2.out] at HH; refine HH.mono ?_; clear HH; rintro e w16 ⟨rfl, hb⟩; clear zBG0 zBG1 zBG2 zBG3 zBG4; have n0_ := Aside0.mk (below_step B.out hb); have n1_ := Aside0.mk (Kd.S_below SW.out hb); have n2_ := Aside0.mk (Kd.R_below OW.out hb); have n3_ := Aside0.mk (Kd.R_below FW.out hb); have n4_ := Aside0.mk (blk_below BW.out hb); have n5_ := Aside0.mk (blk_below BP.out hb); have n6_ := Aside0.mk (blk_below BG.out hb); have n7_ := Aside0.mk (Nat.le_trans Z.out hb.size); have n8_ := Aside0.mk (MK.move HM.out (fun k hk => hb.block k (Nat.lt_of_lt_of_le hk.2.1 Z.out))); have n9_ := Aside0.mk (Kd.R_below R5.out hb); have n10_ := Aside0.mk (Kd.R_below R6.out hb); clear B SW OW FW BW BP BG Z HM R5 R6; have B := n0_; have SW := n1_; have OW := n2_; have FW := n3_; have BW := n4_; have BP := n5_; have BG := n6_; have Z := n7_; have HM := n8_; have R5 := n9_; have R6 := n10_; clear n0_ n1_ n2_ n3_ n4_ n5_ n6_ n7_ n8_ n9_ n10_ hb; have zBP0 := IsPl.x0 BP.out; have zBP1 := IsPl.x1 BP.out; have zBP2 := IsPl.x2 BP.out; have zBP3 := IsPl.x3 BP.out; have zBP4 := IsPl.x4 BP.out)
 go_wp2_with (first | (go_at_call 16; refine (laws_toPage.calls k A0 c0 l A1 c1 o A2 c2 f a b t1 t2 t3 t4 t5 _ (Kd.C_below H0.out B.out) HC0.out (Kd.C_below H1.out B.out) HC1.out (Kd.C_below H2.out B.out) HC2.out XA.out).mono ?_; rintro e w17 ⟨v0, v1, v2, rfl, hS, hO, hF, hb⟩; obtain ⟨a15, n15, rfl⟩ := Kd.S_slice hS; obtain ⟨a16, n16, rfl⟩ := Kd.R_slice hO; obtain ⟨a17, n17, rfl⟩ := Kd.R_slice hF; have hs_ := Aside0.mk (Kd.S_mono (ok' := fun k => k < w17.heap.size) (Kd.S_bound hS) (fun k hk => hk.2.2.1)); have ho_ := Aside0.mk (Kd.R_mono (ok' := fun k => k < w17.heap.size) (Kd.R_bound hO) (fun k hk => hk.2.2.1)); have hf_ := Aside0.mk (Kd.R_mono (ok' := fun k => k < w17.heap.size) (Kd.R_bound hF) (fun k hk => hk.2.2.1)); clear hS hO hF; clear zBP0 zBP1 zBP2 zBP3 zBP4; have n0_ := Aside0.mk (below_step B.out hb); have n1_ := Aside0.mk (Kd.S_below SW.out hb); have n2_ := Aside0.mk (Kd.R_below OW.out hb); have n3_ := Aside0.mk (Kd.R_below FW.out hb); have n4_ := Aside0.mk (blk_below BW.out hb); have n5_ := Aside0.mk (blk_below BP.out hb); have n6_ := Aside0.mk (blk_below BG.out hb); have n7_ := Aside0.mk (Nat.le_trans Z.out hb.size); have n8_ := Aside0.mk (MK.move HM.out (fun k hk => hb.block k (Nat.lt_of_lt_of_le hk.2.1 Z.out))); have n9_ := Aside0.mk (Kd.R_below R5.out hb); have n10_ := Aside0.mk (Kd.R_below R6.out hb); clear B SW OW FW BW BP BG Z HM R5 R6; have B := n0_; have SW := n1_; have OW := n2_; have FW := n3_; have BW := n4_; have BP := n5_; have BG := n6_; have Z := n7_; have HM := n8_; have R5 := n9_; have R6 := n10_; clear n0_ n1_ n2_ n3_ n4_ n5_ n6_ n7_ n8_ n9_ n10_ hb; have SY := hs_; have OY := ho_; have FY := hf_; clear hs_ ho_ hf_) | (go_at_call 25; refine (impl_PopName.calls a15 n15 t1 a16 n16 t2 a17 n17 t3 t4 t5 u p1 p2 p3 p4 p5 _ (Kd.S_reads' SY.out).2.2 (Kd.S_reads' SY.out).2.1 (Kd.R_reads' OY.out).2.2 (Kd.R_reads' OY.out).2.1 (Kd.R_reads' FY.out).2.2 (Kd.R_reads' FY.out).2.1 XC.out).mono ?_; rintro e w18 ⟨v0, v1, v2, rfl, hS, hO, hF, hb⟩; obtain ⟨a18, n18, rfl⟩ := Kd.S_slice hS; obtain ⟨a19, n19, rfl⟩ := Kd.R_slice hO; obtain ⟨a20, n20, rfl⟩ := Kd.R_slice hF; have hs_ := Aside0.mk (Kd.S_mono (ok' := fun k => k < w18.heap.size) (Kd.S_bound hS) (fun k hk => hk.2.2.1)); have ho_ := Aside0.mk (Kd.R_mono (ok' := fun k => k < w18.heap.size) (Kd.R_bound hO) (fun k hk => hk.2.2.1)); have hf_ := Aside0.mk (Kd.R_mono (ok' := fun k => k < w18.heap.size) (Kd.R_bound hF) (fun k hk => hk.2.2.1)); clear hS hO hF; have n0_ := Aside0.mk (below_step B.out hb); have n1_ := Aside0.mk (Kd.S_below SW.out hb); have n2_ := Aside0.mk (Kd.R_below OW.out hb); have n3_ := Aside0.mk (Kd.R_below FW.out hb); have n4_ := Aside0.mk (blk_below BW.out hb); have n5_ := Aside0.mk (blk_below BP.out hb); have n6_ := Aside0.mk (blk_below BG.out hb); have n7_ := Aside0.mk (Nat.le_trans Z.out hb.size); have n8_ := Aside0.mk (MK.move HM.out (fun k hk => hb.block k (Nat.lt_of_lt_of_le hk.2.1 Z.out))); have n9_ := Aside0.mk (Kd.R_below R5.out hb); have n10_ := Aside0.mk (Kd.R_below R6.out hb); have n11_ := Aside0.mk (Kd.S_below SY.out hb); have n12_ := Aside0.mk (Kd.R_below OY.out hb); have n13_ := Aside0.mk (Kd.R_below FY.out hb); clear B SW OW FW BW BP BG Z HM R5 R6 SY OY FY; have B := n0_; have SW := n1_; have OW := n2_; have FW := n3_; have BW := n4_; have BP := n5_; have BG := n6_; have Z := n7_; have HM := n8_; have R5 := n9_; have R6 := n10_; have SY := n11_; have OY := n12_; have FY := n13_; clear n0_ n1_ n2_ n3_ n4_ n5_ n6_ n7_ n8_ n9_ n10_ n11_ n12_ n13_ hb; have SH := hs_; have OH := ho_; have FH := hf_; clear hs_ ho_ hf_; clear SY OY FY) | ((with_reducible refine gate_store (t := 25) (p := 12) rfl ?_); refine store_event (t := 25) (p := 12) (v := ?vo12_) (w1 := ?w112_) ?hg ?ho ?hn ?hr ?_; (case ho => rfl); (case hg => rfl); (case hn => rfl); (case hr => go_simp; rfl); intro w19 hw_; have hb := (show Below w18.heap.size w18 w19 by rw [hw_]; exact (Below.refl w18.heap.size w18).alloc (Nat.le_refl _) _); have hp_ := Aside0.mk (show IsPg w19 w18.heap.size a18 n18 p1 a19 n19 p2 a20 n20 p3 p4 p5 by rw [hw_]; exact blk_new _ _); have hz_ := Aside0.mk hb.size; clear hw_; have n0_ := Aside0.mk (below_step B.out hb); have n1_ := Aside0.mk (Kd.S_below SW.out hb); have n2_ := Aside0.mk (Kd.R_below OW.out hb); have n3_ := Aside0.mk (Kd.R_below FW.out hb); have n4_ := Aside0.mk (blk_below BW.out hb); have n5_ := Aside0.mk (blk_below BP.out hb); have n6_ := Aside0.mk (blk_below BG.out hb); have n7_ := Aside0.mk (Nat.le_trans Z.out hb.size); have n8_ := Aside0.mk (MK.move HM.out (fun k hk => hb.block k (Nat.lt_of_lt_of_le hk.2.1 Z.out))); have n9_ := Aside0.mk (Kd.R_below R5.out hb); have n10_ := Aside0.mk (Kd.R_below R6.out hb); have n11_ := Aside0.mk (Kd.S_below SH.out hb); have n12_ := Aside0.mk (Kd.R_below OH.out hb); have n13_ := Aside0.mk (Kd.R_below FH.out hb); clear B SW OW FW BW BP BG Z HM R5 R6 SH OH FH; have B := n0_; have SW := n1_; have OW := n2_; have FW := n3_; have BW := n4_; have BP := n5_; have BG := n6_; have Z := n7_; have HM := n8_; have R5 := n9_; have R6 := n10_; have SH := n11_; have OH := n12_; have FH := n13_; clear n0_ n1_ n2_ n3_ n4_ n5_ n6_ n7_ n8_ n9_ n10_ n11_ n12_ n13_ hb; have BH := hp_; have ZBH := hz_; clear hp_ hz_; have zBH0 := IsPg.x0 BH.out; have zBH1 := IsPg.x1 BH.out; have zBH2 := IsPg.x2 BH.out; have zBH3 := IsPg.x3 BH.out; have zBH4 := IsPg.x4 BH.out; have zBW0 := IsPg.x0 BW.out; have zBW1 := IsPg.x1 BW.out; have zBW2 := IsPg.x2 BW.out; have zBW3 := IsPg.x3 BW.out; have zBW4 := IsPg.x4 BW.out))
 go_wp2_with (go_at_call 11; refine (laws_eqPage.calls k a18 n18 p1 a19 n19 p2 a20 n20 p3 p4 p5 a3 n3 s1 a4 n4 s2 a5 n5 s3 s4 s5 true _ (Kd.S_reads' SH.out).2.2 (Kd.S_reads' SH.out).2.1 (Kd.R_reads' OH.out).2.2 (Kd.R_reads' OH.out).2.1 (Kd.R_reads' FH.out).2.2 (Kd.R_reads' FH.out).2.1 (Kd.S_reads' SW.out).2.2 (Kd.S_reads' SW.out).2.1 (Kd.R_reads' OW.out).2.2 (Kd.R_reads' OW.out).2.1 (Kd.R_reads' FW.out).2.2 (Kd.R_reads' FW.out).2.1 A3.out).mono ?_; rintro e w20 ⟨rfl, hb⟩; clear zBH0 zBH1 zBH2 zBH3 zBH4 zBW0 zBW1 zBW2 zBW3 zBW4; have n0_ := Aside0.mk (below_step B.out hb); have n1_ := Aside0.mk (Kd.S_below SW.out hb); have n2_ := Aside0.mk (Kd.R_below OW.out hb); have n3_ := Aside0.mk (Kd.R_below FW.out hb); have n4_ := Aside0.mk (blk_below BW.out hb); have n5_ := Aside0.mk (blk_below BP.out hb); have n6_ := Aside0.mk (blk_below BG.out hb); have n7_ := Aside0.mk (Nat.le_trans Z.out hb.size); have n8_ := Aside0.mk (MK.move HM.out (fun k hk => hb.block k (Nat.lt_of_lt_of_le hk.2.1 Z.out))); have n9_ := Aside0.mk (Kd.R_below R5.out hb); have n10_ := Aside0.mk (Kd.R_below R6.out hb); have n11_ := Aside0.mk (Kd.S_below SH.out hb); have n12_ := Aside0.mk (Kd.R_below OH.out hb); have n13_ := Aside0.mk (Kd.R_below FH.out hb); have n14_ := Aside0.mk (blk_below BH.out hb); clear B SW OW FW BW BP BG Z HM R5 R6 SH OH FH BH; have B := n0_; have SW := n1_; have OW := n2_; have FW := n3_; have BW := n4_; have BP := n5_; have BG := n6_; have Z := n7_; have HM := n8_; have R5 := n9_; have R6 := n10_; have SH := n11_; have OH := n12_; have FH := n13_; have BH := n14_; clear n0_ n1_ n2_ n3_ n4_ n5_ n6_ n7_ n8_ n9_ n10_ n11_ n12_ n13_ n14_ hb; have zBG0 := IsPg.x0 BG.out; have zBG1 := IsPg.x1 BG.out; have zBG2 := IsPg.x2 BG.out; have zBG3 := IsPg.x3 BG.out; have zBG4 := IsPg.x4 BG.out)
 go_wp2_with (go_at_call 13; have HH := laws_heldPage.calls k a9 n9 M a10 n10 o2 a11 n11 f2 p4 p5 1 mm _ (MK.C HM.out HBG.out).1 (MK.C HM.out HBG.out).2 (Kd.R_reads' R5.out).2.2 (Kd.R_reads' R5.out).2.1 (Kd.R_reads' R6.out).2.2 (Kd.R_reads' R6.out).2.1 A5.out; rw [← HL0.out, ← HL1.out, ← HL2.out] at HH; refine HH.mono ?_; clear HH; rintro e w21 ⟨rfl, hb⟩; clear zBG0 zBG1 zBG2 zBG3 zBG4; have n0_ := Aside0.mk (below_step B.out hb); have n1_ := Aside0.mk (Kd.S_below SW.out hb); have n2_ := Aside0.mk (Kd.R_below OW.out hb); have n3_ := Aside0.mk (Kd.R_below FW.out hb); have n4_ := Aside0.mk (blk_below BW.out hb); have n5_ := Aside0.mk (blk_below BP.out hb); have n6_ := Aside0.mk (blk_below BG.out hb); have n7_ := Aside0.mk (Nat.le_trans Z.out hb.size); have n8_ := Aside0.mk (MK.move HM.out (fun k hk => hb.block k (Nat.lt_of_lt_of_le hk.2.1 Z.out))); have n9_ := Aside0.mk (Kd.R_below R5.out hb); have n10_ := Aside0.mk (Kd.R_below R6.out hb); have n11_ := Aside0.mk (Kd.S_below SH.out hb); have n12_ := Aside0.mk (Kd.R_below OH.out hb); have n13_ := Aside0.mk (Kd.R_below FH.out hb); have n14_ := Aside0.mk (blk_below BH.out hb); clear B SW OW FW BW BP BG Z HM R5 R6 SH OH FH BH; have B := n0_; have SW := n1_; have OW := n2_; have FW := n3_; have BW := n4_; have BP := n5_; have BG := n6_; have Z := n7_; have HM := n8_; have R5 := n9_; have R6 := n10_; have SH := n11_; have OH := n12_; have FH := n13_; have BH := n14_; clear n0_ n1_ n2_ n3_ n4_ n5_ n6_ n7_ n8_ n9_ n10_ n11_ n12_ n13_ n14_ hb)
 go_ret
 exact ⟨by first | rfl | (simp; done), B.out⟩
end Go.Proofs.Ytedeliggbjbngaa.PFnExactPopName
