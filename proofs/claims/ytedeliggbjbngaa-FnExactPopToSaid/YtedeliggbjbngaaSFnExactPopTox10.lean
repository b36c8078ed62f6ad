-- Written by this session's program wip/slim.py: the print's texts (with contracts of our own), only what this row needs, shortened. Lean checks it.
import Derived.Test.YtedeliggbjbngaaSFnExactPopTox0
import Derived.Test.YtedeliggbjbngaaSFnExactPopTox3
import Derived.Test.YtedeliggbjbngaaSFnExactPopTox9
namespace Go.Proofs.Ytedeliggbjbngaa.PFnExactPopTo
open Go.RowKit Go.Proofs.YtedeliggbjbngaaW.PrintWords Go.Proofs.YtedeliggbjbngaaW.PrintLast Go.Proofs.YtedeliggbjbngaaW.PrintMore
attribute [local go_sem] max2_int min2_int max_two min_two max_three min_three max_four min_four
set_option linter.unusedVariables false
set_option linter.unusedSimpArgs false
def PRGc (W : World) (g n : Nat) (p : List (Nat × Value)) : Prop := ∀ x ∈ p, W.cell? ⟨g, n * 7 + x.1, none⟩ = some x.2
theorem PRGc.none_ (W : World) (g n : Nat) : PRGc W g n [] := fun x hx => absurd hx (by simp)
theorem PRGc.add {W : World} {g n o : Nat} {p : List (Nat × Value)} {u : Value} (h : PRGc W g n p) (hc : W.cell? ⟨g, n * 7 + o, none⟩ = some u) : PRGc W g n ((o, u) :: p) := fun x hx => by
 rcases List.mem_cons.1 hx with e | hx
 ·subst e; exact hc
 ·exact h x hx
theorem PRGc.set {W : World} {g n o : Nat} {p : List (Nat × Value)} {u u0 : Value} (h : PRGc W g n p) (ho : ∀ x ∈ p, x.1 ≠ o) (hc : W.cell? ⟨g, n * 7 + o, none⟩ = some u0) : PRGc (W.setCell ⟨g, n * 7 + o, none⟩ u) g n ((o, u) :: p) := fun x hx => by
 rcases List.mem_cons.1 hx with e | hx
 ·subst e; exact World.cell?_setCell_same _ _ _ hc
 ·rw [World.cell?_setCell_other _ _ _ _ (fun e => ho x hx (by injection e with _ e _; omega))]
  exact h x hx
theorem PRGc.below {W W1 : World} {g n : Nat} {p : List (Nat × Value)} (h : PRGc W g n p) (hb : Below W.heap.size W W1) : PRGc W1 g n p := fun x hx => pw_cell_below hb (h x hx)
def MDc (W : World) (base g : Nat) (Q : Nat → Nat → Prop) (M : List (S45)) : Prop := ∀ j, j < M.length → ∃ va vk, PRGc W g j [(0, .int .i64 (rd_T45 M (j : Int)).f0), (1, .int .i64 (rd_T45 M (j : Int)).f1), (2, .string (rd_T45 M (j : Int)).f2), (3, va), (4, .string (rd_T45 M (j : Int)).f4), (5, .int .i64 (rd_T45 M (j : Int)).f5), (6, vk)] ∧ Kd.R k79 79 W base (Q j) va (rd_T45 M (j : Int)).f3 ∧ Kd.R (Kd.int .i64) 3 W base (Q j) vk (rd_T45 M (j : Int)).f6
theorem MDc.set {W : World} {base g o : Nat} {Q : Nat → Nat → Prop} {M : List (S45)} {u : Value} (h : MDc W base g Q M) (hQ : ∀ j k, Q j k → k ≠ g) (ho : M.length * 7 ≤ o) : MDc (W.setCell ⟨g, o, none⟩ u) base g Q M := fun j hj => by
 obtain ⟨va, vk, hp, hA, hK⟩ := h j hj
 refine ⟨va, vk, fun x hx => ?_, Kd.R_far (p := ⟨g, o, none⟩) hA (fun k hk => hQ j k hk) u, Kd.R_far (p := ⟨g, o, none⟩) hK (fun k hk => hQ j k hk) u⟩
 have hx7 : x.1 < 7 := by
  simp only [List.mem_cons, List.not_mem_nil, or_false] at hx
  rcases hx with e | e | e | e | e | e | e <;> (subst e; show _ < 7; omega)
 rw [World.cell?_setCell_other _ _ _ _ (fun e => by injection e with _ e _; omega)]
 exact hp x hx
theorem MDc.below {W W1 : World} {base g : Nat} {Q : Nat → Nat → Prop} {M : List (S45)} (h : MDc W base g Q M) (hb : Below W.heap.size W W1) : MDc W1 base g Q M := fun j hj => by
 obtain ⟨va, vk, hp, hA, hK⟩ := h j hj
 exact ⟨va, vk, hp.below hb, Kd.R_below hA hb, Kd.R_below hK hb⟩
theorem MDc.snoc {W : World} {base g : Nat} {Q : Nat → Nat → Prop} {M : List (S45)} (h : MDc W base g Q M) (x : S45) {va vk : Value} (hp : PRGc W g M.length [(0, .int .i64 x.f0), (1, .int .i64 x.f1), (2, .string x.f2), (3, va), (4, .string x.f4), (5, .int .i64 x.f5), (6, vk)]) (hA : Kd.R k79 79 W base (Q M.length) va x.f3) (hK : Kd.R (Kd.int .i64) 3 W base (Q M.length) vk x.f6) : MDc W base g Q (M ++ [x]) := fun j hj => by
 rw [List.length_append] at hj
 simp only [List.length_cons, List.length_nil] at hj
 by_cases c : j < M.length
 ·have e : rd_T45 (M ++ [x]) (j : Int) = rd_T45 M (j : Int) := by
   unfold rd_T45
   rw [Int.toNat_natCast, List.getD_eq_getElem?_getD, List.getD_eq_getElem?_getD, List.getElem?_append_left c]
  rw [e]
  exact h j c
 ·have c2 : j = M.length := by omega
  subst c2
  have e : rd_T45 (M ++ [x]) ((M.length : Nat) : Int) = x := by
   unfold rd_T45
   rw [Int.toNat_natCast, List.getD_eq_getElem?_getD, List.getElem?_append_right (Nat.le_refl _), Nat.sub_self]
   rfl
  rw [e]
  exact ⟨va, vk, hp, hA, hK⟩
theorem cell_setc {W : World} {g o o2 : Nat} {u v : Value} (h : W.cell? ⟨g, o, none⟩ = some v) (ho : o ≠ o2) : (W.setCell ⟨g, o2, none⟩ u).cell? ⟨g, o, none⟩ = some v := (World.cell?_setCell_other _ _ _ _ (fun e => ho (by injection e with _ e _; exact e.symm))).trans h
theorem size_setc {W : World} {n : Nat} (h : n ≤ W.heap.size) (p : Addr) (u : Value) : n ≤ (W.setCell p u).heap.size := by simpa using h
theorem MDc.mono {W : World} {base g : Nat} {Q Q' : Nat → Nat → Prop} {M : List (S45)} (h : MDc W base g Q M) (hQ : ∀ j k, j < M.length → Q j k → Q' j k) : MDc W base g Q' M := fun j hj => by
 obtain ⟨va, vk, hp, hA, hK⟩ := h j hj
 exact ⟨va, vk, hp, Kd.R_mono hA (fun k hk => hQ j k hj hk), Kd.R_mono hK (fun k hk => hQ j k hj hk)⟩
theorem rdc_at {l : List (S45)} {j : Nat} {p : S45} (hp : l[j]? = some p) : rd_T45 l (j : Int) = p := by
 unfold rd_T45
 rw [Int.toNat_natCast, List.getD_eq_getElem?_getD, hp]
 rfl
theorem rdc_take {l : List (S45)} {n : Nat} (hn : n < l.length) : l.take (n + 1) = l.take n ++ [rd_T45 l (n : Int)] := by
 rw [rdc_at (List.getElem?_eq_getElem hn), List.take_add_one, List.getElem?_eq_getElem hn]
 rfl
def RDc (w W : World) (g n : Nat) (l : List (S45)) : Prop := ∀ j p, n ≤ j → l[j]? = some p → ∃ cs, k45.K w p cs ∧ ∀ i u, cs[i]? = some u → W.cell? ⟨g, j * 7 + i, none⟩ = some u
theorem RDc.below {w W W1 : World} {g n : Nat} {l : List (S45)} (h : RDc w W g n l) (hb : Below W.heap.size W W1) : RDc w W1 g n l := fun j p hn hp => by
 obtain ⟨cs, hk, hc⟩ := h j p hn hp
 exact ⟨cs, hk, fun i u hu => pw_cell_below hb (hc i u hu)⟩
theorem RDc.set {w W : World} {g n : Nat} {l : List (S45)} (h : RDc w W g n l) (o : Nat) (ho : o < n * 7) (u0 : Value) : RDc w (W.setCell ⟨g, o, none⟩ u0) g n l := fun j p hn hp => by
 obtain ⟨cs, hk, hc⟩ := h j p hn hp
 refine ⟨cs, hk, fun i u hu => ?_⟩
 rw [World.cell?_setCell_other _ _ _ _ (fun e => by injection e with _ e _; omega)]
 exact hc i u hu
theorem RDc.next {w W : World} {g n : Nat} {l : List (S45)} (h : RDc w W g n l) : RDc w W g (n + 1) l := fun j p hn hp => h j p (by omega) hp
theorem RDc.at_ {w W : World} {g n : Nat} {l : List (S45)} (h : RDc w W g n l) (hn : n < l.length) : ∃ A3 c3 A6 c6, PRGc W g n [(0, .int .i64 (rd_T45 l (n : Int)).f0), (1, .int .i64 (rd_T45 l (n : Int)).f1), (2, .string (rd_T45 l (n : Int)).f2), (4, .string (rd_T45 l (n : Int)).f4), (5, .int .i64 (rd_T45 l (n : Int)).f5)] ∧ W.cell? ⟨g, n * 7 + 3, none⟩ = some (.slice A3 (rd_T45 l (n : Int)).f3.length c3) ∧ W.cell? ⟨g, n * 7 + 6, none⟩ = some (.slice A6 (rd_T45 l (n : Int)).f6.length c6) ∧ (rd_T45 l (n : Int)).f3.length ≤ c3 ∧ k79.C w A3 (rd_T45 l (n : Int)).f3.length (rd_T45 l (n : Int)).f3 ∧ (rd_T45 l (n : Int)).f6.length ≤ c6 ∧ (Kd.int .i64).C w A6 (rd_T45 l (n : Int)).f6.length (rd_T45 l (n : Int)).f6 := by
 rw [rdc_at (List.getElem?_eq_getElem hn)]
 obtain ⟨cs, hk, hc⟩ := h n _ (Nat.le_refl _) (List.getElem?_eq_getElem hn)
 obtain ⟨A3, c3, A6, c6, rfl, l3, g3, l6, g6⟩ := k45_open hk
 refine ⟨A3, c3, A6, c6, fun x hx => ?_, hc 3 _ rfl, hc 6 _ rfl, l3, g3, l6, g6⟩
 simp only [List.mem_cons, List.not_mem_nil, or_false] at hx
 rcases hx with e | e | e | e | e <;> subst e
 ·exact hc 0 _ rfl
 ·exact hc 1 _ rfl
 ·exact hc 2 _ rfl
 ·exact hc 4 _ rfl
 ·exact hc 5 _ rfl
def CGc (W : World) (g cap : Nat) : Prop := ∃ cells : Array Value, W.heap[g]? = some (.cells cells 45 (0, 0)) ∧ cells.size = cap * 7
theorem CGc.below {W W1 : World} {g cap : Nat} (h : CGc W g cap) (hb : Below W.heap.size W W1) : CGc W1 g cap := by
 obtain ⟨cells, hc, hs⟩ := h
 exact ⟨cells, blk_below hc hb, hs⟩
theorem CGc.set {W : World} {g cap : Nat} (h : CGc W g cap) (o : Nat) (u : Value) : CGc (W.setCell ⟨g, o, none⟩ u) g cap := by
 obtain ⟨cells, hc, hs⟩ := h
 exact ⟨cells.setIfInBounds o u, blk_set hc o u, by simpa using hs⟩
theorem CGc.lt {W : World} {g cap : Nat} (h : CGc W g cap) : g < W.heap.size := by
 obtain ⟨cells, hc, _⟩ := h
 exact blk_lt hc
theorem CGc.cell {W : World} {g cap : Nat} (h : CGc W g cap) (o : Nat) (ho : o < cap * 7) : ∃ u, W.cell? ⟨g, o, none⟩ = some u := by
 obtain ⟨cells, hc, hs⟩ := h
 exact ⟨cells[o]'(by omega), (bc_ hc o).trans (Array.getElem?_eq_getElem (by omega))⟩
theorem CGc.frozen {W : World} {g cap : Nat} (h : CGc W g cap) (o : Nat) : W.frozen? ⟨g, o, none⟩ = false := by
 obtain ⟨cells, hc, _⟩ := h
 exact blk_frozen hc o
def QOc (W : World) (g : Nat) (Q : Nat → Nat → Prop) : Prop := (∀ i j k, Q i k → Q j k → i = j) ∧ ∀ j k, Q j k → k < W.heap.size ∧ k ≠ g
theorem S_of_MDc {W : World} {base g cap : Nat} {Q : Nat → Nat → Prop} {l : List (S45)} (hg : CGc W g cap) (hcap : l.length ≤ cap) (hmx : cap ≤ maxLen) (hb : base ≤ g) (hQ : QOc W g Q) (h : MDc W base g Q l) : Kd.S k45 45 W base (fun _ => True) (.slice (some ⟨g, 0, none⟩) l.length cap) l := by
 classical
 obtain ⟨cells, hc, hsz⟩ := hg
 have hl7 : (cells.toList.take (l.length * 7)).length = l.length * 7 := by
  rw [List.length_take, Array.length_toList (xs := cells), hsz]
  omega
 refine ⟨fun k => if h : ∃ j, Q j k then Classical.choose h else 0, fun _ _ => trivial, cells.toList.take (l.length * 7), ⟨by rw [List.length_zipIdx]; exact hl7, .inr ⟨g, cap, cells, by rw [List.length_zipIdx], hb, hc, by rw [List.length_zipIdx]; exact hcap, hmx, hsz, by rw [List.length_zipIdx]; rfl⟩⟩, by rw [List.length_zipIdx]; exact hl7, fun j p hp => ?_⟩
 ·rw [List.getElem?_zipIdx] at hp
  obtain ⟨x, hx, rfl⟩ := Option.map_eq_some_iff.1 hp
  have hj := (List.getElem?_eq_some_iff.1 hx).1
  obtain ⟨va, vk, hpr, hA, hK⟩ := h j hj
  rw [rdc_at hx] at hpr hA hK
  have e7 : (Kd.tag (fun k => if h : ∃ j, Q j k then Classical.choose h else 0) k45).sz = 7 := rfl
  rw [e7]
  have el : (List.drop (j * 7) (cells.toList.take (l.length * 7))).take 7 = [.int .i64 x.f0, .int .i64 x.f1, .string x.f2, va, .string x.f4, .int .i64 x.f5, vk] := by
   have hat : ∀ i, i < 7 → ((List.drop (j * 7) (cells.toList.take (l.length * 7))).take 7)[i]? = W.cell? ⟨g, j * 7 + i, none⟩ := fun i hi => by
    rw [List.getElem?_take, if_pos hi, List.getElem?_drop, List.getElem?_take, if_pos (by omega), Array.getElem?_toList, bc_ hc]
   apply List.ext_getElem?
   intro i
   by_cases hi : i < 7
   ·rw [hat i hi]
    match i, hi with
    | 0, _ => exact hpr (0, _) (by simp)
    | 1, _ => exact hpr (1, _) (by simp)
    | 2, _ => exact hpr (2, _) (by simp)
    | 3, _ => exact hpr (3, _) (by simp)
    | 4, _ => exact hpr (4, _) (by simp)
    | 5, _ => exact hpr (5, _) (by simp)
    | 6, _ => exact hpr (6, _) (by simp)
   ·rw [List.getElem?_eq_none (by rw [List.length_take]; omega), List.getElem?_eq_none (by simp; omega)]
  rw [el]
  have hf : ∀ k, Q j k → (if h : ∃ j, Q j k then Classical.choose h else 0) = j := fun k hk => by
   rw [dif_pos ⟨j, hk⟩]
   exact hQ.1 _ _ k (Classical.choose_spec (⟨j, hk⟩ : ∃ j, Q j k)) hk
  have hq : ∀ k, Q j k → ((True ∧ some k ≠ (Value.slice (some ⟨g, 0, none⟩) l.length cap).ownBlock) ∧ (if h : ∃ j, Q j k then Classical.choose h else 0) = (x, 0 + j).2) := fun k hk => ⟨⟨trivial, fun e => (hQ.2 j k hk).2 (by simpa [Value.ownBlock] using e)⟩, by rw [hf k hk]; exact (Nat.zero_add j).symm⟩
  exact k45_mkM W base _ x (Kd.R_mono hA hq) (Kd.R_mono hK hq)
def impl_copyItems.f (l0 : List (S45)) : Option (List (S45)) := if l0.length < 1353245080339 ∧ ∀ x ∈ l0, x.f3.length < 4398046511104 ∧ x.f6.length < 17592186044416 then some l0 else none
set_option maxHeartbeats 8000000 in
set_option maxRecDepth 100000 in
theorem impl_copyItems.calls (A0 : Option Addr) (c0 : Nat) (l0 : List (S45)) (r : List (S45)) (w : World) (hr0 : Kd.C k45 w A0 l0.length l0) (hc0 : l0.length ≤ c0) (h : impl_copyItems.f l0 = some r) :
  Calls Try.prog 58 #[.slice A0 l0.length c0] w fun e w' => ∃ v0_ : Value, e = .returned (v0_) ∧ Kd.S k45 45 w' w.heap.size (fun _ => True) v0_ r ∧ Below w.heap.size w w' := by
 unfold impl_copyItems.f at h
 by_cases c1 : l0.length < 1353245080339 ∧ ∀ x ∈ l0, x.f3.length < 4398046511104 ∧ x.f6.length < 17592186044416
 rotate_left
 ·rw [if_neg c1] at h; exact absurd h (by simp)
 rw [if_pos c1] at h
 obtain rfl := Option.some.inj h
 have HL := Aside0.mk c1
 have HX := Aside0.mk (show impl_Item.f l0 = some l0 by unfold impl_Item.f; rw [if_pos c1.1])
 have HR := Aside0.mk hr0
 have HC := Aside0.mk hc0
 clear h c1 hr0 hc0
 go_enter Try.func58, Try.ntmps58
 go_wp2_with (go_at_call 70; refine (impl_Item.calls A0 c0 l0 l0 _ HR.out HC.out HX.out).mono ?_; rintro e w1 ⟨v, rfl, hci, hb⟩; obtain ⟨A1, c1, rfl⟩ := CI.slice hci; have HCI := Aside0.mk hci; have HB := Aside0.mk hb; clear hci hb)
 rcases HCI.out with ⟨e0, e1⟩ | ⟨g, cap, cells, e1, hbg, hc, hcap, hmx, hsz, hcl⟩
 ·subst e0
  injection e1 with e1 _ e2
  subst e1
  subst e2
  go_loopg [9] 0 (fun kq v9 w' => v9 = .int .i64 0 ∧ w' = w1)
  case atStart => exact ⟨rfl, rfl⟩
  case round =>
   obtain ⟨rfl, rfl⟩ := hrel
   go_wp2
   go_ret
   exact ⟨_, by first | rfl | (simp; done), ⟨fun _ => 0, Kd.R_nil _ _ _ _ _⟩, HB.out⟩
 injection e1 with e1 _ e2
 subst e1
 replace e2 := e2.symm
 subst e2
 have HBG := Aside0.mk hbg
 have HCAP := Aside0.mk hcap
 have HMX := Aside0.mk hmx
 have HG := Aside0.mk (show CGc w1 g cap from ⟨cells, hc, hsz⟩)
 have HD := Aside0.mk (show RDc w w1 g 0 l0 from fun j p _ hp => by obtain ⟨cs, hk, hu⟩ := hcl j p hp; exact ⟨cs, hk, fun i u h => (bc_ hc _).trans (hu i u h)⟩)
 clear HCI hbg hc hcap hmx hsz hcl HX
 go_loopg [9] l0.length (fun kq v9 w' => ∃ (n : Nat) (Q : Nat → Nat → Prop), v9 = .int .i64 (n : Int) ∧ Aside0 (kq + n = l0.length) ∧ Aside0 (Below w.heap.size w w') ∧ Aside0 (CGc w' g cap) ∧ Aside0 (RDc w w' g n l0) ∧ Aside0 (QOc w' g Q) ∧ Aside0 (MDc w' w.heap.size g Q (l0.take n)))
 case atStart => exact ⟨0, fun _ _ => False, rfl, ⟨rfl⟩, HB, HG, HD, ⟨fun _ _ _ h => h.elim, fun _ _ h => h.elim⟩, ⟨fun j hj => absurd hj (by simp)⟩⟩
 case round =>
  clear HB HG HD
  obtain ⟨n, Q, rfl, HN, HB, HG, HD, HQ, HMD⟩ := hrel
  by_cases ct : (n : Int) < (l0.length : Int)
  rotate_left
  ·have c3b0 : decide ((n : Int) < (l0.length : Int)) = false := decide_eq_false ct
   have c3b1 : decide (n < l0.length) = false := decide_eq_false (by omega)
   have HE := Aside0.mk (show l0.take n = l0 from List.take_of_length_le (by omega))
   clear ct
   go_wp2
   go_ret
   exact ⟨_, by first | rfl | (simp; done), S_of_MDc HG.out HCAP.out HMX.out HBG.out HQ.out (by have h := HMD.out; rw [HE.out] at h; exact h), HB.out⟩
  have c3b0 : decide ((n : Int) < (l0.length : Int)) = true := decide_eq_true ct
  have c3b1 : decide (n < l0.length) = true := decide_eq_true (by omega)
  have HNL := Aside0.mk (show n < l0.length by omega)
  have HNC := Aside0.mk (show n < cap by have := HCAP.out; omega)
  have HTL := Aside0.mk (show (l0.take n).length = n by rw [List.length_take]; omega)
  have p0 : ((0 : Int) ≤ (n : Int)) = True := eq_true (by omega)
  have q0 : ((n : Int) < (l0.length : Int)) = True := eq_true ct
  have HW := Aside0.mk (show wrap64 ((n : Int) + 1) = ((n + 1 : Nat) : Int) by have := HL.out.1; unfold wrap64; omega)
  obtain ⟨A3, c3, A6, c6, hpr, hv3, hv6, hl3, hg3, hl6, hg6⟩ := RDc.at_ HD.out HNL.out
  have hin : (rd_T45 l0 (n : Int)) ∈ l0 := by
   rw [rdc_at (List.getElem?_eq_getElem HNL.out)]
   exact List.getElem_mem _
  have HAX := Aside0.mk (show impl_copyAttrs.f (rd_T45 l0 (n : Int)).f3 = some (rd_T45 l0 (n : Int)).f3 by unfold impl_copyAttrs.f impl_Attr.f; rw [if_pos (HL.out.2 _ hin).1]; rfl)
  have HKX := Aside0.mk (show slices_Clone_int_int.f (rd_T45 l0 (n : Int)).f6 = some (rd_T45 l0 (n : Int)).f6 by unfold slices_Clone_int_int.f; rw [if_pos (HL.out.2 _ hin).2])
  have HAC := Aside0.mk hg3
  have HAL := Aside0.mk hl3
  have HKC := Aside0.mk hg6
  have HKL := Aside0.mk hl6
  have HF := Aside0.mk hpr
  have HV6 := Aside0.mk hv6
  have HZ := Aside0.mk (Nat.le_refl wr.heap.size)
  have HGW := Aside0.mk (CGc.lt HG.out)
  have n0_ := Aside0.mk (RDc.next HD.out)
  clear HD
  have HD := n0_
  clear n0_ ct hpr hv6 hl3 hg3 hl6 hg6 hin
  go_wp2_with (first | (go_at_call 71; refine (impl_copyAttrs.calls A3 c3 (rd_T45 l0 (n : Int)).f3 (rd_T45 l0 (n : Int)).f3 _ (Kd.C_below HAC.out HB.out) HAL.out HAX.out).mono ?_; rintro e w2 ⟨vA, rfl, hr_, hb⟩; obtain ⟨AA7, cA7, rfl⟩ := Kd.R_slice hr_; have HRA := Aside0.mk (Kd.R_mono (ok' := fun k => wr.heap.size ≤ k) (Kd.R_lower (Kd.R_bound hr_) HB.out.size) (fun k hk => Nat.le_trans HZ.out hk.2.1)); have n0_ := Aside0.mk (CGc.below HG.out hb); have n1_ := Aside0.mk (RDc.below HD.out hb); have n2_ := Aside0.mk (MDc.below HMD.out hb); have n3_ := Aside0.mk (PRGc.below HF.out hb); have n4_ := Aside0.mk (below_step HB.out hb); have n5_ := Aside0.mk (Nat.le_trans HZ.out hb.size); have n6_ := Aside0.mk (pw_cell_below hb HV6.out); clear HG HD HMD HF HB HZ HV6; have HG := n0_; have HD := n1_; have HMD := n2_; have HF := n3_; have HB := n4_; have HZ := n5_; have HV6 := n6_; clear n0_ n1_ n2_ n3_ n4_ n5_ n6_; clear hr_ hb) | ((with_reducible refine gate_store (t := 43) (p := 21) rfl ?_); obtain ⟨u3_, hu3_⟩ := CGc.cell HG.out (n * 7 + 3) (by have := HNC.out; omega); have hf3_ := CGc.frozen HG.out (n * 7 + 3); refine store_event (t := 43) (p := 21) (v := ?vo_3) (w1 := ?w1_3) ?hg ?ho ?hn ?hr ?_; (case ho => rfl); (case hg => rfl); (case hn => rfl); (case hr => go_simp; rfl); intro w3 hw3; subst hw3; have n0_ := Aside0.mk (CGc.set HG.out (n * 7 + 3) ((.slice AA7 (rd_T45 l0 (n : Int)).f3.length cA7))); have n1_ := Aside0.mk (RDc.set HD.out (n * 7 + 3) (by omega) ((.slice AA7 (rd_T45 l0 (n : Int)).f3.length cA7))); have n2_ := Aside0.mk (MDc.set (o := n * 7 + 3) (u := (.slice AA7 (rd_T45 l0 (n : Int)).f3.length cA7)) HMD.out (fun j k hk => (HQ.out.2 j k hk).2) (by have := HTL.out; omega)); have n3_ := Aside0.mk (PRGc.set (o := 3) (u := (.slice AA7 (rd_T45 l0 (n : Int)).f3.length cA7)) HF.out (by simp) hu3_); have n4_ := Aside0.mk (Below.setCell HB.out (p := ⟨g, n * 7 + 3, none⟩) HBG.out ((.slice AA7 (rd_T45 l0 (n : Int)).f3.length cA7))); have n5_ := Aside0.mk (size_setc HZ.out ⟨g, n * 7 + 3, none⟩ ((.slice AA7 (rd_T45 l0 (n : Int)).f3.length cA7))); have n6_ := Aside0.mk (Kd.R_far (p := ⟨g, n * 7 + 3, none⟩) HRA.out (fun k hk => Nat.ne_of_gt (Nat.lt_of_lt_of_le HGW.out hk)) ((.slice AA7 (rd_T45 l0 (n : Int)).f3.length cA7))); have n7_ := Aside0.mk (cell_setc (o2 := n * 7 + 3) (u := (.slice AA7 (rd_T45 l0 (n : Int)).f3.length cA7)) HV6.out (by omega)); clear HG HD HMD HF HB HZ HRA HV6; have HG := n0_; have HD := n1_; have HMD := n2_; have HF := n3_; have HB := n4_; have HZ := n5_; have HRA := n6_; have HV6 := n7_; clear n0_ n1_ n2_ n3_ n4_ n5_ n6_ n7_; clear hu3_ hf3_; have hv6 := HV6.out) | (go_at_call 59; refine (slices_Clone_int_int.calls A6 c6 (rd_T45 l0 (n : Int)).f6 (rd_T45 l0 (n : Int)).f6 _ (Kd.C_below HKC.out HB.out) HKL.out HKX.out).mono ?_; rintro e w4 ⟨vK, rfl, hr_, hb⟩; obtain ⟨AK7, cK7, rfl⟩ := Kd.R_slice hr_; have HRK := Aside0.mk (Kd.R_mono (ok' := fun k => wr.heap.size ≤ k) (Kd.R_lower (Kd.R_bound hr_) HB.out.size) (fun k hk => Nat.le_trans HZ.out hk.2.1)); have n0_ := Aside0.mk (CGc.below HG.out hb); have n1_ := Aside0.mk (RDc.below HD.out hb); have n2_ := Aside0.mk (MDc.below HMD.out hb); have n3_ := Aside0.mk (PRGc.below HF.out hb); have n4_ := Aside0.mk (below_step HB.out hb); have n5_ := Aside0.mk (Nat.le_trans HZ.out hb.size); have n6_ := Aside0.mk (Kd.R_below HRA.out hb); clear HG HD HMD HF HB HZ HRA; have HG := n0_; have HD := n1_; have HMD := n2_; have HF := n3_; have HB := n4_; have HZ := n5_; have HRA := n6_; clear n0_ n1_ n2_ n3_ n4_ n5_ n6_; clear hr_ hb) | ((with_reducible refine gate_store (t := 23) (p := 31) rfl ?_); obtain ⟨u5_, hu5_⟩ := CGc.cell HG.out (n * 7 + 6) (by have := HNC.out; omega); have hf5_ := CGc.frozen HG.out (n * 7 + 6); refine store_event (t := 23) (p := 31) (v := ?vo_5) (w1 := ?w1_5) ?hg ?ho ?hn ?hr ?_; (case ho => rfl); (case hg => rfl); (case hn => rfl); (case hr => go_simp; rfl); intro w5 hw5; subst hw5; have n0_ := Aside0.mk (CGc.set HG.out (n * 7 + 6) ((.slice AK7 (rd_T45 l0 (n : Int)).f6.length cK7))); have n1_ := Aside0.mk (RDc.set HD.out (n * 7 + 6) (by omega) ((.slice AK7 (rd_T45 l0 (n : Int)).f6.length cK7))); have n2_ := Aside0.mk (MDc.set (o := n * 7 + 6) (u := (.slice AK7 (rd_T45 l0 (n : Int)).f6.length cK7)) HMD.out (fun j k hk => (HQ.out.2 j k hk).2) (by have := HTL.out; omega)); have n3_ := Aside0.mk (PRGc.set (o := 6) (u := (.slice AK7 (rd_T45 l0 (n : Int)).f6.length cK7)) HF.out (by simp) hu5_); have n4_ := Aside0.mk (Below.setCell HB.out (p := ⟨g, n * 7 + 6, none⟩) HBG.out ((.slice AK7 (rd_T45 l0 (n : Int)).f6.length cK7))); have n5_ := Aside0.mk (size_setc HZ.out ⟨g, n * 7 + 6, none⟩ ((.slice AK7 (rd_T45 l0 (n : Int)).f6.length cK7))); have n6_ := Aside0.mk (Kd.R_far (p := ⟨g, n * 7 + 6, none⟩) HRA.out (fun k hk => Nat.ne_of_gt (Nat.lt_of_lt_of_le HGW.out hk)) ((.slice AK7 (rd_T45 l0 (n : Int)).f6.length cK7))); have n7_ := Aside0.mk (Kd.R_far (p := ⟨g, n * 7 + 6, none⟩) HRK.out (fun k hk => Nat.ne_of_gt (Nat.lt_of_lt_of_le HGW.out hk)) ((.slice AK7 (rd_T45 l0 (n : Int)).f6.length cK7))); clear HG HD HMD HF HB HZ HRA HRK; have HG := n0_; have HD := n1_; have HMD := n2_; have HF := n3_; have HB := n4_; have HZ := n5_; have HRA := n6_; have HRK := n7_; clear n0_ n1_ n2_ n3_ n4_ n5_ n6_ n7_; clear hu5_ hf5_))
  have HRA2 := Aside0.mk (Kd.R_bound HRA.out)
  have HRK2 := Aside0.mk (Kd.R_bound HRK.out)
  have HMD2 := Aside0.mk (MDc.snoc (MDc.mono (Q' := (fun j k => (j = n ∧ wr.heap.size ≤ k ∧ k < (World.setCell w4 ⟨g, n * 7 + 6, none⟩ (.slice AK7 (rd_T45 l0 (n : Int)).f6.length cK7)).heap.size) ∨ (j ≠ n ∧ Q j k))) HMD.out (fun j k hj hq => .inr ⟨by have := HTL.out; omega, hq⟩)) (rd_T45 l0 (n : Int)) (va := .slice AA7 (rd_T45 l0 (n : Int)).f3.length cA7) (vk := .slice AK7 (rd_T45 l0 (n : Int)).f6.length cK7) (by rw [HTL.out]; intro x hx; exact HF.out x (by simp only [List.mem_cons, List.not_mem_nil, or_false] at hx ⊢; rcases hx with e | e | e | e | e | e | e <;> (subst e; simp))) (by rw [HTL.out]; exact Kd.R_mono HRA2.out (fun k hk => .inl ⟨rfl, hk.1, hk.2.2.1⟩)) (by rw [HTL.out]; exact Kd.R_mono HRK2.out (fun k hk => .inl ⟨rfl, hk.1, hk.2.2.1⟩)))
  go_roundg (gk - 1)
  case measure => have := HN.out; have := HNL.out; omega
  case rel => exact ⟨n + 1, (fun j k => (j = n ∧ wr.heap.size ≤ k ∧ k < (World.setCell w4 ⟨g, n * 7 + 6, none⟩ (.slice AK7 (rd_T45 l0 (n : Int)).f6.length cK7)).heap.size) ∨ (j ≠ n ∧ Q j k)), by rw [HW.out], ⟨by have := HN.out; have := HNL.out; omega⟩, HB, HG, HD, ⟨fun i j k h1 h2 => by
    rcases h1 with ⟨e1, h1, _⟩ | ⟨e1, h1⟩ <;> rcases h2 with ⟨e2, h2, _⟩ | ⟨e2, h2⟩
    ·omega
    ·exact absurd (HQ.out.2 j k h2).1 (Nat.not_lt.2 h1)
    ·exact absurd (HQ.out.2 i k h1).1 (Nat.not_lt.2 h2)
    ·exact HQ.out.1 i j k h1 h2, fun j k h1 => by
    rcases h1 with ⟨_, h1, h2⟩ | ⟨_, h1⟩
    ·exact ⟨h2, Nat.ne_of_gt (Nat.lt_of_lt_of_le HGW.out h1)⟩
    ·exact ⟨Nat.lt_of_lt_of_le (HQ.out.2 j k h1).1 HZ.out, (HQ.out.2 j k h1).2⟩⟩, ⟨by rw [rdc_take HNL.out]; exact HMD2.out⟩⟩
def impl_copyPage.f (l0_0 : List (S45)) (l0_1 : List Int) (l0_2 : List Int) (a0_3 : Int) (a0_4 : Int) : Option ((List (S45)) × List Int × List Int × Int × Int) := (impl_copyItems.f l0_0).bind fun t324 => ((slices_Clone_int_int.f l0_1).bind fun t327 => ((slices_Clone_int_int.f l0_2).bind fun t330 => (some (t324, t327, t330, a0_3, a0_4))))
set_option maxHeartbeats 8000000 in
set_option maxRecDepth 100000 in
theorem impl_copyPage.calls (A0_0 : Option Addr) (c0_0 : Nat) (l0_0 : List (S45)) (A0_1 : Option Addr) (c0_1 : Nat) (l0_1 : List Int) (A0_2 : Option Addr) (c0_2 : Nat) (l0_2 : List Int) (a0_3 : Int) (a0_4 : Int) (r1 : List (S45)) (r2 : List Int) (r3 : List Int) (r4 : Int) (r5 : Int) (w : World) (hr0_0 : Kd.C k45 w A0_0 l0_0.length l0_0) (hc0_0 : l0_0.length ≤ c0_0) (hr0_1 : Kd.C (Kd.int .i64) w A0_1 l0_1.length l0_1) (hc0_1 : l0_1.length ≤ c0_1) (hr0_2 : Kd.C (Kd.int .i64) w A0_2 l0_2.length l0_2) (hc0_2 : l0_2.length ≤ c0_2) (h : impl_copyPage.f l0_0 l0_1 l0_2 a0_3 a0_4 = some (r1, r2, r3, r4, r5)) :
  Calls Try.prog 41 #[.agg #[.slice A0_0 l0_0.length c0_0, .slice A0_1 l0_1.length c0_1, .slice A0_2 l0_2.length c0_2, .int .i64 a0_3, .int .i64 a0_4]] w fun e w' => ∃ v0_ v1_ v2_ : Value, e = .returned (.agg #[v0_, v1_, v2_, .int .i64 r4, .int .i64 r5]) ∧ Kd.S k45 45 w' w.heap.size (fun k_ => some k_ ≠ (v1_ : Value).ownBlock ∧ some k_ ≠ (v2_ : Value).ownBlock) v0_ r1 ∧ Kd.R (Kd.int .i64) 3 w' w.heap.size (fun k_ => some k_ ≠ (v2_ : Value).ownBlock) v1_ r2 ∧ Kd.R (Kd.int .i64) 3 w' w.heap.size (fun k_ => some k_ ≠ (v1_ : Value).ownBlock) v2_ r3 ∧ Below w.heap.size w w' := by
 have hu25 := Try.underlying25
 have HR0_0 := Aside0.mk hr0_0
 have HC0_0 := Aside0.mk hc0_0
 clear hr0_0 hc0_0
 have HR0_1 := Aside0.mk hr0_1
 have HC0_1 := Aside0.mk hc0_1
 clear hr0_1 hc0_1
 have HR0_2 := Aside0.mk hr0_2
 have HC0_2 := Aside0.mk hc0_2
 clear hr0_2 hc0_2
 have HB := Aside0.mk (Below.refl w.heap.size w)
 have H : ((impl_copyItems.f l0_0).bind fun t324 => ((slices_Clone_int_int.f l0_1).bind fun t327 => ((slices_Clone_int_int.f l0_2).bind fun t330 => (some (t324, t327, t330, a0_3, a0_4))))) = some (r1, r2, r3, r4, r5) := h
 clear h
 replace H := Option.bind_eq_some_iff.mp H
 obtain ⟨t324, A20, H⟩ := H
 replace H : ((slices_Clone_int_int.f l0_1).bind fun t327 => ((slices_Clone_int_int.f l0_2).bind fun t330 => (some (t324, t327, t330, a0_3, a0_4)))) = some (r1, r2, r3, r4, r5) := H
 have A2 := Aside0.mk A20
 clear A20
 replace H := Option.bind_eq_some_iff.mp H
 obtain ⟨t327, A30, H⟩ := H
 replace H : ((slices_Clone_int_int.f l0_2).bind fun t330 => (some (t324, t327, t330, a0_3, a0_4))) = some (r1, r2, r3, r4, r5) := H
 have A3 := Aside0.mk A30
 clear A30
 replace H := Option.bind_eq_some_iff.mp H
 obtain ⟨t330, A40, H⟩ := H
 replace H : (some (t324, t327, t330, a0_3, a0_4)) = some (r1, r2, r3, r4, r5) := H
 have A4 := Aside0.mk A40
 clear A40
 simp only [Option.some.injEq, Prod.mk.injEq] at H
 obtain ⟨rfl, rfl, rfl, rfl, rfl⟩ := H
 go_enter Try.func41, Try.ntmps41
 go_wp2_with (first | ((with_reducible refine gate_dst (N := 1) rfl ?_); refine box_event ?hg (N := 1) ?hd (cs := #[.slice A0_0 l0_0.length c0_0, .slice A0_1 l0_1.length c0_1, .slice A0_2 l0_2.length c0_2, .int .i64 a0_3, .int .i64 a0_4]) (t := 25) ?hr ?_; (case hd => rfl); (case hg => rfl); (case hr => first | (go_simp; done) | (go_simp; rfl)); intro gb322 hg w5 hbox hb; have n0_ := Aside0.mk (below_step (by repeat (first | (with_reducible first | exact HB.out | apply ba_ | apply bn_ | apply b1_) | exact HB.out)) hb); have n1_ := Aside0.mk (hbox); have n2_ := Aside0.mk ((by rw [hg]; exact (below_size (by repeat (first | (with_reducible first | exact HB.out | apply ba_ | apply bn_ | apply b1_) | exact HB.out))) : w.heap.size ≤ gb322)); have n3_ := Aside0.mk ((by rw [hg]; exact (below_size (by repeat (first | (with_reducible first | exact HB.out | apply ba_ | apply bn_ | apply b1_) | exact HB.out))) : w.heap.size ≤ gb322)); clear HB; have HB := n0_; have BK322 := n1_; have GW322 := n2_; have GE322 := n3_; clear n0_ n1_ n2_ n3_; clear hb hbox hg) | ((with_reducible refine gate_dst (N := 2) rfl ?_); refine box_event ?hg (N := 2) ?hd (cs := #[.slice none 0 0, .slice none 0 0, .slice none 0 0, .int .i64 0, .int .i64 0]) (t := 25) ?hr ?_; (case hd => rfl); (case hg => rfl); (case hr => first | (go_simp; done) | (go_simp; rfl)); intro gb323 hg w6 hbox hb; have n0_ := Aside0.mk (blk_below (g := gb322) (o := .cells #[.slice A0_0 l0_0.length c0_0, .slice A0_1 l0_1.length c0_1, .slice A0_2 l0_2.length c0_2, .int .i64 a0_3, .int .i64 a0_4] 25 (0, 0)) (by (with_reducible repeat (first | refine dn_ ?_ _ | refine dd_ ?_ | refine da_ ?_ _)); exact BK322.out) hb); have n1_ := Aside0.mk (below_step (by repeat (first | (with_reducible first | exact HB.out | apply ba_ | apply bn_ | apply b1_ | refine below_set ?_ GE322.out) | exact HB.out)) hb); have n2_ := Aside0.mk (hbox); have n3_ := Aside0.mk ((by rw [hg]; exact (below_size (by repeat (first | (with_reducible first | exact HB.out | apply ba_ | apply bn_ | apply b1_ | refine below_set ?_ GE322.out) | exact HB.out))) : w.heap.size ≤ gb323)); have n4_ := Aside0.mk ((by rw [hg]; exact (below_size (by repeat (first | (with_reducible first | exact HB.out | apply ba_ | apply bn_ | apply b1_ | refine below_set ?_ GE322.out) | exact HB.out))) : w.heap.size ≤ gb323)); have n5_ := Aside0.mk ((by rw [hg]; exact Nat.ne_of_lt (blk_lt (g := gb322) (o := .cells #[.slice A0_0 l0_0.length c0_0, .slice A0_1 l0_1.length c0_1, .slice A0_2 l0_2.length c0_2, .int .i64 a0_3, .int .i64 a0_4] 25 (0, 0)) (by (with_reducible repeat (first | refine dn_ ?_ _ | refine dd_ ?_ | refine da_ ?_ _)); exact BK322.out)) : gb322 ≠ gb323)); have n6_ := Aside0.mk ((by rw [hg]; exact Nat.ne_of_gt (blk_lt (g := gb322) (o := .cells #[.slice A0_0 l0_0.length c0_0, .slice A0_1 l0_1.length c0_1, .slice A0_2 l0_2.length c0_2, .int .i64 a0_3, .int .i64 a0_4] 25 (0, 0)) (by (with_reducible repeat (first | refine dn_ ?_ _ | refine dd_ ?_ | refine da_ ?_ _)); exact BK322.out)) : gb323 ≠ gb322)); clear BK322; clear HB; have BK322 := n0_; have HB := n1_; have BK323 := n2_; have GW323 := n3_; have GE323 := n4_; have NB322_323 := n5_; have NB323_322 := n6_; clear n0_ n1_ n2_ n3_ n4_ n5_ n6_; clear hb hbox hg; have hnb7 := NB322_323.out; have hnc7 := NB323_322.out; have hcz8_0 : w6.cell? ⟨gb322, 0, none⟩ = some (.slice A0_0 l0_0.length c0_0) := (bc_ BK322.out 0).trans rfl; have hcz8_1 : w6.cell? ⟨gb322, 1, none⟩ = some (.slice A0_1 l0_1.length c0_1) := (bc_ BK322.out 1).trans rfl; have hcz8_2 : w6.cell? ⟨gb322, 2, none⟩ = some (.slice A0_2 l0_2.length c0_2) := (bc_ BK322.out 2).trans rfl; have hcz8_3 : w6.cell? ⟨gb322, 3, none⟩ = some (.int .i64 a0_3) := (bc_ BK322.out 3).trans rfl; have hcz8_4 : w6.cell? ⟨gb322, 4, none⟩ = some (.int .i64 a0_4) := (bc_ BK322.out 4).trans rfl; have hfz8_0 := blk_frozen BK322.out 0; have hfz8_1 := blk_frozen BK322.out 1; have hfz8_2 := blk_frozen BK322.out 2; have hfz8_3 := blk_frozen BK322.out 3; have hfz8_4 := blk_frozen BK322.out 4) | ((with_reducible refine gate_callee (f := 58) rfl ?_); refine goesL_ (some 5) rfl rfl Try.func58 (by kernel_rfl) rfl #[.slice A0_0 l0_0.length c0_0] rfl (by (try simp only [List.map_toArray, List.map_cons, List.map_nil]); first | done | rfl | (simp only [List.length_drop, List.length_take]; rfl)) ?_; (with_reducible refine (impl_copyItems.calls _ _ l0_0 t324 _ ?side1 ?side2 A2.out).mono ?_); (case side1 => repeat (first | exact (Kd.C_below HR0_0.out HB.out) | (with_reducible refine ca_ ?_ _) | (with_reducible refine cn_ ?_ _) | (with_reducible refine cd_ ?_))); (case side2 => exact HC0_0.out); rintro e w9 ⟨v325, rfl, ho0, hb⟩; refine ⟨_, rfl, ?_⟩; have n0_ := Aside0.mk (Kd.S_lower ho0 (below_size (by repeat (first | (with_reducible first | exact HB.out | apply ba_ | apply bn_ | apply b1_ | refine below_set ?_ GE322.out | refine below_set ?_ GE323.out) | exact HB.out)))); have n1_ := Aside0.mk (blk_below (g := gb322) (o := .cells #[.slice A0_0 l0_0.length c0_0, .slice A0_1 l0_1.length c0_1, .slice A0_2 l0_2.length c0_2, .int .i64 a0_3, .int .i64 a0_4] 25 (0, 0)) (by (with_reducible repeat (first | refine dn_ ?_ _ | refine dd_ ?_ | refine da_ ?_ _)); exact BK322.out) hb); have n2_ := Aside0.mk (blk_below (g := gb323) (o := .cells #[.slice none 0 0, .slice none 0 0, .slice none 0 0, .int .i64 0, .int .i64 0] 25 (0, 0)) (by (with_reducible repeat (first | refine dn_ ?_ _ | refine dd_ ?_ | refine da_ ?_ _)); exact BK323.out) hb); have n3_ := Aside0.mk (below_step (by repeat (first | (with_reducible first | exact HB.out | apply ba_ | apply bn_ | apply b1_ | refine below_set ?_ GE322.out | refine below_set ?_ GE323.out) | exact HB.out)) hb); clear BK322; clear BK323; clear HB; have HO326 := n0_; have BK322 := n1_; have BK323 := n2_; have HB := n3_; clear n0_ n1_ n2_ n3_; (try clear hb); (try clear hb2); (try clear hk); (try clear hi); (try clear ho0); obtain ⟨Ao10, co10, eo10⟩ := Kd.S_slice HO326.out; subst eo10; have hcz11_0 : w9.cell? ⟨gb322, 0, none⟩ = some (.slice A0_0 l0_0.length c0_0) := (bc_ BK322.out 0).trans rfl; have hcz11_1 : w9.cell? ⟨gb322, 1, none⟩ = some (.slice A0_1 l0_1.length c0_1) := (bc_ BK322.out 1).trans rfl; have hcz11_2 : w9.cell? ⟨gb322, 2, none⟩ = some (.slice A0_2 l0_2.length c0_2) := (bc_ BK322.out 2).trans rfl; have hcz11_3 : w9.cell? ⟨gb322, 3, none⟩ = some (.int .i64 a0_3) := (bc_ BK322.out 3).trans rfl; have hcz11_4 : w9.cell? ⟨gb322, 4, none⟩ = some (.int .i64 a0_4) := (bc_ BK322.out 4).trans rfl; have hfz11_0 := blk_frozen BK322.out 0; have hfz11_1 := blk_frozen BK322.out 1; have hfz11_2 := blk_frozen BK322.out 2; have hfz11_3 := blk_frozen BK322.out 3; have hfz11_4 := blk_frozen BK322.out 4) | ((with_reducible refine gate_callee (f := 59) rfl ?_); refine goesL_ (some 9) rfl rfl Try.func59 (by kernel_rfl) rfl #[.slice A0_1 l0_1.length c0_1] rfl (by (try simp only [List.map_toArray, List.map_cons, List.map_nil]); first | done | rfl | (simp only [List.length_drop, List.length_take]; rfl)) ?_; (with_reducible refine (slices_Clone_int_int.calls _ _ l0_1 t327 _ ?side1 ?side2 A3.out).mono ?_); (case side1 => exact Kd.C_below HR0_1.out (by repeat (first | (with_reducible first | exact HB.out | apply ba_ | apply bn_ | apply b1_ | refine below_set ?_ GE322.out | refine below_set ?_ GE323.out) | exact HB.out))); (case side2 => exact HC0_1.out); rintro e w12 ⟨v328, rfl, ho0, hb⟩; refine ⟨_, rfl, ?_⟩; have n0_ := Aside0.mk (Kd.S_elder' (by (with_reducible repeat (first | apply Kd.S_alloc | apply Kd.S_drewN | apply Kd.S_drew)); exact (Kd.S_mono (Kd.S_far (p := ⟨gb322, 0, none⟩) (Kd.S_types HO326.out BK322.out (by decide)) (fun _ hk => hk.2) (.slice Ao10 t324.length co10)) (fun _ h_ => h_.1))) (Kd.R_base ho0) hb); have n1_ := Aside0.mk (Kd.R_lower ho0 (below_size (by repeat (first | (with_reducible first | exact HB.out | apply ba_ | apply bn_ | apply b1_ | refine below_set ?_ GE322.out | refine below_set ?_ GE323.out) | exact HB.out)))); have n2_ := Aside0.mk (blk_below (g := gb322) (o := .cells #[.slice Ao10 t324.length co10, .slice A0_1 l0_1.length c0_1, .slice A0_2 l0_2.length c0_2, .int .i64 a0_3, .int .i64 a0_4] 25 (0, 0)) (by (with_reducible repeat (first | refine dn_ ?_ _ | refine dd_ ?_ | refine da_ ?_ _)); refine blk_put (cs := #[.slice A0_0 l0_0.length c0_0, .slice A0_1 l0_1.length c0_1, .slice A0_2 l0_2.length c0_2, .int .i64 a0_3, .int .i64 a0_4]) ?_ 0 _ rfl; (with_reducible repeat (first | refine dn_ ?_ _ | refine dd_ ?_ | refine da_ ?_ _)); exact BK322.out) hb); have n3_ := Aside0.mk (blk_below (g := gb323) (o := .cells #[.slice none 0 0, .slice none 0 0, .slice none 0 0, .int .i64 0, .int .i64 0] 25 (0, 0)) (by (with_reducible repeat (first | refine dn_ ?_ _ | refine dd_ ?_ | refine da_ ?_ _)); refine blk_far ?_ NB323_322.out _; (with_reducible repeat (first | refine dn_ ?_ _ | refine dd_ ?_ | refine da_ ?_ _)); exact BK323.out) hb); have n4_ := Aside0.mk (below_step (by repeat (first | (with_reducible first | exact HB.out | apply ba_ | apply bn_ | apply b1_ | refine below_set ?_ GE322.out | refine below_set ?_ GE323.out) | exact HB.out)) hb); clear HO326; clear BK322; clear BK323; clear HB; have HO326 := n0_; have HO329 := n1_; have BK322 := n2_; have BK323 := n3_; have HB := n4_; clear n0_ n1_ n2_ n3_ n4_; (try clear hb); (try clear hb2); (try clear hk); (try clear hi); (try clear ho0); obtain ⟨Ao13, co13, eo13⟩ := Kd.R_slice HO329.out; subst eo13; have hcz14_0 : w12.cell? ⟨gb322, 0, none⟩ = some (.slice Ao10 t324.length co10) := (bc_ BK322.out 0).trans rfl; have hcz14_1 : w12.cell? ⟨gb322, 1, none⟩ = some (.slice A0_1 l0_1.length c0_1) := (bc_ BK322.out 1).trans rfl; have hcz14_2 : w12.cell? ⟨gb322, 2, none⟩ = some (.slice A0_2 l0_2.length c0_2) := (bc_ BK322.out 2).trans rfl; have hcz14_3 : w12.cell? ⟨gb322, 3, none⟩ = some (.int .i64 a0_3) := (bc_ BK322.out 3).trans rfl; have hcz14_4 : w12.cell? ⟨gb322, 4, none⟩ = some (.int .i64 a0_4) := (bc_ BK322.out 4).trans rfl; have hfz14_0 := blk_frozen BK322.out 0; have hfz14_1 := blk_frozen BK322.out 1; have hfz14_2 := blk_frozen BK322.out 2; have hfz14_3 := blk_frozen BK322.out 3; have hfz14_4 := blk_frozen BK322.out 4) | ((with_reducible refine gate_callee (f := 59) rfl ?_); refine goesL_ (some 13) rfl rfl Try.func59 (by kernel_rfl) rfl #[.slice A0_2 l0_2.length c0_2] rfl (by (try simp only [List.map_toArray, List.map_cons, List.map_nil]); first | done | rfl | (simp only [List.length_drop, List.length_take]; rfl)) ?_; (with_reducible refine (slices_Clone_int_int.calls _ _ l0_2 t330 _ ?side1 ?side2 A4.out).mono ?_); (case side1 => exact Kd.C_below HR0_2.out (by repeat (first | (with_reducible first | exact HB.out | apply ba_ | apply bn_ | apply b1_ | refine below_set ?_ GE322.out | refine below_set ?_ GE323.out) | exact HB.out))); (case side2 => exact HC0_2.out); rintro e w15 ⟨v331, rfl, ho0, hb⟩; refine ⟨_, rfl, ?_⟩; have n0_ := Aside0.mk (Kd.S_elder' (by (with_reducible repeat (first | apply Kd.S_alloc | apply Kd.S_drewN | apply Kd.S_drew)); exact (Kd.S_mono (Kd.S_far (p := ⟨gb322, 1, none⟩) (Kd.S_types HO326.out BK322.out (by decide)) (fun _ hk => hk.2) (.slice Ao13 t327.length co13)) (fun _ h_ => h_.1))) (Kd.R_base ho0) hb); have n1_ := Aside0.mk (Kd.R_elder' (by (with_reducible repeat (first | apply Kd.R_alloc | apply Kd.R_drewN | apply Kd.R_drew)); exact (Kd.R_mono (Kd.R_far (p := ⟨gb322, 1, none⟩) (Kd.R_types HO329.out BK322.out (by decide)) (fun _ hk => hk.2) (.slice Ao13 t327.length co13)) (fun _ h_ => h_.1))) (Kd.R_base ho0) hb); have n2_ := Aside0.mk (Kd.R_lower (Kd.R_new' ho0 (Kd.R_lt (by (with_reducible repeat (first | apply Kd.R_alloc | apply Kd.R_drewN | apply Kd.R_drew)); exact (Kd.R_mono (Kd.R_far (p := ⟨gb322, 1, none⟩) (Kd.R_types HO329.out BK322.out (by decide)) (fun _ hk => hk.2) (.slice Ao13 t327.length co13)) (fun _ h_ => h_.1))))) (below_size (by repeat (first | (with_reducible first | exact HB.out | apply ba_ | apply bn_ | apply b1_ | refine below_set ?_ GE322.out | refine below_set ?_ GE323.out) | exact HB.out)))); have n3_ := Aside0.mk (blk_below (g := gb322) (o := .cells #[.slice Ao10 t324.length co10, .slice Ao13 t327.length co13, .slice A0_2 l0_2.length c0_2, .int .i64 a0_3, .int .i64 a0_4] 25 (0, 0)) (by (with_reducible repeat (first | refine dn_ ?_ _ | refine dd_ ?_ | refine da_ ?_ _)); refine blk_put (cs := #[.slice Ao10 t324.length co10, .slice A0_1 l0_1.length c0_1, .slice A0_2 l0_2.length c0_2, .int .i64 a0_3, .int .i64 a0_4]) ?_ 1 _ rfl; (with_reducible repeat (first | refine dn_ ?_ _ | refine dd_ ?_ | refine da_ ?_ _)); exact BK322.out) hb); have n4_ := Aside0.mk (blk_below (g := gb323) (o := .cells #[.slice none 0 0, .slice none 0 0, .slice none 0 0, .int .i64 0, .int .i64 0] 25 (0, 0)) (by (with_reducible repeat (first | refine dn_ ?_ _ | refine dd_ ?_ | refine da_ ?_ _)); refine blk_far ?_ NB323_322.out _; (with_reducible repeat (first | refine dn_ ?_ _ | refine dd_ ?_ | refine da_ ?_ _)); exact BK323.out) hb); have n5_ := Aside0.mk (below_step (by repeat (first | (with_reducible first | exact HB.out | apply ba_ | apply bn_ | apply b1_ | refine below_set ?_ GE322.out | refine below_set ?_ GE323.out) | exact HB.out)) hb); clear HO326; clear HO329; clear BK322; clear BK323; clear HB; have HO326 := n0_; have HO329 := n1_; have HO332 := n2_; have BK322 := n3_; have BK323 := n4_; have HB := n5_; clear n0_ n1_ n2_ n3_ n4_ n5_; (try clear hb); (try clear hb2); (try clear hk); (try clear hi); (try clear ho0); obtain ⟨Ao16, co16, eo16⟩ := Kd.R_slice HO332.out; subst eo16; have hcz17_0 : w15.cell? ⟨gb322, 0, none⟩ = some (.slice Ao10 t324.length co10) := (bc_ BK322.out 0).trans rfl; have hcz17_1 : w15.cell? ⟨gb322, 1, none⟩ = some (.slice Ao13 t327.length co13) := (bc_ BK322.out 1).trans rfl; have hcz17_2 : w15.cell? ⟨gb322, 2, none⟩ = some (.slice A0_2 l0_2.length c0_2) := (bc_ BK322.out 2).trans rfl; have hcz17_3 : w15.cell? ⟨gb322, 3, none⟩ = some (.int .i64 a0_3) := (bc_ BK322.out 3).trans rfl; have hcz17_4 : w15.cell? ⟨gb322, 4, none⟩ = some (.int .i64 a0_4) := (bc_ BK322.out 4).trans rfl; have hfz17_0 := blk_frozen BK322.out 0; have hfz17_1 := blk_frozen BK322.out 1; have hfz17_2 := blk_frozen BK322.out 2; have hfz17_3 := blk_frozen BK322.out 3; have hfz17_4 := blk_frozen BK322.out 4; have hcz18_0 : w15.cell? ⟨gb323, 0, none⟩ = some (.slice none 0 0) := (bc_ BK323.out 0).trans rfl; have hcz18_1 : w15.cell? ⟨gb323, 1, none⟩ = some (.slice none 0 0) := (bc_ BK323.out 1).trans rfl; have hcz18_2 : w15.cell? ⟨gb323, 2, none⟩ = some (.slice none 0 0) := (bc_ BK323.out 2).trans rfl; have hcz18_3 : w15.cell? ⟨gb323, 3, none⟩ = some (.int .i64 0) := (bc_ BK323.out 3).trans rfl; have hcz18_4 : w15.cell? ⟨gb323, 4, none⟩ = some (.int .i64 0) := (bc_ BK323.out 4).trans rfl; have hfz18_0 := blk_frozen BK323.out 0; have hfz18_1 := blk_frozen BK323.out 1; have hfz18_2 := blk_frozen BK323.out 2; have hfz18_3 := blk_frozen BK323.out 3; have hfz18_4 := blk_frozen BK323.out 4))
 refine bodyPost_ret (results_cell_row rfl _ _ gb323 25 #[.slice Ao10 t324.length co10, .slice Ao13 t327.length co13, .slice Ao16 t330.length co16, .int .i64 a0_3, .int .i64 a0_4] (0, 0) _ rfl (by (with_reducible repeat (first | refine dn_ ?_ _ | refine dd_ ?_ | refine da_ ?_ _)); refine blk_put (cs := #[.slice Ao10 t324.length co10, .slice Ao13 t327.length co13, .slice Ao16 t330.length co16, .int .i64 a0_3, .int .i64 0]) ?_ 4 _ rfl; (with_reducible repeat (first | refine dn_ ?_ _ | refine dd_ ?_ | refine da_ ?_ _)); refine blk_put (cs := #[.slice Ao10 t324.length co10, .slice Ao13 t327.length co13, .slice Ao16 t330.length co16, .int .i64 0, .int .i64 0]) ?_ 3 _ rfl; (with_reducible repeat (first | refine dn_ ?_ _ | refine dd_ ?_ | refine da_ ?_ _)); refine blk_put (cs := #[.slice Ao10 t324.length co10, .slice Ao13 t327.length co13, .slice none 0 0, .int .i64 0, .int .i64 0]) ?_ 2 _ rfl; (with_reducible repeat (first | refine dn_ ?_ _ | refine dd_ ?_ | refine da_ ?_ _)); refine blk_put (cs := #[.slice Ao10 t324.length co10, .slice none 0 0, .slice none 0 0, .int .i64 0, .int .i64 0]) ?_ 1 _ rfl; (with_reducible repeat (first | refine dn_ ?_ _ | refine dd_ ?_ | refine da_ ?_ _)); refine blk_put (cs := #[.slice none 0 0, .slice none 0 0, .slice none 0 0, .int .i64 0, .int .i64 0]) ?_ 0 _ rfl; (with_reducible repeat (first | refine dn_ ?_ _ | refine dd_ ?_ | refine da_ ?_ _)); refine blk_far ?_ NB323_322.out _; (with_reducible repeat (first | refine dn_ ?_ _ | refine dd_ ?_ | refine da_ ?_ _)); exact BK323.out) Try.underlying25 rfl (by kernel_rfl)) rfl ?_
 exact ⟨_, _, _, by first | rfl | (simp [errW_none, errW_some] <;> rfl) | (simp [*, errW_none, errW_some] <;> rfl), by (with_reducible repeat (first | apply Kd.S_alloc | apply Kd.S_drewN | apply Kd.S_drew)); exact Kd.S_mono (Kd.S_far (p := ⟨gb323, 4, none⟩) (Kd.S_far (p := ⟨gb323, 3, none⟩) (Kd.S_far (p := ⟨gb323, 2, none⟩) (Kd.S_far (p := ⟨gb323, 1, none⟩) (Kd.S_far (p := ⟨gb323, 0, none⟩) (Kd.S_far (p := ⟨gb322, 2, none⟩) (Kd.S_types (Kd.S_types HO326.out BK322.out (by decide)) BK323.out (by decide)) (fun _ hk => hk.1.2) (.slice Ao16 t330.length co16)) (fun _ hk => hk.2) (.slice Ao10 t324.length co10)) (fun _ hk => hk.2) (.slice Ao13 t327.length co13)) (fun _ hk => hk.2) (.slice Ao16 t330.length co16)) (fun _ hk => hk.2) (.int .i64 a0_3)) (fun _ hk => hk.2) (.int .i64 a0_4)) (fun _ hk => ⟨hk.1.1.1.2, hk.1.1.2⟩), by (with_reducible repeat (first | apply Kd.R_alloc | apply Kd.R_drewN | apply Kd.R_drew)); exact Kd.R_mono (Kd.R_far (p := ⟨gb323, 4, none⟩) (Kd.R_far (p := ⟨gb323, 3, none⟩) (Kd.R_far (p := ⟨gb323, 2, none⟩) (Kd.R_far (p := ⟨gb323, 1, none⟩) (Kd.R_far (p := ⟨gb323, 0, none⟩) (Kd.R_far (p := ⟨gb322, 2, none⟩) (Kd.R_types (Kd.R_types HO329.out BK322.out (by decide)) BK323.out (by decide)) (fun _ hk => hk.1.2) (.slice Ao16 t330.length co16)) (fun _ hk => hk.2) (.slice Ao10 t324.length co10)) (fun _ hk => hk.2) (.slice Ao13 t327.length co13)) (fun _ hk => hk.2) (.slice Ao16 t330.length co16)) (fun _ hk => hk.2) (.int .i64 a0_3)) (fun _ hk => hk.2) (.int .i64 a0_4)) (fun _ hk => hk.1.1.2), by (with_reducible repeat (first | apply Kd.R_alloc | apply Kd.R_drewN | apply Kd.R_drew)); exact Kd.R_mono (Kd.R_far (p := ⟨gb323, 4, none⟩) (Kd.R_far (p := ⟨gb323, 3, none⟩) (Kd.R_far (p := ⟨gb323, 2, none⟩) (Kd.R_far (p := ⟨gb323, 1, none⟩) (Kd.R_far (p := ⟨gb323, 0, none⟩) (Kd.R_far (p := ⟨gb322, 2, none⟩) (Kd.R_types (Kd.R_types HO332.out BK322.out (by decide)) BK323.out (by decide)) (fun _ hk => hk.1.2) (.slice Ao16 t330.length co16)) (fun _ hk => hk.2) (.slice Ao10 t324.length co10)) (fun _ hk => hk.2) (.slice Ao13 t327.length co13)) (fun _ hk => hk.2) (.slice Ao16 t330.length co16)) (fun _ hk => hk.2) (.int .i64 a0_3)) (fun _ hk => hk.2) (.int .i64 a0_4)) (fun _ hk => hk.1.1.2), by repeat (first | (with_reducible first | exact HB.out | apply ba_ | apply bn_ | apply b1_ | refine below_set ?_ GE322.out | refine below_set ?_ GE323.out) | exact HB.out)⟩
def impl_inRange.f (a0 : Int) (a1 : Int) (a2 : Int) : Option (Bool) := if a0 ≥ a1 then (some (decide (a0 ≤ a2))) else (some false)
set_option maxHeartbeats 8000000 in
set_option maxRecDepth 100000 in
theorem impl_inRange.calls (a0 : Int) (a1 : Int) (a2 : Int) (r : Bool) (w : World) (h : impl_inRange.f a0 a1 a2 = some r) :
  Calls Try.prog 61 #[.int .i64 a0, .int .i64 a1, .int .i64 a2] w fun e w' => e = .returned (.bool r) ∧ Drawn0 w w' := by
 have H : (if a0 ≥ a1 then (some (decide (a0 ≤ a2))) else (some false)) = some r := h
 clear h
 by_cases c4 : a0 ≥ a1
 ·rw [if_pos c4] at H
  have c4b0 : decide (a1 ≤ a0) = true := decide_eq_true c4
  clear c4
  obtain rfl := Option.some.inj H
  go_enter Try.func61, Try.ntmps61
  go_wp2
  go_ret
  exact ⟨by first | rfl | (simp; done) | (simp [*]; done), by repeat (first | exact Drawn0.refl _ | apply Drawn0.step)⟩
 ·rw [if_neg c4] at H
  have c4b0 : decide (a1 ≤ a0) = false := decide_eq_false c4
  clear c4
  obtain rfl := Option.some.inj H
  go_enter Try.func61, Try.ntmps61
  go_wp2
  go_ret
  exact ⟨by first | rfl | (simp; done) | (simp [*]; done), by repeat (first | exact Drawn0.refl _ | apply Drawn0.step)⟩
theorem inRange_len (i : Int) (n : Nat) (h : n ≤ 4611686018427387903) : impl_inRange.f i 0 (wrap64 ((n : Int) - 1)) = some (decide (0 ≤ i ∧ i < (n : Int))) := by
 rw [show wrap64 ((n : Int) - 1) = (n : Int) - 1 by unfold wrap64; omega]
 unfold impl_inRange.f
 by_cases a : i ≥ 0
 ·rw [if_pos a]
  congr 1
  exact decide_eq_decide.2 ⟨fun x => ⟨a, by omega⟩, fun x => by omega⟩
 ·rw [if_neg a, decide_eq_false (fun h => a h.1)]
def nameAt (l : List (S45)) (o : List Int) (k : Int) : ByteArray := if 0 ≤ rd o k ∧ rd o k < (l.length : Int) then (rd_T45 l (rd o k)).f2 else (⟨#[]⟩ : ByteArray)
set_option maxHeartbeats 4000000 in
set_option maxRecDepth 100000 in
theorem page_nameOf (g : Nat) (A0 : Option Addr) (c0 : Nat) (l : List (S45)) (A1 : Option Addr) (c1 : Nat) (o : List Int) (A2 : Option Addr) (c2 : Nat) (f : List Int) (a b i : Int) (w : World) (hlen : l.length ≤ 4611686018427387903) (hi0 : 0 ≤ i) (hi1 : i < (o.length : Int)) (hP : IsPg w g A0 c0 l A1 c1 o A2 c2 f a b) (hr : Kd.C k45 w A0 l.length l) (hro : Kd.C (Kd.int .i64) w A1 o.length o) :
  Calls Try.prog 62 #[.pointer (some ⟨g, 0, none⟩), .int .i64 i] w fun e w' => e = .returned (.string (nameAt l o i)) ∧ Drawn0 w w' := by
 have hcz0 := hP.x0
 have hcz1 := hP.x1
 obtain ⟨ad5, e5, hx5⟩ := Kd.at_int hro i hi0 hi1
 cases e5
 have hi0b := eq_true hi0
 have hi1b := eq_true hi1
 by_cases c : 0 ≤ rd o i ∧ rd o i < (l.length : Int)
 ·have A3 := Aside0.mk (show impl_inRange.f (rd o i) 0 (wrap64 ((l.length : Int) - 1)) = some true by rw [inRange_len _ l.length hlen, decide_eq_true c])
  have HT := Aside0.mk (show nameAt l o i = (rd_T45 l (rd o i)).f2 from if_pos c)
  obtain ⟨p288, q288⟩ := c
  obtain ⟨ad288, A288_3, c288_3, A288_6, c288_6, e288, hx288_0, hx288_1, hx288_2, hx288_3, hx288_4, hx288_5, hx288_6, hl288_3, hi288_3, hl288_6, hi288_6⟩ := at_T45 hr (rd o i) p288 q288
  cases e288
  clear hi288_3 hi288_6 hl288_3 hl288_6 hP hr hro hlen hx288_0 hx288_1 hx288_3 hx288_4 hx288_5 hx288_6 hi0 hi1
  replace p288 := eq_true p288
  replace q288 := eq_true q288
  go_enter Try.func62, Try.ntmps62
  go_wp2
  go_quiet (first | (go_at_call 61; (try simp only [i64_w]); refine (impl_inRange.calls (rd o i) 0 (wrap64 ((l.length : Int) - 1)) true _ A3.out).mono ?_; rintro e w' ⟨rfl, ⟨nd, rfl⟩⟩; (try first | exact ⟨rfl, _, rfl⟩ | exact ⟨rfl, _, World.drewN_drewN _ _ _⟩ | exact ⟨rfl, _, Eq.trans (World.drewN_drewN _ _ _) (congrArg (World.drewN _) (Nat.add_assoc _ _ _))⟩ | exact ⟨_, rfl, _, rfl⟩)))
  go_wp2
  go_quiet (fail)
  go_wp2
  go_ret
  exact ⟨by rw [HT.out]; first | rfl | (simp; done), by repeat (first | exact Drawn0.refl _ | apply Drawn0.step)⟩
 ·have A3 := Aside0.mk (show impl_inRange.f (rd o i) 0 (wrap64 ((l.length : Int) - 1)) = some false by rw [inRange_len _ l.length hlen, decide_eq_false c])
  have HT := Aside0.mk (show nameAt l o i = (⟨#[]⟩ : ByteArray) from if_neg c)
  clear hP hr hro hlen c hi0 hi1
  go_enter Try.func62, Try.ntmps62
  go_wp2
  go_quiet (first | (go_at_call 61; (try simp only [i64_w]); refine (impl_inRange.calls (rd o i) 0 (wrap64 ((l.length : Int) - 1)) false _ A3.out).mono ?_; rintro e w' ⟨rfl, ⟨nd, rfl⟩⟩; (try first | exact ⟨rfl, _, rfl⟩ | exact ⟨rfl, _, World.drewN_drewN _ _ _⟩ | exact ⟨rfl, _, Eq.trans (World.drewN_drewN _ _ _) (congrArg (World.drewN _) (Nat.add_assoc _ _ _))⟩ | exact ⟨_, rfl, _, rfl⟩)))
  go_wp2
  go_ret
  exact ⟨by rw [HT.out]; first | rfl | (simp; done), by repeat (first | exact Drawn0.refl _ | apply Drawn0.step)⟩
theorem own_len (A : Option Addr) (n m c : Nat) : (Value.slice A n c : Value).ownBlock = (Value.slice A m c : Value).ownBlock := by cases A <;> rfl
theorem pg_put5 {W : World} {g t : Nat} {z0 z1 z2 z3 z4 v0 v1 v2 v3 v4 : Value} (h : W.heap[g]? = some (.cells #[z0, z1, z2, z3, z4] t (0, 0))) : (((((W.setCell ⟨g, 0, none⟩ v0).setCell ⟨g, 1, none⟩ v1).setCell ⟨g, 2, none⟩ v2).setCell ⟨g, 3, none⟩ v3).setCell ⟨g, 4, none⟩ v4).heap[g]? = some (.cells #[v0, v1, v2, v3, v4] t (0, 0)) := blk_put (blk_put (blk_put (blk_put (blk_put h 0 _ rfl) 1 _ rfl) 2 _ rfl) 3 _ rfl) 4 _ rfl
section
variable {α : Type} {d : Kd α} {e base g : Nat} {W : World} {ok ok' : Nat → Prop} {v v0 v1 v2 v3 v4 : Value} {xs : List α}
theorem Kd.R_far5 (h : d.R e W base ok v xs) (hok : ∀ k, ok k → k ≠ g) (hm : ∀ k, ok k → ok' k) : d.R e (((((W.setCell ⟨g, 0, none⟩ v0).setCell ⟨g, 1, none⟩ v1).setCell ⟨g, 2, none⟩ v2).setCell ⟨g, 3, none⟩ v3).setCell ⟨g, 4, none⟩ v4) base ok' v xs := Kd.R_mono (Kd.R_far (p := ⟨g, 4, none⟩) (Kd.R_far (p := ⟨g, 3, none⟩) (Kd.R_far (p := ⟨g, 2, none⟩) (Kd.R_far (p := ⟨g, 1, none⟩) (Kd.R_far (p := ⟨g, 0, none⟩) h hok _) hok _) hok _) hok _) hok _) hm
theorem Kd.S_far5 (h : Kd.S d e W base ok v xs) (hok : ∀ k, ok k → k ≠ g) (hm : ∀ k, ok k → ok' k) : Kd.S d e (((((W.setCell ⟨g, 0, none⟩ v0).setCell ⟨g, 1, none⟩ v1).setCell ⟨g, 2, none⟩ v2).setCell ⟨g, 3, none⟩ v3).setCell ⟨g, 4, none⟩ v4) base ok' v xs := Kd.S_mono (Kd.S_far (p := ⟨g, 4, none⟩) (Kd.S_far (p := ⟨g, 3, none⟩) (Kd.S_far (p := ⟨g, 2, none⟩) (Kd.S_far (p := ⟨g, 1, none⟩) (Kd.S_far (p := ⟨g, 0, none⟩) h hok _) hok _) hok _) hok _) hok _) hm
theorem below_put5 {w : World} (h : Below base w W) (hg : base ≤ g) : Below base w (((((W.setCell ⟨g, 0, none⟩ v0).setCell ⟨g, 1, none⟩ v1).setCell ⟨g, 2, none⟩ v2).setCell ⟨g, 3, none⟩ v3).setCell ⟨g, 4, none⟩ v4) := ((((h.setCell (p := ⟨g, 0, none⟩) hg _).setCell (p := ⟨g, 1, none⟩) hg _).setCell (p := ⟨g, 2, none⟩) hg _).setCell (p := ⟨g, 3, none⟩) hg _).setCell (p := ⟨g, 4, none⟩) hg _
end
theorem kept_set1 {w W : World} {g o : Nat} {u : Value} (h : Kept w W (fun k => k = g)) : Kept w (W.setCell ⟨g, o, none⟩ u) (fun k => k = g) := ⟨by simpa using h.1, fun i hi hn => (Below.heap_setCell W ⟨g, o, none⟩ u i (fun e => hn e)).trans (h.2 i hi hn)⟩
theorem kept_drewN {w W : World} {S : Nat → Prop} (h : Kept w W S) (n : Nat) : Kept w (W.drewN n) S := h
set_option maxHeartbeats 4000000 in
set_option maxRecDepth 100000 in
theorem page_lastMark (g : Nat) (A0 : Option Addr) (c0 : Nat) (l : List (S45)) (A1 : Option Addr) (c1 : Nat) (o : List Int) (A2 : Option Addr) (c2 : Nat) (f : List Int) (a b : Int) (w : World) (hfl : f.length ≤ 4611686018427387903) (hP : IsPg w g A0 c0 l A1 c1 o A2 c2 f a b) (hrf : Kd.C (Kd.int .i64) w A2 f.length f) :
  Calls Try.prog 63 #[.pointer (some ⟨g, 0, none⟩)] w fun e w' => e = .returned (.int .i64 (lastMk f f.length)) ∧ Drawn0 w w' := by
 have HL := Aside0.mk hfl
 have HP := Aside0.mk hP
 have HR := Aside0.mk hrf
 have hx2 := hP.x2
 have HW := Aside0.mk (show wrap64 ((f.length : Int) - 1) = (f.length : Int) - 1 by unfold wrap64; omega)
 clear hfl hP hrf
 go_enter Try.func63, Try.ntmps63
 go_wp2
 go_loopg [3] f.length (fun gg v3 w' => ∃ (n : Nat), v3 = .int .i64 ((n : Int) - 1) ∧ Aside0 (n = gg ∧ n ≤ f.length) ∧ Aside0 (lastMk f n = lastMk f f.length) ∧ Drawn0 w w')
 case atStart => exact ⟨f.length, by rw [HW.out], ⟨rfl, Nat.le_refl _⟩, ⟨rfl⟩, by repeat (first | exact Drawn0.refl _ | apply Drawn0.step)⟩
 case round =>
  obtain ⟨n, rfl, HN, HLM, ⟨m1, rfl⟩⟩ := hrel
  cases n with
  | zero =>
   have d0 : decide ((((0 : Nat) : Int) - 1) ≥ 0) = false := by decide
   have d1 : decide (0 ≤ (((0 : Nat) : Int) - 1)) = false := by decide
   go_wp2
   go_ret
   exact ⟨by rw [← HLM.out]; rfl, by repeat (first | exact Drawn0.refl _ | apply Drawn0.step)⟩
  | succ n =>
   have hnn := HN.out
   rw [show ((n + 1 : Nat) : Int) - 1 = (n : Int) by omega]
   have d0 : decide ((n : Int) ≥ 0) = true := by simp
   have d1 : decide (0 ≤ (n : Int)) = true := by simp
   obtain ⟨ad, ea, hx⟩ := Kd.at_int HR.out (n : Int) (by omega) (by omega)
   have i0 : ((0 : Int) ≤ (n : Int)) = True := eq_true (by omega)
   have i1 : ((n : Int) < (f.length : Int)) = True := eq_true (by omega)
   have HW2 := Aside0.mk (show wrap64 ((n : Int) - 1) = (n : Int) - 1 by have := HL.out; unfold wrap64; omega)
   have hx2d : ∀ k, (w.drewN k).cell? ⟨g, 2, none⟩ = some (.slice A2 f.length c2) := fun _ => hx2
   rw [Int.toNat_natCast] at hx
   have hxd : ∀ k, (w.drewN k).cell? (ad.add n) = some (.int .i64 (rd f (n : Int))) := fun _ => hx
   subst ea
   by_cases ce : rd f (n : Int) = -1
   ·have HE := Aside0.mk (show lastMk f f.length = (n : Int) by rw [← HLM.out]; exact if_pos ce)
    have e0 : (rd f (n : Int) == -1) = true := beq_iff_eq.mpr ce
    clear ce hnn
    go_wp2
    go_ret
    exact ⟨by rw [HE.out]; first | rfl | (simp; done), by repeat (first | exact Drawn0.refl _ | apply Drawn0.step)⟩
   ·have HE := Aside0.mk (show lastMk f n = lastMk f f.length by rw [← HLM.out]; exact (if_neg ce).symm)
    have e0 : (rd f (n : Int) == -1) = false := beq_eq_false_iff_ne.mpr ce
    clear ce hnn
    go_wp2
    go_roundg n
    case measure => have := HN.out; omega
    case rel => exact ⟨n, by rw [HW2.out], ⟨rfl, by have := HN.out; omega⟩, HE, by repeat (first | exact Drawn0.refl _ | apply Drawn0.step)⟩
def cutF (u : ByteArray) (f : List Int) : List Int := if u.toList = ([116, 100] : List UInt8) ∨ u.toList = ([116, 104] : List UInt8) then f.take (if lastMk f f.length < 0 then (0 : Int) else lastMk f f.length).toNat else f
def popL (l : List (S45)) (o : List Int) (k : Nat) : Nat → List Int → List Int
 | 0, f => f
 | n + 1, f => if k < n + 1 then popL l o k n (cutF (nameAt l (o.take (n + 1)) (n : Int)) f) else f
def popO (o : List Int) (k : Int) : List Int := if 0 ≤ k ∧ k < (o.length : Int) then o.take k.toNat else o
def popF (l : List (S45)) (o f : List Int) (k : Int) : List Int := if 0 ≤ k ∧ k < (o.length : Int) then popL l o k.toNat o.length f else f
theorem popL_end (l : List (S45)) (o : List Int) (k : Nat) (f : List Int) : popL l o k k f = f := by
 cases k with
 | zero => rfl
 | succ n => exact if_neg (Nat.lt_irrefl _)
set_option maxHeartbeats 8000000 in
set_option maxRecDepth 100000 in
theorem page_popTo (g : Nat) (A0 : Option Addr) (c0 : Nat) (l : List (S45)) (A1 : Option Addr) (c1 : Nat) (o : List Int) (A2 : Option Addr) (c2 : Nat) (f : List Int) (a b : Int) (ku : Int) (okS okO okF : Nat → Prop) (w0 w : World) (hp : IsPg w g A0 c0 l A1 c1 o A2 c2 f a b) (hg : w0.heap.size ≤ g) (hB : Below w0.heap.size w0 w) (hs : Kd.S k45 45 w w0.heap.size okS (.slice A0 l.length c0) l) (ho : Kd.R (Kd.int .i64) 3 w w0.heap.size okO (.slice A1 o.length c1) o) (hf : Kd.R (Kd.int .i64) 3 w w0.heap.size okF (.slice A2 f.length c2) f) (hkS : ∀ k, okS k → k ≠ g) (hkO : ∀ k, okO k → k ≠ g) (hkF : ∀ k, okF k → k ≠ g) (hll : l.length ≤ 4611686018427387903) (hol : o.length ≤ 4611686018427387903) (hfl : f.length ≤ 4611686018427387903) :
  Calls Try.prog 44 #[.pointer (some ⟨g, 0, none⟩), .int .i64 ku] w fun e w' => (∃ v, e = .returned v) ∧ IsPg w' g A0 c0 l A1 c1 (popO o ku) A2 c2 (popF l o f ku) a b ∧ Kd.S k45 45 w' w0.heap.size okS (.slice A0 l.length c0) l ∧ Kd.R (Kd.int .i64) 3 w' w0.heap.size okO (.slice A1 (popO o ku).length c1) (popO o ku) ∧ Kd.R (Kd.int .i64) 3 w' w0.heap.size okF (.slice A2 (popF l o f ku).length c2) (popF l o f ku) ∧ Below w0.heap.size w0 w' ∧ Kept w w' (fun k => k = g) := by
 have hx1 := hp.x1
 have HG := Aside0.mk hg
 have KS := Aside0.mk hkS
 have KO := Aside0.mk hkO
 have KF := Aside0.mk hkF
 have LLEN := Aside0.mk hll
 have OLEN := Aside0.mk hol
 have HP := Aside0.mk hp
 have HB := Aside0.mk hB
 have HS := Aside0.mk hs
 have HO := Aside0.mk ho
 have HF := Aside0.mk hf
 have FL0 := Aside0.mk hfl
 clear hg hkS hkO hkF hll hp hB hs ho hf hfl
 by_cases c : 0 ≤ ku ∧ ku < (o.length : Int)
 rotate_left
 ·have A3 := Aside0.mk (show impl_inRange.f ku 0 (wrap64 ((o.length : Int) - 1)) = some false by rw [inRange_len _ _ hol, decide_eq_false c])
  rw [show popO o ku = o from if_neg c, show popF l o f ku = f from if_neg c]
  clear c hol
  go_enter Try.func44, Try.ntmps44
  go_wp2_with (go_at_call 61; (try simp only [i64_w]); refine (impl_inRange.calls ku 0 (wrap64 ((o.length : Int) - 1)) false _ A3.out).mono ?_; rintro e w' ⟨rfl, ⟨nd, rfl⟩⟩)
  ((try simp only [Exit.inBlock, Exit.then]); first | refine bodyPost_end (results_none rfl _ _ _) rfl ?_ | refine bodyPost_ret (results_none rfl _ _ _) rfl ?_)
  exact ⟨⟨_, rfl⟩, IsPg.drewN HP.out nd, Kd.S_drewN HS.out nd, Kd.R_drewN HO.out nd, Kd.R_drewN HF.out nd, bn_ HB.out nd, kept_drewN (Kept.refl w _) nd⟩
 have A3 := Aside0.mk (show impl_inRange.f ku 0 (wrap64 ((o.length : Int) - 1)) = some true by rw [inRange_len _ _ hol, decide_eq_true c])
 rw [show popO o ku = o.take ku.toNat from if_pos c, show popF l o f ku = popL l o ku.toNat o.length f from if_pos c]
 have CC := Aside0.mk c
 clear hol c
 go_enter Try.func44, Try.ntmps44
 go_wp2_with (go_at_call 61; (try simp only [i64_w]); refine (impl_inRange.calls ku 0 (wrap64 ((o.length : Int) - 1)) true _ A3.out).mono ?_; rintro e w' ⟨rfl, ⟨nd0, rfl⟩⟩)
 clear hx1
 go_loopg [] o.length (fun gg w' => ∃ (n : Nat) (f' : List Int), Aside0 (n = gg ∧ n ≤ o.length ∧ ku.toNat ≤ n) ∧ Aside0 (IsPg w' g A0 c0 l A1 c1 (o.take n) A2 c2 f' a b) ∧ Aside0 (popL l o ku.toNat n f' = popL l o ku.toNat o.length f ∧ f'.length ≤ 4611686018427387903) ∧ Aside0 (Kd.S k45 45 w' w0.heap.size okS (.slice A0 l.length c0) l) ∧ Aside0 (Kd.R (Kd.int .i64) 3 w' w0.heap.size okO (.slice A1 (o.take n).length c1) (o.take n)) ∧ Aside0 (Kd.R (Kd.int .i64) 3 w' w0.heap.size okF (.slice A2 f'.length c2) f') ∧ Aside0 (Below w0.heap.size w0 w') ∧ Aside0 (Kept w w' (fun k => k = g)))
 case atStart => exact ⟨o.length, f, ⟨rfl, Nat.le_refl _, by have := CC.out; omega⟩, ⟨by rw [List.take_length]; exact IsPg.drewN HP.out nd0⟩, ⟨rfl, FL0.out⟩, ⟨Kd.S_drewN HS.out nd0⟩, ⟨by rw [List.take_length]; exact Kd.R_drewN HO.out nd0⟩, ⟨Kd.R_drewN HF.out nd0⟩, ⟨bn_ HB.out nd0⟩, ⟨kept_drewN (Kept.refl w _) nd0⟩⟩
 case round =>
  clear HP HS HO HF HB
  obtain ⟨n, f', HN, HP, HPF, HS, HO, HF, HB, HK⟩ := hrel
  have hn := HN.out
  have hcc := CC.out
  by_cases cn : n = ku.toNat
  ·subst cn
   have HPE := Aside0.mk ((popL_end l o ku.toNat f').symm.trans HPF.out.1)
   obtain ⟨p, hp⟩ : ∃ p, o.take ku.toNat = p := ⟨_, rfl⟩
   have hlen : p.length = ku.toNat := by rw [← hp, List.length_take]; omega
   rw [hp] at HP HO
   have HPP := Aside0.mk hp
   have hx1 := IsPg.x1 HP.out
   have d0 : decide ((p.length : Int) > ku) = false := decide_eq_false (by rw [hlen]; omega)
   have d1 : decide (ku < (p.length : Int)) = false := decide_eq_false (by rw [hlen]; omega)
   clear hn hcc hlen hp
   go_wp2
   ((try simp only [Exit.inBlock, Exit.then]); first | refine bodyPost_end (results_none rfl _ _ _) rfl ?_ | refine bodyPost_ret (results_none rfl _ _ _) rfl ?_)
   refine ⟨⟨_, rfl⟩, ?_, HS.out, ?_, ?_, HB.out, HK.out⟩
   ·rw [← HPE.out, HPP.out]; exact HP.out
   ·rw [HPP.out]; exact HO.out
   ·rw [← HPE.out]; exact HF.out
  obtain ⟨m, rfl⟩ : ∃ m, n = m + 1 := ⟨n - 1, by omega⟩
  have hlen : (o.take (m + 1)).length = m + 1 := by rw [List.length_take]; omega
  have HTK := Aside0.mk (show (o.take (m + 1)).take m = o.take m by rw [List.take_take, Nat.min_eq_left (Nat.le_succ m)])
  have HPQ := Aside0.mk (show popL l o ku.toNat m (cutF (nameAt l (o.take (m + 1)) (m : Int)) f') = popL l o ku.toNat o.length f by rw [← HPF.out.1]; exact (if_pos (by omega)).symm)
  have FLEN := Aside0.mk HPF.out.2
  clear HPF
  generalize o.take (m + 1) = p at HP HO hlen HTK HPQ
  have hx1 := IsPg.x1 HP.out
  have d0 : decide ((p.length : Int) > ku) = true := decide_eq_true (by omega)
  have d1 : decide (ku < (p.length : Int)) = true := decide_eq_true (by omega)
  have hw1 : wrap64 ((p.length : Int) - 1) = (m : Int) := by have := OLEN.out; rw [hlen]; unfold wrap64; omega
  have HC := Aside0.mk (page_nameOf g A0 c0 l A1 c1 p A2 c2 f' a b (m : Int) wr LLEN.out (by omega) (by omega) HP.out (Kd.S_reads' HS.out).2.2 (Kd.R_reads' HO.out).2.2)
  generalize hq : nameAt l p (m : Int) = s at HC HPQ
  obtain ⟨i_, hi_, _, hsz_, _⟩ := info_parts info3
  obtain ⟨hcut6, _, _⟩ := print_take_of (P := Try.prog) (Value.int .i64) 0 23 3 .i64 Try.underlying23 hi_ hsz_ A1 c1 p (m : Int) (by omega) (by omega) (Kd.R_reads' HO.out).2.1
  rw [Int.toNat_natCast] at hcut6
  obtain ⟨p2, hp2⟩ : ∃ p2, p.take m = p2 := ⟨_, rfl⟩
  have HP2L := Aside0.mk (show p2.length = m by rw [← hp2, List.length_take]; omega)
  have HP2 := Aside0.mk hp2
  rw [hp2] at hcut6 HTK
  have HPL := Aside0.mk hlen
  have hpe : (p.length : Int) - 1 = (m : Int) := by omega
  have MN := Aside0.mk (show m + 1 = gk ∧ m + 1 ≤ o.length ∧ ku.toNat ≤ m by have := HN.out; omega)
  clear hp2 hn hcc hlen hpe
  by_cases ct : s.toList = ([116, 100] : List UInt8) ∨ s.toList = ([116, 104] : List UInt8)
  ·obtain ⟨QK, HLK⟩ : ∃ x, Aside0 (lastMk f' f'.length = x) := ⟨_, ⟨rfl⟩⟩
   have hql := lastMk_le f' f'.length
   rw [HLK.out] at hql
   obtain ⟨q, hqe, q0, q1⟩ : ∃ q : Int, (if QK < 0 then (0 : Int) else QK) = q ∧ 0 ≤ q ∧ q ≤ (f'.length : Int) := ⟨_, rfl, by split <;> omega, by split <;> omega⟩
   have QL := Aside0.mk (show (q : Int).toNat ≤ f'.length by omega)
   obtain ⟨hcut5, _, _⟩ := print_take_of (P := Try.prog) (Value.int .i64) 0 23 3 .i64 Try.underlying23 hi_ hsz_ A2 c2 f' q q0 q1 (Kd.R_reads' HF.out).2.1
   have HPF : popL l o ku.toNat m (f'.take (q : Int).toNat) = popL l o ku.toNat o.length f ∧ (f'.take (q : Int).toNat).length ≤ 4611686018427387903 := ⟨by rw [← HPQ.out]; exact congrArg _ (show f'.take (q : Int).toNat = cutF s f' from by unfold cutF; rw [if_pos ct, HLK.out, hqe]), by have := FLEN.out; rw [List.length_take]; omega⟩
   obtain ⟨f2, hf2⟩ : ∃ f2, f'.take (q : Int).toNat = f2 := ⟨_, rfl⟩
   have HF2 := Aside0.mk hf2
   have HF2L := Aside0.mk (show f2.length = (q : Int).toNat by rw [← hf2, List.length_take]; have := QL.out; omega)
   rw [hf2] at hcut5 HPF
   have hmx : Builtin.max2 (.int .i64 QK) (.int .i64 0) = pure (.int .i64 q) := by rw [← hqe]; exact max2_int .i64 .i64 QK 0
   clear q0 q1 hql hf2 hqe
   rcases ct with ct | ct
   ·have t0 : (s.toList == ([116, 100] : List UInt8)) = true := beq_iff_eq.mpr ct
    clear ct HPQ hq
    go_wp2_with (go_at_call 62; (try simp only [hw1]); refine HC.out.mono ?_; rintro e w' ⟨rfl, ⟨nd, rfl⟩⟩)
    refine start_ (n := 12) (S := fun w' => w'.cell? ⟨g, 2, none⟩ = some (.slice A2 f'.length c2)) (ds := [11]) #[false, false, false, false, false, false, false, false, false, false, false, false] (by kernel_rfl) rfl rfl (IsPg.x2 (IsPg.drewN (IsPg.drewN HP.out nd) 1)) (fun hHeld => ?_)
    have hd_ := Aside0.mk (show (wr.drewN nd).drew = (wr.drewN nd).drewN 1 from rfl)
    generalize (wr.drewN nd).drew = w3 at hHeld hd_ ⊢
    refine pure_ (i := 0) (N := some 37) (v := ?_) (a' := ?_) #[true, false, false, false, false, false, false, false, false, false, false, false] rfl rfl (by kernel_rfl) (fun _ _ _ h => h) (Or.inl ⟨by rfl, ?_⟩) ?_ ?_
    rotate_left
    ·intro w'
     go_simp
     with_reducible rfl
    rotate_left
    ·simp only [Act.put, sa_, sz_, ss_, i64_w, i32_w]
     rfl
    refine pure_ (i := 1) (N := some 38) (v := ?_) (a' := ?_) #[true, true, false, false, false, false, false, false, false, false, false, false] rfl rfl (by kernel_rfl) (fun _ _ _ h => h) (Or.inl ⟨by rfl, ?_⟩) ?_ ?_
    rotate_left
    ·intro w'
     go_simp
     with_reducible rfl
    rotate_left
    ·simp only [Act.put, sa_, sz_, ss_, i64_w, i32_w]
     rfl
    refine pure_ (i := 2) (N := some 39) (v := ?_) (a' := ?_) #[true, true, true, false, false, false, false, false, false, false, false, false] rfl rfl (by kernel_rfl) (fun _ _ _ h => h) (Or.inl ⟨by rfl, ?_⟩) ?_ ?_
    rotate_left
    ·intro w'
     go_simp
     with_reducible rfl
    rotate_left
    ·simp only [Act.put, sa_, sz_, ss_, i64_w, i32_w]
     rfl
    refine pure_ (i := 3) (N := some 40) (v := ?_) (a' := ?_) #[true, true, true, true, false, false, false, false, false, false, false, false] rfl rfl (by kernel_rfl) (fun _ _ _ h => h) (Or.inl ⟨by rfl, ?_⟩) ?_ ?_
    rotate_left
    ·intro w'
     go_simp
     with_reducible rfl
    rotate_left
    ·simp only [Act.put, sa_, sz_, ss_, i64_w, i32_w]
     rfl
    refine pure_ (i := 5) (N := some 42) (v := ?_) (a' := ?_) #[true, true, true, true, false, true, false, false, false, false, false, false] rfl rfl (by kernel_rfl) (fun _ _ _ h => h) (Or.inl ⟨by rfl, ?_⟩) ?_ ?_
    rotate_left
    ·intro w'
     go_simp
     with_reducible rfl
    rotate_left
    ·simp only [Act.put, sa_, sz_, ss_, i64_w, i32_w]
     rfl
    refine take_ (i := 4) (N := some 41) (v := ?_) (a' := ?_) #[true, true, true, true, true, true, false, false, false, false, false, false] rfl rfl (by kernel_rfl) (fun _ _ _ h => h) (Or.inl ⟨by rfl, ?_⟩) hHeld ?_ ?_
    rotate_left
    ·rintro w' s0_
     go_simp
     with_reducible rfl
    rotate_left
    ·simp only [Act.put, sa_, sz_, ss_, i64_w, i32_w]
     rfl
    refine one_ (i := 6) (N := some 43) #[true, true, true, true, true, true, true, false, false, false, false, false] rfl rfl (by kernel_rfl) (by decide) (fun K hK => ?_)
    refine goes_ Try.func63 (by kernel_rfl) rfl #[.pointer (some ⟨g, 0, none⟩)] (by rfl) rfl rfl (by (try simp only [List.map_toArray, List.map_cons, List.map_nil]); first | done | rfl) ?_
    have HLM := page_lastMark g A0 c0 l A1 c1 p A2 c2 f' a b w3 FLEN.out (by rw [hd_.out]; exact IsPg.drewN (IsPg.drewN HP.out nd) 1) (by rw [hd_.out]; exact cn_ (cn_ (Kd.R_reads' HF.out).2.2 nd) 1)
    rw [HLK.out] at HLM
    refine HLM.mono ?_
    rintro e w4 ⟨rfl, ⟨nd2, rfl⟩⟩
    refine ⟨_, rfl, ?_⟩
    clear HLM
    refine hK.out _ _ hHeld (fun hHeld => ?_)
    clear hK K
    refine norm_ (a' := ?_) ?_ ?_
    rotate_left
    ·show Act.put _ (some 43) _ = _
     simp only [Act.put, sa_, sz_, ss_, i64_w, i32_w]
     rfl
    refine pure_ (i := 7) (N := some 44) (v := ?_) (a' := ?_) #[true, true, true, true, true, true, true, true, false, false, false, false] rfl rfl (by kernel_rfl) (fun _ _ _ h => h) (Or.inl ⟨by rfl, ?_⟩) ?_ ?_
    rotate_left
    ·intro w'
     go_simp
     with_reducible rfl
    rotate_left
    ·simp only [Act.put, sa_, sz_, ss_, i64_w, i32_w]
     rfl
    refine pure_ (i := 8) (N := some 45) (v := ?_) (a' := ?_) #[true, true, true, true, true, true, true, true, true, false, false, false] rfl rfl (by kernel_rfl) (fun _ _ _ h => h) (Or.inl ⟨by rfl, ?_⟩) ?_ ?_
    rotate_left
    ·intro w'
     go_simp
     with_reducible rfl
    rotate_left
    ·simp only [Act.put, sa_, sz_, ss_, i64_w, i32_w]
     rfl
    refine pure_ (i := 9) (N := some 46) (v := ?_) (a' := ?_) #[true, true, true, true, true, true, true, true, true, true, false, false] rfl rfl (by kernel_rfl) (fun _ _ _ h => h) (Or.inl ⟨by rfl, ?_⟩) ?_ ?_
    rotate_left
    ·intro w'
     go_simp
     with_reducible rfl
    rotate_left
    ·simp only [Act.put, sa_, sz_, ss_, i64_w, i32_w]
     rfl
    refine pure_ (i := 10) (N := some 47) (v := ?_) (a' := ?_) #[true, true, true, true, true, true, true, true, true, true, true, false] rfl rfl (by kernel_rfl) (fun _ _ _ h => h) (Or.inl ⟨by rfl, ?_⟩) ?_ ?_
    rotate_left
    ·intro w'
     go_simp
     with_reducible rfl
    rotate_left
    ·simp only [Act.put, sa_, sz_, ss_, i64_w, i32_w]
     rfl
    refine last_ (i := 11) (N := none) #[true, true, true, true, true, true, true, true, true, true, true, true] rfl rfl (by kernel_rfl) (by decide) (fun K hK => ?_)
    have hfz2 : w3.frozen? ⟨g, 2, none⟩ = false := by rw [hd_.out]; exact blk_frozen HP.out 2
    refine skip_ (w1 := ?_) (by rfl) rfl ?_ ?_
    rotate_left
    ·go_simp
     rfl
    refine hK.out _ _ ?_
    clear hK K
    refine done_ (by kernel_rfl) ?_
    have HW4 := Aside0.mk (show ∃ n_, w3.drewN nd2 = wr.drewN n_ from ⟨nd + 1 + nd2, by rw [hd_.out, World.drewN_drewN, World.drewN_drewN, Nat.add_assoc]⟩)
    clear hd_ hHeld hfz2
    obtain ⟨n_, hn_⟩ := HW4.out
    have HP4 := Aside0.mk (show IsPg ((w3.drewN nd2).setCell ⟨g, 2, none⟩ (.slice A2 f2.length c2)) g A0 c0 l A1 c1 p A2 c2 f2 a b by rw [hn_]; exact blk_put (IsPg.drewN HP.out n_) 2 _ (by simp))
    have HS4 := Aside0.mk (show Kd.S k45 45 ((w3.drewN nd2).setCell ⟨g, 2, none⟩ (.slice A2 f2.length c2)) w0.heap.size okS (.slice A0 l.length c0) l by rw [hn_]; exact Kd.S_far (p := ⟨g, 2, none⟩) (Kd.S_drewN HS.out n_) KS.out _)
    have HO4 := Aside0.mk (show Kd.R (Kd.int .i64) 3 ((w3.drewN nd2).setCell ⟨g, 2, none⟩ (.slice A2 f2.length c2)) w0.heap.size okO (.slice A1 p.length c1) p by rw [hn_]; exact Kd.R_far (p := ⟨g, 2, none⟩) (Kd.R_drewN HO.out n_) KO.out _)
    have HF4 := Aside0.mk (show Kd.R (Kd.int .i64) 3 ((w3.drewN nd2).setCell ⟨g, 2, none⟩ (.slice A2 f2.length c2)) w0.heap.size okF (.slice A2 f2.length c2) f2 by rw [hn_]; have h_ := Kd.R_take (m := (q : Int).toNat) (Kd.R_far (p := ⟨g, 2, none⟩) (Kd.R_drewN HF.out n_) KF.out (.slice A2 f2.length c2)) QL.out; rw [HF2.out, ← HF2L.out] at h_; exact h_)
    have HB4 := Aside0.mk (show Below w0.heap.size w0 ((w3.drewN nd2).setCell ⟨g, 2, none⟩ (.slice A2 f2.length c2)) by rw [hn_]; exact Below.setCell (bn_ HB.out n_) (p := ⟨g, 2, none⟩) HG.out _)
    have HK4 := Aside0.mk (show Kept w ((w3.drewN nd2).setCell ⟨g, 2, none⟩ (.slice A2 f2.length c2)) (fun k => k = g) by rw [hn_]; exact kept_set1 (kept_drewN HK.out n_))
    generalize (w3.drewN nd2).setCell ⟨g, 2, none⟩ (.slice A2 f2.length c2) = w5 at HP4 HS4 HO4 HF4 HB4 HK4 ⊢
    clear hn_
    have hx1 := IsPg.x1 HP4.out
    have hfz1 : (w5).frozen? ⟨g, 1, none⟩ = false := blk_frozen HP4.out 1
    go_wp2
    go_roundg m
    case measure => have := MN.out; omega
    case rel => exact ⟨m, f2, ⟨rfl, by have := MN.out; omega, by have := MN.out; omega⟩, ⟨show IsPg _ g A0 c0 l A1 c1 (o.take m) A2 c2 f2 a b from by rw [← HTK.out]; exact blk_put HP4.out 1 _ (by simp)⟩, ⟨HPF⟩, ⟨Kd.S_far (p := ⟨g, 1, none⟩) HS4.out KS.out _⟩, ⟨by rw [← HTK.out]; have h_ := Kd.R_take (m := m) (Kd.R_far (p := ⟨g, 1, none⟩) HO4.out KO.out (.slice A1 p2.length c1)) (by have := HPL.out; omega); rw [HP2.out, ← HP2L.out] at h_; exact h_⟩, ⟨Kd.R_far (p := ⟨g, 1, none⟩) HF4.out KF.out _⟩, ⟨Below.setCell HB4.out (p := ⟨g, 1, none⟩) HG.out _⟩, ⟨kept_set1 HK4.out⟩⟩
   ·have t0 : (s.toList == ([116, 100] : List UInt8)) = false := beq_eq_false_iff_ne.mpr (fun h => by rw [h] at ct; exact absurd ct (by decide)); have t1 : (s.toList == ([116, 104] : List UInt8)) = true := beq_iff_eq.mpr ct
    clear ct HPQ hq
    go_wp2_with (go_at_call 62; (try simp only [hw1]); refine HC.out.mono ?_; rintro e w' ⟨rfl, ⟨nd, rfl⟩⟩)
    refine start_ (n := 12) (S := fun w' => w'.cell? ⟨g, 2, none⟩ = some (.slice A2 f'.length c2)) (ds := [11]) #[false, false, false, false, false, false, false, false, false, false, false, false] (by kernel_rfl) rfl rfl (IsPg.x2 (IsPg.drewN (IsPg.drewN HP.out nd) 1)) (fun hHeld => ?_)
    have hd_ := Aside0.mk (show (wr.drewN nd).drew = (wr.drewN nd).drewN 1 from rfl)
    generalize (wr.drewN nd).drew = w3 at hHeld hd_ ⊢
    refine pure_ (i := 0) (N := some 37) (v := ?_) (a' := ?_) #[true, false, false, false, false, false, false, false, false, false, false, false] rfl rfl (by kernel_rfl) (fun _ _ _ h => h) (Or.inl ⟨by rfl, ?_⟩) ?_ ?_
    rotate_left
    ·intro w'
     go_simp
     with_reducible rfl
    rotate_left
    ·simp only [Act.put, sa_, sz_, ss_, i64_w, i32_w]
     rfl
    refine pure_ (i := 1) (N := some 38) (v := ?_) (a' := ?_) #[true, true, false, false, false, false, false, false, false, false, false, false] rfl rfl (by kernel_rfl) (fun _ _ _ h => h) (Or.inl ⟨by rfl, ?_⟩) ?_ ?_
    rotate_left
    ·intro w'
     go_simp
     with_reducible rfl
    rotate_left
    ·simp only [Act.put, sa_, sz_, ss_, i64_w, i32_w]
     rfl
    refine pure_ (i := 2) (N := some 39) (v := ?_) (a' := ?_) #[true, true, true, false, false, false, false, false, false, false, false, false] rfl rfl (by kernel_rfl) (fun _ _ _ h => h) (Or.inl ⟨by rfl, ?_⟩) ?_ ?_
    rotate_left
    ·intro w'
     go_simp
     with_reducible rfl
    rotate_left
    ·simp only [Act.put, sa_, sz_, ss_, i64_w, i32_w]
     rfl
    refine pure_ (i := 3) (N := some 40) (v := ?_) (a' := ?_) #[true, true, true, true, false, false, false, false, false, false, false, false] rfl rfl (by kernel_rfl) (fun _ _ _ h => h) (Or.inl ⟨by rfl, ?_⟩) ?_ ?_
    rotate_left
    ·intro w'
     go_simp
     with_reducible rfl
    rotate_left
    ·simp only [Act.put, sa_, sz_, ss_, i64_w, i32_w]
     rfl
    refine pure_ (i := 5) (N := some 42) (v := ?_) (a' := ?_) #[true, true, true, true, false, true, false, false, false, false, false, false] rfl rfl (by kernel_rfl) (fun _ _ _ h => h) (Or.inl ⟨by rfl, ?_⟩) ?_ ?_
    rotate_left
    ·intro w'
     go_simp
     with_reducible rfl
    rotate_left
    ·simp only [Act.put, sa_, sz_, ss_, i64_w, i32_w]
     rfl
    refine take_ (i := 4) (N := some 41) (v := ?_) (a' := ?_) #[true, true, true, true, true, true, false, false, false, false, false, false] rfl rfl (by kernel_rfl) (fun _ _ _ h => h) (Or.inl ⟨by rfl, ?_⟩) hHeld ?_ ?_
    rotate_left
    ·rintro w' s0_
     go_simp
     with_reducible rfl
    rotate_left
    ·simp only [Act.put, sa_, sz_, ss_, i64_w, i32_w]
     rfl
    refine one_ (i := 6) (N := some 43) #[true, true, true, true, true, true, true, false, false, false, false, false] rfl rfl (by kernel_rfl) (by decide) (fun K hK => ?_)
    refine goes_ Try.func63 (by kernel_rfl) rfl #[.pointer (some ⟨g, 0, none⟩)] (by rfl) rfl rfl (by (try simp only [List.map_toArray, List.map_cons, List.map_nil]); first | done | rfl) ?_
    have HLM := page_lastMark g A0 c0 l A1 c1 p A2 c2 f' a b w3 FLEN.out (by rw [hd_.out]; exact IsPg.drewN (IsPg.drewN HP.out nd) 1) (by rw [hd_.out]; exact cn_ (cn_ (Kd.R_reads' HF.out).2.2 nd) 1)
    rw [HLK.out] at HLM
    refine HLM.mono ?_
    rintro e w4 ⟨rfl, ⟨nd2, rfl⟩⟩
    refine ⟨_, rfl, ?_⟩
    clear HLM
    refine hK.out _ _ hHeld (fun hHeld => ?_)
    clear hK K
    refine norm_ (a' := ?_) ?_ ?_
    rotate_left
    ·show Act.put _ (some 43) _ = _
     simp only [Act.put, sa_, sz_, ss_, i64_w, i32_w]
     rfl
    refine pure_ (i := 7) (N := some 44) (v := ?_) (a' := ?_) #[true, true, true, true, true, true, true, true, false, false, false, false] rfl rfl (by kernel_rfl) (fun _ _ _ h => h) (Or.inl ⟨by rfl, ?_⟩) ?_ ?_
    rotate_left
    ·intro w'
     go_simp
     with_reducible rfl
    rotate_left
    ·simp only [Act.put, sa_, sz_, ss_, i64_w, i32_w]
     rfl
    refine pure_ (i := 8) (N := some 45) (v := ?_) (a' := ?_) #[true, true, true, true, true, true, true, true, true, false, false, false] rfl rfl (by kernel_rfl) (fun _ _ _ h => h) (Or.inl ⟨by rfl, ?_⟩) ?_ ?_
    rotate_left
    ·intro w'
     go_simp
     with_reducible rfl
    rotate_left
    ·simp only [Act.put, sa_, sz_, ss_, i64_w, i32_w]
     rfl
    refine pure_ (i := 9) (N := some 46) (v := ?_) (a' := ?_) #[true, true, true, true, true, true, true, true, true, true, false, false] rfl rfl (by kernel_rfl) (fun _ _ _ h => h) (Or.inl ⟨by rfl, ?_⟩) ?_ ?_
    rotate_left
    ·intro w'
     go_simp
     with_reducible rfl
    rotate_left
    ·simp only [Act.put, sa_, sz_, ss_, i64_w, i32_w]
     rfl
    refine pure_ (i := 10) (N := some 47) (v := ?_) (a' := ?_) #[true, true, true, true, true, true, true, true, true, true, true, false] rfl rfl (by kernel_rfl) (fun _ _ _ h => h) (Or.inl ⟨by rfl, ?_⟩) ?_ ?_
    rotate_left
    ·intro w'
     go_simp
     with_reducible rfl
    rotate_left
    ·simp only [Act.put, sa_, sz_, ss_, i64_w, i32_w]
     rfl
    refine last_ (i := 11) (N := none) #[true, true, true, true, true, true, true, true, true, true, true, true] rfl rfl (by kernel_rfl) (by decide) (fun K hK => ?_)
    have hfz2 : w3.frozen? ⟨g, 2, none⟩ = false := by rw [hd_.out]; exact blk_frozen HP.out 2
    refine skip_ (w1 := ?_) (by rfl) rfl ?_ ?_
    rotate_left
    ·go_simp
     rfl
    refine hK.out _ _ ?_
    clear hK K
    refine done_ (by kernel_rfl) ?_
    have HW4 := Aside0.mk (show ∃ n_, w3.drewN nd2 = wr.drewN n_ from ⟨nd + 1 + nd2, by rw [hd_.out, World.drewN_drewN, World.drewN_drewN, Nat.add_assoc]⟩)
    clear hd_ hHeld hfz2
    obtain ⟨n_, hn_⟩ := HW4.out
    have HP4 := Aside0.mk (show IsPg ((w3.drewN nd2).setCell ⟨g, 2, none⟩ (.slice A2 f2.length c2)) g A0 c0 l A1 c1 p A2 c2 f2 a b by rw [hn_]; exact blk_put (IsPg.drewN HP.out n_) 2 _ (by simp))
    have HS4 := Aside0.mk (show Kd.S k45 45 ((w3.drewN nd2).setCell ⟨g, 2, none⟩ (.slice A2 f2.length c2)) w0.heap.size okS (.slice A0 l.length c0) l by rw [hn_]; exact Kd.S_far (p := ⟨g, 2, none⟩) (Kd.S_drewN HS.out n_) KS.out _)
    have HO4 := Aside0.mk (show Kd.R (Kd.int .i64) 3 ((w3.drewN nd2).setCell ⟨g, 2, none⟩ (.slice A2 f2.length c2)) w0.heap.size okO (.slice A1 p.length c1) p by rw [hn_]; exact Kd.R_far (p := ⟨g, 2, none⟩) (Kd.R_drewN HO.out n_) KO.out _)
    have HF4 := Aside0.mk (show Kd.R (Kd.int .i64) 3 ((w3.drewN nd2).setCell ⟨g, 2, none⟩ (.slice A2 f2.length c2)) w0.heap.size okF (.slice A2 f2.length c2) f2 by rw [hn_]; have h_ := Kd.R_take (m := (q : Int).toNat) (Kd.R_far (p := ⟨g, 2, none⟩) (Kd.R_drewN HF.out n_) KF.out (.slice A2 f2.length c2)) QL.out; rw [HF2.out, ← HF2L.out] at h_; exact h_)
    have HB4 := Aside0.mk (show Below w0.heap.size w0 ((w3.drewN nd2).setCell ⟨g, 2, none⟩ (.slice A2 f2.length c2)) by rw [hn_]; exact Below.setCell (bn_ HB.out n_) (p := ⟨g, 2, none⟩) HG.out _)
    have HK4 := Aside0.mk (show Kept w ((w3.drewN nd2).setCell ⟨g, 2, none⟩ (.slice A2 f2.length c2)) (fun k => k = g) by rw [hn_]; exact kept_set1 (kept_drewN HK.out n_))
    generalize (w3.drewN nd2).setCell ⟨g, 2, none⟩ (.slice A2 f2.length c2) = w5 at HP4 HS4 HO4 HF4 HB4 HK4 ⊢
    clear hn_
    have hx1 := IsPg.x1 HP4.out
    have hfz1 : (w5).frozen? ⟨g, 1, none⟩ = false := blk_frozen HP4.out 1
    go_wp2
    go_roundg m
    case measure => have := MN.out; omega
    case rel => exact ⟨m, f2, ⟨rfl, by have := MN.out; omega, by have := MN.out; omega⟩, ⟨show IsPg _ g A0 c0 l A1 c1 (o.take m) A2 c2 f2 a b from by rw [← HTK.out]; exact blk_put HP4.out 1 _ (by simp)⟩, ⟨HPF⟩, ⟨Kd.S_far (p := ⟨g, 1, none⟩) HS4.out KS.out _⟩, ⟨by rw [← HTK.out]; have h_ := Kd.R_take (m := m) (Kd.R_far (p := ⟨g, 1, none⟩) HO4.out KO.out (.slice A1 p2.length c1)) (by have := HPL.out; omega); rw [HP2.out, ← HP2L.out] at h_; exact h_⟩, ⟨Kd.R_far (p := ⟨g, 1, none⟩) HF4.out KF.out _⟩, ⟨Below.setCell HB4.out (p := ⟨g, 1, none⟩) HG.out _⟩, ⟨kept_set1 HK4.out⟩⟩
  ·have t0 : (s.toList == ([116, 100] : List UInt8)) = false := beq_eq_false_iff_ne.mpr (fun h => ct (.inl h))
   have t1 : (s.toList == ([116, 104] : List UInt8)) = false := beq_eq_false_iff_ne.mpr (fun h => ct (.inr h))
   have HPF : popL l o ku.toNat m f' = popL l o ku.toNat o.length f ∧ f'.length ≤ 4611686018427387903 := ⟨by rw [← HPQ.out]; exact congrArg _ (show f' = cutF s f' from (if_neg ct).symm), FLEN.out⟩
   clear ct HPQ hq
   go_wp2_with (go_at_call 62; (try simp only [hw1]); refine HC.out.mono ?_; rintro e w' ⟨rfl, ⟨nd, rfl⟩⟩; have HPd := Aside0.mk (IsPg.drewN HP.out nd); have HSd := Aside0.mk (Kd.S_drewN HS.out nd); have HOd := Aside0.mk (Kd.R_drewN HO.out nd); have HFd := Aside0.mk (Kd.R_drewN HF.out nd); have HBd := Aside0.mk (bn_ HB.out nd); have HKd := Aside0.mk (kept_drewN HK.out nd); have hx1 := IsPg.x1 HPd.out; have hfz1 : (wr.drewN nd).frozen? ⟨g, 1, none⟩ = false := blk_frozen HPd.out 1)
   have hx1 := IsPg.x1 HPd.out
   have hfz1 : (wr.drewN nd).frozen? ⟨g, 1, none⟩ = false := blk_frozen HPd.out 1
   go_wp2
   go_roundg m
   case measure => have := MN.out; omega
   case rel => exact ⟨m, f', ⟨rfl, by have := MN.out; omega, by have := MN.out; omega⟩, ⟨show IsPg _ g A0 c0 l A1 c1 (o.take m) A2 c2 f' a b from by rw [← HTK.out]; exact blk_put HPd.out 1 _ (by simp)⟩, ⟨HPF⟩, ⟨Kd.S_far (p := ⟨g, 1, none⟩) HSd.out KS.out _⟩, ⟨by rw [← HTK.out]; have h_ := Kd.R_take (m := m) (Kd.R_far (p := ⟨g, 1, none⟩) HOd.out KO.out (.slice A1 p2.length c1)) (by have := HPL.out; omega); rw [HP2.out, ← HP2L.out] at h_; exact h_⟩, ⟨Kd.R_far (p := ⟨g, 1, none⟩) HFd.out KF.out _⟩, ⟨Below.setCell HBd.out (p := ⟨g, 1, none⟩) HG.out _⟩, ⟨kept_set1 HKd.out⟩⟩
def impl_PopTo.f (l : List (S45)) (o f : List Int) (a b : Int) (ku : Int) : Option (List (S45) × List Int × List Int × Int × Int) := (impl_copyPage.f l o f a b).bind fun p => if p.1.length ≤ 4611686018427387903 ∧ p.2.1.length ≤ 4611686018427387903 ∧ p.2.2.1.length ≤ 4611686018427387903 then some (p.1, popO p.2.1 ku, popF p.1 p.2.1 p.2.2.1 ku, p.2.2.2.1, p.2.2.2.2) else none
set_option maxHeartbeats 8000000 in
set_option maxRecDepth 100000 in
theorem impl_PopTo.calls (A0 : Option Addr) (c0 : Nat) (l : List (S45)) (A1 : Option Addr) (c1 : Nat) (o : List Int) (A2 : Option Addr) (c2 : Nat) (f : List Int) (a b : Int) (ku : Int) (q1 : List (S45)) (q2 q3 : List Int) (q4 q5 : Int) (w : World) (hr0 : Kd.C k45 w A0 l.length l) (hc0 : l.length ≤ c0) (hr1 : Kd.C (Kd.int .i64) w A1 o.length o) (hc1 : o.length ≤ c1) (hr2 : Kd.C (Kd.int .i64) w A2 f.length f) (hc2 : f.length ≤ c2) (h : impl_PopTo.f l o f a b ku = some (q1, q2, q3, q4, q5)) :
  Calls Try.prog 23 #[.agg #[.slice A0 l.length c0, .slice A1 o.length c1, .slice A2 f.length c2, .int .i64 a, .int .i64 b], .int .i64 ku] w fun e w' => ∃ v0_ v1_ v2_ : Value, e = .returned (.agg #[v0_, v1_, v2_, .int .i64 q4, .int .i64 q5]) ∧ Kd.S k45 45 w' w.heap.size (fun k_ => some k_ ≠ (v1_ : Value).ownBlock ∧ some k_ ≠ (v2_ : Value).ownBlock) v0_ q1 ∧ Kd.R (Kd.int .i64) 3 w' w.heap.size (fun k_ => some k_ ≠ (v2_ : Value).ownBlock) v1_ q2 ∧ Kd.R (Kd.int .i64) 3 w' w.heap.size (fun k_ => some k_ ≠ (v1_ : Value).ownBlock) v2_ q3 ∧ Below w.heap.size w w' := by
 obtain ⟨⟨r1, r2, r3, r4, r5⟩, X1, h⟩ := Option.bind_eq_some_iff.mp h
 simp only [] at h
 by_cases cl : r1.length ≤ 4611686018427387903 ∧ r2.length ≤ 4611686018427387903 ∧ r3.length ≤ 4611686018427387903
 rotate_left
 ·rw [if_neg cl] at h; exact absurd h (by simp)
 rw [if_pos cl] at h
 simp only [Option.some.injEq, Prod.mk.injEq] at h
 obtain ⟨rfl, rfl, rfl, rfl, rfl⟩ := h
 have XL := Aside0.mk cl
 clear cl
 have X1 := Aside0.mk X1
 have H0 := Aside0.mk hr0
 have H1 := Aside0.mk hr1
 have H2 := Aside0.mk hr2
 have HC0 := Aside0.mk hc0
 have HC1 := Aside0.mk hc1
 have HC2 := Aside0.mk hc2
 clear hr0 hr1 hr2 hc0 hc1 hc2
 have hu := Try.underlying25
 have B := Aside0.mk (Below.refl w.heap.size w)
 go_enter Try.func23, Try.ntmps23
 go_wp2_with (first | ((with_reducible refine gate_dst (N := 2) rfl ?_); refine box_event ?hg (N := 2) ?hd (cs := #[.slice A0 l.length c0, .slice A1 o.length c1, .slice A2 f.length c2, .int .i64 a, .int .i64 b]) (t := 25) ?hr ?_; (case hd => rfl); (case hg => rfl); (case hr => first | (go_simp; done) | (go_simp; rfl)); intro g1 hg_ w1 hbox hb; have P1 := Aside0.mk (show IsPg w1 g1 A0 c0 l A1 c1 o A2 c2 f a b from hbox); have E1 := Aside0.mk (show w.heap.size ≤ g1 by rw [hg_]; exact Nat.le_refl _); have L1 := Aside0.mk (blk_lt hbox); clear hbox hg_; have n0_ := Aside0.mk (below_step B.out hb); clear B; have B := n0_; clear n0_ hb) | ((with_reducible refine gate_dst (N := 4) rfl ?_); refine box_event ?hg (N := 4) ?hd (cs := #[.slice none 0 0, .slice none 0 0, .slice none 0 0, .int .i64 0, .int .i64 0]) (t := 25) ?hr ?_; (case hd => rfl); (case hg => rfl); (case hr => first | (go_simp; done) | (go_simp; rfl)); intro g2 hg_ w2 hbox hb; have Z2 := Aside0.mk hbox; have E2 := Aside0.mk (show w.heap.size ≤ g2 by rw [hg_]; exact B.out.size); have L2 := Aside0.mk (blk_lt hbox); have N12 := Aside0.mk (show g1 ≠ g2 by rw [hg_]; exact Nat.ne_of_lt L1.out); clear hbox hg_; have n0_ := Aside0.mk (below_step B.out hb); have n1_ := Aside0.mk (IsPg.below P1.out hb); clear B P1; have B := n0_; have P1 := n1_; clear n0_ n1_ hb; have za0 := P1.out.x0; have za1 := P1.out.x1; have za2 := P1.out.x2; have za3 := P1.out.x3; have za4 := P1.out.x4) | (go_at_call 41; refine (impl_copyPage.calls A0 c0 l A1 c1 o A2 c2 f a b r1 r2 r3 r4 r5 _ (Kd.C_below H0.out B.out) HC0.out (Kd.C_below H1.out B.out) HC1.out (Kd.C_below H2.out B.out) HC2.out X1.out).mono ?_; rintro e w3 ⟨v0, v1, v2, rfl, hS, hO, hF, hb⟩; obtain ⟨a0, n0, rfl⟩ := Kd.S_slice hS; obtain ⟨a1, n1, rfl⟩ := Kd.R_slice hO; obtain ⟨a2, n2, rfl⟩ := Kd.R_slice hF; have hs_ := Aside0.mk (Kd.S_lower (Kd.S_mono (ok' := fun k => w2.heap.size ≤ k ∧ k < w3.heap.size ∧ some k ≠ (Value.slice a1 r2.length n1 : Value).ownBlock ∧ some k ≠ (Value.slice a2 r3.length n2 : Value).ownBlock) (Kd.S_bound hS) (fun k hk => ⟨hk.2.1, hk.2.2.1, hk.1.1, hk.1.2⟩)) B.out.size); have ho_ := Aside0.mk (Kd.R_lower (Kd.R_mono (ok' := fun k => w2.heap.size ≤ k ∧ k < w3.heap.size ∧ some k ≠ (Value.slice a2 r3.length n2 : Value).ownBlock) (Kd.R_bound hO) (fun k hk => ⟨hk.2.1, hk.2.2.1, hk.1⟩)) B.out.size); have hf_ := Aside0.mk (Kd.R_lower (Kd.R_mono (ok' := fun k => w2.heap.size ≤ k ∧ k ≠ w3.heap.size ∧ some k ≠ (Value.slice a1 r2.length n1 : Value).ownBlock) (Kd.R_bound hF) (fun k hk => ⟨hk.2.1, Nat.ne_of_lt hk.2.2.1, hk.1⟩)) B.out.size); have LF := Aside0.mk (Kd.R_lt hF); have LO := Aside0.mk (Kd.R_lt hO); have M23 := Aside0.mk hb.size; clear hS hO hF; clear za0 za1 za2 za3 za4; have n0_ := Aside0.mk (below_step B.out hb); have n1_ := Aside0.mk (IsPg.below P1.out hb); have n2_ := Aside0.mk (blk_below Z2.out hb); clear B P1 Z2; have B := n0_; have P1 := n1_; have Z2 := n2_; clear n0_ n1_ n2_ hb; have S3 := hs_; have O3 := ho_; have F3 := hf_; clear hs_ ho_ hf_) | ((with_reducible refine gate_store (t := 25) (p := 5) rfl ?_); refine store_event (t := 25) (p := 5) (v := ?vo1_) (w1 := ?w11_) ?hg ?ho ?hn ?hr ?_; (case ho => rfl); (case hg => rfl); (case hn => rfl); (case hr => go_simp; rfl); intro w4 hw_; have hb := (show Below w3.heap.size w3 w4 by rw [hw_]; exact (Below.refl w3.heap.size w3).alloc (Nat.le_refl _) _); have P3 := Aside0.mk (show IsPg w4 w3.heap.size a0 n0 r1 a1 n1 r2 a2 n2 r3 r4 r5 by rw [hw_]; exact blk_new _ _); clear hw_; have n0_ := Aside0.mk (below_step B.out hb); have n1_ := Aside0.mk (IsPg.below P1.out hb); have n2_ := Aside0.mk (blk_below Z2.out hb); have n3_ := Aside0.mk (Kd.S_below S3.out hb); have n4_ := Aside0.mk (Kd.R_below O3.out hb); have n5_ := Aside0.mk (Kd.R_below F3.out hb); clear B P1 Z2 S3 O3 F3; have B := n0_; have P1 := n1_; have Z2 := n2_; have S3 := n3_; have O3 := n4_; have F3 := n5_; clear n0_ n1_ n2_ n3_ n4_ n5_ hb; have L4 := Aside0.mk (blk_lt P3.out)) | (go_at_call 44; refine (page_popTo w3.heap.size a0 n0 r1 a1 n1 r2 a2 n2 r3 r4 r5 ku (fun k => k ≠ w3.heap.size ∧ k ≠ g2 ∧ some k ≠ (Value.slice a1 r2.length n1 : Value).ownBlock ∧ some k ≠ (Value.slice a2 r3.length n2 : Value).ownBlock) (fun k => k ≠ w3.heap.size ∧ k ≠ g2 ∧ some k ≠ (Value.slice a2 r3.length n2 : Value).ownBlock) (fun k => k ≠ w3.heap.size ∧ k ≠ g2 ∧ some k ≠ (Value.slice a1 r2.length n1 : Value).ownBlock) w _ P3.out (Nat.le_trans (Nat.le_trans E2.out (Nat.le_of_lt L2.out)) M23.out) B.out (Kd.S_mono S3.out (fun k h => ⟨Nat.ne_of_lt h.2.1, Nat.ne_of_gt (Nat.lt_of_lt_of_le L2.out h.1), h.2.2.1, h.2.2.2⟩)) (Kd.R_mono O3.out (fun k h => ⟨Nat.ne_of_lt h.2.1, Nat.ne_of_gt (Nat.lt_of_lt_of_le L2.out h.1), h.2.2⟩)) (Kd.R_mono F3.out (fun k h => ⟨h.2.1, Nat.ne_of_gt (Nat.lt_of_lt_of_le L2.out h.1), h.2.2⟩)) (fun k h => h.1) (fun k h => h.1) (fun k h => h.1) XL.out.1 XL.out.2.1 XL.out.2.2).mono ?_; rintro e w5 ⟨⟨v9, rfl⟩, hp, hs, ho, hf, hb, hk⟩; have P5 := Aside0.mk hp; have S5 := Aside0.mk (Kd.S_mono (ok' := fun k => k ≠ g2 ∧ some k ≠ (Value.slice a1 (popO r2 ku).length n1 : Value).ownBlock ∧ some k ≠ (Value.slice a2 (popF r1 r2 r3 ku).length n2 : Value).ownBlock) hs (fun k h => by rw [own_len a1 _ r2.length n1, own_len a2 _ r3.length n2]; exact h.2)); have O5 := Aside0.mk (Kd.R_mono (ok' := fun k => k ≠ g2 ∧ some k ≠ (Value.slice a2 (popF r1 r2 r3 ku).length n2 : Value).ownBlock) ho (fun k h => by rw [own_len a2 _ r3.length n2]; exact h.2)); have F5 := Aside0.mk (Kd.R_mono (ok' := fun k => k ≠ g2 ∧ some k ≠ (Value.slice a1 (popO r2 ku).length n1 : Value).ownBlock) hf (fun k h => by rw [own_len a1 _ r2.length n1]; exact h.2)); have Z5 := Aside0.mk ((hk.2 g2 (blk_lt Z2.out) (fun h3 => absurd L2.out (by rw [h3]; exact Nat.not_lt.2 M23.out))).trans Z2.out); clear B; have B := Aside0.mk hb; clear hp hs ho hf hb hk; have zb0 := P5.out.x0; have zb1 := P5.out.x1; have zb2 := P5.out.x2; have zb3 := P5.out.x3; have zb4 := P5.out.x4; have zc0 : w5.cell? ⟨g2, 0, none⟩ = some (.slice none 0 0) := (bc_ Z5.out 0).trans rfl; have zc1 : w5.cell? ⟨g2, 1, none⟩ = some (.slice none 0 0) := (bc_ Z5.out 1).trans rfl; have zc2 : w5.cell? ⟨g2, 2, none⟩ = some (.slice none 0 0) := (bc_ Z5.out 2).trans rfl; have zc3 : w5.cell? ⟨g2, 3, none⟩ = some (.int .i64 0) := (bc_ Z5.out 3).trans rfl; have zc4 : w5.cell? ⟨g2, 4, none⟩ = some (.int .i64 0) := (bc_ Z5.out 4).trans rfl; have zf0 := blk_frozen Z5.out 0; have zf1 := blk_frozen Z5.out 1; have zf2 := blk_frozen Z5.out 2; have zf3 := blk_frozen Z5.out 3; have zf4 := blk_frozen Z5.out 4))
 refine bodyPost_ret (results_cell_row rfl _ _ g2 25 #[.slice a0 r1.length n0, .slice a1 (popO r2 ku).length n1, .slice a2 (popF r1 r2 r3 ku).length n2, .int .i64 r4, .int .i64 r5] (0, 0) _ rfl (pg_put5 Z5.out) Try.underlying25 rfl (by kernel_rfl)) rfl ?_
 exact ⟨_, _, _, by first | rfl | (simp; done), Kd.S_far5 S5.out (fun k hk => hk.1) (fun k hk => hk.2), Kd.R_far5 O5.out (fun k hk => hk.1) (fun k hk => hk.2), Kd.R_far5 F5.out (fun k hk => hk.1) (fun k hk => hk.2), below_put5 B.out E2.out⟩
end Go.Proofs.Ytedeliggbjbngaa.PFnExactPopTo
