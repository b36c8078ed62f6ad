-- Written by this session's program wip/slim.py: the print's texts (with contracts of our own), only what this row needs, shortened. Lean checks it.
import Derived.Test.YtbgedpicfllclaaSFnExactOrderx0
import Derived.Test.YtbgedpicfllclaaSFnExactOrderx3
namespace Go.Proofs.Ytbgedpicfllclaa.PFnExactOrder
open Go.RowKit Go.Proofs.YtbgedpicfllclaaW.PrintWords Go.Proofs.YtbgedpicfllclaaW.PrintLast Go.Proofs.YtbgedpicfllclaaW.PrintMore
attribute [local go_sem] max2_int min2_int max_two min_two max_three min_three max_four min_four   -- for this text's walks alone
set_option linter.unusedVariables false
set_option linter.unusedSimpArgs false
theorem kept_set {w W : World} {P : Nat → Prop} {g o : Nat} {u : Value} (h : Kept w W P) (hg : P g) : Kept w (W.setCell ⟨g, o, none⟩ u) P := ⟨by simpa using h.1, fun i hi hn => (Below.heap_setCell W ⟨g, o, none⟩ u i (fun e => hn (by rw [e]; exact hg))).trans (h.2 i hi hn)⟩
theorem kept_step {w W W1 : World} {P S : Nat → Prop} (h : Kept w W P) (h2 : Kept W W1 S) (hs : ∀ k, S k → P k) : Kept w W1 P := ⟨Nat.le_trans h.1 h2.1, fun i hi hn => (h2.2 i (Nat.lt_of_lt_of_le hi h.1) (fun hk => hn (hs i hk))).trans (h.2 i hi hn)⟩
theorem kept_below {w W W1 : World} {P : Nat → Prop} (h : Kept w W P) (hb : Below W.heap.size W W1) : Kept w W1 P := ⟨Nat.le_trans h.1 hb.size, fun i hi hn => (hb.block i (Nat.lt_of_lt_of_le hi h.1)).trans (h.2 i hi hn)⟩
def MI (W : World) (base g len na nk : Nat) (Q : Nat → Nat → Prop) (l : List (S44)) : Prop := ∃ cells : Array Value, W.heap[g]? = some (.cells cells 44 (0, 0)) ∧ len * 7 ≤ cells.size ∧ ∀ j, j < len →
 (na ≤ j → ∃ va, cells[j * 7 + 3]? = some va ∧ Kd.R k91 91 W base (Q j) va (rd_T44 l (j : Int)).f3) ∧ (nk ≤ j → ∃ vk, cells[j * 7 + 6]? = some vk ∧ Kd.R (Kd.int .i64) 3 W base (Q j) vk (rd_T44 l (j : Int)).f6)
section
variable {W W1 : World} {base g len na nk : Nat} {Q : Nat → Nat → Prop} {l : List (S44)}
theorem MI.set (h : MI W base g len na nk Q l) (hQ : ∀ j k, Q j k → k ≠ g) (o : Nat) (ho : ∀ j, j * 7 + 3 ≠ o ∧ j * 7 + 6 ≠ o) (u : Value) : MI (W.setCell ⟨g, o, none⟩ u) base g len na nk Q l := by
 obtain ⟨cells, hc, hs, hr⟩ := h
 refine ⟨cells.setIfInBounds o u, blk_set hc o u, by simpa using hs, fun j hj => ?_⟩
 obtain ⟨h1, h2⟩ := hr j hj
 refine ⟨fun hn => ?_, fun hn => ?_⟩
 ·obtain ⟨va, hv, hR⟩ := h1 hn
  exact ⟨va, by rw [Array.getElem?_setIfInBounds_ne (fun e => (ho j).1 e.symm)]; exact hv, Kd.R_far (p := ⟨g, o, none⟩) hR (fun k hk => hQ j k hk) u⟩
 ·obtain ⟨vk, hv, hR⟩ := h2 hn
  exact ⟨vk, by rw [Array.getElem?_setIfInBounds_ne (fun e => (ho j).2 e.symm)]; exact hv, Kd.R_far (p := ⟨g, o, none⟩) hR (fun k hk => hQ j k hk) u⟩
theorem MI.below (h : MI W base g len na nk Q l) (hb : Below W.heap.size W W1) : MI W1 base g len na nk Q l := by
 obtain ⟨cells, hc, hs, hr⟩ := h
 refine ⟨cells, blk_below hc hb, hs, fun j hj => ⟨fun hn => ?_, fun hn => ?_⟩⟩
 ·obtain ⟨va, hv, hR⟩ := (hr j hj).1 hn
  exact ⟨va, hv, Kd.R_below hR hb⟩
 ·obtain ⟨vk, hv, hR⟩ := (hr j hj).2 hn
  exact ⟨vk, hv, Kd.R_below hR hb⟩
theorem MI.cell (h : MI W base g len na nk Q l) (o : Nat) (ho : o < len * 7) : ∃ u, W.cell? ⟨g, o, none⟩ = some u := by
 obtain ⟨cells, hc, hs, _⟩ := h
 exact ⟨cells[o]'(by omega), (blk_cell hc o).trans (Array.getElem?_eq_getElem (by omega))⟩
theorem MI.frozen (h : MI W base g len na nk Q l) (o : Nat) : W.frozen? ⟨g, o, none⟩ = false := by
 obtain ⟨cells, hc, _⟩ := h
 exact blk_frozen hc o
theorem MI.attrs (h : MI W base g len na nk Q l) (j : Nat) (hj : j < len) (hn : na ≤ j) : ∃ va, W.cell? ⟨g, j * 7 + 3, none⟩ = some va ∧ Kd.R k91 91 W base (Q j) va (rd_T44 l (j : Int)).f3 := by
 obtain ⟨cells, hc, _, hr⟩ := h
 obtain ⟨va, hv, hR⟩ := (hr j hj).1 hn
 exact ⟨va, (blk_cell hc _).trans hv, hR⟩
theorem MI.kids (h : MI W base g len na nk Q l) (j : Nat) (hj : j < len) (hn : nk ≤ j) : ∃ vk, W.cell? ⟨g, j * 7 + 6, none⟩ = some vk ∧ Kd.R (Kd.int .i64) 3 W base (Q j) vk (rd_T44 l (j : Int)).f6 := by
 obtain ⟨cells, hc, _, hr⟩ := h
 obtain ⟨vk, hv, hR⟩ := (hr j hj).2 hn
 exact ⟨vk, (blk_cell hc _).trans hv, hR⟩
theorem R_other {α : Type} {d : Kd α} {e e2 : Nat} {v : Value} {xs : List α} {ok S : Nat → Prop} (hE : d.E = []) (h : d.R e W base ok v xs) (hk : Kept W W1 S) (hS : ∀ k, S k → ok k → (∃ cells, W.heap[k]? = some (.cells cells e2 (0, 0))) ∧ e2 ≠ e) : d.R e W1 base ok v xs := by
 refine Kd.R_mono (Kd.R_move (Kd.R_bound h) (fun k hk2 => ?_)) (fun _ hk2 => hk2.1)
 obtain ⟨h1, _, h3, q, hq, cells, hc⟩ := hk2
 have e0 : q = e := by
  rw [hE] at hq
  simpa using hq
 subst e0
 refine hk.2 k h3 (fun hs => ?_)
 obtain ⟨⟨cells2, hc2⟩, hne⟩ := hS k hs h1
 rw [hc] at hc2
 injection hc2 with hc2
 injection hc2 with _ h4 _
 exact hne h4.symm
theorem MI.kept {S : Nat → Prop} (h : MI W base g len na nk Q l) (hk : Kept W W1 S) (e n : Nat) (he : e ≠ 44) (hS : ∀ k, S k → Q n k ∧ ∃ cells, W.heap[k]? = some (.cells cells e (0, 0))) (hdis : ∀ i j k, Q i k → Q j k → i = j) (na' nk' : Nat) (hna : ∀ j, na' ≤ j → na ≤ j ∧ (j ≠ n ∨ e ≠ 91)) (hnk : ∀ j, nk' ≤ j → nk ≤ j ∧ (j ≠ n ∨ e ≠ 3)) : MI W1 base g len na' nk' Q l := by
 obtain ⟨cells, hc, hs, hr⟩ := h
 have hg : W1.heap[g]? = W.heap[g]? := hk.2 g (blk_lt hc) (fun hs => by
  obtain ⟨_, cells2, hc2⟩ := hS g hs
  rw [hc] at hc2
  injection hc2 with hc2
  injection hc2 with _ h4 _
  exact he h4.symm)
 refine ⟨cells, hg.trans hc, hs, fun j hj => ⟨fun hn => ?_, fun hn => ?_⟩⟩
 ·obtain ⟨va, hv, hR⟩ := (hr j hj).1 (hna j hn).1
  refine ⟨va, hv, R_other (e2 := e) rfl hR hk (fun k hs hq => ⟨(hS k hs).2, fun e0 => ?_⟩)⟩
  rcases (hna j hn).2 with h1 | h1
  ·exact h1 (hdis _ _ k hq (hS k hs).1)
  ·exact h1 e0
 ·obtain ⟨vk, hv, hR⟩ := (hr j hj).2 (hnk j hn).1
  refine ⟨vk, hv, R_other (e2 := e) rfl hR hk (fun k hs hq => ⟨(hS k hs).2, fun e0 => ?_⟩)⟩
  rcases (hnk j hn).2 with h1 | h1
  ·exact h1 (hdis _ _ k hq (hS k hs).1)
  ·exact h1 e0
theorem MI.of_S {P : Nat → Prop} {n cap : Nat} (h : Kd.S k44 44 W base P (.slice (some ⟨g, 0, none⟩) n cap) l) (hn : n = l.length) (hp : 0 < l.length) : ∃ Q : Nat → Nat → Prop, (∀ j k, Q j k → P k ∧ k ≠ g) ∧ (∀ i j k, Q i k → Q j k → i = j) ∧ MI W base g l.length 0 0 Q l ∧ P g ∧ base ≤ g := by
 have hown : (Value.slice (some ⟨g, 0, none⟩) n cap).ownBlock = some g := by simp [Value.ownBlock]
 obtain ⟨cells, hc⟩ := Kd.S_typed h g hown
 have hbg := Kd.S_base h g hown
 have hP : P g := (Kd.S_R h).1 g hown
 obtain ⟨f, hR⟩ := h
 have hel : ∀ j, j < l.length → ∃ va vk, cells[j * 7 + 3]? = some va ∧ cells[j * 7 + 6]? = some vk ∧ Kd.R k91 91 W base (fun k => (P k ∧ k ≠ g) ∧ f k = j) va (rd_T44 l (j : Int)).f3 ∧ Kd.R (Kd.int .i64) 3 W base (fun k => (P k ∧ k ≠ g) ∧ f k = j) vk (rd_T44 l (j : Int)).f6 := fun j hj => by
  obtain ⟨c, hcl, hM, hcc, _⟩ := Kd.R_elem hR (z44, j) (j : Int) (by omega) (by omega)
  have e : (l.zipIdx).getD ((j : Int).toNat) (z44, j) = (rd_T44 l (j : Int), j) := by
   unfold rd_T44
   rw [Int.toNat_natCast, List.getD_eq_getElem?_getD, List.getElem?_zipIdx, List.getD_eq_getElem?_getD, List.getElem?_eq_getElem hj, Nat.zero_add]
   rfl
  rw [e] at hM
  have hM2 : k44.M W base (fun k => (P k ∧ k ≠ g) ∧ f k = j) (rd_T44 l (j : Int)) c := hM
  obtain ⟨va, vk, rfl, hA, hK⟩ := k44_openM hM2
  have c3 := hcc 3 va rfl
  have c6 := hcc 6 vk rfl
  rw [Int.toNat_natCast] at c3 c6
  exact ⟨va, vk, (blk_cell hc _).symm.trans c3, (blk_cell hc _).symm.trans c6, hA, hK⟩
 refine ⟨fun j k => (P k ∧ k ≠ g) ∧ f k = j, fun j k hk => hk.1, fun i j k h1 h2 => h1.2.symm.trans h2.2, ⟨cells, hc, ?_, fun j hj => ?_⟩, hP, hbg⟩
 ·obtain ⟨_, vk, _, h6, _⟩ := hel (l.length - 1) (by omega)
  have := (Array.getElem?_eq_some_iff.1 h6).1
  omega
 ·obtain ⟨va, vk, h3, h6, hA, hK⟩ := hel j hj
  exact ⟨fun _ => ⟨va, h3, hA⟩, fun _ => ⟨vk, h6, hK⟩⟩
end
def laws_markItemS.l0 : Nat → List (S44) → Int → Int → Option Int
 | 0, _, _, _ => none
 | k + 1, l, c, x => if x < (l.length : Int) then (if 0 ≤ x then ((laws_markText.f k (wrap64 (wrap64 (c + 1) + 1))).bind fun s => ((laws_markAttrS.f k (rd_T44 l x).f3 (wrap64 (wrap64 (wrap64 (c + 1) + 1) + 1))).bind fun b => ((laws_markText.f k b.1).bind fun t => ((laws_markIntS.f k (rd_T44 l x).f6 (wrap64 (wrap64 (b.1 + 1) + 1))).bind fun d => (laws_markItemS.l0 k l d.1 (wrap64 (x + 1))))))) else none) else (some c)
def laws_markItemS.f (k : Nat) (l0 : List (S44)) (a1 : Int) : Option Int := if l0.length ≤ 4611686018427387903 then laws_markItemS.l0 k l0 a1 0 else none
theorem laws_markItemS.mono_l : ∀ k, (∀ y0 y1 y2, LeO (laws_markItemS.l0 k y0 y1 y2) (laws_markItemS.l0 (k + 1) y0 y1 y2))
 | 0 => fun _ _ _ r h => by simp [laws_markItemS.l0] at h
 | k + 1 => by
  have ih0 := laws_markItemS.mono_l k
  intro y0 y1 y2
  unfold laws_markItemS.l0
  repeat' first
    | (with_reducible exact ih0 _ _ _)
    | (with_reducible exact laws_markText.mono _ _)
    | (with_reducible exact laws_markAttrS.mono _ _ _)
    | (with_reducible exact laws_markIntS.mono _ _ _)
    | (with_reducible exact LeO.refl _)
    | (with_reducible exact LeO.none _)
    | (with_reducible refine LeO.ite ?_ ?_)
    | (with_reducible refine LeO.bind ?_ (fun _ => ?_))
theorem laws_markItemS.mono : ∀ a0 a1 k, LeO (laws_markItemS.f k a0 a1) (laws_markItemS.f (k + 1) a0 a1) := by
 intro a0 a1 k
 unfold laws_markItemS.f
 exact LeO.ite (laws_markItemS.mono_l k _ _ _) (LeO.none _)
set_option maxHeartbeats 8000000 in
set_option maxRecDepth 100000 in
theorem laws_markItemS.calls (k : Nat) (P0_ : Nat → Prop) (u9000_ : Value) (l0 : List (S44)) (a1 : Int) (r1 : Int) (w0 w : World) (hB : Below w0.heap.size w0 w) (ho0 : Kd.S k44 44 w w0.heap.size P0_ u9000_ l0) (h : laws_markItemS.f k l0 a1 = some r1) :
  Calls Try.prog 23 #[u9000_, .int .i64 a1] w fun e w' => e = .returned (.int .i64 r1) ∧ Below w0.heap.size w0 w' ∧ Kept w w' (fun k_ => P0_ k_) := by
 unfold laws_markItemS.f at h
 by_cases hlen : l0.length ≤ 4611686018427387903
 rotate_left
 ·rw [if_neg hlen] at h; exact absurd h (by simp)
 rw [if_pos hlen] at h
 have HLEN := Aside0.mk hlen
 have H' := Aside0.mk h
 have HB := Aside0.mk hB
 have HK := Aside0.mk (Kept.refl w (fun k_ => P0_ k_))
 clear h hB hlen
 by_cases hp : 0 < l0.length
 rotate_left
 ·obtain ⟨A, cc, rfl⟩ := Kd.S_slice ho0
  have e0 : l0 = [] := List.length_eq_zero_iff.1 (by omega)
  subst e0
  clear ho0
  have HE := Aside0.mk (show r1 = a1 by
   have h := H'.out
   cases k with
   | zero => simp [laws_markItemS.l0] at h
   | succ k => simp only [laws_markItemS.l0] at h; rw [if_neg (by simp)] at h; exact (Option.some.inj h).symm)
  clear H' hp
  go_enter Try.func23, Try.ntmps23
  go_wp2
  go_loopg [1, 5] 0 (fun kq v1 v5 w' => v1 = .int .i64 a1 ∧ v5 = .int .i64 0 ∧ w' = w)
  case atStart => exact ⟨rfl, rfl, rfl⟩
  case round =>
   obtain ⟨rfl, rfl, rfl⟩ := hrel
   go_wp2
   go_ret
   exact ⟨by rw [HE.out]; first | rfl | (simp; done), HB.out, HK.out⟩
 obtain ⟨g, cap, rfl, hbg, _, _⟩ := Kd.S_form ho0 hp
 obtain ⟨Q, hQP, hdis, hMI, hPg, _⟩ := MI.of_S ho0 rfl hp
 have HM := Aside0.mk hMI
 have HQ := Aside0.mk (fun j k hk => (hQP j k hk).2 : ∀ j k, Q j k → k ≠ g)
 have HQP := Aside0.mk (fun j k hk => (hQP j k hk).1 : ∀ j k, Q j k → P0_ k)
 have HD := Aside0.mk hdis
 have HPG := Aside0.mk hPg
 have HG := Aside0.mk hbg
 clear ho0 hp hMI hQP hdis hPg hbg
 go_enter Try.func23, Try.ntmps23
 go_wp2
 go_loopg [1, 5] k (fun kq v1 v5 w' => ∃ (c : Int) (n : Nat), v1 = .int .i64 c ∧ v5 = .int .i64 (n : Int) ∧ Aside0 (laws_markItemS.l0 kq l0 c (n : Int) = some r1) ∧ Aside0 (kq ≤ k) ∧ Aside0 (n ≤ l0.length) ∧ Aside0 (MI w' w0.heap.size g l0.length n n Q l0) ∧ Aside0 (Below w0.heap.size w0 w') ∧ Aside0 (Kept w w' (fun k_ => P0_ k_)))
 case atStart => exact ⟨a1, 0, rfl, rfl, H', ⟨Nat.le_refl _⟩, ⟨Nat.zero_le _⟩, HM, HB, HK⟩
 case round =>
  clear H' HM HB HK
  obtain ⟨c, n, rfl, rfl, HA, HK1, HN, HM, HB, HK⟩ := hrel
  cases gk with
  | zero => exact absurd HA.out (by simp [laws_markItemS.l0])
  | succ k1 =>
   have H := HA.out
   clear HA
   simp only [laws_markItemS.l0] at H
   by_cases c3 : (n : Int) < (l0.length : Int)
   rotate_left
   ·rw [if_neg c3] at H
    have c3b0 : decide ((n : Int) < (l0.length : Int)) = false := decide_eq_false c3
    have c3b1 : decide (n < l0.length) = false := decide_eq_false (by omega)
    clear c3
    obtain rfl := Option.some.inj H
    go_wp2
    go_ret
    exact ⟨by first | rfl | (simp; done), HB.out, HK.out⟩
   rw [if_pos c3, if_pos (by omega)] at H
   have c3b0 : decide ((n : Int) < (l0.length : Int)) = true := decide_eq_true c3
   have c3b1 : decide (n < l0.length) = true := decide_eq_true (by omega)
   have HNL := Aside0.mk (show n < l0.length by omega)
   replace H := Option.bind_eq_some_iff.mp H
   obtain ⟨s, A1, H⟩ := H
   replace H := Option.bind_eq_some_iff.mp H
   obtain ⟨⟨b1, b2⟩, A2, H⟩ := H
   replace H := Option.bind_eq_some_iff.mp H
   obtain ⟨t, A3, H⟩ := H
   replace H := Option.bind_eq_some_iff.mp H
   obtain ⟨⟨d1, d2⟩, A4, H⟩ := H
   have H' := Aside0.mk H
   replace A1 := Aside0.mk A1
   replace A2 := Aside0.mk A2
   replace A3 := Aside0.mk A3
   replace A4 := Aside0.mk A4
   simp only [] at A3 A4 H'
   have p0 : ((0 : Int) ≤ (n : Int)) = True := eq_true (by omega)
   have q0 : ((n : Int) < (l0.length : Int)) = True := eq_true c3
   have HW := Aside0.mk (show wrap64 ((n : Int) + 1) = ((n + 1 : Nat) : Int) by have := HLEN.out; unfold wrap64; omega)
   clear H c3
   go_wp2_with (first | ((with_reducible refine gate_store (t := 3) (p := 16) rfl ?_); obtain ⟨u10_, hu10_⟩ := MI.cell HM.out (n * 7) (by have := HNL.out; omega); have hf10_ := MI.frozen HM.out (n * 7); refine store_event (t := 3) (p := 16) (v := ?vo_10) (w1 := ?w1_10) ?hg ?ho ?hn ?hr ?_; (case ho => rfl); (case hg => rfl); (case hn => rfl); (case hr => go_simp; rfl); intro w10 hw10; subst hw10; clear hu10_ hf10_; have n0_ := Aside0.mk (MI.set HM.out HQ.out (n * 7) (fun j => by omega) (.int .i64 c)); have n1_ := Aside0.mk (Below.setCell HB.out (p := ⟨g, n * 7, none⟩) HG.out (.int .i64 c)); have n2_ := Aside0.mk (kept_set (o := n * 7) (u := .int .i64 c) HK.out HPG.out); clear HM HB HK; have HM := n0_; have HB := n1_; have HK := n2_; clear n0_ n1_ n2_) | ((with_reducible refine gate_store (t := 3) (p := 23) rfl ?_); obtain ⟨u11_, hu11_⟩ := MI.cell HM.out (n * 7 + 1) (by have := HNL.out; omega); have hf11_ := MI.frozen HM.out (n * 7 + 1); refine store_event (t := 3) (p := 23) (v := ?vo_11) (w1 := ?w1_11) ?hg ?ho ?hn ?hr ?_; (case ho => rfl); (case hg => rfl); (case hn => rfl); (case hr => go_simp; rfl); intro w11 hw11; subst hw11; clear hu11_ hf11_; have n0_ := Aside0.mk (MI.set HM.out HQ.out (n * 7 + 1) (fun j => by omega) (.int .i64 (wrap64 (c + 1)))); have n1_ := Aside0.mk (Below.setCell HB.out (p := ⟨g, n * 7 + 1, none⟩) HG.out (.int .i64 (wrap64 (c + 1)))); have n2_ := Aside0.mk (kept_set (o := n * 7 + 1) (u := .int .i64 (wrap64 (c + 1))) HK.out HPG.out); clear HM HB HK; have HM := n0_; have HB := n1_; have HK := n2_; clear n0_ n1_ n2_) | (go_at_call 59; (with_reducible refine (laws_markText.calls k1 (wrap64 (wrap64 (c + 1) + 1)) _ _ A1.out).mono ?_); rintro e w12 ⟨rfl, hb⟩; have n0_ := Aside0.mk (MI.below HM.out hb); have n1_ := Aside0.mk (below_step HB.out hb); have n2_ := Aside0.mk (kept_below HK.out hb); clear HM HB HK hb; have HM := n0_; have HB := n1_; have HK := n2_; clear n0_ n1_ n2_) | ((with_reducible refine gate_store (t := 9) (p := 31) rfl ?_); obtain ⟨u13_, hu13_⟩ := MI.cell HM.out (n * 7 + 2) (by have := HNL.out; omega); have hf13_ := MI.frozen HM.out (n * 7 + 2); refine store_event (t := 9) (p := 31) (v := ?vo_13) (w1 := ?w1_13) ?hg ?ho ?hn ?hr ?_; (case ho => rfl); (case hg => rfl); (case hn => rfl); (case hr => go_simp; rfl); intro w13 hw13; subst hw13; clear hu13_ hf13_; have n0_ := Aside0.mk (MI.set HM.out HQ.out (n * 7 + 2) (fun j => by omega) (.string s)); have n1_ := Aside0.mk (Below.setCell HB.out (p := ⟨g, n * 7 + 2, none⟩) HG.out (.string s)); have n2_ := Aside0.mk (kept_set (o := n * 7 + 2) (u := .string s) HK.out HPG.out); clear HM HB HK; have HM := n0_; have HB := n1_; have HK := n2_; clear n0_ n1_ n2_; obtain ⟨va, hva, hRa⟩ := MI.attrs HM.out n HNL.out (Nat.le_refl _); have HRA := Aside0.mk hRa; clear hRa) | (go_at_call 60; (refine (laws_markAttrS.calls k1 _ _ (rd_T44 l0 (n : Int)).f3 (wrap64 (wrap64 (wrap64 (c + 1) + 1) + 1)) b1 b2 w0 _ HB.out (Kd.R_bound HRA.out) A2.out).mono ?_); rintro e w14 ⟨rfl, _, hb, hk⟩; have n0_ := Aside0.mk (MI.kept HM.out hk 91 n (by decide) (fun k hk2 => ⟨hk2.1, by obtain ⟨_, _, _, q, hq, hc⟩ := hk2; have e0 : q = 91 := (by (rcases List.mem_cons.1 hq with e | hq; exact e; exact absurd (show q ∈ ([] : List Nat) from hq) (by simp))); subst e0; exact hc⟩) HD.out (n + 1) n (fun j hj => ⟨by omega, .inl (by omega)⟩) (fun j hj => ⟨hj, .inr (by decide)⟩)); have n1_ := Aside0.mk hb; have n2_ := Aside0.mk (kept_step HK.out hk (fun k hk2 => HQP.out n k hk2.1)); clear HM HB HK hb hk HRA; have HM := n0_; have HB := n1_; have HK := n2_; clear n0_ n1_ n2_) | (go_at_call 59; (with_reducible refine (laws_markText.calls k1 (b1) _ _ A3.out).mono ?_); rintro e w15 ⟨rfl, hb⟩; have n0_ := Aside0.mk (MI.below HM.out hb); have n1_ := Aside0.mk (below_step HB.out hb); have n2_ := Aside0.mk (kept_below HK.out hb); clear HM HB HK hb; have HM := n0_; have HB := n1_; have HK := n2_; clear n0_ n1_ n2_) | ((with_reducible refine gate_store (t := 9) (p := 46) rfl ?_); obtain ⟨u16_, hu16_⟩ := MI.cell HM.out (n * 7 + 4) (by have := HNL.out; omega); have hf16_ := MI.frozen HM.out (n * 7 + 4); refine store_event (t := 9) (p := 46) (v := ?vo_16) (w1 := ?w1_16) ?hg ?ho ?hn ?hr ?_; (case ho => rfl); (case hg => rfl); (case hn => rfl); (case hr => go_simp; rfl); intro w16 hw16; subst hw16; clear hu16_ hf16_; have n0_ := Aside0.mk (MI.set HM.out HQ.out (n * 7 + 4) (fun j => by omega) (.string t)); have n1_ := Aside0.mk (Below.setCell HB.out (p := ⟨g, n * 7 + 4, none⟩) HG.out (.string t)); have n2_ := Aside0.mk (kept_set (o := n * 7 + 4) (u := .string t) HK.out HPG.out); clear HM HB HK; have HM := n0_; have HB := n1_; have HK := n2_; clear n0_ n1_ n2_) | ((with_reducible refine gate_store (t := 3) (p := 53) rfl ?_); obtain ⟨u17_, hu17_⟩ := MI.cell HM.out (n * 7 + 5) (by have := HNL.out; omega); have hf17_ := MI.frozen HM.out (n * 7 + 5); refine store_event (t := 3) (p := 53) (v := ?vo_17) (w1 := ?w1_17) ?hg ?ho ?hn ?hr ?_; (case ho => rfl); (case hg => rfl); (case hn => rfl); (case hr => go_simp; rfl); intro w17 hw17; subst hw17; clear hu17_ hf17_; have n0_ := Aside0.mk (MI.set HM.out HQ.out (n * 7 + 5) (fun j => by omega) (.int .i64 (wrap64 (b1 + 1)))); have n1_ := Aside0.mk (Below.setCell HB.out (p := ⟨g, n * 7 + 5, none⟩) HG.out (.int .i64 (wrap64 (b1 + 1)))); have n2_ := Aside0.mk (kept_set (o := n * 7 + 5) (u := .int .i64 (wrap64 (b1 + 1))) HK.out HPG.out); clear HM HB HK; have HM := n0_; have HB := n1_; have HK := n2_; clear n0_ n1_ n2_; obtain ⟨vk, hvk, hRk⟩ := MI.kids HM.out n HNL.out (Nat.le_refl _); have HRK := Aside0.mk hRk; clear hRk) | (go_at_call 35; (refine (laws_markIntS.calls k1 _ _ (rd_T44 l0 (n : Int)).f6 (wrap64 (wrap64 (b1 + 1) + 1)) d1 d2 w0 _ HB.out (Kd.R_bound HRK.out) A4.out).mono ?_); rintro e w18 ⟨rfl, _, hb, hk⟩; have n0_ := Aside0.mk (MI.kept HM.out hk 3 n (by decide) (fun k hk2 => ⟨hk2.1, by obtain ⟨_, _, _, q, hq, hc⟩ := hk2; have e0 : q = 3 := (by (rcases List.mem_cons.1 hq with e | hq; exact e; exact absurd (show q ∈ ([] : List Nat) from hq) (by simp))); subst e0; exact hc⟩) HD.out (n + 1) (n + 1) (fun j hj => ⟨hj, .inr (by decide)⟩) (fun j hj => ⟨by omega, .inl (by omega)⟩)); have n1_ := Aside0.mk hb; have n2_ := Aside0.mk (kept_step HK.out hk (fun k hk2 => HQP.out n k hk2.1)); clear HM HB HK hb hk HRK; have HM := n0_; have HB := n1_; have HK := n2_; clear n0_ n1_ n2_))
   go_roundg k1
   case measure => have := HK1.out; omega
   case rel => exact ⟨d1, n + 1, rfl, by rw [HW.out], ⟨by rw [← HW.out]; exact H'.out⟩, ⟨by have := HK1.out; omega⟩, ⟨HNL.out⟩, HM, HB, HK⟩
def spec_l1In.f (a0 : Int) (a1 : Int) (a2 : Int) : Option (Bool) := if a0 ≥ a1 then (some (decide (a0 ≤ a2))) else (some false)
set_option maxHeartbeats 8000000 in
set_option maxRecDepth 100000 in
theorem spec_l1In.calls (a0 : Int) (a1 : Int) (a2 : Int) (r : Bool) (w : World) (h : spec_l1In.f a0 a1 a2 = some r) :
  Calls Try.prog 49 #[.int .i64 a0, .int .i64 a1, .int .i64 a2] w fun e w' => e = .returned (.bool r) ∧ Drawn0 w w' := by
 have H : (if a0 ≥ a1 then (some (decide (a0 ≤ a2))) else (some false)) = some r := h
 clear h
 by_cases c4 : a0 ≥ a1
 ·rw [if_pos c4] at H
  have c4b0 : decide (a1 ≤ a0) = true := decide_eq_true c4
  clear c4
  obtain rfl := Option.some.inj H
  go_enter Try.func49, Try.ntmps49
  go_wp2
  go_ret
  exact ⟨by first | rfl | (simp; done) | (simp [*]; done), by repeat (first | exact Drawn0.refl _ | apply Drawn0.step)⟩
 ·rw [if_neg c4] at H
  have c4b0 : decide (a1 ≤ a0) = false := decide_eq_false c4
  clear c4
  obtain rfl := Option.some.inj H
  go_enter Try.func49, Try.ntmps49
  go_wp2
  go_ret
  exact ⟨by first | rfl | (simp; done) | (simp [*]; done), by repeat (first | exact Drawn0.refl _ | apply Drawn0.step)⟩
def spec_l4Has.l0 : Nat → List (S91) → ByteArray → Int → Option (Bool)
 | 0, _, _, _ => none
 | k + 1, x0, x1, x5 => if x5 < (x0.length : Int) then (if 0 ≤ x5 then (if ((rd_T91 x0 x5).f0).toList = x1.toList then (some true) else (spec_l4Has.l0 k x0 x1 (wrap64 (x5 + 1)))) else (none)) else (some false)
def spec_l4Has.f (k : Nat) (l0 : List (S91)) (a1 : ByteArray) : Option (Bool) := spec_l4Has.l0 k l0 a1 0
theorem spec_l4Has.mono_l : ∀ k, (∀ y0 y1 y2, LeO (spec_l4Has.l0 k y0 y1 y2) (spec_l4Has.l0 (k + 1) y0 y1 y2))
 | 0 => fun _ _ _ r h => by simp [spec_l4Has.l0] at h
 | k + 1 => by
  have ih0 := spec_l4Has.mono_l k
  ·intro y0 y1 y2
   unfold spec_l4Has.l0
   repeat' first
   | (with_reducible exact ih0 _ _ _)
   | (with_reducible exact LeO.refl _)
   | (with_reducible exact LeO.none _)
   | (with_reducible refine LeO.ite ?_ ?_)
   | (with_reducible refine LeO.bind ?_ (fun _ => ?_))
   | exact ih0 _ _ _
   | exact LeO.none _
   | refine LeO.ite ?_ ?_
   | refine LeO.bind ?_ (fun _ => ?_)
theorem spec_l4Has.mono : ∀ a0 a1 k, LeO (spec_l4Has.f k a0 a1) (spec_l4Has.f (k + 1) a0 a1) := by
 intro a0 a1 k
 have ih0 := spec_l4Has.mono_l k
 unfold spec_l4Has.f
 repeat' first
   | (with_reducible exact ih0 _ _ _)
   | (with_reducible exact LeO.refl _)
   | (with_reducible exact LeO.none _)
   | (with_reducible refine LeO.ite ?_ ?_)
   | (with_reducible refine LeO.bind ?_ (fun _ => ?_))
   | exact ih0 _ _ _
   | exact LeO.none _
   | refine LeO.ite ?_ ?_
   | refine LeO.bind ?_ (fun _ => ?_)
set_option maxHeartbeats 8000000 in
set_option maxRecDepth 100000 in
theorem spec_l4Has.calls (k : Nat) (A0 : Option Addr) (c0 : Nat) (l0 : List (S91)) (a1 : ByteArray) (r : Bool) (w : World) (hr0 : Kd.C k91 w A0 l0.length l0) (hc0 : l0.length ≤ c0) (h : spec_l4Has.f k l0 a1 = some r) :
  Calls Try.prog 84 #[.slice A0 l0.length c0, .string a1] w fun e w' => e = .returned (.bool r) ∧ Drawn0 w w' := by
 have HR0 := Aside0.mk hr0
 have HC0 := Aside0.mk hc0
 clear hr0 hc0
 have H : (spec_l4Has.l0 k l0 a1 0) = some r := h
 clear h
 have H' := Aside0.mk H
 clear H
 go_enter Try.func84, Try.ntmps84
 go_wp2
 go_loopg [5] k (fun kq v5 w' => ∃ (x5_1 : Int), v5 = .int .i64 x5_1 ∧ Aside0 (spec_l4Has.l0 kq l0 a1 x5_1 = some r) ∧ Aside0 (kq ≤ k) ∧ Drawn0 w w')
 case atStart => exact ⟨(0), (by first | rfl | (simp; done) | (simp [*]; done)), H', ⟨Nat.le_refl _⟩, by repeat (first | exact Drawn0.refl _ | apply Drawn0.step)⟩
 case round =>
  clear H'
  try clear p2
  obtain ⟨x5_1, rfl, HA, HK1, ⟨m1, rfl⟩⟩ := hrel
  cases gk with
  | zero => exact absurd HA.out (by simp [spec_l4Has.l0])
  | succ k1 =>
   have H := HA.out
   clear HA
   simp only [spec_l4Has.l0] at H
   by_cases c3 : x5_1 < (l0.length : Int)
   ·rw [if_pos c3] at H
    have c3b0 : decide (x5_1 < (l0.length : Int)) = true := decide_eq_true c3
    clear c3
    by_cases c4 : 0 ≤ x5_1
    ·rw [if_pos c4] at H
     have c4b0 : decide (0 ≤ x5_1) = true := decide_eq_true c4
     clear c4
     by_cases c5 : ((rd_T91 l0 x5_1).f0).toList = a1.toList
     ·rw [if_pos c5] at H
      have c5b0 : (((rd_T91 l0 x5_1).f0).toList == a1.toList) = true := beq_iff_eq.mpr c5
      have c5b1 : (((rd_T91 l0 x5_1).f0).toList != a1.toList) = false := bne_eq_false_iff_eq.mpr c5
      clear c5
      obtain rfl := Option.some.inj H
      have p171 : 0 ≤ (x5_1 : Int) := of_decide_eq_true (by first | (with_reducible assumption) | assumption)
      have q171 : x5_1 < (l0.length : Int) := of_decide_eq_true (by first | (with_reducible assumption) | assumption)
      obtain ⟨ad171, e171, hx171_0, hx171_1⟩ := at_T91 HR0.out x5_1 p171 q171
      cases e171
      replace p171 := eq_true p171
      replace q171 := eq_true q171
      go_wp2
      go_ret
      exact ⟨by first | rfl | (simp; done) | (simp [*]; done), by repeat (first | exact Drawn0.refl _ | apply Drawn0.step)⟩
     ·rw [if_neg c5] at H
      have c5b0 : (((rd_T91 l0 x5_1).f0).toList == a1.toList) = false := beq_eq_false_iff_ne.mpr c5
      have c5b1 : (((rd_T91 l0 x5_1).f0).toList != a1.toList) = true := bne_iff_ne.mpr c5
      have H' := Aside0.mk H
      clear H
      have p171 : 0 ≤ (x5_1 : Int) := of_decide_eq_true (by first | (with_reducible assumption) | assumption)
      have q171 : x5_1 < (l0.length : Int) := of_decide_eq_true (by first | (with_reducible assumption) | assumption)
      obtain ⟨ad171, e171, hx171_0, hx171_1⟩ := at_T91 HR0.out x5_1 p171 q171
      cases e171
      replace p171 := eq_true p171
      replace q171 := eq_true q171
      go_wp2
      go_roundg k1
      case measure => have := HK1.out; omega
      case rel => exact ⟨(wrap64 (x5_1 + 1)), (by first | rfl | (simp; done) | (simp [*]; done)), H', ⟨by have := HK1.out; omega⟩, by repeat (first | exact Drawn0.refl _ | apply Drawn0.step)⟩
    ·rw [if_neg c4] at H
     exact absurd H (by simp)
   ·rw [if_neg c3] at H
    have c3b0 : decide (x5_1 < (l0.length : Int)) = false := decide_eq_false c3
    clear c3
    obtain rfl := Option.some.inj H
    go_wp2
    go_ret
    exact ⟨by first | rfl | (simp; done) | (simp [*]; done), by repeat (first | exact Drawn0.refl _ | apply Drawn0.step)⟩
end Go.Proofs.Ytbgedpicfllclaa.PFnExactOrder
