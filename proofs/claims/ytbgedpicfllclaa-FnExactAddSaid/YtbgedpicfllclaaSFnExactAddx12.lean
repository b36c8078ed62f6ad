-- Written by this session's program wip/slim.py out of the print's texts. Lean checks it.
import Derived.Test.YtbgedpicfllclaaSFnExactAddx0
import Derived.Test.YtbgedpicfllclaaSFnExactAddx11
namespace Go.Proofs.Ytbgedpicfllclaa.PFnExactAdd
open Go.RowKit Go.Proofs.YtbgedpicfllclaaW.PrintWords Go.Proofs.YtbgedpicfllclaaW.PrintLast Go.Proofs.YtbgedpicfllclaaW.PrintMore
attribute [local go_sem] max2_int min2_int max_two min_two max_three min_three max_four min_four
set_option linter.unusedVariables false
set_option linter.unusedSimpArgs false
theorem kept_set {w W : World} {P : Nat → Prop} {g o : Nat} {u : Value} (h : Kept w W P) (hg : P g) : Kept w (W.setCell ⟨g, o, none⟩ u) P := ⟨by simpa using h.1, fun i hi hn => (Below.heap_setCell W ⟨g, o, none⟩ u i (fun e => hn (by rw [e]; exact hg))).trans (h.2 i hi hn)⟩
theorem kept_step {w W W1 : World} {P S : Nat → Prop} (h : Kept w W P) (h2 : Kept W W1 S) (hs : ∀ k, S k → P k) : Kept w W1 P := ⟨Nat.le_trans h.1 h2.1, fun i hi hn => (h2.2 i (Nat.lt_of_lt_of_le hi h.1) (fun hk => hn (hs i hk))).trans (h.2 i hi hn)⟩
theorem kept_below {w W W1 : World} {P : Nat → Prop} (h : Kept w W P) (hb : Below W.heap.size W W1) : Kept w W1 P := ⟨Nat.le_trans h.1 hb.size, fun i hi hn => (hb.block i (Nat.lt_of_lt_of_le hi h.1)).trans (h.2 i hi hn)⟩
def MI (W : World) (base g len na nk : Nat) (Q : Nat → Nat → Prop) (l : List (S44)) : Prop := ∃ cells : Array Value, W.heap[g]? = some (.cells cells 44 (0, 0)) ∧ len * 7 ≤ cells.size ∧ ∀ j, j < len →
 (na ≤ j → ∃ va, cells[j * 7 + 3]? = some va ∧ Kd.R k91 91 W base (Q j) va (rd_T44 l (j : Int)).f3) ∧ (nk ≤ j → ∃ vk, cells[j * 7 + 6]? = some vk ∧ Kd.R (Kd.int .i64) 3 W base (Q j) vk (rd_T44 l (j : Int)).f6)
section
variable {W W1 : World} {base g len na nk : Nat} {Q : Nat → Nat → Prop} {l : List (S44)}
theorem MI.set (h : MI W base g len na nk Q l) (hQ : ∀ j k, Q j k → k ≠ g) (o : Nat) (ho : ∀ j, j * 7 + 3 ≠ o ∧ j * 7 + 6 ≠ o) (u : Value) : MI (W.setCell ⟨g, o, none⟩ u) base g len na nk Q l := by
 obtain ⟨cells, hc, hs, hr⟩ := h
 refine ⟨cells.setIfInBounds o u, blk_set hc o u, by simpa using hs, fun j hj => ?_⟩
 obtain ⟨h1, h2⟩ := hr j hj
 refine ⟨fun hn => ?_, fun hn => ?_⟩
 ·obtain ⟨va, hv, hR⟩ := h1 hn
  exact ⟨va, by rw [Array.getElem?_setIfInBounds_ne (fun e => (ho j).1 e.symm)]; exact hv, Kd.R_far (p := ⟨g, o, none⟩) hR (fun k hk => hQ j k hk) u⟩
 ·obtain ⟨vk, hv, hR⟩ := h2 hn
  exact ⟨vk, by rw [Array.getElem?_setIfInBounds_ne (fun e => (ho j).2 e.symm)]; exact hv, Kd.R_far (p := ⟨g, o, none⟩) hR (fun k hk => hQ j k hk) u⟩
theorem MI.below (h : MI W base g len na nk Q l) (hb : Below W.heap.size W W1) : MI W1 base g len na nk Q l := by
 obtain ⟨cells, hc, hs, hr⟩ := h
 refine ⟨cells, blk_below hc hb, hs, fun j hj => ⟨fun hn => ?_, fun hn => ?_⟩⟩
 ·obtain ⟨va, hv, hR⟩ := (hr j hj).1 hn
  exact ⟨va, hv, Kd.R_below hR hb⟩
 ·obtain ⟨vk, hv, hR⟩ := (hr j hj).2 hn
  exact ⟨vk, hv, Kd.R_below hR hb⟩
theorem MI.cell (h : MI W base g len na nk Q l) (o : Nat) (ho : o < len * 7) : ∃ u, W.cell? ⟨g, o, none⟩ = some u := by
 obtain ⟨cells, hc, hs, _⟩ := h
 exact ⟨cells[o]'(by omega), (bc_ hc o).trans (Array.getElem?_eq_getElem (by omega))⟩
theorem MI.frozen (h : MI W base g len na nk Q l) (o : Nat) : W.frozen? ⟨g, o, none⟩ = false := by
 obtain ⟨cells, hc, _⟩ := h
 exact blk_frozen hc o
theorem MI.attrs (h : MI W base g len na nk Q l) (j : Nat) (hj : j < len) (hn : na ≤ j) : ∃ va, W.cell? ⟨g, j * 7 + 3, none⟩ = some va ∧ Kd.R k91 91 W base (Q j) va (rd_T44 l (j : Int)).f3 := by
 obtain ⟨cells, hc, _, hr⟩ := h
 obtain ⟨va, hv, hR⟩ := (hr j hj).1 hn
 exact ⟨va, (bc_ hc _).trans hv, hR⟩
theorem MI.kids (h : MI W base g len na nk Q l) (j : Nat) (hj : j < len) (hn : nk ≤ j) : ∃ vk, W.cell? ⟨g, j * 7 + 6, none⟩ = some vk ∧ Kd.R (Kd.int .i64) 3 W base (Q j) vk (rd_T44 l (j : Int)).f6 := by
 obtain ⟨cells, hc, _, hr⟩ := h
 obtain ⟨vk, hv, hR⟩ := (hr j hj).2 hn
 exact ⟨vk, (bc_ hc _).trans hv, hR⟩
theorem R_other {α : Type} {d : Kd α} {e e2 : Nat} {v : Value} {xs : List α} {ok S : Nat → Prop} (hE : d.E = []) (h : d.R e W base ok v xs) (hk : Kept W W1 S) (hS : ∀ k, S k → ok k → (∃ cells, W.heap[k]? = some (.cells cells e2 (0, 0))) ∧ e2 ≠ e) : d.R e W1 base ok v xs := by
 refine Kd.R_mono (Kd.R_move (Kd.R_bound h) (fun k hk2 => ?_)) (fun _ hk2 => hk2.1)
 obtain ⟨h1, _, h3, q, hq, cells, hc⟩ := hk2
 have e0 : q = e := by
  rw [hE] at hq
  simpa using hq
 subst e0
 refine hk.2 k h3 (fun hs => ?_)
 obtain ⟨⟨cells2, hc2⟩, hne⟩ := hS k hs h1
 rw [hc] at hc2
 injection hc2 with hc2
 injection hc2 with _ h4 _
 exact hne h4.symm
theorem MI.kept {S : Nat → Prop} (h : MI W base g len na nk Q l) (hk : Kept W W1 S) (e n : Nat) (he : e ≠ 44) (hS : ∀ k, S k → Q n k ∧ ∃ cells, W.heap[k]? = some (.cells cells e (0, 0))) (hdis : ∀ i j k, Q i k → Q j k → i = j) (na' nk' : Nat) (hna : ∀ j, na' ≤ j → na ≤ j ∧ (j ≠ n ∨ e ≠ 91)) (hnk : ∀ j, nk' ≤ j → nk ≤ j ∧ (j ≠ n ∨ e ≠ 3)) : MI W1 base g len na' nk' Q l := by
 obtain ⟨cells, hc, hs, hr⟩ := h
 have hg : W1.heap[g]? = W.heap[g]? := hk.2 g (blk_lt hc) (fun hs => by
  obtain ⟨_, cells2, hc2⟩ := hS g hs
  rw [hc] at hc2
  injection hc2 with hc2
  injection hc2 with _ h4 _
  exact he h4.symm)
 refine ⟨cells, hg.trans hc, hs, fun j hj => ⟨fun hn => ?_, fun hn => ?_⟩⟩
 ·obtain ⟨va, hv, hR⟩ := (hr j hj).1 (hna j hn).1
  refine ⟨va, hv, R_other (e2 := e) rfl hR hk (fun k hs hq => ⟨(hS k hs).2, fun e0 => ?_⟩)⟩
  rcases (hna j hn).2 with h1 | h1
  ·exact h1 (hdis _ _ k hq (hS k hs).1)
  ·exact h1 e0
 ·obtain ⟨vk, hv, hR⟩ := (hr j hj).2 (hnk j hn).1
  refine ⟨vk, hv, R_other (e2 := e) rfl hR hk (fun k hs hq => ⟨(hS k hs).2, fun e0 => ?_⟩)⟩
  rcases (hnk j hn).2 with h1 | h1
  ·exact h1 (hdis _ _ k hq (hS k hs).1)
  ·exact h1 e0
theorem MI.of_S {P : Nat → Prop} {n cap : Nat} (h : Kd.S k44 44 W base P (.slice (some ⟨g, 0, none⟩) n cap) l) (hn : n = l.length) (hp : 0 < l.length) : ∃ Q : Nat → Nat → Prop, (∀ j k, Q j k → P k ∧ k ≠ g) ∧ (∀ i j k, Q i k → Q j k → i = j) ∧ MI W base g l.length 0 0 Q l ∧ P g ∧ base ≤ g := by
 have hown : (Value.slice (some ⟨g, 0, none⟩) n cap).ownBlock = some g := by simp [Value.ownBlock]
 obtain ⟨cells, hc⟩ := Kd.S_typed h g hown
 have hbg := Kd.S_base h g hown
 have hP : P g := (Kd.S_R h).1 g hown
 obtain ⟨f, hR⟩ := h
 have hel : ∀ j, j < l.length → ∃ va vk, cells[j * 7 + 3]? = some va ∧ cells[j * 7 + 6]? = some vk ∧ Kd.R k91 91 W base (fun k => (P k ∧ k ≠ g) ∧ f k = j) va (rd_T44 l (j : Int)).f3 ∧ Kd.R (Kd.int .i64) 3 W base (fun k => (P k ∧ k ≠ g) ∧ f k = j) vk (rd_T44 l (j : Int)).f6 := fun j hj => by
  obtain ⟨c, hcl, hM, hcc, _⟩ := Kd.R_elem hR (z44, j) (j : Int) (by omega) (by omega)
  have e : (l.zipIdx).getD ((j : Int).toNat) (z44, j) = (rd_T44 l (j : Int), j) := by
   unfold rd_T44
   rw [Int.toNat_natCast, List.getD_eq_getElem?_getD, List.getElem?_zipIdx, List.getD_eq_getElem?_getD, List.getElem?_eq_getElem hj, Nat.zero_add]
   rfl
  rw [e] at hM
  have hM2 : k44.M W base (fun k => (P k ∧ k ≠ g) ∧ f k = j) (rd_T44 l (j : Int)) c := hM
  obtain ⟨va, vk, rfl, hA, hK⟩ := k44_openM hM2
  have c3 := hcc 3 va rfl
  have c6 := hcc 6 vk rfl
  rw [Int.toNat_natCast] at c3 c6
  exact ⟨va, vk, (bc_ hc _).symm.trans c3, (bc_ hc _).symm.trans c6, hA, hK⟩
 refine ⟨fun j k => (P k ∧ k ≠ g) ∧ f k = j, fun j k hk => hk.1, fun i j k h1 h2 => h1.2.symm.trans h2.2, ⟨cells, hc, ?_, fun j hj => ?_⟩, hP, hbg⟩
 ·obtain ⟨_, vk, _, h6, _⟩ := hel (l.length - 1) (by omega)
  have := (Array.getElem?_eq_some_iff.1 h6).1
  omega
 ·obtain ⟨va, vk, h3, h6, hA, hK⟩ := hel j hj
  exact ⟨fun _ => ⟨va, h3, hA⟩, fun _ => ⟨vk, h6, hK⟩⟩
end
theorem cell_same {W W1 : World} {g : Nat} (h : W1.heap[g]? = W.heap[g]?) (hc : ∃ cells t, W.heap[g]? = some (.cells cells t (0, 0))) (o : Nat) : W1.cell? ⟨g, o, none⟩ = W.cell? ⟨g, o, none⟩ := by
 obtain ⟨cells, t, hc⟩ := hc
 rw [bc_ hc o, bc_ (h.trans hc) o]
def PRG (W : World) (g n : Nat) (p : List (Nat × Value)) : Prop := ∀ x ∈ p, W.cell? ⟨g, n * 7 + x.1, none⟩ = some x.2
theorem PRG.none_ (W : World) (g n : Nat) : PRG W g n [] := fun x hx => absurd hx (by simp)
theorem PRG.add {W : World} {g n o : Nat} {p : List (Nat × Value)} {u : Value} (h : PRG W g n p) (hc : W.cell? ⟨g, n * 7 + o, none⟩ = some u) : PRG W g n ((o, u) :: p) := fun x hx => by
 rcases List.mem_cons.1 hx with e | hx
 ·subst e; exact hc
 ·exact h x hx
theorem PRG.set {W : World} {g n o : Nat} {p : List (Nat × Value)} {u u0 : Value} (h : PRG W g n p) (ho : ∀ x ∈ p, x.1 ≠ o) (hc : W.cell? ⟨g, n * 7 + o, none⟩ = some u0) : PRG (W.setCell ⟨g, n * 7 + o, none⟩ u) g n ((o, u) :: p) := fun x hx => by
 rcases List.mem_cons.1 hx with e | hx
 ·subst e; exact World.cell?_setCell_same _ _ _ hc
 ·rw [World.cell?_setCell_other _ _ _ _ (fun e => ho x hx (by injection e with _ e _; omega))]
  exact h x hx
theorem PRG.below {W W1 : World} {g n : Nat} {p : List (Nat × Value)} (h : PRG W g n p) (hb : Below W.heap.size W W1) : PRG W1 g n p := fun x hx => pw_cell_below hb (h x hx)
theorem PRG.kept {W W1 : World} {base g len na nk n : Nat} {Q : Nat → Nat → Prop} {l : List (S44)} {p : List (Nat × Value)} (h : PRG W g n p) (hm : MI W base g len na nk Q l) (hg : W1.heap[g]? = W.heap[g]?) : PRG W1 g n p := fun x hx => by
 obtain ⟨cells, hc, _⟩ := hm
 rw [cell_same hg ⟨cells, _, hc⟩]
 exact h x hx
theorem MI.block {W W1 : World} {base g len na nk n e : Nat} {Q : Nat → Nat → Prop} {l : List (S44)} {S : Nat → Prop} (h : MI W base g len na nk Q l) (hk : Kept W W1 S) (he : e ≠ 44) (hS : ∀ k, S k → Q n k ∧ ∃ cells, W.heap[k]? = some (.cells cells e (0, 0))) : W1.heap[g]? = W.heap[g]? := by
 obtain ⟨cells, hc, _⟩ := h
 exact hk.2 g (blk_lt hc) (fun hs => by
  obtain ⟨_, cells2, hc2⟩ := hS g hs
  rw [hc] at hc2
  injection hc2 with hc2
  injection hc2 with _ h4 _
  exact he h4.symm)
def MD (W : World) (base g : Nat) (Q : Nat → Nat → Prop) (M : List (S44)) : Prop := ∀ j, j < M.length → ∃ va vk, PRG W g j [(0, .int .i64 (rd_T44 M (j : Int)).f0), (1, .int .i64 (rd_T44 M (j : Int)).f1), (2, .string (rd_T44 M (j : Int)).f2), (3, va), (4, .string (rd_T44 M (j : Int)).f4), (5, .int .i64 (rd_T44 M (j : Int)).f5), (6, vk)] ∧ Kd.R k91 91 W base (Q j) va (rd_T44 M (j : Int)).f3 ∧ Kd.R (Kd.int .i64) 3 W base (Q j) vk (rd_T44 M (j : Int)).f6
theorem MD.set {W : World} {base g o : Nat} {Q : Nat → Nat → Prop} {M : List (S44)} {u : Value} (h : MD W base g Q M) (hQ : ∀ j k, Q j k → k ≠ g) (ho : M.length * 7 ≤ o) : MD (W.setCell ⟨g, o, none⟩ u) base g Q M := fun j hj => by
 obtain ⟨va, vk, hp, hA, hK⟩ := h j hj
 refine ⟨va, vk, fun x hx => ?_, Kd.R_far (p := ⟨g, o, none⟩) hA (fun k hk => hQ j k hk) u, Kd.R_far (p := ⟨g, o, none⟩) hK (fun k hk => hQ j k hk) u⟩
 have hx7 : x.1 < 7 := by
  simp only [List.mem_cons, List.not_mem_nil, or_false] at hx
  rcases hx with e | e | e | e | e | e | e <;> (subst e; show _ < 7; omega)
 rw [World.cell?_setCell_other _ _ _ _ (fun e => by injection e with _ e _; omega)]
 exact hp x hx
theorem MD.below {W W1 : World} {base g : Nat} {Q : Nat → Nat → Prop} {M : List (S44)} (h : MD W base g Q M) (hb : Below W.heap.size W W1) : MD W1 base g Q M := fun j hj => by
 obtain ⟨va, vk, hp, hA, hK⟩ := h j hj
 exact ⟨va, vk, hp.below hb, Kd.R_below hA hb, Kd.R_below hK hb⟩
theorem MD.kept {W W1 : World} {base g len na nk n e : Nat} {Q : Nat → Nat → Prop} {l M : List (S44)} {S : Nat → Prop} (h : MD W base g Q M) (hm : MI W base g len na nk Q l) (hk : Kept W W1 S) (he : e ≠ 44) (hS : ∀ k, S k → Q n k ∧ ∃ cells, W.heap[k]? = some (.cells cells e (0, 0))) (hdis : ∀ i j k, Q i k → Q j k → i = j) (hn : M.length ≤ n) : MD W1 base g Q M := fun j hj => by
 obtain ⟨va, vk, hp, hA, hK⟩ := h j hj
 have hne : ∀ k, S k → Q j k → False := fun k h1 h2 => by
  have := hdis _ _ k h2 (hS k h1).1
  omega
 exact ⟨va, vk, hp.kept hm (hm.block hk he hS), R_other (e2 := e) rfl hA hk (fun k h1 h2 => (hne k h1 h2).elim), R_other (e2 := e) rfl hK hk (fun k h1 h2 => (hne k h1 h2).elim)⟩
theorem MD.snoc {W : World} {base g : Nat} {Q : Nat → Nat → Prop} {M : List (S44)} (h : MD W base g Q M) (x : S44) {va vk : Value} (hp : PRG W g M.length [(0, .int .i64 x.f0), (1, .int .i64 x.f1), (2, .string x.f2), (3, va), (4, .string x.f4), (5, .int .i64 x.f5), (6, vk)]) (hA : Kd.R k91 91 W base (Q M.length) va x.f3) (hK : Kd.R (Kd.int .i64) 3 W base (Q M.length) vk x.f6) : MD W base g Q (M ++ [x]) := fun j hj => by
 rw [List.length_append] at hj
 simp only [List.length_cons, List.length_nil] at hj
 by_cases c : j < M.length
 ·have e : rd_T44 (M ++ [x]) (j : Int) = rd_T44 M (j : Int) := by
   unfold rd_T44
   rw [Int.toNat_natCast, List.getD_eq_getElem?_getD, List.getD_eq_getElem?_getD, List.getElem?_append_left c]
  rw [e]
  exact h j c
 ·have c2 : j = M.length := by omega
  subst c2
  have e : rd_T44 (M ++ [x]) ((M.length : Nat) : Int) = x := by
   unfold rd_T44
   rw [Int.toNat_natCast, List.getD_eq_getElem?_getD, List.getElem?_append_right (Nat.le_refl _), Nat.sub_self]
   rfl
  rw [e]
  exact ⟨va, vk, hp, hA, hK⟩
theorem MD.reads {W : World} {base g : Nat} {Q : Nat → Nat → Prop} {M : List (S44)} (h : MD W base g Q M) (hl : M.length ≤ 9223372036854775807) : Kd.C k44 W (some ⟨g, 0, none⟩) M.length M := by
 refine ⟨rfl, hl, fun _ => ⟨_, rfl, fun j p hp => ?_⟩⟩
 have hj := (List.getElem?_eq_some_iff.1 hp).1
 have e : rd_T44 M (j : Int) = p := by
  unfold rd_T44
  rw [Int.toNat_natCast, List.getD_eq_getElem?_getD, hp]
  rfl
 obtain ⟨va, vk, hpr, hA, hK⟩ := h j hj
 rw [e] at hpr hA hK
 obtain ⟨A3, c3, rfl, l3, g3⟩ := Kd.R_reads hA
 obtain ⟨A6, c6, rfl, l6, g6⟩ := Kd.R_reads hK
 refine ⟨_, rfl, k44_mk W p l3 g3 l6 g6, fun i u hu => ?_⟩
 have hm : (i, u) ∈ [(0, (.int .i64 p.f0 : Value)), (1, .int .i64 p.f1), (2, .string p.f2), (3, .slice A3 p.f3.length c3), (4, .string p.f4), (5, .int .i64 p.f5), (6, .slice A6 p.f6.length c6)] := by
  match i, hu with
  | 0, hu => simp at hu; simp [← hu]
  | 1, hu => simp at hu; simp [← hu]
  | 2, hu => simp at hu; simp [← hu]
  | 3, hu => simp at hu; simp [← hu]
  | 4, hu => simp at hu; simp [← hu]
  | 5, hu => simp at hu; simp [← hu]
  | 6, hu => simp at hu; simp [← hu]
  | i + 7, hu => simp at hu
 have := hpr (i, u) hm
 have e7 : ∀ n, Addr.add ⟨g, 0, none⟩ n = ⟨g, n, none⟩ := fun n => by
  unfold Addr.add
  split
  ·next h => rw [h]
  ·simp
 rw [show k44.sz = 7 from rfl, e7]
 exact this
theorem MD.move {W W1 : World} {base g : Nat} {Q : Nat → Nat → Prop} {M : List (S44)} {P : Nat → Prop} (h : MD W base g Q M) (hP : P g) (hQ : ∀ j k, Q j k → P k) (hc : ∃ cells t, W.heap[g]? = some (.cells cells t (0, 0))) (hm : ∀ k, P k → W1.heap[k]? = W.heap[k]?) : MD W1 base g Q M := fun j hj => by
 obtain ⟨va, vk, hp, hA, hK⟩ := h j hj
 exact ⟨va, vk, fun x hx => by rw [cell_same (hm g hP) hc]; exact hp x hx, Kd.R_move hA (fun k hk => hm k (hQ j k hk)), Kd.R_move hK (fun k hk => hm k (hQ j k hk))⟩
def MK (W : World) (base : Nat) (P : Nat → Prop) (u : Value) (M : List (S44)) : Prop := (M = [] ∧ ∃ A c, u = .slice A 0 c) ∨ ∃ g cap Q, u = .slice (some ⟨g, 0, none⟩) M.length cap ∧ M.length ≤ cap ∧ P g ∧ (∀ j k, Q j k → P k) ∧ (∃ cells t, W.heap[g]? = some (.cells cells t (0, 0))) ∧ MD W base g Q M
theorem MK.move {W W1 : World} {base : Nat} {P : Nat → Prop} {u : Value} {M : List (S44)} (h : MK W base P u M) (hm : ∀ k, P k → W1.heap[k]? = W.heap[k]?) : MK W1 base P u M := by
 rcases h with h | ⟨g, cap, Q, h1, h2, h3, h4, h5, h6⟩
 ·exact .inl h
 ·refine .inr ⟨g, cap, Q, h1, h2, h3, h4, ?_, h6.move h3 h4 h5 hm⟩
  obtain ⟨cells, t, hc⟩ := h5
  exact ⟨cells, t, (hm g h3).trans hc⟩
theorem MK.reads {W : World} {base : Nat} {P : Nat → Prop} {u : Value} {M : List (S44)} (h : MK W base P u M) (hl : M.length ≤ 9223372036854775807) : ∃ A c, u = .slice A M.length c ∧ M.length ≤ c ∧ Kd.C k44 W A M.length M := by
 rcases h with ⟨rfl, A, c, rfl⟩ | ⟨g, cap, Q, h1, h2, _, _, _, h6⟩
 ·exact ⟨A, c, rfl, Nat.zero_le _, rfl, by simp, fun h => absurd h (by simp)⟩
 ·exact ⟨_, _, h1, h2, MD.reads h6 hl⟩
def laws_markItemS.l0 : Nat → List (S44) → List (S44) → Int → Int → Option (Int × List (S44))
 | 0, _, _, _, _ => none
 | k + 1, l, M, c, x => if x < (l.length : Int) then (if 0 ≤ x then ((laws_markText.f k (wrap64 (wrap64 (c + 1) + 1))).bind fun s => ((laws_markAttrS.f k (rd_T44 l x).f3 (wrap64 (wrap64 (wrap64 (c + 1) + 1) + 1))).bind fun b => ((laws_markText.f k b.1).bind fun t => ((laws_markIntS.f k (rd_T44 l x).f6 (wrap64 (wrap64 (b.1 + 1) + 1))).bind fun d => (laws_markItemS.l0 k l (M ++ [(⟨c, wrap64 (c + 1), s, b.2, t, wrap64 (b.1 + 1), d.2⟩ : S44)]) d.1 (wrap64 (x + 1))))))) else none) else (some (c, M))
def laws_markItemS.f (k : Nat) (l0 : List (S44)) (a1 : Int) : Option (Int × List (S44)) := if l0.length ≤ 4611686018427387903 then laws_markItemS.l0 k l0 [] a1 0 else none
theorem laws_markItemS.mono_l : ∀ k, (∀ y0 y1 y2 y3, LeO (laws_markItemS.l0 k y0 y1 y2 y3) (laws_markItemS.l0 (k + 1) y0 y1 y2 y3))
 | 0 => fun _ _ _ _ r h => by simp [laws_markItemS.l0] at h
 | k + 1 => by
  have ih0 := laws_markItemS.mono_l k
  intro y0 y1 y2 y3
  unfold laws_markItemS.l0
  repeat' first
    | (with_reducible exact ih0 _ _ _ _)
    | (with_reducible exact laws_markText.mono _ _)
    | (with_reducible exact laws_markAttrS.mono _ _ _)
    | (with_reducible exact laws_markIntS.mono _ _ _)
    | (with_reducible exact LeO.refl _)
    | (with_reducible exact LeO.none _)
    | (with_reducible refine LeO.ite ?_ ?_)
    | (with_reducible refine LeO.bind ?_ (fun _ => ?_))
theorem laws_markItemS.mono : ∀ a0 a1 k, LeO (laws_markItemS.f k a0 a1) (laws_markItemS.f (k + 1) a0 a1) := by
 intro a0 a1 k
 unfold laws_markItemS.f
 exact LeO.ite (laws_markItemS.mono_l k _ _ _ _) (LeO.none _)
set_option maxHeartbeats 8000000 in
set_option maxRecDepth 100000 in
theorem laws_markItemS.calls (k : Nat) (P0_ : Nat → Prop) (u9000_ : Value) (l0 : List (S44)) (a1 : Int) (r1 : Int) (r2 : List (S44)) (w0 w : World) (hB : Below w0.heap.size w0 w) (ho0 : Kd.S k44 44 w w0.heap.size P0_ u9000_ l0) (h : laws_markItemS.f k l0 a1 = some (r1, r2)) :
  Calls Try.prog 23 #[u9000_, .int .i64 a1] w fun e w' => e = .returned (.int .i64 r1) ∧ MK w' w0.heap.size P0_ u9000_ r2 ∧ Below w0.heap.size w0 w' ∧ Kept w w' (fun k_ => P0_ k_) := by
 unfold laws_markItemS.f at h
 by_cases hlen : l0.length ≤ 4611686018427387903
 rotate_left
 ·rw [if_neg hlen] at h; exact absurd h (by simp)
 rw [if_pos hlen] at h
 have HLEN := Aside0.mk hlen
 have H' := Aside0.mk h
 have HB := Aside0.mk hB
 have HK := Aside0.mk (Kept.refl w (fun k_ => P0_ k_))
 clear h hB hlen
 by_cases hp : 0 < l0.length
 rotate_left
 ·obtain ⟨A, cc, rfl⟩ := Kd.S_slice ho0
  have e0 : l0 = [] := List.length_eq_zero_iff.1 (by omega)
  subst e0
  clear ho0
  have HE := Aside0.mk (show (r1, r2) = (a1, []) by
   have h := H'.out
   cases k with
   | zero => simp [laws_markItemS.l0] at h
   | succ k => simp only [laws_markItemS.l0] at h; rw [if_neg (by simp)] at h; exact (Option.some.inj h).symm)
  clear H' hp
  obtain ⟨rfl, rfl⟩ := Prod.mk.inj HE.out
  go_enter Try.func23, Try.ntmps23
  go_wp2
  go_loopg [1, 5] 0 (fun kq v1 v5 w' => v1 = .int .i64 r1 ∧ v5 = .int .i64 0 ∧ w' = w)
  case atStart => exact ⟨rfl, rfl, rfl⟩
  case round =>
   obtain ⟨rfl, rfl, rfl⟩ := hrel
   go_wp2
   go_ret
   exact ⟨by first | rfl | (simp; done), (.inl ⟨rfl, _, _, rfl⟩), HB.out, HK.out⟩
 obtain ⟨g, cap, rfl, hbg, _, _⟩ := Kd.S_form ho0 hp
 have HCAP := Aside0.mk (Kd.S_reads' ho0).2.1
 obtain ⟨Q, hQP, hdis, hMI, hPg, _⟩ := MI.of_S ho0 rfl hp
 have HM := Aside0.mk hMI
 have HQ := Aside0.mk (fun j k hk => (hQP j k hk).2 : ∀ j k, Q j k → k ≠ g)
 have HQP := Aside0.mk (fun j k hk => (hQP j k hk).1 : ∀ j k, Q j k → P0_ k)
 have HD := Aside0.mk hdis
 have HPG := Aside0.mk hPg
 have HG := Aside0.mk hbg
 clear ho0 hp hMI hQP hdis hPg hbg
 go_enter Try.func23, Try.ntmps23
 go_wp2
 go_loopg [1, 5] k (fun kq v1 v5 w' => ∃ (c : Int) (n : Nat) (M : List (S44)), v1 = .int .i64 c ∧ v5 = .int .i64 (n : Int) ∧ Aside0 (laws_markItemS.l0 kq l0 M c (n : Int) = some (r1, r2)) ∧ Aside0 (kq ≤ k) ∧ Aside0 (n ≤ l0.length) ∧ Aside0 (M.length = n) ∧ Aside0 (MI w' w0.heap.size g l0.length n n Q l0) ∧ Aside0 (Below w0.heap.size w0 w') ∧ Aside0 (Kept w w' (fun k_ => P0_ k_)) ∧ Aside0 (MD w' w0.heap.size g Q M))
 case atStart => exact ⟨a1, 0, [], rfl, rfl, H', ⟨Nat.le_refl _⟩, ⟨Nat.zero_le _⟩, ⟨rfl⟩, HM, HB, HK, ⟨fun j hj => absurd hj (by simp)⟩⟩
 case round =>
  clear H' HM HB HK
  obtain ⟨c, n, M, rfl, rfl, HA, HK1, HN, HML, HM, HB, HK, HMD⟩ := hrel
  cases gk with
  | zero => exact absurd HA.out (by simp [laws_markItemS.l0])
  | succ k1 =>
   have H := HA.out
   clear HA
   simp only [laws_markItemS.l0] at H
   by_cases c3 : (n : Int) < (l0.length : Int)
   rotate_left
   ·rw [if_neg c3] at H
    have c3b0 : decide ((n : Int) < (l0.length : Int)) = false := decide_eq_false c3
    have c3b1 : decide (n < l0.length) = false := decide_eq_false (by omega)
    have HE := Aside0.mk (show M.length = l0.length by have := HML.out; have := HN.out; omega)
    clear c3
    simp only [Option.some.injEq, Prod.mk.injEq] at H
    obtain ⟨rfl, rfl⟩ := H
    have HBL := Aside0.mk (show ∃ cells t, wr.heap[g]? = some (.cells cells t (0, 0)) by obtain ⟨cells, hc, _⟩ := HM.out; exact ⟨cells, _, hc⟩)
    go_wp2
    go_ret
    exact ⟨by first | rfl | (simp; done), (.inr ⟨g, cap, Q, by rw [HE.out], by rw [HE.out]; exact HCAP.out, HPG.out, HQP.out, HBL.out, HMD.out⟩), HB.out, HK.out⟩
   rw [if_pos c3, if_pos (by omega)] at H
   have c3b0 : decide ((n : Int) < (l0.length : Int)) = true := decide_eq_true c3
   have c3b1 : decide (n < l0.length) = true := decide_eq_true (by omega)
   have HNL := Aside0.mk (show n < l0.length by omega)
   replace H := Option.bind_eq_some_iff.mp H
   obtain ⟨s, A1, H⟩ := H
   replace H := Option.bind_eq_some_iff.mp H
   obtain ⟨⟨b1, b2⟩, A2, H⟩ := H
   replace H := Option.bind_eq_some_iff.mp H
   obtain ⟨t, A3, H⟩ := H
   replace H := Option.bind_eq_some_iff.mp H
   obtain ⟨⟨d1, d2⟩, A4, H⟩ := H
   have H' := Aside0.mk H
   replace A1 := Aside0.mk A1
   replace A2 := Aside0.mk A2
   replace A3 := Aside0.mk A3
   replace A4 := Aside0.mk A4
   simp only [] at A3 A4 H'
   have p0 : ((0 : Int) ≤ (n : Int)) = True := eq_true (by omega)
   have q0 : ((n : Int) < (l0.length : Int)) = True := eq_true c3
   have HW := Aside0.mk (show wrap64 ((n : Int) + 1) = ((n + 1 : Nat) : Int) by have := HLEN.out; unfold wrap64; omega)
   have HF := Aside0.mk (PRG.none_ wr g n)
   clear H c3
   go_wp2_with (first | ((with_reducible refine gate_store (t := 3) (p := 16) rfl ?_); obtain ⟨u10_, hu10_⟩ := MI.cell HM.out (n * 7) (by have := HNL.out; omega); have hf10_ := MI.frozen HM.out (n * 7); refine store_event (t := 3) (p := 16) (v := ?vo_10) (w1 := ?w1_10) ?hg ?ho ?hn ?hr ?_; (case ho => rfl); (case hg => rfl); (case hn => rfl); (case hr => go_simp; rfl); intro w10 hw10; subst hw10; have n0_ := Aside0.mk (MI.set HM.out HQ.out (n * 7) (fun j => by omega) (.int .i64 c)); have n1_ := Aside0.mk (Below.setCell HB.out (p := ⟨g, n * 7, none⟩) HG.out (.int .i64 c)); have n2_ := Aside0.mk (kept_set (o := n * 7) (u := .int .i64 c) HK.out HPG.out); have n3_ := Aside0.mk (PRG.set (o := 0) (u := .int .i64 c) HF.out (by simp) hu10_); have n4_ := Aside0.mk (MD.set (o := n * 7) (u := .int .i64 c) HMD.out HQ.out (by have := HML.out; omega)); clear hu10_ hf10_; clear HM HB HK HF HMD; have HM := n0_; have HB := n1_; have HK := n2_; have HF := n3_; have HMD := n4_; clear n0_ n1_ n2_ n3_ n4_) | ((with_reducible refine gate_store (t := 3) (p := 23) rfl ?_); obtain ⟨u11_, hu11_⟩ := MI.cell HM.out (n * 7 + 1) (by have := HNL.out; omega); have hf11_ := MI.frozen HM.out (n * 7 + 1); refine store_event (t := 3) (p := 23) (v := ?vo_11) (w1 := ?w1_11) ?hg ?ho ?hn ?hr ?_; (case ho => rfl); (case hg => rfl); (case hn => rfl); (case hr => go_simp; rfl); intro w11 hw11; subst hw11; have n0_ := Aside0.mk (MI.set HM.out HQ.out (n * 7 + 1) (fun j => by omega) (.int .i64 (wrap64 (c + 1)))); have n1_ := Aside0.mk (Below.setCell HB.out (p := ⟨g, n * 7 + 1, none⟩) HG.out (.int .i64 (wrap64 (c + 1)))); have n2_ := Aside0.mk (kept_set (o := n * 7 + 1) (u := .int .i64 (wrap64 (c + 1))) HK.out HPG.out); have n3_ := Aside0.mk (PRG.set (o := 1) (u := .int .i64 (wrap64 (c + 1))) HF.out (by simp) hu11_); have n4_ := Aside0.mk (MD.set (o := n * 7 + 1) (u := .int .i64 (wrap64 (c + 1))) HMD.out HQ.out (by have := HML.out; omega)); clear hu11_ hf11_; clear HM HB HK HF HMD; have HM := n0_; have HB := n1_; have HK := n2_; have HF := n3_; have HMD := n4_; clear n0_ n1_ n2_ n3_ n4_) | (go_at_call 59; (with_reducible refine (laws_markText.calls k1 (wrap64 (wrap64 (c + 1) + 1)) _ _ A1.out).mono ?_); rintro e w12 ⟨rfl, hb⟩; have n0_ := Aside0.mk (MI.below HM.out hb); have n1_ := Aside0.mk (below_step HB.out hb); have n2_ := Aside0.mk (kept_below HK.out hb); have n3_ := Aside0.mk (PRG.below HF.out hb); have n4_ := Aside0.mk (MD.below HMD.out hb); clear HM HB HK HF HMD hb; have HM := n0_; have HB := n1_; have HK := n2_; have HF := n3_; have HMD := n4_; clear n0_ n1_ n2_ n3_ n4_) | ((with_reducible refine gate_store (t := 9) (p := 31) rfl ?_); obtain ⟨u13_, hu13_⟩ := MI.cell HM.out (n * 7 + 2) (by have := HNL.out; omega); have hf13_ := MI.frozen HM.out (n * 7 + 2); refine store_event (t := 9) (p := 31) (v := ?vo_13) (w1 := ?w1_13) ?hg ?ho ?hn ?hr ?_; (case ho => rfl); (case hg => rfl); (case hn => rfl); (case hr => go_simp; rfl); intro w13 hw13; subst hw13; have n0_ := Aside0.mk (MI.set HM.out HQ.out (n * 7 + 2) (fun j => by omega) (.string s)); have n1_ := Aside0.mk (Below.setCell HB.out (p := ⟨g, n * 7 + 2, none⟩) HG.out (.string s)); have n2_ := Aside0.mk (kept_set (o := n * 7 + 2) (u := .string s) HK.out HPG.out); have n3_ := Aside0.mk (PRG.set (o := 2) (u := .string s) HF.out (by simp) hu13_); have n4_ := Aside0.mk (MD.set (o := n * 7 + 2) (u := .string s) HMD.out HQ.out (by have := HML.out; omega)); clear hu13_ hf13_; clear HM HB HK HF HMD; have HM := n0_; have HB := n1_; have HK := n2_; have HF := n3_; have HMD := n4_; clear n0_ n1_ n2_ n3_ n4_; obtain ⟨va, hva, hRa⟩ := MI.attrs HM.out n HNL.out (Nat.le_refl _); have HRA := Aside0.mk hRa; have n0_ := Aside0.mk (PRG.add HF.out hva); clear HF hRa; have HF := n0_; clear n0_) | (go_at_call 60; (refine (laws_markAttrS.calls k1 _ _ (rd_T44 l0 (n : Int)).f3 (wrap64 (wrap64 (wrap64 (c + 1) + 1) + 1)) b1 b2 w0 _ HB.out (Kd.R_bound HRA.out) A2.out).mono ?_); rintro e w14 ⟨rfl, hR14, hb, hk⟩; have HAR := Aside0.mk (Kd.R_mono (ok' := Q n) (Kd.R_tight rfl hR14) (fun k hk => HRA.out.1 k hk.symm)); have n0_ := Aside0.mk (MI.kept HM.out hk 91 n (by decide) (fun k hk2 => ⟨hk2.1, by obtain ⟨_, _, _, q, hq, hc⟩ := hk2; have e0 : q = 91 := (by (rcases List.mem_cons.1 hq with e | hq; exact e; exact absurd (show q ∈ ([] : List Nat) from hq) (by simp))); subst e0; exact hc⟩) HD.out (n + 1) n (fun j hj => ⟨by omega, .inl (by omega)⟩) (fun j hj => ⟨hj, .inr (by decide)⟩)); have n1_ := Aside0.mk hb; have n2_ := Aside0.mk (kept_step HK.out hk (fun k hk2 => HQP.out n k hk2.1)); have n3_ := Aside0.mk (PRG.kept HF.out HM.out (MI.block (n := n) (e := 91) HM.out hk (by decide) (fun k hk2 => ⟨hk2.1, by obtain ⟨_, _, _, q, hq, hc⟩ := hk2; have e0 : q = 91 := (by (rcases List.mem_cons.1 hq with e | hq; exact e; exact absurd (show q ∈ ([] : List Nat) from hq) (by simp))); subst e0; exact hc⟩))); have n4_ := Aside0.mk (MD.kept (n := n) (e := 91) HMD.out HM.out hk (by decide) (fun k hk2 => ⟨hk2.1, by obtain ⟨_, _, _, q, hq, hc⟩ := hk2; have e0 : q = 91 := (by (rcases List.mem_cons.1 hq with e | hq; exact e; exact absurd (show q ∈ ([] : List Nat) from hq) (by simp))); subst e0; exact hc⟩) HD.out (by have := HML.out; omega)); clear HM HB HK HF HMD hb hk HRA hR14; have HM := n0_; have HB := n1_; have HK := n2_; have HF := n3_; have HMD := n4_; clear n0_ n1_ n2_ n3_ n4_) | (go_at_call 59; (with_reducible refine (laws_markText.calls k1 (b1) _ _ A3.out).mono ?_); rintro e w15 ⟨rfl, hb⟩; have n0_ := Aside0.mk (MI.below HM.out hb); have n1_ := Aside0.mk (below_step HB.out hb); have n2_ := Aside0.mk (kept_below HK.out hb); have n3_ := Aside0.mk (PRG.below HF.out hb); have n4_ := Aside0.mk (MD.below HMD.out hb); have n5_ := Aside0.mk (Kd.R_below HAR.out hb); clear HAR; have HAR := n5_; clear n5_; clear HM HB HK HF HMD hb; have HM := n0_; have HB := n1_; have HK := n2_; have HF := n3_; have HMD := n4_; clear n0_ n1_ n2_ n3_ n4_) | ((with_reducible refine gate_store (t := 9) (p := 46) rfl ?_); obtain ⟨u16_, hu16_⟩ := MI.cell HM.out (n * 7 + 4) (by have := HNL.out; omega); have hf16_ := MI.frozen HM.out (n * 7 + 4); refine store_event (t := 9) (p := 46) (v := ?vo_16) (w1 := ?w1_16) ?hg ?ho ?hn ?hr ?_; (case ho => rfl); (case hg => rfl); (case hn => rfl); (case hr => go_simp; rfl); intro w16 hw16; subst hw16; have n0_ := Aside0.mk (MI.set HM.out HQ.out (n * 7 + 4) (fun j => by omega) (.string t)); have n1_ := Aside0.mk (Below.setCell HB.out (p := ⟨g, n * 7 + 4, none⟩) HG.out (.string t)); have n2_ := Aside0.mk (kept_set (o := n * 7 + 4) (u := .string t) HK.out HPG.out); have n3_ := Aside0.mk (PRG.set (o := 4) (u := .string t) HF.out (by simp) hu16_); have n4_ := Aside0.mk (MD.set (o := n * 7 + 4) (u := .string t) HMD.out HQ.out (by have := HML.out; omega)); clear hu16_ hf16_; clear HM HB HK HF HMD; have HM := n0_; have HB := n1_; have HK := n2_; have HF := n3_; have HMD := n4_; clear n0_ n1_ n2_ n3_ n4_; have n5_ := Aside0.mk (Kd.R_far (p := ⟨g, n * 7 + 4, none⟩) HAR.out (fun k hk => HQ.out n k hk) (.string t)); clear HAR; have HAR := n5_; clear n5_) | ((with_reducible refine gate_store (t := 3) (p := 53) rfl ?_); obtain ⟨u17_, hu17_⟩ := MI.cell HM.out (n * 7 + 5) (by have := HNL.out; omega); have hf17_ := MI.frozen HM.out (n * 7 + 5); refine store_event (t := 3) (p := 53) (v := ?vo_17) (w1 := ?w1_17) ?hg ?ho ?hn ?hr ?_; (case ho => rfl); (case hg => rfl); (case hn => rfl); (case hr => go_simp; rfl); intro w17 hw17; subst hw17; have n0_ := Aside0.mk (MI.set HM.out HQ.out (n * 7 + 5) (fun j => by omega) (.int .i64 (wrap64 (b1 + 1)))); have n1_ := Aside0.mk (Below.setCell HB.out (p := ⟨g, n * 7 + 5, none⟩) HG.out (.int .i64 (wrap64 (b1 + 1)))); have n2_ := Aside0.mk (kept_set (o := n * 7 + 5) (u := .int .i64 (wrap64 (b1 + 1))) HK.out HPG.out); have n3_ := Aside0.mk (PRG.set (o := 5) (u := .int .i64 (wrap64 (b1 + 1))) HF.out (by simp) hu17_); have n4_ := Aside0.mk (MD.set (o := n * 7 + 5) (u := .int .i64 (wrap64 (b1 + 1))) HMD.out HQ.out (by have := HML.out; omega)); clear hu17_ hf17_; clear HM HB HK HF HMD; have HM := n0_; have HB := n1_; have HK := n2_; have HF := n3_; have HMD := n4_; clear n0_ n1_ n2_ n3_ n4_; have n5_ := Aside0.mk (Kd.R_far (p := ⟨g, n * 7 + 5, none⟩) HAR.out (fun k hk => HQ.out n k hk) (.int .i64 (wrap64 (b1 + 1)))); clear HAR; have HAR := n5_; clear n5_; obtain ⟨vk, hvk, hRk⟩ := MI.kids HM.out n HNL.out (Nat.le_refl _); have HRK := Aside0.mk hRk; have n0_ := Aside0.mk (PRG.add HF.out hvk); clear HF hRk; have HF := n0_; clear n0_) | (go_at_call 35; (refine (laws_markIntS.calls k1 _ _ (rd_T44 l0 (n : Int)).f6 (wrap64 (wrap64 (b1 + 1) + 1)) d1 d2 w0 _ HB.out (Kd.R_bound HRK.out) A4.out).mono ?_); rintro e w18 ⟨rfl, hR18, hb, hk⟩; have HKR := Aside0.mk (Kd.R_mono (ok' := Q n) (Kd.R_tight rfl hR18) (fun k hk => HRK.out.1 k hk.symm)); have n5_ := Aside0.mk (R_other (e2 := 3) rfl HAR.out hk (fun k h1 _ => ⟨by obtain ⟨_, _, _, q, hq, hc⟩ := h1; have e0 : q = 3 := (by (rcases List.mem_cons.1 hq with e | hq; exact e; exact absurd (show q ∈ ([] : List Nat) from hq) (by simp))); subst e0; exact hc, by decide⟩)); have n0_ := Aside0.mk (MI.kept HM.out hk 3 n (by decide) (fun k hk2 => ⟨hk2.1, by obtain ⟨_, _, _, q, hq, hc⟩ := hk2; have e0 : q = 3 := (by (rcases List.mem_cons.1 hq with e | hq; exact e; exact absurd (show q ∈ ([] : List Nat) from hq) (by simp))); subst e0; exact hc⟩) HD.out (n + 1) (n + 1) (fun j hj => ⟨hj, .inr (by decide)⟩) (fun j hj => ⟨by omega, .inl (by omega)⟩)); have n1_ := Aside0.mk hb; have n2_ := Aside0.mk (kept_step HK.out hk (fun k hk2 => HQP.out n k hk2.1)); have n3_ := Aside0.mk (PRG.kept HF.out HM.out (MI.block (n := n) (e := 3) HM.out hk (by decide) (fun k hk2 => ⟨hk2.1, by obtain ⟨_, _, _, q, hq, hc⟩ := hk2; have e0 : q = 3 := (by (rcases List.mem_cons.1 hq with e | hq; exact e; exact absurd (show q ∈ ([] : List Nat) from hq) (by simp))); subst e0; exact hc⟩))); have n4_ := Aside0.mk (MD.kept (n := n) (e := 3) HMD.out HM.out hk (by decide) (fun k hk2 => ⟨hk2.1, by obtain ⟨_, _, _, q, hq, hc⟩ := hk2; have e0 : q = 3 := (by (rcases List.mem_cons.1 hq with e | hq; exact e; exact absurd (show q ∈ ([] : List Nat) from hq) (by simp))); subst e0; exact hc⟩) HD.out (by have := HML.out; omega)); clear HM HB HK HF HMD hb hk HRK hR18 HAR; have HM := n0_; have HB := n1_; have HK := n2_; have HF := n3_; have HMD := n4_; have HAR := n5_; clear n0_ n1_ n2_ n3_ n4_ n5_))
   have HSN := Aside0.mk (MD.snoc HMD.out (⟨c, wrap64 (c + 1), s, b2, t, wrap64 (b1 + 1), d2⟩ : S44) (va := va) (vk := vk) (by rw [HML.out]; intro x hx; exact HF.out x (by simp only [List.mem_cons, List.not_mem_nil, or_false] at hx ⊢; rcases hx with e | e | e | e | e | e | e <;> (subst e; simp))) (by rw [HML.out]; exact HAR.out) (by rw [HML.out]; exact HKR.out))
   go_roundg k1
   case measure => have := HK1.out; omega
   case rel => exact ⟨d1, n + 1, _, rfl, by rw [HW.out], ⟨by rw [← HW.out]; exact H'.out⟩, ⟨by have := HK1.out; omega⟩, ⟨HNL.out⟩, ⟨by rw [List.length_append, HML.out]; rfl⟩, HM, HB, HK, HSN⟩
def laws_markItem.f (k : Nat) (a0_0 : Int) (a0_1 : Int) (a0_2 : ByteArray) (l0_3 : List (S91)) (a0_4 : ByteArray) (a0_5 : Int) (l0_6 : List Int) (a1 : Int) : Option (Int × (List (S91)) × List Int) := (laws_markAttrS.f k l0_3 a1).bind fun bt306 => ((laws_markIntS.f k l0_6 bt306.1).bind fun bt308 => (some (bt308.1, bt306.2, bt308.2)))
theorem laws_markItem.mono : ∀ a0 a1 a2 a3 a4 a5 a6 a7 k, LeO (laws_markItem.f k a0 a1 a2 a3 a4 a5 a6 a7) (laws_markItem.f (k + 1) a0 a1 a2 a3 a4 a5 a6 a7) := by
 intro a0 a1 a2 a3 a4 a5 a6 a7 k
 unfold laws_markItem.f
 repeat' first
   | (with_reducible exact laws_markAttrS.mono _ _ _)
   | (with_reducible exact laws_markIntS.mono _ _ _)
   | (with_reducible exact LeO.refl _)
   | (with_reducible exact LeO.none _)
   | (with_reducible refine LeO.ite ?_ ?_)
   | (with_reducible refine LeO.bind ?_ (fun _ => ?_))
set_option maxHeartbeats 8000000 in
set_option maxRecDepth 100000 in
theorem laws_markItem.calls (k : Nat) (a0_0 : Int) (a0_1 : Int) (a0_2 : ByteArray) (P0_3_ : Nat → Prop) (u9000_ : Value) (l0_3 : List (S91)) (a0_4 : ByteArray) (a0_5 : Int) (P0_6_ : Nat → Prop) (u9001_ : Value) (l0_6 : List Int) (a1 : Int) (r1 : Int) (r2 : List (S91)) (r3 : List Int) (w0 w : World) (hB : Below w0.heap.size w0 w) (ho0_3 : Kd.R k91 91 w w0.heap.size P0_3_ u9000_ l0_3) (ho0_6 : Kd.R (Kd.int .i64) 3 w w0.heap.size P0_6_ u9001_ l0_6) (h : laws_markItem.f k a0_0 a0_1 a0_2 l0_3 a0_4 a0_5 l0_6 a1 = some (r1, r2, r3)) :
  Calls Try.prog 24 #[.agg #[.int .i64 a0_0, .int .i64 a0_1, .string a0_2, u9000_, .string a0_4, .int .i64 a0_5, u9001_], .int .i64 a1] w fun e w' => e = .returned (.int .i64 r1) ∧ Kd.R k91 91 w' w0.heap.size (fun k_ => ((P0_3_ k_ ∨ P0_6_ k_) ∨ w.heap.size ≤ k_)) u9000_ r2 ∧ Kd.R (Kd.int .i64) 3 w' w0.heap.size (fun k_ => ((P0_3_ k_ ∨ P0_6_ k_) ∨ w.heap.size ≤ k_)) u9001_ r3 ∧ Below w0.heap.size w0 w' ∧ Kept w w' (fun k_ => P0_3_ k_ ∨ P0_6_ k_) := by
 have hu44 := Try.underlying44
 have HO0_3 := Aside0.mk (show Kd.R k91 91 w w0.heap.size (fun k_ => ((P0_3_ k_ ∨ P0_6_ k_) ∨ w.heap.size ≤ k_)) u9000_ l0_3 from Kd.R_mono ho0_3 (fun k_ hk => (.inl (.inl hk))))
 have HO0_6 := Aside0.mk (show Kd.R (Kd.int .i64) 3 w w0.heap.size (fun k_ => ((P0_3_ k_ ∨ P0_6_ k_) ∨ w.heap.size ≤ k_)) u9001_ l0_6 from Kd.R_mono ho0_6 (fun k_ hk => (.inl (.inr hk))))
 have HK := Aside0.mk (Kept.refl w (fun k_ => P0_3_ k_ ∨ P0_6_ k_))
 have HW0 := Aside0.mk hB.size
 have HB := Aside0.mk hB
 clear hB
 have H : ((laws_markAttrS.f k l0_3 a1).bind fun bt306 => ((laws_markIntS.f k l0_6 bt306.1).bind fun bt308 => (some (bt308.1, bt306.2, bt308.2)))) = some (r1, r2, r3) := h
 clear h
 replace H := Option.bind_eq_some_iff.mp H
 obtain ⟨⟨t306, t307⟩, A30, H⟩ := H
 replace H : ((laws_markIntS.f k l0_6 t306).bind fun bt308 => (some (bt308.1, t307, bt308.2))) = some (r1, r2, r3) := H
 have A3 := Aside0.mk A30
 clear A30
 replace H := Option.bind_eq_some_iff.mp H
 obtain ⟨⟨t308, t309⟩, A40, H⟩ := H
 replace H : (some (t308, t307, t309)) = some (r1, r2, r3) := H
 have A4 := Aside0.mk A40
 clear A40
 simp only [Option.some.injEq, Prod.mk.injEq] at H
 obtain ⟨rfl, rfl, rfl⟩ := H
 obtain ⟨Ao5, co5, eo5⟩ := Kd.R_slice HO0_3.out
 subst eo5
 obtain ⟨Ao6, co6, eo6⟩ := Kd.R_slice HO0_6.out
 subst eo6
 go_enter Try.func24, Try.ntmps24
 go_wp2_with (first | ((with_reducible refine gate_dst (N := 2) rfl ?_); refine box_event ?hg (N := 2) ?hd (cs := #[.int .i64 a0_0, .int .i64 a0_1, .string a0_2, .slice Ao5 l0_3.length co5, .string a0_4, .int .i64 a0_5, .slice Ao6 l0_6.length co6]) (t := 44) ?hr ?_; (case hd => rfl); (case hg => rfl); (case hr => first | (go_simp; done) | (go_simp; rfl)); intro gb305 hg w7 hbox hb; have n0_ := Aside0.mk (Kd.R_below (by (with_reducible repeat (first | apply Kd.R_alloc | apply Kd.R_drewN | apply Kd.R_drew)); exact HO0_3.out) hb); have n1_ := Aside0.mk (Kd.R_below (by (with_reducible repeat (first | apply Kd.R_alloc | apply Kd.R_drewN | apply Kd.R_drew)); exact HO0_6.out) hb); have n2_ := Aside0.mk (Kept.below (S := (fun k_ => P0_3_ k_ ∨ P0_6_ k_)) (by repeat (first | (with_reducible first | exact HK.out | apply Kept.alloc | apply Kept.drewN | apply Kept.drew) | exact HK.out)) hb); have n3_ := Aside0.mk (below_step (by repeat (first | (with_reducible first | exact HB.out | apply ba_ | apply bn_ | apply b1_) | exact HB.out)) hb); have n4_ := Aside0.mk (hbox); have n5_ := Aside0.mk ((by rw [hg]; exact (by first | exact HK.out.1 | exact (show Kept w _ (fun k_ => P0_3_ k_ ∨ P0_6_ k_) from by repeat (first | (with_reducible first | exact HK.out | apply Kept.alloc | apply Kept.drewN | apply Kept.drew) | exact HK.out)).1) : w.heap.size ≤ gb305)); have n6_ := Aside0.mk ((by rw [hg]; exact (below_size (by repeat (first | (with_reducible first | exact HB.out | apply ba_ | apply bn_ | apply b1_) | exact HB.out))) : w0.heap.size ≤ gb305)); clear HO0_3; clear HO0_6; clear HK; clear HB; have HO0_3 := n0_; have HO0_6 := n1_; have HK := n2_; have HB := n3_; have BK305 := n4_; have GW305 := n5_; have GE305 := n6_; clear n0_ n1_ n2_ n3_ n4_ n5_ n6_; clear hb hbox hg; have hcz8_0 : w7.cell? ⟨gb305, 0, none⟩ = some (.int .i64 a0_0) := (bc_ BK305.out 0).trans rfl; have hcz8_1 : w7.cell? ⟨gb305, 1, none⟩ = some (.int .i64 a0_1) := (bc_ BK305.out 1).trans rfl; have hcz8_2 : w7.cell? ⟨gb305, 2, none⟩ = some (.string a0_2) := (bc_ BK305.out 2).trans rfl; have hcz8_3 : w7.cell? ⟨gb305, 3, none⟩ = some (.slice Ao5 l0_3.length co5) := (bc_ BK305.out 3).trans rfl; have hcz8_4 : w7.cell? ⟨gb305, 4, none⟩ = some (.string a0_4) := (bc_ BK305.out 4).trans rfl; have hcz8_5 : w7.cell? ⟨gb305, 5, none⟩ = some (.int .i64 a0_5) := (bc_ BK305.out 5).trans rfl; have hcz8_6 : w7.cell? ⟨gb305, 6, none⟩ = some (.slice Ao6 l0_6.length co6) := (bc_ BK305.out 6).trans rfl; have hfz8_0 := blk_frozen BK305.out 0; have hfz8_1 := blk_frozen BK305.out 1; have hfz8_2 := blk_frozen BK305.out 2; have hfz8_3 := blk_frozen BK305.out 3; have hfz8_4 := blk_frozen BK305.out 4; have hfz8_5 := blk_frozen BK305.out 5; have hfz8_6 := blk_frozen BK305.out 6) | ((with_reducible refine gate_callee (f := 60) rfl ?_); refine goesL_ (some 8) rfl rfl Try.func60 (by kernel_rfl) rfl #[.slice Ao5 l0_3.length co5, .int .i64 a1] rfl (by (try simp only [List.map_toArray, List.map_cons, List.map_nil]); first | done | rfl | (simp only [List.length_drop, List.length_take]; rfl)) ?_; (with_reducible refine (laws_markAttrS.calls k (fun k_ => some k_ = (.slice Ao5 l0_3.length co5 : Value).ownBlock) (.slice Ao5 l0_3.length co5) l0_3 a1 t306 t307 w0 _ ?side1 ?side2 A3.out).mono ?_); (case side1 => repeat (first | (with_reducible first | exact HB.out | apply ba_ | apply bn_ | apply b1_ | refine below_set ?_ GE305.out) | exact HB.out)); (case side2 => exact Kd.R_tight rfl HO0_3.out); rintro e w9 ⟨rfl, hy0, hb, hkp⟩; refine ⟨_, rfl, ?_⟩; have n0_ := Aside0.mk (Kd.R_reok rfl hy0 (fun k_ e_ => HO0_3.out.1 k_ e_)); have n1_ := Aside0.mk (Kd.R_mono (ok' := fun k_ => ((P0_3_ k_ ∨ P0_6_ k_) ∨ w.heap.size ≤ k_)) (Kd.R_keptB ((Kd.R_apart' HO0_6.out (Kd.R_typed HO0_3.out) (by decide))) hkp (fun k_ hk_ hs_ => (hk_.2) hs_)) (fun k_ hk_ => hk_.1.1)); have n2_ := Aside0.mk (blk_kept (by (with_reducible repeat (first | refine dn_ ?_ _ | refine dd_ ?_ | refine da_ ?_ _)); exact BK305.out) hkp (fun hs_ => (fun e_ => (Kd.R_ne HO0_3.out BK305.out (by decide)) e_) hs_)); have n3_ := Aside0.mk (Kept.then_ (S := (fun k_ => P0_3_ k_ ∨ P0_6_ k_)) (by repeat (first | (with_reducible first | exact HK.out | apply Kept.alloc | apply Kept.drewN | apply Kept.drew | refine Kept.setCell ?_ (.inr GW305.out) _) | exact HK.out)) hkp (fun k_ hs_ => (fun e_ => (HO0_3.out.1 k_ e_.symm)) hs_)); have n4_ := Aside0.mk (hb); clear HO0_3; clear HO0_6; clear BK305; clear HK; clear HB; have HO0_3 := n0_; have HO0_6 := n1_; have BK305 := n2_; have HK := n3_; have HB := n4_; clear n0_ n1_ n2_ n3_ n4_; (try clear hb); (try clear hkp); (try clear hy0); have hcz10_0 : w9.cell? ⟨gb305, 0, none⟩ = some (.int .i64 a0_0) := (bc_ BK305.out 0).trans rfl; have hcz10_1 : w9.cell? ⟨gb305, 1, none⟩ = some (.int .i64 a0_1) := (bc_ BK305.out 1).trans rfl; have hcz10_2 : w9.cell? ⟨gb305, 2, none⟩ = some (.string a0_2) := (bc_ BK305.out 2).trans rfl; have hcz10_3 : w9.cell? ⟨gb305, 3, none⟩ = some (.slice Ao5 l0_3.length co5) := (bc_ BK305.out 3).trans rfl; have hcz10_4 : w9.cell? ⟨gb305, 4, none⟩ = some (.string a0_4) := (bc_ BK305.out 4).trans rfl; have hcz10_5 : w9.cell? ⟨gb305, 5, none⟩ = some (.int .i64 a0_5) := (bc_ BK305.out 5).trans rfl; have hcz10_6 : w9.cell? ⟨gb305, 6, none⟩ = some (.slice Ao6 l0_6.length co6) := (bc_ BK305.out 6).trans rfl; have hfz10_0 := blk_frozen BK305.out 0; have hfz10_1 := blk_frozen BK305.out 1; have hfz10_2 := blk_frozen BK305.out 2; have hfz10_3 := blk_frozen BK305.out 3; have hfz10_4 := blk_frozen BK305.out 4; have hfz10_5 := blk_frozen BK305.out 5; have hfz10_6 := blk_frozen BK305.out 6) | ((with_reducible refine gate_callee (f := 35) rfl ?_); refine goesL_ (some 12) rfl rfl Try.func35 (by kernel_rfl) rfl #[.slice Ao6 l0_6.length co6, .int .i64 t306] rfl (by (try simp only [List.map_toArray, List.map_cons, List.map_nil]); first | done | rfl | (simp only [List.length_drop, List.length_take]; rfl)) ?_; (with_reducible refine (laws_markIntS.calls k (fun k_ => some k_ = (.slice Ao6 l0_6.length co6 : Value).ownBlock) (.slice Ao6 l0_6.length co6) l0_6 t306 t308 t309 w0 _ ?side1 ?side2 A4.out).mono ?_); (case side1 => repeat (first | (with_reducible first | exact HB.out | apply ba_ | apply bn_ | apply b1_ | refine below_set ?_ GE305.out) | exact HB.out)); (case side2 => exact Kd.R_tight rfl HO0_6.out); rintro e w11 ⟨rfl, hy0, hb, hkp⟩; refine ⟨_, rfl, ?_⟩; have n0_ := Aside0.mk (Kd.R_mono (ok' := fun k_ => ((P0_3_ k_ ∨ P0_6_ k_) ∨ w.heap.size ≤ k_)) (Kd.R_keptB ((Kd.R_apart' HO0_3.out (Kd.R_typed HO0_6.out) (by decide))) hkp (fun k_ hk_ hs_ => (hk_.2) hs_)) (fun k_ hk_ => hk_.1.1)); have n1_ := Aside0.mk (Kd.R_reok rfl hy0 (fun k_ e_ => HO0_6.out.1 k_ e_)); have n2_ := Aside0.mk (blk_kept (by (with_reducible repeat (first | refine dn_ ?_ _ | refine dd_ ?_ | refine da_ ?_ _)); exact BK305.out) hkp (fun hs_ => (fun e_ => (Kd.R_ne HO0_6.out BK305.out (by decide)) e_) hs_)); have n3_ := Aside0.mk (Kept.then_ (S := (fun k_ => P0_3_ k_ ∨ P0_6_ k_)) (by repeat (first | (with_reducible first | exact HK.out | apply Kept.alloc | apply Kept.drewN | apply Kept.drew | refine Kept.setCell ?_ (.inr GW305.out) _) | exact HK.out)) hkp (fun k_ hs_ => (fun e_ => (HO0_6.out.1 k_ e_.symm)) hs_)); have n4_ := Aside0.mk (hb); clear HO0_3; clear HO0_6; clear BK305; clear HK; clear HB; have HO0_3 := n0_; have HO0_6 := n1_; have BK305 := n2_; have HK := n3_; have HB := n4_; clear n0_ n1_ n2_ n3_ n4_; (try clear hb); (try clear hkp); (try clear hy0)))
 go_ret
 exact ⟨by first | rfl | (simp [errW_none, errW_some] <;> rfl) | (simp [*, errW_none, errW_some] <;> rfl), by (with_reducible repeat (first | apply Kd.R_alloc | apply Kd.R_drewN | apply Kd.R_drew)); exact HO0_3.out, by (with_reducible repeat (first | apply Kd.R_alloc | apply Kd.R_drewN | apply Kd.R_drew)); exact HO0_6.out, by repeat (first | (with_reducible first | exact HB.out | apply ba_ | apply bn_ | apply b1_ | refine below_set ?_ GE305.out) | exact HB.out), by repeat (first | (with_reducible first | exact HK.out | apply Kept.alloc | apply Kept.drewN | apply Kept.drew | refine Kept.setCell ?_ (.inr GW305.out) _) | exact HK.out)⟩
def laws_heldIntS.l0 : Nat → List Int → Int → Int → Option (Int)
 | 0, _, _, _ => none
 | k + 1, x0, x1, x5 => if x5 < (x0.length : Int) then (if 0 ≤ x5 then (if (rd x0 x5) = x1 then (laws_heldIntS.l0 k x0 (wrap64 (x1 + 1)) (wrap64 (x5 + 1))) else (some (-1))) else (none)) else (some x1)
def laws_heldIntS.f (k : Nat) (l0 : List Int) (a1 : Int) : Option (Int) := laws_heldIntS.l0 k l0 a1 0
theorem laws_heldIntS.mono_l : ∀ k, (∀ y0 y1 y2, LeO (laws_heldIntS.l0 k y0 y1 y2) (laws_heldIntS.l0 (k + 1) y0 y1 y2))
 | 0 => fun _ _ _ r h => by simp [laws_heldIntS.l0] at h
 | k + 1 => by
  have ih0 := laws_heldIntS.mono_l k
  ·intro y0 y1 y2
   unfold laws_heldIntS.l0
   repeat' first
   | (with_reducible exact ih0 _ _ _)
   | (with_reducible exact LeO.refl _)
   | (with_reducible exact LeO.none _)
   | (with_reducible refine LeO.ite ?_ ?_)
   | (with_reducible refine LeO.bind ?_ (fun _ => ?_))
theorem laws_heldIntS.mono : ∀ a0 a1 k, LeO (laws_heldIntS.f k a0 a1) (laws_heldIntS.f (k + 1) a0 a1) := by
 intro a0 a1 k
 have ih0 := laws_heldIntS.mono_l k
 unfold laws_heldIntS.f
 repeat' first
   | (with_reducible exact ih0 _ _ _)
   | (with_reducible exact LeO.refl _)
   | (with_reducible exact LeO.none _)
   | (with_reducible refine LeO.ite ?_ ?_)
   | (with_reducible refine LeO.bind ?_ (fun _ => ?_))
set_option maxHeartbeats 8000000 in
set_option maxRecDepth 100000 in
theorem laws_heldIntS.calls (k : Nat) (A0 : Option Addr) (c0 : Nat) (l0 : List Int) (a1 : Int) (r : Int) (w : World) (hr0 : Kd.C (Kd.int .i64) w A0 l0.length l0) (hc0 : l0.length ≤ c0) (h : laws_heldIntS.f k l0 a1 = some r) :
  Calls Try.prog 36 #[.slice A0 l0.length c0, .int .i64 a1] w fun e w' => e = .returned (.int .i64 r) ∧ Drawn0 w w' := by
 have HR0 := Aside0.mk hr0
 have HC0 := Aside0.mk hc0
 clear hr0 hc0
 have H : (laws_heldIntS.l0 k l0 a1 0) = some r := h
 clear h
 have H' := Aside0.mk H
 clear H
 go_enter Try.func36, Try.ntmps36
 go_wp2
 go_loopg [1, 5] k (fun kq v1 v5 w' => ∃ (x1_1 : Int) (x5_1 : Int), v1 = .int .i64 x1_1 ∧ v5 = .int .i64 x5_1 ∧ Aside0 (laws_heldIntS.l0 kq l0 x1_1 x5_1 = some r) ∧ Aside0 (kq ≤ k) ∧ Drawn0 w w')
 case atStart => exact ⟨(a1), (0), (by first | rfl | (simp; done) | (simp [*]; done)), (by first | rfl | (simp; done) | (simp [*]; done)), H', ⟨Nat.le_refl _⟩, by repeat (first | exact Drawn0.refl _ | apply Drawn0.step)⟩
 case round =>
  clear H'
  obtain ⟨x1_1, x5_1, rfl, rfl, HA, HK1, ⟨m1, rfl⟩⟩ := hrel
  cases gk with
  | zero => exact absurd HA.out (by simp [laws_heldIntS.l0])
  | succ k1 =>
   have H := HA.out
   clear HA
   simp only [laws_heldIntS.l0] at H
   by_cases c3 : x5_1 < (l0.length : Int)
   ·rw [if_pos c3] at H
    have c3b0 : decide (x5_1 < (l0.length : Int)) = true := decide_eq_true c3
    clear c3
    by_cases c4 : 0 ≤ x5_1
    ·rw [if_pos c4] at H
     have c4b0 : decide (0 ≤ x5_1) = true := decide_eq_true c4
     clear c4
     by_cases c5 : (rd l0 x5_1) = x1_1
     ·rw [if_pos c5] at H
      have c5b0 : ((rd l0 x5_1) == x1_1) = true := beq_iff_eq.mpr c5
      have c5b1 : ((rd l0 x5_1) != x1_1) = false := bne_eq_false_iff_eq.mpr c5
      clear c5
      have H' := Aside0.mk H
      clear H
      have p310 : 0 ≤ (x5_1 : Int) := dq_ (by assumption)
      have q310 : x5_1 < (l0.length : Int) := dq_ (by assumption)
      obtain ⟨ad310, e310, hx310_0⟩ := Kd.at_int HR0.out x5_1 p310 q310
      cases e310
      replace p310 := eq_true p310
      replace q310 := eq_true q310
      go_wp2
      go_roundg k1
      case measure => have := HK1.out; omega
      case rel => exact ⟨(wrap64 (x1_1 + 1)), (wrap64 (x5_1 + 1)), (by first | rfl | (simp; done) | (simp [*]; done)), (by first | rfl | (simp; done) | (simp [*]; done)), H', ⟨by have := HK1.out; omega⟩, by repeat (first | exact Drawn0.refl _ | apply Drawn0.step)⟩
     ·rw [if_neg c5] at H
      have c5b0 : ((rd l0 x5_1) == x1_1) = false := beq_eq_false_iff_ne.mpr c5
      have c5b1 : ((rd l0 x5_1) != x1_1) = true := bne_iff_ne.mpr c5
      obtain rfl := Option.some.inj H
      have p310 : 0 ≤ (x5_1 : Int) := dq_ (by assumption)
      have q310 : x5_1 < (l0.length : Int) := dq_ (by assumption)
      obtain ⟨ad310, e310, hx310_0⟩ := Kd.at_int HR0.out x5_1 p310 q310
      cases e310
      replace p310 := eq_true p310
      replace q310 := eq_true q310
      go_wp2
      go_ret
      exact ⟨by first | rfl | (simp; done) | (simp [*]; done), by repeat (first | exact Drawn0.refl _ | apply Drawn0.step)⟩
    ·rw [if_neg c4] at H
     exact absurd H (by simp)
   ·rw [if_neg c3] at H
    have c3b0 : decide (x5_1 < (l0.length : Int)) = false := decide_eq_false c3
    clear c3
    obtain rfl := Option.some.inj H
    go_wp2
    go_ret
    exact ⟨by first | rfl | (simp; done) | (simp [*]; done), by repeat (first | exact Drawn0.refl _ | apply Drawn0.step)⟩
end Go.Proofs.Ytbgedpicfllclaa.PFnExactAdd
