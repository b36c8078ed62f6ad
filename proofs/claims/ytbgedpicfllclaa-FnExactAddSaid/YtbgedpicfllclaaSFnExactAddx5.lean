-- Written by this session's program wip/slim.py out of the print's texts. Lean checks it.
import Derived.Test.YtbgedpicfllclaaSFnExactAddx0
import Derived.Test.YtbgedpicfllclaaSFnExactAddx1
import Derived.Test.YtbgedpicfllclaaSFnExactAddx2
import Derived.Test.YtbgedpicfllclaaSFnExactAddx4
namespace Go.Proofs.Ytbgedpicfllclaa.PFnExactAdd
open Go.RowKit Go.Proofs.YtbgedpicfllclaaW.PrintWords Go.Proofs.YtbgedpicfllclaaW.PrintLast Go.Proofs.YtbgedpicfllclaaW.PrintMore
attribute [local go_sem] max2_int min2_int max_two min_two max_three min_three max_four min_four
set_option linter.unusedVariables false
set_option linter.unusedSimpArgs false
theorem ins_cells {W : World} {vb : Nat} {x : Int} (hv : W.heap[vb]? = some (.cells #[.int .i64 x] 3 (0, 0))) : ∀ (j : Nat) (v : Value), ([Value.int .i64 x] : List Value)[j]? = some v → W.cell? ⟨vb, 0 + j, none⟩ = some v := fun j v h => by
 rw [Nat.zero_add, bc_ hv]
 cases j with
 | zero => exact h
 | succ j => simp at h
theorem ins_one (x : Int) : ∀ v ∈ ([Value.int .i64 x] : List Value), v.oneCell' = true := fun v h => by
 rw [List.mem_singleton] at h
 subst h
 rfl
theorem ins_ones (xs : List Int) : ∀ v ∈ xs.map (Value.int .i64), v.oneCell' = true := fun v h => by
 obtain ⟨x, _, rfl⟩ := List.mem_map.1 h
 rfl
theorem ins_row {W : World} {base g cap : Nat} {cur : Array Value} {ys : List Int} (hb : base ≤ g) (hc : W.heap[g]? = some (.cells cur 3 (0, 0))) (hm : cap ≤ maxLen) (hs : cur.size = cap) (hl : ys.length ≤ cap) (ht : cur.toList.take ys.length = ys.map (Value.int .i64)) : W.ownsRow base 3 1 (.slice (some ⟨g, 0, none⟩) ys.length cap) ys.length (encs (Value.int .i64) ys) :=
 ⟨by rw [encs_length, Nat.mul_one], .inr ⟨g, cap, cur, rfl, hb, hc, hl, hm, by rw [hs, Nat.mul_one], by rw [Nat.mul_one]; exact ht⟩⟩
theorem ins_grown {W W1 : World} {g : Nat} (h : World.grownBy W W1 none) : World.grownBy W W1 (some g) := ⟨h.os, h.tape, h.output, h.size, fun k hk _ => h.block k hk (by simp)⟩
theorem ins_alloc (W : World) (o : Obj) : World.grownBy W (W.drew.alloc o) none := ⟨rfl, rfl, rfl, by simp, fun k hk _ => by
 have := (ba_ (Below.refl W.drew.heap.size W.drew) o).block k hk
 exact this⟩
theorem zero_len (n : Nat) : (Builtin.zeroCells (Value.int .i64 0).cells n).size = n := by simp [Builtin.zeroCells, Value.cells]
theorem ins_take (P S : List Value) (n : Nat) (h : P.length = n) : (P ++ S).take n = P := by
 rw [List.take_append_of_le_length (by omega), List.take_of_length_le (by omega)]
theorem ins_shift (L cs : List Value) (i n m : Nat) (x : Int) (hl : cs.length = n) (hi : i < n) (hL : n + 1 ≤ L.length) (ht : L.take n = cs) : (((L.take (i + 1) ++ cs.drop i ++ L.drop (i + 1 + (cs.drop i).length)).take i ++ [Value.int .i64 x] ++ (L.take (i + 1) ++ cs.drop i ++ L.drop (i + 1 + (cs.drop i).length)).drop (i + [Value.int .i64 x].length)).take (n + 1)) = cs.take i ++ .int .i64 x :: cs.drop i := by
 have h1 : (L.take (i + 1)).length = i + 1 := by rw [List.length_take]; omega
 have h2 : (L.take (i + 1) ++ cs.drop i ++ L.drop (i + 1 + (cs.drop i).length)).take i = cs.take i := by
  rw [List.append_assoc, List.take_append_of_le_length (by omega), List.take_take, ← ht, List.take_take]
  congr 1
  omega
 have h3 : (L.take (i + 1) ++ cs.drop i ++ L.drop (i + 1 + (cs.drop i).length)).drop (i + 1) = cs.drop i ++ L.drop (i + 1 + (cs.drop i).length) := by
  rw [List.append_assoc, List.drop_append_of_le_length (by omega), List.drop_of_length_le (by omega), List.nil_append]
 rw [h2, show i + [Value.int .i64 x].length = i + 1 from rfl, h3, ← List.append_assoc]
 have := ins_take (cs.take i ++ [Value.int .i64 x] ++ cs.drop i) (L.drop (i + 1 + (cs.drop i).length)) (n + 1) (by simp only [List.length_append, List.length_take, List.length_drop, List.length_singleton]; omega)
 rw [this]
 simp
theorem ins_put (L cs : List Value) (i n m : Nat) (x : Int) (hl : cs.length = n) (hi : i < n) (hL : n + 1 ≤ L.length) (ht : L.take i = cs.take i) : (((L.take i ++ [Value.int .i64 x] ++ L.drop (i + [Value.int .i64 x].length)).take (i + 1) ++ cs.drop i ++ (L.take i ++ [Value.int .i64 x] ++ L.drop (i + [Value.int .i64 x].length)).drop (i + 1 + (cs.drop i).length)).take (n + 1)) = cs.take i ++ .int .i64 x :: cs.drop i := by
 have h1 : (cs.take i).length = i := by rw [List.length_take]; omega
 have h2 := ins_take (cs.take i ++ [Value.int .i64 x]) (L.drop (i + [Value.int .i64 x].length)) (i + 1) (by rw [List.length_append, h1]; rfl)
 rw [ht, h2, ins_take _ _ (n + 1) (by simp only [List.length_append, List.length_take, List.length_drop, List.length_singleton]; omega)]
 simp
set_option maxHeartbeats 4000000 in
set_option maxRecDepth 100000 in
theorem int_insert (A : Option Addr) (n c : Nat) (xs : List Int) (i : Nat) (x : Int) (vb vc : Nat) (base : Nat) (ok : Nat → Prop) (W : World) (hR : Kd.R (Kd.int .i64) 3 W base ok (.slice A n c) xs) (hi : i ≤ xs.length) (hl : xs.length < 17592186044415) (hv : W.heap[vb]? = some (.cells #[.int .i64 x] 3 (0, 0))) (hne : (Value.slice A n c).ownBlock ≠ some vb) (hbase : base ≤ W.heap.size) :
  Calls Try.prog 82 #[.slice A n c, .int .i64 (i : Int), .slice (some ⟨vb, 0, none⟩) 1 vc] W fun e w' => ∃ A' c', e = .returned (.slice A' (xs.length + 1) c') ∧ Kd.R (Kd.int .i64) 3 w' base (fun k => ok k ∨ W.heap.size ≤ k) (.slice A' (xs.length + 1) c') (xs.take i ++ x :: xs.drop i) ∧ W.grownBy w' (Value.slice A n c).ownBlock := by
 have hlen : (xs.take i ++ x :: xs.drop i).length = xs.length + 1 := by simp only [List.length_append, List.length_cons, List.length_take, List.length_drop]; omega
 have hmap : (xs.take i ++ x :: xs.drop i).map (Value.int .i64) = (xs.map (Value.int .i64)).take i ++ .int .i64 x :: (xs.map (Value.int .i64)).drop i := by simp [List.map_take, List.map_drop]
 have hcl : (xs.map (Value.int .i64)).length = xs.length := List.length_map ..
 have hown := Kd.own_of_R hR
 have hok := hR.1
 obtain ⟨hn, hnc, _⟩ := Kd.R_reads' hR
 subst hn
 have fin : ∀ (g cap : Nat) (cur : Array Value) (w' : World), base ≤ g → w'.heap[g]? = some (.cells cur 3 (0, 0)) → cap ≤ maxLen → cur.size = cap → xs.length + 1 ≤ cap → cur.toList.take (xs.length + 1) = (xs.map (Value.int .i64)).take i ++ .int .i64 x :: (xs.map (Value.int .i64)).drop i → (ok g ∨ W.heap.size ≤ g) → Kd.R (Kd.int .i64) 3 w' base (fun k => ok k ∨ W.heap.size ≤ k) (.slice (some ⟨g, 0, none⟩) (xs.length + 1) cap) (xs.take i ++ x :: xs.drop i) := fun g cap cur w' hb hc hm hs hcap ht hg => by
  have h := ins_row (ys := xs.take i ++ x :: xs.drop i) hb hc hm hs (by rw [hlen]; exact hcap) (by rw [hlen, hmap]; exact ht)
  rw [hlen] at h
  exact Kd.R_of_own (by rw [hlen]; exact h) (fun k hk => by
   simp only [Value.ownBlock, Option.some.injEq] at hk
   subst hk; exact hg)
 have growEnd : ∀ (w' : World), i = xs.length → w' = W.drew.alloc (.cells ((xs.map (Value.int .i64) ++ [Value.int .i64 x]).toArray ++ Builtin.zeroCells (Value.int .i64 0).cells (grownCap W (xs.length + 1) c 3 - (xs.length + 1))) 3) → Kd.R (Kd.int .i64) 3 w' base (fun k => ok k ∨ W.heap.size ≤ k) (.slice (some ⟨W.heap.size, 0, none⟩) (xs.length + 1) (grownCap W (xs.length + 1) c 3)) (xs.take i ++ x :: xs.drop i) := fun w' hie hw => by
  have h1 := grownCap_ge W (xs.length + 1) c 3
  have h2 := grownCap_le_maxLen W (xs.length + 1) c 3 (by unfold maxLen; omega)
  subst hw
  refine fin W.heap.size _ _ _ hbase (blk_new W.drew _) h2 ?_ h1 ?_ (.inr (Nat.le_refl _))
  ·rw [Array.size_append, zero_len, List.size_toArray, List.length_append, hcl, List.length_singleton]
   omega
  ·subst hie
   rw [Array.toList_append, List.take_append_of_le_length (by simp), List.take_of_length_le (by simp), ← hcl, List.take_length, List.drop_length]
 rcases hown.2 with ⟨e0, h0⟩ | ⟨g, cap, cur, e0, hb, hc, hcap, hmx, hsz, htk⟩
 ·injection e0 with e1 e2 e3
  subst e1
  subst e3
  have hi0 : i = xs.length := by omega
  have h := Any2.slices_Insert_int_end_grow Try.laysNm221 none xs.length 0 vb 0 1 vc (xs.map (Value.int .i64)) [.int .i64 x] W (by omega) (by omega) (by omega) (by omega) hcl rfl (fun _ => h0) (fun a ha => by cases ha) (ins_cells hv) (ins_one x)
  subst hi0
  refine Calls.mono (show Calls Try.prog 82 _ W _ from h) ?_
  rintro e w' ⟨rfl, hw⟩
  refine ⟨_, _, rfl, growEnd w' rfl hw, ?_⟩
  rw [hw]
  exact ins_alloc W _
 ·injection e0 with e1 e2 e3
  subst e1
  subst e3
  rw [Nat.mul_one] at hsz
  rw [Nat.mul_one] at htk
  have htk' : cur.toList.take xs.length = xs.map (Value.int .i64) := htk
  have hgb : (Value.slice (some ⟨g, 0, none⟩) xs.length c).ownBlock = some g := rfl
  have hvg : vb ≠ g := fun e => hne (by rw [e]; rfl)
  have hcs : ∀ (j : Nat) (v : Value), (xs.map (Value.int .i64))[j]? = some v → W.cell? ⟨g, 0 + j, none⟩ = some v := fun j v h => by
   rw [Nat.zero_add, bc_ hc, ← Array.getElem?_toList]
   rw [← htk', List.getElem?_take] at h
   split at h
   ·exact h
   ·cases h
  have hsp : ∀ j, j < c → (W.cell? ⟨g, 0 + j, none⟩).isSome = true := fun j hj => by
   rw [Nat.zero_add, bc_ hc, Array.getElem?_eq_getElem (by omega)]
   rfl
  have hfz : ∀ o, W.frozen? ⟨g, o, none⟩ = false := fun o => blk_frozen hc o
  have hcl2 : cur.toList.length = c := by rw [Array.length_toList]; exact hsz
  rw [hgb]
  by_cases hr : xs.length + 1 ≤ c
  ·by_cases hie : i = xs.length
   ·subst hie
    have h := Any2.slices_Insert_int_end_room Try.laysNm221 g 0 xs.length c vb 0 1 vc [.int .i64 x] W (by omega) hr (by unfold maxLen at hmx; omega) rfl (fun j hj => by have := hsp (xs.length + j) (by omega); rwa [Nat.zero_add] at this ⊢) (fun j hj => hfz _) (ins_cells hv) (ins_one x)
    refine Calls.mono (show Calls Try.prog 82 _ W _ from h) ?_
    rintro e w' ⟨rfl, hw⟩
    obtain ⟨cur', h3, h4, h5⟩ := setCells_row [Value.int .i64 x] (0 + xs.length) W cur hc (by simp only [List.length_singleton]; omega)
    obtain ⟨s1, s2, s3, s4⟩ := setCells_same g [Value.int .i64 x] (0 + xs.length) W
    subst hw
    refine ⟨_, _, rfl, fin g c cur' _ hb h3 hmx (by rw [h4, hsz]) hr ?_ (.inl (hok g rfl)), ⟨s1, s2, s3, by rw [s4]; exact Nat.le_refl _, fun k _ hk => setCells_far _ _ k (fun he => hk (by rw [he]))⟩⟩
    rw [h5, Nat.zero_add, htk', ← hcl, List.take_length, List.drop_length, hcl]
    exact ins_take _ _ _ (by simp)
   ·have hlt : i < xs.length := by omega
    have hsa : W.shape? vb = some (3, 1) := by unfold World.shape?; rw [hv]; rfl
    have hsb : W.shape? g = some (3, cur.size) := by unfold World.shape?; rw [hc]
    have h := Any2.slices_Insert_int_shift Try.laysNm221 g 0 xs.length c i vb 0 1 vc (xs.map (Value.int .i64)) [.int .i64 x] W hlt (by omega) hr (by unfold maxLen at hmx; omega) hvg hcl rfl hcs (fun j hj => hsp j (by omega)) (fun j hj => hfz _) (ins_cells hv) (ins_ones xs) (ins_one x) _ _ _ _ hsa hsb (by omega) (blk_frozen hv _) (blk_frozen hv _)
    refine Calls.mono (show Calls Try.prog 82 _ W _ from h) ?_
    rintro e w' ⟨rfl, hw⟩
    have hdl : ((xs.map (Value.int .i64)).drop i).length = xs.length - i := by rw [List.length_drop, hcl]
    obtain ⟨cur1, h3, h4, h5⟩ := setCells_row ((xs.map (Value.int .i64)).drop i) (0 + (i + 1)) W.drew cur hc (by rw [hdl]; omega)
    obtain ⟨s1, s2, s3, s4⟩ := setCells_same g ((xs.map (Value.int .i64)).drop i) (0 + (i + 1)) W.drew
    obtain ⟨cur2, h6, h7, h8⟩ := setCells_row [Value.int .i64 x] (0 + i) _ cur1 h3 (by simp only [List.length_singleton]; omega)
    obtain ⟨r1, r2, r3, r4⟩ := setCells_same g [Value.int .i64 x] (0 + i) (W.drew.setCells g (0 + (i + 1)) ((xs.map (Value.int .i64)).drop i))
    subst hw
    refine ⟨_, _, rfl, fin g c cur2 _ hb h6 hmx (by rw [h7, h4, hsz]) hr ?_ (.inl (hok g rfl)), ⟨r1.trans s1, r2.trans s2, r3.trans s3, by rw [r4, s4]; exact Nat.le_refl _, fun k _ hk => (setCells_far _ _ k (fun he => hk (by rw [he]))).trans (setCells_far _ _ k (fun he => hk (by rw [he])))⟩⟩
    rw [h8, h5, Nat.zero_add, Nat.zero_add]
    exact ins_shift cur.toList _ i xs.length 0 x hcl (by omega) (by omega) htk'
  ·by_cases hie : i = xs.length
   ·have h := Any2.slices_Insert_int_end_grow Try.laysNm221 (some ⟨g, 0, none⟩) xs.length c vb 0 1 vc (xs.map (Value.int .i64)) [.int .i64 x] W (by omega) hcap (by omega) (by omega) hcl rfl (fun h => by cases h) (fun a ha j v hj => by cases ha; have := hcs j v hj; rw [Nat.zero_add] at this; rw [add_plain]; exact this) (ins_cells hv) (ins_one x)
    subst hie
    refine Calls.mono (show Calls Try.prog 82 _ W _ from h) ?_
    rintro e w' ⟨rfl, hw⟩
    refine ⟨_, _, rfl, growEnd w' rfl hw, ?_⟩
    rw [hw]
    exact ins_grown (ins_alloc W _)
   ·have hlt : i < xs.length := by omega
    have h := Any2.slices_Insert_int_grow Try.laysNm221 g 0 xs.length c i vb 0 1 vc (xs.map (Value.int .i64)) [.int .i64 x] W hlt (by omega) hcap (by omega) (by omega) hcl rfl hcs (ins_cells hv) (ins_ones xs) (ins_one x)
    refine Calls.mono (show Calls Try.prog 82 _ W _ from h) ?_
    rintro e w' ⟨rfl, hw⟩
    have h1 := grownCap_ge W (xs.length + 1) c 3
    have h2 := grownCap_le_maxLen W (xs.length + 1) c 3 (by unfold maxLen; omega)
    have hdl : ((xs.map (Value.int .i64)).drop i).length = xs.length - i := by rw [List.length_drop, hcl]
    have htl : ((xs.map (Value.int .i64)).take i).length = i := by rw [List.length_take, hcl]; omega
    obtain ⟨B0, hB0⟩ : ∃ B0, B0 = ((xs.map (Value.int .i64)).take i).toArray ++ Builtin.zeroCells (Value.int .i64 0).cells (xs.length + 1 - i) ++ Builtin.zeroCells (Value.int .i64 0).cells (grownCap W (xs.length + 1) c 3 - (xs.length + 1)) := ⟨_, rfl⟩
    have hBs : B0.size = grownCap W (xs.length + 1) c 3 := by rw [hB0, Array.size_append, Array.size_append, zero_len, zero_len, List.size_toArray, htl]; omega
    have hBt : B0.toList.take i = (xs.map (Value.int .i64)).take i := by
     rw [hB0, Array.toList_append, Array.toList_append, List.append_assoc, List.take_append_of_le_length (by simp only [htl]; exact Nat.le_refl _), List.take_of_length_le (by simp only [htl]; exact Nat.le_refl _)]
    have hw2 : w' = (((W.alloc (.cells B0 3)).drew.setCells W.heap.size i [Value.int .i64 x]).drew).setCells W.heap.size (i + 1) ((xs.map (Value.int .i64)).drop i) := by rw [hB0]; exact hw
    clear hw
    have h0 : (W.alloc (.cells B0 3)).drew.heap[W.heap.size]? = some (.cells B0 3 (0, 0)) := blk_new W _
    obtain ⟨cur1, h3, h4, h5⟩ := setCells_row [Value.int .i64 x] i (W.alloc (.cells B0 3)).drew B0 h0 (by simp only [List.length_singleton]; omega)
    obtain ⟨s1, s2, s3, s4⟩ := setCells_same W.heap.size [Value.int .i64 x] i (W.alloc (.cells B0 3)).drew
    obtain ⟨cur2, h6, h7, h8⟩ := setCells_row ((xs.map (Value.int .i64)).drop i) (i + 1) ((W.alloc (.cells B0 3)).drew.setCells W.heap.size i [Value.int .i64 x]).drew cur1 h3 (by rw [hdl]; omega)
    obtain ⟨r1, r2, r3, r4⟩ := setCells_same W.heap.size ((xs.map (Value.int .i64)).drop i) (i + 1) ((W.alloc (.cells B0 3)).drew.setCells W.heap.size i [Value.int .i64 x]).drew
    have hal := ba_ (Below.refl W.heap.size W) (.cells B0 3)
    subst hw2
    refine ⟨_, grownCap W (xs.length + 1) c 3, rfl, fin W.heap.size _ cur2 _ hbase h6 h2 (by rw [h7, h4, hBs]) h1 ?_ (.inr (Nat.le_refl _)), ins_grown ⟨r1.trans (s1.trans hal.os), r2.trans (s2.trans hal.tape), r3.trans (s3.trans hal.output), by rw [r4]; show _ ≤ (World.setCells _ _ _ _).heap.size; rw [s4]; exact hal.size, fun k hk _ => ?_⟩⟩
    ·rw [h8, h5]
     exact ins_put B0.toList _ i xs.length 0 x hcl (by omega) (by rw [Array.length_toList (xs := B0), hBs]; exact h1) hBt
    ·exact (setCells_far _ _ k (by omega)).trans ((setCells_far _ _ k (by omega)).trans (hal.block k hk))
def IsIt (W : World) (g : Nat) (a0 a1 : Int) (a2 : ByteArray) (v3 : Value) (a4 : ByteArray) (a5 : Int) (v6 : Value) : Prop := W.heap[g]? = some (.cells #[.int .i64 a0, .int .i64 a1, .string a2, v3, .string a4, .int .i64 a5, v6] 44 (0, 0))
section
variable {W W1 : World} {g : Nat} {a0 a1 : Int} {a2 : ByteArray} {v3 : Value} {a4 : ByteArray} {a5 : Int} {v6 : Value}
theorem IsIt.below (h : IsIt W g a0 a1 a2 v3 a4 a5 v6) (hb : Below W.heap.size W W1) : IsIt W1 g a0 a1 a2 v3 a4 a5 v6 := blk_below h hb
theorem IsIt.x0 (h : IsIt W g a0 a1 a2 v3 a4 a5 v6) : W.cell? ⟨g, 0, none⟩ = some (.int .i64 a0) := (bc_ h 0).trans rfl
theorem IsIt.x1 (h : IsIt W g a0 a1 a2 v3 a4 a5 v6) : W.cell? ⟨g, 1, none⟩ = some (.int .i64 a1) := (bc_ h 1).trans rfl
theorem IsIt.x2 (h : IsIt W g a0 a1 a2 v3 a4 a5 v6) : W.cell? ⟨g, 2, none⟩ = some (.string a2) := (bc_ h 2).trans rfl
theorem IsIt.x3 (h : IsIt W g a0 a1 a2 v3 a4 a5 v6) : W.cell? ⟨g, 3, none⟩ = some v3 := (bc_ h 3).trans rfl
theorem IsIt.x4 (h : IsIt W g a0 a1 a2 v3 a4 a5 v6) : W.cell? ⟨g, 4, none⟩ = some (.string a4) := (bc_ h 4).trans rfl
theorem IsIt.x5 (h : IsIt W g a0 a1 a2 v3 a4 a5 v6) : W.cell? ⟨g, 5, none⟩ = some (.int .i64 a5) := (bc_ h 5).trans rfl
theorem IsIt.x6 (h : IsIt W g a0 a1 a2 v3 a4 a5 v6) : W.cell? ⟨g, 6, none⟩ = some v6 := (bc_ h 6).trans rfl
theorem IsIt.fz (h : IsIt W g a0 a1 a2 v3 a4 a5 v6) (o : Nat) : W.frozen? ⟨g, o, none⟩ = false := blk_frozen h o
theorem IsIt.put3 (h : IsIt W g a0 a1 a2 v3 a4 a5 v6) (u : Value) : IsIt (W.setCell ⟨g, 3, none⟩ u) g a0 a1 a2 u a4 a5 v6 := blk_put h 3 u (by simp)
theorem IsIt.put5 (h : IsIt W g a0 a1 a2 v3 a4 a5 v6) (u : Int) : IsIt (W.setCell ⟨g, 5, none⟩ (.int .i64 u)) g a0 a1 a2 v3 a4 u v6 := blk_put h 5 (.int .i64 u) (by simp)
theorem IsIt.put6 (h : IsIt W g a0 a1 a2 v3 a4 a5 v6) (u : Value) : IsIt (W.setCell ⟨g, 6, none⟩ u) g a0 a1 a2 v3 a4 a5 u := blk_put h 6 u (by simp)
end
def addAt (ks : List Int) (p n : Int) : List Int := if 0 ≤ p ∧ p ≤ (ks.length : Int) then ks.take p.toNat ++ n :: ks.drop p.toNat else ks ++ [n]
def hung (l : List S44) (up p : Int) (x : S44) : List S44 := (l ++ [(⟨x.f0, x.f1, x.f2, x.f3, x.f4, up, []⟩ : S44)]).set up.toNat ⟨(rd_T44 l up).f0, (rd_T44 l up).f1, (rd_T44 l up).f2, (rd_T44 l up).f3, (rd_T44 l up).f4, (rd_T44 l up).f5, addAt (rd_T44 l up).f6 p (l.length : Int)⟩
theorem rd_snoc (l : List S44) (x : S44) (i : Int) (h0 : 0 ≤ i) (h1 : i < (l.length : Int)) : rd_T44 (l ++ [x]) i = rd_T44 l i := by
 unfold rd_T44
 rw [List.getD_eq_getElem?_getD, List.getD_eq_getElem?_getD, List.getElem?_append_left (by omega)]
theorem grown_any {W W1 : World} (h : Below W.heap.size W W1) (r : Option Nat) : World.grownBy W W1 r := ⟨h.os, h.tape, h.output, h.size, fun k hk _ => h.block k hk⟩
theorem hung_fin {W W1 : World} {base g n cap : Nat} {L : List S44} {up : Int} {oki : Nat → Prop} {x : S44} {v3 v6 u6 : Value} {K : List Int} (hH : Kd.H k44 44 W base (fun _ => True) (.slice (some ⟨g, 0, none⟩) n cap) L up oki [.int .i64 x.f0, .int .i64 x.f1, .string x.f2, v3, .string x.f4, .int .i64 x.f5, v6]) (h0 : 0 ≤ up) (h1 : up < (n : Int)) (h3 : k91.R 91 W base oki v3 x.f3) (h6 : (Kd.int .i64).R 3 W base oki v6 x.f6) (hg : W.grownBy W1 v6.ownBlock) (h6' : (Kd.int .i64).R 3 W1 base (fun k => oki k ∨ W.heap.size ≤ k) u6 K) :
  W1.cell? ⟨g, up.toNat * 7 + 6, none⟩ = some v6 ∧ W1.frozen? ⟨g, up.toNat * 7 + 6, none⟩ = false ∧ Kd.S k44 44 (W1.setCell ⟨g, up.toNat * 7 + 6, none⟩ u6) base (fun _ => True) (.slice (some ⟨g, 0, none⟩) n cap) (L.set up.toNat ⟨x.f0, x.f1, x.f2, x.f3, x.f4, x.f5, K⟩) ∧ W1.grownBy (W1.setCell ⟨g, up.toNat * 7 + 6, none⟩ u6) (some g) := by
 have hH1 := Kd.H_grown (Kd.H_widen hH) hg (fun k e => .inl (h6.1 k e))
 obtain ⟨rows, _, _, _, _, hcc, _⟩ := Kd.H_raw hH1 h0 h1
 obtain ⟨_, f, hR⟩ := hH1
 obtain ⟨cells, hc⟩ := Kd.R_typed hR g rfl
 have hH2 : Kd.H k44 44 W1 base (fun k => True ∧ ¬ False) (.slice (some ⟨g, 0, none⟩) n cap) L up (fun k => oki k ∨ True ∧ W.heap.size ≤ k) [.int .i64 x.f0, .int .i64 x.f1, .string x.f2, v3, .string x.f4, .int .i64 x.f5, v6] := Kd.H_mono (Kd.H_grown (Kd.H_widen hH) hg (fun k e => .inl (h6.1 k e))) (fun k _ => ⟨trivial, fun h => h⟩)
 have h3' := Kd.R_over' h3 (Kd.R_typed h6) (by decide) hg
 have hM := k44_mkM W1 base (fun k => oki k ∨ W.heap.size ≤ k) (⟨x.f0, x.f1, x.f2, x.f3, x.f4, x.f5, K⟩ : S44) (Kd.R_mono h3' (fun k hk => .inl hk)) h6'
 have hfin := Kd.S_seg (okg := fun _ => False) hH2 h0 h1 (seg := [u6]) (j := 6) (show 6 + 1 ≤ 7 by decide) (x' := ⟨x.f0, x.f1, x.f2, x.f3, x.f4, x.f5, K⟩) hM (fun k hk => .inl (hk.imp id (fun h => ⟨trivial, h⟩))) (fun k h => h.elim)
 exact ⟨hcc 6 _ rfl, blk_frozen hc _, hfin.1, hfin.2⟩
set_option maxHeartbeats 8000000 in
set_option maxRecDepth 100000 in
theorem hang_calls (A : Option Addr) (c : Nat) (l : List S44) (up p : Int) (b0 b1 : Int) (b2 : ByteArray) (A3 : Option Addr) (c3 : Nat) (l3 : List S91) (b4 : ByteArray) (b5 : Int) (v6 : Value) (l6 : List Int) (w0 w : World) (hB : Below w0.heap.size w0 w) (hS : Kd.S k44 44 w w0.heap.size (fun _ => True) (.slice A l.length c) l) (hr3 : Kd.C k91 w A3 l3.length l3) (hc3 : l3.length ≤ c3) (h0 : 0 ≤ up) (h1 : up < (l.length : Int)) (hl : l.length < 1000000) (hl3 : l3.length < 4398046511104) (hk : (rd_T44 l up).f6.length < 17592186044415) :
  Calls Try.prog 57 #[.slice A l.length c, .int .i64 up, .int .i64 p, .agg #[.int .i64 b0, .int .i64 b1, .string b2, .slice A3 l3.length c3, .string b4, .int .i64 b5, v6]] w fun e w' => ∃ A' c', e = .returned (.tuple #[.slice A' (l.length + 1) c', .int .i64 (l.length : Int)]) ∧ Kd.S k44 44 w' w0.heap.size (fun _ => True) (.slice A' (l.length + 1) c') (hung l up p ⟨b0, b1, b2, l3, b4, b5, l6⟩) ∧ Below w0.heap.size w0 w' := by
 have S := Aside0.mk (Kd.S_mono (ok' := fun k => k < w.heap.size) (Kd.S_bound hS) (fun k hk => hk.2.2.1))
 have R3 := Aside0.mk hr3
 have HC3 := Aside0.mk hc3
 have B := Aside0.mk hB
 have HL := Aside0.mk hl
 have HX := Aside0.mk (show impl_copyAttrs.f l3 = some l3 by unfold impl_copyAttrs.f impl_Attr.f; rw [if_pos hl3]; rfl)
 obtain ⟨X, hX⟩ : ∃ X, rd_T44 l up = X := ⟨_, rfl⟩
 rw [hX] at hk
 have HK := Aside0.mk hk
 obtain ⟨L, hLL⟩ : ∃ L, l ++ [(⟨b0, b1, b2, l3, b4, up, []⟩ : S44)] = L := ⟨_, rfl⟩
 obtain ⟨n, hN⟩ : ∃ n, L.length = n := ⟨_, rfl⟩
 have hn0 : n = l.length + 1 := by rw [← hN, ← hLL, List.length_append]; rfl
 have hn1 : up < (n : Int) := by omega
 have HGD := Aside0.mk (show L.getD up.toNat z44 = X by rw [← hLL, ← hX]; exact rd_snoc l _ up h0 h1)
 have HFIN : ∀ ks, addAt X.f6 p (l.length : Int) = ks → hung l up p ⟨b0, b1, b2, l3, b4, b5, l6⟩ = L.set up.toNat ⟨X.f0, X.f1, X.f2, X.f3, X.f4, X.f5, ks⟩ := fun ks h => by unfold hung; rw [hX, h, ← hLL]
 have HLL := Aside0.mk hLL
 have HN := Aside0.mk hN
 have HN0 := Aside0.mk hn0
 have HFI := Aside0.mk HFIN
 have p0 : ((0 : Int) ≤ up) = True := eq_true h0
 have q0 : (up < (n : Int)) = True := eq_true hn1
 clear hS hr3 hc3 hB hl hl3 hX hk hLL hN HFIN hn0 h1
 have hu1 := Try.underlying44
 rcases Classical.em (0 ≤ p ∧ p ≤ (X.f6.length : Int)) with cp | cp
 ·obtain ⟨i, rfl⟩ : ∃ i : Nat, p = (i : Int) := ⟨p.toNat, by omega⟩
  have HI := Aside0.mk (show i ≤ X.f6.length by omega)
  have HIR := Aside0.mk (show impl_inRange.f (i : Int) 0 (X.f6.length : Int) = some true by unfold impl_inRange.f; rw [if_pos cp.1, decide_eq_true cp.2])
  have HAD := Aside0.mk (show addAt X.f6 (i : Int) (l.length : Int) = X.f6.take i ++ (l.length : Int) :: X.f6.drop i by unfold addAt; rw [if_pos cp, Int.toNat_natCast])
  clear cp
  go_enter Try.func57, Try.ntmps57
  go_wp2_with (first | ((with_reducible refine gate_dst (N := 7) rfl ?_); refine box_event ?hg (N := 7) ?hd (cs := #[.int .i64 b0, .int .i64 b1, .string b2, .slice A3 l3.length c3, .string b4, .int .i64 b5, v6]) (t := 44) ?hr ?_; (case hd => rfl); (case hg => rfl); (case hr => first | (go_simp; done) | (go_simp; rfl)); intro gp hg_ w1 hbox hb; have hge := Aside0.mk (show w.heap.size ≤ gp by rw [hg_]; exact Nat.le_refl _); have hgb := Aside0.mk (show w0.heap.size ≤ gp by rw [hg_]; exact B.out.size); have I := Aside0.mk (show IsIt w1 gp b0 b1 b2 (.slice A3 l3.length c3) b4 b5 v6 from hbox); clear hbox hg_; have n0_ := Aside0.mk (Kd.S_below S.out hb); have n1_ := Aside0.mk (Kd.C_below R3.out hb); have n2_ := Aside0.mk (below_then B.out B.out.size hb); clear S R3 B; have S := n0_; have R3 := n1_; have B := n2_; clear n0_ n1_ n2_ hb; have z3 := IsIt.x3 I.out) | (go_at_call 79; refine (impl_copyAttrs.calls A3 c3 l3 l3 _ R3.out HC3.out HX.out).mono ?_; rintro e w2 ⟨va, rfl, hr_, hb⟩; obtain ⟨Aa, ca, rfl⟩ := Kd.R_slice hr_; have VA_ := Aside0.mk (Kd.R_mono (ok' := fun k => gp < k) (Kd.R_lower (Kd.R_bound hr_) B.out.size) (fun k hk => Nat.lt_of_lt_of_le (blk_lt I.out) hk.2.1)); clear hr_; clear z3; clear R3; have n0_ := Aside0.mk (Kd.S_below S.out hb); have n1_ := Aside0.mk (below_then B.out B.out.size hb); have n2_ := Aside0.mk (IsIt.below I.out hb); clear S B I; have S := n0_; have B := n1_; have I := n2_; clear n0_ n1_ n2_ hb; have V := VA_; clear VA_; have z5 := IsIt.x5 I.out; have z6 := IsIt.x6 I.out; have z3 := IsIt.x3 I.out; have f5 := IsIt.fz I.out 5; have f6 := IsIt.fz I.out 6; have f3 := IsIt.fz I.out 3) | ((with_reducible refine gate_store (t := 3) (p := 18) rfl ?_); refine store_event (t := 3) (p := 18) (v := ?vo18_) (w1 := ?w118_) ?hg ?ho ?hn ?hr ?_; (case ho => rfl); (case hg => rfl); (case hn => rfl); (case hr => go_simp; rfl); intro w3 hw_; clear z5 z6 z3 f5 f6 f3; have n0_ := Aside0.mk (show Kd.S k44 44 w3 w0.heap.size (fun k => k < w.heap.size) (.slice A l.length c) l by rw [hw_]; exact Kd.S_far (p := ⟨gp, 5, none⟩) S.out (fun k hk => Nat.ne_of_lt (Nat.lt_of_lt_of_le hk hge.out)) (.int .i64 up)); have n1_ := Aside0.mk (show Below w0.heap.size w0 w3 by rw [hw_]; exact Below.setCell (p := ⟨gp, 5, none⟩) B.out hgb.out (.int .i64 up)); have n2_ := Aside0.mk (show IsIt w3 gp b0 b1 b2 (.slice A3 l3.length c3) b4 up v6 by rw [hw_]; exact IsIt.put5 I.out up); have n3_ := Aside0.mk (show Kd.R k91 91 w3 w0.heap.size (fun k => gp < k) (.slice Aa l3.length ca) l3 by rw [hw_]; exact Kd.R_far (p := ⟨gp, 5, none⟩) V.out (fun k hk => Nat.ne_of_gt hk) (.int .i64 up)); clear S B I V hw_; have S := n0_; have B := n1_; have I := n2_; have V := n3_; clear n0_ n1_ n2_ n3_; have z5 := IsIt.x5 I.out; have z6 := IsIt.x6 I.out; have z3 := IsIt.x3 I.out; have f5 := IsIt.fz I.out 5; have f6 := IsIt.fz I.out 6; have f3 := IsIt.fz I.out 3) | ((with_reducible refine gate_store (t := 23) (p := 19) rfl ?_); refine store_event (t := 23) (p := 19) (v := ?vo19_) (w1 := ?w119_) ?hg ?ho ?hn ?hr ?_; (case ho => rfl); (case hg => rfl); (case hn => rfl); (case hr => go_simp; rfl); intro w4 hw_; clear z5 z6 z3 f5 f6 f3; have n0_ := Aside0.mk (show Kd.S k44 44 w4 w0.heap.size (fun k => k < w.heap.size) (.slice A l.length c) l by rw [hw_]; exact Kd.S_far (p := ⟨gp, 6, none⟩) S.out (fun k hk => Nat.ne_of_lt (Nat.lt_of_lt_of_le hk hge.out)) (.slice none 0 0)); have n1_ := Aside0.mk (show Below w0.heap.size w0 w4 by rw [hw_]; exact Below.setCell (p := ⟨gp, 6, none⟩) B.out hgb.out (.slice none 0 0)); have n2_ := Aside0.mk (show IsIt w4 gp b0 b1 b2 (.slice A3 l3.length c3) b4 up (.slice none 0 0) by rw [hw_]; exact IsIt.put6 I.out (.slice none 0 0)); have n3_ := Aside0.mk (show Kd.R k91 91 w4 w0.heap.size (fun k => gp < k) (.slice Aa l3.length ca) l3 by rw [hw_]; exact Kd.R_far (p := ⟨gp, 6, none⟩) V.out (fun k hk => Nat.ne_of_gt hk) (.slice none 0 0)); clear S B I V hw_; have S := n0_; have B := n1_; have I := n2_; have V := n3_; clear n0_ n1_ n2_ n3_; have z5 := IsIt.x5 I.out; have z6 := IsIt.x6 I.out; have z3 := IsIt.x3 I.out; have f5 := IsIt.fz I.out 5; have f6 := IsIt.fz I.out 6; have f3 := IsIt.fz I.out 3) | ((with_reducible refine gate_store (t := 42) (p := 20) rfl ?_); refine store_event (t := 42) (p := 20) (v := ?vo20_) (w1 := ?w120_) ?hg ?ho ?hn ?hr ?_; (case ho => rfl); (case hg => rfl); (case hn => rfl); (case hr => go_simp; rfl); intro w5 hw_; clear z5 z6 z3 f5 f6 f3; have n0_ := Aside0.mk (show Kd.S k44 44 w5 w0.heap.size (fun k => k < w.heap.size) (.slice A l.length c) l by rw [hw_]; exact Kd.S_far (p := ⟨gp, 3, none⟩) S.out (fun k hk => Nat.ne_of_lt (Nat.lt_of_lt_of_le hk hge.out)) (.slice Aa l3.length ca)); have n1_ := Aside0.mk (show Below w0.heap.size w0 w5 by rw [hw_]; exact Below.setCell (p := ⟨gp, 3, none⟩) B.out hgb.out (.slice Aa l3.length ca)); have n2_ := Aside0.mk (show IsIt w5 gp b0 b1 b2 (.slice Aa l3.length ca) b4 up (.slice none 0 0) by rw [hw_]; exact IsIt.put3 I.out (.slice Aa l3.length ca)); have n3_ := Aside0.mk (show Kd.R k91 91 w5 w0.heap.size (fun k => gp < k) (.slice Aa l3.length ca) l3 by rw [hw_]; exact Kd.R_far (p := ⟨gp, 3, none⟩) V.out (fun k hk => Nat.ne_of_gt hk) (.slice Aa l3.length ca)); clear S B I V hw_; have S := n0_; have B := n1_; have I := n2_; have V := n3_; clear n0_ n1_ n2_ n3_; have z0 := IsIt.x0 I.out; have z1 := IsIt.x1 I.out; have z2 := IsIt.x2 I.out; have z3 := IsIt.x3 I.out; have z4 := IsIt.x4 I.out; have z5 := IsIt.x5 I.out; have z6 := IsIt.x6 I.out) | ((with_reducible refine gate_builtin (b := .append) (xs := #[.tmp 21, .tmp 23]) rfl ?_); at_builtin; refine Kd.S_append k44 (w0 := w0) w0.heap.size rfl (.tmp 21) (.tmp 23) 28 44 (.agg #[(.int .i64 0), (.int .i64 0), (.string ⟨#[]⟩), (.slice none 0 0), (.string ⟨#[]⟩), (.int .i64 0), (.slice none 0 0)]) 104 rfl Try.underlying28 info44 rfl (by decide) (by omega) (.slice A l.length c) l (⟨b0, b1, b2, l3, b4, up, []⟩ : S44) [.int .i64 b0, .int .i64 b1, .string b2, .slice Aa l3.length ca, .string b4, .int .i64 up, .slice none 0 0] (fun _ => True) (fun k => gp < k) rfl rfl (k44_mkM _ _ _ (⟨b0, b1, b2, l3, b4, up, []⟩ : S44) V.out (Kd.R_nil _ _ _ _ _)) (fun k hk => ⟨trivial, fun e => absurd (Nat.lt_of_lt_of_le ((Kd.S_R S.out).1 k e.symm) hge.out) (Nat.lt_asymm hk)⟩) (fun _ _ => trivial) (Kd.S_mono S.out (fun k hk => ⟨trivial, Nat.not_lt.2 (Nat.le_of_lt (Nat.lt_of_lt_of_le hk hge.out))⟩)) B.out B.out.size (by have := HL.out; omega) ?_; intro v1 w6 hs hb _ _; clear z0 z1 z2 z3 z4 z5 z6; clear S V I B; have B := Aside0.mk hb; obtain ⟨g, cap, rfl, hgb2, hglt, _⟩ := Kd.S_form hs (by rw [List.length_append]; exact Nat.succ_pos _); rw [HLL.out, HN.out] at hs; rw [HLL.out, HN.out]; obtain ⟨oki, cc, hcl, hM, hcc, hoki, hH⟩ := Kd.S_lend hs z44 up h0 hn1; rw [HGD.out] at hM; obtain ⟨v3, v6_, rfl, h3, h6⟩ := k44_openM hM; obtain ⟨A6, c6, rfl⟩ := Kd.R_slice h6; have hx6 : w6.cell? ⟨g, up.toNat * 7 + 6, none⟩ = some (.slice A6 X.f6.length c6) := hcc 6 _ rfl; have HH := Aside0.mk hH; have H3 := Aside0.mk h3; have H6 := Aside0.mk h6; have GB := Aside0.mk hgb2; clear hs hb hgb2 hglt hcl hM hcc hoki hH h3 h6) | (go_at_call 55; refine (impl_inRange.calls (i : Int) 0 (X.f6.length : Int) _ _ HIR.out).mono ?_; rintro e w7 ⟨rfl, ⟨nd, rfl⟩⟩; try clear hx6) | (go_at_call 82; refine (int_insert A6 X.f6.length c6 X.f6 i (l.length : Int) w6.heap.size 1 w0.heap.size oki _ (Kd.R_alloc (Kd.R_drewN H6.out nd) _) HI.out HK.out (blk_new (w6.drewN nd) _) (fun e => Nat.lt_irrefl _ (Kd.R_lt H6.out _ e)) (ba_ (bn_ B.out nd) _).size).mono ?_; rintro e w8 ⟨A9, c9, rfl, hr9, hg9⟩; obtain ⟨hx9, hf9, hS9, hg10⟩ := hung_fin (Kd.H_alloc (Kd.H_drewN HH.out nd) _) h0 hn1 (Kd.R_alloc (Kd.R_drewN H3.out nd) _) (Kd.R_alloc (Kd.R_drewN H6.out nd) _) hg9 hr9; have HS9 := Aside0.mk hS9; have B9 := Aside0.mk (Below.grown (ba_ (bn_ B.out nd) _) hg9 (ba_ (bn_ B.out nd) _).size (fun k hk => Kd.R_base H6.out k hk)); clear hr9 hg9 hS9 hg10) | ((with_reducible refine gate_store (t := 23) (p := 45) rfl ?_); refine store_event (t := 23) (p := 45) (v := ?vo45_) (w1 := ?w145_) ?hg ?ho ?hn ?hr ?_; (case ho => rfl); (case hg => rfl); (case hn => rfl); (case hr => go_simp; rfl); intro w9 hw_; have HS10 := Aside0.mk (show Kd.S k44 44 w9 w0.heap.size (fun _ => True) (.slice (some ⟨g, 0, none⟩) n cap) (L.set up.toNat ⟨X.f0, X.f1, X.f2, X.f3, X.f4, X.f5, X.f6.take i ++ (l.length : Int) :: X.f6.drop i⟩) by rw [hw_]; exact HS9.out); have B10 := Aside0.mk (show Below w0.heap.size w0 w9 by rw [hw_]; exact Below.setCell (p := ⟨g, up.toNat * 7 + 6, none⟩) B9.out GB.out _); clear hx9 hf9 hw_))
  go_ret2
  rw [← HN0.out, HFI.out _ HAD.out]
  exact ⟨_, _, rfl, HS10.out, B10.out⟩
 ·have HIR := Aside0.mk (show impl_inRange.f p 0 (X.f6.length : Int) = some false by
   unfold impl_inRange.f
   by_cases ch : p ≥ 0
   ·rw [if_pos ch, decide_eq_false (fun h => cp ⟨ch, h⟩)]
   ·rw [if_neg ch])
  have HAD := Aside0.mk (show addAt X.f6 p (l.length : Int) = X.f6.take X.f6.length ++ (l.length : Int) :: X.f6.drop X.f6.length by unfold addAt; rw [if_neg cp, List.take_length, List.drop_length])
  clear cp
  go_enter Try.func57, Try.ntmps57
  go_wp2_with (first | ((with_reducible refine gate_dst (N := 7) rfl ?_); refine box_event ?hg (N := 7) ?hd (cs := #[.int .i64 b0, .int .i64 b1, .string b2, .slice A3 l3.length c3, .string b4, .int .i64 b5, v6]) (t := 44) ?hr ?_; (case hd => rfl); (case hg => rfl); (case hr => first | (go_simp; done) | (go_simp; rfl)); intro gp hg_ w1 hbox hb; have hge := Aside0.mk (show w.heap.size ≤ gp by rw [hg_]; exact Nat.le_refl _); have hgb := Aside0.mk (show w0.heap.size ≤ gp by rw [hg_]; exact B.out.size); have I := Aside0.mk (show IsIt w1 gp b0 b1 b2 (.slice A3 l3.length c3) b4 b5 v6 from hbox); clear hbox hg_; have n0_ := Aside0.mk (Kd.S_below S.out hb); have n1_ := Aside0.mk (Kd.C_below R3.out hb); have n2_ := Aside0.mk (below_then B.out B.out.size hb); clear S R3 B; have S := n0_; have R3 := n1_; have B := n2_; clear n0_ n1_ n2_ hb; have z3 := IsIt.x3 I.out) | (go_at_call 79; refine (impl_copyAttrs.calls A3 c3 l3 l3 _ R3.out HC3.out HX.out).mono ?_; rintro e w2 ⟨va, rfl, hr_, hb⟩; obtain ⟨Aa, ca, rfl⟩ := Kd.R_slice hr_; have VA_ := Aside0.mk (Kd.R_mono (ok' := fun k => gp < k) (Kd.R_lower (Kd.R_bound hr_) B.out.size) (fun k hk => Nat.lt_of_lt_of_le (blk_lt I.out) hk.2.1)); clear hr_; clear z3; clear R3; have n0_ := Aside0.mk (Kd.S_below S.out hb); have n1_ := Aside0.mk (below_then B.out B.out.size hb); have n2_ := Aside0.mk (IsIt.below I.out hb); clear S B I; have S := n0_; have B := n1_; have I := n2_; clear n0_ n1_ n2_ hb; have V := VA_; clear VA_; have z5 := IsIt.x5 I.out; have z6 := IsIt.x6 I.out; have z3 := IsIt.x3 I.out; have f5 := IsIt.fz I.out 5; have f6 := IsIt.fz I.out 6; have f3 := IsIt.fz I.out 3) | ((with_reducible refine gate_store (t := 3) (p := 18) rfl ?_); refine store_event (t := 3) (p := 18) (v := ?vo18b_) (w1 := ?w118b_) ?hg ?ho ?hn ?hr ?_; (case ho => rfl); (case hg => rfl); (case hn => rfl); (case hr => go_simp; rfl); intro w3 hw_; clear z5 z6 z3 f5 f6 f3; have n0_ := Aside0.mk (show Kd.S k44 44 w3 w0.heap.size (fun k => k < w.heap.size) (.slice A l.length c) l by rw [hw_]; exact Kd.S_far (p := ⟨gp, 5, none⟩) S.out (fun k hk => Nat.ne_of_lt (Nat.lt_of_lt_of_le hk hge.out)) (.int .i64 up)); have n1_ := Aside0.mk (show Below w0.heap.size w0 w3 by rw [hw_]; exact Below.setCell (p := ⟨gp, 5, none⟩) B.out hgb.out (.int .i64 up)); have n2_ := Aside0.mk (show IsIt w3 gp b0 b1 b2 (.slice A3 l3.length c3) b4 up v6 by rw [hw_]; exact IsIt.put5 I.out up); have n3_ := Aside0.mk (show Kd.R k91 91 w3 w0.heap.size (fun k => gp < k) (.slice Aa l3.length ca) l3 by rw [hw_]; exact Kd.R_far (p := ⟨gp, 5, none⟩) V.out (fun k hk => Nat.ne_of_gt hk) (.int .i64 up)); clear S B I V hw_; have S := n0_; have B := n1_; have I := n2_; have V := n3_; clear n0_ n1_ n2_ n3_; have z5 := IsIt.x5 I.out; have z6 := IsIt.x6 I.out; have z3 := IsIt.x3 I.out; have f5 := IsIt.fz I.out 5; have f6 := IsIt.fz I.out 6; have f3 := IsIt.fz I.out 3) | ((with_reducible refine gate_store (t := 23) (p := 19) rfl ?_); refine store_event (t := 23) (p := 19) (v := ?vo19b_) (w1 := ?w119b_) ?hg ?ho ?hn ?hr ?_; (case ho => rfl); (case hg => rfl); (case hn => rfl); (case hr => go_simp; rfl); intro w4 hw_; clear z5 z6 z3 f5 f6 f3; have n0_ := Aside0.mk (show Kd.S k44 44 w4 w0.heap.size (fun k => k < w.heap.size) (.slice A l.length c) l by rw [hw_]; exact Kd.S_far (p := ⟨gp, 6, none⟩) S.out (fun k hk => Nat.ne_of_lt (Nat.lt_of_lt_of_le hk hge.out)) (.slice none 0 0)); have n1_ := Aside0.mk (show Below w0.heap.size w0 w4 by rw [hw_]; exact Below.setCell (p := ⟨gp, 6, none⟩) B.out hgb.out (.slice none 0 0)); have n2_ := Aside0.mk (show IsIt w4 gp b0 b1 b2 (.slice A3 l3.length c3) b4 up (.slice none 0 0) by rw [hw_]; exact IsIt.put6 I.out (.slice none 0 0)); have n3_ := Aside0.mk (show Kd.R k91 91 w4 w0.heap.size (fun k => gp < k) (.slice Aa l3.length ca) l3 by rw [hw_]; exact Kd.R_far (p := ⟨gp, 6, none⟩) V.out (fun k hk => Nat.ne_of_gt hk) (.slice none 0 0)); clear S B I V hw_; have S := n0_; have B := n1_; have I := n2_; have V := n3_; clear n0_ n1_ n2_ n3_; have z5 := IsIt.x5 I.out; have z6 := IsIt.x6 I.out; have z3 := IsIt.x3 I.out; have f5 := IsIt.fz I.out 5; have f6 := IsIt.fz I.out 6; have f3 := IsIt.fz I.out 3) | ((with_reducible refine gate_store (t := 42) (p := 20) rfl ?_); refine store_event (t := 42) (p := 20) (v := ?vo20b_) (w1 := ?w120b_) ?hg ?ho ?hn ?hr ?_; (case ho => rfl); (case hg => rfl); (case hn => rfl); (case hr => go_simp; rfl); intro w5 hw_; clear z5 z6 z3 f5 f6 f3; have n0_ := Aside0.mk (show Kd.S k44 44 w5 w0.heap.size (fun k => k < w.heap.size) (.slice A l.length c) l by rw [hw_]; exact Kd.S_far (p := ⟨gp, 3, none⟩) S.out (fun k hk => Nat.ne_of_lt (Nat.lt_of_lt_of_le hk hge.out)) (.slice Aa l3.length ca)); have n1_ := Aside0.mk (show Below w0.heap.size w0 w5 by rw [hw_]; exact Below.setCell (p := ⟨gp, 3, none⟩) B.out hgb.out (.slice Aa l3.length ca)); have n2_ := Aside0.mk (show IsIt w5 gp b0 b1 b2 (.slice Aa l3.length ca) b4 up (.slice none 0 0) by rw [hw_]; exact IsIt.put3 I.out (.slice Aa l3.length ca)); have n3_ := Aside0.mk (show Kd.R k91 91 w5 w0.heap.size (fun k => gp < k) (.slice Aa l3.length ca) l3 by rw [hw_]; exact Kd.R_far (p := ⟨gp, 3, none⟩) V.out (fun k hk => Nat.ne_of_gt hk) (.slice Aa l3.length ca)); clear S B I V hw_; have S := n0_; have B := n1_; have I := n2_; have V := n3_; clear n0_ n1_ n2_ n3_; have z0 := IsIt.x0 I.out; have z1 := IsIt.x1 I.out; have z2 := IsIt.x2 I.out; have z3 := IsIt.x3 I.out; have z4 := IsIt.x4 I.out; have z5 := IsIt.x5 I.out; have z6 := IsIt.x6 I.out) | ((with_reducible refine gate_builtin (b := .append) (xs := #[.tmp 21, .tmp 23]) rfl ?_); at_builtin; refine Kd.S_append k44 (w0 := w0) w0.heap.size rfl (.tmp 21) (.tmp 23) 28 44 (.agg #[(.int .i64 0), (.int .i64 0), (.string ⟨#[]⟩), (.slice none 0 0), (.string ⟨#[]⟩), (.int .i64 0), (.slice none 0 0)]) 104 rfl Try.underlying28 info44 rfl (by decide) (by omega) (.slice A l.length c) l (⟨b0, b1, b2, l3, b4, up, []⟩ : S44) [.int .i64 b0, .int .i64 b1, .string b2, .slice Aa l3.length ca, .string b4, .int .i64 up, .slice none 0 0] (fun _ => True) (fun k => gp < k) rfl rfl (k44_mkM _ _ _ (⟨b0, b1, b2, l3, b4, up, []⟩ : S44) V.out (Kd.R_nil _ _ _ _ _)) (fun k hk => ⟨trivial, fun e => absurd (Nat.lt_of_lt_of_le ((Kd.S_R S.out).1 k e.symm) hge.out) (Nat.lt_asymm hk)⟩) (fun _ _ => trivial) (Kd.S_mono S.out (fun k hk => ⟨trivial, Nat.not_lt.2 (Nat.le_of_lt (Nat.lt_of_lt_of_le hk hge.out))⟩)) B.out B.out.size (by have := HL.out; omega) ?_; intro v1 w6 hs hb _ _; clear z0 z1 z2 z3 z4 z5 z6; clear S V I B; have B := Aside0.mk hb; obtain ⟨g, cap, rfl, hgb2, hglt, _⟩ := Kd.S_form hs (by rw [List.length_append]; exact Nat.succ_pos _); rw [HLL.out, HN.out] at hs; rw [HLL.out, HN.out]; obtain ⟨oki, cc, hcl, hM, hcc, hoki, hH⟩ := Kd.S_lend hs z44 up h0 hn1; rw [HGD.out] at hM; obtain ⟨v3, v6_, rfl, h3, h6⟩ := k44_openM hM; obtain ⟨A6, c6, rfl⟩ := Kd.R_slice h6; have hx6 : w6.cell? ⟨g, up.toNat * 7 + 6, none⟩ = some (.slice A6 X.f6.length c6) := hcc 6 _ rfl; have HH := Aside0.mk hH; have H3 := Aside0.mk h3; have H6 := Aside0.mk h6; have GB := Aside0.mk hgb2; clear hs hb hgb2 hglt hcl hM hcc hoki hH h3 h6) | (go_at_call 55; refine (impl_inRange.calls p 0 (X.f6.length : Int) _ _ HIR.out).mono ?_; rintro e w7 ⟨rfl, ⟨nd, rfl⟩⟩; try clear hx6) | (go_at_call 82; refine (int_insert A6 X.f6.length c6 X.f6 X.f6.length (l.length : Int) w6.heap.size 1 w0.heap.size oki _ (Kd.R_alloc (Kd.R_drewN H6.out nd) _) (Nat.le_refl _) HK.out (blk_new (w6.drewN nd) _) (fun e => Nat.lt_irrefl _ (Kd.R_lt H6.out _ e)) (ba_ (bn_ B.out nd) _).size).mono ?_; rintro e w8 ⟨A9, c9, rfl, hr9, hg9⟩; obtain ⟨hx9, hf9, hS9, hg10⟩ := hung_fin (Kd.H_alloc (Kd.H_drewN HH.out nd) _) h0 hn1 (Kd.R_alloc (Kd.R_drewN H3.out nd) _) (Kd.R_alloc (Kd.R_drewN H6.out nd) _) hg9 hr9; have HS9 := Aside0.mk hS9; have B9 := Aside0.mk (Below.grown (ba_ (bn_ B.out nd) _) hg9 (ba_ (bn_ B.out nd) _).size (fun k hk => Kd.R_base H6.out k hk)); clear hr9 hg9 hS9 hg10) | ((with_reducible refine gate_store (t := 23) (p := 45) rfl ?_); refine store_event (t := 23) (p := 45) (v := ?vo45b_) (w1 := ?w145b_) ?hg ?ho ?hn ?hr ?_; (case ho => rfl); (case hg => rfl); (case hn => rfl); (case hr => go_simp; rfl); intro w9 hw_; have HS10 := Aside0.mk (show Kd.S k44 44 w9 w0.heap.size (fun _ => True) (.slice (some ⟨g, 0, none⟩) n cap) (L.set up.toNat ⟨X.f0, X.f1, X.f2, X.f3, X.f4, X.f5, X.f6.take X.f6.length ++ (l.length : Int) :: X.f6.drop X.f6.length⟩) by rw [hw_]; exact HS9.out); have B10 := Aside0.mk (show Below w0.heap.size w0 w9 by rw [hw_]; exact Below.setCell (p := ⟨g, up.toNat * 7 + 6, none⟩) B9.out GB.out _); clear hx9 hf9 hw_))
  go_ret2
  rw [← HN0.out, HFI.out _ HAD.out]
  exact ⟨_, _, rfl, HS10.out, B10.out⟩
theorem inRange_len (i : Int) (n : Nat) (h : n ≤ 4611686018427387903) : impl_inRange.f i 0 (wrap64 ((n : Int) - 1)) = some (decide (0 ≤ i ∧ i < (n : Int))) := by
 rw [show wrap64 ((n : Int) - 1) = (n : Int) - 1 by unfold wrap64; omega]
 unfold impl_inRange.f
 by_cases a : i ≥ 0
 ·rw [if_pos a]
  congr 1
  exact decide_eq_decide.2 ⟨fun x => ⟨a, by omega⟩, fun x => by omega⟩
 ·rw [if_neg a, decide_eq_false (fun h => a h.1)]
def impl_Add.f (k : Nat) (l : List S44) (up p : Int) (b0 b1 : Int) (b2 : ByteArray) (l3 : List S91) (b4 : ByteArray) (b5 : Int) (l6 : List Int) : Option (List S44 × Int) := if l.length < 1353245080339 ∧ ∀ x ∈ l, x.f3.length < 4398046511104 ∧ x.f6.length < 17592186044416 then (impl_itemOk.f k b0 b1 b2 l3 b4 b5 []).bind fun b => if b = true then (if l.length < 3000 then (if 0 ≤ up ∧ up < (l.length : Int) then (impl_hasKids.f (rd_T44 l up).f0).bind fun hk => (if hk = true then (impl_TreeOk.f k l).bind fun t => (if t = true then (if l3.length < 4398046511104 ∧ (rd_T44 l up).f6.length < 17592186044415 then some (hung l up p ⟨b0, b1, b2, l3, b4, b5, l6⟩, (l.length : Int)) else none) else some (l, -1)) else some (l, -1)) else some (l, -1)) else some (l, -1)) else some (l, -1) else none
theorem drawn_below {w w' : World} (h : Drawn0 w w') : Below w.heap.size w w' := by
 obtain ⟨n, rfl⟩ := h
 exact bn_ (Below.refl _ _) n
set_option maxHeartbeats 8000000 in
set_option maxRecDepth 100000 in
theorem impl_Add.calls (k : Nat) (A : Option Addr) (c : Nat) (l : List S44) (up p : Int) (b0 b1 : Int) (b2 : ByteArray) (A3 : Option Addr) (c3 : Nat) (l3 : List S91) (b4 : ByteArray) (b5 : Int) (A6 : Option Addr) (c6 : Nat) (l6 : List Int) (r1 : List S44) (r2 : Int) (w : World) (hr0 : Kd.C k44 w A l.length l) (hc0 : l.length ≤ c) (hr3 : Kd.C k91 w A3 l3.length l3) (hc3 : l3.length ≤ c3) (h : impl_Add.f k l up p b0 b1 b2 l3 b4 b5 l6 = some (r1, r2)) :
  Calls Try.prog 20 #[.slice A l.length c, .int .i64 up, .int .i64 p, .agg #[.int .i64 b0, .int .i64 b1, .string b2, .slice A3 l3.length c3, .string b4, .int .i64 b5, .slice A6 l6.length c6]] w fun e w' => ∃ v : Value, e = .returned (.tuple #[v, .int .i64 r2]) ∧ Kd.S k44 44 w' w.heap.size (fun _ => True) v r1 ∧ Below w.heap.size w w' := by
 unfold impl_Add.f at h
 have hu1 := Try.underlying44
 have B := Aside0.mk (Below.refl w.heap.size w)
 by_cases ci : l.length < 1353245080339 ∧ ∀ x ∈ l, x.f3.length < 4398046511104 ∧ x.f6.length < 17592186044416
 rotate_left
 ·rw [if_neg ci] at h; exact absurd h (by simp)
 rw [if_pos ci] at h
 have HCI := Aside0.mk (show impl_copyItems.f l = some l by unfold impl_copyItems.f; rw [if_pos ci])
 have R0 := Aside0.mk hr0
 have HR0 := Aside0.mk hr0
 have HC0 := Aside0.mk hc0
 have R3 := Aside0.mk hr3
 have HR3 := Aside0.mk hr3
 have HC3 := Aside0.mk hc3
 clear ci hr3 hc3 hc0
 obtain ⟨b, hio, h⟩ := Option.bind_eq_some_iff.mp h
 have HIO := Aside0.mk hio
 clear hio
 cases b with
 | false =>
  rw [if_neg (by decide)] at h
  obtain ⟨rfl, rfl⟩ := Prod.mk.inj (Option.some.inj h)
  clear h hr0
  go_enter Try.func20, Try.ntmps20
  go_wp2_with (first | ((with_reducible refine gate_dst (N := 7) rfl ?_); refine box_event ?hg (N := 7) ?hd (cs := #[.int .i64 b0, .int .i64 b1, .string b2, .slice A3 l3.length c3, .string b4, .int .i64 b5, .slice A6 l6.length c6]) (t := 44) ?hr ?_; (case hd => rfl); (case hg => rfl); (case hr => first | (go_simp; done) | (go_simp; rfl)); intro gp hg_ w1 hbox hb; have hgb := Aside0.mk (show w.heap.size ≤ gp by rw [hg_]; exact B.out.size); have I := Aside0.mk (show IsIt w1 gp b0 b1 b2 (.slice A3 l3.length c3) b4 b5 (.slice A6 l6.length c6) from hbox); clear hbox hg_; have n0_ := Aside0.mk (Kd.C_below R0.out hb); have n1_ := Aside0.mk (Kd.C_below R3.out hb); have n2_ := Aside0.mk (below_then B.out B.out.size hb); clear R0 R3 B; have R0 := n0_; have R3 := n1_; have B := n2_; clear n0_ n1_ n2_ hb) | (go_at_call 53; refine (impl_copyItems.calls A c l l _ R0.out HC0.out HCI.out).mono ?_; rintro e w2 ⟨vs, rfl, hs_, hb⟩; obtain ⟨As, cs_, rfl⟩ := Kd.S_slice hs_; have S_ := Aside0.mk (Kd.S_mono (ok' := fun k => gp < k) (Kd.S_lower (Kd.S_bound hs_) B.out.size) (fun k hk => Nat.lt_of_lt_of_le (blk_lt I.out) hk.2.1)); clear hs_; have n0_ := Aside0.mk (Kd.C_below R0.out hb); have n1_ := Aside0.mk (Kd.C_below R3.out hb); have n2_ := Aside0.mk (below_then B.out B.out.size hb); have n3_ := Aside0.mk (IsIt.below I.out hb); clear R0 R3 B I; have R0 := n0_; have R3 := n1_; have B := n2_; have I := n3_; clear n0_ n1_ n2_ n3_ hb; have S := S_; clear S_; have z6 := IsIt.x6 I.out; have f6 := IsIt.fz I.out 6) | ((with_reducible refine gate_store (t := 23) (p := 13) rfl ?_); refine store_event (t := 23) (p := 13) (v := ?vo13_1) (w1 := ?w113_1) ?hg ?ho ?hn ?hr ?_; (case ho => rfl); (case hg => rfl); (case hn => rfl); (case hr => go_simp; rfl); intro w3 hw_; clear z6 f6; have nS_ := Aside0.mk (show Kd.S k44 44 w3 w.heap.size (fun k => gp < k) (.slice As l.length cs_) l by rw [hw_]; exact Kd.S_far (p := ⟨gp, 6, none⟩) S.out (fun k hk => Nat.ne_of_gt hk) (.slice none 0 0)); have nB_ := Aside0.mk (show Below w.heap.size w w3 by rw [hw_]; exact Below.setCell (p := ⟨gp, 6, none⟩) B.out hgb.out (.slice none 0 0)); have nI_ := Aside0.mk (show IsIt w3 gp b0 b1 b2 (.slice A3 l3.length c3) b4 b5 (.slice none 0 0) by rw [hw_]; exact IsIt.put6 I.out (.slice none 0 0)); clear S B I R0 R3 hw_; have S := nS_; have B := nB_; have I := nI_; clear nS_ nB_ nI_; have R0 := Aside0.mk (Kd.C_below HR0.out B.out); have R3 := Aside0.mk (Kd.C_below HR3.out B.out); have z0 := IsIt.x0 I.out; have z1 := IsIt.x1 I.out; have z2 := IsIt.x2 I.out; have z3 := IsIt.x3 I.out; have z4 := IsIt.x4 I.out; have z5 := IsIt.x5 I.out; have z6 := IsIt.x6 I.out) | (go_at_call 54; refine (impl_itemOk.calls k b0 b1 b2 A3 c3 l3 b4 b5 none 0 [] _ _ R3.out HC3.out (Kd.R_reads' (Kd.R_nil (Kd.int .i64) 3 _ 0 (fun _ => True))).2.2 (Nat.le_refl _) HIO.out).mono ?_; rintro e w4 ⟨rfl, hb⟩; clear z0 z1 z2 z3 z4 z5 z6; have n0_ := Aside0.mk (Kd.C_below R0.out hb); have n1_ := Aside0.mk (Kd.C_below R3.out hb); have n2_ := Aside0.mk (below_then B.out B.out.size hb); have n3_ := Aside0.mk (IsIt.below I.out hb); have n4_ := Aside0.mk (Kd.S_below S.out hb); clear R0 R3 B I S; have R0 := n0_; have R3 := n1_; have B := n2_; have I := n3_; have S := n4_; clear n0_ n1_ n2_ n3_ n4_ hb))
  go_ret2
  exact ⟨_, rfl, Kd.S_mono S.out (fun _ _ => trivial), B.out⟩
 | true =>
  rw [if_pos rfl] at h
  by_cases cl : l.length < 3000
  rotate_left
  ·rw [if_neg cl] at h
   obtain ⟨rfl, rfl⟩ := Prod.mk.inj (Option.some.inj h)
   have d0 : decide ((l.length : Int) ≥ 3000) = true := decide_eq_true (by omega)
   have d1 : decide (3000 ≤ l.length) = true := decide_eq_true (by omega)
   clear h hr0 cl
   go_enter Try.func20, Try.ntmps20
   go_wp2_with (first | ((with_reducible refine gate_dst (N := 7) rfl ?_); refine box_event ?hg (N := 7) ?hd (cs := #[.int .i64 b0, .int .i64 b1, .string b2, .slice A3 l3.length c3, .string b4, .int .i64 b5, .slice A6 l6.length c6]) (t := 44) ?hr ?_; (case hd => rfl); (case hg => rfl); (case hr => first | (go_simp; done) | (go_simp; rfl)); intro gp hg_ w1 hbox hb; have hgb := Aside0.mk (show w.heap.size ≤ gp by rw [hg_]; exact B.out.size); have I := Aside0.mk (show IsIt w1 gp b0 b1 b2 (.slice A3 l3.length c3) b4 b5 (.slice A6 l6.length c6) from hbox); clear hbox hg_; have n0_ := Aside0.mk (Kd.C_below R0.out hb); have n1_ := Aside0.mk (Kd.C_below R3.out hb); have n2_ := Aside0.mk (below_then B.out B.out.size hb); clear R0 R3 B; have R0 := n0_; have R3 := n1_; have B := n2_; clear n0_ n1_ n2_ hb) | (go_at_call 53; refine (impl_copyItems.calls A c l l _ R0.out HC0.out HCI.out).mono ?_; rintro e w2 ⟨vs, rfl, hs_, hb⟩; obtain ⟨As, cs_, rfl⟩ := Kd.S_slice hs_; have S_ := Aside0.mk (Kd.S_mono (ok' := fun k => gp < k) (Kd.S_lower (Kd.S_bound hs_) B.out.size) (fun k hk => Nat.lt_of_lt_of_le (blk_lt I.out) hk.2.1)); clear hs_; have n0_ := Aside0.mk (Kd.C_below R0.out hb); have n1_ := Aside0.mk (Kd.C_below R3.out hb); have n2_ := Aside0.mk (below_then B.out B.out.size hb); have n3_ := Aside0.mk (IsIt.below I.out hb); clear R0 R3 B I; have R0 := n0_; have R3 := n1_; have B := n2_; have I := n3_; clear n0_ n1_ n2_ n3_ hb; have S := S_; clear S_; have z6 := IsIt.x6 I.out; have f6 := IsIt.fz I.out 6) | ((with_reducible refine gate_store (t := 23) (p := 13) rfl ?_); refine store_event (t := 23) (p := 13) (v := ?vo13_2) (w1 := ?w113_2) ?hg ?ho ?hn ?hr ?_; (case ho => rfl); (case hg => rfl); (case hn => rfl); (case hr => go_simp; rfl); intro w3 hw_; clear z6 f6; have nS_ := Aside0.mk (show Kd.S k44 44 w3 w.heap.size (fun k => gp < k) (.slice As l.length cs_) l by rw [hw_]; exact Kd.S_far (p := ⟨gp, 6, none⟩) S.out (fun k hk => Nat.ne_of_gt hk) (.slice none 0 0)); have nB_ := Aside0.mk (show Below w.heap.size w w3 by rw [hw_]; exact Below.setCell (p := ⟨gp, 6, none⟩) B.out hgb.out (.slice none 0 0)); have nI_ := Aside0.mk (show IsIt w3 gp b0 b1 b2 (.slice A3 l3.length c3) b4 b5 (.slice none 0 0) by rw [hw_]; exact IsIt.put6 I.out (.slice none 0 0)); clear S B I R0 R3 hw_; have S := nS_; have B := nB_; have I := nI_; clear nS_ nB_ nI_; have R0 := Aside0.mk (Kd.C_below HR0.out B.out); have R3 := Aside0.mk (Kd.C_below HR3.out B.out); have z0 := IsIt.x0 I.out; have z1 := IsIt.x1 I.out; have z2 := IsIt.x2 I.out; have z3 := IsIt.x3 I.out; have z4 := IsIt.x4 I.out; have z5 := IsIt.x5 I.out; have z6 := IsIt.x6 I.out) | (go_at_call 54; refine (impl_itemOk.calls k b0 b1 b2 A3 c3 l3 b4 b5 none 0 [] _ _ R3.out HC3.out (Kd.R_reads' (Kd.R_nil (Kd.int .i64) 3 _ 0 (fun _ => True))).2.2 (Nat.le_refl _) HIO.out).mono ?_; rintro e w4 ⟨rfl, hb⟩; clear z0 z1 z2 z3 z4 z5 z6; have n0_ := Aside0.mk (Kd.C_below R0.out hb); have n1_ := Aside0.mk (Kd.C_below R3.out hb); have n2_ := Aside0.mk (below_then B.out B.out.size hb); have n3_ := Aside0.mk (IsIt.below I.out hb); have n4_ := Aside0.mk (Kd.S_below S.out hb); clear R0 R3 B I S; have R0 := n0_; have R3 := n1_; have B := n2_; have I := n3_; have S := n4_; clear n0_ n1_ n2_ n3_ n4_ hb))
   go_ret2
   exact ⟨_, rfl, Kd.S_mono S.out (fun _ _ => trivial), B.out⟩
  rw [if_pos cl] at h
  have d0 : decide ((l.length : Int) ≥ 3000) = false := decide_eq_false (by omega)
  have d1 : decide (3000 ≤ l.length) = false := decide_eq_false (by omega)
  have HL := Aside0.mk (show l.length < 1000000 by omega)
  have HIR := Aside0.mk (inRange_len up l.length (by omega))
  clear cl
  by_cases cu : 0 ≤ up ∧ up < (l.length : Int)
  rotate_left
  ·rw [if_neg cu] at h
   rw [decide_eq_false cu] at HIR
   obtain ⟨rfl, rfl⟩ := Prod.mk.inj (Option.some.inj h)
   clear h hr0 cu
   go_enter Try.func20, Try.ntmps20
   go_wp2_with (first | ((with_reducible refine gate_dst (N := 7) rfl ?_); refine box_event ?hg (N := 7) ?hd (cs := #[.int .i64 b0, .int .i64 b1, .string b2, .slice A3 l3.length c3, .string b4, .int .i64 b5, .slice A6 l6.length c6]) (t := 44) ?hr ?_; (case hd => rfl); (case hg => rfl); (case hr => first | (go_simp; done) | (go_simp; rfl)); intro gp hg_ w1 hbox hb; have hgb := Aside0.mk (show w.heap.size ≤ gp by rw [hg_]; exact B.out.size); have I := Aside0.mk (show IsIt w1 gp b0 b1 b2 (.slice A3 l3.length c3) b4 b5 (.slice A6 l6.length c6) from hbox); clear hbox hg_; have n0_ := Aside0.mk (Kd.C_below R0.out hb); have n1_ := Aside0.mk (Kd.C_below R3.out hb); have n2_ := Aside0.mk (below_then B.out B.out.size hb); clear R0 R3 B; have R0 := n0_; have R3 := n1_; have B := n2_; clear n0_ n1_ n2_ hb) | (go_at_call 53; refine (impl_copyItems.calls A c l l _ R0.out HC0.out HCI.out).mono ?_; rintro e w2 ⟨vs, rfl, hs_, hb⟩; obtain ⟨As, cs_, rfl⟩ := Kd.S_slice hs_; have S_ := Aside0.mk (Kd.S_mono (ok' := fun k => gp < k) (Kd.S_lower (Kd.S_bound hs_) B.out.size) (fun k hk => Nat.lt_of_lt_of_le (blk_lt I.out) hk.2.1)); clear hs_; have n0_ := Aside0.mk (Kd.C_below R0.out hb); have n1_ := Aside0.mk (Kd.C_below R3.out hb); have n2_ := Aside0.mk (below_then B.out B.out.size hb); have n3_ := Aside0.mk (IsIt.below I.out hb); clear R0 R3 B I; have R0 := n0_; have R3 := n1_; have B := n2_; have I := n3_; clear n0_ n1_ n2_ n3_ hb; have S := S_; clear S_; have z6 := IsIt.x6 I.out; have f6 := IsIt.fz I.out 6) | ((with_reducible refine gate_store (t := 23) (p := 13) rfl ?_); refine store_event (t := 23) (p := 13) (v := ?vo13_3) (w1 := ?w113_3) ?hg ?ho ?hn ?hr ?_; (case ho => rfl); (case hg => rfl); (case hn => rfl); (case hr => go_simp; rfl); intro w3 hw_; clear z6 f6; have nS_ := Aside0.mk (show Kd.S k44 44 w3 w.heap.size (fun k => gp < k) (.slice As l.length cs_) l by rw [hw_]; exact Kd.S_far (p := ⟨gp, 6, none⟩) S.out (fun k hk => Nat.ne_of_gt hk) (.slice none 0 0)); have nB_ := Aside0.mk (show Below w.heap.size w w3 by rw [hw_]; exact Below.setCell (p := ⟨gp, 6, none⟩) B.out hgb.out (.slice none 0 0)); have nI_ := Aside0.mk (show IsIt w3 gp b0 b1 b2 (.slice A3 l3.length c3) b4 b5 (.slice none 0 0) by rw [hw_]; exact IsIt.put6 I.out (.slice none 0 0)); clear S B I R0 R3 hw_; have S := nS_; have B := nB_; have I := nI_; clear nS_ nB_ nI_; have R0 := Aside0.mk (Kd.C_below HR0.out B.out); have R3 := Aside0.mk (Kd.C_below HR3.out B.out); have z0 := IsIt.x0 I.out; have z1 := IsIt.x1 I.out; have z2 := IsIt.x2 I.out; have z3 := IsIt.x3 I.out; have z4 := IsIt.x4 I.out; have z5 := IsIt.x5 I.out; have z6 := IsIt.x6 I.out) | (go_at_call 54; refine (impl_itemOk.calls k b0 b1 b2 A3 c3 l3 b4 b5 none 0 [] _ _ R3.out HC3.out (Kd.R_reads' (Kd.R_nil (Kd.int .i64) 3 _ 0 (fun _ => True))).2.2 (Nat.le_refl _) HIO.out).mono ?_; rintro e w4 ⟨rfl, hb⟩; clear z0 z1 z2 z3 z4 z5 z6; have n0_ := Aside0.mk (Kd.C_below R0.out hb); have n1_ := Aside0.mk (Kd.C_below R3.out hb); have n2_ := Aside0.mk (below_then B.out B.out.size hb); have n3_ := Aside0.mk (IsIt.below I.out hb); have n4_ := Aside0.mk (Kd.S_below S.out hb); clear R0 R3 B I S; have R0 := n0_; have R3 := n1_; have B := n2_; have I := n3_; have S := n4_; clear n0_ n1_ n2_ n3_ n4_ hb) | (go_at_call 55; refine (impl_inRange.calls up 0 (wrap64 ((l.length : Int) - 1)) _ _ HIR.out).mono ?_; rintro e w5 ⟨rfl, hd_⟩; have hb := drawn_below hd_; clear hd_; have n0_ := Aside0.mk (Kd.C_below R0.out hb); have n1_ := Aside0.mk (Kd.C_below R3.out hb); have n2_ := Aside0.mk (below_then B.out B.out.size hb); have n3_ := Aside0.mk (IsIt.below I.out hb); have n4_ := Aside0.mk (Kd.S_below S.out hb); clear R0 R3 B I S; have R0 := n0_; have R3 := n1_; have B := n2_; have I := n3_; have S := n4_; clear n0_ n1_ n2_ n3_ n4_ hb))
   go_ret2
   exact ⟨_, rfl, Kd.S_mono S.out (fun _ _ => trivial), B.out⟩
  rw [if_pos cu] at h
  rw [decide_eq_true cu] at HIR
  obtain ⟨h0, h1⟩ := cu
  have p0 : ((0 : Int) ≤ up) = True := eq_true h0
  have q0 : (up < (l.length : Int)) = True := eq_true h1
  obtain ⟨ad, q1_, q2_, q3_, q4_, rfl, hx0, hxr_⟩ := at_T44 hr0 up h0 h1
  have HX0 := Aside0.mk hx0
  have HXQ := Aside0.mk hx0
  clear hx0 hxr_ hr0
  obtain ⟨b, hhk, h⟩ := Option.bind_eq_some_iff.mp h
  have HHK := Aside0.mk hhk
  clear hhk
  cases b with
  | false =>
   rw [if_neg (by decide)] at h
   obtain ⟨rfl, rfl⟩ := Prod.mk.inj (Option.some.inj h)
   clear h
   go_enter Try.func20, Try.ntmps20
   go_wp2_with (first | ((with_reducible refine gate_dst (N := 7) rfl ?_); refine box_event ?hg (N := 7) ?hd (cs := #[.int .i64 b0, .int .i64 b1, .string b2, .slice A3 l3.length c3, .string b4, .int .i64 b5, .slice A6 l6.length c6]) (t := 44) ?hr ?_; (case hd => rfl); (case hg => rfl); (case hr => first | (go_simp; done) | (go_simp; rfl)); intro gp hg_ w1 hbox hb; have hgb := Aside0.mk (show w.heap.size ≤ gp by rw [hg_]; exact B.out.size); have I := Aside0.mk (show IsIt w1 gp b0 b1 b2 (.slice A3 l3.length c3) b4 b5 (.slice A6 l6.length c6) from hbox); clear hbox hg_; have n0_ := Aside0.mk (Kd.C_below R0.out hb); have n1_ := Aside0.mk (Kd.C_below R3.out hb); have n2_ := Aside0.mk (below_then B.out B.out.size hb); have n3_ := Aside0.mk (pw_cell_below hb HXQ.out); clear R0 R3 B HXQ; have R0 := n0_; have R3 := n1_; have B := n2_; have HXQ := n3_; clear n0_ n1_ n2_ n3_ hb) | (go_at_call 53; refine (impl_copyItems.calls (some ad) c l l _ R0.out HC0.out HCI.out).mono ?_; rintro e w2 ⟨vs, rfl, hs_, hb⟩; obtain ⟨As, cs_, rfl⟩ := Kd.S_slice hs_; have S_ := Aside0.mk (Kd.S_mono (ok' := fun k => gp < k) (Kd.S_lower (Kd.S_bound hs_) B.out.size) (fun k hk => Nat.lt_of_lt_of_le (blk_lt I.out) hk.2.1)); clear hs_; have n0_ := Aside0.mk (Kd.C_below R0.out hb); have n1_ := Aside0.mk (Kd.C_below R3.out hb); have n2_ := Aside0.mk (below_then B.out B.out.size hb); have n3_ := Aside0.mk (pw_cell_below hb HXQ.out); have n4_ := Aside0.mk (IsIt.below I.out hb); clear R0 R3 B HXQ I; have R0 := n0_; have R3 := n1_; have B := n2_; have HXQ := n3_; have I := n4_; clear n0_ n1_ n2_ n3_ n4_ hb; have S := S_; clear S_; have z6 := IsIt.x6 I.out; have f6 := IsIt.fz I.out 6) | ((with_reducible refine gate_store (t := 23) (p := 13) rfl ?_); refine store_event (t := 23) (p := 13) (v := ?vo13_4) (w1 := ?w113_4) ?hg ?ho ?hn ?hr ?_; (case ho => rfl); (case hg => rfl); (case hn => rfl); (case hr => go_simp; rfl); intro w3 hw_; clear z6 f6; have nS_ := Aside0.mk (show Kd.S k44 44 w3 w.heap.size (fun k => gp < k) (.slice As l.length cs_) l by rw [hw_]; exact Kd.S_far (p := ⟨gp, 6, none⟩) S.out (fun k hk => Nat.ne_of_gt hk) (.slice none 0 0)); have nB_ := Aside0.mk (show Below w.heap.size w w3 by rw [hw_]; exact Below.setCell (p := ⟨gp, 6, none⟩) B.out hgb.out (.slice none 0 0)); have nI_ := Aside0.mk (show IsIt w3 gp b0 b1 b2 (.slice A3 l3.length c3) b4 b5 (.slice none 0 0) by rw [hw_]; exact IsIt.put6 I.out (.slice none 0 0)); clear S B I R0 R3 hw_ HXQ; have S := nS_; have B := nB_; have I := nI_; clear nS_ nB_ nI_; have R0 := Aside0.mk (Kd.C_below HR0.out B.out); have R3 := Aside0.mk (Kd.C_below HR3.out B.out); have HXQ := Aside0.mk (pw_cell_below B.out HX0.out); have z0 := IsIt.x0 I.out; have z1 := IsIt.x1 I.out; have z2 := IsIt.x2 I.out; have z3 := IsIt.x3 I.out; have z4 := IsIt.x4 I.out; have z5 := IsIt.x5 I.out; have z6 := IsIt.x6 I.out) | (go_at_call 54; refine (impl_itemOk.calls k b0 b1 b2 A3 c3 l3 b4 b5 none 0 [] _ _ R3.out HC3.out (Kd.R_reads' (Kd.R_nil (Kd.int .i64) 3 _ 0 (fun _ => True))).2.2 (Nat.le_refl _) HIO.out).mono ?_; rintro e w4 ⟨rfl, hb⟩; clear z0 z1 z2 z3 z4 z5 z6; have n0_ := Aside0.mk (Kd.C_below R0.out hb); have n1_ := Aside0.mk (Kd.C_below R3.out hb); have n2_ := Aside0.mk (below_then B.out B.out.size hb); have n3_ := Aside0.mk (pw_cell_below hb HXQ.out); have n4_ := Aside0.mk (IsIt.below I.out hb); have n5_ := Aside0.mk (Kd.S_below S.out hb); clear R0 R3 B HXQ I S; have R0 := n0_; have R3 := n1_; have B := n2_; have HXQ := n3_; have I := n4_; have S := n5_; clear n0_ n1_ n2_ n3_ n4_ n5_ hb) | (go_at_call 55; refine (impl_inRange.calls up 0 (wrap64 ((l.length : Int) - 1)) _ _ HIR.out).mono ?_; rintro e w5 ⟨rfl, hd_⟩; have hb := drawn_below hd_; clear hd_; have n0_ := Aside0.mk (Kd.C_below R0.out hb); have n1_ := Aside0.mk (Kd.C_below R3.out hb); have n2_ := Aside0.mk (below_then B.out B.out.size hb); have n3_ := Aside0.mk (pw_cell_below hb HXQ.out); have n4_ := Aside0.mk (IsIt.below I.out hb); have n5_ := Aside0.mk (Kd.S_below S.out hb); clear R0 R3 B HXQ I S; have R0 := n0_; have R3 := n1_; have B := n2_; have HXQ := n3_; have I := n4_; have S := n5_; clear n0_ n1_ n2_ n3_ n4_ n5_ hb; have hxq := HXQ.out) | (go_at_call 56; refine (impl_hasKids.calls ((rd_T44 l up).f0) _ _ HHK.out).mono ?_; rintro e w6 ⟨rfl, hd_⟩; have hb := drawn_below hd_; clear hd_; clear hxq; have n0_ := Aside0.mk (Kd.C_below R0.out hb); have n1_ := Aside0.mk (Kd.C_below R3.out hb); have n2_ := Aside0.mk (below_then B.out B.out.size hb); have n3_ := Aside0.mk (pw_cell_below hb HXQ.out); have n4_ := Aside0.mk (IsIt.below I.out hb); have n5_ := Aside0.mk (Kd.S_below S.out hb); clear R0 R3 B HXQ I S; have R0 := n0_; have R3 := n1_; have B := n2_; have HXQ := n3_; have I := n4_; have S := n5_; clear n0_ n1_ n2_ n3_ n4_ n5_ hb))
   go_ret2
   exact ⟨_, rfl, Kd.S_mono S.out (fun _ _ => trivial), B.out⟩
  | true =>
   rw [if_pos rfl] at h
   obtain ⟨b, hto, h⟩ := Option.bind_eq_some_iff.mp h
   have HTO := Aside0.mk hto
   clear hto
   cases b with
   | false =>
    rw [if_neg (by decide)] at h
    obtain ⟨rfl, rfl⟩ := Prod.mk.inj (Option.some.inj h)
    clear h
    go_enter Try.func20, Try.ntmps20
    go_wp2_with (first | ((with_reducible refine gate_dst (N := 7) rfl ?_); refine box_event ?hg (N := 7) ?hd (cs := #[.int .i64 b0, .int .i64 b1, .string b2, .slice A3 l3.length c3, .string b4, .int .i64 b5, .slice A6 l6.length c6]) (t := 44) ?hr ?_; (case hd => rfl); (case hg => rfl); (case hr => first | (go_simp; done) | (go_simp; rfl)); intro gp hg_ w1 hbox hb; have hgb := Aside0.mk (show w.heap.size ≤ gp by rw [hg_]; exact B.out.size); have I := Aside0.mk (show IsIt w1 gp b0 b1 b2 (.slice A3 l3.length c3) b4 b5 (.slice A6 l6.length c6) from hbox); clear hbox hg_; have n0_ := Aside0.mk (Kd.C_below R0.out hb); have n1_ := Aside0.mk (Kd.C_below R3.out hb); have n2_ := Aside0.mk (below_then B.out B.out.size hb); have n3_ := Aside0.mk (pw_cell_below hb HXQ.out); clear R0 R3 B HXQ; have R0 := n0_; have R3 := n1_; have B := n2_; have HXQ := n3_; clear n0_ n1_ n2_ n3_ hb) | (go_at_call 53; refine (impl_copyItems.calls (some ad) c l l _ R0.out HC0.out HCI.out).mono ?_; rintro e w2 ⟨vs, rfl, hs_, hb⟩; obtain ⟨As, cs_, rfl⟩ := Kd.S_slice hs_; have S_ := Aside0.mk (Kd.S_mono (ok' := fun k => gp < k) (Kd.S_lower (Kd.S_bound hs_) B.out.size) (fun k hk => Nat.lt_of_lt_of_le (blk_lt I.out) hk.2.1)); clear hs_; have n0_ := Aside0.mk (Kd.C_below R0.out hb); have n1_ := Aside0.mk (Kd.C_below R3.out hb); have n2_ := Aside0.mk (below_then B.out B.out.size hb); have n3_ := Aside0.mk (pw_cell_below hb HXQ.out); have n4_ := Aside0.mk (IsIt.below I.out hb); clear R0 R3 B HXQ I; have R0 := n0_; have R3 := n1_; have B := n2_; have HXQ := n3_; have I := n4_; clear n0_ n1_ n2_ n3_ n4_ hb; have S := S_; clear S_; have z6 := IsIt.x6 I.out; have f6 := IsIt.fz I.out 6) | ((with_reducible refine gate_store (t := 23) (p := 13) rfl ?_); refine store_event (t := 23) (p := 13) (v := ?vo13_5) (w1 := ?w113_5) ?hg ?ho ?hn ?hr ?_; (case ho => rfl); (case hg => rfl); (case hn => rfl); (case hr => go_simp; rfl); intro w3 hw_; clear z6 f6; have nS_ := Aside0.mk (show Kd.S k44 44 w3 w.heap.size (fun k => gp < k) (.slice As l.length cs_) l by rw [hw_]; exact Kd.S_far (p := ⟨gp, 6, none⟩) S.out (fun k hk => Nat.ne_of_gt hk) (.slice none 0 0)); have nB_ := Aside0.mk (show Below w.heap.size w w3 by rw [hw_]; exact Below.setCell (p := ⟨gp, 6, none⟩) B.out hgb.out (.slice none 0 0)); have nI_ := Aside0.mk (show IsIt w3 gp b0 b1 b2 (.slice A3 l3.length c3) b4 b5 (.slice none 0 0) by rw [hw_]; exact IsIt.put6 I.out (.slice none 0 0)); clear S B I R0 R3 hw_ HXQ; have S := nS_; have B := nB_; have I := nI_; clear nS_ nB_ nI_; have R0 := Aside0.mk (Kd.C_below HR0.out B.out); have R3 := Aside0.mk (Kd.C_below HR3.out B.out); have HXQ := Aside0.mk (pw_cell_below B.out HX0.out); have z0 := IsIt.x0 I.out; have z1 := IsIt.x1 I.out; have z2 := IsIt.x2 I.out; have z3 := IsIt.x3 I.out; have z4 := IsIt.x4 I.out; have z5 := IsIt.x5 I.out; have z6 := IsIt.x6 I.out) | (go_at_call 54; refine (impl_itemOk.calls k b0 b1 b2 A3 c3 l3 b4 b5 none 0 [] _ _ R3.out HC3.out (Kd.R_reads' (Kd.R_nil (Kd.int .i64) 3 _ 0 (fun _ => True))).2.2 (Nat.le_refl _) HIO.out).mono ?_; rintro e w4 ⟨rfl, hb⟩; clear z0 z1 z2 z3 z4 z5 z6; have n0_ := Aside0.mk (Kd.C_below R0.out hb); have n1_ := Aside0.mk (Kd.C_below R3.out hb); have n2_ := Aside0.mk (below_then B.out B.out.size hb); have n3_ := Aside0.mk (pw_cell_below hb HXQ.out); have n4_ := Aside0.mk (IsIt.below I.out hb); have n5_ := Aside0.mk (Kd.S_below S.out hb); clear R0 R3 B HXQ I S; have R0 := n0_; have R3 := n1_; have B := n2_; have HXQ := n3_; have I := n4_; have S := n5_; clear n0_ n1_ n2_ n3_ n4_ n5_ hb) | (go_at_call 55; refine (impl_inRange.calls up 0 (wrap64 ((l.length : Int) - 1)) _ _ HIR.out).mono ?_; rintro e w5 ⟨rfl, hd_⟩; have hb := drawn_below hd_; clear hd_; have n0_ := Aside0.mk (Kd.C_below R0.out hb); have n1_ := Aside0.mk (Kd.C_below R3.out hb); have n2_ := Aside0.mk (below_then B.out B.out.size hb); have n3_ := Aside0.mk (pw_cell_below hb HXQ.out); have n4_ := Aside0.mk (IsIt.below I.out hb); have n5_ := Aside0.mk (Kd.S_below S.out hb); clear R0 R3 B HXQ I S; have R0 := n0_; have R3 := n1_; have B := n2_; have HXQ := n3_; have I := n4_; have S := n5_; clear n0_ n1_ n2_ n3_ n4_ n5_ hb; have hxq := HXQ.out) | (go_at_call 56; refine (impl_hasKids.calls ((rd_T44 l up).f0) _ _ HHK.out).mono ?_; rintro e w6 ⟨rfl, hd_⟩; have hb := drawn_below hd_; clear hd_; clear hxq; have n0_ := Aside0.mk (Kd.C_below R0.out hb); have n1_ := Aside0.mk (Kd.C_below R3.out hb); have n2_ := Aside0.mk (below_then B.out B.out.size hb); have n3_ := Aside0.mk (pw_cell_below hb HXQ.out); have n4_ := Aside0.mk (IsIt.below I.out hb); have n5_ := Aside0.mk (Kd.S_below S.out hb); clear R0 R3 B HXQ I S; have R0 := n0_; have R3 := n1_; have B := n2_; have HXQ := n3_; have I := n4_; have S := n5_; clear n0_ n1_ n2_ n3_ n4_ n5_ hb) | (go_at_call 27; refine (impl_TreeOk.calls k (some ad) c l _ _ R0.out HC0.out HTO.out).mono ?_; rintro e w7 ⟨rfl, hb⟩; have n0_ := Aside0.mk (Kd.C_below R0.out hb); have n1_ := Aside0.mk (Kd.C_below R3.out hb); have n2_ := Aside0.mk (below_then B.out B.out.size hb); have n3_ := Aside0.mk (pw_cell_below hb HXQ.out); have n4_ := Aside0.mk (IsIt.below I.out hb); have n5_ := Aside0.mk (Kd.S_below S.out hb); clear R0 R3 B HXQ I S; have R0 := n0_; have R3 := n1_; have B := n2_; have HXQ := n3_; have I := n4_; have S := n5_; clear n0_ n1_ n2_ n3_ n4_ n5_ hb))
    go_ret2
    exact ⟨_, rfl, Kd.S_mono S.out (fun _ _ => trivial), B.out⟩
   | true =>
    rw [if_pos rfl] at h
    by_cases cb : l3.length < 4398046511104 ∧ (rd_T44 l up).f6.length < 17592186044415
    rotate_left
    ·rw [if_neg cb] at h; exact absurd h (by simp)
    rw [if_pos cb] at h
    obtain ⟨rfl, rfl⟩ := Prod.mk.inj (Option.some.inj h)
    have HL3 := Aside0.mk cb.1
    have HK := Aside0.mk cb.2
    clear h cb
    go_enter Try.func20, Try.ntmps20
    go_wp2_with (first | ((with_reducible refine gate_dst (N := 7) rfl ?_); refine box_event ?hg (N := 7) ?hd (cs := #[.int .i64 b0, .int .i64 b1, .string b2, .slice A3 l3.length c3, .string b4, .int .i64 b5, .slice A6 l6.length c6]) (t := 44) ?hr ?_; (case hd => rfl); (case hg => rfl); (case hr => first | (go_simp; done) | (go_simp; rfl)); intro gp hg_ w1 hbox hb; have hgb := Aside0.mk (show w.heap.size ≤ gp by rw [hg_]; exact B.out.size); have I := Aside0.mk (show IsIt w1 gp b0 b1 b2 (.slice A3 l3.length c3) b4 b5 (.slice A6 l6.length c6) from hbox); clear hbox hg_; have n0_ := Aside0.mk (Kd.C_below R0.out hb); have n1_ := Aside0.mk (Kd.C_below R3.out hb); have n2_ := Aside0.mk (below_then B.out B.out.size hb); have n3_ := Aside0.mk (pw_cell_below hb HXQ.out); clear R0 R3 B HXQ; have R0 := n0_; have R3 := n1_; have B := n2_; have HXQ := n3_; clear n0_ n1_ n2_ n3_ hb) | (go_at_call 53; refine (impl_copyItems.calls (some ad) c l l _ R0.out HC0.out HCI.out).mono ?_; rintro e w2 ⟨vs, rfl, hs_, hb⟩; obtain ⟨As, cs_, rfl⟩ := Kd.S_slice hs_; have S_ := Aside0.mk (Kd.S_mono (ok' := fun k => gp < k) (Kd.S_lower (Kd.S_bound hs_) B.out.size) (fun k hk => Nat.lt_of_lt_of_le (blk_lt I.out) hk.2.1)); clear hs_; have n0_ := Aside0.mk (Kd.C_below R0.out hb); have n1_ := Aside0.mk (Kd.C_below R3.out hb); have n2_ := Aside0.mk (below_then B.out B.out.size hb); have n3_ := Aside0.mk (pw_cell_below hb HXQ.out); have n4_ := Aside0.mk (IsIt.below I.out hb); clear R0 R3 B HXQ I; have R0 := n0_; have R3 := n1_; have B := n2_; have HXQ := n3_; have I := n4_; clear n0_ n1_ n2_ n3_ n4_ hb; have S := S_; clear S_; have z6 := IsIt.x6 I.out; have f6 := IsIt.fz I.out 6) | ((with_reducible refine gate_store (t := 23) (p := 13) rfl ?_); refine store_event (t := 23) (p := 13) (v := ?vo13_6) (w1 := ?w113_6) ?hg ?ho ?hn ?hr ?_; (case ho => rfl); (case hg => rfl); (case hn => rfl); (case hr => go_simp; rfl); intro w3 hw_; clear z6 f6; have nS_ := Aside0.mk (show Kd.S k44 44 w3 w.heap.size (fun k => gp < k) (.slice As l.length cs_) l by rw [hw_]; exact Kd.S_far (p := ⟨gp, 6, none⟩) S.out (fun k hk => Nat.ne_of_gt hk) (.slice none 0 0)); have nB_ := Aside0.mk (show Below w.heap.size w w3 by rw [hw_]; exact Below.setCell (p := ⟨gp, 6, none⟩) B.out hgb.out (.slice none 0 0)); have nI_ := Aside0.mk (show IsIt w3 gp b0 b1 b2 (.slice A3 l3.length c3) b4 b5 (.slice none 0 0) by rw [hw_]; exact IsIt.put6 I.out (.slice none 0 0)); clear S B I R0 R3 hw_ HXQ; have S := nS_; have B := nB_; have I := nI_; clear nS_ nB_ nI_; have R0 := Aside0.mk (Kd.C_below HR0.out B.out); have R3 := Aside0.mk (Kd.C_below HR3.out B.out); have HXQ := Aside0.mk (pw_cell_below B.out HX0.out); have z0 := IsIt.x0 I.out; have z1 := IsIt.x1 I.out; have z2 := IsIt.x2 I.out; have z3 := IsIt.x3 I.out; have z4 := IsIt.x4 I.out; have z5 := IsIt.x5 I.out; have z6 := IsIt.x6 I.out) | (go_at_call 54; refine (impl_itemOk.calls k b0 b1 b2 A3 c3 l3 b4 b5 none 0 [] _ _ R3.out HC3.out (Kd.R_reads' (Kd.R_nil (Kd.int .i64) 3 _ 0 (fun _ => True))).2.2 (Nat.le_refl _) HIO.out).mono ?_; rintro e w4 ⟨rfl, hb⟩; clear z0 z1 z2 z3 z4 z5 z6; have n0_ := Aside0.mk (Kd.C_below R0.out hb); have n1_ := Aside0.mk (Kd.C_below R3.out hb); have n2_ := Aside0.mk (below_then B.out B.out.size hb); have n3_ := Aside0.mk (pw_cell_below hb HXQ.out); have n4_ := Aside0.mk (IsIt.below I.out hb); have n5_ := Aside0.mk (Kd.S_below S.out hb); clear R0 R3 B HXQ I S; have R0 := n0_; have R3 := n1_; have B := n2_; have HXQ := n3_; have I := n4_; have S := n5_; clear n0_ n1_ n2_ n3_ n4_ n5_ hb) | (go_at_call 55; refine (impl_inRange.calls up 0 (wrap64 ((l.length : Int) - 1)) _ _ HIR.out).mono ?_; rintro e w5 ⟨rfl, hd_⟩; have hb := drawn_below hd_; clear hd_; have n0_ := Aside0.mk (Kd.C_below R0.out hb); have n1_ := Aside0.mk (Kd.C_below R3.out hb); have n2_ := Aside0.mk (below_then B.out B.out.size hb); have n3_ := Aside0.mk (pw_cell_below hb HXQ.out); have n4_ := Aside0.mk (IsIt.below I.out hb); have n5_ := Aside0.mk (Kd.S_below S.out hb); clear R0 R3 B HXQ I S; have R0 := n0_; have R3 := n1_; have B := n2_; have HXQ := n3_; have I := n4_; have S := n5_; clear n0_ n1_ n2_ n3_ n4_ n5_ hb; have hxq := HXQ.out) | (go_at_call 56; refine (impl_hasKids.calls ((rd_T44 l up).f0) _ _ HHK.out).mono ?_; rintro e w6 ⟨rfl, hd_⟩; have hb := drawn_below hd_; clear hd_; clear hxq; have n0_ := Aside0.mk (Kd.C_below R0.out hb); have n1_ := Aside0.mk (Kd.C_below R3.out hb); have n2_ := Aside0.mk (below_then B.out B.out.size hb); have n3_ := Aside0.mk (pw_cell_below hb HXQ.out); have n4_ := Aside0.mk (IsIt.below I.out hb); have n5_ := Aside0.mk (Kd.S_below S.out hb); clear R0 R3 B HXQ I S; have R0 := n0_; have R3 := n1_; have B := n2_; have HXQ := n3_; have I := n4_; have S := n5_; clear n0_ n1_ n2_ n3_ n4_ n5_ hb) | (go_at_call 27; refine (impl_TreeOk.calls k (some ad) c l _ _ R0.out HC0.out HTO.out).mono ?_; rintro e w7 ⟨rfl, hb⟩; have n0_ := Aside0.mk (Kd.C_below R0.out hb); have n1_ := Aside0.mk (Kd.C_below R3.out hb); have n2_ := Aside0.mk (below_then B.out B.out.size hb); have n3_ := Aside0.mk (pw_cell_below hb HXQ.out); have n4_ := Aside0.mk (IsIt.below I.out hb); have n5_ := Aside0.mk (Kd.S_below S.out hb); clear R0 R3 B HXQ I S; have R0 := n0_; have R3 := n1_; have B := n2_; have HXQ := n3_; have I := n4_; have S := n5_; clear n0_ n1_ n2_ n3_ n4_ n5_ hb; have z0 := IsIt.x0 I.out; have z1 := IsIt.x1 I.out; have z2 := IsIt.x2 I.out; have z3 := IsIt.x3 I.out; have z4 := IsIt.x4 I.out; have z5 := IsIt.x5 I.out; have z6 := IsIt.x6 I.out) | (go_at_call 57; refine (hang_calls As cs_ l up p b0 b1 b2 A3 c3 l3 b4 b5 (.slice none 0 0) l6 w _ B.out (Kd.S_mono S.out (fun _ _ => trivial)) R3.out HC3.out h0 h1 HL.out HL3.out HK.out).mono ?_; rintro e w8 ⟨A9, c9, rfl, hs9, hb9⟩; have HS9 := Aside0.mk hs9; have B9 := Aside0.mk hb9; clear hs9 hb9))
    go_ret2
    exact ⟨_, rfl, HS9.out, B9.out⟩
def spec_l1In.f (a0 : Int) (a1 : Int) (a2 : Int) : Option (Bool) := if a0 ≥ a1 then (some (decide (a0 ≤ a2))) else (some false)
set_option maxHeartbeats 8000000 in
set_option maxRecDepth 100000 in
theorem spec_l1In.calls (a0 : Int) (a1 : Int) (a2 : Int) (r : Bool) (w : World) (h : spec_l1In.f a0 a1 a2 = some r) :
  Calls Try.prog 49 #[.int .i64 a0, .int .i64 a1, .int .i64 a2] w fun e w' => e = .returned (.bool r) ∧ Drawn0 w w' := by
 have H : (if a0 ≥ a1 then (some (decide (a0 ≤ a2))) else (some false)) = some r := h
 clear h
 by_cases c4 : a0 ≥ a1
 ·rw [if_pos c4] at H
  have c4b0 : decide (a1 ≤ a0) = true := decide_eq_true c4
  clear c4
  obtain rfl := Option.some.inj H
  go_enter Try.func49, Try.ntmps49
  go_wp2
  go_ret
  exact ⟨by first | rfl | (simp; done) | (simp [*]; done), by repeat (first | exact Drawn0.refl _ | apply Drawn0.step)⟩
 ·rw [if_neg c4] at H
  have c4b0 : decide (a1 ≤ a0) = false := decide_eq_false c4
  clear c4
  obtain rfl := Option.some.inj H
  go_enter Try.func49, Try.ntmps49
  go_wp2
  go_ret
  exact ⟨by first | rfl | (simp; done) | (simp [*]; done), by repeat (first | exact Drawn0.refl _ | apply Drawn0.step)⟩
def spec_l4Has.l0 : Nat → List (S91) → ByteArray → Int → Option (Bool)
 | 0, _, _, _ => none
 | k + 1, x0, x1, x5 => if x5 < (x0.length : Int) then (if 0 ≤ x5 then (if ((rd_T91 x0 x5).f0).toList = x1.toList then (some true) else (spec_l4Has.l0 k x0 x1 (wrap64 (x5 + 1)))) else (none)) else (some false)
def spec_l4Has.f (k : Nat) (l0 : List (S91)) (a1 : ByteArray) : Option (Bool) := spec_l4Has.l0 k l0 a1 0
theorem spec_l4Has.mono_l : ∀ k, (∀ y0 y1 y2, LeO (spec_l4Has.l0 k y0 y1 y2) (spec_l4Has.l0 (k + 1) y0 y1 y2))
 | 0 => fun _ _ _ r h => by simp [spec_l4Has.l0] at h
 | k + 1 => by
  have ih0 := spec_l4Has.mono_l k
  ·intro y0 y1 y2
   unfold spec_l4Has.l0
   repeat' first
   | (with_reducible exact ih0 _ _ _)
   | (with_reducible exact LeO.refl _)
   | (with_reducible exact LeO.none _)
   | (with_reducible refine LeO.ite ?_ ?_)
   | (with_reducible refine LeO.bind ?_ (fun _ => ?_))
theorem spec_l4Has.mono : ∀ a0 a1 k, LeO (spec_l4Has.f k a0 a1) (spec_l4Has.f (k + 1) a0 a1) := by
 intro a0 a1 k
 have ih0 := spec_l4Has.mono_l k
 unfold spec_l4Has.f
 repeat' first
   | (with_reducible exact ih0 _ _ _)
   | (with_reducible exact LeO.refl _)
   | (with_reducible exact LeO.none _)
   | (with_reducible refine LeO.ite ?_ ?_)
   | (with_reducible refine LeO.bind ?_ (fun _ => ?_))
set_option maxHeartbeats 8000000 in
set_option maxRecDepth 100000 in
theorem spec_l4Has.calls (k : Nat) (A0 : Option Addr) (c0 : Nat) (l0 : List (S91)) (a1 : ByteArray) (r : Bool) (w : World) (hr0 : Kd.C k91 w A0 l0.length l0) (hc0 : l0.length ≤ c0) (h : spec_l4Has.f k l0 a1 = some r) :
  Calls Try.prog 84 #[.slice A0 l0.length c0, .string a1] w fun e w' => e = .returned (.bool r) ∧ Drawn0 w w' := by
 have HR0 := Aside0.mk hr0
 have HC0 := Aside0.mk hc0
 clear hr0 hc0
 have H : (spec_l4Has.l0 k l0 a1 0) = some r := h
 clear h
 have H' := Aside0.mk H
 clear H
 go_enter Try.func84, Try.ntmps84
 go_wp2
 go_loopg [5] k (fun kq v5 w' => ∃ (x5_1 : Int), v5 = .int .i64 x5_1 ∧ Aside0 (spec_l4Has.l0 kq l0 a1 x5_1 = some r) ∧ Aside0 (kq ≤ k) ∧ Drawn0 w w')
 case atStart => exact ⟨(0), (by first | rfl | (simp; done) | (simp [*]; done)), H', ⟨Nat.le_refl _⟩, by repeat (first | exact Drawn0.refl _ | apply Drawn0.step)⟩
 case round =>
  clear H'
  obtain ⟨x5_1, rfl, HA, HK1, ⟨m1, rfl⟩⟩ := hrel
  cases gk with
  | zero => exact absurd HA.out (by simp [spec_l4Has.l0])
  | succ k1 =>
   have H := HA.out
   clear HA
   simp only [spec_l4Has.l0] at H
   by_cases c3 : x5_1 < (l0.length : Int)
   ·rw [if_pos c3] at H
    have c3b0 : decide (x5_1 < (l0.length : Int)) = true := decide_eq_true c3
    clear c3
    by_cases c4 : 0 ≤ x5_1
    ·rw [if_pos c4] at H
     have c4b0 : decide (0 ≤ x5_1) = true := decide_eq_true c4
     clear c4
     by_cases c5 : ((rd_T91 l0 x5_1).f0).toList = a1.toList
     ·rw [if_pos c5] at H
      have c5b0 : (((rd_T91 l0 x5_1).f0).toList == a1.toList) = true := beq_iff_eq.mpr c5
      have c5b1 : (((rd_T91 l0 x5_1).f0).toList != a1.toList) = false := bne_eq_false_iff_eq.mpr c5
      clear c5
      obtain rfl := Option.some.inj H
      have p167 : 0 ≤ (x5_1 : Int) := dq_ (by assumption)
      have q167 : x5_1 < (l0.length : Int) := dq_ (by assumption)
      obtain ⟨ad167, e167, hx167_0, hx167_1⟩ := at_T91 HR0.out x5_1 p167 q167
      cases e167
      replace p167 := eq_true p167
      replace q167 := eq_true q167
      go_wp2
      go_ret
      exact ⟨by first | rfl | (simp; done) | (simp [*]; done), by repeat (first | exact Drawn0.refl _ | apply Drawn0.step)⟩
     ·rw [if_neg c5] at H
      have c5b0 : (((rd_T91 l0 x5_1).f0).toList == a1.toList) = false := beq_eq_false_iff_ne.mpr c5
      have c5b1 : (((rd_T91 l0 x5_1).f0).toList != a1.toList) = true := bne_iff_ne.mpr c5
      have H' := Aside0.mk H
      clear H
      have p167 : 0 ≤ (x5_1 : Int) := dq_ (by assumption)
      have q167 : x5_1 < (l0.length : Int) := dq_ (by assumption)
      obtain ⟨ad167, e167, hx167_0, hx167_1⟩ := at_T91 HR0.out x5_1 p167 q167
      cases e167
      replace p167 := eq_true p167
      replace q167 := eq_true q167
      go_wp2
      go_roundg k1
      case measure => have := HK1.out; omega
      case rel => exact ⟨(wrap64 (x5_1 + 1)), (by first | rfl | (simp; done) | (simp [*]; done)), H', ⟨by have := HK1.out; omega⟩, by repeat (first | exact Drawn0.refl _ | apply Drawn0.step)⟩
    ·rw [if_neg c4] at H
     exact absurd H (by simp)
   ·rw [if_neg c3] at H
    have c3b0 : decide (x5_1 < (l0.length : Int)) = false := decide_eq_false c3
    clear c3
    obtain rfl := Option.some.inj H
    go_wp2
    go_ret
    exact ⟨by first | rfl | (simp; done) | (simp [*]; done), by repeat (first | exact Drawn0.refl _ | apply Drawn0.step)⟩
end Go.Proofs.Ytbgedpicfllclaa.PFnExactAdd
