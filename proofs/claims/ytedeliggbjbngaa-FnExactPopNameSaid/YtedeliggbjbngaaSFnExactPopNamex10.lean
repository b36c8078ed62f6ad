-- Written by this session's program wip/slim.py: the print's texts (with contracts of our own), only what this row needs, shortened. Lean checks it.
import Derived.Test.YtedeliggbjbngaaSFnExactPopNamex0
import Derived.Test.YtedeliggbjbngaaSFnExactPopNamex9
namespace Go.Proofs.Ytedeliggbjbngaa.PFnExactPopName
open Go.RowKit Go.Proofs.YtedeliggbjbngaaW.PrintWords Go.Proofs.YtedeliggbjbngaaW.PrintLast Go.Proofs.YtedeliggbjbngaaW.PrintMore
attribute [local go_sem] max2_int min2_int max_two min_two max_three min_three max_four min_four
set_option linter.unusedVariables false
set_option linter.unusedSimpArgs false
def impl_Item.f (l0 : List (S45)) : Option (List (S45)) := if l0.length < 1353245080339 then some l0 else none
def CI (w W : World) (base : Nat) (v : Value) (l : List (S45)) : Prop := (l = [] ∧ v = .slice none 0 0) ∨ ∃ g cap cells, v = .slice (some ⟨g, 0, none⟩) l.length cap ∧ base ≤ g ∧ W.heap[g]? = some (.cells cells 45 (0, 0)) ∧ l.length ≤ cap ∧ cap ≤ maxLen ∧ cells.size = cap * 7 ∧ ∀ j p, l[j]? = some p → ∃ cs, k45.K w p cs ∧ ∀ i u, cs[i]? = some u → cells[j * 7 + i]? = some u
theorem CI.of_raw {w W : World} {base : Nat} {ok : Nat → Prop} {v : Value} {l : List (S45)} {news : List (List Value)} (h : Kd.R (Kd.raw 7) 45 W base ok v news) (hl : news.length = l.length) (hn : ∀ (j : Nat) (x : S45) (c : List Value), l[j]? = some x → news[j]? = some c → k45.K w x c) : CI w W base v l := by
 obtain ⟨_, inner, ⟨hil, ho⟩, hr⟩ := h
 have hn7 : (Kd.raw 7).sz = 7 := rfl
 rw [hn7] at hil ho hr
 rcases ho with ⟨rfl, h0⟩ | ⟨g, cap, cur, rfl, hb, hc, hcap, hmx, hsz, htk⟩
 ·exact .inl ⟨List.length_eq_zero_iff.1 (by omega), rfl⟩
 ·refine .inr ⟨g, cap, cur, by rw [hl], hb, hc, by omega, hmx, hsz, fun j p hp => ?_⟩
  have hj := (List.getElem?_eq_some_iff.1 hp).1
  have hjn : j < news.length := by omega
  have hK := hn j p _ hp (List.getElem?_eq_getElem hjn)
  obtain ⟨e1, e2, _⟩ := hr.2 j _ (List.getElem?_eq_getElem hjn)
  refine ⟨_, hK, fun i u hu => ?_⟩
  rw [← e1, List.getElem?_take] at hu
  split at hu
  ·rw [List.getElem?_drop, ← htk, List.getElem?_take] at hu
   split at hu
   ·rw [← Array.getElem?_toList]; exact hu
   ·cases hu
  ·cases hu
theorem CI.slice {w W : World} {base : Nat} {v : Value} {l : List (S45)} (h : CI w W base v l) : ∃ A c, v = .slice A l.length c := by
 rcases h with ⟨rfl, rfl⟩ | ⟨g, cap, cells, rfl, _⟩
 ·exact ⟨_, _, rfl⟩
 ·exact ⟨_, _, rfl⟩
set_option maxHeartbeats 1000000 in
set_option maxRecDepth 100000 in
theorem impl_Item.calls (A0 : Option Addr) (c0 : Nat) (l0 : List (S45)) (r : List (S45)) (w : World) (hr0 : Kd.C k45 w A0 l0.length l0) (hc0 : l0.length ≤ c0) (h : impl_Item.f l0 = some r) :
  Calls Try.prog 70 #[.slice A0 l0.length c0] w fun e w' => ∃ v0_ : Value, e = .returned (v0_) ∧ CI w w' w.heap.size v0_ r ∧ Below w.heap.size w w' := by
 unfold impl_Item.f at h
 by_cases c1 : l0.length < 1353245080339
 rotate_left
 ·rw [if_neg c1] at h; exact absurd h (by simp)
 rw [if_pos c1] at h
 obtain rfl := Option.some.inj h
 have HL := Aside0.mk c1
 clear h c1
 have HB := Aside0.mk (Below.refl w.heap.size w)
 rcases A0 with _ | ad
 ·have e0 : l0 = [] := by
   rcases Nat.eq_zero_or_pos l0.length with h0 | h0
   ·exact List.length_eq_zero_iff.1 h0
   ·obtain ⟨ad, h, _⟩ := hr0.2.2 h0; cases h
  subst e0
  have hq : ∀ W, (binOp .eql 22 (.slice none 0 c0) (.slice none 0 0)).run Try.prog W = .ok (.bool true) W := fun _ => rfl
  go_enter Try.func70, Try.ntmps70
  go_wp2
  go_ret
  exact ⟨_, by first | rfl | (simp; done), .inl ⟨rfl, rfl⟩, HB.out⟩
 ·obtain ⟨news, hnl, hnr, hnf⟩ := Kd.reads_raw hr0 (fun x c hk => ⟨k45.K_len hk, k45.K_one hk⟩)
  have HR := Aside0.mk (show ReadsRow ((Kd.raw 7).K w) 7 w (some ad) l0.length news from hnr)
  have HNL := Aside0.mk hnl
  have HNF := Aside0.mk hnf
  clear hr0 hnl hnr hnf
  have hq : ∀ W, (binOp .eql 22 (.slice (some ad) l0.length c0) (.slice none 0 0)).run Try.prog W = .ok (.bool false) W := fun _ => rfl
  go_enter Try.func70, Try.ntmps70
  go_wp2_with (first | ((with_reducible refine gate_dst (N := 5) rfl ?_); refine Kd.R_lit (Kd.raw 7) _ 45 ?hg (N := 5) ?hd (xs := ([] : List (List Value))) (inner := []) (ok := fun _ => True) (okp := fun _ => True) ?hr ?hp (fun _ hk => hk) trivial (Below.refl _ _) (Nat.le_refl _) (by simp) ?_; (case hd => rfl); (case hg => rfl); (case hr => first | (go_simp; done) | (go_simp; rfl)); (case hp => exact (Reps.none _ _)); intro v1 w1 ho hb hg_ hnew_; have HO := Aside0.mk ho; have n0_ := Aside0.mk (below_step HB.out hb); have HR1 := Aside0.mk (Kd.C_below (d := Kd.raw 7) HR.out hb); clear HB HR; have HB := n0_; have HR := HR1; clear n0_ HR1 ho hb hg_ hnew_) | ((with_reducible refine gate_builtin (b := .append) (xs := #[.tmp 5, .tmp 6]) rfl ?_); at_builtin; refine Kd.R_append_rows (Kd.raw 7) (w0 := w) w.heap.size rfl (.tmp 5) (.tmp 6) 22 45 (.agg #[(.int .i64 0), (.int .i64 0), (.string ⟨#[]⟩), (.slice none 0 0), (.string ⟨#[]⟩), (.int .i64 0), (.slice none 0 0)]) 104 rfl Try.underlying22 info45 rfl (by decide) (by omega) v1 [] news _ _ _ (fun _ => True) (fun _ => False) rfl rfl HO.out HR.out (fun _ _ h => h) (fun _ h => h.elim) (fun _ _ => trivial) HB.out HB.out.size (by have := HL.out; simp only [List.length_nil]; omega) ?_; intro v2 w2 ho hb hg hat; have HO2 := Aside0.mk ho; have HB2 := Aside0.mk hb; clear ho hb hg hat))
  go_ret
  exact ⟨_, by first | rfl | (simp; done), CI.of_raw HO2.out HNL.out HNF.out, HB2.out⟩
def impl_Attr.f (l0 : List S79) : Option (List S79) := if l0.length < 4398046511104 then some l0 else none
set_option maxHeartbeats 1000000 in
set_option maxRecDepth 100000 in
theorem impl_Attr.calls (A0 : Option Addr) (c0 : Nat) (l0 : List S79) (r : List S79) (w : World) (hr0 : Kd.C k79 w A0 l0.length l0) (hc0 : l0.length ≤ c0) (h : impl_Attr.f l0 = some r) :
  Calls Try.prog 76 #[.slice A0 l0.length c0] w fun e w' => ∃ v0_ : Value, e = .returned (v0_) ∧ Kd.R k79 79 w' w.heap.size (fun _ => True) v0_ r ∧ Below w.heap.size w w' := by
 unfold impl_Attr.f at h
 by_cases c1 : l0.length < 4398046511104
 rotate_left
 ·rw [if_neg c1] at h; exact absurd h (by simp)
 rw [if_pos c1] at h
 obtain rfl := Option.some.inj h
 have HL := Aside0.mk c1
 have HR := Aside0.mk hr0
 clear h c1
 have HB := Aside0.mk (Below.refl w.heap.size w)
 rcases A0 with _ | ad
 ·have e0 : l0 = [] := by
   rcases Nat.eq_zero_or_pos l0.length with h0 | h0
   ·exact List.length_eq_zero_iff.1 h0
   ·obtain ⟨ad, h, _⟩ := HR.out.2.2 h0; cases h
  subst e0
  have hq : ∀ W, (binOp .eql 43 (.slice none 0 c0) (.slice none 0 0)).run Try.prog W = .ok (.bool true) W := fun _ => rfl
  go_enter Try.func76, Try.ntmps76
  go_wp2
  go_ret
  exact ⟨_, by first | rfl | (simp; done), Kd.R_nil _ _ _ _ _, HB.out⟩
 ·have hq : ∀ W, (binOp .eql 43 (.slice (some ad) l0.length c0) (.slice none 0 0)).run Try.prog W = .ok (.bool false) W := fun _ => rfl
  go_enter Try.func76, Try.ntmps76
  go_wp2_with (first | ((with_reducible refine gate_dst (N := 5) rfl ?_); refine Kd.R_lit k79 _ 79 ?hg (N := 5) ?hd (xs := ([] : List S79)) (inner := []) (ok := fun _ => True) (okp := fun _ => True) ?hr ?hp (fun _ hk => hk) trivial (Below.refl _ _) (Nat.le_refl _) (by simp) ?_; (case hd => rfl); (case hg => rfl); (case hr => first | (go_simp; done) | (go_simp; rfl)); (case hp => exact (Reps.none _ _)); intro v1 w1 ho hb hg_ hnew_; have HO := Aside0.mk ho; have n0_ := Aside0.mk (below_step HB.out hb); have HR1 := Aside0.mk (Kd.C_below HR.out hb); clear HB HR; have HB := n0_; have HR := HR1; clear n0_ HR1 ho hb hg_ hnew_) | ((with_reducible refine gate_builtin (b := .append) (xs := #[.tmp 5, .tmp 6]) rfl ?_); at_builtin; refine Kd.R_append_rows k79 (w0 := w) w.heap.size rfl (.tmp 5) (.tmp 6) 43 79 (.agg #[(.string ⟨#[]⟩), (.string ⟨#[]⟩)]) 32 rfl Try.underlying43 info79 rfl (by decide) (by omega) v1 [] l0 _ _ _ (fun _ => True) (fun _ => False) rfl rfl HO.out HR.out (fun _ _ h => h) (fun _ h => h.elim) (fun _ _ => trivial) HB.out HB.out.size (by have := HL.out; simp only [List.length_nil]; omega) ?_; intro v2 w2 ho hb hg hat; have HO2 := Aside0.mk ho; have HB2 := Aside0.mk hb; clear ho hb hg hat))
  go_ret
  exact ⟨_, by first | rfl | (simp; done), HO2.out, HB2.out⟩
def impl_copyAttrs.f (l0 : List (S79)) : Option ((List (S79))) := (impl_Attr.f l0).bind fun t335 => (some t335)
set_option maxHeartbeats 8000000 in
set_option maxRecDepth 100000 in
theorem impl_copyAttrs.calls (A0 : Option Addr) (c0 : Nat) (l0 : List (S79)) (r : List (S79)) (w : World) (hr0 : Kd.C k79 w A0 l0.length l0) (hc0 : l0.length ≤ c0) (h : impl_copyAttrs.f l0 = some r) :
  Calls Try.prog 71 #[.slice A0 l0.length c0] w fun e w' => ∃ v0_ : Value, e = .returned (v0_) ∧ Kd.R k79 79 w' w.heap.size (fun _ => True) v0_ r ∧ Below w.heap.size w w' := by
 have HR0 := Aside0.mk hr0
 have HC0 := Aside0.mk hc0
 clear hr0 hc0
 have HB := Aside0.mk (Below.refl w.heap.size w)
 have H : ((impl_Attr.f l0).bind fun t335 => (some t335)) = some r := h
 clear h
 replace H := Option.bind_eq_some_iff.mp H
 obtain ⟨t335, A20, H⟩ := H
 replace H : (some t335) = some r := H
 have A2 := Aside0.mk A20
 clear A20
 obtain rfl := Option.some.inj H
 go_enter Try.func71, Try.ntmps71
 go_wp2_with (first | ((with_reducible refine gate_callee (f := 76) rfl ?_); refine goesL_ (some 4) rfl rfl Try.func76 (by kernel_rfl) rfl #[.slice A0 l0.length c0] rfl (by (try simp only [List.map_toArray, List.map_cons, List.map_nil]); first | done | rfl | (simp only [List.length_drop, List.length_take]; rfl)) ?_; (with_reducible refine (impl_Attr.calls _ _ l0 t335 _ ?side1 ?side2 A2.out).mono ?_); (case side1 => repeat (first | exact HR0.out | (with_reducible refine ca_ ?_ _) | (with_reducible refine cn_ ?_ _) | (with_reducible refine cd_ ?_))); (case side2 => exact HC0.out); rintro e w3 ⟨v336, rfl, ho0, hb⟩; refine ⟨_, rfl, ?_⟩; have n0_ := Aside0.mk (Kd.R_lower ho0 (below_size (by repeat (first | (with_reducible first | exact HB.out | apply ba_ | apply bn_ | apply b1_) | exact HB.out)))); have n1_ := Aside0.mk (below_step (by repeat (first | (with_reducible first | exact HB.out | apply ba_ | apply bn_ | apply b1_) | exact HB.out)) hb); clear HB; have HO337 := n0_; have HB := n1_; clear n0_ n1_; (try clear hb); (try clear hb2); (try clear hk); (try clear hi); (try clear ho0)))
 go_ret
 exact ⟨_, by first | rfl | (simp [errW_none, errW_some] <;> rfl) | (simp [*, errW_none, errW_some] <;> rfl), by (with_reducible repeat (first | apply Kd.R_alloc | apply Kd.R_drewN | apply Kd.R_drew)); exact HO337.out, by repeat (first | (with_reducible first | exact HB.out | apply ba_ | apply bn_ | apply b1_) | exact HB.out)⟩
def PRGc (W : World) (g n : Nat) (p : List (Nat × Value)) : Prop := ∀ x ∈ p, W.cell? ⟨g, n * 7 + x.1, none⟩ = some x.2
theorem PRGc.none_ (W : World) (g n : Nat) : PRGc W g n [] := fun x hx => absurd hx (by simp)
theorem PRGc.add {W : World} {g n o : Nat} {p : List (Nat × Value)} {u : Value} (h : PRGc W g n p) (hc : W.cell? ⟨g, n * 7 + o, none⟩ = some u) : PRGc W g n ((o, u) :: p) := fun x hx => by
 rcases List.mem_cons.1 hx with e | hx
 ·subst e; exact hc
 ·exact h x hx
theorem PRGc.set {W : World} {g n o : Nat} {p : List (Nat × Value)} {u u0 : Value} (h : PRGc W g n p) (ho : ∀ x ∈ p, x.1 ≠ o) (hc : W.cell? ⟨g, n * 7 + o, none⟩ = some u0) : PRGc (W.setCell ⟨g, n * 7 + o, none⟩ u) g n ((o, u) :: p) := fun x hx => by
 rcases List.mem_cons.1 hx with e | hx
 ·subst e; exact World.cell?_setCell_same _ _ _ hc
 ·rw [World.cell?_setCell_other _ _ _ _ (fun e => ho x hx (by injection e with _ e _; omega))]
  exact h x hx
theorem PRGc.below {W W1 : World} {g n : Nat} {p : List (Nat × Value)} (h : PRGc W g n p) (hb : Below W.heap.size W W1) : PRGc W1 g n p := fun x hx => pw_cell_below hb (h x hx)
def MDc (W : World) (base g : Nat) (Q : Nat → Nat → Prop) (M : List (S45)) : Prop := ∀ j, j < M.length → ∃ va vk, PRGc W g j [(0, .int .i64 (rd_T45 M (j : Int)).f0), (1, .int .i64 (rd_T45 M (j : Int)).f1), (2, .string (rd_T45 M (j : Int)).f2), (3, va), (4, .string (rd_T45 M (j : Int)).f4), (5, .int .i64 (rd_T45 M (j : Int)).f5), (6, vk)] ∧ Kd.R k79 79 W base (Q j) va (rd_T45 M (j : Int)).f3 ∧ Kd.R (Kd.int .i64) 3 W base (Q j) vk (rd_T45 M (j : Int)).f6
theorem MDc.set {W : World} {base g o : Nat} {Q : Nat → Nat → Prop} {M : List (S45)} {u : Value} (h : MDc W base g Q M) (hQ : ∀ j k, Q j k → k ≠ g) (ho : M.length * 7 ≤ o) : MDc (W.setCell ⟨g, o, none⟩ u) base g Q M := fun j hj => by
 obtain ⟨va, vk, hp, hA, hK⟩ := h j hj
 refine ⟨va, vk, fun x hx => ?_, Kd.R_far (p := ⟨g, o, none⟩) hA (fun k hk => hQ j k hk) u, Kd.R_far (p := ⟨g, o, none⟩) hK (fun k hk => hQ j k hk) u⟩
 have hx7 : x.1 < 7 := by
  simp only [List.mem_cons, List.not_mem_nil, or_false] at hx
  rcases hx with e | e | e | e | e | e | e <;> (subst e; show _ < 7; omega)
 rw [World.cell?_setCell_other _ _ _ _ (fun e => by injection e with _ e _; omega)]
 exact hp x hx
theorem MDc.below {W W1 : World} {base g : Nat} {Q : Nat → Nat → Prop} {M : List (S45)} (h : MDc W base g Q M) (hb : Below W.heap.size W W1) : MDc W1 base g Q M := fun j hj => by
 obtain ⟨va, vk, hp, hA, hK⟩ := h j hj
 exact ⟨va, vk, hp.below hb, Kd.R_below hA hb, Kd.R_below hK hb⟩
theorem MDc.snoc {W : World} {base g : Nat} {Q : Nat → Nat → Prop} {M : List (S45)} (h : MDc W base g Q M) (x : S45) {va vk : Value} (hp : PRGc W g M.length [(0, .int .i64 x.f0), (1, .int .i64 x.f1), (2, .string x.f2), (3, va), (4, .string x.f4), (5, .int .i64 x.f5), (6, vk)]) (hA : Kd.R k79 79 W base (Q M.length) va x.f3) (hK : Kd.R (Kd.int .i64) 3 W base (Q M.length) vk x.f6) : MDc W base g Q (M ++ [x]) := fun j hj => by
 rw [List.length_append] at hj
 simp only [List.length_cons, List.length_nil] at hj
 by_cases c : j < M.length
 ·have e : rd_T45 (M ++ [x]) (j : Int) = rd_T45 M (j : Int) := by
   unfold rd_T45
   rw [Int.toNat_natCast, List.getD_eq_getElem?_getD, List.getD_eq_getElem?_getD, List.getElem?_append_left c]
  rw [e]
  exact h j c
 ·have c2 : j = M.length := by omega
  subst c2
  have e : rd_T45 (M ++ [x]) ((M.length : Nat) : Int) = x := by
   unfold rd_T45
   rw [Int.toNat_natCast, List.getD_eq_getElem?_getD, List.getElem?_append_right (Nat.le_refl _), Nat.sub_self]
   rfl
  rw [e]
  exact ⟨va, vk, hp, hA, hK⟩
theorem cell_setc {W : World} {g o o2 : Nat} {u v : Value} (h : W.cell? ⟨g, o, none⟩ = some v) (ho : o ≠ o2) : (W.setCell ⟨g, o2, none⟩ u).cell? ⟨g, o, none⟩ = some v := (World.cell?_setCell_other _ _ _ _ (fun e => ho (by injection e with _ e _; exact e.symm))).trans h
theorem size_setc {W : World} {n : Nat} (h : n ≤ W.heap.size) (p : Addr) (u : Value) : n ≤ (W.setCell p u).heap.size := by simpa using h
theorem MDc.mono {W : World} {base g : Nat} {Q Q' : Nat → Nat → Prop} {M : List (S45)} (h : MDc W base g Q M) (hQ : ∀ j k, j < M.length → Q j k → Q' j k) : MDc W base g Q' M := fun j hj => by
 obtain ⟨va, vk, hp, hA, hK⟩ := h j hj
 exact ⟨va, vk, hp, Kd.R_mono hA (fun k hk => hQ j k hj hk), Kd.R_mono hK (fun k hk => hQ j k hj hk)⟩
theorem rdc_at {l : List (S45)} {j : Nat} {p : S45} (hp : l[j]? = some p) : rd_T45 l (j : Int) = p := by
 unfold rd_T45
 rw [Int.toNat_natCast, List.getD_eq_getElem?_getD, hp]
 rfl
theorem rdc_take {l : List (S45)} {n : Nat} (hn : n < l.length) : l.take (n + 1) = l.take n ++ [rd_T45 l (n : Int)] := by
 rw [rdc_at (List.getElem?_eq_getElem hn), List.take_add_one, List.getElem?_eq_getElem hn]
 rfl
def RDc (w W : World) (g n : Nat) (l : List (S45)) : Prop := ∀ j p, n ≤ j → l[j]? = some p → ∃ cs, k45.K w p cs ∧ ∀ i u, cs[i]? = some u → W.cell? ⟨g, j * 7 + i, none⟩ = some u
theorem RDc.below {w W W1 : World} {g n : Nat} {l : List (S45)} (h : RDc w W g n l) (hb : Below W.heap.size W W1) : RDc w W1 g n l := fun j p hn hp => by
 obtain ⟨cs, hk, hc⟩ := h j p hn hp
 exact ⟨cs, hk, fun i u hu => pw_cell_below hb (hc i u hu)⟩
theorem RDc.set {w W : World} {g n : Nat} {l : List (S45)} (h : RDc w W g n l) (o : Nat) (ho : o < n * 7) (u0 : Value) : RDc w (W.setCell ⟨g, o, none⟩ u0) g n l := fun j p hn hp => by
 obtain ⟨cs, hk, hc⟩ := h j p hn hp
 refine ⟨cs, hk, fun i u hu => ?_⟩
 rw [World.cell?_setCell_other _ _ _ _ (fun e => by injection e with _ e _; omega)]
 exact hc i u hu
theorem RDc.next {w W : World} {g n : Nat} {l : List (S45)} (h : RDc w W g n l) : RDc w W g (n + 1) l := fun j p hn hp => h j p (by omega) hp
theorem RDc.at_ {w W : World} {g n : Nat} {l : List (S45)} (h : RDc w W g n l) (hn : n < l.length) : ∃ A3 c3 A6 c6, PRGc W g n [(0, .int .i64 (rd_T45 l (n : Int)).f0), (1, .int .i64 (rd_T45 l (n : Int)).f1), (2, .string (rd_T45 l (n : Int)).f2), (4, .string (rd_T45 l (n : Int)).f4), (5, .int .i64 (rd_T45 l (n : Int)).f5)] ∧ W.cell? ⟨g, n * 7 + 3, none⟩ = some (.slice A3 (rd_T45 l (n : Int)).f3.length c3) ∧ W.cell? ⟨g, n * 7 + 6, none⟩ = some (.slice A6 (rd_T45 l (n : Int)).f6.length c6) ∧ (rd_T45 l (n : Int)).f3.length ≤ c3 ∧ k79.C w A3 (rd_T45 l (n : Int)).f3.length (rd_T45 l (n : Int)).f3 ∧ (rd_T45 l (n : Int)).f6.length ≤ c6 ∧ (Kd.int .i64).C w A6 (rd_T45 l (n : Int)).f6.length (rd_T45 l (n : Int)).f6 := by
 rw [rdc_at (List.getElem?_eq_getElem hn)]
 obtain ⟨cs, hk, hc⟩ := h n _ (Nat.le_refl _) (List.getElem?_eq_getElem hn)
 obtain ⟨A3, c3, A6, c6, rfl, l3, g3, l6, g6⟩ := k45_open hk
 refine ⟨A3, c3, A6, c6, fun x hx => ?_, hc 3 _ rfl, hc 6 _ rfl, l3, g3, l6, g6⟩
 simp only [List.mem_cons, List.not_mem_nil, or_false] at hx
 rcases hx with e | e | e | e | e <;> subst e
 ·exact hc 0 _ rfl
 ·exact hc 1 _ rfl
 ·exact hc 2 _ rfl
 ·exact hc 4 _ rfl
 ·exact hc 5 _ rfl
def CGc (W : World) (g cap : Nat) : Prop := ∃ cells : Array Value, W.heap[g]? = some (.cells cells 45 (0, 0)) ∧ cells.size = cap * 7
theorem CGc.below {W W1 : World} {g cap : Nat} (h : CGc W g cap) (hb : Below W.heap.size W W1) : CGc W1 g cap := by
 obtain ⟨cells, hc, hs⟩ := h
 exact ⟨cells, blk_below hc hb, hs⟩
theorem CGc.set {W : World} {g cap : Nat} (h : CGc W g cap) (o : Nat) (u : Value) : CGc (W.setCell ⟨g, o, none⟩ u) g cap := by
 obtain ⟨cells, hc, hs⟩ := h
 exact ⟨cells.setIfInBounds o u, blk_set hc o u, by simpa using hs⟩
theorem CGc.lt {W : World} {g cap : Nat} (h : CGc W g cap) : g < W.heap.size := by
 obtain ⟨cells, hc, _⟩ := h
 exact blk_lt hc
theorem CGc.cell {W : World} {g cap : Nat} (h : CGc W g cap) (o : Nat) (ho : o < cap * 7) : ∃ u, W.cell? ⟨g, o, none⟩ = some u := by
 obtain ⟨cells, hc, hs⟩ := h
 exact ⟨cells[o]'(by omega), (bc_ hc o).trans (Array.getElem?_eq_getElem (by omega))⟩
theorem CGc.frozen {W : World} {g cap : Nat} (h : CGc W g cap) (o : Nat) : W.frozen? ⟨g, o, none⟩ = false := by
 obtain ⟨cells, hc, _⟩ := h
 exact blk_frozen hc o
def QOc (W : World) (g : Nat) (Q : Nat → Nat → Prop) : Prop := (∀ i j k, Q i k → Q j k → i = j) ∧ ∀ j k, Q j k → k < W.heap.size ∧ k ≠ g
theorem S_of_MDc {W : World} {base g cap : Nat} {Q : Nat → Nat → Prop} {l : List (S45)} (hg : CGc W g cap) (hcap : l.length ≤ cap) (hmx : cap ≤ maxLen) (hb : base ≤ g) (hQ : QOc W g Q) (h : MDc W base g Q l) : Kd.S k45 45 W base (fun _ => True) (.slice (some ⟨g, 0, none⟩) l.length cap) l := by
 classical
 obtain ⟨cells, hc, hsz⟩ := hg
 have hl7 : (cells.toList.take (l.length * 7)).length = l.length * 7 := by
  rw [List.length_take, Array.length_toList (xs := cells), hsz]
  omega
 refine ⟨fun k => if h : ∃ j, Q j k then Classical.choose h else 0, fun _ _ => trivial, cells.toList.take (l.length * 7), ⟨by rw [List.length_zipIdx]; exact hl7, .inr ⟨g, cap, cells, by rw [List.length_zipIdx], hb, hc, by rw [List.length_zipIdx]; exact hcap, hmx, hsz, by rw [List.length_zipIdx]; rfl⟩⟩, by rw [List.length_zipIdx]; exact hl7, fun j p hp => ?_⟩
 ·rw [List.getElem?_zipIdx] at hp
  obtain ⟨x, hx, rfl⟩ := Option.map_eq_some_iff.1 hp
  have hj := (List.getElem?_eq_some_iff.1 hx).1
  obtain ⟨va, vk, hpr, hA, hK⟩ := h j hj
  rw [rdc_at hx] at hpr hA hK
  have e7 : (Kd.tag (fun k => if h : ∃ j, Q j k then Classical.choose h else 0) k45).sz = 7 := rfl
  rw [e7]
  have el : (List.drop (j * 7) (cells.toList.take (l.length * 7))).take 7 = [.int .i64 x.f0, .int .i64 x.f1, .string x.f2, va, .string x.f4, .int .i64 x.f5, vk] := by
   have hat : ∀ i, i < 7 → ((List.drop (j * 7) (cells.toList.take (l.length * 7))).take 7)[i]? = W.cell? ⟨g, j * 7 + i, none⟩ := fun i hi => by
    rw [List.getElem?_take, if_pos hi, List.getElem?_drop, List.getElem?_take, if_pos (by omega), Array.getElem?_toList, bc_ hc]
   apply List.ext_getElem?
   intro i
   by_cases hi : i < 7
   ·rw [hat i hi]
    match i, hi with
    | 0, _ => exact hpr (0, _) (by simp)
    | 1, _ => exact hpr (1, _) (by simp)
    | 2, _ => exact hpr (2, _) (by simp)
    | 3, _ => exact hpr (3, _) (by simp)
    | 4, _ => exact hpr (4, _) (by simp)
    | 5, _ => exact hpr (5, _) (by simp)
    | 6, _ => exact hpr (6, _) (by simp)
   ·rw [List.getElem?_eq_none (by rw [List.length_take]; omega), List.getElem?_eq_none (by simp; omega)]
  rw [el]
  have hf : ∀ k, Q j k → (if h : ∃ j, Q j k then Classical.choose h else 0) = j := fun k hk => by
   rw [dif_pos ⟨j, hk⟩]
   exact hQ.1 _ _ k (Classical.choose_spec (⟨j, hk⟩ : ∃ j, Q j k)) hk
  have hq : ∀ k, Q j k → ((True ∧ some k ≠ (Value.slice (some ⟨g, 0, none⟩) l.length cap).ownBlock) ∧ (if h : ∃ j, Q j k then Classical.choose h else 0) = (x, 0 + j).2) := fun k hk => ⟨⟨trivial, fun e => (hQ.2 j k hk).2 (by simpa [Value.ownBlock] using e)⟩, by rw [hf k hk]; exact (Nat.zero_add j).symm⟩
  exact k45_mkM W base _ x (Kd.R_mono hA hq) (Kd.R_mono hK hq)
def impl_copyItems.f (l0 : List (S45)) : Option (List (S45)) := if l0.length < 1353245080339 ∧ ∀ x ∈ l0, x.f3.length < 4398046511104 ∧ x.f6.length < 17592186044416 then some l0 else none
set_option maxHeartbeats 8000000 in
set_option maxRecDepth 100000 in
theorem impl_copyItems.calls (A0 : Option Addr) (c0 : Nat) (l0 : List (S45)) (r : List (S45)) (w : World) (hr0 : Kd.C k45 w A0 l0.length l0) (hc0 : l0.length ≤ c0) (h : impl_copyItems.f l0 = some r) :
  Calls Try.prog 58 #[.slice A0 l0.length c0] w fun e w' => ∃ v0_ : Value, e = .returned (v0_) ∧ Kd.S k45 45 w' w.heap.size (fun _ => True) v0_ r ∧ Below w.heap.size w w' := by
 unfold impl_copyItems.f at h
 by_cases c1 : l0.length < 1353245080339 ∧ ∀ x ∈ l0, x.f3.length < 4398046511104 ∧ x.f6.length < 17592186044416
 rotate_left
 ·rw [if_neg c1] at h; exact absurd h (by simp)
 rw [if_pos c1] at h
 obtain rfl := Option.some.inj h
 have HL := Aside0.mk c1
 have HX := Aside0.mk (show impl_Item.f l0 = some l0 by unfold impl_Item.f; rw [if_pos c1.1])
 have HR := Aside0.mk hr0
 have HC := Aside0.mk hc0
 clear h c1 hr0 hc0
 go_enter Try.func58, Try.ntmps58
 go_wp2_with (go_at_call 70; refine (impl_Item.calls A0 c0 l0 l0 _ HR.out HC.out HX.out).mono ?_; rintro e w1 ⟨v, rfl, hci, hb⟩; obtain ⟨A1, c1, rfl⟩ := CI.slice hci; have HCI := Aside0.mk hci; have HB := Aside0.mk hb; clear hci hb)
 rcases HCI.out with ⟨e0, e1⟩ | ⟨g, cap, cells, e1, hbg, hc, hcap, hmx, hsz, hcl⟩
 ·subst e0
  injection e1 with e1 _ e2
  subst e1
  subst e2
  go_loopg [9] 0 (fun kq v9 w' => v9 = .int .i64 0 ∧ w' = w1)
  case atStart => exact ⟨rfl, rfl⟩
  case round =>
   obtain ⟨rfl, rfl⟩ := hrel
   go_wp2
   go_ret
   exact ⟨_, by first | rfl | (simp; done), ⟨fun _ => 0, Kd.R_nil _ _ _ _ _⟩, HB.out⟩
 injection e1 with e1 _ e2
 subst e1
 replace e2 := e2.symm
 subst e2
 have HBG := Aside0.mk hbg
 have HCAP := Aside0.mk hcap
 have HMX := Aside0.mk hmx
 have HG := Aside0.mk (show CGc w1 g cap from ⟨cells, hc, hsz⟩)
 have HD := Aside0.mk (show RDc w w1 g 0 l0 from fun j p _ hp => by obtain ⟨cs, hk, hu⟩ := hcl j p hp; exact ⟨cs, hk, fun i u h => (bc_ hc _).trans (hu i u h)⟩)
 clear HCI hbg hc hcap hmx hsz hcl HX
 go_loopg [9] l0.length (fun kq v9 w' => ∃ (n : Nat) (Q : Nat → Nat → Prop), v9 = .int .i64 (n : Int) ∧ Aside0 (kq + n = l0.length) ∧ Aside0 (Below w.heap.size w w') ∧ Aside0 (CGc w' g cap) ∧ Aside0 (RDc w w' g n l0) ∧ Aside0 (QOc w' g Q) ∧ Aside0 (MDc w' w.heap.size g Q (l0.take n)))
 case atStart => exact ⟨0, fun _ _ => False, rfl, ⟨rfl⟩, HB, HG, HD, ⟨fun _ _ _ h => h.elim, fun _ _ h => h.elim⟩, ⟨fun j hj => absurd hj (by simp)⟩⟩
 case round =>
  clear HB HG HD
  obtain ⟨n, Q, rfl, HN, HB, HG, HD, HQ, HMD⟩ := hrel
  by_cases ct : (n : Int) < (l0.length : Int)
  rotate_left
  ·have c3b0 : decide ((n : Int) < (l0.length : Int)) = false := decide_eq_false ct
   have c3b1 : decide (n < l0.length) = false := decide_eq_false (by omega)
   have HE := Aside0.mk (show l0.take n = l0 from List.take_of_length_le (by omega))
   clear ct
   go_wp2
   go_ret
   exact ⟨_, by first | rfl | (simp; done), S_of_MDc HG.out HCAP.out HMX.out HBG.out HQ.out (by have h := HMD.out; rw [HE.out] at h; exact h), HB.out⟩
  have c3b0 : decide ((n : Int) < (l0.length : Int)) = true := decide_eq_true ct
  have c3b1 : decide (n < l0.length) = true := decide_eq_true (by omega)
  have HNL := Aside0.mk (show n < l0.length by omega)
  have HNC := Aside0.mk (show n < cap by have := HCAP.out; omega)
  have HTL := Aside0.mk (show (l0.take n).length = n by rw [List.length_take]; omega)
  have p0 : ((0 : Int) ≤ (n : Int)) = True := eq_true (by omega)
  have q0 : ((n : Int) < (l0.length : Int)) = True := eq_true ct
  have HW := Aside0.mk (show wrap64 ((n : Int) + 1) = ((n + 1 : Nat) : Int) by have := HL.out.1; unfold wrap64; omega)
  obtain ⟨A3, c3, A6, c6, hpr, hv3, hv6, hl3, hg3, hl6, hg6⟩ := RDc.at_ HD.out HNL.out
  have hin : (rd_T45 l0 (n : Int)) ∈ l0 := by
   rw [rdc_at (List.getElem?_eq_getElem HNL.out)]
   exact List.getElem_mem _
  have HAX := Aside0.mk (show impl_copyAttrs.f (rd_T45 l0 (n : Int)).f3 = some (rd_T45 l0 (n : Int)).f3 by unfold impl_copyAttrs.f impl_Attr.f; rw [if_pos (HL.out.2 _ hin).1]; rfl)
  have HKX := Aside0.mk (show slices_Clone_int_int.f (rd_T45 l0 (n : Int)).f6 = some (rd_T45 l0 (n : Int)).f6 by unfold slices_Clone_int_int.f; rw [if_pos (HL.out.2 _ hin).2])
  have HAC := Aside0.mk hg3
  have HAL := Aside0.mk hl3
  have HKC := Aside0.mk hg6
  have HKL := Aside0.mk hl6
  have HF := Aside0.mk hpr
  have HV6 := Aside0.mk hv6
  have HZ := Aside0.mk (Nat.le_refl wr.heap.size)
  have HGW := Aside0.mk (CGc.lt HG.out)
  have n0_ := Aside0.mk (RDc.next HD.out)
  clear HD
  have HD := n0_
  clear n0_ ct hpr hv6 hl3 hg3 hl6 hg6 hin
  go_wp2_with (first | (go_at_call 71; refine (impl_copyAttrs.calls A3 c3 (rd_T45 l0 (n : Int)).f3 (rd_T45 l0 (n : Int)).f3 _ (Kd.C_below HAC.out HB.out) HAL.out HAX.out).mono ?_; rintro e w2 ⟨vA, rfl, hr_, hb⟩; obtain ⟨AA7, cA7, rfl⟩ := Kd.R_slice hr_; have HRA := Aside0.mk (Kd.R_mono (ok' := fun k => wr.heap.size ≤ k) (Kd.R_lower (Kd.R_bound hr_) HB.out.size) (fun k hk => Nat.le_trans HZ.out hk.2.1)); have n0_ := Aside0.mk (CGc.below HG.out hb); have n1_ := Aside0.mk (RDc.below HD.out hb); have n2_ := Aside0.mk (MDc.below HMD.out hb); have n3_ := Aside0.mk (PRGc.below HF.out hb); have n4_ := Aside0.mk (below_step HB.out hb); have n5_ := Aside0.mk (Nat.le_trans HZ.out hb.size); have n6_ := Aside0.mk (pw_cell_below hb HV6.out); clear HG HD HMD HF HB HZ HV6; have HG := n0_; have HD := n1_; have HMD := n2_; have HF := n3_; have HB := n4_; have HZ := n5_; have HV6 := n6_; clear n0_ n1_ n2_ n3_ n4_ n5_ n6_; clear hr_ hb) | ((with_reducible refine gate_store (t := 43) (p := 21) rfl ?_); obtain ⟨u3_, hu3_⟩ := CGc.cell HG.out (n * 7 + 3) (by have := HNC.out; omega); have hf3_ := CGc.frozen HG.out (n * 7 + 3); refine store_event (t := 43) (p := 21) (v := ?vo_3) (w1 := ?w1_3) ?hg ?ho ?hn ?hr ?_; (case ho => rfl); (case hg => rfl); (case hn => rfl); (case hr => go_simp; rfl); intro w3 hw3; subst hw3; have n0_ := Aside0.mk (CGc.set HG.out (n * 7 + 3) ((.slice AA7 (rd_T45 l0 (n : Int)).f3.length cA7))); have n1_ := Aside0.mk (RDc.set HD.out (n * 7 + 3) (by omega) ((.slice AA7 (rd_T45 l0 (n : Int)).f3.length cA7))); have n2_ := Aside0.mk (MDc.set (o := n * 7 + 3) (u := (.slice AA7 (rd_T45 l0 (n : Int)).f3.length cA7)) HMD.out (fun j k hk => (HQ.out.2 j k hk).2) (by have := HTL.out; omega)); have n3_ := Aside0.mk (PRGc.set (o := 3) (u := (.slice AA7 (rd_T45 l0 (n : Int)).f3.length cA7)) HF.out (by simp) hu3_); have n4_ := Aside0.mk (Below.setCell HB.out (p := ⟨g, n * 7 + 3, none⟩) HBG.out ((.slice AA7 (rd_T45 l0 (n : Int)).f3.length cA7))); have n5_ := Aside0.mk (size_setc HZ.out ⟨g, n * 7 + 3, none⟩ ((.slice AA7 (rd_T45 l0 (n : Int)).f3.length cA7))); have n6_ := Aside0.mk (Kd.R_far (p := ⟨g, n * 7 + 3, none⟩) HRA.out (fun k hk => Nat.ne_of_gt (Nat.lt_of_lt_of_le HGW.out hk)) ((.slice AA7 (rd_T45 l0 (n : Int)).f3.length cA7))); have n7_ := Aside0.mk (cell_setc (o2 := n * 7 + 3) (u := (.slice AA7 (rd_T45 l0 (n : Int)).f3.length cA7)) HV6.out (by omega)); clear HG HD HMD HF HB HZ HRA HV6; have HG := n0_; have HD := n1_; have HMD := n2_; have HF := n3_; have HB := n4_; have HZ := n5_; have HRA := n6_; have HV6 := n7_; clear n0_ n1_ n2_ n3_ n4_ n5_ n6_ n7_; clear hu3_ hf3_; have hv6 := HV6.out) | (go_at_call 59; refine (slices_Clone_int_int.calls A6 c6 (rd_T45 l0 (n : Int)).f6 (rd_T45 l0 (n : Int)).f6 _ (Kd.C_below HKC.out HB.out) HKL.out HKX.out).mono ?_; rintro e w4 ⟨vK, rfl, hr_, hb⟩; obtain ⟨AK7, cK7, rfl⟩ := Kd.R_slice hr_; have HRK := Aside0.mk (Kd.R_mono (ok' := fun k => wr.heap.size ≤ k) (Kd.R_lower (Kd.R_bound hr_) HB.out.size) (fun k hk => Nat.le_trans HZ.out hk.2.1)); have n0_ := Aside0.mk (CGc.below HG.out hb); have n1_ := Aside0.mk (RDc.below HD.out hb); have n2_ := Aside0.mk (MDc.below HMD.out hb); have n3_ := Aside0.mk (PRGc.below HF.out hb); have n4_ := Aside0.mk (below_step HB.out hb); have n5_ := Aside0.mk (Nat.le_trans HZ.out hb.size); have n6_ := Aside0.mk (Kd.R_below HRA.out hb); clear HG HD HMD HF HB HZ HRA; have HG := n0_; have HD := n1_; have HMD := n2_; have HF := n3_; have HB := n4_; have HZ := n5_; have HRA := n6_; clear n0_ n1_ n2_ n3_ n4_ n5_ n6_; clear hr_ hb) | ((with_reducible refine gate_store (t := 23) (p := 31) rfl ?_); obtain ⟨u5_, hu5_⟩ := CGc.cell HG.out (n * 7 + 6) (by have := HNC.out; omega); have hf5_ := CGc.frozen HG.out (n * 7 + 6); refine store_event (t := 23) (p := 31) (v := ?vo_5) (w1 := ?w1_5) ?hg ?ho ?hn ?hr ?_; (case ho => rfl); (case hg => rfl); (case hn => rfl); (case hr => go_simp; rfl); intro w5 hw5; subst hw5; have n0_ := Aside0.mk (CGc.set HG.out (n * 7 + 6) ((.slice AK7 (rd_T45 l0 (n : Int)).f6.length cK7))); have n1_ := Aside0.mk (RDc.set HD.out (n * 7 + 6) (by omega) ((.slice AK7 (rd_T45 l0 (n : Int)).f6.length cK7))); have n2_ := Aside0.mk (MDc.set (o := n * 7 + 6) (u := (.slice AK7 (rd_T45 l0 (n : Int)).f6.length cK7)) HMD.out (fun j k hk => (HQ.out.2 j k hk).2) (by have := HTL.out; omega)); have n3_ := Aside0.mk (PRGc.set (o := 6) (u := (.slice AK7 (rd_T45 l0 (n : Int)).f6.length cK7)) HF.out (by simp) hu5_); have n4_ := Aside0.mk (Below.setCell HB.out (p := ⟨g, n * 7 + 6, none⟩) HBG.out ((.slice AK7 (rd_T45 l0 (n : Int)).f6.length cK7))); have n5_ := Aside0.mk (size_setc HZ.out ⟨g, n * 7 + 6, none⟩ ((.slice AK7 (rd_T45 l0 (n : Int)).f6.length cK7))); have n6_ := Aside0.mk (Kd.R_far (p := ⟨g, n * 7 + 6, none⟩) HRA.out (fun k hk => Nat.ne_of_gt (Nat.lt_of_lt_of_le HGW.out hk)) ((.slice AK7 (rd_T45 l0 (n : Int)).f6.length cK7))); have n7_ := Aside0.mk (Kd.R_far (p := ⟨g, n * 7 + 6, none⟩) HRK.out (fun k hk => Nat.ne_of_gt (Nat.lt_of_lt_of_le HGW.out hk)) ((.slice AK7 (rd_T45 l0 (n : Int)).f6.length cK7))); clear HG HD HMD HF HB HZ HRA HRK; have HG := n0_; have HD := n1_; have HMD := n2_; have HF := n3_; have HB := n4_; have HZ := n5_; have HRA := n6_; have HRK := n7_; clear n0_ n1_ n2_ n3_ n4_ n5_ n6_ n7_; clear hu5_ hf5_))
  have HRA2 := Aside0.mk (Kd.R_bound HRA.out)
  have HRK2 := Aside0.mk (Kd.R_bound HRK.out)
  have HMD2 := Aside0.mk (MDc.snoc (MDc.mono (Q' := (fun j k => (j = n ∧ wr.heap.size ≤ k ∧ k < (World.setCell w4 ⟨g, n * 7 + 6, none⟩ (.slice AK7 (rd_T45 l0 (n : Int)).f6.length cK7)).heap.size) ∨ (j ≠ n ∧ Q j k))) HMD.out (fun j k hj hq => .inr ⟨by have := HTL.out; omega, hq⟩)) (rd_T45 l0 (n : Int)) (va := .slice AA7 (rd_T45 l0 (n : Int)).f3.length cA7) (vk := .slice AK7 (rd_T45 l0 (n : Int)).f6.length cK7) (by rw [HTL.out]; intro x hx; exact HF.out x (by simp only [List.mem_cons, List.not_mem_nil, or_false] at hx ⊢; rcases hx with e | e | e | e | e | e | e <;> (subst e; simp))) (by rw [HTL.out]; exact Kd.R_mono HRA2.out (fun k hk => .inl ⟨rfl, hk.1, hk.2.2.1⟩)) (by rw [HTL.out]; exact Kd.R_mono HRK2.out (fun k hk => .inl ⟨rfl, hk.1, hk.2.2.1⟩)))
  go_roundg (gk - 1)
  case measure => have := HN.out; have := HNL.out; omega
  case rel => exact ⟨n + 1, (fun j k => (j = n ∧ wr.heap.size ≤ k ∧ k < (World.setCell w4 ⟨g, n * 7 + 6, none⟩ (.slice AK7 (rd_T45 l0 (n : Int)).f6.length cK7)).heap.size) ∨ (j ≠ n ∧ Q j k)), by rw [HW.out], ⟨by have := HN.out; have := HNL.out; omega⟩, HB, HG, HD, ⟨fun i j k h1 h2 => by
    rcases h1 with ⟨e1, h1, _⟩ | ⟨e1, h1⟩ <;> rcases h2 with ⟨e2, h2, _⟩ | ⟨e2, h2⟩
    ·omega
    ·exact absurd (HQ.out.2 j k h2).1 (Nat.not_lt.2 h1)
    ·exact absurd (HQ.out.2 i k h1).1 (Nat.not_lt.2 h2)
    ·exact HQ.out.1 i j k h1 h2, fun j k h1 => by
    rcases h1 with ⟨_, h1, h2⟩ | ⟨_, h1⟩
    ·exact ⟨h2, Nat.ne_of_gt (Nat.lt_of_lt_of_le HGW.out h1)⟩
    ·exact ⟨Nat.lt_of_lt_of_le (HQ.out.2 j k h1).1 HZ.out, (HQ.out.2 j k h1).2⟩⟩, ⟨by rw [rdc_take HNL.out]; exact HMD2.out⟩⟩
def impl_copyPage.f (l0_0 : List (S45)) (l0_1 : List Int) (l0_2 : List Int) (a0_3 : Int) (a0_4 : Int) : Option ((List (S45)) × List Int × List Int × Int × Int) := (impl_copyItems.f l0_0).bind fun t340 => ((slices_Clone_int_int.f l0_1).bind fun t343 => ((slices_Clone_int_int.f l0_2).bind fun t346 => (some (t340, t343, t346, a0_3, a0_4))))
set_option maxHeartbeats 8000000 in
set_option maxRecDepth 100000 in
theorem impl_copyPage.calls (A0_0 : Option Addr) (c0_0 : Nat) (l0_0 : List (S45)) (A0_1 : Option Addr) (c0_1 : Nat) (l0_1 : List Int) (A0_2 : Option Addr) (c0_2 : Nat) (l0_2 : List Int) (a0_3 : Int) (a0_4 : Int) (r1 : List (S45)) (r2 : List Int) (r3 : List Int) (r4 : Int) (r5 : Int) (w : World) (hr0_0 : Kd.C k45 w A0_0 l0_0.length l0_0) (hc0_0 : l0_0.length ≤ c0_0) (hr0_1 : Kd.C (Kd.int .i64) w A0_1 l0_1.length l0_1) (hc0_1 : l0_1.length ≤ c0_1) (hr0_2 : Kd.C (Kd.int .i64) w A0_2 l0_2.length l0_2) (hc0_2 : l0_2.length ≤ c0_2) (h : impl_copyPage.f l0_0 l0_1 l0_2 a0_3 a0_4 = some (r1, r2, r3, r4, r5)) :
  Calls Try.prog 41 #[.agg #[.slice A0_0 l0_0.length c0_0, .slice A0_1 l0_1.length c0_1, .slice A0_2 l0_2.length c0_2, .int .i64 a0_3, .int .i64 a0_4]] w fun e w' => ∃ v0_ v1_ v2_ : Value, e = .returned (.agg #[v0_, v1_, v2_, .int .i64 r4, .int .i64 r5]) ∧ Kd.S k45 45 w' w.heap.size (fun k_ => some k_ ≠ (v1_ : Value).ownBlock ∧ some k_ ≠ (v2_ : Value).ownBlock) v0_ r1 ∧ Kd.R (Kd.int .i64) 3 w' w.heap.size (fun k_ => some k_ ≠ (v2_ : Value).ownBlock) v1_ r2 ∧ Kd.R (Kd.int .i64) 3 w' w.heap.size (fun k_ => some k_ ≠ (v1_ : Value).ownBlock) v2_ r3 ∧ Below w.heap.size w w' := by
 have hu25 := Try.underlying25
 have HR0_0 := Aside0.mk hr0_0
 have HC0_0 := Aside0.mk hc0_0
 clear hr0_0 hc0_0
 have HR0_1 := Aside0.mk hr0_1
 have HC0_1 := Aside0.mk hc0_1
 clear hr0_1 hc0_1
 have HR0_2 := Aside0.mk hr0_2
 have HC0_2 := Aside0.mk hc0_2
 clear hr0_2 hc0_2
 have HB := Aside0.mk (Below.refl w.heap.size w)
 have H : ((impl_copyItems.f l0_0).bind fun t340 => ((slices_Clone_int_int.f l0_1).bind fun t343 => ((slices_Clone_int_int.f l0_2).bind fun t346 => (some (t340, t343, t346, a0_3, a0_4))))) = some (r1, r2, r3, r4, r5) := h
 clear h
 replace H := Option.bind_eq_some_iff.mp H
 obtain ⟨t340, A20, H⟩ := H
 replace H : ((slices_Clone_int_int.f l0_1).bind fun t343 => ((slices_Clone_int_int.f l0_2).bind fun t346 => (some (t340, t343, t346, a0_3, a0_4)))) = some (r1, r2, r3, r4, r5) := H
 have A2 := Aside0.mk A20
 clear A20
 replace H := Option.bind_eq_some_iff.mp H
 obtain ⟨t343, A30, H⟩ := H
 replace H : ((slices_Clone_int_int.f l0_2).bind fun t346 => (some (t340, t343, t346, a0_3, a0_4))) = some (r1, r2, r3, r4, r5) := H
 have A3 := Aside0.mk A30
 clear A30
 replace H := Option.bind_eq_some_iff.mp H
 obtain ⟨t346, A40, H⟩ := H
 replace H : (some (t340, t343, t346, a0_3, a0_4)) = some (r1, r2, r3, r4, r5) := H
 have A4 := Aside0.mk A40
 clear A40
 simp only [Option.some.injEq, Prod.mk.injEq] at H
 obtain ⟨rfl, rfl, rfl, rfl, rfl⟩ := H
 go_enter Try.func41, Try.ntmps41
 go_wp2_with (first | ((with_reducible refine gate_dst (N := 1) rfl ?_); refine box_event ?hg (N := 1) ?hd (cs := #[.slice A0_0 l0_0.length c0_0, .slice A0_1 l0_1.length c0_1, .slice A0_2 l0_2.length c0_2, .int .i64 a0_3, .int .i64 a0_4]) (t := 25) ?hr ?_; (case hd => rfl); (case hg => rfl); (case hr => first | (go_simp; done) | (go_simp; rfl)); intro gb338 hg w5 hbox hb; have n0_ := Aside0.mk (below_step (by repeat (first | (with_reducible first | exact HB.out | apply ba_ | apply bn_ | apply b1_) | exact HB.out)) hb); have n1_ := Aside0.mk (hbox); have n2_ := Aside0.mk ((by rw [hg]; exact (below_size (by repeat (first | (with_reducible first | exact HB.out | apply ba_ | apply bn_ | apply b1_) | exact HB.out))) : w.heap.size ≤ gb338)); have n3_ := Aside0.mk ((by rw [hg]; exact (below_size (by repeat (first | (with_reducible first | exact HB.out | apply ba_ | apply bn_ | apply b1_) | exact HB.out))) : w.heap.size ≤ gb338)); clear HB; have HB := n0_; have BK338 := n1_; have GW338 := n2_; have GE338 := n3_; clear n0_ n1_ n2_ n3_; clear hb hbox hg) | ((with_reducible refine gate_dst (N := 2) rfl ?_); refine box_event ?hg (N := 2) ?hd (cs := #[.slice none 0 0, .slice none 0 0, .slice none 0 0, .int .i64 0, .int .i64 0]) (t := 25) ?hr ?_; (case hd => rfl); (case hg => rfl); (case hr => first | (go_simp; done) | (go_simp; rfl)); intro gb339 hg w6 hbox hb; have n0_ := Aside0.mk (blk_below (g := gb338) (o := .cells #[.slice A0_0 l0_0.length c0_0, .slice A0_1 l0_1.length c0_1, .slice A0_2 l0_2.length c0_2, .int .i64 a0_3, .int .i64 a0_4] 25 (0, 0)) (by (with_reducible repeat (first | refine dn_ ?_ _ | refine dd_ ?_ | refine da_ ?_ _)); exact BK338.out) hb); have n1_ := Aside0.mk (below_step (by repeat (first | (with_reducible first | exact HB.out | apply ba_ | apply bn_ | apply b1_ | refine below_set ?_ GE338.out) | exact HB.out)) hb); have n2_ := Aside0.mk (hbox); have n3_ := Aside0.mk ((by rw [hg]; exact (below_size (by repeat (first | (with_reducible first | exact HB.out | apply ba_ | apply bn_ | apply b1_ | refine below_set ?_ GE338.out) | exact HB.out))) : w.heap.size ≤ gb339)); have n4_ := Aside0.mk ((by rw [hg]; exact (below_size (by repeat (first | (with_reducible first | exact HB.out | apply ba_ | apply bn_ | apply b1_ | refine below_set ?_ GE338.out) | exact HB.out))) : w.heap.size ≤ gb339)); have n5_ := Aside0.mk ((by rw [hg]; exact Nat.ne_of_lt (blk_lt (g := gb338) (o := .cells #[.slice A0_0 l0_0.length c0_0, .slice A0_1 l0_1.length c0_1, .slice A0_2 l0_2.length c0_2, .int .i64 a0_3, .int .i64 a0_4] 25 (0, 0)) (by (with_reducible repeat (first | refine dn_ ?_ _ | refine dd_ ?_ | refine da_ ?_ _)); exact BK338.out)) : gb338 ≠ gb339)); have n6_ := Aside0.mk ((by rw [hg]; exact Nat.ne_of_gt (blk_lt (g := gb338) (o := .cells #[.slice A0_0 l0_0.length c0_0, .slice A0_1 l0_1.length c0_1, .slice A0_2 l0_2.length c0_2, .int .i64 a0_3, .int .i64 a0_4] 25 (0, 0)) (by (with_reducible repeat (first | refine dn_ ?_ _ | refine dd_ ?_ | refine da_ ?_ _)); exact BK338.out)) : gb339 ≠ gb338)); clear BK338; clear HB; have BK338 := n0_; have HB := n1_; have BK339 := n2_; have GW339 := n3_; have GE339 := n4_; have NB338_339 := n5_; have NB339_338 := n6_; clear n0_ n1_ n2_ n3_ n4_ n5_ n6_; clear hb hbox hg; have hnb7 := NB338_339.out; have hnc7 := NB339_338.out; have hcz8_0 : w6.cell? ⟨gb338, 0, none⟩ = some (.slice A0_0 l0_0.length c0_0) := (bc_ BK338.out 0).trans rfl; have hcz8_1 : w6.cell? ⟨gb338, 1, none⟩ = some (.slice A0_1 l0_1.length c0_1) := (bc_ BK338.out 1).trans rfl; have hcz8_2 : w6.cell? ⟨gb338, 2, none⟩ = some (.slice A0_2 l0_2.length c0_2) := (bc_ BK338.out 2).trans rfl; have hcz8_3 : w6.cell? ⟨gb338, 3, none⟩ = some (.int .i64 a0_3) := (bc_ BK338.out 3).trans rfl; have hcz8_4 : w6.cell? ⟨gb338, 4, none⟩ = some (.int .i64 a0_4) := (bc_ BK338.out 4).trans rfl; have hfz8_0 := blk_frozen BK338.out 0; have hfz8_1 := blk_frozen BK338.out 1; have hfz8_2 := blk_frozen BK338.out 2; have hfz8_3 := blk_frozen BK338.out 3; have hfz8_4 := blk_frozen BK338.out 4) | ((with_reducible refine gate_callee (f := 58) rfl ?_); refine goesL_ (some 5) rfl rfl Try.func58 (by kernel_rfl) rfl #[.slice A0_0 l0_0.length c0_0] rfl (by (try simp only [List.map_toArray, List.map_cons, List.map_nil]); first | done | rfl | (simp only [List.length_drop, List.length_take]; rfl)) ?_; (with_reducible refine (impl_copyItems.calls _ _ l0_0 t340 _ ?side1 ?side2 A2.out).mono ?_); (case side1 => repeat (first | exact (Kd.C_below HR0_0.out HB.out) | (with_reducible refine ca_ ?_ _) | (with_reducible refine cn_ ?_ _) | (with_reducible refine cd_ ?_))); (case side2 => exact HC0_0.out); rintro e w9 ⟨v341, rfl, ho0, hb⟩; refine ⟨_, rfl, ?_⟩; have n0_ := Aside0.mk (Kd.S_lower ho0 (below_size (by repeat (first | (with_reducible first | exact HB.out | apply ba_ | apply bn_ | apply b1_ | refine below_set ?_ GE338.out | refine below_set ?_ GE339.out) | exact HB.out)))); have n1_ := Aside0.mk (blk_below (g := gb338) (o := .cells #[.slice A0_0 l0_0.length c0_0, .slice A0_1 l0_1.length c0_1, .slice A0_2 l0_2.length c0_2, .int .i64 a0_3, .int .i64 a0_4] 25 (0, 0)) (by (with_reducible repeat (first | refine dn_ ?_ _ | refine dd_ ?_ | refine da_ ?_ _)); exact BK338.out) hb); have n2_ := Aside0.mk (blk_below (g := gb339) (o := .cells #[.slice none 0 0, .slice none 0 0, .slice none 0 0, .int .i64 0, .int .i64 0] 25 (0, 0)) (by (with_reducible repeat (first | refine dn_ ?_ _ | refine dd_ ?_ | refine da_ ?_ _)); exact BK339.out) hb); have n3_ := Aside0.mk (below_step (by repeat (first | (with_reducible first | exact HB.out | apply ba_ | apply bn_ | apply b1_ | refine below_set ?_ GE338.out | refine below_set ?_ GE339.out) | exact HB.out)) hb); clear BK338; clear BK339; clear HB; have HO342 := n0_; have BK338 := n1_; have BK339 := n2_; have HB := n3_; clear n0_ n1_ n2_ n3_; (try clear hb); (try clear hb2); (try clear hk); (try clear hi); (try clear ho0); obtain ⟨Ao10, co10, eo10⟩ := Kd.S_slice HO342.out; subst eo10; have hcz11_0 : w9.cell? ⟨gb338, 0, none⟩ = some (.slice A0_0 l0_0.length c0_0) := (bc_ BK338.out 0).trans rfl; have hcz11_1 : w9.cell? ⟨gb338, 1, none⟩ = some (.slice A0_1 l0_1.length c0_1) := (bc_ BK338.out 1).trans rfl; have hcz11_2 : w9.cell? ⟨gb338, 2, none⟩ = some (.slice A0_2 l0_2.length c0_2) := (bc_ BK338.out 2).trans rfl; have hcz11_3 : w9.cell? ⟨gb338, 3, none⟩ = some (.int .i64 a0_3) := (bc_ BK338.out 3).trans rfl; have hcz11_4 : w9.cell? ⟨gb338, 4, none⟩ = some (.int .i64 a0_4) := (bc_ BK338.out 4).trans rfl; have hfz11_0 := blk_frozen BK338.out 0; have hfz11_1 := blk_frozen BK338.out 1; have hfz11_2 := blk_frozen BK338.out 2; have hfz11_3 := blk_frozen BK338.out 3; have hfz11_4 := blk_frozen BK338.out 4) | ((with_reducible refine gate_callee (f := 59) rfl ?_); refine goesL_ (some 9) rfl rfl Try.func59 (by kernel_rfl) rfl #[.slice A0_1 l0_1.length c0_1] rfl (by (try simp only [List.map_toArray, List.map_cons, List.map_nil]); first | done | rfl | (simp only [List.length_drop, List.length_take]; rfl)) ?_; (with_reducible refine (slices_Clone_int_int.calls _ _ l0_1 t343 _ ?side1 ?side2 A3.out).mono ?_); (case side1 => exact Kd.C_below HR0_1.out (by repeat (first | (with_reducible first | exact HB.out | apply ba_ | apply bn_ | apply b1_ | refine below_set ?_ GE338.out | refine below_set ?_ GE339.out) | exact HB.out))); (case side2 => exact HC0_1.out); rintro e w12 ⟨v344, rfl, ho0, hb⟩; refine ⟨_, rfl, ?_⟩; have n0_ := Aside0.mk (Kd.S_elder' (by (with_reducible repeat (first | apply Kd.S_alloc | apply Kd.S_drewN | apply Kd.S_drew)); exact (Kd.S_mono (Kd.S_far (p := ⟨gb338, 0, none⟩) (Kd.S_types HO342.out BK338.out (by decide)) (fun _ hk => hk.2) (.slice Ao10 t340.length co10)) (fun _ h_ => h_.1))) (Kd.R_base ho0) hb); have n1_ := Aside0.mk (Kd.R_lower ho0 (below_size (by repeat (first | (with_reducible first | exact HB.out | apply ba_ | apply bn_ | apply b1_ | refine below_set ?_ GE338.out | refine below_set ?_ GE339.out) | exact HB.out)))); have n2_ := Aside0.mk (blk_below (g := gb338) (o := .cells #[.slice Ao10 t340.length co10, .slice A0_1 l0_1.length c0_1, .slice A0_2 l0_2.length c0_2, .int .i64 a0_3, .int .i64 a0_4] 25 (0, 0)) (by (with_reducible repeat (first | refine dn_ ?_ _ | refine dd_ ?_ | refine da_ ?_ _)); refine blk_put (cs := #[.slice A0_0 l0_0.length c0_0, .slice A0_1 l0_1.length c0_1, .slice A0_2 l0_2.length c0_2, .int .i64 a0_3, .int .i64 a0_4]) ?_ 0 _ rfl; (with_reducible repeat (first | refine dn_ ?_ _ | refine dd_ ?_ | refine da_ ?_ _)); exact BK338.out) hb); have n3_ := Aside0.mk (blk_below (g := gb339) (o := .cells #[.slice none 0 0, .slice none 0 0, .slice none 0 0, .int .i64 0, .int .i64 0] 25 (0, 0)) (by (with_reducible repeat (first | refine dn_ ?_ _ | refine dd_ ?_ | refine da_ ?_ _)); refine blk_far ?_ NB339_338.out _; (with_reducible repeat (first | refine dn_ ?_ _ | refine dd_ ?_ | refine da_ ?_ _)); exact BK339.out) hb); have n4_ := Aside0.mk (below_step (by repeat (first | (with_reducible first | exact HB.out | apply ba_ | apply bn_ | apply b1_ | refine below_set ?_ GE338.out | refine below_set ?_ GE339.out) | exact HB.out)) hb); clear HO342; clear BK338; clear BK339; clear HB; have HO342 := n0_; have HO345 := n1_; have BK338 := n2_; have BK339 := n3_; have HB := n4_; clear n0_ n1_ n2_ n3_ n4_; (try clear hb); (try clear hb2); (try clear hk); (try clear hi); (try clear ho0); obtain ⟨Ao13, co13, eo13⟩ := Kd.R_slice HO345.out; subst eo13; have hcz14_0 : w12.cell? ⟨gb338, 0, none⟩ = some (.slice Ao10 t340.length co10) := (bc_ BK338.out 0).trans rfl; have hcz14_1 : w12.cell? ⟨gb338, 1, none⟩ = some (.slice A0_1 l0_1.length c0_1) := (bc_ BK338.out 1).trans rfl; have hcz14_2 : w12.cell? ⟨gb338, 2, none⟩ = some (.slice A0_2 l0_2.length c0_2) := (bc_ BK338.out 2).trans rfl; have hcz14_3 : w12.cell? ⟨gb338, 3, none⟩ = some (.int .i64 a0_3) := (bc_ BK338.out 3).trans rfl; have hcz14_4 : w12.cell? ⟨gb338, 4, none⟩ = some (.int .i64 a0_4) := (bc_ BK338.out 4).trans rfl; have hfz14_0 := blk_frozen BK338.out 0; have hfz14_1 := blk_frozen BK338.out 1; have hfz14_2 := blk_frozen BK338.out 2; have hfz14_3 := blk_frozen BK338.out 3; have hfz14_4 := blk_frozen BK338.out 4) | ((with_reducible refine gate_callee (f := 59) rfl ?_); refine goesL_ (some 13) rfl rfl Try.func59 (by kernel_rfl) rfl #[.slice A0_2 l0_2.length c0_2] rfl (by (try simp only [List.map_toArray, List.map_cons, List.map_nil]); first | done | rfl | (simp only [List.length_drop, List.length_take]; rfl)) ?_; (with_reducible refine (slices_Clone_int_int.calls _ _ l0_2 t346 _ ?side1 ?side2 A4.out).mono ?_); (case side1 => exact Kd.C_below HR0_2.out (by repeat (first | (with_reducible first | exact HB.out | apply ba_ | apply bn_ | apply b1_ | refine below_set ?_ GE338.out | refine below_set ?_ GE339.out) | exact HB.out))); (case side2 => exact HC0_2.out); rintro e w15 ⟨v347, rfl, ho0, hb⟩; refine ⟨_, rfl, ?_⟩; have n0_ := Aside0.mk (Kd.S_elder' (by (with_reducible repeat (first | apply Kd.S_alloc | apply Kd.S_drewN | apply Kd.S_drew)); exact (Kd.S_mono (Kd.S_far (p := ⟨gb338, 1, none⟩) (Kd.S_types HO342.out BK338.out (by decide)) (fun _ hk => hk.2) (.slice Ao13 t343.length co13)) (fun _ h_ => h_.1))) (Kd.R_base ho0) hb); have n1_ := Aside0.mk (Kd.R_elder' (by (with_reducible repeat (first | apply Kd.R_alloc | apply Kd.R_drewN | apply Kd.R_drew)); exact (Kd.R_mono (Kd.R_far (p := ⟨gb338, 1, none⟩) (Kd.R_types HO345.out BK338.out (by decide)) (fun _ hk => hk.2) (.slice Ao13 t343.length co13)) (fun _ h_ => h_.1))) (Kd.R_base ho0) hb); have n2_ := Aside0.mk (Kd.R_lower (Kd.R_new' ho0 (Kd.R_lt (by (with_reducible repeat (first | apply Kd.R_alloc | apply Kd.R_drewN | apply Kd.R_drew)); exact (Kd.R_mono (Kd.R_far (p := ⟨gb338, 1, none⟩) (Kd.R_types HO345.out BK338.out (by decide)) (fun _ hk => hk.2) (.slice Ao13 t343.length co13)) (fun _ h_ => h_.1))))) (below_size (by repeat (first | (with_reducible first | exact HB.out | apply ba_ | apply bn_ | apply b1_ | refine below_set ?_ GE338.out | refine below_set ?_ GE339.out) | exact HB.out)))); have n3_ := Aside0.mk (blk_below (g := gb338) (o := .cells #[.slice Ao10 t340.length co10, .slice Ao13 t343.length co13, .slice A0_2 l0_2.length c0_2, .int .i64 a0_3, .int .i64 a0_4] 25 (0, 0)) (by (with_reducible repeat (first | refine dn_ ?_ _ | refine dd_ ?_ | refine da_ ?_ _)); refine blk_put (cs := #[.slice Ao10 t340.length co10, .slice A0_1 l0_1.length c0_1, .slice A0_2 l0_2.length c0_2, .int .i64 a0_3, .int .i64 a0_4]) ?_ 1 _ rfl; (with_reducible repeat (first | refine dn_ ?_ _ | refine dd_ ?_ | refine da_ ?_ _)); exact BK338.out) hb); have n4_ := Aside0.mk (blk_below (g := gb339) (o := .cells #[.slice none 0 0, .slice none 0 0, .slice none 0 0, .int .i64 0, .int .i64 0] 25 (0, 0)) (by (with_reducible repeat (first | refine dn_ ?_ _ | refine dd_ ?_ | refine da_ ?_ _)); refine blk_far ?_ NB339_338.out _; (with_reducible repeat (first | refine dn_ ?_ _ | refine dd_ ?_ | refine da_ ?_ _)); exact BK339.out) hb); have n5_ := Aside0.mk (below_step (by repeat (first | (with_reducible first | exact HB.out | apply ba_ | apply bn_ | apply b1_ | refine below_set ?_ GE338.out | refine below_set ?_ GE339.out) | exact HB.out)) hb); clear HO342; clear HO345; clear BK338; clear BK339; clear HB; have HO342 := n0_; have HO345 := n1_; have HO348 := n2_; have BK338 := n3_; have BK339 := n4_; have HB := n5_; clear n0_ n1_ n2_ n3_ n4_ n5_; (try clear hb); (try clear hb2); (try clear hk); (try clear hi); (try clear ho0); obtain ⟨Ao16, co16, eo16⟩ := Kd.R_slice HO348.out; subst eo16; have hcz17_0 : w15.cell? ⟨gb338, 0, none⟩ = some (.slice Ao10 t340.length co10) := (bc_ BK338.out 0).trans rfl; have hcz17_1 : w15.cell? ⟨gb338, 1, none⟩ = some (.slice Ao13 t343.length co13) := (bc_ BK338.out 1).trans rfl; have hcz17_2 : w15.cell? ⟨gb338, 2, none⟩ = some (.slice A0_2 l0_2.length c0_2) := (bc_ BK338.out 2).trans rfl; have hcz17_3 : w15.cell? ⟨gb338, 3, none⟩ = some (.int .i64 a0_3) := (bc_ BK338.out 3).trans rfl; have hcz17_4 : w15.cell? ⟨gb338, 4, none⟩ = some (.int .i64 a0_4) := (bc_ BK338.out 4).trans rfl; have hfz17_0 := blk_frozen BK338.out 0; have hfz17_1 := blk_frozen BK338.out 1; have hfz17_2 := blk_frozen BK338.out 2; have hfz17_3 := blk_frozen BK338.out 3; have hfz17_4 := blk_frozen BK338.out 4; have hcz18_0 : w15.cell? ⟨gb339, 0, none⟩ = some (.slice none 0 0) := (bc_ BK339.out 0).trans rfl; have hcz18_1 : w15.cell? ⟨gb339, 1, none⟩ = some (.slice none 0 0) := (bc_ BK339.out 1).trans rfl; have hcz18_2 : w15.cell? ⟨gb339, 2, none⟩ = some (.slice none 0 0) := (bc_ BK339.out 2).trans rfl; have hcz18_3 : w15.cell? ⟨gb339, 3, none⟩ = some (.int .i64 0) := (bc_ BK339.out 3).trans rfl; have hcz18_4 : w15.cell? ⟨gb339, 4, none⟩ = some (.int .i64 0) := (bc_ BK339.out 4).trans rfl; have hfz18_0 := blk_frozen BK339.out 0; have hfz18_1 := blk_frozen BK339.out 1; have hfz18_2 := blk_frozen BK339.out 2; have hfz18_3 := blk_frozen BK339.out 3; have hfz18_4 := blk_frozen BK339.out 4))
 refine bodyPost_ret (results_cell_row rfl _ _ gb339 25 #[.slice Ao10 t340.length co10, .slice Ao13 t343.length co13, .slice Ao16 t346.length co16, .int .i64 a0_3, .int .i64 a0_4] (0, 0) _ rfl (by (with_reducible repeat (first | refine dn_ ?_ _ | refine dd_ ?_ | refine da_ ?_ _)); refine blk_put (cs := #[.slice Ao10 t340.length co10, .slice Ao13 t343.length co13, .slice Ao16 t346.length co16, .int .i64 a0_3, .int .i64 0]) ?_ 4 _ rfl; (with_reducible repeat (first | refine dn_ ?_ _ | refine dd_ ?_ | refine da_ ?_ _)); refine blk_put (cs := #[.slice Ao10 t340.length co10, .slice Ao13 t343.length co13, .slice Ao16 t346.length co16, .int .i64 0, .int .i64 0]) ?_ 3 _ rfl; (with_reducible repeat (first | refine dn_ ?_ _ | refine dd_ ?_ | refine da_ ?_ _)); refine blk_put (cs := #[.slice Ao10 t340.length co10, .slice Ao13 t343.length co13, .slice none 0 0, .int .i64 0, .int .i64 0]) ?_ 2 _ rfl; (with_reducible repeat (first | refine dn_ ?_ _ | refine dd_ ?_ | refine da_ ?_ _)); refine blk_put (cs := #[.slice Ao10 t340.length co10, .slice none 0 0, .slice none 0 0, .int .i64 0, .int .i64 0]) ?_ 1 _ rfl; (with_reducible repeat (first | refine dn_ ?_ _ | refine dd_ ?_ | refine da_ ?_ _)); refine blk_put (cs := #[.slice none 0 0, .slice none 0 0, .slice none 0 0, .int .i64 0, .int .i64 0]) ?_ 0 _ rfl; (with_reducible repeat (first | refine dn_ ?_ _ | refine dd_ ?_ | refine da_ ?_ _)); refine blk_far ?_ NB339_338.out _; (with_reducible repeat (first | refine dn_ ?_ _ | refine dd_ ?_ | refine da_ ?_ _)); exact BK339.out) Try.underlying25 rfl (by kernel_rfl)) rfl ?_
 exact ⟨_, _, _, by first | rfl | (simp [errW_none, errW_some] <;> rfl) | (simp [*, errW_none, errW_some] <;> rfl), by (with_reducible repeat (first | apply Kd.S_alloc | apply Kd.S_drewN | apply Kd.S_drew)); exact Kd.S_mono (Kd.S_far (p := ⟨gb339, 4, none⟩) (Kd.S_far (p := ⟨gb339, 3, none⟩) (Kd.S_far (p := ⟨gb339, 2, none⟩) (Kd.S_far (p := ⟨gb339, 1, none⟩) (Kd.S_far (p := ⟨gb339, 0, none⟩) (Kd.S_far (p := ⟨gb338, 2, none⟩) (Kd.S_types (Kd.S_types HO342.out BK338.out (by decide)) BK339.out (by decide)) (fun _ hk => hk.1.2) (.slice Ao16 t346.length co16)) (fun _ hk => hk.2) (.slice Ao10 t340.length co10)) (fun _ hk => hk.2) (.slice Ao13 t343.length co13)) (fun _ hk => hk.2) (.slice Ao16 t346.length co16)) (fun _ hk => hk.2) (.int .i64 a0_3)) (fun _ hk => hk.2) (.int .i64 a0_4)) (fun _ hk => ⟨hk.1.1.1.2, hk.1.1.2⟩), by (with_reducible repeat (first | apply Kd.R_alloc | apply Kd.R_drewN | apply Kd.R_drew)); exact Kd.R_mono (Kd.R_far (p := ⟨gb339, 4, none⟩) (Kd.R_far (p := ⟨gb339, 3, none⟩) (Kd.R_far (p := ⟨gb339, 2, none⟩) (Kd.R_far (p := ⟨gb339, 1, none⟩) (Kd.R_far (p := ⟨gb339, 0, none⟩) (Kd.R_far (p := ⟨gb338, 2, none⟩) (Kd.R_types (Kd.R_types HO345.out BK338.out (by decide)) BK339.out (by decide)) (fun _ hk => hk.1.2) (.slice Ao16 t346.length co16)) (fun _ hk => hk.2) (.slice Ao10 t340.length co10)) (fun _ hk => hk.2) (.slice Ao13 t343.length co13)) (fun _ hk => hk.2) (.slice Ao16 t346.length co16)) (fun _ hk => hk.2) (.int .i64 a0_3)) (fun _ hk => hk.2) (.int .i64 a0_4)) (fun _ hk => hk.1.1.2), by (with_reducible repeat (first | apply Kd.R_alloc | apply Kd.R_drewN | apply Kd.R_drew)); exact Kd.R_mono (Kd.R_far (p := ⟨gb339, 4, none⟩) (Kd.R_far (p := ⟨gb339, 3, none⟩) (Kd.R_far (p := ⟨gb339, 2, none⟩) (Kd.R_far (p := ⟨gb339, 1, none⟩) (Kd.R_far (p := ⟨gb339, 0, none⟩) (Kd.R_far (p := ⟨gb338, 2, none⟩) (Kd.R_types (Kd.R_types HO348.out BK338.out (by decide)) BK339.out (by decide)) (fun _ hk => hk.1.2) (.slice Ao16 t346.length co16)) (fun _ hk => hk.2) (.slice Ao10 t340.length co10)) (fun _ hk => hk.2) (.slice Ao13 t343.length co13)) (fun _ hk => hk.2) (.slice Ao16 t346.length co16)) (fun _ hk => hk.2) (.int .i64 a0_3)) (fun _ hk => hk.2) (.int .i64 a0_4)) (fun _ hk => hk.1.1.2), by repeat (first | (with_reducible first | exact HB.out | apply ba_ | apply bn_ | apply b1_ | refine below_set ?_ GE338.out | refine below_set ?_ GE339.out) | exact HB.out)⟩
def impl_inRange.f (a0 : Int) (a1 : Int) (a2 : Int) : Option (Bool) := if a0 ≥ a1 then (some (decide (a0 ≤ a2))) else (some false)
set_option maxHeartbeats 8000000 in
set_option maxRecDepth 100000 in
theorem impl_inRange.calls (a0 : Int) (a1 : Int) (a2 : Int) (r : Bool) (w : World) (h : impl_inRange.f a0 a1 a2 = some r) :
  Calls Try.prog 61 #[.int .i64 a0, .int .i64 a1, .int .i64 a2] w fun e w' => e = .returned (.bool r) ∧ Drawn0 w w' := by
 have H : (if a0 ≥ a1 then (some (decide (a0 ≤ a2))) else (some false)) = some r := h
 clear h
 by_cases c4 : a0 ≥ a1
 ·rw [if_pos c4] at H
  have c4b0 : decide (a1 ≤ a0) = true := decide_eq_true c4
  clear c4
  obtain rfl := Option.some.inj H
  go_enter Try.func61, Try.ntmps61
  go_wp2
  go_ret
  exact ⟨by first | rfl | (simp; done) | (simp [*]; done), by repeat (first | exact Drawn0.refl _ | apply Drawn0.step)⟩
 ·rw [if_neg c4] at H
  have c4b0 : decide (a1 ≤ a0) = false := decide_eq_false c4
  clear c4
  obtain rfl := Option.some.inj H
  go_enter Try.func61, Try.ntmps61
  go_wp2
  go_ret
  exact ⟨by first | rfl | (simp; done) | (simp [*]; done), by repeat (first | exact Drawn0.refl _ | apply Drawn0.step)⟩
end Go.Proofs.Ytedeliggbjbngaa.PFnExactPopName
