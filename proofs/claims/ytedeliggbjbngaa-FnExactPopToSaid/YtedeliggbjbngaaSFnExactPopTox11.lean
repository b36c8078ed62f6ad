-- Written by this session's program wip/slim.py: the print's texts (with contracts of our own), only what this row needs, shortened. Lean checks it.
import Derived.Test.YtedeliggbjbngaaSFnExactPopTox0
import Derived.Test.YtedeliggbjbngaaSFnExactPopTox2
import Derived.Test.YtedeliggbjbngaaSFnExactPopTox3
import Derived.Test.YtedeliggbjbngaaSFnExactPopTox6
import Derived.Test.YtedeliggbjbngaaSFnExactPopTox7
import Derived.Test.YtedeliggbjbngaaSFnExactPopTox9
import Derived.Test.YtedeliggbjbngaaSFnExactPopTox10
namespace Go.Proofs.Ytedeliggbjbngaa.PFnExactPopTo
open Go.RowKit Go.Proofs.YtedeliggbjbngaaW.PrintWords Go.Proofs.YtedeliggbjbngaaW.PrintLast Go.Proofs.YtedeliggbjbngaaW.PrintMore
attribute [local go_sem] max2_int min2_int max_two min_two max_three min_three max_four min_four
set_option linter.unusedVariables false
set_option linter.unusedSimpArgs false
def IsPl (W : World) (g : Nat) (A0 : Option Addr) (c0 : Nat) (l : List (S64)) (A1 : Option Addr) (c1 : Nat) (o : List Int) (A2 : Option Addr) (c2 : Nat) (f : List Int) (a b : Int) : Prop := W.heap[g]? = some (.cells #[.slice A0 l.length c0, .slice A1 o.length c1, .slice A2 f.length c2, .int .i64 a, .int .i64 b] 32 (0, 0))
section
variable {W W1 : World} {g : Nat} {A0 : Option Addr} {c0 : Nat} {l : List (S64)} {A1 : Option Addr} {c1 : Nat} {o : List Int} {A2 : Option Addr} {c2 : Nat} {f : List Int} {a b : Int}
theorem IsPl.below (h : IsPl W g A0 c0 l A1 c1 o A2 c2 f a b) (hb : Below W.heap.size W W1) : IsPl W1 g A0 c0 l A1 c1 o A2 c2 f a b := blk_below h hb
theorem IsPl.drewN (h : IsPl W g A0 c0 l A1 c1 o A2 c2 f a b) (n : Nat) : IsPl (W.drewN n) g A0 c0 l A1 c1 o A2 c2 f a b := h
theorem IsPl.x0 (h : IsPl W g A0 c0 l A1 c1 o A2 c2 f a b) : W.cell? ⟨g, 0, none⟩ = some (.slice A0 l.length c0) := (bc_ h 0).trans rfl
theorem IsPl.x1 (h : IsPl W g A0 c0 l A1 c1 o A2 c2 f a b) : W.cell? ⟨g, 1, none⟩ = some (.slice A1 o.length c1) := (bc_ h 1).trans rfl
theorem IsPl.x2 (h : IsPl W g A0 c0 l A1 c1 o A2 c2 f a b) : W.cell? ⟨g, 2, none⟩ = some (.slice A2 f.length c2) := (bc_ h 2).trans rfl
theorem IsPl.x3 (h : IsPl W g A0 c0 l A1 c1 o A2 c2 f a b) : W.cell? ⟨g, 3, none⟩ = some (.int .i64 a) := (bc_ h 3).trans rfl
theorem IsPl.x4 (h : IsPl W g A0 c0 l A1 c1 o A2 c2 f a b) : W.cell? ⟨g, 4, none⟩ = some (.int .i64 b) := (bc_ h 4).trans rfl
end
theorem size_drew_ {n : Nat} {W : World} (h : n ≤ W.heap.size) : n ≤ W.drew.heap.size := h
theorem MK.len {W : World} {base n c : Nat} {P : Nat → Prop} {A : Option Addr} {M : List (S45)} (h : MK W base P (.slice A n c) M) : n = M.length := by
 rcases h with ⟨rfl, A', c', e⟩ | ⟨g, cap, Q, e, _⟩
 ·injection e
 ·injection e
theorem MK.C {W : World} {base n c : Nat} {P : Nat → Prop} {A : Option Addr} {M : List (S45)} (h : MK W base P (.slice A n c) M) (hl : n ≤ 9223372036854775807) : Kd.C k45 W A M.length M ∧ M.length ≤ c := by
 obtain ⟨A', c', e, hc, hC⟩ := MK.reads h (MK.len h ▸ hl)
 injection e with e1 e2 e3
 subst e1
 subst e3
 exact ⟨hC, hc⟩
def laws_FnExactPopTo.f (k : Nat) (l : List (S64)) (o f : List Int) (a b : Int) (u : Int) : Option Bool := (laws_szPage.f k l o f a b 1048576).bind fun t => if t < 0 then some true else (laws_toPage.f k l o f a b).bind fun t => (spec_PopTo.f k t.1 t.2.1 t.2.2.1 t.2.2.2.1 t.2.2.2.2 u).bind fun s => (impl_PopTo.f t.1 t.2.1 t.2.2.1 t.2.2.2.1 t.2.2.2.2 u).bind fun p => (if laws_eqPage.f k p.1 p.2.1 p.2.2.1 p.2.2.2.1 p.2.2.2.2 s.1 s.2.1 s.2.2.1 s.2.2.2.1 s.2.2.2.2 = some true ∧ laws_eqPage.f k t.1 t.2.1 t.2.2.1 t.2.2.2.1 t.2.2.2.2 t.1 t.2.1 t.2.2.1 t.2.2.2.1 t.2.2.2.2 = some true then ((laws_markPage.f k t.1 t.2.1 t.2.2.1 1).bind fun m0 => (if 0 ≤ m0.1 then (laws_markPage.f k p.1 p.2.1 p.2.2.1 1).bind fun m => (if laws_heldPage.f k m.2.1 m.2.2.1 m.2.2.2 p.2.2.2.1 p.2.2.2.2 1 = some m.1 ∧ 0 ≤ m.1 then some true else none) else none)) else none)
set_option maxHeartbeats 16000000 in
set_option maxRecDepth 100000 in
theorem laws_FnExactPopTo.calls (k : Nat) (A0 : Option Addr) (c0 : Nat) (l : List (S64)) (A1 : Option Addr) (c1 : Nat) (o : List Int) (A2 : Option Addr) (c2 : Nat) (f : List Int) (a b : Int) (u : Int) (r : Bool) (w : World) (hr0 : Kd.C k64 w A0 l.length l) (hc0 : l.length ≤ c0) (hr1 : Kd.C (Kd.int .i64) w A1 o.length o) (hc1 : o.length ≤ c1) (hr2 : Kd.C (Kd.int .i64) w A2 f.length f) (hc2 : f.length ≤ c2) (h : laws_FnExactPopTo.f k l o f a b u = some r) :
  Calls Try.prog 7 #[.agg #[.slice A0 l.length c0, .slice A1 o.length c1, .slice A2 f.length c2, .int .i64 a, .int .i64 b], .int .i64 u] w fun e w' => e = .returned (.bool r) ∧ Below w.heap.size w w' := by
 obtain ⟨t, X0, h⟩ := Option.bind_eq_some_iff.mp h
 have X0 := Aside0.mk X0
 have H0 := Aside0.mk hr0
 have H1 := Aside0.mk hr1
 have H2 := Aside0.mk hr2
 have HC0 := Aside0.mk hc0
 have HC1 := Aside0.mk hc1
 have HC2 := Aside0.mk hc2
 clear hr0 hr1 hr2 hc0 hc1 hc2
 have hu25 := Try.underlying25
 have hu32 := Try.underlying32
 have B := Aside0.mk (Below.refl w.heap.size w)
 by_cases ct : t < 0
 ·rw [if_pos ct] at h
  obtain rfl := Option.some.inj h
  have ctb : decide (t < 0) = true := decide_eq_true ct
  clear ct
  go_enter Try.func7, Try.ntmps7
  go_wp2_with (first | ((with_reducible refine gate_dst (N := 2) rfl ?_); refine box_event ?hg (N := 2) ?hd (cs := #[.slice A0 l.length c0, .slice A1 o.length c1, .slice A2 f.length c2, .int .i64 a, .int .i64 b]) (t := 32) ?hr ?_; (case hd => rfl); (case hg => rfl); (case hr => first | (go_simp; done) | (go_simp; rfl)); intro gp hg_ w0 hbox hb; have hp_ := Aside0.mk (show IsPl w0 gp A0 c0 l A1 c1 o A2 c2 f a b from hbox); have LP := Aside0.mk (blk_lt hbox); clear hbox hg_; have n0_ := Aside0.mk (below_step B.out hb); clear B; have B := n0_; clear n0_ hb; have BP := hp_; clear hp_; have M0 := Aside0.mk (Nat.le_refl w0.heap.size); have zBP0 := IsPl.x0 BP.out; have zBP1 := IsPl.x1 BP.out; have zBP2 := IsPl.x2 BP.out; have zBP3 := IsPl.x3 BP.out; have zBP4 := IsPl.x4 BP.out) | (go_at_call 14; refine (laws_szPage.calls k A0 c0 l A1 c1 o A2 c2 f a b 1048576 t _ (Kd.C_below H0.out B.out) HC0.out (Kd.C_below H1.out B.out) HC1.out (Kd.C_below H2.out B.out) HC2.out X0.out).mono ?_; rintro e w1 ⟨rfl, hb⟩; clear zBP0 zBP1 zBP2 zBP3 zBP4; have n0_ := Aside0.mk (below_step B.out hb); have n1_ := Aside0.mk (blk_below BP.out hb); have n2_ := Aside0.mk (Nat.le_trans M0.out hb.size); clear B BP M0; have B := n0_; have BP := n1_; have M0 := n2_; clear n0_ n1_ n2_ hb; have zBP0 := IsPl.x0 BP.out; have zBP1 := IsPl.x1 BP.out; have zBP2 := IsPl.x2 BP.out; have zBP3 := IsPl.x3 BP.out; have zBP4 := IsPl.x4 BP.out))
  go_ret
  exact ⟨by first | rfl | (simp; done), B.out⟩
 rw [if_neg ct] at h
 have ctb : decide (t < 0) = false := decide_eq_false ct
 clear ct
 obtain ⟨⟨t1, t2, t3, t4, t5⟩, XA, h⟩ := Option.bind_eq_some_iff.mp h
 obtain ⟨⟨s1, s2, s3, s4, s5⟩, XB, h⟩ := Option.bind_eq_some_iff.mp h
 obtain ⟨⟨p1, p2, p3, p4, p5⟩, XC, h⟩ := Option.bind_eq_some_iff.mp h
 simp only [] at h XB XC
 by_cases ca : laws_eqPage.f k p1 p2 p3 p4 p5 s1 s2 s3 s4 s5 = some true ∧ laws_eqPage.f k t1 t2 t3 t4 t5 t1 t2 t3 t4 t5 = some true
 rotate_left
 ·rw [if_neg ca] at h; exact absurd h (by simp)
 rw [if_pos ca] at h
 have A3 := Aside0.mk ca.1
 have A3b := Aside0.mk ca.2
 clear ca
 obtain ⟨⟨m0, M0_, o0, f0⟩, A4a, h⟩ := Option.bind_eq_some_iff.mp h
 simp only [] at h
 by_cases cm : 0 ≤ m0
 rotate_left
 ·rw [if_neg cm] at h; exact absurd h (by simp)
 rw [if_pos cm] at h
 obtain ⟨⟨mm, M, o2, f2⟩, A4, h⟩ := Option.bind_eq_some_iff.mp h
 simp only [] at h
 by_cases cq : laws_heldPage.f k M o2 f2 p4 p5 1 = some mm ∧ 0 ≤ mm
 rotate_left
 ·rw [if_neg cq] at h; exact absurd h (by simp)
 rw [if_pos cq] at h
 obtain rfl := Option.some.inj h
 obtain ⟨A5, cq⟩ := cq
 have cmb : decide (m0 < 0) = false := decide_eq_false (by omega)
 have cqb : decide (mm < 0) = false := decide_eq_false (by omega)
 clear h cq cm
 replace XA := Aside0.mk XA
 replace XB := Aside0.mk XB
 replace XC := Aside0.mk XC
 replace A4a := Aside0.mk A4a
 replace A4 := Aside0.mk A4
 replace A5 := Aside0.mk A5
 go_enter Try.func7, Try.ntmps7
 go_wp2_with (first | ((with_reducible refine gate_dst (N := 2) rfl ?_); refine box_event ?hg (N := 2) ?hd (cs := #[.slice A0 l.length c0, .slice A1 o.length c1, .slice A2 f.length c2, .int .i64 a, .int .i64 b]) (t := 32) ?hr ?_; (case hd => rfl); (case hg => rfl); (case hr => first | (go_simp; done) | (go_simp; rfl)); intro gp hg_ w0 hbox hb; have hp_ := Aside0.mk (show IsPl w0 gp A0 c0 l A1 c1 o A2 c2 f a b from hbox); have LP := Aside0.mk (blk_lt hbox); clear hbox hg_; have n0_ := Aside0.mk (below_step B.out hb); clear B; have B := n0_; clear n0_ hb; have BP := hp_; clear hp_; have M0 := Aside0.mk (Nat.le_refl w0.heap.size); have zBP0 := IsPl.x0 BP.out; have zBP1 := IsPl.x1 BP.out; have zBP2 := IsPl.x2 BP.out; have zBP3 := IsPl.x3 BP.out; have zBP4 := IsPl.x4 BP.out) | (go_at_call 14; refine (laws_szPage.calls k A0 c0 l A1 c1 o A2 c2 f a b 1048576 t _ (Kd.C_below H0.out B.out) HC0.out (Kd.C_below H1.out B.out) HC1.out (Kd.C_below H2.out B.out) HC2.out X0.out).mono ?_; rintro e w1 ⟨rfl, hb⟩; clear zBP0 zBP1 zBP2 zBP3 zBP4; have n0_ := Aside0.mk (below_step B.out hb); have n1_ := Aside0.mk (blk_below BP.out hb); have n2_ := Aside0.mk (Nat.le_trans M0.out hb.size); clear B BP M0; have B := n0_; have BP := n1_; have M0 := n2_; clear n0_ n1_ n2_ hb; have zBP0 := IsPl.x0 BP.out; have zBP1 := IsPl.x1 BP.out; have zBP2 := IsPl.x2 BP.out; have zBP3 := IsPl.x3 BP.out; have zBP4 := IsPl.x4 BP.out) | (go_at_call 16; refine (laws_toPage.calls k A0 c0 l A1 c1 o A2 c2 f a b t1 t2 t3 t4 t5 _ (Kd.C_below H0.out B.out) HC0.out (Kd.C_below H1.out B.out) HC1.out (Kd.C_below H2.out B.out) HC2.out XA.out).mono ?_; rintro e w2 ⟨v0, v1, v2, rfl, hS, hO, hF, hb⟩; obtain ⟨a0, n0, rfl⟩ := Kd.S_slice hS; obtain ⟨a1, n1, rfl⟩ := Kd.R_slice hO; obtain ⟨a2, n2, rfl⟩ := Kd.R_slice hF; have hs_ := Aside0.mk (Kd.S_mono (ok' := fun k => k < w2.heap.size) (Kd.S_bound hS) (fun k hk => hk.2.2.1)); have ho_ := Aside0.mk (Kd.R_mono (ok' := fun k => k < w2.heap.size) (Kd.R_bound hO) (fun k hk => hk.2.2.1)); have hf_ := Aside0.mk (Kd.R_mono (ok' := fun k => k < w2.heap.size) (Kd.R_bound hF) (fun k hk => hk.2.2.1)); clear hS hO hF; clear zBP0 zBP1 zBP2 zBP3 zBP4; have n0_ := Aside0.mk (below_step B.out hb); have n1_ := Aside0.mk (blk_below BP.out hb); have n2_ := Aside0.mk (Nat.le_trans M0.out hb.size); clear B BP M0; have B := n0_; have BP := n1_; have M0 := n2_; clear n0_ n1_ n2_ hb; have SA := hs_; have OA := ho_; have FA := hf_; clear hs_ ho_ hf_) | (go_at_call 22; refine (spec_PopTo.calls k a0 n0 t1 a1 n1 t2 a2 n2 t3 t4 t5 u s1 s2 s3 s4 s5 _ (Kd.S_reads' SA.out).2.2 (Kd.S_reads' SA.out).2.1 (Kd.R_reads' OA.out).2.2 (Kd.R_reads' OA.out).2.1 (Kd.R_reads' FA.out).2.2 (Kd.R_reads' FA.out).2.1 XB.out).mono ?_; rintro e w3 ⟨v0, v1, v2, rfl, hS, hO, hF, hb⟩; obtain ⟨a3, n3, rfl⟩ := Kd.S_slice hS; obtain ⟨a4, n4, rfl⟩ := Kd.R_slice hO; obtain ⟨a5, n5, rfl⟩ := Kd.R_slice hF; have hs_ := Aside0.mk (Kd.S_mono (ok' := fun k => k < w3.heap.size) (Kd.S_bound hS) (fun k hk => hk.2.2.1)); have ho_ := Aside0.mk (Kd.R_mono (ok' := fun k => k < w3.heap.size) (Kd.R_bound hO) (fun k hk => hk.2.2.1)); have hf_ := Aside0.mk (Kd.R_mono (ok' := fun k => k < w3.heap.size) (Kd.R_bound hF) (fun k hk => hk.2.2.1)); clear hS hO hF; have n0_ := Aside0.mk (below_step B.out hb); have n1_ := Aside0.mk (blk_below BP.out hb); have n2_ := Aside0.mk (Nat.le_trans M0.out hb.size); have n3_ := Aside0.mk (Kd.S_below SA.out hb); have n4_ := Aside0.mk (Kd.R_below OA.out hb); have n5_ := Aside0.mk (Kd.R_below FA.out hb); clear B BP M0 SA OA FA; have B := n0_; have BP := n1_; have M0 := n2_; have SA := n3_; have OA := n4_; have FA := n5_; clear n0_ n1_ n2_ n3_ n4_ n5_ hb; have SW := hs_; have OW := ho_; have FW := hf_; clear hs_ ho_ hf_; clear SA OA FA) | ((with_reducible refine gate_store (t := 25) (p := 6) rfl ?_); refine store_event (t := 25) (p := 6) (v := ?vo6_) (w1 := ?w16_) ?hg ?ho ?hn ?hr ?_; (case ho => rfl); (case hg => rfl); (case hn => rfl); (case hr => go_simp; rfl); intro w4 hw_; have hb := (show Below w3.heap.size w3 w4 by rw [hw_]; exact (Below.refl w3.heap.size w3).alloc (Nat.le_refl _) _); have hp_ := Aside0.mk (show IsPg w4 w3.heap.size a3 n3 s1 a4 n4 s2 a5 n5 s3 s4 s5 by rw [hw_]; exact blk_new _ _); have hz_ := Aside0.mk hb.size; clear hw_; have n0_ := Aside0.mk (below_step B.out hb); have n1_ := Aside0.mk (blk_below BP.out hb); have n2_ := Aside0.mk (Kd.S_below SW.out hb); have n3_ := Aside0.mk (Kd.R_below OW.out hb); have n4_ := Aside0.mk (Kd.R_below FW.out hb); clear B BP SW OW FW; have B := n0_; have BP := n1_; have SW := n2_; have OW := n3_; have FW := n4_; clear n0_ n1_ n2_ n3_ n4_ hb; have BW := hp_; have ZBW := hz_; clear hp_ hz_; have LW := Aside0.mk (blk_lt BW.out); have zBP0 := IsPl.x0 BP.out; have zBP1 := IsPl.x1 BP.out; have zBP2 := IsPl.x2 BP.out; have zBP3 := IsPl.x3 BP.out; have zBP4 := IsPl.x4 BP.out) | (go_at_call 16; refine (laws_toPage.calls k A0 c0 l A1 c1 o A2 c2 f a b t1 t2 t3 t4 t5 _ (Kd.C_below H0.out B.out) HC0.out (Kd.C_below H1.out B.out) HC1.out (Kd.C_below H2.out B.out) HC2.out XA.out).mono ?_; rintro e w5 ⟨v0, v1, v2, rfl, hS, hO, hF, hb⟩; obtain ⟨a6, n6, rfl⟩ := Kd.S_slice hS; obtain ⟨a7, n7, rfl⟩ := Kd.R_slice hO; obtain ⟨a8, n8, rfl⟩ := Kd.R_slice hF; have hs_ := Aside0.mk (Kd.S_lower (Kd.S_mono (ok' := fun k => w4.heap.size ≤ k ∧ k < w5.heap.size ∧ some k ≠ (Value.slice a7 t2.length n7 : Value).ownBlock ∧ some k ≠ (Value.slice a8 t3.length n8 : Value).ownBlock) (Kd.S_bound hS) (fun k hk => ⟨hk.2.1, hk.2.2.1, hk.1.1, hk.1.2⟩)) B.out.size); have ho_ := Aside0.mk (Kd.R_lower (Kd.R_mono (ok' := fun k => w4.heap.size ≤ k ∧ k < w5.heap.size ∧ some k = (Value.slice a7 t2.length n7 : Value).ownBlock ∧ some k ≠ (Value.slice a8 t3.length n8 : Value).ownBlock) (Kd.R_tight rfl hO) (fun k hk => by have h_ := (Kd.R_bound hO).1 k hk.symm; exact ⟨h_.2.1, h_.2.2.1, hk, h_.1⟩)) B.out.size); have hf_ := Aside0.mk (Kd.R_lower (Kd.R_mono (ok' := fun k => w4.heap.size ≤ k ∧ k < w5.heap.size ∧ some k = (Value.slice a8 t3.length n8 : Value).ownBlock ∧ some k ≠ (Value.slice a7 t2.length n7 : Value).ownBlock) (Kd.R_tight rfl hF) (fun k hk => by have h_ := (Kd.R_bound hF).1 k hk.symm; exact ⟨h_.2.1, h_.2.2.1, hk, h_.1⟩)) B.out.size); clear hS hO hF; have M45 := Aside0.mk hb.size; clear zBP0 zBP1 zBP2 zBP3 zBP4; have n0_ := Aside0.mk (below_step B.out hb); have n1_ := Aside0.mk (blk_below BP.out hb); have n2_ := Aside0.mk (Kd.S_below SW.out hb); have n3_ := Aside0.mk (Kd.R_below OW.out hb); have n4_ := Aside0.mk (Kd.R_below FW.out hb); have n5_ := Aside0.mk (blk_below BW.out hb); clear B BP SW OW FW BW; have B := n0_; have BP := n1_; have SW := n2_; have OW := n3_; have FW := n4_; have BW := n5_; clear n0_ n1_ n2_ n3_ n4_ n5_ hb; have SX := hs_; have OX := ho_; have FX := hf_; clear hs_ ho_ hf_; have ZX := Aside0.mk (Nat.le_refl w5.heap.size)) | ((with_reducible refine gate_store (t := 25) (p := 7) rfl ?_); refine store_event (t := 25) (p := 7) (v := ?vo7_) (w1 := ?w17_) ?hg ?ho ?hn ?hr ?_; (case ho => rfl); (case hg => rfl); (case hn => rfl); (case hr => go_simp; rfl); intro w6 hw_; have hb := (show Below w5.heap.size w5 w6 by rw [hw_]; exact (Below.refl w5.heap.size w5).alloc (Nat.le_refl _) _); have hp_ := Aside0.mk (show IsPg w6 w5.heap.size a6 n6 t1 a7 n7 t2 a8 n8 t3 t4 t5 by rw [hw_]; exact blk_new _ _); have hz_ := Aside0.mk hb.size; clear hw_; have n0_ := Aside0.mk (below_step B.out hb); have n1_ := Aside0.mk (blk_below BP.out hb); have n2_ := Aside0.mk (Kd.S_below SW.out hb); have n3_ := Aside0.mk (Kd.R_below OW.out hb); have n4_ := Aside0.mk (Kd.R_below FW.out hb); have n5_ := Aside0.mk (blk_below BW.out hb); have n6_ := Aside0.mk (Kd.S_below SX.out hb); have n7_ := Aside0.mk (Kd.R_below OX.out hb); have n8_ := Aside0.mk (Kd.R_below FX.out hb); have n9_ := Aside0.mk (Nat.le_trans ZX.out hb.size); clear B BP SW OW FW BW SX OX FX ZX; have B := n0_; have BP := n1_; have SW := n2_; have OW := n3_; have FW := n4_; have BW := n5_; have SX := n6_; have OX := n7_; have FX := n8_; have ZX := n9_; clear n0_ n1_ n2_ n3_ n4_ n5_ n6_ n7_ n8_ n9_ hb; have BX := hp_; have ZBX := hz_; clear hp_ hz_; have zBX0 := IsPg.x0 BX.out; have zBX1 := IsPg.x1 BX.out; have zBX2 := IsPg.x2 BX.out; have zBX3 := IsPg.x3 BX.out; have zBX4 := IsPg.x4 BX.out) | (go_at_call 23; refine (impl_PopTo.calls a6 n6 t1 a7 n7 t2 a8 n8 t3 t4 t5 u p1 p2 p3 p4 p5 _ (Kd.S_reads' SX.out).2.2 (Kd.S_reads' SX.out).2.1 (Kd.R_reads' OX.out).2.2 (Kd.R_reads' OX.out).2.1 (Kd.R_reads' FX.out).2.2 (Kd.R_reads' FX.out).2.1 XC.out).mono ?_; rintro e w7 ⟨v0, v1, v2, rfl, hS, hO, hF, hb⟩; obtain ⟨a9, n9, rfl⟩ := Kd.S_slice hS; obtain ⟨a10, n10, rfl⟩ := Kd.R_slice hO; obtain ⟨a11, n11, rfl⟩ := Kd.R_slice hF; have hs_ := Aside0.mk (Kd.S_lower (Kd.S_mono (ok' := fun k => w6.heap.size ≤ k ∧ k < w7.heap.size ∧ some k ≠ (Value.slice a10 p2.length n10 : Value).ownBlock ∧ some k ≠ (Value.slice a11 p3.length n11 : Value).ownBlock) (Kd.S_bound hS) (fun k hk => ⟨hk.2.1, hk.2.2.1, hk.1.1, hk.1.2⟩)) B.out.size); have ho_ := Aside0.mk (Kd.R_lower (Kd.R_mono (ok' := fun k => w6.heap.size ≤ k ∧ k < w7.heap.size ∧ some k = (Value.slice a10 p2.length n10 : Value).ownBlock ∧ some k ≠ (Value.slice a11 p3.length n11 : Value).ownBlock) (Kd.R_tight rfl hO) (fun k hk => by have h_ := (Kd.R_bound hO).1 k hk.symm; exact ⟨h_.2.1, h_.2.2.1, hk, h_.1⟩)) B.out.size); have hf_ := Aside0.mk (Kd.R_lower (Kd.R_mono (ok' := fun k => w6.heap.size ≤ k ∧ k < w7.heap.size ∧ some k = (Value.slice a11 p3.length n11 : Value).ownBlock ∧ some k ≠ (Value.slice a10 p2.length n10 : Value).ownBlock) (Kd.R_tight rfl hF) (fun k hk => by have h_ := (Kd.R_bound hF).1 k hk.symm; exact ⟨h_.2.1, h_.2.2.1, hk, h_.1⟩)) B.out.size); clear hS hO hF; have M67 := Aside0.mk hb.size; clear zBX0 zBX1 zBX2 zBX3 zBX4; have n0_ := Aside0.mk (below_step B.out hb); have n1_ := Aside0.mk (blk_below BP.out hb); have n2_ := Aside0.mk (Kd.S_below SW.out hb); have n3_ := Aside0.mk (Kd.R_below OW.out hb); have n4_ := Aside0.mk (Kd.R_below FW.out hb); have n5_ := Aside0.mk (blk_below BW.out hb); have n6_ := Aside0.mk (Kd.S_below SX.out hb); have n7_ := Aside0.mk (Kd.R_below OX.out hb); have n8_ := Aside0.mk (Kd.R_below FX.out hb); have n9_ := Aside0.mk (Nat.le_trans ZX.out hb.size); have n10_ := Aside0.mk (blk_below BX.out hb); clear B BP SW OW FW BW SX OX FX ZX BX; have B := n0_; have BP := n1_; have SW := n2_; have OW := n3_; have FW := n4_; have BW := n5_; have SX := n6_; have OX := n7_; have FX := n8_; have ZX := n9_; have BX := n10_; clear n0_ n1_ n2_ n3_ n4_ n5_ n6_ n7_ n8_ n9_ n10_ hb; have SG := hs_; have OG := ho_; have FG := hf_; clear hs_ ho_ hf_; have Z := Aside0.mk (Nat.le_refl w7.heap.size)) | ((with_reducible refine gate_store (t := 25) (p := 8) rfl ?_); refine store_event (t := 25) (p := 8) (v := ?vo8_) (w1 := ?w18_) ?hg ?ho ?hn ?hr ?_; (case ho => rfl); (case hg => rfl); (case hn => rfl); (case hr => go_simp; rfl); intro w8 hw_; have hb := (show Below w7.heap.size w7 w8 by rw [hw_]; exact (Below.refl w7.heap.size w7).alloc (Nat.le_refl _) _); have hp_ := Aside0.mk (show IsPg w8 w7.heap.size a9 n9 p1 a10 n10 p2 a11 n11 p3 p4 p5 by rw [hw_]; exact blk_new _ _); have hz_ := Aside0.mk hb.size; clear hw_; have n0_ := Aside0.mk (below_step B.out hb); have n1_ := Aside0.mk (blk_below BP.out hb); have n2_ := Aside0.mk (Kd.S_below SW.out hb); have n3_ := Aside0.mk (Kd.R_below OW.out hb); have n4_ := Aside0.mk (Kd.R_below FW.out hb); have n5_ := Aside0.mk (blk_below BW.out hb); have n6_ := Aside0.mk (Kd.S_below SX.out hb); have n7_ := Aside0.mk (Kd.R_below OX.out hb); have n8_ := Aside0.mk (Kd.R_below FX.out hb); have n9_ := Aside0.mk (Nat.le_trans ZX.out hb.size); have n10_ := Aside0.mk (blk_below BX.out hb); have n11_ := Aside0.mk (Kd.S_below SG.out hb); have n12_ := Aside0.mk (Kd.R_below OG.out hb); have n13_ := Aside0.mk (Kd.R_below FG.out hb); have n14_ := Aside0.mk (Nat.le_trans Z.out hb.size); clear B BP SW OW FW BW SX OX FX ZX BX SG OG FG Z; have B := n0_; have BP := n1_; have SW := n2_; have OW := n3_; have FW := n4_; have BW := n5_; have SX := n6_; have OX := n7_; have FX := n8_; have ZX := n9_; have BX := n10_; have SG := n11_; have OG := n12_; have FG := n13_; have Z := n14_; clear n0_ n1_ n2_ n3_ n4_ n5_ n6_ n7_ n8_ n9_ n10_ n11_ n12_ n13_ n14_ hb; have BG := hp_; have ZBG := hz_; clear hp_ hz_; have zBG0 := IsPg.x0 BG.out; have zBG1 := IsPg.x1 BG.out; have zBG2 := IsPg.x2 BG.out; have zBG3 := IsPg.x3 BG.out; have zBG4 := IsPg.x4 BG.out; have zBW0 := IsPg.x0 BW.out; have zBW1 := IsPg.x1 BW.out; have zBW2 := IsPg.x2 BW.out; have zBW3 := IsPg.x3 BW.out; have zBW4 := IsPg.x4 BW.out) | (go_at_call 11; refine (laws_eqPage.calls k a9 n9 p1 a10 n10 p2 a11 n11 p3 p4 p5 a3 n3 s1 a4 n4 s2 a5 n5 s3 s4 s5 true _ (Kd.S_reads' SG.out).2.2 (Kd.S_reads' SG.out).2.1 (Kd.R_reads' OG.out).2.2 (Kd.R_reads' OG.out).2.1 (Kd.R_reads' FG.out).2.2 (Kd.R_reads' FG.out).2.1 (Kd.S_reads' SW.out).2.2 (Kd.S_reads' SW.out).2.1 (Kd.R_reads' OW.out).2.2 (Kd.R_reads' OW.out).2.1 (Kd.R_reads' FW.out).2.2 (Kd.R_reads' FW.out).2.1 A3.out).mono ?_; rintro e w9 ⟨rfl, hb⟩; clear zBG0 zBG1 zBG2 zBG3 zBG4 zBW0 zBW1 zBW2 zBW3 zBW4; have n0_ := Aside0.mk (below_step B.out hb); have n1_ := Aside0.mk (blk_below BP.out hb); have n2_ := Aside0.mk (Kd.S_below SW.out hb); have n3_ := Aside0.mk (Kd.R_below OW.out hb); have n4_ := Aside0.mk (Kd.R_below FW.out hb); have n5_ := Aside0.mk (blk_below BW.out hb); have n6_ := Aside0.mk (Kd.S_below SX.out hb); have n7_ := Aside0.mk (Kd.R_below OX.out hb); have n8_ := Aside0.mk (Kd.R_below FX.out hb); have n9_ := Aside0.mk (Nat.le_trans ZX.out hb.size); have n10_ := Aside0.mk (blk_below BX.out hb); have n11_ := Aside0.mk (Kd.S_below SG.out hb); have n12_ := Aside0.mk (Kd.R_below OG.out hb); have n13_ := Aside0.mk (Kd.R_below FG.out hb); have n14_ := Aside0.mk (Nat.le_trans Z.out hb.size); have n15_ := Aside0.mk (blk_below BG.out hb); clear B BP SW OW FW BW SX OX FX ZX BX SG OG FG Z BG; have B := n0_; have BP := n1_; have SW := n2_; have OW := n3_; have FW := n4_; have BW := n5_; have SX := n6_; have OX := n7_; have FX := n8_; have ZX := n9_; have BX := n10_; have SG := n11_; have OG := n12_; have FG := n13_; have Z := n14_; have BG := n15_; clear n0_ n1_ n2_ n3_ n4_ n5_ n6_ n7_ n8_ n9_ n10_ n11_ n12_ n13_ n14_ n15_ hb))
 have n0_ := Aside0.mk (b1_ B.out)
 have n1_ := Aside0.mk (dd_ BP.out)
 have n2_ := Aside0.mk (Kd.S_drew SW.out)
 have n3_ := Aside0.mk (Kd.R_drew OW.out)
 have n4_ := Aside0.mk (Kd.R_drew FW.out)
 have n5_ := Aside0.mk (dd_ BW.out)
 have n6_ := Aside0.mk (Kd.S_drew SX.out)
 have n7_ := Aside0.mk (Kd.R_drew OX.out)
 have n8_ := Aside0.mk (Kd.R_drew FX.out)
 have n9_ := Aside0.mk (size_drew_ ZX.out)
 have n10_ := Aside0.mk (dd_ BX.out)
 have n11_ := Aside0.mk (Kd.S_drew SG.out)
 have n12_ := Aside0.mk (Kd.R_drew OG.out)
 have n13_ := Aside0.mk (Kd.R_drew FG.out)
 have n14_ := Aside0.mk (size_drew_ Z.out)
 have n15_ := Aside0.mk (dd_ BG.out)
 clear B BP SW OW FW BW SX OX FX ZX BX SG OG FG Z BG
 have B := n0_
 have BP := n1_
 have SW := n2_
 have OW := n3_
 have FW := n4_
 have BW := n5_
 have SX := n6_
 have OX := n7_
 have FX := n8_
 have ZX := n9_
 have BX := n10_
 have SG := n11_
 have OG := n12_
 have FG := n13_
 have Z := n14_
 have BG := n15_
 clear n0_ n1_ n2_ n3_ n4_ n5_ n6_ n7_ n8_ n9_ n10_ n11_ n12_ n13_ n14_ n15_
 refine start_ (n := 5) (S := fun w' => w'.cell? ⟨w5.heap.size, 0, none⟩ = some (.slice a6 t1.length n6) ∧ w'.cell? ⟨w5.heap.size, 1, none⟩ = some (.slice a7 t2.length n7) ∧ w'.cell? ⟨w5.heap.size, 2, none⟩ = some (.slice a8 t3.length n8) ∧ w'.cell? ⟨w5.heap.size, 3, none⟩ = some (.int .i64 t4) ∧ w'.cell? ⟨w5.heap.size, 4, none⟩ = some (.int .i64 t5) ∧ w'.cell? ⟨gp, 0, none⟩ = some (.slice A0 l.length c0) ∧ w'.cell? ⟨gp, 1, none⟩ = some (.slice A1 o.length c1) ∧ w'.cell? ⟨gp, 2, none⟩ = some (.slice A2 f.length c2) ∧ w'.cell? ⟨gp, 3, none⟩ = some (.int .i64 a) ∧ w'.cell? ⟨gp, 4, none⟩ = some (.int .i64 b)) (ds := []) #[false, false, false, false, false] (by kernel_rfl) rfl rfl ⟨IsPg.x0 BX.out, IsPg.x1 BX.out, IsPg.x2 BX.out, IsPg.x3 BX.out, IsPg.x4 BX.out, IsPl.x0 BP.out, IsPl.x1 BP.out, IsPl.x2 BP.out, IsPl.x3 BP.out, IsPl.x4 BP.out⟩ (fun hHeld => ?_)
 generalize w9.drew = w10 at B BP SW OW FW BW SX OX FX ZX BX SG OG FG Z BG hHeld ⊢
 refine take_ (i := 0) (N := some 31) (v := ?_) (a' := ?_) #[true, false, false, false, false] rfl rfl (by kernel_rfl) (fun _ _ _ h => h) (Or.inl ⟨by rfl, ?_⟩) hHeld ?_ ?_
 rotate_left
 ·rintro w' ⟨s0_, s1_, s2_, s3_, s4_, s5_, s6_, s7_, s8_, s9_⟩
  go_simp
  with_reducible rfl
 rotate_left
 ·simp only [Act.put, sa_, sz_, ss_, i64_w, i32_w]
  rfl
 refine take_ (i := 1) (N := some 32) (v := ?_) (a' := ?_) #[true, true, false, false, false] rfl rfl (by kernel_rfl) (fun _ _ _ h => h) (Or.inl ⟨by rfl, ?_⟩) hHeld ?_ ?_
 rotate_left
 ·rintro w' ⟨s0_, s1_, s2_, s3_, s4_, s5_, s6_, s7_, s8_, s9_⟩
  go_simp
  with_reducible rfl
 rotate_left
 ·simp only [Act.put, sa_, sz_, ss_, i64_w, i32_w]
  rfl
 refine one_ (i := 2) (N := some 33) #[true, true, true, false, false] rfl rfl (by kernel_rfl) (by decide) (fun K hK => ?_)
 refine goes_ Try.func16 (by kernel_rfl) rfl #[.agg #[.slice A0 l.length c0, .slice A1 o.length c1, .slice A2 f.length c2, .int .i64 a, .int .i64 b]] (by rfl) rfl rfl (by (try simp only [List.map_toArray, List.map_cons, List.map_nil]); first | done | rfl | (simp only [List.length_drop, List.length_take]; rfl)) ?_
 refine (laws_toPage.calls k A0 c0 l A1 c1 o A2 c2 f a b t1 t2 t3 t4 t5 _ (Kd.C_below H0.out B.out) HC0.out (Kd.C_below H1.out B.out) HC1.out (Kd.C_below H2.out B.out) HC2.out XA.out).mono ?_
 rintro e w11 ⟨v0, v1, v2, rfl, hS, hO, hF, hb⟩
 refine ⟨_, rfl, ?_⟩
 obtain ⟨a12, n12, rfl⟩ := Kd.S_slice hS
 obtain ⟨a13, n13, rfl⟩ := Kd.R_slice hO
 obtain ⟨a14, n14, rfl⟩ := Kd.R_slice hF
 have hs_ := Aside0.mk (Kd.S_mono (ok' := fun k => k < w11.heap.size) (Kd.S_bound hS) (fun k hk => hk.2.2.1))
 have ho_ := Aside0.mk (Kd.R_mono (ok' := fun k => k < w11.heap.size) (Kd.R_bound hO) (fun k hk => hk.2.2.1))
 have hf_ := Aside0.mk (Kd.R_mono (ok' := fun k => k < w11.heap.size) (Kd.R_bound hF) (fun k hk => hk.2.2.1))
 clear hS hO hF
 have n0_ := Aside0.mk (below_step B.out hb)
 have n1_ := Aside0.mk (blk_below BP.out hb)
 have n2_ := Aside0.mk (Kd.S_below SW.out hb)
 have n3_ := Aside0.mk (Kd.R_below OW.out hb)
 have n4_ := Aside0.mk (Kd.R_below FW.out hb)
 have n5_ := Aside0.mk (blk_below BW.out hb)
 have n6_ := Aside0.mk (Kd.S_below SX.out hb)
 have n7_ := Aside0.mk (Kd.R_below OX.out hb)
 have n8_ := Aside0.mk (Kd.R_below FX.out hb)
 have n9_ := Aside0.mk (Nat.le_trans ZX.out hb.size)
 have n10_ := Aside0.mk (blk_below BX.out hb)
 have n11_ := Aside0.mk (Kd.S_below SG.out hb)
 have n12_ := Aside0.mk (Kd.R_below OG.out hb)
 have n13_ := Aside0.mk (Kd.R_below FG.out hb)
 have n14_ := Aside0.mk (Nat.le_trans Z.out hb.size)
 have n15_ := Aside0.mk (blk_below BG.out hb)
 clear B BP SW OW FW BW SX OX FX ZX BX SG OG FG Z BG
 have B := n0_
 have BP := n1_
 have SW := n2_
 have OW := n3_
 have FW := n4_
 have BW := n5_
 have SX := n6_
 have OX := n7_
 have FX := n8_
 have ZX := n9_
 have BX := n10_
 have SG := n11_
 have OG := n12_
 have FG := n13_
 have Z := n14_
 have BG := n15_
 clear n0_ n1_ n2_ n3_ n4_ n5_ n6_ n7_ n8_ n9_ n10_ n11_ n12_ n13_ n14_ n15_ hb
 have SC := hs_
 have OC := ho_
 have FC := hf_
 clear hs_ ho_ hf_
 refine hK.out _ _ ⟨IsPg.x0 BX.out, IsPg.x1 BX.out, IsPg.x2 BX.out, IsPg.x3 BX.out, IsPg.x4 BX.out, IsPl.x0 BP.out, IsPl.x1 BP.out, IsPl.x2 BP.out, IsPl.x3 BP.out, IsPl.x4 BP.out⟩ (fun hHeld => ?_)
 clear hK K
 refine norm_ (a' := ?_) ?_ ?_
 rotate_left
 ·show Act.put _ (some 33) _ = _
  simp only [Act.put, sa_, sz_, ss_, i64_w, i32_w]
  rfl
 refine one_ (i := 3) (N := some 34) #[true, true, true, true, false] rfl rfl (by kernel_rfl) (by decide) (fun K hK => ?_)
 refine goes_ Try.func11 (by kernel_rfl) rfl #[.agg #[.slice a6 t1.length n6, .slice a7 t2.length n7, .slice a8 t3.length n8, .int .i64 t4, .int .i64 t5], .agg #[.slice a12 t1.length n12, .slice a13 t2.length n13, .slice a14 t3.length n14, .int .i64 t4, .int .i64 t5]] (by rfl) rfl rfl (by (try simp only [List.map_toArray, List.map_cons, List.map_nil]); first | done | rfl | (simp only [List.length_drop, List.length_take]; rfl)) ?_
 refine (laws_eqPage.calls k a6 n6 t1 a7 n7 t2 a8 n8 t3 t4 t5 a12 n12 t1 a13 n13 t2 a14 n14 t3 t4 t5 true _ (Kd.S_reads' SX.out).2.2 (Kd.S_reads' SX.out).2.1 (Kd.R_reads' OX.out).2.2 (Kd.R_reads' OX.out).2.1 (Kd.R_reads' FX.out).2.2 (Kd.R_reads' FX.out).2.1 (Kd.S_reads' SC.out).2.2 (Kd.S_reads' SC.out).2.1 (Kd.R_reads' OC.out).2.2 (Kd.R_reads' OC.out).2.1 (Kd.R_reads' FC.out).2.2 (Kd.R_reads' FC.out).2.1 A3b.out).mono ?_
 rintro e w12 ⟨rfl, hb⟩
 refine ⟨_, rfl, ?_⟩
 clear SC OC FC
 have n0_ := Aside0.mk (below_step B.out hb)
 have n1_ := Aside0.mk (blk_below BP.out hb)
 have n2_ := Aside0.mk (Kd.S_below SW.out hb)
 have n3_ := Aside0.mk (Kd.R_below OW.out hb)
 have n4_ := Aside0.mk (Kd.R_below FW.out hb)
 have n5_ := Aside0.mk (blk_below BW.out hb)
 have n6_ := Aside0.mk (Kd.S_below SX.out hb)
 have n7_ := Aside0.mk (Kd.R_below OX.out hb)
 have n8_ := Aside0.mk (Kd.R_below FX.out hb)
 have n9_ := Aside0.mk (Nat.le_trans ZX.out hb.size)
 have n10_ := Aside0.mk (blk_below BX.out hb)
 have n11_ := Aside0.mk (Kd.S_below SG.out hb)
 have n12_ := Aside0.mk (Kd.R_below OG.out hb)
 have n13_ := Aside0.mk (Kd.R_below FG.out hb)
 have n14_ := Aside0.mk (Nat.le_trans Z.out hb.size)
 have n15_ := Aside0.mk (blk_below BG.out hb)
 clear B BP SW OW FW BW SX OX FX ZX BX SG OG FG Z BG
 have B := n0_
 have BP := n1_
 have SW := n2_
 have OW := n3_
 have FW := n4_
 have BW := n5_
 have SX := n6_
 have OX := n7_
 have FX := n8_
 have ZX := n9_
 have BX := n10_
 have SG := n11_
 have OG := n12_
 have FG := n13_
 have Z := n14_
 have BG := n15_
 clear n0_ n1_ n2_ n3_ n4_ n5_ n6_ n7_ n8_ n9_ n10_ n11_ n12_ n13_ n14_ n15_ hb
 refine hK.out _ _ ⟨IsPg.x0 BX.out, IsPg.x1 BX.out, IsPg.x2 BX.out, IsPg.x3 BX.out, IsPg.x4 BX.out, IsPl.x0 BP.out, IsPl.x1 BP.out, IsPl.x2 BP.out, IsPl.x3 BP.out, IsPl.x4 BP.out⟩ (fun hHeld => ?_)
 clear hK K
 refine norm_ (a' := ?_) ?_ ?_
 rotate_left
 ·show Act.put _ (some 34) _ = _
  simp only [Act.put, sa_, sz_, ss_, i64_w, i32_w]
  rfl
 refine pure_ (i := 4) (N := some 35) (v := ?_) (a' := ?_) #[true, true, true, true, true] rfl rfl (by kernel_rfl) (fun _ _ _ h => h) (Or.inl ⟨by rfl, ?_⟩) ?_ ?_
 rotate_left
 ·intro w'
  go_simp
  with_reducible rfl
 rotate_left
 ·simp only [Act.put, sa_, sz_, ss_, i64_w, i32_w]
  rfl
 refine done_ (by kernel_rfl) ?_
 clear hHeld
 have zBX0 := IsPg.x0 BX.out
 have zBX1 := IsPg.x1 BX.out
 have zBX2 := IsPg.x2 BX.out
 have zBX3 := IsPg.x3 BX.out
 have zBX4 := IsPg.x4 BX.out
 go_wp2_with (go_at_call 12; refine (laws_markPage.calls k (fun k => w4.heap.size ≤ k ∧ k < w5.heap.size ∧ some k ≠ (Value.slice a7 t2.length n7 : Value).ownBlock ∧ some k ≠ (Value.slice a8 t3.length n8 : Value).ownBlock) (fun k => w4.heap.size ≤ k ∧ k < w5.heap.size ∧ some k = (Value.slice a7 t2.length n7 : Value).ownBlock ∧ some k ≠ (Value.slice a8 t3.length n8 : Value).ownBlock) (fun k => w4.heap.size ≤ k ∧ k < w5.heap.size ∧ some k = (Value.slice a8 t3.length n8 : Value).ownBlock ∧ some k ≠ (Value.slice a7 t2.length n7 : Value).ownBlock) a6 n6 t1 a7 n7 t2 a8 n8 t3 t4 t5 1 m0 M0_ o0 f0 w _ B.out (fun k h3 => Nat.lt_of_lt_of_le (by rcases h3 with h | h | h <;> exact h.2.1) ZX.out) (fun k h1 h2 => h1.2.2.1 h2.2.2.1) (fun k h1 h2 => h1.2.2.2 h2.2.2.1) (fun k h1 h2 => h1.2.2.2 h2.2.2.1) SX.out OX.out FX.out A4a.out).mono ?_; rintro e w13 ⟨rfl, hM, hO, hF, hb, hk⟩; clear hM hO hF; clear zBX0 zBX1 zBX2 zBX3 zBX4; have n0_ := Aside0.mk (Kd.S_step SW.out (fun k h1 h2 => hk.2 k h2 (fun h3 => absurd (Nat.lt_of_lt_of_le h1 ZBW.out) (Nat.not_lt.2 (by rcases h3 with h | h | h <;> exact h.1))))); have n1_ := Aside0.mk (Kd.R_step OW.out (fun k h1 h2 => hk.2 k h2 (fun h3 => absurd (Nat.lt_of_lt_of_le h1 ZBW.out) (Nat.not_lt.2 (by rcases h3 with h | h | h <;> exact h.1))))); have n2_ := Aside0.mk (Kd.R_step FW.out (fun k h1 h2 => hk.2 k h2 (fun h3 => absurd (Nat.lt_of_lt_of_le h1 ZBW.out) (Nat.not_lt.2 (by rcases h3 with h | h | h <;> exact h.1))))); have n3_ := Aside0.mk ((hk.2 _ (blk_lt BW.out) (fun h3 => absurd (LW.out) (Nat.not_lt.2 (by rcases h3 with h | h | h <;> exact h.1)))).trans BW.out); have n4_ := Aside0.mk ((hk.2 _ (blk_lt BP.out) (fun h3 => absurd (Nat.lt_of_lt_of_le (Nat.lt_of_lt_of_le LP.out M0.out) ZBW.out) (Nat.not_lt.2 (by rcases h3 with h | h | h <;> exact h.1)))).trans BP.out); have n5_ := Aside0.mk ((hk.2 _ (blk_lt BG.out) (fun h3 => absurd (by rcases h3 with h | h | h <;> exact h.2.1) (Nat.not_lt.2 (Nat.le_trans ZBX.out M67.out)))).trans BG.out); have n6_ := Aside0.mk (Kd.S_step SG.out (fun k h1 h2 => hk.2 k h2 (fun h3 => absurd (by rcases h3 with h | h | h <;> exact h.2.1) (Nat.not_lt.2 (Nat.le_trans ZBX.out h1.1))))); have n7_ := Aside0.mk (Kd.R_step OG.out (fun k h1 h2 => hk.2 k h2 (fun h3 => absurd (by rcases h3 with h | h | h <;> exact h.2.1) (Nat.not_lt.2 (Nat.le_trans ZBX.out h1.1))))); have n8_ := Aside0.mk (Kd.R_step FG.out (fun k h1 h2 => hk.2 k h2 (fun h3 => absurd (by rcases h3 with h | h | h <;> exact h.2.1) (Nat.not_lt.2 (Nat.le_trans ZBX.out h1.1))))); have n9_ := Aside0.mk (hb); have n10_ := Aside0.mk (Nat.le_trans Z.out hk.1); clear B BP SW OW FW BW SX OX FX ZX BX SG OG FG Z BG hb hk; have SW := n0_; have OW := n1_; have FW := n2_; have BW := n3_; have BP := n4_; have BG := n5_; have SG := n6_; have OG := n7_; have FG := n8_; have B := n9_; have Z := n10_; clear n0_ n1_ n2_ n3_ n4_ n5_ n6_ n7_ n8_ n9_ n10_; have zBG0 := IsPg.x0 BG.out; have zBG1 := IsPg.x1 BG.out; have zBG2 := IsPg.x2 BG.out; have zBG3 := IsPg.x3 BG.out; have zBG4 := IsPg.x4 BG.out; have zBW0 := IsPg.x0 BW.out; have zBW1 := IsPg.x1 BW.out; have zBW2 := IsPg.x2 BW.out; have zBW3 := IsPg.x3 BW.out; have zBW4 := IsPg.x4 BW.out)
 go_wp2_with (go_at_call 11; refine (laws_eqPage.calls k a9 n9 p1 a10 n10 p2 a11 n11 p3 p4 p5 a3 n3 s1 a4 n4 s2 a5 n5 s3 s4 s5 true _ (Kd.S_reads' SG.out).2.2 (Kd.S_reads' SG.out).2.1 (Kd.R_reads' OG.out).2.2 (Kd.R_reads' OG.out).2.1 (Kd.R_reads' FG.out).2.2 (Kd.R_reads' FG.out).2.1 (Kd.S_reads' SW.out).2.2 (Kd.S_reads' SW.out).2.1 (Kd.R_reads' OW.out).2.2 (Kd.R_reads' OW.out).2.1 (Kd.R_reads' FW.out).2.2 (Kd.R_reads' FW.out).2.1 A3.out).mono ?_; rintro e w14 ⟨rfl, hb⟩; clear zBG0 zBG1 zBG2 zBG3 zBG4 zBW0 zBW1 zBW2 zBW3 zBW4; have n0_ := Aside0.mk (below_step B.out hb); have n1_ := Aside0.mk (Kd.S_below SW.out hb); have n2_ := Aside0.mk (Kd.R_below OW.out hb); have n3_ := Aside0.mk (Kd.R_below FW.out hb); have n4_ := Aside0.mk (blk_below BW.out hb); have n5_ := Aside0.mk (blk_below BP.out hb); have n6_ := Aside0.mk (blk_below BG.out hb); have n7_ := Aside0.mk (Kd.S_below SG.out hb); have n8_ := Aside0.mk (Kd.R_below OG.out hb); have n9_ := Aside0.mk (Kd.R_below FG.out hb); have n10_ := Aside0.mk (Nat.le_trans Z.out hb.size); clear B SW OW FW BW BP BG SG OG FG Z; have B := n0_; have SW := n1_; have OW := n2_; have FW := n3_; have BW := n4_; have BP := n5_; have BG := n6_; have SG := n7_; have OG := n8_; have FG := n9_; have Z := n10_; clear n0_ n1_ n2_ n3_ n4_ n5_ n6_ n7_ n8_ n9_ n10_ hb; have zBG0 := IsPg.x0 BG.out; have zBG1 := IsPg.x1 BG.out; have zBG2 := IsPg.x2 BG.out; have zBG3 := IsPg.x3 BG.out; have zBG4 := IsPg.x4 BG.out)
 go_wp2_with (go_at_call 12; refine (laws_markPage.calls k (fun k => w6.heap.size ≤ k ∧ k < w7.heap.size ∧ some k ≠ (Value.slice a10 p2.length n10 : Value).ownBlock ∧ some k ≠ (Value.slice a11 p3.length n11 : Value).ownBlock) (fun k => w6.heap.size ≤ k ∧ k < w7.heap.size ∧ some k = (Value.slice a10 p2.length n10 : Value).ownBlock ∧ some k ≠ (Value.slice a11 p3.length n11 : Value).ownBlock) (fun k => w6.heap.size ≤ k ∧ k < w7.heap.size ∧ some k = (Value.slice a11 p3.length n11 : Value).ownBlock ∧ some k ≠ (Value.slice a10 p2.length n10 : Value).ownBlock) a9 n9 p1 a10 n10 p2 a11 n11 p3 p4 p5 1 mm M o2 f2 w _ B.out (fun k h3 => Nat.lt_of_lt_of_le (by rcases h3 with h | h | h <;> exact h.2.1) Z.out) (fun k h1 h2 => h1.2.2.1 h2.2.2.1) (fun k h1 h2 => h1.2.2.2 h2.2.2.1) (fun k h1 h2 => h1.2.2.2 h2.2.2.1) SG.out OG.out FG.out A4.out).mono ?_; rintro e w15 ⟨rfl, hM, hO, hF, hb, hk⟩; have HL0 := Aside0.mk (MK.len hM); have HBG := Aside0.mk (Kd.S_reads' SG.out).2.2.2.1; have HM := Aside0.mk hM; have hl1 := (Kd.R_reads' hO).1; have hl2 := (Kd.R_reads' hF).1; rw [hl1] at hO; rw [hl2] at hF; have HL1 := Aside0.mk hl1; have HL2 := Aside0.mk hl2; have R5 := Aside0.mk hO; have R6 := Aside0.mk hF; clear zBG0 zBG1 zBG2 zBG3 zBG4; have n0_ := Aside0.mk (Kd.S_step SW.out (fun k h1 h2 => hk.2 k h2 (fun h3 => absurd (Nat.lt_of_lt_of_le h1 (Nat.le_trans ZBW.out (Nat.le_trans M45.out ZBX.out))) (Nat.not_lt.2 (by rcases h3 with h | h | h <;> exact h.1))))); have n1_ := Aside0.mk (Kd.R_step OW.out (fun k h1 h2 => hk.2 k h2 (fun h3 => absurd (Nat.lt_of_lt_of_le h1 (Nat.le_trans ZBW.out (Nat.le_trans M45.out ZBX.out))) (Nat.not_lt.2 (by rcases h3 with h | h | h <;> exact h.1))))); have n2_ := Aside0.mk (Kd.R_step FW.out (fun k h1 h2 => hk.2 k h2 (fun h3 => absurd (Nat.lt_of_lt_of_le h1 (Nat.le_trans ZBW.out (Nat.le_trans M45.out ZBX.out))) (Nat.not_lt.2 (by rcases h3 with h | h | h <;> exact h.1))))); have n3_ := Aside0.mk ((hk.2 _ (blk_lt BW.out) (fun h3 => absurd (Nat.lt_of_lt_of_le LW.out (Nat.le_trans M45.out ZBX.out)) (Nat.not_lt.2 (by rcases h3 with h | h | h <;> exact h.1)))).trans BW.out); have n4_ := Aside0.mk ((hk.2 _ (blk_lt BP.out) (fun h3 => absurd (Nat.lt_of_lt_of_le (Nat.lt_of_lt_of_le LP.out M0.out) (Nat.le_trans ZBW.out (Nat.le_trans M45.out ZBX.out))) (Nat.not_lt.2 (by rcases h3 with h | h | h <;> exact h.1)))).trans BP.out); have n5_ := Aside0.mk ((hk.2 _ (blk_lt BG.out) (fun h3 => absurd (by rcases h3 with h | h | h <;> exact h.2.1) (Nat.lt_irrefl w7.heap.size))).trans BG.out); have n6_ := Aside0.mk (hb); have n7_ := Aside0.mk (Nat.le_trans Z.out hk.1); clear B SW OW FW BW BP BG SG OG FG Z hM hO hF hl1 hl2 hb hk; have SW := n0_; have OW := n1_; have FW := n2_; have BW := n3_; have BP := n4_; have BG := n5_; have B := n6_; have Z := n7_; clear n0_ n1_ n2_ n3_ n4_ n5_ n6_ n7_; have zBG0 := IsPg.x0 BG.out; have zBG1 := IsPg.x1 BG.out; have zBG2 := IsPg.x2 BG.out; have zBG3 := IsPg.x3 BG.out; have zBG4 := IsPg.x4 BG.out)
 go_wp2_with (go_at_call 13; have HH := laws_heldPage.calls k a9 n9 M a10 n10 o2 a11 n11 f2 p4 p5 1 mm _ (MK.C HM.out HBG.out).1 (MK.C HM.out HBG.out).2 (Kd.R_reads' R5.out).2.2 (Kd.R_reads' R5.out).2.1 (Kd.R_reads' R6.out).2.2 (Kd.R_reads' R6.out).2.1 A5.out; rw [← HL0.out, ← HL1.out, ← HL2.out] at HH; refine HH.mono ?_; clear HH; rintro e w16 ⟨rfl, hb⟩; clear zBG0 zBG1 zBG2 zBG3 zBG4; have n0_ := Aside0.mk (below_step B.out hb); have n1_ := Aside0.mk (Kd.S_below SW.out hb); have n2_ := Aside0.mk (Kd.R_below OW.out hb); have n3_ := Aside0.mk (Kd.R_below FW.out hb); have n4_ := Aside0.mk (blk_below BW.out hb); have n5_ := Aside0.mk (blk_below BP.out hb); have n6_ := Aside0.mk (blk_below BG.out hb); have n7_ := Aside0.mk (Nat.le_trans Z.out hb.size); have n8_ := Aside0.mk (MK.move HM.out (fun k hk => hb.block k (Nat.lt_of_lt_of_le hk.2.1 Z.out))); have n9_ := Aside0.mk (Kd.R_below R5.out hb); have n10_ := Aside0.mk (Kd.R_below R6.out hb); clear B SW OW FW BW BP BG Z HM R5 R6; have B := n0_; have SW := n1_; have OW := n2_; have FW := n3_; have BW := n4_; have BP := n5_; have BG := n6_; have Z := n7_; have HM := n8_; have R5 := n9_; have R6 := n10_; clear n0_ n1_ n2_ n3_ n4_ n5_ n6_ n7_ n8_ n9_ n10_ hb; have zBP0 := IsPl.x0 BP.out; have zBP1 := IsPl.x1 BP.out; have zBP2 := IsPl.x2 BP.out; have zBP3 := IsPl.x3 BP.out; have zBP4 := IsPl.x4 BP.out)
 go_wp2_with (first | (go_at_call 16; refine (laws_toPage.calls k A0 c0 l A1 c1 o A2 c2 f a b t1 t2 t3 t4 t5 _ (Kd.C_below H0.out B.out) HC0.out (Kd.C_below H1.out B.out) HC1.out (Kd.C_below H2.out B.out) HC2.out XA.out).mono ?_; rintro e w17 ⟨v0, v1, v2, rfl, hS, hO, hF, hb⟩; obtain ⟨a15, n15, rfl⟩ := Kd.S_slice hS; obtain ⟨a16, n16, rfl⟩ := Kd.R_slice hO; obtain ⟨a17, n17, rfl⟩ := Kd.R_slice hF; have hs_ := Aside0.mk (Kd.S_mono (ok' := fun k => k < w17.heap.size) (Kd.S_bound hS) (fun k hk => hk.2.2.1)); have ho_ := Aside0.mk (Kd.R_mono (ok' := fun k => k < w17.heap.size) (Kd.R_bound hO) (fun k hk => hk.2.2.1)); have hf_ := Aside0.mk (Kd.R_mono (ok' := fun k => k < w17.heap.size) (Kd.R_bound hF) (fun k hk => hk.2.2.1)); clear hS hO hF; clear zBP0 zBP1 zBP2 zBP3 zBP4; have n0_ := Aside0.mk (below_step B.out hb); have n1_ := Aside0.mk (Kd.S_below SW.out hb); have n2_ := Aside0.mk (Kd.R_below OW.out hb); have n3_ := Aside0.mk (Kd.R_below FW.out hb); have n4_ := Aside0.mk (blk_below BW.out hb); have n5_ := Aside0.mk (blk_below BP.out hb); have n6_ := Aside0.mk (blk_below BG.out hb); have n7_ := Aside0.mk (Nat.le_trans Z.out hb.size); have n8_ := Aside0.mk (MK.move HM.out (fun k hk => hb.block k (Nat.lt_of_lt_of_le hk.2.1 Z.out))); have n9_ := Aside0.mk (Kd.R_below R5.out hb); have n10_ := Aside0.mk (Kd.R_below R6.out hb); clear B SW OW FW BW BP BG Z HM R5 R6; have B := n0_; have SW := n1_; have OW := n2_; have FW := n3_; have BW := n4_; have BP := n5_; have BG := n6_; have Z := n7_; have HM := n8_; have R5 := n9_; have R6 := n10_; clear n0_ n1_ n2_ n3_ n4_ n5_ n6_ n7_ n8_ n9_ n10_ hb; have SY := hs_; have OY := ho_; have FY := hf_; clear hs_ ho_ hf_) | (go_at_call 23; refine (impl_PopTo.calls a15 n15 t1 a16 n16 t2 a17 n17 t3 t4 t5 u p1 p2 p3 p4 p5 _ (Kd.S_reads' SY.out).2.2 (Kd.S_reads' SY.out).2.1 (Kd.R_reads' OY.out).2.2 (Kd.R_reads' OY.out).2.1 (Kd.R_reads' FY.out).2.2 (Kd.R_reads' FY.out).2.1 XC.out).mono ?_; rintro e w18 ⟨v0, v1, v2, rfl, hS, hO, hF, hb⟩; obtain ⟨a18, n18, rfl⟩ := Kd.S_slice hS; obtain ⟨a19, n19, rfl⟩ := Kd.R_slice hO; obtain ⟨a20, n20, rfl⟩ := Kd.R_slice hF; have hs_ := Aside0.mk (Kd.S_mono (ok' := fun k => k < w18.heap.size) (Kd.S_bound hS) (fun k hk => hk.2.2.1)); have ho_ := Aside0.mk (Kd.R_mono (ok' := fun k => k < w18.heap.size) (Kd.R_bound hO) (fun k hk => hk.2.2.1)); have hf_ := Aside0.mk (Kd.R_mono (ok' := fun k => k < w18.heap.size) (Kd.R_bound hF) (fun k hk => hk.2.2.1)); clear hS hO hF; have n0_ := Aside0.mk (below_step B.out hb); have n1_ := Aside0.mk (Kd.S_below SW.out hb); have n2_ := Aside0.mk (Kd.R_below OW.out hb); have n3_ := Aside0.mk (Kd.R_below FW.out hb); have n4_ := Aside0.mk (blk_below BW.out hb); have n5_ := Aside0.mk (blk_below BP.out hb); have n6_ := Aside0.mk (blk_below BG.out hb); have n7_ := Aside0.mk (Nat.le_trans Z.out hb.size); have n8_ := Aside0.mk (MK.move HM.out (fun k hk => hb.block k (Nat.lt_of_lt_of_le hk.2.1 Z.out))); have n9_ := Aside0.mk (Kd.R_below R5.out hb); have n10_ := Aside0.mk (Kd.R_below R6.out hb); have n11_ := Aside0.mk (Kd.S_below SY.out hb); have n12_ := Aside0.mk (Kd.R_below OY.out hb); have n13_ := Aside0.mk (Kd.R_below FY.out hb); clear B SW OW FW BW BP BG Z HM R5 R6 SY OY FY; have B := n0_; have SW := n1_; have OW := n2_; have FW := n3_; have BW := n4_; have BP := n5_; have BG := n6_; have Z := n7_; have HM := n8_; have R5 := n9_; have R6 := n10_; have SY := n11_; have OY := n12_; have FY := n13_; clear n0_ n1_ n2_ n3_ n4_ n5_ n6_ n7_ n8_ n9_ n10_ n11_ n12_ n13_ hb; have SH := hs_; have OH := ho_; have FH := hf_; clear hs_ ho_ hf_; clear SY OY FY) | ((with_reducible refine gate_store (t := 25) (p := 12) rfl ?_); refine store_event (t := 25) (p := 12) (v := ?vo12_) (w1 := ?w112_) ?hg ?ho ?hn ?hr ?_; (case ho => rfl); (case hg => rfl); (case hn => rfl); (case hr => go_simp; rfl); intro w19 hw_; have hb := (show Below w18.heap.size w18 w19 by rw [hw_]; exact (Below.refl w18.heap.size w18).alloc (Nat.le_refl _) _); have hp_ := Aside0.mk (show IsPg w19 w18.heap.size a18 n18 p1 a19 n19 p2 a20 n20 p3 p4 p5 by rw [hw_]; exact blk_new _ _); have hz_ := Aside0.mk hb.size; clear hw_; have n0_ := Aside0.mk (below_step B.out hb); have n1_ := Aside0.mk (Kd.S_below SW.out hb); have n2_ := Aside0.mk (Kd.R_below OW.out hb); have n3_ := Aside0.mk (Kd.R_below FW.out hb); have n4_ := Aside0.mk (blk_below BW.out hb); have n5_ := Aside0.mk (blk_below BP.out hb); have n6_ := Aside0.mk (blk_below BG.out hb); have n7_ := Aside0.mk (Nat.le_trans Z.out hb.size); have n8_ := Aside0.mk (MK.move HM.out (fun k hk => hb.block k (Nat.lt_of_lt_of_le hk.2.1 Z.out))); have n9_ := Aside0.mk (Kd.R_below R5.out hb); have n10_ := Aside0.mk (Kd.R_below R6.out hb); have n11_ := Aside0.mk (Kd.S_below SH.out hb); have n12_ := Aside0.mk (Kd.R_below OH.out hb); have n13_ := Aside0.mk (Kd.R_below FH.out hb); clear B SW OW FW BW BP BG Z HM R5 R6 SH OH FH; have B := n0_; have SW := n1_; have OW := n2_; have FW := n3_; have BW := n4_; have BP := n5_; have BG := n6_; have Z := n7_; have HM := n8_; have R5 := n9_; have R6 := n10_; have SH := n11_; have OH := n12_; have FH := n13_; clear n0_ n1_ n2_ n3_ n4_ n5_ n6_ n7_ n8_ n9_ n10_ n11_ n12_ n13_ hb; have BH := hp_; have ZBH := hz_; clear hp_ hz_; have zBH0 := IsPg.x0 BH.out; have zBH1 := IsPg.x1 BH.out; have zBH2 := IsPg.x2 BH.out; have zBH3 := IsPg.x3 BH.out; have zBH4 := IsPg.x4 BH.out; have zBW0 := IsPg.x0 BW.out; have zBW1 := IsPg.x1 BW.out; have zBW2 := IsPg.x2 BW.out; have zBW3 := IsPg.x3 BW.out; have zBW4 := IsPg.x4 BW.out))
 go_wp2_with (go_at_call 11; refine (laws_eqPage.calls k a18 n18 p1 a19 n19 p2 a20 n20 p3 p4 p5 a3 n3 s1 a4 n4 s2 a5 n5 s3 s4 s5 true _ (Kd.S_reads' SH.out).2.2 (Kd.S_reads' SH.out).2.1 (Kd.R_reads' OH.out).2.2 (Kd.R_reads' OH.out).2.1 (Kd.R_reads' FH.out).2.2 (Kd.R_reads' FH.out).2.1 (Kd.S_reads' SW.out).2.2 (Kd.S_reads' SW.out).2.1 (Kd.R_reads' OW.out).2.2 (Kd.R_reads' OW.out).2.1 (Kd.R_reads' FW.out).2.2 (Kd.R_reads' FW.out).2.1 A3.out).mono ?_; rintro e w20 ⟨rfl, hb⟩; clear zBH0 zBH1 zBH2 zBH3 zBH4 zBW0 zBW1 zBW2 zBW3 zBW4; have n0_ := Aside0.mk (below_step B.out hb); have n1_ := Aside0.mk (Kd.S_below SW.out hb); have n2_ := Aside0.mk (Kd.R_below OW.out hb); have n3_ := Aside0.mk (Kd.R_below FW.out hb); have n4_ := Aside0.mk (blk_below BW.out hb); have n5_ := Aside0.mk (blk_below BP.out hb); have n6_ := Aside0.mk (blk_below BG.out hb); have n7_ := Aside0.mk (Nat.le_trans Z.out hb.size); have n8_ := Aside0.mk (MK.move HM.out (fun k hk => hb.block k (Nat.lt_of_lt_of_le hk.2.1 Z.out))); have n9_ := Aside0.mk (Kd.R_below R5.out hb); have n10_ := Aside0.mk (Kd.R_below R6.out hb); have n11_ := Aside0.mk (Kd.S_below SH.out hb); have n12_ := Aside0.mk (Kd.R_below OH.out hb); have n13_ := Aside0.mk (Kd.R_below FH.out hb); have n14_ := Aside0.mk (blk_below BH.out hb); clear B SW OW FW BW BP BG Z HM R5 R6 SH OH FH BH; have B := n0_; have SW := n1_; have OW := n2_; have FW := n3_; have BW := n4_; have BP := n5_; have BG := n6_; have Z := n7_; have HM := n8_; have R5 := n9_; have R6 := n10_; have SH := n11_; have OH := n12_; have FH := n13_; have BH := n14_; clear n0_ n1_ n2_ n3_ n4_ n5_ n6_ n7_ n8_ n9_ n10_ n11_ n12_ n13_ n14_ hb; have zBG0 := IsPg.x0 BG.out; have zBG1 := IsPg.x1 BG.out; have zBG2 := IsPg.x2 BG.out; have zBG3 := IsPg.x3 BG.out; have zBG4 := IsPg.x4 BG.out)
 go_wp2_with (go_at_call 13; have HH := laws_heldPage.calls k a9 n9 M a10 n10 o2 a11 n11 f2 p4 p5 1 mm _ (MK.C HM.out HBG.out).1 (MK.C HM.out HBG.out).2 (Kd.R_reads' R5.out).2.2 (Kd.R_reads' R5.out).2.1 (Kd.R_reads' R6.out).2.2 (Kd.R_reads' R6.out).2.1 A5.out; rw [← HL0.out, ← HL1.out, ← HL2.out] at HH; refine HH.mono ?_; clear HH; rintro e w21 ⟨rfl, hb⟩; clear zBG0 zBG1 zBG2 zBG3 zBG4; have n0_ := Aside0.mk (below_step B.out hb); have n1_ := Aside0.mk (Kd.S_below SW.out hb); have n2_ := Aside0.mk (Kd.R_below OW.out hb); have n3_ := Aside0.mk (Kd.R_below FW.out hb); have n4_ := Aside0.mk (blk_below BW.out hb); have n5_ := Aside0.mk (blk_below BP.out hb); have n6_ := Aside0.mk (blk_below BG.out hb); have n7_ := Aside0.mk (Nat.le_trans Z.out hb.size); have n8_ := Aside0.mk (MK.move HM.out (fun k hk => hb.block k (Nat.lt_of_lt_of_le hk.2.1 Z.out))); have n9_ := Aside0.mk (Kd.R_below R5.out hb); have n10_ := Aside0.mk (Kd.R_below R6.out hb); have n11_ := Aside0.mk (Kd.S_below SH.out hb); have n12_ := Aside0.mk (Kd.R_below OH.out hb); have n13_ := Aside0.mk (Kd.R_below FH.out hb); have n14_ := Aside0.mk (blk_below BH.out hb); clear B SW OW FW BW BP BG Z HM R5 R6 SH OH FH BH; have B := n0_; have SW := n1_; have OW := n2_; have FW := n3_; have BW := n4_; have BP := n5_; have BG := n6_; have Z := n7_; have HM := n8_; have R5 := n9_; have R6 := n10_; have SH := n11_; have OH := n12_; have FH := n13_; have BH := n14_; clear n0_ n1_ n2_ n3_ n4_ n5_ n6_ n7_ n8_ n9_ n10_ n11_ n12_ n13_ n14_ hb)
 go_ret
 exact ⟨by first | rfl | (simp; done), B.out⟩
end Go.Proofs.Ytedeliggbjbngaa.PFnExactPopTo
