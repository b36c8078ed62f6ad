-- Written by this session's program wip/slim.py out of the print's texts. Lean checks it.
import Derived.Test.YtbgedpicfllclaaSFnExactAddx0
import Derived.Test.YtbgedpicfllclaaSFnExactAddx1
import Derived.Test.YtbgedpicfllclaaSFnExactAddx5
import Derived.Test.YtbgedpicfllclaaSFnExactAddx9
import Derived.Test.YtbgedpicfllclaaSFnExactAddx10
import Derived.Test.YtbgedpicfllclaaSFnExactAddx11
import Derived.Test.YtbgedpicfllclaaSFnExactAddx12
import Derived.Test.YtbgedpicfllclaaSFnExactAddx14
namespace Go.Proofs.Ytbgedpicfllclaa.PFnExactAdd
open Go.RowKit Go.Proofs.YtbgedpicfllclaaW.PrintWords Go.Proofs.YtbgedpicfllclaaW.PrintLast Go.Proofs.YtbgedpicfllclaaW.PrintMore
def q15_0 : Array Bool := bz 12 0
def q15_1 : Array Bool := bz 12 1
def q15_2 : Array Bool := bz 12 5
def q15_3 : Array Bool := bz 12 13
def q15_4 : Array Bool := bz 12 29
def q15_5 : Array Bool := bz 12 31
def q15_6 : Array Bool := bz 12 63
def q15_7 : Array Bool := bz 12 127
def q15_8 : Array Bool := bz 12 255
def q15_9 : Array Bool := bz 12 511
def q15_10 : Array Bool := bz 12 1023
def q15_11 : Array Bool := bz 12 2047
def q15_12 : Array Bool := bz 12 4095
attribute [local go_sem] max2_int min2_int max_two min_two max_three min_three max_four min_four
set_option linter.unusedVariables false
set_option linter.unusedSimpArgs false
def IsLi (W : World) (g : Nat) (a0 a1 : Int) (a2 : ByteArray) (v3 : Value) (a4 : ByteArray) (a5 : Int) (v6 : Value) : Prop := W.heap[g]? = some (.cells #[.int .i64 a0, .int .i64 a1, .string a2, v3, .string a4, .int .i64 a5, v6] 36 (0, 0))
section
variable {W W1 : World} {g : Nat} {a0 a1 : Int} {a2 : ByteArray} {v3 : Value} {a4 : ByteArray} {a5 : Int} {v6 : Value}
theorem IsLi.below (h : IsLi W g a0 a1 a2 v3 a4 a5 v6) (hb : Below W.heap.size W W1) : IsLi W1 g a0 a1 a2 v3 a4 a5 v6 := blk_below h hb
theorem IsLi.x0 (h : IsLi W g a0 a1 a2 v3 a4 a5 v6) : W.cell? ⟨g, 0, none⟩ = some (.int .i64 a0) := (bc_ h 0).trans rfl
theorem IsLi.x1 (h : IsLi W g a0 a1 a2 v3 a4 a5 v6) : W.cell? ⟨g, 1, none⟩ = some (.int .i64 a1) := (bc_ h 1).trans rfl
theorem IsLi.x2 (h : IsLi W g a0 a1 a2 v3 a4 a5 v6) : W.cell? ⟨g, 2, none⟩ = some (.string a2) := (bc_ h 2).trans rfl
theorem IsLi.x3 (h : IsLi W g a0 a1 a2 v3 a4 a5 v6) : W.cell? ⟨g, 3, none⟩ = some v3 := (bc_ h 3).trans rfl
theorem IsLi.x4 (h : IsLi W g a0 a1 a2 v3 a4 a5 v6) : W.cell? ⟨g, 4, none⟩ = some (.string a4) := (bc_ h 4).trans rfl
theorem IsLi.x5 (h : IsLi W g a0 a1 a2 v3 a4 a5 v6) : W.cell? ⟨g, 5, none⟩ = some (.int .i64 a5) := (bc_ h 5).trans rfl
theorem IsLi.x6 (h : IsLi W g a0 a1 a2 v3 a4 a5 v6) : W.cell? ⟨g, 6, none⟩ = some v6 := (bc_ h 6).trans rfl
theorem IsLi.fz (h : IsLi W g a0 a1 a2 v3 a4 a5 v6) (o : Nat) : W.frozen? ⟨g, o, none⟩ = false := blk_frozen h o
end
theorem MK.len {W : World} {base n c : Nat} {P : Nat → Prop} {A : Option Addr} {M : List (S44)} (h : MK W base P (.slice A n c) M) : n = M.length := by
 rcases h with ⟨rfl, A', c', e⟩ | ⟨g, cap, Q, e, _⟩
 ·injection e
 ·injection e
theorem MK.C {W : World} {base n c : Nat} {P : Nat → Prop} {A : Option Addr} {M : List (S44)} (h : MK W base P (.slice A n c) M) (hl : n ≤ 9223372036854775807) : Kd.C k44 W A M.length M ∧ M.length ≤ c := by
 obtain ⟨A', c', e, hc, hC⟩ := MK.reads h (MK.len h ▸ hl)
 injection e with e1 e2 e3
 subst e1
 subst e3
 exact ⟨hC, hc⟩
def laws_FnExactAdd.f (k : Nat) (l : List S36) (up p : Int) (b0 b1 : Int) (b2 : ByteArray) (l3 : List S89) (b4 : ByteArray) (b5 : Int) (l6 : List Int) : Option Bool := (laws_szItemS.f k l 1048576).bind fun t => if t < 0 then some true else (laws_szItem.f k b0 b1 b2 l3 b4 b5 l6 t).bind fun u => if u < 0 then some true else (laws_toItemS.f k l).bind fun m => (laws_toItem.f k b0 b1 b2 l3 b4 b5 l6).bind fun x => (spec_Add.f k m up p x.1 x.2.1 x.2.2.1 x.2.2.2.1 x.2.2.2.2.1 x.2.2.2.2.2.1 x.2.2.2.2.2.2).bind fun s => (impl_Add.f k m up p x.1 x.2.1 x.2.2.1 x.2.2.2.1 x.2.2.2.2.1 x.2.2.2.2.2.1 x.2.2.2.2.2.2).bind fun g => if g.2 = s.2 ∧ laws_eqItemS.f k g.1 s.1 = some true ∧ laws_eqItemS.f k m m = some true ∧ laws_eqItem.f k x.1 x.2.1 x.2.2.1 x.2.2.2.1 x.2.2.2.2.1 x.2.2.2.2.2.1 x.2.2.2.2.2.2 x.1 x.2.1 x.2.2.1 x.2.2.2.1 x.2.2.2.2.1 x.2.2.2.2.2.1 x.2.2.2.2.2.2 = some true then ((laws_markItemS.f k m 1).bind fun m0 => (laws_markItem.f k x.1 x.2.1 x.2.2.1 x.2.2.2.1 x.2.2.2.2.1 x.2.2.2.2.2.1 x.2.2.2.2.2.2 m0.1).bind fun m1 => if 0 ≤ m1.1 then (laws_markItemS.f k g.1 1).bind fun M => (if laws_heldItemS.f k M.2 1 = some M.1 ∧ 0 ≤ M.1 then some true else none) else none) else none
set_option maxHeartbeats 16000000 in
set_option maxRecDepth 100000 in
theorem laws_FnExactAdd.calls (k : Nat) (A0 : Option Addr) (c0 : Nat) (l : List S36) (up p : Int) (b0 b1 : Int) (b2 : ByteArray) (A3 : Option Addr) (c3 : Nat) (l3 : List S89) (b4 : ByteArray) (b5 : Int) (A6 : Option Addr) (c6 : Nat) (l6 : List Int) (r : Bool) (w : World) (hr0 : Kd.C k36 w A0 l.length l) (hc0 : l.length ≤ c0) (hr3 : Kd.C k89 w A3 l3.length l3) (hc3 : l3.length ≤ c3) (hr6 : Kd.C (Kd.int .i64) w A6 l6.length l6) (hc6 : l6.length ≤ c6) (h : laws_FnExactAdd.f k l up p b0 b1 b2 l3 b4 b5 l6 = some r) :
  Calls Try.prog 4 #[.slice A0 l.length c0, .int .i64 up, .int .i64 p, .agg #[.int .i64 b0, .int .i64 b1, .string b2, .slice A3 l3.length c3, .string b4, .int .i64 b5, .slice A6 l6.length c6]] w fun e w' => e = .returned (.bool r) ∧ Below w.heap.size w w' := by
 obtain ⟨t, X0, hn⟩ := Option.bind_eq_some_iff.mp h
 clear h
 have h := hn
 clear hn
 have X0 := Aside0.mk X0
 have HL0 := Aside0.mk hr0
 have HC0 := Aside0.mk hc0
 have HA3 := Aside0.mk hr3
 have HC3 := Aside0.mk hc3
 have HA6 := Aside0.mk hr6
 have HC6 := Aside0.mk hc6
 clear hr0 hc0 hr3 hc3 hr6 hc6
 have hu1 := Try.underlying44
 have hu2 := Try.underlying36
 have B := Aside0.mk (Below.refl w.heap.size w)
 by_cases ct : t < 0
 ·rw [if_pos ct] at h
  obtain rfl := Option.some.inj h
  have ctb : decide (t < 0) = true := decide_eq_true ct
  clear ct h
  go_enter Try.func4, Try.ntmps4
  go_wp2_with (first | ((with_reducible refine gate_dst (N := 7) rfl ?_); refine box_event ?hg (N := 7) ?hd (cs := #[.int .i64 b0, .int .i64 b1, .string b2, .slice A3 l3.length c3, .string b4, .int .i64 b5, .slice A6 l6.length c6]) (t := 36) ?hr ?_; (case hd => rfl); (case hg => rfl); (case hr => first | (go_simp; done) | (go_simp; rfl)); intro gp hg_ w1 hbox hb; have BL_ := Aside0.mk (show IsLi w1 gp b0 b1 b2 (.slice A3 l3.length c3) b4 b5 (.slice A6 l6.length c6) from hbox); clear hbox hg_; have n0_ := Aside0.mk (below_then B.out B.out.size hb); clear B; have B := n0_; clear n0_ hb; have BL := BL_; clear BL_) | (go_at_call 15; refine (laws_szItemS.calls k A0 c0 l 1048576 t _ (Kd.C_below HL0.out B.out) HC0.out X0.out).mono ?_; rintro e w2 ⟨rfl, hb⟩; have n0_ := Aside0.mk (below_then B.out B.out.size hb); have n1_ := Aside0.mk (IsLi.below BL.out hb); clear B BL; have B := n0_; have BL := n1_; clear n0_ n1_ hb; have pz0 := IsLi.x0 BL.out; have pz1 := IsLi.x1 BL.out; have pz2 := IsLi.x2 BL.out; have pz3 := IsLi.x3 BL.out; have pz4 := IsLi.x4 BL.out; have pz5 := IsLi.x5 BL.out; have pz6 := IsLi.x6 BL.out))
  go_ret
  exact ⟨by first | rfl | (simp; done), B.out⟩
 rw [if_neg ct] at h
 have ctb : decide (t < 0) = false := decide_eq_false ct
 clear ct
 obtain ⟨u, X1, hn⟩ := Option.bind_eq_some_iff.mp h
 clear h
 have h := hn
 clear hn
 have X1 := Aside0.mk X1
 by_cases cu : u < 0
 ·rw [if_pos cu] at h
  obtain rfl := Option.some.inj h
  have cub : decide (u < 0) = true := decide_eq_true cu
  clear cu h
  go_enter Try.func4, Try.ntmps4
  go_wp2_with (first | ((with_reducible refine gate_dst (N := 7) rfl ?_); refine box_event ?hg (N := 7) ?hd (cs := #[.int .i64 b0, .int .i64 b1, .string b2, .slice A3 l3.length c3, .string b4, .int .i64 b5, .slice A6 l6.length c6]) (t := 36) ?hr ?_; (case hd => rfl); (case hg => rfl); (case hr => first | (go_simp; done) | (go_simp; rfl)); intro gp hg_ w1 hbox hb; have BL_ := Aside0.mk (show IsLi w1 gp b0 b1 b2 (.slice A3 l3.length c3) b4 b5 (.slice A6 l6.length c6) from hbox); clear hbox hg_; have n0_ := Aside0.mk (below_then B.out B.out.size hb); clear B; have B := n0_; clear n0_ hb; have BL := BL_; clear BL_) | (go_at_call 15; refine (laws_szItemS.calls k A0 c0 l 1048576 t _ (Kd.C_below HL0.out B.out) HC0.out X0.out).mono ?_; rintro e w2 ⟨rfl, hb⟩; have n0_ := Aside0.mk (below_then B.out B.out.size hb); have n1_ := Aside0.mk (IsLi.below BL.out hb); clear B BL; have B := n0_; have BL := n1_; clear n0_ n1_ hb; have pz0 := IsLi.x0 BL.out; have pz1 := IsLi.x1 BL.out; have pz2 := IsLi.x2 BL.out; have pz3 := IsLi.x3 BL.out; have pz4 := IsLi.x4 BL.out; have pz5 := IsLi.x5 BL.out; have pz6 := IsLi.x6 BL.out) | (go_at_call 16; refine (laws_szItem.calls k b0 b1 b2 A3 c3 l3 b4 b5 A6 c6 l6 t u _ (Kd.C_below HA3.out B.out) HC3.out (Kd.C_below HA6.out B.out) HC6.out X1.out).mono ?_; rintro e w3 ⟨rfl, hb⟩; clear pz0 pz1 pz2 pz3 pz4 pz5 pz6; have n0_ := Aside0.mk (below_then B.out B.out.size hb); have n1_ := Aside0.mk (IsLi.below BL.out hb); clear B BL; have B := n0_; have BL := n1_; clear n0_ n1_ hb))
  go_ret
  exact ⟨by first | rfl | (simp; done), B.out⟩
 rw [if_neg cu] at h
 have cub : decide (u < 0) = false := decide_eq_false cu
 clear cu
 obtain ⟨m, XM, hn⟩ := Option.bind_eq_some_iff.mp h
 clear h
 have h := hn
 clear hn
 obtain ⟨⟨x0, x1, x2, x3, x4, x5, x6⟩, XT, hn⟩ := Option.bind_eq_some_iff.mp h
 clear h
 have h := hn
 clear hn
 simp only [] at h
 obtain ⟨⟨s1, s2⟩, XS, hn⟩ := Option.bind_eq_some_iff.mp h
 clear h
 have h := hn
 clear hn
 obtain ⟨⟨g1, g2⟩, XG, hn⟩ := Option.bind_eq_some_iff.mp h
 clear h
 have h := hn
 clear hn
 simp only [] at h
 by_cases ca : g2 = s2 ∧ laws_eqItemS.f k g1 s1 = some true ∧ laws_eqItemS.f k m m = some true ∧ laws_eqItem.f k x0 x1 x2 x3 x4 x5 x6 x0 x1 x2 x3 x4 x5 x6 = some true
 rotate_left
 ·rw [if_neg ca] at h; exact absurd h (by simp)
 rw [if_pos ca] at h
 obtain ⟨eg2, E1, E2, E3⟩ := ca
 subst eg2
 obtain ⟨⟨m0, M0⟩, Y0, hn⟩ := Option.bind_eq_some_iff.mp h
 clear h
 have h := hn
 clear hn
 obtain ⟨⟨m1, m2, m3⟩, Y1, hn⟩ := Option.bind_eq_some_iff.mp h
 clear h
 have h := hn
 clear hn
 simp only [] at h Y1
 by_cases cm : 0 ≤ m1
 rotate_left
 ·rw [if_neg cm] at h; exact absurd h (by simp)
 rw [if_pos cm] at h
 obtain ⟨⟨mm, M⟩, Y2, hn⟩ := Option.bind_eq_some_iff.mp h
 clear h
 have h := hn
 clear hn
 simp only [] at h
 by_cases cq : laws_heldItemS.f k M 1 = some mm ∧ 0 ≤ mm
 rotate_left
 ·rw [if_neg cq] at h; exact absurd h (by simp)
 rw [if_pos cq] at h
 obtain rfl := Option.some.inj h
 obtain ⟨Y3, cq⟩ := cq
 have cmb : decide (m1 < 0) = false := decide_eq_false (by omega)
 have cqb : decide (mm < 0) = false := decide_eq_false (by omega)
 clear h cq cm
 replace XM := Aside0.mk XM
 replace XT := Aside0.mk XT
 replace XS := Aside0.mk XS
 replace XG := Aside0.mk XG
 replace E1 := Aside0.mk E1
 replace E2 := Aside0.mk E2
 replace E3 := Aside0.mk E3
 replace Y0 := Aside0.mk Y0
 replace Y1 := Aside0.mk Y1
 replace Y2 := Aside0.mk Y2
 replace Y3 := Aside0.mk Y3
 go_enter Try.func4, Try.ntmps4
 go_wp2_with (first | ((with_reducible refine gate_dst (N := 7) rfl ?_); refine box_event ?hg (N := 7) ?hd (cs := #[.int .i64 b0, .int .i64 b1, .string b2, .slice A3 l3.length c3, .string b4, .int .i64 b5, .slice A6 l6.length c6]) (t := 36) ?hr ?_; (case hd => rfl); (case hg => rfl); (case hr => first | (go_simp; done) | (go_simp; rfl)); intro gp hg_ w1 hbox hb; have BL_ := Aside0.mk (show IsLi w1 gp b0 b1 b2 (.slice A3 l3.length c3) b4 b5 (.slice A6 l6.length c6) from hbox); clear hbox hg_; have n0_ := Aside0.mk (below_then B.out B.out.size hb); clear B; have B := n0_; clear n0_ hb; have BL := BL_; clear BL_) | (go_at_call 15; refine (laws_szItemS.calls k A0 c0 l 1048576 t _ (Kd.C_below HL0.out B.out) HC0.out X0.out).mono ?_; rintro e w2 ⟨rfl, hb⟩; have n0_ := Aside0.mk (below_then B.out B.out.size hb); have n1_ := Aside0.mk (IsLi.below BL.out hb); clear B BL; have B := n0_; have BL := n1_; clear n0_ n1_ hb; have pz0 := IsLi.x0 BL.out; have pz1 := IsLi.x1 BL.out; have pz2 := IsLi.x2 BL.out; have pz3 := IsLi.x3 BL.out; have pz4 := IsLi.x4 BL.out; have pz5 := IsLi.x5 BL.out; have pz6 := IsLi.x6 BL.out) | (go_at_call 16; refine (laws_szItem.calls k b0 b1 b2 A3 c3 l3 b4 b5 A6 c6 l6 t u _ (Kd.C_below HA3.out B.out) HC3.out (Kd.C_below HA6.out B.out) HC6.out X1.out).mono ?_; rintro e w3 ⟨rfl, hb⟩; clear pz0 pz1 pz2 pz3 pz4 pz5 pz6; have n0_ := Aside0.mk (below_then B.out B.out.size hb); have n1_ := Aside0.mk (IsLi.below BL.out hb); clear B BL; have B := n0_; have BL := n1_; clear n0_ n1_ hb))
 have hb := b1_ (Below.refl w3.heap.size w3)
 have n0_ := Aside0.mk (below_then B.out B.out.size hb)
 have n1_ := Aside0.mk (IsLi.below BL.out hb)
 clear B BL
 have B := n0_
 have BL := n1_
 clear n0_ n1_ hb
 refine start_ (n := 12) (S := fun w' => w'.cell? ⟨gp, 0, none⟩ = some (.int .i64 b0) ∧ w'.cell? ⟨gp, 1, none⟩ = some (.int .i64 b1) ∧ w'.cell? ⟨gp, 2, none⟩ = some (.string b2) ∧ w'.cell? ⟨gp, 3, none⟩ = some (.slice A3 l3.length c3) ∧ w'.cell? ⟨gp, 4, none⟩ = some (.string b4) ∧ w'.cell? ⟨gp, 5, none⟩ = some (.int .i64 b5) ∧ w'.cell? ⟨gp, 6, none⟩ = some (.slice A6 l6.length c6)) (ds := []) q15_0 (by kernel_rfl) rfl rfl ⟨IsLi.x0 BL.out, IsLi.x1 BL.out, IsLi.x2 BL.out, IsLi.x3 BL.out, IsLi.x4 BL.out, IsLi.x5 BL.out, IsLi.x6 BL.out⟩ (fun hHeld => ?_)
 generalize w3.drew = w4 at B BL hHeld ⊢
 refine pure_ (i := 0) (N := some 32) (v := ?_) (a' := ?_) q15_1 rfl rfl (by kernel_rfl) (fun _ _ _ h => h) (Or.inl ⟨by rfl, ?_⟩) ?_ ?_
 rotate_left;(intro w';go_simp;with_reducible rfl);rotate_left;(simp only [Act.put, sa_, sz_, ss_, i64_w, i32_w];rfl)
 refine pure_ (i := 2) (N := some 34) (v := ?_) (a' := ?_) q15_2 rfl rfl (by kernel_rfl) (fun _ _ _ h => h) (Or.inl ⟨by rfl, ?_⟩) ?_ ?_
 rotate_left;(intro w';go_simp;with_reducible rfl);rotate_left;(simp only [Act.put, sa_, sz_, ss_, i64_w, i32_w];rfl)
 refine pure_ (i := 3) (N := some 35) (v := ?_) (a' := ?_) q15_3 rfl rfl (by kernel_rfl) (fun _ _ _ h => h) (Or.inl ⟨by rfl, ?_⟩) ?_ ?_
 rotate_left;(intro w';go_simp;with_reducible rfl);rotate_left;(simp only [Act.put, sa_, sz_, ss_, i64_w, i32_w];rfl)
 refine take_ (i := 4) (N := some 36) (v := ?_) (a' := ?_) q15_4 rfl rfl (by kernel_rfl) (fun _ _ _ h => h) (Or.inl ⟨by rfl, ?_⟩) hHeld ?_ ?_
 rotate_left;(rintro w' ⟨s0_, s1_, s2_, s3_, s4_, s5_, s6_⟩;go_simp;with_reducible rfl);rotate_left;(simp only [Act.put, sa_, sz_, ss_, i64_w, i32_w];rfl)
 refine one_ (i := 1) (N := some 33) q15_5 rfl rfl (by kernel_rfl) (by decide) (fun K hK => ?_)
 refine goes_ Try.func18 (by kernel_rfl) rfl #[.slice A0 l.length c0] (by rfl) rfl rfl (by (try simp only [List.map_toArray, List.map_cons, List.map_nil]); first | done | rfl | (simp only [List.length_drop, List.length_take]; rfl)) ?_
 refine (laws_toItemS.calls k A0 c0 l m _ (Kd.C_below HL0.out B.out) HC0.out XM.out).mono ?_
 rintro e wa ⟨va, rfl, hs_, hb⟩
 refine ⟨_, rfl, ?_⟩
 obtain ⟨As, ns, rfl⟩ := Kd.S_slice hs_
 have QS_ := Aside0.mk hs_
 clear hs_
 have n0_ := Aside0.mk (below_then B.out B.out.size hb)
 have n1_ := Aside0.mk (IsLi.below BL.out hb)
 clear B BL
 have B := n0_
 have BL := n1_
 clear n0_ n1_ hb
 have QS := QS_
 clear QS_
 refine hK.out _ _ ⟨IsLi.x0 BL.out, IsLi.x1 BL.out, IsLi.x2 BL.out, IsLi.x3 BL.out, IsLi.x4 BL.out, IsLi.x5 BL.out, IsLi.x6 BL.out⟩ (fun hHeld => ?_)
 clear hK K
 refine norm_ (a' := ?_) ?_ ?_
 rotate_left
 ·show Act.put _ (some 33) _ = _
  simp only [Act.put, sa_, sz_, ss_, i64_w, i32_w]
  rfl
 refine one_ (i := 5) (N := some 37) q15_6 rfl rfl (by kernel_rfl) (by decide) (fun K hK => ?_)
 refine goes_ Try.func19 (by kernel_rfl) rfl #[.agg #[.int .i64 b0, .int .i64 b1, .string b2, .slice A3 l3.length c3, .string b4, .int .i64 b5, .slice A6 l6.length c6]] (by rfl) rfl rfl (by (try simp only [List.map_toArray, List.map_cons, List.map_nil]); first | done | rfl | (simp only [List.length_drop, List.length_take]; rfl)) ?_
 refine (laws_toItem.calls k b0 b1 b2 A3 c3 l3 b4 b5 A6 c6 l6 x0 x1 x2 x3 x4 x5 x6 _ (Kd.C_below HA3.out B.out) HC3.out (Kd.C_below HA6.out B.out) HC6.out XT.out).mono ?_
 rintro e w5 ⟨v3_, v6_, rfl, hr3_, hr6_, hb⟩
 refine ⟨_, rfl, ?_⟩
 obtain ⟨Aa, na, rfl⟩ := Kd.R_slice hr3_
 obtain ⟨Ab, nb, rfl⟩ := Kd.R_slice hr6_
 have Q3 := Aside0.mk hr3_
 have Q6 := Aside0.mk hr6_
 clear hr3_ hr6_
 have n0_ := Aside0.mk (below_then B.out B.out.size hb)
 have n1_ := Aside0.mk (IsLi.below BL.out hb)
 have n2_ := Aside0.mk (Kd.S_below QS.out hb)
 clear B BL QS
 have B := n0_
 have BL := n1_
 have QS := n2_
 clear n0_ n1_ n2_ hb
 refine hK.out _ _ ⟨IsLi.x0 BL.out, IsLi.x1 BL.out, IsLi.x2 BL.out, IsLi.x3 BL.out, IsLi.x4 BL.out, IsLi.x5 BL.out, IsLi.x6 BL.out⟩ (fun hHeld => ?_)
 clear hK K
 refine norm_ (a' := ?_) ?_ ?_
 rotate_left
 ·show Act.put _ (some 37) _ = _
  simp only [Act.put, sa_, sz_, ss_, i64_w, i32_w]
  rfl
 refine one_ (i := 6) (N := some 38) q15_7 rfl rfl (by kernel_rfl) (by decide) (fun K hK => ?_)
 refine goes_ Try.func17 (by kernel_rfl) rfl #[.slice As m.length ns, .int .i64 up, .int .i64 p, .agg #[.int .i64 x0, .int .i64 x1, .string x2, .slice Aa x3.length na, .string x4, .int .i64 x5, .slice Ab x6.length nb]] (by rfl) rfl rfl (by (try simp only [List.map_toArray, List.map_cons, List.map_nil]); first | done | rfl | (simp only [List.length_drop, List.length_take]; rfl)) ?_
 refine (spec_Add.calls k As ns m up p x0 x1 x2 Aa na x3 x4 x5 Ab nb x6 s1 g2 _ (Kd.S_reads' QS.out).2.2 (Kd.S_reads' QS.out).2.1 (Kd.R_reads' Q3.out).2.2 (Kd.R_reads' Q3.out).2.1 (Kd.R_reads' Q6.out).2.2 (Kd.R_reads' Q6.out).2.1 XS.out).mono ?_
 rintro e w6 ⟨vw, rfl, hs_, hb⟩
 refine ⟨_, rfl, ?_⟩
 obtain ⟨AW, nW, rfl⟩ := Kd.S_slice hs_
 have SW_ := Aside0.mk (Kd.S_mono (ok' := fun k => k < w6.heap.size) (Kd.S_bound (Kd.S_lower hs_ B.out.size)) (fun k hk => hk.2.2.1))
 clear hs_ QS Q3 Q6
 have n0_ := Aside0.mk (below_then B.out B.out.size hb)
 have n1_ := Aside0.mk (IsLi.below BL.out hb)
 clear B BL
 have B := n0_
 have BL := n1_
 clear n0_ n1_ hb
 have SW := SW_
 clear SW_
 have LP := Aside0.mk (blk_lt BL.out)
 refine hK.out _ _ ⟨IsLi.x0 BL.out, IsLi.x1 BL.out, IsLi.x2 BL.out, IsLi.x3 BL.out, IsLi.x4 BL.out, IsLi.x5 BL.out, IsLi.x6 BL.out⟩ (fun hHeld => ?_)
 clear hK K
 refine norm_ (a' := ?_) ?_ ?_
 rotate_left
 ·show Act.put _ (some 38) _ = _
  simp only [Act.put, sa_, sz_, ss_, i64_w, i32_w]
  rfl
 refine pure_ (i := 7) (N := some 31) (v := ?_) (a' := ?_) q15_8 rfl rfl (by kernel_rfl) (fun _ _ _ h => h) (Or.inl ⟨by rfl, ?_⟩) ?_ ?_
 rotate_left;(intro w';go_simp;with_reducible rfl);rotate_left;(simp only [Act.put, sa_, sz_, ss_, i64_w, i32_w];rfl)
 refine pure_ (i := 8) (N := some 39) (v := ?_) (a' := ?_) q15_9 rfl rfl (by kernel_rfl) (fun _ _ _ h => h) (Or.inl ⟨by rfl, ?_⟩) ?_ ?_
 rotate_left;(intro w';go_simp;with_reducible rfl);rotate_left;(simp only [Act.put, sa_, sz_, ss_, i64_w, i32_w];rfl)
 refine pure_ (i := 9) (N := some 40) (v := ?_) (a' := ?_) q15_10 rfl rfl (by kernel_rfl) (fun _ _ _ h => h) (Or.inl ⟨by rfl, ?_⟩) ?_ ?_
 rotate_left;(intro w';go_simp;with_reducible rfl);rotate_left;(simp only [Act.put, sa_, sz_, ss_, i64_w, i32_w];rfl)
 refine pure_ (i := 10) (N := some 10) (v := ?_) (a' := ?_) q15_11 rfl rfl (by kernel_rfl) (fun _ _ _ h => h) (Or.inl ⟨by rfl, ?_⟩) ?_ ?_
 rotate_left;(intro w';go_simp;with_reducible rfl);rotate_left;(simp only [Act.put, sa_, sz_, ss_, i64_w, i32_w];rfl)
 refine pure_ (i := 11) (N := some 11) (v := ?_) (a' := ?_) q15_12 rfl rfl (by kernel_rfl) (fun _ _ _ h => h) (Or.inl ⟨by rfl, ?_⟩) ?_ ?_
 rotate_left;(intro w';go_simp;with_reducible rfl);rotate_left;(simp only [Act.put, sa_, sz_, ss_, i64_w, i32_w];rfl)
 refine done_ (by kernel_rfl) ?_
 clear hHeld
 go_wp2_with (go_at_call 18; refine (laws_toItemS.calls k A0 c0 l m _ (Kd.C_below HL0.out B.out) HC0.out XM.out).mono ?_; rintro e w7 ⟨vx, rfl, hs_, hb⟩; obtain ⟨AX, nX, rfl⟩ := Kd.S_slice hs_; have SX_ := Aside0.mk (Kd.S_mono (ok' := fun k => w6.heap.size ≤ k ∧ k < w7.heap.size) (Kd.S_lower (Kd.S_bound hs_) B.out.size) (fun k hk => ⟨hk.2.1, hk.2.2.1⟩)); have M67 := Aside0.mk hb.size; clear hs_; have n0_ := Aside0.mk (below_then B.out B.out.size hb); have n1_ := Aside0.mk (IsLi.below BL.out hb); have n2_ := Aside0.mk (Kd.S_below SW.out hb); clear B BL SW; have B := n0_; have BL := n1_; have SW := n2_; clear n0_ n1_ n2_ hb; have SX := SX_; clear SX_; have pz0 := IsLi.x0 BL.out; have pz1 := IsLi.x1 BL.out; have pz2 := IsLi.x2 BL.out; have pz3 := IsLi.x3 BL.out; have pz4 := IsLi.x4 BL.out; have pz5 := IsLi.x5 BL.out; have pz6 := IsLi.x6 BL.out)
 go_wp2_with (first | (go_at_call 19; refine (laws_toItem.calls k b0 b1 b2 A3 c3 l3 b4 b5 A6 c6 l6 x0 x1 x2 x3 x4 x5 x6 _ (Kd.C_below HA3.out B.out) HC3.out (Kd.C_below HA6.out B.out) HC6.out XT.out).mono ?_; rintro e w8 ⟨v3_, v6_, rfl, hr3_, hr6_, hb⟩; obtain ⟨Ax, nx, rfl⟩ := Kd.R_slice hr3_; obtain ⟨Ay, ny, rfl⟩ := Kd.R_slice hr6_; have V3_ := Aside0.mk (Kd.R_mono (ok' := fun k => w7.heap.size ≤ k ∧ k < w8.heap.size) (Kd.R_lower (Kd.R_bound hr3_) B.out.size) (fun k hk => ⟨hk.2.1, hk.2.2.1⟩)); have V6_ := Aside0.mk (Kd.R_mono (ok' := fun k => w7.heap.size ≤ k ∧ k < w8.heap.size) (Kd.R_lower (Kd.R_bound hr6_) B.out.size) (fun k hk => ⟨hk.2.1, hk.2.2.1⟩)); have M78 := Aside0.mk hb.size; clear hr3_ hr6_; clear pz0 pz1 pz2 pz3 pz4 pz5 pz6; have n0_ := Aside0.mk (below_then B.out B.out.size hb); have n1_ := Aside0.mk (IsLi.below BL.out hb); have n2_ := Aside0.mk (Kd.S_below SW.out hb); have n3_ := Aside0.mk (Kd.S_below SX.out hb); clear B BL SW SX; have B := n0_; have BL := n1_; have SW := n2_; have SX := n3_; clear n0_ n1_ n2_ n3_ hb; have V3 := V3_; have V6 := V6_; clear V3_ V6_) | ((with_reducible refine gate_store (t := 44) (p := 13) rfl ?_); refine store_event (t := 44) (p := 13) (v := ?vo13_e) (w1 := ?w113_e) ?hg ?ho ?hn ?hr ?_; (case ho => rfl); (case hg => rfl); (case hn => rfl); (case hr => go_simp; rfl); intro w9 hw_; have hb := (show Below w8.heap.size w8 w9 by rw [hw_]; exact (Below.refl w8.heap.size w8).alloc (Nat.le_refl _) _); have BX_ := Aside0.mk (show IsIt w9 w8.heap.size x0 x1 x2 (.slice Ax x3.length nx) x4 x5 (.slice Ay x6.length ny) by rw [hw_]; exact blk_new _ _); have M89 := Aside0.mk hb.size; clear hw_; have n0_ := Aside0.mk (below_then B.out B.out.size hb); have n1_ := Aside0.mk (IsLi.below BL.out hb); have n2_ := Aside0.mk (Kd.S_below SW.out hb); have n3_ := Aside0.mk (Kd.S_below SX.out hb); have n4_ := Aside0.mk (Kd.R_below V3.out hb); have n5_ := Aside0.mk (Kd.R_below V6.out hb); clear B BL SW SX V3 V6; have B := n0_; have BL := n1_; have SW := n2_; have SX := n3_; have V3 := n4_; have V6 := n5_; clear n0_ n1_ n2_ n3_ n4_ n5_ hb; have BX := BX_; clear BX_; have qz0 := IsIt.x0 BX.out; have qz1 := IsIt.x1 BX.out; have qz2 := IsIt.x2 BX.out; have qz3 := IsIt.x3 BX.out; have qz4 := IsIt.x4 BX.out; have qz5 := IsIt.x5 BX.out; have qz6 := IsIt.x6 BX.out) | (go_at_call 20; refine (impl_Add.calls k AX nX m up p x0 x1 x2 Ax nx x3 x4 x5 Ay ny x6 g1 g2 _ (Kd.S_reads' SX.out).2.2 (Kd.S_reads' SX.out).2.1 (Kd.R_reads' V3.out).2.2 (Kd.R_reads' V3.out).2.1 XG.out).mono ?_; rintro e w10 ⟨vg, rfl, hs_, hb⟩; obtain ⟨AG, nG, rfl⟩ := Kd.S_slice hs_; have SG_ := Aside0.mk (Kd.S_mono (ok' := fun k => w9.heap.size ≤ k ∧ k < w10.heap.size) (Kd.S_lower (Kd.S_bound hs_) B.out.size) (fun k hk => ⟨hk.2.1, hk.2.2.1⟩)); clear hs_; clear qz0 qz1 qz2 qz3 qz4 qz5 qz6; have n0_ := Aside0.mk (below_then B.out B.out.size hb); have n1_ := Aside0.mk (IsLi.below BL.out hb); have n2_ := Aside0.mk (Kd.S_below SW.out hb); have n3_ := Aside0.mk (Kd.S_below SX.out hb); have n4_ := Aside0.mk (Kd.R_below V3.out hb); have n5_ := Aside0.mk (Kd.R_below V6.out hb); have n6_ := Aside0.mk (IsIt.below BX.out hb); clear B BL SW SX V3 V6 BX; have B := n0_; have BL := n1_; have SW := n2_; have SX := n3_; have V3 := n4_; have V6 := n5_; have BX := n6_; clear n0_ n1_ n2_ n3_ n4_ n5_ n6_ hb; have SG := SG_; clear SG_; have Z := Aside0.mk (Nat.le_refl w10.heap.size)) | (go_at_call 21; refine (laws_eqItemS.calls k AG nG g1 AW nW s1 true _ (Kd.S_reads' SG.out).2.2 (Kd.S_reads' SG.out).2.1 (Kd.S_reads' SW.out).2.2 (Kd.S_reads' SW.out).2.1 E1.out).mono ?_; rintro e w11 ⟨rfl, hb⟩; have n0_ := Aside0.mk (below_then B.out B.out.size hb); have n1_ := Aside0.mk (IsLi.below BL.out hb); have n2_ := Aside0.mk (Kd.S_below SW.out hb); have n3_ := Aside0.mk (Kd.S_below SX.out hb); have n4_ := Aside0.mk (Kd.R_below V3.out hb); have n5_ := Aside0.mk (Kd.R_below V6.out hb); have n6_ := Aside0.mk (IsIt.below BX.out hb); have n7_ := Aside0.mk (Kd.S_below SG.out hb); have n8_ := Aside0.mk (Nat.le_trans Z.out hb.size); clear B BL SW SX V3 V6 BX SG Z; have B := n0_; have BL := n1_; have SW := n2_; have SX := n3_; have V3 := n4_; have V6 := n5_; have BX := n6_; have SG := n7_; have Z := n8_; clear n0_ n1_ n2_ n3_ n4_ n5_ n6_ n7_ n8_ hb))
 go_wp2_with (go_at_call 18; refine (laws_toItemS.calls k A0 c0 l m _ (Kd.C_below HL0.out B.out) HC0.out XM.out).mono ?_; rintro e w12 ⟨vc, rfl, hs_, hb⟩; obtain ⟨AC, nC, rfl⟩ := Kd.S_slice hs_; have SC := Aside0.mk hs_; clear hs_; have n0_ := Aside0.mk (below_then B.out B.out.size hb); have n1_ := Aside0.mk (IsLi.below BL.out hb); have n2_ := Aside0.mk (Kd.S_below SW.out hb); have n3_ := Aside0.mk (Kd.S_below SX.out hb); have n4_ := Aside0.mk (Kd.R_below V3.out hb); have n5_ := Aside0.mk (Kd.R_below V6.out hb); have n6_ := Aside0.mk (IsIt.below BX.out hb); have n7_ := Aside0.mk (Kd.S_below SG.out hb); have n8_ := Aside0.mk (Nat.le_trans Z.out hb.size); clear B BL SW SX V3 V6 BX SG Z; have B := n0_; have BL := n1_; have SW := n2_; have SX := n3_; have V3 := n4_; have V6 := n5_; have BX := n6_; have SG := n7_; have Z := n8_; clear n0_ n1_ n2_ n3_ n4_ n5_ n6_ n7_ n8_ hb)
 go_wp2_with (go_at_call 21; refine (laws_eqItemS.calls k AX nX m AC nC m true _ (Kd.S_reads' SX.out).2.2 (Kd.S_reads' SX.out).2.1 (Kd.S_reads' SC.out).2.2 (Kd.S_reads' SC.out).2.1 E2.out).mono ?_; rintro e w13 ⟨rfl, hb⟩; clear SC; have n0_ := Aside0.mk (below_then B.out B.out.size hb); have n1_ := Aside0.mk (IsLi.below BL.out hb); have n2_ := Aside0.mk (Kd.S_below SW.out hb); have n3_ := Aside0.mk (Kd.S_below SX.out hb); have n4_ := Aside0.mk (Kd.R_below V3.out hb); have n5_ := Aside0.mk (Kd.R_below V6.out hb); have n6_ := Aside0.mk (IsIt.below BX.out hb); have n7_ := Aside0.mk (Kd.S_below SG.out hb); have n8_ := Aside0.mk (Nat.le_trans Z.out hb.size); clear B BL SW SX V3 V6 BX SG Z; have B := n0_; have BL := n1_; have SW := n2_; have SX := n3_; have V3 := n4_; have V6 := n5_; have BX := n6_; have SG := n7_; have Z := n8_; clear n0_ n1_ n2_ n3_ n4_ n5_ n6_ n7_ n8_ hb)
 have hb := b1_ (Below.refl w13.heap.size w13)
 have n0_ := Aside0.mk (below_then B.out B.out.size hb)
 have n1_ := Aside0.mk (IsLi.below BL.out hb)
 have n2_ := Aside0.mk (Kd.S_below SW.out hb)
 have n3_ := Aside0.mk (Kd.S_below SX.out hb)
 have n4_ := Aside0.mk (Kd.R_below V3.out hb)
 have n5_ := Aside0.mk (Kd.R_below V6.out hb)
 have n6_ := Aside0.mk (IsIt.below BX.out hb)
 have n7_ := Aside0.mk (Kd.S_below SG.out hb)
 have n8_ := Aside0.mk (Nat.le_trans Z.out hb.size)
 clear B BL SW SX V3 V6 BX SG Z
 have B := n0_
 have BL := n1_
 have SW := n2_
 have SX := n3_
 have V3 := n4_
 have V6 := n5_
 have BX := n6_
 have SG := n7_
 have Z := n8_
 clear n0_ n1_ n2_ n3_ n4_ n5_ n6_ n7_ n8_ hb
 refine start_ (n := 5) (S := fun w' => w'.cell? ⟨w8.heap.size, 0, none⟩ = some (.int .i64 x0) ∧ w'.cell? ⟨w8.heap.size, 1, none⟩ = some (.int .i64 x1) ∧ w'.cell? ⟨w8.heap.size, 2, none⟩ = some (.string x2) ∧ w'.cell? ⟨w8.heap.size, 3, none⟩ = some (.slice Ax x3.length nx) ∧ w'.cell? ⟨w8.heap.size, 4, none⟩ = some (.string x4) ∧ w'.cell? ⟨w8.heap.size, 5, none⟩ = some (.int .i64 x5) ∧ w'.cell? ⟨w8.heap.size, 6, none⟩ = some (.slice Ay x6.length ny) ∧ w'.cell? ⟨gp, 0, none⟩ = some (.int .i64 b0) ∧ w'.cell? ⟨gp, 1, none⟩ = some (.int .i64 b1) ∧ w'.cell? ⟨gp, 2, none⟩ = some (.string b2) ∧ w'.cell? ⟨gp, 3, none⟩ = some (.slice A3 l3.length c3) ∧ w'.cell? ⟨gp, 4, none⟩ = some (.string b4) ∧ w'.cell? ⟨gp, 5, none⟩ = some (.int .i64 b5) ∧ w'.cell? ⟨gp, 6, none⟩ = some (.slice A6 l6.length c6)) (ds := []) #[false, false, false, false, false] (by kernel_rfl) rfl rfl ⟨IsIt.x0 BX.out, IsIt.x1 BX.out, IsIt.x2 BX.out, IsIt.x3 BX.out, IsIt.x4 BX.out, IsIt.x5 BX.out, IsIt.x6 BX.out, IsLi.x0 BL.out, IsLi.x1 BL.out, IsLi.x2 BL.out, IsLi.x3 BL.out, IsLi.x4 BL.out, IsLi.x5 BL.out, IsLi.x6 BL.out⟩ (fun hHeld => ?_)
 generalize w13.drew = w14 at B BL SW SX V3 V6 BX SG Z hHeld ⊢
 refine take_ (i := 0) (N := some 67) (v := ?_) (a' := ?_) #[true, false, false, false, false] rfl rfl (by kernel_rfl) (fun _ _ _ h => h) (Or.inl ⟨by rfl, ?_⟩) hHeld ?_ ?_
 rotate_left;(rintro w' ⟨s0_, s1_, s2_, s3_, s4_, s5_, s6_, s7_, s8_, s9_, s10_, s11_, s12_, s13_⟩;go_simp;with_reducible rfl);rotate_left;(simp only [Act.put, sa_, sz_, ss_, i64_w, i32_w];rfl)
 refine take_ (i := 1) (N := some 68) (v := ?_) (a' := ?_) #[true, true, false, false, false] rfl rfl (by kernel_rfl) (fun _ _ _ h => h) (Or.inl ⟨by rfl, ?_⟩) hHeld ?_ ?_
 rotate_left;(rintro w' ⟨s0_, s1_, s2_, s3_, s4_, s5_, s6_, s7_, s8_, s9_, s10_, s11_, s12_, s13_⟩;go_simp;with_reducible rfl);rotate_left;(simp only [Act.put, sa_, sz_, ss_, i64_w, i32_w];rfl)
 refine one_ (i := 2) (N := some 69) #[true, true, true, false, false] rfl rfl (by kernel_rfl) (by decide) (fun K hK => ?_)
 refine goes_ Try.func19 (by kernel_rfl) rfl #[.agg #[.int .i64 b0, .int .i64 b1, .string b2, .slice A3 l3.length c3, .string b4, .int .i64 b5, .slice A6 l6.length c6]] (by rfl) rfl rfl (by (try simp only [List.map_toArray, List.map_cons, List.map_nil]); first | done | rfl | (simp only [List.length_drop, List.length_take]; rfl)) ?_
 refine (laws_toItem.calls k b0 b1 b2 A3 c3 l3 b4 b5 A6 c6 l6 x0 x1 x2 x3 x4 x5 x6 _ (Kd.C_below HA3.out B.out) HC3.out (Kd.C_below HA6.out B.out) HC6.out XT.out).mono ?_
 rintro e w15 ⟨v3_, v6_, rfl, hr3_, hr6_, hb⟩
 refine ⟨_, rfl, ?_⟩
 obtain ⟨Aa, na, rfl⟩ := Kd.R_slice hr3_
 obtain ⟨Ab, nb, rfl⟩ := Kd.R_slice hr6_
 have Q3 := Aside0.mk hr3_
 have Q6 := Aside0.mk hr6_
 clear hr3_ hr6_
 have n0_ := Aside0.mk (below_then B.out B.out.size hb)
 have n1_ := Aside0.mk (IsLi.below BL.out hb)
 have n2_ := Aside0.mk (Kd.S_below SW.out hb)
 have n3_ := Aside0.mk (Kd.S_below SX.out hb)
 have n4_ := Aside0.mk (Kd.R_below V3.out hb)
 have n5_ := Aside0.mk (Kd.R_below V6.out hb)
 have n6_ := Aside0.mk (IsIt.below BX.out hb)
 have n7_ := Aside0.mk (Kd.S_below SG.out hb)
 have n8_ := Aside0.mk (Nat.le_trans Z.out hb.size)
 clear B BL SW SX V3 V6 BX SG Z
 have B := n0_
 have BL := n1_
 have SW := n2_
 have SX := n3_
 have V3 := n4_
 have V6 := n5_
 have BX := n6_
 have SG := n7_
 have Z := n8_
 clear n0_ n1_ n2_ n3_ n4_ n5_ n6_ n7_ n8_ hb
 refine hK.out _ _ ⟨IsIt.x0 BX.out, IsIt.x1 BX.out, IsIt.x2 BX.out, IsIt.x3 BX.out, IsIt.x4 BX.out, IsIt.x5 BX.out, IsIt.x6 BX.out, IsLi.x0 BL.out, IsLi.x1 BL.out, IsLi.x2 BL.out, IsLi.x3 BL.out, IsLi.x4 BL.out, IsLi.x5 BL.out, IsLi.x6 BL.out⟩ (fun hHeld => ?_)
 clear hK K
 refine norm_ (a' := ?_) ?_ ?_
 rotate_left
 ·show Act.put _ (some 69) _ = _
  simp only [Act.put, sa_, sz_, ss_, i64_w, i32_w]
  rfl
 refine one_ (i := 3) (N := some 70) #[true, true, true, true, false] rfl rfl (by kernel_rfl) (by decide) (fun K hK => ?_)
 refine goes_ Try.func22 (by kernel_rfl) rfl #[.agg #[.int .i64 x0, .int .i64 x1, .string x2, .slice Ax x3.length nx, .string x4, .int .i64 x5, .slice Ay x6.length ny], .agg #[.int .i64 x0, .int .i64 x1, .string x2, .slice Aa x3.length na, .string x4, .int .i64 x5, .slice Ab x6.length nb]] (by rfl) rfl rfl (by (try simp only [List.map_toArray, List.map_cons, List.map_nil]); first | done | rfl | (simp only [List.length_drop, List.length_take]; rfl)) ?_
 refine (laws_eqItem.calls k x0 x1 x2 Ax nx x3 x4 x5 Ay ny x6 x0 x1 x2 Aa na x3 x4 x5 Ab nb x6 true _ (Kd.R_reads' V3.out).2.2 (Kd.R_reads' V3.out).2.1 (Kd.R_reads' V6.out).2.2 (Kd.R_reads' V6.out).2.1 (Kd.R_reads' Q3.out).2.2 (Kd.R_reads' Q3.out).2.1 (Kd.R_reads' Q6.out).2.2 (Kd.R_reads' Q6.out).2.1 E3.out).mono ?_
 rintro e w16 ⟨rfl, hb⟩
 refine ⟨_, rfl, ?_⟩
 clear Q3 Q6
 have n0_ := Aside0.mk (below_then B.out B.out.size hb)
 have n1_ := Aside0.mk (IsLi.below BL.out hb)
 have n2_ := Aside0.mk (Kd.S_below SW.out hb)
 have n3_ := Aside0.mk (Kd.S_below SX.out hb)
 have n4_ := Aside0.mk (Kd.R_below V3.out hb)
 have n5_ := Aside0.mk (Kd.R_below V6.out hb)
 have n6_ := Aside0.mk (IsIt.below BX.out hb)
 have n7_ := Aside0.mk (Kd.S_below SG.out hb)
 have n8_ := Aside0.mk (Nat.le_trans Z.out hb.size)
 clear B BL SW SX V3 V6 BX SG Z
 have B := n0_
 have BL := n1_
 have SW := n2_
 have SX := n3_
 have V3 := n4_
 have V6 := n5_
 have BX := n6_
 have SG := n7_
 have Z := n8_
 clear n0_ n1_ n2_ n3_ n4_ n5_ n6_ n7_ n8_ hb
 refine hK.out _ _ ⟨IsIt.x0 BX.out, IsIt.x1 BX.out, IsIt.x2 BX.out, IsIt.x3 BX.out, IsIt.x4 BX.out, IsIt.x5 BX.out, IsIt.x6 BX.out, IsLi.x0 BL.out, IsLi.x1 BL.out, IsLi.x2 BL.out, IsLi.x3 BL.out, IsLi.x4 BL.out, IsLi.x5 BL.out, IsLi.x6 BL.out⟩ (fun hHeld => ?_)
 clear hK K
 refine norm_ (a' := ?_) ?_ ?_
 rotate_left
 ·show Act.put _ (some 70) _ = _
  simp only [Act.put, sa_, sz_, ss_, i64_w, i32_w]
  rfl
 refine pure_ (i := 4) (N := some 71) (v := ?_) (a' := ?_) #[true, true, true, true, true] rfl rfl (by kernel_rfl) (fun _ _ _ h => h) (Or.inl ⟨by rfl, ?_⟩) ?_ ?_
 rotate_left;(intro w';go_simp;with_reducible rfl);rotate_left;(simp only [Act.put, sa_, sz_, ss_, i64_w, i32_w];rfl)
 refine done_ (by kernel_rfl) ?_
 clear hHeld
 go_wp2_with (go_at_call 23; refine (laws_markItemS.calls k (fun k => w6.heap.size ≤ k ∧ k < w7.heap.size) _ m 1 m0 M0 w _ B.out SX.out Y0.out).mono ?_; rintro e w17 ⟨rfl, hM, hb, hk⟩; clear hM; have n0_ := Aside0.mk (hb); have n1_ := Aside0.mk ((hk.2 _ (blk_lt BL.out) (fun h3 => absurd LP.out (Nat.not_lt.2 h3.1))).trans BL.out); have n2_ := Aside0.mk (Kd.S_step SW.out (fun k h1 h2 => hk.2 k h2 (fun h3 => absurd h1 (Nat.not_lt.2 h3.1)))); have n3_ := Aside0.mk ((hk.2 _ (blk_lt BX.out) (fun h3 => absurd h3.2 (Nat.not_lt.2 M78.out))).trans BX.out); have n4_ := Aside0.mk (Kd.R_step V3.out (fun k h1 h2 => hk.2 k h2 (fun h3 => absurd h3.2 (Nat.not_lt.2 h1.1)))); have n5_ := Aside0.mk (Kd.R_step V6.out (fun k h1 h2 => hk.2 k h2 (fun h3 => absurd h3.2 (Nat.not_lt.2 h1.1)))); have n6_ := Aside0.mk (Kd.S_step SG.out (fun k h1 h2 => hk.2 k h2 (fun h3 => absurd h3.2 (Nat.not_lt.2 (Nat.le_trans M78.out (Nat.le_trans M89.out h1.1)))))); have n7_ := Aside0.mk (Nat.le_trans Z.out hk.1); clear B BL SW SX V3 V6 BX SG Z hb hk; have B := n0_; have BL := n1_; have SW := n2_; have BX := n3_; have V3 := n4_; have V6 := n5_; have SG := n6_; have Z := n7_; clear n0_ n1_ n2_ n3_ n4_ n5_ n6_ n7_; have qz0 := IsIt.x0 BX.out; have qz1 := IsIt.x1 BX.out; have qz2 := IsIt.x2 BX.out; have qz3 := IsIt.x3 BX.out; have qz4 := IsIt.x4 BX.out; have qz5 := IsIt.x5 BX.out; have qz6 := IsIt.x6 BX.out)
 go_wp2_with (first | (go_at_call 24; refine (laws_markItem.calls k x0 x1 x2 (fun k => w7.heap.size ≤ k ∧ k < w8.heap.size) _ x3 x4 x5 (fun k => w7.heap.size ≤ k ∧ k < w8.heap.size) _ x6 m0 m1 m2 m3 w _ B.out V3.out V6.out Y1.out).mono ?_; rintro e w18 ⟨rfl, hM1, hM2, hb, hk⟩; clear hM1 hM2; clear qz0 qz1 qz2 qz3 qz4 qz5 qz6; have n0_ := Aside0.mk (hb); have n1_ := Aside0.mk ((hk.2 _ (blk_lt BL.out) (fun h3 => absurd (Nat.lt_of_lt_of_le LP.out M67.out) (Nat.not_lt.2 (h3.elim (fun h => h.1) (fun h => h.1))))).trans BL.out); have n2_ := Aside0.mk (Kd.S_step SW.out (fun k h1 h2 => hk.2 k h2 (fun h3 => absurd (Nat.lt_of_lt_of_le h1 M67.out) (Nat.not_lt.2 (h3.elim (fun h => h.1) (fun h => h.1)))))); have n3_ := Aside0.mk (Kd.S_step SG.out (fun k h1 h2 => hk.2 k h2 (fun h3 => absurd (h3.elim (fun h => h.2) (fun h => h.2)) (Nat.not_lt.2 (Nat.le_trans M89.out h1.1))))); have n4_ := Aside0.mk (Nat.le_trans Z.out hk.1); clear B BL SW V3 V6 BX SG Z hb hk; have B := n0_; have BL := n1_; have SW := n2_; have SG := n3_; have Z := n4_; clear n0_ n1_ n2_ n3_ n4_) | (go_at_call 21; refine (laws_eqItemS.calls k AG nG g1 AW nW s1 true _ (Kd.S_reads' SG.out).2.2 (Kd.S_reads' SG.out).2.1 (Kd.S_reads' SW.out).2.2 (Kd.S_reads' SW.out).2.1 E1.out).mono ?_; rintro e w19 ⟨rfl, hb⟩; have n0_ := Aside0.mk (below_then B.out B.out.size hb); have n1_ := Aside0.mk (IsLi.below BL.out hb); have n2_ := Aside0.mk (Kd.S_below SW.out hb); have n3_ := Aside0.mk (Kd.S_below SG.out hb); have n4_ := Aside0.mk (Nat.le_trans Z.out hb.size); clear B BL SW SG Z; have B := n0_; have BL := n1_; have SW := n2_; have SG := n3_; have Z := n4_; clear n0_ n1_ n2_ n3_ n4_ hb))
 go_wp2_with (first | (go_at_call 23; refine (laws_markItemS.calls k (fun k => w9.heap.size ≤ k ∧ k < w10.heap.size) _ g1 1 mm M w _ B.out SG.out Y2.out).mono ?_; rintro e w20 ⟨rfl, hM, hb, hk⟩; have HLM := Aside0.mk (MK.len hM); have HBG := Aside0.mk (Kd.S_reads' SG.out).2.2.2.1; have HM := Aside0.mk hM; clear hM; have n0_ := Aside0.mk (hb); have n1_ := Aside0.mk ((hk.2 _ (blk_lt BL.out) (fun h3 => absurd (Nat.lt_of_lt_of_le LP.out (Nat.le_trans M67.out (Nat.le_trans M78.out M89.out))) (Nat.not_lt.2 h3.1))).trans BL.out); have n2_ := Aside0.mk (Kd.S_step SW.out (fun k h1 h2 => hk.2 k h2 (fun h3 => absurd (Nat.lt_of_lt_of_le h1 (Nat.le_trans M67.out (Nat.le_trans M78.out M89.out))) (Nat.not_lt.2 h3.1)))); have n3_ := Aside0.mk (Nat.le_trans Z.out hk.1); clear B BL SW SG Z hb hk; have B := n0_; have BL := n1_; have SW := n2_; have Z := n3_; clear n0_ n1_ n2_ n3_) | (go_at_call 25; have HH := laws_heldItemS.calls k AG nG M 1 mm _ (MK.C HM.out HBG.out).1 (MK.C HM.out HBG.out).2 Y3.out; rw [← HLM.out] at HH; refine HH.mono ?_; clear HH; rintro e w21 ⟨rfl, hb⟩; have n0_ := Aside0.mk (below_then B.out B.out.size hb); have n1_ := Aside0.mk (IsLi.below BL.out hb); have n2_ := Aside0.mk (Kd.S_below SW.out hb); have n3_ := Aside0.mk (Nat.le_trans Z.out hb.size); have n4_ := Aside0.mk (MK.move HM.out (fun k hk => hb.block k (Nat.lt_of_lt_of_le hk.2 Z.out))); clear B BL SW Z HM; have B := n0_; have BL := n1_; have SW := n2_; have Z := n3_; have HM := n4_; clear n0_ n1_ n2_ n3_ n4_ hb))
 have hb := b1_ (Below.refl w21.heap.size w21)
 have n0_ := Aside0.mk (below_then B.out B.out.size hb)
 have n1_ := Aside0.mk (IsLi.below BL.out hb)
 have n2_ := Aside0.mk (Kd.S_below SW.out hb)
 have n3_ := Aside0.mk (Nat.le_trans Z.out hb.size)
 have n4_ := Aside0.mk (MK.move HM.out (fun k hk => hb.block k (Nat.lt_of_lt_of_le hk.2 Z.out)))
 clear B BL SW Z HM
 have B := n0_
 have BL := n1_
 have SW := n2_
 have Z := n3_
 have HM := n4_
 clear n0_ n1_ n2_ n3_ n4_ hb
 refine start_ (n := 12) (S := fun w' => w'.cell? ⟨gp, 0, none⟩ = some (.int .i64 b0) ∧ w'.cell? ⟨gp, 1, none⟩ = some (.int .i64 b1) ∧ w'.cell? ⟨gp, 2, none⟩ = some (.string b2) ∧ w'.cell? ⟨gp, 3, none⟩ = some (.slice A3 l3.length c3) ∧ w'.cell? ⟨gp, 4, none⟩ = some (.string b4) ∧ w'.cell? ⟨gp, 5, none⟩ = some (.int .i64 b5) ∧ w'.cell? ⟨gp, 6, none⟩ = some (.slice A6 l6.length c6)) (ds := []) q15_0 (by kernel_rfl) rfl rfl ⟨IsLi.x0 BL.out, IsLi.x1 BL.out, IsLi.x2 BL.out, IsLi.x3 BL.out, IsLi.x4 BL.out, IsLi.x5 BL.out, IsLi.x6 BL.out⟩ (fun hHeld => ?_)
 generalize w21.drew = w22 at B BL SW Z HM hHeld ⊢
 refine pure_ (i := 0) (N := some 103) (v := ?_) (a' := ?_) q15_1 rfl rfl (by kernel_rfl) (fun _ _ _ h => h) (Or.inl ⟨by rfl, ?_⟩) ?_ ?_
 rotate_left;(intro w';go_simp;with_reducible rfl);rotate_left;(simp only [Act.put, sa_, sz_, ss_, i64_w, i32_w];rfl)
 refine pure_ (i := 2) (N := some 105) (v := ?_) (a' := ?_) q15_2 rfl rfl (by kernel_rfl) (fun _ _ _ h => h) (Or.inl ⟨by rfl, ?_⟩) ?_ ?_
 rotate_left;(intro w';go_simp;with_reducible rfl);rotate_left;(simp only [Act.put, sa_, sz_, ss_, i64_w, i32_w];rfl)
 refine pure_ (i := 3) (N := some 106) (v := ?_) (a' := ?_) q15_3 rfl rfl (by kernel_rfl) (fun _ _ _ h => h) (Or.inl ⟨by rfl, ?_⟩) ?_ ?_
 rotate_left;(intro w';go_simp;with_reducible rfl);rotate_left;(simp only [Act.put, sa_, sz_, ss_, i64_w, i32_w];rfl)
 refine take_ (i := 4) (N := some 107) (v := ?_) (a' := ?_) q15_4 rfl rfl (by kernel_rfl) (fun _ _ _ h => h) (Or.inl ⟨by rfl, ?_⟩) hHeld ?_ ?_
 rotate_left;(rintro w' ⟨s0_, s1_, s2_, s3_, s4_, s5_, s6_⟩;go_simp;with_reducible rfl);rotate_left;(simp only [Act.put, sa_, sz_, ss_, i64_w, i32_w];rfl)
 refine one_ (i := 1) (N := some 104) q15_5 rfl rfl (by kernel_rfl) (by decide) (fun K hK => ?_)
 refine goes_ Try.func18 (by kernel_rfl) rfl #[.slice A0 l.length c0] (by rfl) rfl rfl (by (try simp only [List.map_toArray, List.map_cons, List.map_nil]); first | done | rfl | (simp only [List.length_drop, List.length_take]; rfl)) ?_
 refine (laws_toItemS.calls k A0 c0 l m _ (Kd.C_below HL0.out B.out) HC0.out XM.out).mono ?_
 rintro e wa ⟨va, rfl, hs_, hb⟩
 refine ⟨_, rfl, ?_⟩
 obtain ⟨As, ns, rfl⟩ := Kd.S_slice hs_
 have QS_ := Aside0.mk hs_
 clear hs_
 have n0_ := Aside0.mk (below_then B.out B.out.size hb)
 have n1_ := Aside0.mk (IsLi.below BL.out hb)
 have n2_ := Aside0.mk (Kd.S_below SW.out hb)
 have n3_ := Aside0.mk (Nat.le_trans Z.out hb.size)
 have n4_ := Aside0.mk (MK.move HM.out (fun k hk => hb.block k (Nat.lt_of_lt_of_le hk.2 Z.out)))
 clear B BL SW Z HM
 have B := n0_
 have BL := n1_
 have SW := n2_
 have Z := n3_
 have HM := n4_
 clear n0_ n1_ n2_ n3_ n4_ hb
 have QS := QS_
 clear QS_
 refine hK.out _ _ ⟨IsLi.x0 BL.out, IsLi.x1 BL.out, IsLi.x2 BL.out, IsLi.x3 BL.out, IsLi.x4 BL.out, IsLi.x5 BL.out, IsLi.x6 BL.out⟩ (fun hHeld => ?_)
 clear hK K
 refine norm_ (a' := ?_) ?_ ?_
 rotate_left
 ·show Act.put _ (some 104) _ = _
  simp only [Act.put, sa_, sz_, ss_, i64_w, i32_w]
  rfl
 refine one_ (i := 5) (N := some 108) q15_6 rfl rfl (by kernel_rfl) (by decide) (fun K hK => ?_)
 refine goes_ Try.func19 (by kernel_rfl) rfl #[.agg #[.int .i64 b0, .int .i64 b1, .string b2, .slice A3 l3.length c3, .string b4, .int .i64 b5, .slice A6 l6.length c6]] (by rfl) rfl rfl (by (try simp only [List.map_toArray, List.map_cons, List.map_nil]); first | done | rfl | (simp only [List.length_drop, List.length_take]; rfl)) ?_
 refine (laws_toItem.calls k b0 b1 b2 A3 c3 l3 b4 b5 A6 c6 l6 x0 x1 x2 x3 x4 x5 x6 _ (Kd.C_below HA3.out B.out) HC3.out (Kd.C_below HA6.out B.out) HC6.out XT.out).mono ?_
 rintro e w23 ⟨v3_, v6_, rfl, hr3_, hr6_, hb⟩
 refine ⟨_, rfl, ?_⟩
 obtain ⟨Aa, na, rfl⟩ := Kd.R_slice hr3_
 obtain ⟨Ab, nb, rfl⟩ := Kd.R_slice hr6_
 have Q3 := Aside0.mk hr3_
 have Q6 := Aside0.mk hr6_
 clear hr3_ hr6_
 have n0_ := Aside0.mk (below_then B.out B.out.size hb)
 have n1_ := Aside0.mk (IsLi.below BL.out hb)
 have n2_ := Aside0.mk (Kd.S_below SW.out hb)
 have n3_ := Aside0.mk (Nat.le_trans Z.out hb.size)
 have n4_ := Aside0.mk (MK.move HM.out (fun k hk => hb.block k (Nat.lt_of_lt_of_le hk.2 Z.out)))
 have n5_ := Aside0.mk (Kd.S_below QS.out hb)
 clear B BL SW Z HM QS
 have B := n0_
 have BL := n1_
 have SW := n2_
 have Z := n3_
 have HM := n4_
 have QS := n5_
 clear n0_ n1_ n2_ n3_ n4_ n5_ hb
 refine hK.out _ _ ⟨IsLi.x0 BL.out, IsLi.x1 BL.out, IsLi.x2 BL.out, IsLi.x3 BL.out, IsLi.x4 BL.out, IsLi.x5 BL.out, IsLi.x6 BL.out⟩ (fun hHeld => ?_)
 clear hK K
 refine norm_ (a' := ?_) ?_ ?_
 rotate_left
 ·show Act.put _ (some 108) _ = _
  simp only [Act.put, sa_, sz_, ss_, i64_w, i32_w]
  rfl
 refine one_ (i := 6) (N := some 109) q15_7 rfl rfl (by kernel_rfl) (by decide) (fun K hK => ?_)
 refine goes_ Try.func20 (by kernel_rfl) rfl #[.slice As m.length ns, .int .i64 up, .int .i64 p, .agg #[.int .i64 x0, .int .i64 x1, .string x2, .slice Aa x3.length na, .string x4, .int .i64 x5, .slice Ab x6.length nb]] (by rfl) rfl rfl (by (try simp only [List.map_toArray, List.map_cons, List.map_nil]); first | done | rfl | (simp only [List.length_drop, List.length_take]; rfl)) ?_
 refine (impl_Add.calls k As ns m up p x0 x1 x2 Aa na x3 x4 x5 Ab nb x6 g1 g2 _ (Kd.S_reads' QS.out).2.2 (Kd.S_reads' QS.out).2.1 (Kd.R_reads' Q3.out).2.2 (Kd.R_reads' Q3.out).2.1 XG.out).mono ?_
 rintro e w24 ⟨vh, rfl, hs_, hb⟩
 refine ⟨_, rfl, ?_⟩
 obtain ⟨AH, nH, rfl⟩ := Kd.S_slice hs_
 have SH := Aside0.mk hs_
 clear hs_ QS Q3 Q6
 have n0_ := Aside0.mk (below_then B.out B.out.size hb)
 have n1_ := Aside0.mk (IsLi.below BL.out hb)
 have n2_ := Aside0.mk (Kd.S_below SW.out hb)
 have n3_ := Aside0.mk (Nat.le_trans Z.out hb.size)
 have n4_ := Aside0.mk (MK.move HM.out (fun k hk => hb.block k (Nat.lt_of_lt_of_le hk.2 Z.out)))
 clear B BL SW Z HM
 have B := n0_
 have BL := n1_
 have SW := n2_
 have Z := n3_
 have HM := n4_
 clear n0_ n1_ n2_ n3_ n4_ hb
 refine hK.out _ _ ⟨IsLi.x0 BL.out, IsLi.x1 BL.out, IsLi.x2 BL.out, IsLi.x3 BL.out, IsLi.x4 BL.out, IsLi.x5 BL.out, IsLi.x6 BL.out⟩ (fun hHeld => ?_)
 clear hK K
 refine norm_ (a' := ?_) ?_ ?_
 rotate_left
 ·show Act.put _ (some 109) _ = _
  simp only [Act.put, sa_, sz_, ss_, i64_w, i32_w]
  rfl
 refine pure_ (i := 7) (N := some 102) (v := ?_) (a' := ?_) q15_8 rfl rfl (by kernel_rfl) (fun _ _ _ h => h) (Or.inl ⟨by rfl, ?_⟩) ?_ ?_
 rotate_left;(intro w';go_simp;with_reducible rfl);rotate_left;(simp only [Act.put, sa_, sz_, ss_, i64_w, i32_w];rfl)
 refine pure_ (i := 8) (N := some 110) (v := ?_) (a' := ?_) q15_9 rfl rfl (by kernel_rfl) (fun _ _ _ h => h) (Or.inl ⟨by rfl, ?_⟩) ?_ ?_
 rotate_left;(intro w';go_simp;with_reducible rfl);rotate_left;(simp only [Act.put, sa_, sz_, ss_, i64_w, i32_w];rfl)
 refine pure_ (i := 9) (N := some 111) (v := ?_) (a' := ?_) q15_10 rfl rfl (by kernel_rfl) (fun _ _ _ h => h) (Or.inl ⟨by rfl, ?_⟩) ?_ ?_
 rotate_left;(intro w';go_simp;with_reducible rfl);rotate_left;(simp only [Act.put, sa_, sz_, ss_, i64_w, i32_w];rfl)
 refine pure_ (i := 10) (N := some 19) (v := ?_) (a' := ?_) q15_11 rfl rfl (by kernel_rfl) (fun _ _ _ h => h) (Or.inl ⟨by rfl, ?_⟩) ?_ ?_
 rotate_left;(intro w';go_simp;with_reducible rfl);rotate_left;(simp only [Act.put, sa_, sz_, ss_, i64_w, i32_w];rfl)
 refine pure_ (i := 11) (N := some 20) (v := ?_) (a' := ?_) q15_12 rfl rfl (by kernel_rfl) (fun _ _ _ h => h) (Or.inl ⟨by rfl, ?_⟩) ?_ ?_
 rotate_left;(intro w';go_simp;with_reducible rfl);rotate_left;(simp only [Act.put, sa_, sz_, ss_, i64_w, i32_w];rfl)
 refine done_ (by kernel_rfl) ?_
 clear hHeld
 go_wp2_with (first | (go_at_call 21; refine (laws_eqItemS.calls k AH nH g1 AW nW s1 true _ (Kd.S_reads' SH.out).2.2 (Kd.S_reads' SH.out).2.1 (Kd.S_reads' SW.out).2.2 (Kd.S_reads' SW.out).2.1 E1.out).mono ?_; rintro e w25 ⟨rfl, hb⟩; clear SH; have n0_ := Aside0.mk (below_then B.out B.out.size hb); have n1_ := Aside0.mk (IsLi.below BL.out hb); have n2_ := Aside0.mk (Kd.S_below SW.out hb); have n3_ := Aside0.mk (Nat.le_trans Z.out hb.size); have n4_ := Aside0.mk (MK.move HM.out (fun k hk => hb.block k (Nat.lt_of_lt_of_le hk.2 Z.out))); clear B BL SW Z HM; have B := n0_; have BL := n1_; have SW := n2_; have Z := n3_; have HM := n4_; clear n0_ n1_ n2_ n3_ n4_ hb) | (go_at_call 25; have HH := laws_heldItemS.calls k AG nG M 1 mm _ (MK.C HM.out HBG.out).1 (MK.C HM.out HBG.out).2 Y3.out; rw [← HLM.out] at HH; refine HH.mono ?_; clear HH; rintro e w26 ⟨rfl, hb⟩; have n0_ := Aside0.mk (below_then B.out B.out.size hb); have n1_ := Aside0.mk (IsLi.below BL.out hb); have n2_ := Aside0.mk (Kd.S_below SW.out hb); have n3_ := Aside0.mk (Nat.le_trans Z.out hb.size); have n4_ := Aside0.mk (MK.move HM.out (fun k hk => hb.block k (Nat.lt_of_lt_of_le hk.2 Z.out))); clear B BL SW Z HM; have B := n0_; have BL := n1_; have SW := n2_; have Z := n3_; have HM := n4_; clear n0_ n1_ n2_ n3_ n4_ hb))
 go_ret
 exact ⟨by first | rfl | (simp; done), B.out⟩
end Go.Proofs.Ytbgedpicfllclaa.PFnExactAdd
