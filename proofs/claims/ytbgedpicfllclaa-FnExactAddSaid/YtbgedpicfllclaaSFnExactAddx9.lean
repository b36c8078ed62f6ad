-- Written by this session's program wip/slim.py out of the print's texts. Lean checks it.
import Derived.Test.YtbgedpicfllclaaSFnExactAddx0
import Derived.Test.YtbgedpicfllclaaSFnExactAddx5
import Derived.Test.YtbgedpicfllclaaSFnExactAddx8
namespace Go.Proofs.Ytbgedpicfllclaa.PFnExactAdd
open Go.RowKit Go.Proofs.YtbgedpicfllclaaW.PrintWords Go.Proofs.YtbgedpicfllclaaW.PrintLast Go.Proofs.YtbgedpicfllclaaW.PrintMore
def q9_0 : Array Bool := bz 11 0
def q9_1 : Array Bool := bz 11 1
def q9_2 : Array Bool := bz 11 5
def q9_3 : Array Bool := bz 11 13
def q9_4 : Array Bool := bz 11 29
def q9_5 : Array Bool := bz 11 31
def q9_6 : Array Bool := bz 11 63
def q9_7 : Array Bool := bz 11 127
def q9_8 : Array Bool := bz 11 255
def q9_9 : Array Bool := bz 11 511
def q9_10 : Array Bool := bz 11 1023
def q9_11 : Array Bool := bz 11 2047
attribute [local go_sem] max2_int min2_int max_two min_two max_three min_three max_four min_four
set_option linter.unusedVariables false
set_option linter.unusedSimpArgs false
theorem l1In_len (i : Int) (n : Nat) (h : n ≤ 4611686018427387903) : spec_l1In.f i 0 (wrap64 ((n : Int) - 1)) = some (decide (0 ≤ i ∧ i < (n : Int))) := by
 rw [show wrap64 ((n : Int) - 1) = (n : Int) - 1 by unfold wrap64; omega]
 unfold spec_l1In.f
 by_cases a : i ≥ 0
 ·rw [if_pos a]
  congr 1
  exact decide_eq_decide.2 ⟨fun x => ⟨a, by omega⟩, fun x => by omega⟩
 ·rw [if_neg a, decide_eq_false (fun h => a h.1)]
set_option maxHeartbeats 16000000 in
set_option maxRecDepth 100000 in
theorem l6add_calls (A : Option Addr) (c : Nat) (l : List S44) (up p : Int) (b0 b1 : Int) (b2 : ByteArray) (A3 : Option Addr) (c3 : Nat) (l3 : List S91) (b4 : ByteArray) (b5 : Int) (A6 : Option Addr) (c6 : Nat) (l6 : List Int) (w0 w : World) (hB : Below w0.heap.size w0 w) (hS : Kd.S k44 44 w w0.heap.size (fun _ => True) (.slice A l.length c) l) (hr3 : Kd.C k91 w A3 l3.length l3) (hc3 : l3.length ≤ c3) (hr6 : Kd.C (Kd.int .i64) w A6 l6.length l6) (hc6 : l6.length ≤ c6) (h0 : 0 ≤ up) (h1 : up < (l.length : Int)) (hl : l.length < 1000000) (hl3 : l3.length < 4398046511104) (hl6 : l6.length < 17592186044416) (hk : (rd_T44 l up).f6.length < 1759218604441) :
  Calls Try.prog 51 #[.slice A l.length c, .int .i64 up, .int .i64 p, .agg #[.int .i64 b0, .int .i64 b1, .string b2, .slice A3 l3.length c3, .string b4, .int .i64 b5, .slice A6 l6.length c6]] w fun e w' => ∃ A' c', e = .returned (.tuple #[.slice A' (l.length + 1) c', .int .i64 (l.length : Int)]) ∧ Kd.S k44 44 w' w0.heap.size (fun _ => True) (.slice A' (l.length + 1) c') (hung l up p ⟨b0, b1, b2, l3, b4, b5, l6⟩) ∧ Below w0.heap.size w0 w' := by
 have S := Aside0.mk (Kd.S_mono (ok' := fun k => k < w.heap.size) (Kd.S_bound hS) (fun k hk => hk.2.2.1))
 have R3 := Aside0.mk hr3
 have HC3 := Aside0.mk hc3
 have R6 := Aside0.mk hr6
 have HC6 := Aside0.mk hc6
 have B := Aside0.mk hB
 have HL := Aside0.mk hl
 have HIT := Aside0.mk (show spec_l6Item.f b0 b1 b2 l3 b4 b5 l6 = some (b0, b1, b2, l3, b4, b5, l6) by unfold spec_l6Item.f; simp only [Option.bind_some, List.length_nil, Nat.zero_add, List.nil_append]; rw [if_pos hl3, if_pos hl6])
 obtain ⟨X, hX⟩ : ∃ X, rd_T44 l up = X := ⟨_, rfl⟩
 rw [hX] at hk
 have HK := Aside0.mk hk
 obtain ⟨L, hLL⟩ : ∃ L, l ++ [(⟨b0, b1, b2, l3, b4, up, []⟩ : S44)] = L := ⟨_, rfl⟩
 obtain ⟨n, hN⟩ : ∃ n, L.length = n := ⟨_, rfl⟩
 have hn0 : n = l.length + 1 := by rw [← hN, ← hLL, List.length_append]; rfl
 have hn1 : up < (n : Int) := by omega
 have HGD := Aside0.mk (show L.getD up.toNat z44 = X by rw [← hLL, ← hX]; exact rd_snoc l _ up h0 h1)
 have HFIN : ∀ ks, addAt X.f6 p (l.length : Int) = ks → hung l up p ⟨b0, b1, b2, l3, b4, b5, l6⟩ = L.set up.toNat ⟨X.f0, X.f1, X.f2, X.f3, X.f4, X.f5, ks⟩ := fun ks h => by unfold hung; rw [hX, h, ← hLL]
 have HLL := Aside0.mk hLL
 have HN := Aside0.mk hN
 have HN0 := Aside0.mk hn0
 have HFI := Aside0.mk HFIN
 have p0 : ((0 : Int) ≤ up) = True := eq_true h0
 have q0 : (up < (n : Int)) = True := eq_true hn1
 obtain ⟨i_, hi_, _, hsz_, _⟩ := info_parts info3
 clear hS hr3 hc3 hr6 hc6 hB hl hl3 hl6 hX hk hLL hN HFIN hn0 h1
 have hu1 := Try.underlying44
 rcases Classical.em (0 ≤ p ∧ p ≤ (X.f6.length : Int)) with cp | cp
 ·have d0 : decide (p < 0) = false := decide_eq_false (by omega)
  have d1 : decide (p > (X.f6.length : Int)) = false := decide_eq_false (by omega)
  have d2 : decide ((X.f6.length : Int) < p) = false := decide_eq_false (by omega)
  have hi0 := Aside0.mk (show (0 : Int) ≤ p from cp.1)
  have hi1 := Aside0.mk (show (p : Int) ≤ (X.f6.length : Int) from cp.2)
  obtain ⟨f1, hF1⟩ : ∃ f1, X.f6.take (p : Int).toNat = f1 := ⟨_, rfl⟩
  obtain ⟨f2, hF2⟩ : ∃ f2, X.f6.drop (p : Int).toNat = f2 := ⟨_, rfl⟩
  obtain ⟨f3, hF3⟩ : ∃ f3, f1 ++ [(l.length : Int)] = f3 := ⟨_, rfl⟩
  obtain ⟨f4, hF4⟩ : ∃ f4, f3 ++ f2 = f4 := ⟨_, rfl⟩
  have HAD := Aside0.mk (show addAt X.f6 p (l.length : Int) = f4 by rw [← hF4, ← hF3, ← hF1, ← hF2]; unfold addAt; rw [if_pos cp, List.append_assoc]; rfl)
  have HF1L := Aside0.mk (show f1.length < 1759218604441 by have := HK.out; rw [← hF1, List.length_take]; omega)
  have HF2L := Aside0.mk (show f2.length < 1759218604441 by have := HK.out; rw [← hF2, List.length_drop]; omega)
  have HF3L := Aside0.mk (show f3.length < 1759218604442 by have := HF1L.out; rw [← hF3, List.length_append]; simp only [List.length_cons, List.length_nil]; omega)
  have HF1 := Aside0.mk hF1
  have HF2 := Aside0.mk hF2
  have HF3 := Aside0.mk hF3
  have HF4 := Aside0.mk hF4
  clear hF1 hF2 hF3 hF4 cp
  go_enter Try.func51, Try.ntmps51
  go_wp2_with (first | ((with_reducible refine gate_dst (N := 7) rfl ?_); refine box_event ?hg (N := 7) ?hd (cs := #[.int .i64 b0, .int .i64 b1, .string b2, .slice A3 l3.length c3, .string b4, .int .i64 b5, .slice A6 l6.length c6]) (t := 44) ?hr ?_; (case hd => rfl); (case hg => rfl); (case hr => first | (go_simp; done) | (go_simp; rfl)); intro gp hg_ w1 hbox hb; have I := Aside0.mk (show IsIt w1 gp b0 b1 b2 (.slice A3 l3.length c3) b4 b5 (.slice A6 l6.length c6) from hbox); clear hbox hg_; have BW := Aside0.mk hb; have n0_ := Aside0.mk (Kd.S_below S.out hb); have n1_ := Aside0.mk (Kd.C_below R3.out hb); have n2_ := Aside0.mk (Kd.C_below R6.out hb); have n3_ := Aside0.mk (below_then B.out B.out.size hb); clear S R3 R6 B; have S := n0_; have R3 := n1_; have R6 := n2_; have B := n3_; clear n0_ n1_ n2_ n3_ hb; have z0 := IsIt.x0 I.out; have z1 := IsIt.x1 I.out; have z2 := IsIt.x2 I.out; have z3 := IsIt.x3 I.out; have z4 := IsIt.x4 I.out; have z5 := IsIt.x5 I.out; have z6 := IsIt.x6 I.out) | (go_at_call 76; refine (spec_l6Item.calls b0 b1 b2 A3 c3 l3 b4 b5 A6 c6 l6 b0 b1 b2 l3 b4 b5 l6 _ R3.out HC3.out R6.out HC6.out HIT.out).mono ?_; rintro e w2 ⟨va, vb_, rfl, hr_, hr6_, hb⟩; obtain ⟨Ab, cb, rfl⟩ := Kd.R_slice hr6_; clear hr6_; obtain ⟨Aa, ca, rfl⟩ := Kd.R_slice hr_; have V_ := Aside0.mk (Kd.R_mono (ok' := fun k => w.heap.size ≤ k ∧ k < w2.heap.size) (Kd.R_lower (Kd.R_bound hr_) B.out.size) (fun k hk => ⟨Nat.le_trans BW.out.size hk.2.1, hk.2.2.1⟩)); clear hr_; have nBW_ := Aside0.mk (below_step BW.out hb); clear BW; have BW := nBW_; clear nBW_; clear z0 z1 z2 z3 z4 z5 z6; clear R3 R6; have n0_ := Aside0.mk (Kd.S_below S.out hb); have n1_ := Aside0.mk (below_then B.out B.out.size hb); have n2_ := Aside0.mk (IsIt.below I.out hb); clear S B I; have S := n0_; have B := n1_; have I := n2_; clear n0_ n1_ n2_ hb; have V := V_; clear V_ I) | ((with_reducible refine gate_store (t := 44) (p := 11) rfl ?_); refine store_event (t := 44) (p := 11) (v := ?vo11_0) (w1 := ?w111_0) ?hg ?ho ?hn ?hr ?_; (case ho => rfl); (case hg => rfl); (case hn => rfl); (case hr => go_simp; rfl); intro w3 hw_; have hb := (show Below w2.heap.size w2 w3 by rw [hw_]; exact (Below.refl w2.heap.size w2).alloc (Nat.le_refl _) _); have I_ := Aside0.mk (show IsIt w3 w2.heap.size b0 b1 b2 (.slice Aa l3.length ca) b4 b5 (.slice Ab l6.length cb) by rw [hw_]; exact blk_new _ _); clear hw_; have hq0 := Aside0.mk (show w.heap.size ≤ w2.heap.size from BW.out.size); have hq1 := Aside0.mk (show w0.heap.size ≤ w2.heap.size from B.out.size); have n0_ := Aside0.mk (Kd.S_below S.out hb); have n1_ := Aside0.mk (below_then B.out B.out.size hb); have n2_ := Aside0.mk (Kd.R_below V.out hb); clear S B V; have S := n0_; have B := n1_; have V := n2_; clear n0_ n1_ n2_ hb; have I := I_; clear I_; have z5 := IsIt.x5 I.out; have z6 := IsIt.x6 I.out; have f5 := IsIt.fz I.out 5; have f6 := IsIt.fz I.out 6) | ((with_reducible refine gate_store (t := 23) (p := 18) rfl ?_); refine store_event (t := 23) (p := 18) (v := ?vo18_0) (w1 := ?w118_0) ?hg ?ho ?hn ?hr ?_; (case ho => rfl); (case hg => rfl); (case hn => rfl); (case hr => go_simp; rfl); intro w4 hw_; clear z5 z6 f5 f6; have nS_ := Aside0.mk (show Kd.S k44 44 w4 w0.heap.size (fun k => k < w.heap.size) (.slice A l.length c) l by rw [hw_]; exact Kd.S_far (p := ⟨w2.heap.size, 6, none⟩) S.out (fun k hk => Nat.ne_of_lt (Nat.lt_of_lt_of_le hk hq0.out)) (.slice none 0 0)); have nV_ := Aside0.mk (show Kd.R k91 91 w4 w0.heap.size (fun k => w.heap.size ≤ k ∧ k < w2.heap.size) (.slice Aa l3.length ca) l3 by rw [hw_]; exact Kd.R_far (p := ⟨w2.heap.size, 6, none⟩) V.out (fun k hk => Nat.ne_of_lt hk.2) (.slice none 0 0)); have nB_ := Aside0.mk (show Below w0.heap.size w0 w4 by rw [hw_]; exact Below.setCell (p := ⟨w2.heap.size, 6, none⟩) B.out hq1.out (.slice none 0 0)); have nI_ := Aside0.mk (show IsIt w4 w2.heap.size b0 b1 b2 (.slice Aa l3.length ca) b4 b5 (.slice none 0 0) by rw [hw_]; exact IsIt.put6 I.out (.slice none 0 0)); clear S V B I hw_; have S := nS_; have V := nV_; have B := nB_; have I := nI_; clear nS_ nV_ nB_ nI_; have z5 := IsIt.x5 I.out; have f5 := IsIt.fz I.out 5) | ((with_reducible refine gate_store (t := 3) (p := 20) rfl ?_); refine store_event (t := 3) (p := 20) (v := ?vo20_0) (w1 := ?w120_0) ?hg ?ho ?hn ?hr ?_; (case ho => rfl); (case hg => rfl); (case hn => rfl); (case hr => go_simp; rfl); intro w5 hw_; clear z5 f5; have nS_ := Aside0.mk (show Kd.S k44 44 w5 w0.heap.size (fun k => k < w.heap.size) (.slice A l.length c) l by rw [hw_]; exact Kd.S_far (p := ⟨w2.heap.size, 5, none⟩) S.out (fun k hk => Nat.ne_of_lt (Nat.lt_of_lt_of_le hk hq0.out)) (.int .i64 up)); have nV_ := Aside0.mk (show Kd.R k91 91 w5 w0.heap.size (fun k => w.heap.size ≤ k ∧ k < w2.heap.size) (.slice Aa l3.length ca) l3 by rw [hw_]; exact Kd.R_far (p := ⟨w2.heap.size, 5, none⟩) V.out (fun k hk => Nat.ne_of_lt hk.2) (.int .i64 up)); have nB_ := Aside0.mk (show Below w0.heap.size w0 w5 by rw [hw_]; exact Below.setCell (p := ⟨w2.heap.size, 5, none⟩) B.out hq1.out (.int .i64 up)); have nI_ := Aside0.mk (show IsIt w5 w2.heap.size b0 b1 b2 (.slice Aa l3.length ca) b4 up (.slice none 0 0) by rw [hw_]; exact IsIt.put5 I.out up); clear S V B I hw_; have S := nS_; have V := nV_; have B := nB_; have I := nI_; clear nS_ nV_ nB_ nI_; have z0 := IsIt.x0 I.out; have z1 := IsIt.x1 I.out; have z2 := IsIt.x2 I.out; have z3 := IsIt.x3 I.out; have z4 := IsIt.x4 I.out; have z5 := IsIt.x5 I.out; have z6 := IsIt.x6 I.out) | ((with_reducible refine gate_builtin (b := .append) (xs := #[.tmp 21, .tmp 23]) rfl ?_); at_builtin; refine Kd.S_append k44 (w0 := w0) w0.heap.size rfl (.tmp 21) (.tmp 23) 28 44 (.agg #[(.int .i64 0), (.int .i64 0), (.string ⟨#[]⟩), (.slice none 0 0), (.string ⟨#[]⟩), (.int .i64 0), (.slice none 0 0)]) 104 rfl Try.underlying28 info44 rfl (by decide) (by omega) (.slice A l.length c) l (⟨b0, b1, b2, l3, b4, up, []⟩ : S44) [.int .i64 b0, .int .i64 b1, .string b2, .slice Aa l3.length ca, .string b4, .int .i64 up, .slice none 0 0] (fun _ => True) (fun k => w.heap.size ≤ k) rfl rfl (k44_mkM _ _ _ (⟨b0, b1, b2, l3, b4, up, []⟩ : S44) (Kd.R_mono V.out (fun k hk => hk.1)) (Kd.R_nil _ _ _ _ _)) (fun k hk => ⟨trivial, fun e => absurd ((Kd.S_R S.out).1 k e.symm) (Nat.not_lt.2 hk)⟩) (fun _ _ => trivial) (Kd.S_mono S.out (fun k hk => ⟨trivial, Nat.not_le.2 hk⟩)) B.out B.out.size (by have := HL.out; omega) ?_; intro v1 w6 hs hb _ _; clear z0 z1 z2 z3 z4 z5 z6; clear S V I B BW; have B := Aside0.mk hb; obtain ⟨g, cap, rfl, hgb2, hglt, _⟩ := Kd.S_form hs (by rw [List.length_append]; exact Nat.succ_pos _); rw [HLL.out, HN.out] at hs; rw [HLL.out, HN.out]; obtain ⟨oki, cc, hcl, hM, hcc, hoki, hH⟩ := Kd.S_lend hs z44 up h0 hn1; rw [HGD.out] at hM; obtain ⟨v3, v6_, rfl, h3, h6⟩ := k44_openM hM; obtain ⟨A6_, c6_, rfl⟩ := Kd.R_slice h6; have hx6 : w6.cell? ⟨g, up.toNat * 7 + 6, none⟩ = some (.slice A6_ X.f6.length c6_) := hcc 6 _ rfl; have HH := Aside0.mk hH; have H3 := Aside0.mk h3; have H6 := Aside0.mk h6; have GB := Aside0.mk hgb2; clear hs hb hgb2 hglt hcl hM hcc hoki hH h3 h6; obtain ⟨hcut1, hA1, _⟩ := print_take_of (P := Try.prog) (Value.int .i64) 0 23 3 .i64 Try.underlying23 hi_ hsz_ A6_ c6_ X.f6 (p : Int) hi0.out hi1.out (Kd.R_reads' H6.out).2.1; obtain ⟨A7, hcut2, hA2, _⟩ := print_drop_of (P := Try.prog) (Value.int .i64) 0 23 3 .i64 Try.underlying23 hi_ hsz_ A6_ c6_ X.f6 (p : Int) hi0.out hi1.out (Kd.R_reads' H6.out).2.1; rw [HF1.out] at hcut1 hA1; rw [HF2.out] at hcut2 hA2; have C1 := Aside0.mk (Kd.C_of_reads (h1 := fun _ => rfl) (hA1 _ (Kd.reads_of_C (Kd.R_reads' H6.out).2.2))); have C2 := Aside0.mk (Kd.C_of_reads (h1 := fun _ => rfl) (hA2 _ (Kd.reads_of_C (Kd.R_reads' H6.out).2.2))); clear hA1 hA2) | ((with_reducible refine gate_dst (N := 40) rfl ?_); refine Kd.R_lit (Kd.int .i64) (w0 := w6) w6.heap.size 3 ?hg (N := 40) ?hd (xs := ([] : List Int)) (inner := []) (ok := fun _ => True) (okp := fun _ => True) ?hr ?hp (fun _ hk => hk) trivial (Below.refl _ _) (Nat.le_refl _) (by simp) ?_; (case hd => rfl); (case hg => rfl); (case hr => first | (go_simp; done) | (go_simp; rfl)); (case hp => exact (Reps.none _ _)); intro u1 w7 ho hb _ _; have O := Aside0.mk ho; have BB := Aside0.mk hb; clear ho hb; clear hx6) | ((with_reducible refine gate_builtin (b := .append) (xs := #[.tmp 40, .tmp 43]) rfl ?_); at_builtin; refine Kd.R_append_rows (Kd.int .i64) (w0 := w6) w6.heap.size rfl (.tmp 40) (.tmp 43) 23 3 (.int .i64 0) 8 rfl Try.underlying23 info3 rfl (by decide) (by omega) u1 [] f1 _ _ _ (fun _ => True) (fun _ => False) rfl rfl O.out (Kd.C_below C1.out BB.out) (fun _ _ h => h) (fun _ h => h.elim) (fun _ _ => trivial) BB.out BB.out.size (by have := HF1L.out; simp only [List.length_nil]; omega) ?_; intro u2 w8 ho hb _ _; rw [List.nil_append] at ho; clear O BB; have O := Aside0.mk ho; have BB := Aside0.mk hb; clear ho hb) | ((with_reducible refine gate_builtin (b := .append) (xs := #[.tmp 45, .tmp 47]) rfl ?_); at_builtin; refine Kd.R_append (Kd.int .i64) (w0 := w6) (W := w8) w6.heap.size rfl (.tmp 45) (.tmp 47) 23 3 (.int .i64 0) 8 rfl Try.underlying23 info3 rfl (by decide) (by omega) u2 f1 (l.length : Int) [.int .i64 (l.length : Int)] (fun _ => True) (fun _ => False) rfl rfl rfl (fun _ h => h.elim) (fun _ _ => trivial) O.out BB.out BB.out.size (by have := HF1L.out; omega) ?_; intro u3 w9 ho hb _ _; rw [HF3.out] at ho; clear O BB; have O := Aside0.mk ho; have BB := Aside0.mk hb; clear ho hb) | ((with_reducible refine gate_builtin (b := .append) (xs := #[.tmp 51, .tmp 54]) rfl ?_); at_builtin; refine Kd.R_append_rows (Kd.int .i64) (w0 := w6) w6.heap.size rfl (.tmp 51) (.tmp 54) 23 3 (.int .i64 0) 8 rfl Try.underlying23 info3 rfl (by decide) (by omega) u3 f3 f2 _ _ _ (fun _ => True) (fun _ => False) rfl rfl O.out (Kd.C_below C2.out BB.out) (fun _ _ h => h) (fun _ h => h.elim) (fun _ _ => trivial) BB.out BB.out.size (by have := HF2L.out; have := HF3L.out; omega) ?_; intro u4 w10 ho hb _ _; rw [HF4.out] at ho; obtain ⟨A9, c9, rfl⟩ := Kd.R_slice ho; obtain ⟨hx9, hf9, hS9, hg10⟩ := hung_fin HH.out h0 hn1 H3.out H6.out (grown_any hb _) (Kd.R_lower (Kd.R_mono (Kd.R_bound ho) (fun k hk => .inr hk.2.1)) B.out.size); have HS9 := Aside0.mk hS9; have B9 := Aside0.mk (below_then B.out B.out.size hb); clear O BB ho hb hS9 hg10) | ((with_reducible refine gate_store (t := 23) (p := 57) rfl ?_); refine store_event (t := 23) (p := 57) (v := ?vo57_0) (w1 := ?w157_0) ?hg ?ho ?hn ?hr ?_; (case ho => rfl); (case hg => rfl); (case hn => rfl); (case hr => go_simp; rfl); intro w11 hw_; have HS10 := Aside0.mk (show Kd.S k44 44 w11 w0.heap.size (fun _ => True) (.slice (some ⟨g, 0, none⟩) n cap) (L.set up.toNat ⟨X.f0, X.f1, X.f2, X.f3, X.f4, X.f5, f4⟩) by rw [hw_]; exact HS9.out); have B10 := Aside0.mk (show Below w0.heap.size w0 w11 by rw [hw_]; exact Below.setCell (p := ⟨g, up.toNat * 7 + 6, none⟩) B9.out GB.out _); clear hx9 hf9 hw_))
  go_ret2
  rw [← HN0.out, HFI.out _ HAD.out]
  exact ⟨_, _, rfl, HS10.out, B10.out⟩
 ·by_cases cn : p < 0
  ·have d0 : decide (p < 0) = true := decide_eq_true cn
   clear cn
   have hi0 := Aside0.mk (show (0 : Int) ≤ (X.f6.length : Int) from Int.natCast_nonneg _)
   have hi1 := Aside0.mk (show ((X.f6.length : Int) : Int) ≤ (X.f6.length : Int) from Int.le_refl _)
   obtain ⟨f1, hF1⟩ : ∃ f1, X.f6.take ((X.f6.length : Int) : Int).toNat = f1 := ⟨_, rfl⟩
   obtain ⟨f2, hF2⟩ : ∃ f2, X.f6.drop ((X.f6.length : Int) : Int).toNat = f2 := ⟨_, rfl⟩
   obtain ⟨f3, hF3⟩ : ∃ f3, f1 ++ [(l.length : Int)] = f3 := ⟨_, rfl⟩
   obtain ⟨f4, hF4⟩ : ∃ f4, f3 ++ f2 = f4 := ⟨_, rfl⟩
   have HAD := Aside0.mk (show addAt X.f6 p (l.length : Int) = f4 by rw [← hF4, ← hF3, ← hF1, ← hF2]; unfold addAt; rw [if_neg cp, Int.toNat_natCast, List.take_length, List.drop_length, List.append_nil])
   have HF1L := Aside0.mk (show f1.length < 1759218604441 by have := HK.out; rw [← hF1, List.length_take]; omega)
   have HF2L := Aside0.mk (show f2.length < 1759218604441 by have := HK.out; rw [← hF2, List.length_drop]; omega)
   have HF3L := Aside0.mk (show f3.length < 1759218604442 by have := HF1L.out; rw [← hF3, List.length_append]; simp only [List.length_cons, List.length_nil]; omega)
   have HF1 := Aside0.mk hF1
   have HF2 := Aside0.mk hF2
   have HF3 := Aside0.mk hF3
   have HF4 := Aside0.mk hF4
   clear hF1 hF2 hF3 hF4 cp
   go_enter Try.func51, Try.ntmps51
   go_wp2_with (first | ((with_reducible refine gate_dst (N := 7) rfl ?_); refine box_event ?hg (N := 7) ?hd (cs := #[.int .i64 b0, .int .i64 b1, .string b2, .slice A3 l3.length c3, .string b4, .int .i64 b5, .slice A6 l6.length c6]) (t := 44) ?hr ?_; (case hd => rfl); (case hg => rfl); (case hr => first | (go_simp; done) | (go_simp; rfl)); intro gp hg_ w1 hbox hb; have I := Aside0.mk (show IsIt w1 gp b0 b1 b2 (.slice A3 l3.length c3) b4 b5 (.slice A6 l6.length c6) from hbox); clear hbox hg_; have BW := Aside0.mk hb; have n0_ := Aside0.mk (Kd.S_below S.out hb); have n1_ := Aside0.mk (Kd.C_below R3.out hb); have n2_ := Aside0.mk (Kd.C_below R6.out hb); have n3_ := Aside0.mk (below_then B.out B.out.size hb); clear S R3 R6 B; have S := n0_; have R3 := n1_; have R6 := n2_; have B := n3_; clear n0_ n1_ n2_ n3_ hb; have z0 := IsIt.x0 I.out; have z1 := IsIt.x1 I.out; have z2 := IsIt.x2 I.out; have z3 := IsIt.x3 I.out; have z4 := IsIt.x4 I.out; have z5 := IsIt.x5 I.out; have z6 := IsIt.x6 I.out) | (go_at_call 76; refine (spec_l6Item.calls b0 b1 b2 A3 c3 l3 b4 b5 A6 c6 l6 b0 b1 b2 l3 b4 b5 l6 _ R3.out HC3.out R6.out HC6.out HIT.out).mono ?_; rintro e w2 ⟨va, vb_, rfl, hr_, hr6_, hb⟩; obtain ⟨Ab, cb, rfl⟩ := Kd.R_slice hr6_; clear hr6_; obtain ⟨Aa, ca, rfl⟩ := Kd.R_slice hr_; have V_ := Aside0.mk (Kd.R_mono (ok' := fun k => w.heap.size ≤ k ∧ k < w2.heap.size) (Kd.R_lower (Kd.R_bound hr_) B.out.size) (fun k hk => ⟨Nat.le_trans BW.out.size hk.2.1, hk.2.2.1⟩)); clear hr_; have nBW_ := Aside0.mk (below_step BW.out hb); clear BW; have BW := nBW_; clear nBW_; clear z0 z1 z2 z3 z4 z5 z6; clear R3 R6; have n0_ := Aside0.mk (Kd.S_below S.out hb); have n1_ := Aside0.mk (below_then B.out B.out.size hb); have n2_ := Aside0.mk (IsIt.below I.out hb); clear S B I; have S := n0_; have B := n1_; have I := n2_; clear n0_ n1_ n2_ hb; have V := V_; clear V_ I) | ((with_reducible refine gate_store (t := 44) (p := 11) rfl ?_); refine store_event (t := 44) (p := 11) (v := ?vo11_1) (w1 := ?w111_1) ?hg ?ho ?hn ?hr ?_; (case ho => rfl); (case hg => rfl); (case hn => rfl); (case hr => go_simp; rfl); intro w3 hw_; have hb := (show Below w2.heap.size w2 w3 by rw [hw_]; exact (Below.refl w2.heap.size w2).alloc (Nat.le_refl _) _); have I_ := Aside0.mk (show IsIt w3 w2.heap.size b0 b1 b2 (.slice Aa l3.length ca) b4 b5 (.slice Ab l6.length cb) by rw [hw_]; exact blk_new _ _); clear hw_; have hq0 := Aside0.mk (show w.heap.size ≤ w2.heap.size from BW.out.size); have hq1 := Aside0.mk (show w0.heap.size ≤ w2.heap.size from B.out.size); have n0_ := Aside0.mk (Kd.S_below S.out hb); have n1_ := Aside0.mk (below_then B.out B.out.size hb); have n2_ := Aside0.mk (Kd.R_below V.out hb); clear S B V; have S := n0_; have B := n1_; have V := n2_; clear n0_ n1_ n2_ hb; have I := I_; clear I_; have z5 := IsIt.x5 I.out; have z6 := IsIt.x6 I.out; have f5 := IsIt.fz I.out 5; have f6 := IsIt.fz I.out 6) | ((with_reducible refine gate_store (t := 23) (p := 18) rfl ?_); refine store_event (t := 23) (p := 18) (v := ?vo18_1) (w1 := ?w118_1) ?hg ?ho ?hn ?hr ?_; (case ho => rfl); (case hg => rfl); (case hn => rfl); (case hr => go_simp; rfl); intro w4 hw_; clear z5 z6 f5 f6; have nS_ := Aside0.mk (show Kd.S k44 44 w4 w0.heap.size (fun k => k < w.heap.size) (.slice A l.length c) l by rw [hw_]; exact Kd.S_far (p := ⟨w2.heap.size, 6, none⟩) S.out (fun k hk => Nat.ne_of_lt (Nat.lt_of_lt_of_le hk hq0.out)) (.slice none 0 0)); have nV_ := Aside0.mk (show Kd.R k91 91 w4 w0.heap.size (fun k => w.heap.size ≤ k ∧ k < w2.heap.size) (.slice Aa l3.length ca) l3 by rw [hw_]; exact Kd.R_far (p := ⟨w2.heap.size, 6, none⟩) V.out (fun k hk => Nat.ne_of_lt hk.2) (.slice none 0 0)); have nB_ := Aside0.mk (show Below w0.heap.size w0 w4 by rw [hw_]; exact Below.setCell (p := ⟨w2.heap.size, 6, none⟩) B.out hq1.out (.slice none 0 0)); have nI_ := Aside0.mk (show IsIt w4 w2.heap.size b0 b1 b2 (.slice Aa l3.length ca) b4 b5 (.slice none 0 0) by rw [hw_]; exact IsIt.put6 I.out (.slice none 0 0)); clear S V B I hw_; have S := nS_; have V := nV_; have B := nB_; have I := nI_; clear nS_ nV_ nB_ nI_; have z5 := IsIt.x5 I.out; have f5 := IsIt.fz I.out 5) | ((with_reducible refine gate_store (t := 3) (p := 20) rfl ?_); refine store_event (t := 3) (p := 20) (v := ?vo20_1) (w1 := ?w120_1) ?hg ?ho ?hn ?hr ?_; (case ho => rfl); (case hg => rfl); (case hn => rfl); (case hr => go_simp; rfl); intro w5 hw_; clear z5 f5; have nS_ := Aside0.mk (show Kd.S k44 44 w5 w0.heap.size (fun k => k < w.heap.size) (.slice A l.length c) l by rw [hw_]; exact Kd.S_far (p := ⟨w2.heap.size, 5, none⟩) S.out (fun k hk => Nat.ne_of_lt (Nat.lt_of_lt_of_le hk hq0.out)) (.int .i64 up)); have nV_ := Aside0.mk (show Kd.R k91 91 w5 w0.heap.size (fun k => w.heap.size ≤ k ∧ k < w2.heap.size) (.slice Aa l3.length ca) l3 by rw [hw_]; exact Kd.R_far (p := ⟨w2.heap.size, 5, none⟩) V.out (fun k hk => Nat.ne_of_lt hk.2) (.int .i64 up)); have nB_ := Aside0.mk (show Below w0.heap.size w0 w5 by rw [hw_]; exact Below.setCell (p := ⟨w2.heap.size, 5, none⟩) B.out hq1.out (.int .i64 up)); have nI_ := Aside0.mk (show IsIt w5 w2.heap.size b0 b1 b2 (.slice Aa l3.length ca) b4 up (.slice none 0 0) by rw [hw_]; exact IsIt.put5 I.out up); clear S V B I hw_; have S := nS_; have V := nV_; have B := nB_; have I := nI_; clear nS_ nV_ nB_ nI_; have z0 := IsIt.x0 I.out; have z1 := IsIt.x1 I.out; have z2 := IsIt.x2 I.out; have z3 := IsIt.x3 I.out; have z4 := IsIt.x4 I.out; have z5 := IsIt.x5 I.out; have z6 := IsIt.x6 I.out) | ((with_reducible refine gate_builtin (b := .append) (xs := #[.tmp 21, .tmp 23]) rfl ?_); at_builtin; refine Kd.S_append k44 (w0 := w0) w0.heap.size rfl (.tmp 21) (.tmp 23) 28 44 (.agg #[(.int .i64 0), (.int .i64 0), (.string ⟨#[]⟩), (.slice none 0 0), (.string ⟨#[]⟩), (.int .i64 0), (.slice none 0 0)]) 104 rfl Try.underlying28 info44 rfl (by decide) (by omega) (.slice A l.length c) l (⟨b0, b1, b2, l3, b4, up, []⟩ : S44) [.int .i64 b0, .int .i64 b1, .string b2, .slice Aa l3.length ca, .string b4, .int .i64 up, .slice none 0 0] (fun _ => True) (fun k => w.heap.size ≤ k) rfl rfl (k44_mkM _ _ _ (⟨b0, b1, b2, l3, b4, up, []⟩ : S44) (Kd.R_mono V.out (fun k hk => hk.1)) (Kd.R_nil _ _ _ _ _)) (fun k hk => ⟨trivial, fun e => absurd ((Kd.S_R S.out).1 k e.symm) (Nat.not_lt.2 hk)⟩) (fun _ _ => trivial) (Kd.S_mono S.out (fun k hk => ⟨trivial, Nat.not_le.2 hk⟩)) B.out B.out.size (by have := HL.out; omega) ?_; intro v1 w6 hs hb _ _; clear z0 z1 z2 z3 z4 z5 z6; clear S V I B BW; have B := Aside0.mk hb; obtain ⟨g, cap, rfl, hgb2, hglt, _⟩ := Kd.S_form hs (by rw [List.length_append]; exact Nat.succ_pos _); rw [HLL.out, HN.out] at hs; rw [HLL.out, HN.out]; obtain ⟨oki, cc, hcl, hM, hcc, hoki, hH⟩ := Kd.S_lend hs z44 up h0 hn1; rw [HGD.out] at hM; obtain ⟨v3, v6_, rfl, h3, h6⟩ := k44_openM hM; obtain ⟨A6_, c6_, rfl⟩ := Kd.R_slice h6; have hx6 : w6.cell? ⟨g, up.toNat * 7 + 6, none⟩ = some (.slice A6_ X.f6.length c6_) := hcc 6 _ rfl; have HH := Aside0.mk hH; have H3 := Aside0.mk h3; have H6 := Aside0.mk h6; have GB := Aside0.mk hgb2; clear hs hb hgb2 hglt hcl hM hcc hoki hH h3 h6; obtain ⟨hcut1, hA1, _⟩ := print_take_of (P := Try.prog) (Value.int .i64) 0 23 3 .i64 Try.underlying23 hi_ hsz_ A6_ c6_ X.f6 ((X.f6.length : Int) : Int) hi0.out hi1.out (Kd.R_reads' H6.out).2.1; obtain ⟨A7, hcut2, hA2, _⟩ := print_drop_of (P := Try.prog) (Value.int .i64) 0 23 3 .i64 Try.underlying23 hi_ hsz_ A6_ c6_ X.f6 ((X.f6.length : Int) : Int) hi0.out hi1.out (Kd.R_reads' H6.out).2.1; rw [HF1.out] at hcut1 hA1; rw [HF2.out] at hcut2 hA2; have C1 := Aside0.mk (Kd.C_of_reads (h1 := fun _ => rfl) (hA1 _ (Kd.reads_of_C (Kd.R_reads' H6.out).2.2))); have C2 := Aside0.mk (Kd.C_of_reads (h1 := fun _ => rfl) (hA2 _ (Kd.reads_of_C (Kd.R_reads' H6.out).2.2))); clear hA1 hA2) | ((with_reducible refine gate_dst (N := 40) rfl ?_); refine Kd.R_lit (Kd.int .i64) (w0 := w6) w6.heap.size 3 ?hg (N := 40) ?hd (xs := ([] : List Int)) (inner := []) (ok := fun _ => True) (okp := fun _ => True) ?hr ?hp (fun _ hk => hk) trivial (Below.refl _ _) (Nat.le_refl _) (by simp) ?_; (case hd => rfl); (case hg => rfl); (case hr => first | (go_simp; done) | (go_simp; rfl)); (case hp => exact (Reps.none _ _)); intro u1 w7 ho hb _ _; have O := Aside0.mk ho; have BB := Aside0.mk hb; clear ho hb; clear hx6) | ((with_reducible refine gate_builtin (b := .append) (xs := #[.tmp 40, .tmp 43]) rfl ?_); at_builtin; refine Kd.R_append_rows (Kd.int .i64) (w0 := w6) w6.heap.size rfl (.tmp 40) (.tmp 43) 23 3 (.int .i64 0) 8 rfl Try.underlying23 info3 rfl (by decide) (by omega) u1 [] f1 _ _ _ (fun _ => True) (fun _ => False) rfl rfl O.out (Kd.C_below C1.out BB.out) (fun _ _ h => h) (fun _ h => h.elim) (fun _ _ => trivial) BB.out BB.out.size (by have := HF1L.out; simp only [List.length_nil]; omega) ?_; intro u2 w8 ho hb _ _; rw [List.nil_append] at ho; clear O BB; have O := Aside0.mk ho; have BB := Aside0.mk hb; clear ho hb) | ((with_reducible refine gate_builtin (b := .append) (xs := #[.tmp 45, .tmp 47]) rfl ?_); at_builtin; refine Kd.R_append (Kd.int .i64) (w0 := w6) (W := w8) w6.heap.size rfl (.tmp 45) (.tmp 47) 23 3 (.int .i64 0) 8 rfl Try.underlying23 info3 rfl (by decide) (by omega) u2 f1 (l.length : Int) [.int .i64 (l.length : Int)] (fun _ => True) (fun _ => False) rfl rfl rfl (fun _ h => h.elim) (fun _ _ => trivial) O.out BB.out BB.out.size (by have := HF1L.out; omega) ?_; intro u3 w9 ho hb _ _; rw [HF3.out] at ho; clear O BB; have O := Aside0.mk ho; have BB := Aside0.mk hb; clear ho hb) | ((with_reducible refine gate_builtin (b := .append) (xs := #[.tmp 51, .tmp 54]) rfl ?_); at_builtin; refine Kd.R_append_rows (Kd.int .i64) (w0 := w6) w6.heap.size rfl (.tmp 51) (.tmp 54) 23 3 (.int .i64 0) 8 rfl Try.underlying23 info3 rfl (by decide) (by omega) u3 f3 f2 _ _ _ (fun _ => True) (fun _ => False) rfl rfl O.out (Kd.C_below C2.out BB.out) (fun _ _ h => h) (fun _ h => h.elim) (fun _ _ => trivial) BB.out BB.out.size (by have := HF2L.out; have := HF3L.out; omega) ?_; intro u4 w10 ho hb _ _; rw [HF4.out] at ho; obtain ⟨A9, c9, rfl⟩ := Kd.R_slice ho; obtain ⟨hx9, hf9, hS9, hg10⟩ := hung_fin HH.out h0 hn1 H3.out H6.out (grown_any hb _) (Kd.R_lower (Kd.R_mono (Kd.R_bound ho) (fun k hk => .inr hk.2.1)) B.out.size); have HS9 := Aside0.mk hS9; have B9 := Aside0.mk (below_then B.out B.out.size hb); clear O BB ho hb hS9 hg10) | ((with_reducible refine gate_store (t := 23) (p := 57) rfl ?_); refine store_event (t := 23) (p := 57) (v := ?vo57_1) (w1 := ?w157_1) ?hg ?ho ?hn ?hr ?_; (case ho => rfl); (case hg => rfl); (case hn => rfl); (case hr => go_simp; rfl); intro w11 hw_; have HS10 := Aside0.mk (show Kd.S k44 44 w11 w0.heap.size (fun _ => True) (.slice (some ⟨g, 0, none⟩) n cap) (L.set up.toNat ⟨X.f0, X.f1, X.f2, X.f3, X.f4, X.f5, f4⟩) by rw [hw_]; exact HS9.out); have B10 := Aside0.mk (show Below w0.heap.size w0 w11 by rw [hw_]; exact Below.setCell (p := ⟨g, up.toNat * 7 + 6, none⟩) B9.out GB.out _); clear hx9 hf9 hw_))
   go_ret2
   rw [← HN0.out, HFI.out _ HAD.out]
   exact ⟨_, _, rfl, HS10.out, B10.out⟩
  ·have d0 : decide (p < 0) = false := decide_eq_false cn
   have d1 : decide (p > (X.f6.length : Int)) = true := decide_eq_true (by omega)
   have d2 : decide ((X.f6.length : Int) < p) = true := decide_eq_true (by omega)
   clear cn
   have hi0 := Aside0.mk (show (0 : Int) ≤ (X.f6.length : Int) from Int.natCast_nonneg _)
   have hi1 := Aside0.mk (show ((X.f6.length : Int) : Int) ≤ (X.f6.length : Int) from Int.le_refl _)
   obtain ⟨f1, hF1⟩ : ∃ f1, X.f6.take ((X.f6.length : Int) : Int).toNat = f1 := ⟨_, rfl⟩
   obtain ⟨f2, hF2⟩ : ∃ f2, X.f6.drop ((X.f6.length : Int) : Int).toNat = f2 := ⟨_, rfl⟩
   obtain ⟨f3, hF3⟩ : ∃ f3, f1 ++ [(l.length : Int)] = f3 := ⟨_, rfl⟩
   obtain ⟨f4, hF4⟩ : ∃ f4, f3 ++ f2 = f4 := ⟨_, rfl⟩
   have HAD := Aside0.mk (show addAt X.f6 p (l.length : Int) = f4 by rw [← hF4, ← hF3, ← hF1, ← hF2]; unfold addAt; rw [if_neg cp, Int.toNat_natCast, List.take_length, List.drop_length, List.append_nil])
   have HF1L := Aside0.mk (show f1.length < 1759218604441 by have := HK.out; rw [← hF1, List.length_take]; omega)
   have HF2L := Aside0.mk (show f2.length < 1759218604441 by have := HK.out; rw [← hF2, List.length_drop]; omega)
   have HF3L := Aside0.mk (show f3.length < 1759218604442 by have := HF1L.out; rw [← hF3, List.length_append]; simp only [List.length_cons, List.length_nil]; omega)
   have HF1 := Aside0.mk hF1
   have HF2 := Aside0.mk hF2
   have HF3 := Aside0.mk hF3
   have HF4 := Aside0.mk hF4
   clear hF1 hF2 hF3 hF4 cp
   go_enter Try.func51, Try.ntmps51
   go_wp2_with (first | ((with_reducible refine gate_dst (N := 7) rfl ?_); refine box_event ?hg (N := 7) ?hd (cs := #[.int .i64 b0, .int .i64 b1, .string b2, .slice A3 l3.length c3, .string b4, .int .i64 b5, .slice A6 l6.length c6]) (t := 44) ?hr ?_; (case hd => rfl); (case hg => rfl); (case hr => first | (go_simp; done) | (go_simp; rfl)); intro gp hg_ w1 hbox hb; have I := Aside0.mk (show IsIt w1 gp b0 b1 b2 (.slice A3 l3.length c3) b4 b5 (.slice A6 l6.length c6) from hbox); clear hbox hg_; have BW := Aside0.mk hb; have n0_ := Aside0.mk (Kd.S_below S.out hb); have n1_ := Aside0.mk (Kd.C_below R3.out hb); have n2_ := Aside0.mk (Kd.C_below R6.out hb); have n3_ := Aside0.mk (below_then B.out B.out.size hb); clear S R3 R6 B; have S := n0_; have R3 := n1_; have R6 := n2_; have B := n3_; clear n0_ n1_ n2_ n3_ hb; have z0 := IsIt.x0 I.out; have z1 := IsIt.x1 I.out; have z2 := IsIt.x2 I.out; have z3 := IsIt.x3 I.out; have z4 := IsIt.x4 I.out; have z5 := IsIt.x5 I.out; have z6 := IsIt.x6 I.out) | (go_at_call 76; refine (spec_l6Item.calls b0 b1 b2 A3 c3 l3 b4 b5 A6 c6 l6 b0 b1 b2 l3 b4 b5 l6 _ R3.out HC3.out R6.out HC6.out HIT.out).mono ?_; rintro e w2 ⟨va, vb_, rfl, hr_, hr6_, hb⟩; obtain ⟨Ab, cb, rfl⟩ := Kd.R_slice hr6_; clear hr6_; obtain ⟨Aa, ca, rfl⟩ := Kd.R_slice hr_; have V_ := Aside0.mk (Kd.R_mono (ok' := fun k => w.heap.size ≤ k ∧ k < w2.heap.size) (Kd.R_lower (Kd.R_bound hr_) B.out.size) (fun k hk => ⟨Nat.le_trans BW.out.size hk.2.1, hk.2.2.1⟩)); clear hr_; have nBW_ := Aside0.mk (below_step BW.out hb); clear BW; have BW := nBW_; clear nBW_; clear z0 z1 z2 z3 z4 z5 z6; clear R3 R6; have n0_ := Aside0.mk (Kd.S_below S.out hb); have n1_ := Aside0.mk (below_then B.out B.out.size hb); have n2_ := Aside0.mk (IsIt.below I.out hb); clear S B I; have S := n0_; have B := n1_; have I := n2_; clear n0_ n1_ n2_ hb; have V := V_; clear V_ I) | ((with_reducible refine gate_store (t := 44) (p := 11) rfl ?_); refine store_event (t := 44) (p := 11) (v := ?vo11_2) (w1 := ?w111_2) ?hg ?ho ?hn ?hr ?_; (case ho => rfl); (case hg => rfl); (case hn => rfl); (case hr => go_simp; rfl); intro w3 hw_; have hb := (show Below w2.heap.size w2 w3 by rw [hw_]; exact (Below.refl w2.heap.size w2).alloc (Nat.le_refl _) _); have I_ := Aside0.mk (show IsIt w3 w2.heap.size b0 b1 b2 (.slice Aa l3.length ca) b4 b5 (.slice Ab l6.length cb) by rw [hw_]; exact blk_new _ _); clear hw_; have hq0 := Aside0.mk (show w.heap.size ≤ w2.heap.size from BW.out.size); have hq1 := Aside0.mk (show w0.heap.size ≤ w2.heap.size from B.out.size); have n0_ := Aside0.mk (Kd.S_below S.out hb); have n1_ := Aside0.mk (below_then B.out B.out.size hb); have n2_ := Aside0.mk (Kd.R_below V.out hb); clear S B V; have S := n0_; have B := n1_; have V := n2_; clear n0_ n1_ n2_ hb; have I := I_; clear I_; have z5 := IsIt.x5 I.out; have z6 := IsIt.x6 I.out; have f5 := IsIt.fz I.out 5; have f6 := IsIt.fz I.out 6) | ((with_reducible refine gate_store (t := 23) (p := 18) rfl ?_); refine store_event (t := 23) (p := 18) (v := ?vo18_2) (w1 := ?w118_2) ?hg ?ho ?hn ?hr ?_; (case ho => rfl); (case hg => rfl); (case hn => rfl); (case hr => go_simp; rfl); intro w4 hw_; clear z5 z6 f5 f6; have nS_ := Aside0.mk (show Kd.S k44 44 w4 w0.heap.size (fun k => k < w.heap.size) (.slice A l.length c) l by rw [hw_]; exact Kd.S_far (p := ⟨w2.heap.size, 6, none⟩) S.out (fun k hk => Nat.ne_of_lt (Nat.lt_of_lt_of_le hk hq0.out)) (.slice none 0 0)); have nV_ := Aside0.mk (show Kd.R k91 91 w4 w0.heap.size (fun k => w.heap.size ≤ k ∧ k < w2.heap.size) (.slice Aa l3.length ca) l3 by rw [hw_]; exact Kd.R_far (p := ⟨w2.heap.size, 6, none⟩) V.out (fun k hk => Nat.ne_of_lt hk.2) (.slice none 0 0)); have nB_ := Aside0.mk (show Below w0.heap.size w0 w4 by rw [hw_]; exact Below.setCell (p := ⟨w2.heap.size, 6, none⟩) B.out hq1.out (.slice none 0 0)); have nI_ := Aside0.mk (show IsIt w4 w2.heap.size b0 b1 b2 (.slice Aa l3.length ca) b4 b5 (.slice none 0 0) by rw [hw_]; exact IsIt.put6 I.out (.slice none 0 0)); clear S V B I hw_; have S := nS_; have V := nV_; have B := nB_; have I := nI_; clear nS_ nV_ nB_ nI_; have z5 := IsIt.x5 I.out; have f5 := IsIt.fz I.out 5) | ((with_reducible refine gate_store (t := 3) (p := 20) rfl ?_); refine store_event (t := 3) (p := 20) (v := ?vo20_2) (w1 := ?w120_2) ?hg ?ho ?hn ?hr ?_; (case ho => rfl); (case hg => rfl); (case hn => rfl); (case hr => go_simp; rfl); intro w5 hw_; clear z5 f5; have nS_ := Aside0.mk (show Kd.S k44 44 w5 w0.heap.size (fun k => k < w.heap.size) (.slice A l.length c) l by rw [hw_]; exact Kd.S_far (p := ⟨w2.heap.size, 5, none⟩) S.out (fun k hk => Nat.ne_of_lt (Nat.lt_of_lt_of_le hk hq0.out)) (.int .i64 up)); have nV_ := Aside0.mk (show Kd.R k91 91 w5 w0.heap.size (fun k => w.heap.size ≤ k ∧ k < w2.heap.size) (.slice Aa l3.length ca) l3 by rw [hw_]; exact Kd.R_far (p := ⟨w2.heap.size, 5, none⟩) V.out (fun k hk => Nat.ne_of_lt hk.2) (.int .i64 up)); have nB_ := Aside0.mk (show Below w0.heap.size w0 w5 by rw [hw_]; exact Below.setCell (p := ⟨w2.heap.size, 5, none⟩) B.out hq1.out (.int .i64 up)); have nI_ := Aside0.mk (show IsIt w5 w2.heap.size b0 b1 b2 (.slice Aa l3.length ca) b4 up (.slice none 0 0) by rw [hw_]; exact IsIt.put5 I.out up); clear S V B I hw_; have S := nS_; have V := nV_; have B := nB_; have I := nI_; clear nS_ nV_ nB_ nI_; have z0 := IsIt.x0 I.out; have z1 := IsIt.x1 I.out; have z2 := IsIt.x2 I.out; have z3 := IsIt.x3 I.out; have z4 := IsIt.x4 I.out; have z5 := IsIt.x5 I.out; have z6 := IsIt.x6 I.out) | ((with_reducible refine gate_builtin (b := .append) (xs := #[.tmp 21, .tmp 23]) rfl ?_); at_builtin; refine Kd.S_append k44 (w0 := w0) w0.heap.size rfl (.tmp 21) (.tmp 23) 28 44 (.agg #[(.int .i64 0), (.int .i64 0), (.string ⟨#[]⟩), (.slice none 0 0), (.string ⟨#[]⟩), (.int .i64 0), (.slice none 0 0)]) 104 rfl Try.underlying28 info44 rfl (by decide) (by omega) (.slice A l.length c) l (⟨b0, b1, b2, l3, b4, up, []⟩ : S44) [.int .i64 b0, .int .i64 b1, .string b2, .slice Aa l3.length ca, .string b4, .int .i64 up, .slice none 0 0] (fun _ => True) (fun k => w.heap.size ≤ k) rfl rfl (k44_mkM _ _ _ (⟨b0, b1, b2, l3, b4, up, []⟩ : S44) (Kd.R_mono V.out (fun k hk => hk.1)) (Kd.R_nil _ _ _ _ _)) (fun k hk => ⟨trivial, fun e => absurd ((Kd.S_R S.out).1 k e.symm) (Nat.not_lt.2 hk)⟩) (fun _ _ => trivial) (Kd.S_mono S.out (fun k hk => ⟨trivial, Nat.not_le.2 hk⟩)) B.out B.out.size (by have := HL.out; omega) ?_; intro v1 w6 hs hb _ _; clear z0 z1 z2 z3 z4 z5 z6; clear S V I B BW; have B := Aside0.mk hb; obtain ⟨g, cap, rfl, hgb2, hglt, _⟩ := Kd.S_form hs (by rw [List.length_append]; exact Nat.succ_pos _); rw [HLL.out, HN.out] at hs; rw [HLL.out, HN.out]; obtain ⟨oki, cc, hcl, hM, hcc, hoki, hH⟩ := Kd.S_lend hs z44 up h0 hn1; rw [HGD.out] at hM; obtain ⟨v3, v6_, rfl, h3, h6⟩ := k44_openM hM; obtain ⟨A6_, c6_, rfl⟩ := Kd.R_slice h6; have hx6 : w6.cell? ⟨g, up.toNat * 7 + 6, none⟩ = some (.slice A6_ X.f6.length c6_) := hcc 6 _ rfl; have HH := Aside0.mk hH; have H3 := Aside0.mk h3; have H6 := Aside0.mk h6; have GB := Aside0.mk hgb2; clear hs hb hgb2 hglt hcl hM hcc hoki hH h3 h6; obtain ⟨hcut1, hA1, _⟩ := print_take_of (P := Try.prog) (Value.int .i64) 0 23 3 .i64 Try.underlying23 hi_ hsz_ A6_ c6_ X.f6 ((X.f6.length : Int) : Int) hi0.out hi1.out (Kd.R_reads' H6.out).2.1; obtain ⟨A7, hcut2, hA2, _⟩ := print_drop_of (P := Try.prog) (Value.int .i64) 0 23 3 .i64 Try.underlying23 hi_ hsz_ A6_ c6_ X.f6 ((X.f6.length : Int) : Int) hi0.out hi1.out (Kd.R_reads' H6.out).2.1; rw [HF1.out] at hcut1 hA1; rw [HF2.out] at hcut2 hA2; have C1 := Aside0.mk (Kd.C_of_reads (h1 := fun _ => rfl) (hA1 _ (Kd.reads_of_C (Kd.R_reads' H6.out).2.2))); have C2 := Aside0.mk (Kd.C_of_reads (h1 := fun _ => rfl) (hA2 _ (Kd.reads_of_C (Kd.R_reads' H6.out).2.2))); clear hA1 hA2) | ((with_reducible refine gate_dst (N := 40) rfl ?_); refine Kd.R_lit (Kd.int .i64) (w0 := w6) w6.heap.size 3 ?hg (N := 40) ?hd (xs := ([] : List Int)) (inner := []) (ok := fun _ => True) (okp := fun _ => True) ?hr ?hp (fun _ hk => hk) trivial (Below.refl _ _) (Nat.le_refl _) (by simp) ?_; (case hd => rfl); (case hg => rfl); (case hr => first | (go_simp; done) | (go_simp; rfl)); (case hp => exact (Reps.none _ _)); intro u1 w7 ho hb _ _; have O := Aside0.mk ho; have BB := Aside0.mk hb; clear ho hb; clear hx6) | ((with_reducible refine gate_builtin (b := .append) (xs := #[.tmp 40, .tmp 43]) rfl ?_); at_builtin; refine Kd.R_append_rows (Kd.int .i64) (w0 := w6) w6.heap.size rfl (.tmp 40) (.tmp 43) 23 3 (.int .i64 0) 8 rfl Try.underlying23 info3 rfl (by decide) (by omega) u1 [] f1 _ _ _ (fun _ => True) (fun _ => False) rfl rfl O.out (Kd.C_below C1.out BB.out) (fun _ _ h => h) (fun _ h => h.elim) (fun _ _ => trivial) BB.out BB.out.size (by have := HF1L.out; simp only [List.length_nil]; omega) ?_; intro u2 w8 ho hb _ _; rw [List.nil_append] at ho; clear O BB; have O := Aside0.mk ho; have BB := Aside0.mk hb; clear ho hb) | ((with_reducible refine gate_builtin (b := .append) (xs := #[.tmp 45, .tmp 47]) rfl ?_); at_builtin; refine Kd.R_append (Kd.int .i64) (w0 := w6) (W := w8) w6.heap.size rfl (.tmp 45) (.tmp 47) 23 3 (.int .i64 0) 8 rfl Try.underlying23 info3 rfl (by decide) (by omega) u2 f1 (l.length : Int) [.int .i64 (l.length : Int)] (fun _ => True) (fun _ => False) rfl rfl rfl (fun _ h => h.elim) (fun _ _ => trivial) O.out BB.out BB.out.size (by have := HF1L.out; omega) ?_; intro u3 w9 ho hb _ _; rw [HF3.out] at ho; clear O BB; have O := Aside0.mk ho; have BB := Aside0.mk hb; clear ho hb) | ((with_reducible refine gate_builtin (b := .append) (xs := #[.tmp 51, .tmp 54]) rfl ?_); at_builtin; refine Kd.R_append_rows (Kd.int .i64) (w0 := w6) w6.heap.size rfl (.tmp 51) (.tmp 54) 23 3 (.int .i64 0) 8 rfl Try.underlying23 info3 rfl (by decide) (by omega) u3 f3 f2 _ _ _ (fun _ => True) (fun _ => False) rfl rfl O.out (Kd.C_below C2.out BB.out) (fun _ _ h => h) (fun _ h => h.elim) (fun _ _ => trivial) BB.out BB.out.size (by have := HF2L.out; have := HF3L.out; omega) ?_; intro u4 w10 ho hb _ _; rw [HF4.out] at ho; obtain ⟨A9, c9, rfl⟩ := Kd.R_slice ho; obtain ⟨hx9, hf9, hS9, hg10⟩ := hung_fin HH.out h0 hn1 H3.out H6.out (grown_any hb _) (Kd.R_lower (Kd.R_mono (Kd.R_bound ho) (fun k hk => .inr hk.2.1)) B.out.size); have HS9 := Aside0.mk hS9; have B9 := Aside0.mk (below_then B.out B.out.size hb); clear O BB ho hb hS9 hg10) | ((with_reducible refine gate_store (t := 23) (p := 57) rfl ?_); refine store_event (t := 23) (p := 57) (v := ?vo57_2) (w1 := ?w157_2) ?hg ?ho ?hn ?hr ?_; (case ho => rfl); (case hg => rfl); (case hn => rfl); (case hr => go_simp; rfl); intro w11 hw_; have HS10 := Aside0.mk (show Kd.S k44 44 w11 w0.heap.size (fun _ => True) (.slice (some ⟨g, 0, none⟩) n cap) (L.set up.toNat ⟨X.f0, X.f1, X.f2, X.f3, X.f4, X.f5, f4⟩) by rw [hw_]; exact HS9.out); have B10 := Aside0.mk (show Below w0.heap.size w0 w11 by rw [hw_]; exact Below.setCell (p := ⟨g, up.toNat * 7 + 6, none⟩) B9.out GB.out _); clear hx9 hf9 hw_))
   go_ret2
   rw [← HN0.out, HFI.out _ HAD.out]
   exact ⟨_, _, rfl, HS10.out, B10.out⟩
def spec_Add.f (k : Nat) (l : List S44) (up p : Int) (b0 b1 : Int) (b2 : ByteArray) (l3 : List S91) (b4 : ByteArray) (b5 : Int) (l6 : List Int) : Option (List S44 × Int) := (spec_TreeOk.f k l).bind fun t => (spec_l6Copy.f k l).bind fun cl => if l.length < 1353245080339 then (if t = true then (if 0 ≤ up ∧ up < (l.length : Int) then (if l.length = 3000 then some (cl, -1) else (if (0 ≤ up ∧ up < (cl.length : Int)) ∧ cl.length < 1000000 ∧ l3.length < 4398046511104 ∧ l6.length < 17592186044416 ∧ (rd_T44 cl up).f6.length < 1759218604441 then (spec_TreeOk.f k (hung cl up p ⟨b0, b1, b2, l3, b4, b5, l6⟩)).bind fun t2 => (if t2 = true then some (hung cl up p ⟨b0, b1, b2, l3, b4, b5, l6⟩, (cl.length : Int)) else some (cl, -1)) else none)) else some (cl, -1)) else some (cl, -1)) else none
set_option maxHeartbeats 16000000 in
set_option maxRecDepth 100000 in
theorem spec_Add.calls (k : Nat) (A : Option Addr) (c : Nat) (l : List S44) (up p : Int) (b0 b1 : Int) (b2 : ByteArray) (A3 : Option Addr) (c3 : Nat) (l3 : List S91) (b4 : ByteArray) (b5 : Int) (A6 : Option Addr) (c6 : Nat) (l6 : List Int) (r1 : List S44) (r2 : Int) (w : World) (hr0 : Kd.C k44 w A l.length l) (hc0 : l.length ≤ c) (hr3 : Kd.C k91 w A3 l3.length l3) (hc3 : l3.length ≤ c3) (hr6 : Kd.C (Kd.int .i64) w A6 l6.length l6) (hc6 : l6.length ≤ c6) (h : spec_Add.f k l up p b0 b1 b2 l3 b4 b5 l6 = some (r1, r2)) :
  Calls Try.prog 17 #[.slice A l.length c, .int .i64 up, .int .i64 p, .agg #[.int .i64 b0, .int .i64 b1, .string b2, .slice A3 l3.length c3, .string b4, .int .i64 b5, .slice A6 l6.length c6]] w fun e w' => ∃ v : Value, e = .returned (.tuple #[v, .int .i64 r2]) ∧ Kd.S k44 44 w' w.heap.size (fun _ => True) v r1 ∧ Below w.heap.size w w' := by
 unfold spec_Add.f at h
 have hu1 := Try.underlying44
 have B := Aside0.mk (Below.refl w.heap.size w)
 obtain ⟨b, hto, h⟩ := Option.bind_eq_some_iff.mp h
 obtain ⟨cl, hcp, h⟩ := Option.bind_eq_some_iff.mp h
 have HTO := Aside0.mk hto
 have HCP := Aside0.mk hcp
 have R0 := Aside0.mk hr0
 have HR0 := Aside0.mk hr0
 have HC0 := Aside0.mk hc0
 have R3 := Aside0.mk hr3
 have HC3 := Aside0.mk hc3
 have R6 := Aside0.mk hr6
 have HC6 := Aside0.mk hc6
 clear hto hcp hr0 hc0 hr3 hc3 hr6 hc6
 by_cases c0 : l.length < 1353245080339
 rotate_left
 ·rw [if_neg c0] at h; exact absurd h (by simp)
 rw [if_pos c0] at h
 have HLL := Aside0.mk c0
 clear c0
 cases b with
 | false =>
  rw [if_neg (by decide)] at h
  obtain ⟨rfl, rfl⟩ := Prod.mk.inj (Option.some.inj h)
  clear h
  go_enter Try.func17, Try.ntmps17
  go_wp2_with (first | ((with_reducible refine gate_dst (N := 7) rfl ?_); refine box_event ?hg (N := 7) ?hd (cs := #[.int .i64 b0, .int .i64 b1, .string b2, .slice A3 l3.length c3, .string b4, .int .i64 b5, .slice A6 l6.length c6]) (t := 44) ?hr ?_; (case hd => rfl); (case hg => rfl); (case hr => first | (go_simp; done) | (go_simp; rfl)); intro gp hg_ w1 hbox hb; have I := Aside0.mk (show IsIt w1 gp b0 b1 b2 (.slice A3 l3.length c3) b4 b5 (.slice A6 l6.length c6) from hbox); clear hbox hg_; have n0_ := Aside0.mk (Kd.C_below R0.out hb); have n1_ := Aside0.mk (below_then B.out B.out.size hb); clear R0 B; have R0 := n0_; have B := n1_; clear n0_ n1_ hb) | (go_at_call 26; refine (spec_TreeOk.calls k A c l _ _ R0.out HC0.out HTO.out).mono ?_; rintro e w2 ⟨rfl, hb⟩; have n0_ := Aside0.mk (Kd.C_below R0.out hb); have n1_ := Aside0.mk (below_then B.out B.out.size hb); have n2_ := Aside0.mk (IsIt.below I.out hb); clear R0 B I; have R0 := n0_; have B := n1_; have I := n2_; clear n0_ n1_ n2_ hb) | (go_at_call 50; refine (spec_l6Copy.calls k A c l _ _ R0.out HC0.out HCP.out).mono ?_; rintro e w9 ⟨vs, rfl, hs_, hb⟩; have S9 := Aside0.mk (Kd.S_lower hs_ B.out.size); clear hs_; have n0_ := Aside0.mk (Kd.C_below R0.out hb); have n1_ := Aside0.mk (below_then B.out B.out.size hb); have n2_ := Aside0.mk (IsIt.below I.out hb); clear R0 B I; have R0 := n0_; have B := n1_; have I := n2_; clear n0_ n1_ n2_ hb))
  go_ret2
  exact ⟨_, rfl, S9.out, B.out⟩
 | true =>
  rw [if_pos rfl] at h
  have HIR := Aside0.mk (l1In_len up l.length (by have := HLL.out; omega))
  by_cases cu : 0 ≤ up ∧ up < (l.length : Int)
  rotate_left
  ·rw [if_neg cu] at h
   rw [decide_eq_false cu] at HIR
   obtain ⟨rfl, rfl⟩ := Prod.mk.inj (Option.some.inj h)
   clear h cu
   go_enter Try.func17, Try.ntmps17
   go_wp2_with (first | ((with_reducible refine gate_dst (N := 7) rfl ?_); refine box_event ?hg (N := 7) ?hd (cs := #[.int .i64 b0, .int .i64 b1, .string b2, .slice A3 l3.length c3, .string b4, .int .i64 b5, .slice A6 l6.length c6]) (t := 44) ?hr ?_; (case hd => rfl); (case hg => rfl); (case hr => first | (go_simp; done) | (go_simp; rfl)); intro gp hg_ w1 hbox hb; have I := Aside0.mk (show IsIt w1 gp b0 b1 b2 (.slice A3 l3.length c3) b4 b5 (.slice A6 l6.length c6) from hbox); clear hbox hg_; have n0_ := Aside0.mk (Kd.C_below R0.out hb); have n1_ := Aside0.mk (below_then B.out B.out.size hb); clear R0 B; have R0 := n0_; have B := n1_; clear n0_ n1_ hb) | (go_at_call 26; refine (spec_TreeOk.calls k A c l _ _ R0.out HC0.out HTO.out).mono ?_; rintro e w2 ⟨rfl, hb⟩; have n0_ := Aside0.mk (Kd.C_below R0.out hb); have n1_ := Aside0.mk (below_then B.out B.out.size hb); have n2_ := Aside0.mk (IsIt.below I.out hb); clear R0 B I; have R0 := n0_; have B := n1_; have I := n2_; clear n0_ n1_ n2_ hb) | (go_at_call 49; refine (spec_l1In.calls up 0 (wrap64 ((l.length : Int) - 1)) _ _ HIR.out).mono ?_; rintro e w3 ⟨rfl, hd_⟩; have hb := drawn_below hd_; clear hd_; have n0_ := Aside0.mk (Kd.C_below R0.out hb); have n1_ := Aside0.mk (below_then B.out B.out.size hb); have n2_ := Aside0.mk (IsIt.below I.out hb); clear R0 B I; have R0 := n0_; have B := n1_; have I := n2_; clear n0_ n1_ n2_ hb) | (go_at_call 50; refine (spec_l6Copy.calls k A c l _ _ R0.out HC0.out HCP.out).mono ?_; rintro e w9 ⟨vs, rfl, hs_, hb⟩; have S9 := Aside0.mk (Kd.S_lower hs_ B.out.size); clear hs_; have n0_ := Aside0.mk (Kd.C_below R0.out hb); have n1_ := Aside0.mk (below_then B.out B.out.size hb); have n2_ := Aside0.mk (IsIt.below I.out hb); clear R0 B I; have R0 := n0_; have B := n1_; have I := n2_; clear n0_ n1_ n2_ hb))
   go_ret2
   exact ⟨_, rfl, S9.out, B.out⟩
  rw [if_pos cu] at h
  rw [decide_eq_true cu] at HIR
  clear cu
  by_cases cl3 : l.length = 3000
  ·rw [if_pos cl3] at h
   obtain ⟨rfl, rfl⟩ := Prod.mk.inj (Option.some.inj h)
   have d0 : ((l.length : Int) == 3000) = true := beq_iff_eq.mpr (by omega)
   have d1 : (l.length == 3000) = true := beq_iff_eq.mpr cl3
   clear h cl3
   go_enter Try.func17, Try.ntmps17
   go_wp2_with (first | ((with_reducible refine gate_dst (N := 7) rfl ?_); refine box_event ?hg (N := 7) ?hd (cs := #[.int .i64 b0, .int .i64 b1, .string b2, .slice A3 l3.length c3, .string b4, .int .i64 b5, .slice A6 l6.length c6]) (t := 44) ?hr ?_; (case hd => rfl); (case hg => rfl); (case hr => first | (go_simp; done) | (go_simp; rfl)); intro gp hg_ w1 hbox hb; have I := Aside0.mk (show IsIt w1 gp b0 b1 b2 (.slice A3 l3.length c3) b4 b5 (.slice A6 l6.length c6) from hbox); clear hbox hg_; have n0_ := Aside0.mk (Kd.C_below R0.out hb); have n1_ := Aside0.mk (below_then B.out B.out.size hb); clear R0 B; have R0 := n0_; have B := n1_; clear n0_ n1_ hb) | (go_at_call 26; refine (spec_TreeOk.calls k A c l _ _ R0.out HC0.out HTO.out).mono ?_; rintro e w2 ⟨rfl, hb⟩; have n0_ := Aside0.mk (Kd.C_below R0.out hb); have n1_ := Aside0.mk (below_then B.out B.out.size hb); have n2_ := Aside0.mk (IsIt.below I.out hb); clear R0 B I; have R0 := n0_; have B := n1_; have I := n2_; clear n0_ n1_ n2_ hb) | (go_at_call 49; refine (spec_l1In.calls up 0 (wrap64 ((l.length : Int) - 1)) _ _ HIR.out).mono ?_; rintro e w3 ⟨rfl, hd_⟩; have hb := drawn_below hd_; clear hd_; have n0_ := Aside0.mk (Kd.C_below R0.out hb); have n1_ := Aside0.mk (below_then B.out B.out.size hb); have n2_ := Aside0.mk (IsIt.below I.out hb); clear R0 B I; have R0 := n0_; have B := n1_; have I := n2_; clear n0_ n1_ n2_ hb) | (go_at_call 50; refine (spec_l6Copy.calls k A c l _ _ R0.out HC0.out HCP.out).mono ?_; rintro e w9 ⟨vs, rfl, hs_, hb⟩; have S9 := Aside0.mk (Kd.S_lower hs_ B.out.size); clear hs_; have n0_ := Aside0.mk (Kd.C_below R0.out hb); have n1_ := Aside0.mk (below_then B.out B.out.size hb); have n2_ := Aside0.mk (IsIt.below I.out hb); clear R0 B I; have R0 := n0_; have B := n1_; have I := n2_; clear n0_ n1_ n2_ hb))
   go_ret2
   exact ⟨_, rfl, S9.out, B.out⟩
  rw [if_neg cl3] at h
  have d0 : ((l.length : Int) == 3000) = false := beq_eq_false_iff_ne.mpr (by omega)
  have d1 : (l.length == 3000) = false := beq_eq_false_iff_ne.mpr cl3
  clear cl3
  by_cases cb : (0 ≤ up ∧ up < (cl.length : Int)) ∧ cl.length < 1000000 ∧ l3.length < 4398046511104 ∧ l6.length < 17592186044416 ∧ (rd_T44 cl up).f6.length < 1759218604441
  rotate_left
  ·rw [if_neg cb] at h; exact absurd h (by simp)
  rw [if_pos cb] at h
  obtain ⟨⟨h0, h1⟩, hl_, hl3_, hl6_, hk_⟩ := cb
  have HL := Aside0.mk hl_
  have HL3 := Aside0.mk hl3_
  have HL6 := Aside0.mk hl6_
  have HK := Aside0.mk hk_
  obtain ⟨q, hq⟩ : ∃ q, hung cl up p (⟨b0, b1, b2, l3, b4, b5, l6⟩ : S44) = q := ⟨_, rfl⟩
  have hqn : cl.length + 1 = q.length := by rw [← hq]; unfold hung; rw [List.length_set, List.length_append]; rfl
  rw [hq] at h
  have HQ := Aside0.mk hq
  have HQN := Aside0.mk hqn
  obtain ⟨b, ht2, h⟩ := Option.bind_eq_some_iff.mp h
  have HT2 := Aside0.mk ht2
  clear hl_ hl3_ hl6_ hk_ ht2 hq hqn
  cases b with
  | false =>
   rw [if_neg (by decide)] at h
   obtain ⟨rfl, rfl⟩ := Prod.mk.inj (Option.some.inj h)
   clear h
   go_enter Try.func17, Try.ntmps17
   go_wp2_with (first | ((with_reducible refine gate_dst (N := 7) rfl ?_); refine box_event ?hg (N := 7) ?hd (cs := #[.int .i64 b0, .int .i64 b1, .string b2, .slice A3 l3.length c3, .string b4, .int .i64 b5, .slice A6 l6.length c6]) (t := 44) ?hr ?_; (case hd => rfl); (case hg => rfl); (case hr => first | (go_simp; done) | (go_simp; rfl)); intro gp hg_ w1 hbox hb; have I := Aside0.mk (show IsIt w1 gp b0 b1 b2 (.slice A3 l3.length c3) b4 b5 (.slice A6 l6.length c6) from hbox); clear hbox hg_; have n0_ := Aside0.mk (Kd.C_below R0.out hb); have n1_ := Aside0.mk (below_then B.out B.out.size hb); have n2_ := Aside0.mk (Kd.C_below R3.out hb); have n3_ := Aside0.mk (Kd.C_below R6.out hb); clear R0 B R3 R6; have R0 := n0_; have B := n1_; have R3 := n2_; have R6 := n3_; clear n0_ n1_ n2_ n3_ hb) | (go_at_call 26; refine (spec_TreeOk.calls k A c l _ _ R0.out HC0.out HTO.out).mono ?_; rintro e w2 ⟨rfl, hb⟩; have n0_ := Aside0.mk (Kd.C_below R0.out hb); have n1_ := Aside0.mk (below_then B.out B.out.size hb); have n2_ := Aside0.mk (Kd.C_below R3.out hb); have n3_ := Aside0.mk (Kd.C_below R6.out hb); have n4_ := Aside0.mk (IsIt.below I.out hb); clear R0 B R3 R6 I; have R0 := n0_; have B := n1_; have R3 := n2_; have R6 := n3_; have I := n4_; clear n0_ n1_ n2_ n3_ n4_ hb) | (go_at_call 49; refine (spec_l1In.calls up 0 (wrap64 ((l.length : Int) - 1)) _ _ HIR.out).mono ?_; rintro e w3 ⟨rfl, hd_⟩; have hb := drawn_below hd_; clear hd_; have n0_ := Aside0.mk (Kd.C_below R0.out hb); have n1_ := Aside0.mk (below_then B.out B.out.size hb); have n2_ := Aside0.mk (Kd.C_below R3.out hb); have n3_ := Aside0.mk (Kd.C_below R6.out hb); have n4_ := Aside0.mk (IsIt.below I.out hb); clear R0 B R3 R6 I; have R0 := n0_; have B := n1_; have R3 := n2_; have R6 := n3_; have I := n4_; clear n0_ n1_ n2_ n3_ n4_ hb))
   have hb := b1_ (Below.refl w3.heap.size w3)
   have n0_ := Aside0.mk (Kd.C_below R0.out hb)
   have n1_ := Aside0.mk (below_then B.out B.out.size hb)
   have n2_ := Aside0.mk (Kd.C_below R3.out hb)
   have n3_ := Aside0.mk (Kd.C_below R6.out hb)
   have n4_ := Aside0.mk (IsIt.below I.out hb)
   clear R0 B R3 R6 I
   have R0 := n0_
   have B := n1_
   have R3 := n2_
   have R6 := n3_
   have I := n4_
   clear n0_ n1_ n2_ n3_ n4_ hb
   refine start_ (n := 11) (S := fun w' => w'.cell? ⟨gp, 0, none⟩ = some (.int .i64 b0) ∧ w'.cell? ⟨gp, 1, none⟩ = some (.int .i64 b1) ∧ w'.cell? ⟨gp, 2, none⟩ = some (.string b2) ∧ w'.cell? ⟨gp, 3, none⟩ = some (.slice A3 l3.length c3) ∧ w'.cell? ⟨gp, 4, none⟩ = some (.string b4) ∧ w'.cell? ⟨gp, 5, none⟩ = some (.int .i64 b5) ∧ w'.cell? ⟨gp, 6, none⟩ = some (.slice A6 l6.length c6)) (ds := [5]) q9_0 (by kernel_rfl) rfl rfl ⟨IsIt.x0 I.out, IsIt.x1 I.out, IsIt.x2 I.out, IsIt.x3 I.out, IsIt.x4 I.out, IsIt.x5 I.out, IsIt.x6 I.out⟩ (fun hHeld => ?_)
   generalize w3.drew = w4 at R0 B R3 R6 I hHeld ⊢
   refine pure_ (i := 0) (N := some 31) (v := ?_) (a' := ?_) q9_1 rfl rfl (by kernel_rfl) (fun _ _ _ h => h) (Or.inl ⟨by rfl, ?_⟩) ?_ ?_
   rotate_left;(intro w';go_simp;with_reducible rfl);rotate_left;(simp only [Act.put, sa_, sz_, ss_, i64_w, i32_w];rfl)
   refine pure_ (i := 2) (N := some 33) (v := ?_) (a' := ?_) q9_2 rfl rfl (by kernel_rfl) (fun _ _ _ h => h) (Or.inl ⟨by rfl, ?_⟩) ?_ ?_
   rotate_left;(intro w';go_simp;with_reducible rfl);rotate_left;(simp only [Act.put, sa_, sz_, ss_, i64_w, i32_w];rfl)
   refine pure_ (i := 3) (N := some 34) (v := ?_) (a' := ?_) q9_3 rfl rfl (by kernel_rfl) (fun _ _ _ h => h) (Or.inl ⟨by rfl, ?_⟩) ?_ ?_
   rotate_left;(intro w';go_simp;with_reducible rfl);rotate_left;(simp only [Act.put, sa_, sz_, ss_, i64_w, i32_w];rfl)
   refine take_ (i := 4) (N := some 35) (v := ?_) (a' := ?_) q9_4 rfl rfl (by kernel_rfl) (fun _ _ _ h => h) (Or.inl ⟨by rfl, ?_⟩) hHeld ?_ ?_
   rotate_left;(rintro w' ⟨s0_, s1_, s2_, s3_, s4_, s5_, s6_⟩;go_simp;with_reducible rfl);rotate_left;(simp only [Act.put, sa_, sz_, ss_, i64_w, i32_w];rfl)
   refine one_ (i := 1) (N := some 32) q9_5 rfl rfl (by kernel_rfl) (by decide) (fun K hK => ?_)
   refine goes_ Try.func50 (by kernel_rfl) rfl #[.slice A l.length c] (by rfl) rfl rfl (by (try simp only [List.map_toArray, List.map_cons, List.map_nil]); first | done | rfl | (simp only [List.length_drop, List.length_take]; rfl)) ?_
   refine (spec_l6Copy.calls k A c l _ _ R0.out HC0.out HCP.out).mono ?_
   rintro e w5 ⟨vs, rfl, hs_, hb⟩
   refine ⟨_, rfl, ?_⟩
   obtain ⟨As, cs_, rfl⟩ := Kd.S_slice hs_
   have S_ := Aside0.mk (Kd.S_lower hs_ B.out.size)
   clear hs_
   have n0_ := Aside0.mk (Kd.C_below R0.out hb)
   have n1_ := Aside0.mk (below_then B.out B.out.size hb)
   have n2_ := Aside0.mk (Kd.C_below R3.out hb)
   have n3_ := Aside0.mk (Kd.C_below R6.out hb)
   have n4_ := Aside0.mk (IsIt.below I.out hb)
   clear R0 B R3 R6 I
   have R0 := n0_
   have B := n1_
   have R3 := n2_
   have R6 := n3_
   have I := n4_
   clear n0_ n1_ n2_ n3_ n4_ hb
   have S := S_
   clear S_
   refine hK.out _ _ ⟨IsIt.x0 I.out, IsIt.x1 I.out, IsIt.x2 I.out, IsIt.x3 I.out, IsIt.x4 I.out, IsIt.x5 I.out, IsIt.x6 I.out⟩ (fun hHeld => ?_)
   clear hK K
   refine norm_ (a' := ?_) ?_ ?_
   rotate_left
   ·show Act.put _ (some 32) _ = _
    simp only [Act.put, sa_, sz_, ss_, i64_w, i32_w]
    rfl
   refine last_ (i := 5) (N := some 36) q9_6 rfl rfl (by kernel_rfl) (by decide) (fun K hK => ?_)
   refine goes_ Try.func51 (by kernel_rfl) rfl #[.slice As cl.length cs_, .int .i64 up, .int .i64 p, .agg #[.int .i64 b0, .int .i64 b1, .string b2, .slice A3 l3.length c3, .string b4, .int .i64 b5, .slice A6 l6.length c6]] (by rfl) rfl rfl (by (try simp only [List.map_toArray, List.map_cons, List.map_nil]); first | done | rfl | (simp only [List.length_drop, List.length_take]; rfl)) ?_
   refine (l6add_calls As cs_ cl up p b0 b1 b2 A3 c3 l3 b4 b5 A6 c6 l6 w _ B.out S.out R3.out HC3.out R6.out HC6.out h0 h1 HL.out HL3.out HL6.out HK.out).mono ?_
   rintro e w6 ⟨A9, c9, rfl, hs9, hb9⟩
   rw [HQN.out]
   refine ⟨_, rfl, ?_⟩
   rw [HQ.out, HQN.out] at hs9
   have S9 := Aside0.mk hs9
   have B9 := Aside0.mk hb9
   clear hs9 hb9 hHeld R0 R3 R6 B I S
   refine hK.out _ _ ?_
   clear hK K
   refine norm_ (a' := ?_) ?_ ?_
   rotate_left
   ·show Act.put _ (some 36) _ = _
    simp only [Act.put, sa_, sz_, ss_, i64_w, i32_w]
    rfl
   refine pure_ (i := 6) (N := some 30) (v := ?_) (a' := ?_) q9_7 rfl rfl (by kernel_rfl) (fun _ _ _ h => h) (Or.inl ⟨by rfl, ?_⟩) ?_ ?_
   rotate_left;(intro w';go_simp;with_reducible rfl);rotate_left;(simp only [Act.put, sa_, sz_, ss_, i64_w, i32_w];rfl)
   refine pure_ (i := 7) (N := some 37) (v := ?_) (a' := ?_) q9_8 rfl rfl (by kernel_rfl) (fun _ _ _ h => h) (Or.inl ⟨by rfl, ?_⟩) ?_ ?_
   rotate_left;(intro w';go_simp;with_reducible rfl);rotate_left;(simp only [Act.put, sa_, sz_, ss_, i64_w, i32_w];rfl)
   refine pure_ (i := 8) (N := some 38) (v := ?_) (a' := ?_) q9_9 rfl rfl (by kernel_rfl) (fun _ _ _ h => h) (Or.inl ⟨by rfl, ?_⟩) ?_ ?_
   rotate_left;(intro w';go_simp;with_reducible rfl);rotate_left;(simp only [Act.put, sa_, sz_, ss_, i64_w, i32_w];rfl)
   refine pure_ (i := 9) (N := some 10) (v := ?_) (a' := ?_) q9_10 rfl rfl (by kernel_rfl) (fun _ _ _ h => h) (Or.inl ⟨by rfl, ?_⟩) ?_ ?_
   rotate_left;(intro w';go_simp;with_reducible rfl);rotate_left;(simp only [Act.put, sa_, sz_, ss_, i64_w, i32_w];rfl)
   refine pure_ (i := 10) (N := some 11) (v := ?_) (a' := ?_) q9_11 rfl rfl (by kernel_rfl) (fun _ _ _ h => h) (Or.inl ⟨by rfl, ?_⟩) ?_ ?_
   rotate_left;(intro w';go_simp;with_reducible rfl);rotate_left;(simp only [Act.put, sa_, sz_, ss_, i64_w, i32_w];rfl)
   refine done_ (by kernel_rfl) ?_
   go_wp2_with (first | (go_at_call 26; refine (spec_TreeOk.calls k A9 c9 q _ _ (Kd.S_reads' S9.out).2.2 (Kd.S_reads' S9.out).2.1 HT2.out).mono ?_; rintro e w7 ⟨rfl, hb⟩; have n0_ := Aside0.mk (Kd.S_below S9.out hb); have n1_ := Aside0.mk (below_then B9.out B9.out.size hb); clear S9 B9 hb; have S9 := n0_; have B9 := n1_; clear n0_ n1_) | (go_at_call 50; refine (spec_l6Copy.calls k A c l _ _ (Kd.C_below HR0.out B9.out) HC0.out HCP.out).mono ?_; rintro e w8 ⟨vs, rfl, hs_, hb⟩; have S10 := Aside0.mk (Kd.S_lower hs_ B9.out.size); have B10 := Aside0.mk (below_then B9.out B9.out.size hb); clear hs_ hb))
   go_ret2
   exact ⟨_, rfl, S10.out, B10.out⟩
  | true =>
   rw [if_pos rfl] at h
   obtain ⟨rfl, rfl⟩ := Prod.mk.inj (Option.some.inj h)
   clear h
   go_enter Try.func17, Try.ntmps17
   go_wp2_with (first | ((with_reducible refine gate_dst (N := 7) rfl ?_); refine box_event ?hg (N := 7) ?hd (cs := #[.int .i64 b0, .int .i64 b1, .string b2, .slice A3 l3.length c3, .string b4, .int .i64 b5, .slice A6 l6.length c6]) (t := 44) ?hr ?_; (case hd => rfl); (case hg => rfl); (case hr => first | (go_simp; done) | (go_simp; rfl)); intro gp hg_ w1 hbox hb; have I := Aside0.mk (show IsIt w1 gp b0 b1 b2 (.slice A3 l3.length c3) b4 b5 (.slice A6 l6.length c6) from hbox); clear hbox hg_; have n0_ := Aside0.mk (Kd.C_below R0.out hb); have n1_ := Aside0.mk (below_then B.out B.out.size hb); have n2_ := Aside0.mk (Kd.C_below R3.out hb); have n3_ := Aside0.mk (Kd.C_below R6.out hb); clear R0 B R3 R6; have R0 := n0_; have B := n1_; have R3 := n2_; have R6 := n3_; clear n0_ n1_ n2_ n3_ hb) | (go_at_call 26; refine (spec_TreeOk.calls k A c l _ _ R0.out HC0.out HTO.out).mono ?_; rintro e w2 ⟨rfl, hb⟩; have n0_ := Aside0.mk (Kd.C_below R0.out hb); have n1_ := Aside0.mk (below_then B.out B.out.size hb); have n2_ := Aside0.mk (Kd.C_below R3.out hb); have n3_ := Aside0.mk (Kd.C_below R6.out hb); have n4_ := Aside0.mk (IsIt.below I.out hb); clear R0 B R3 R6 I; have R0 := n0_; have B := n1_; have R3 := n2_; have R6 := n3_; have I := n4_; clear n0_ n1_ n2_ n3_ n4_ hb) | (go_at_call 49; refine (spec_l1In.calls up 0 (wrap64 ((l.length : Int) - 1)) _ _ HIR.out).mono ?_; rintro e w3 ⟨rfl, hd_⟩; have hb := drawn_below hd_; clear hd_; have n0_ := Aside0.mk (Kd.C_below R0.out hb); have n1_ := Aside0.mk (below_then B.out B.out.size hb); have n2_ := Aside0.mk (Kd.C_below R3.out hb); have n3_ := Aside0.mk (Kd.C_below R6.out hb); have n4_ := Aside0.mk (IsIt.below I.out hb); clear R0 B R3 R6 I; have R0 := n0_; have B := n1_; have R3 := n2_; have R6 := n3_; have I := n4_; clear n0_ n1_ n2_ n3_ n4_ hb))
   have hb := b1_ (Below.refl w3.heap.size w3)
   have n0_ := Aside0.mk (Kd.C_below R0.out hb)
   have n1_ := Aside0.mk (below_then B.out B.out.size hb)
   have n2_ := Aside0.mk (Kd.C_below R3.out hb)
   have n3_ := Aside0.mk (Kd.C_below R6.out hb)
   have n4_ := Aside0.mk (IsIt.below I.out hb)
   clear R0 B R3 R6 I
   have R0 := n0_
   have B := n1_
   have R3 := n2_
   have R6 := n3_
   have I := n4_
   clear n0_ n1_ n2_ n3_ n4_ hb
   refine start_ (n := 11) (S := fun w' => w'.cell? ⟨gp, 0, none⟩ = some (.int .i64 b0) ∧ w'.cell? ⟨gp, 1, none⟩ = some (.int .i64 b1) ∧ w'.cell? ⟨gp, 2, none⟩ = some (.string b2) ∧ w'.cell? ⟨gp, 3, none⟩ = some (.slice A3 l3.length c3) ∧ w'.cell? ⟨gp, 4, none⟩ = some (.string b4) ∧ w'.cell? ⟨gp, 5, none⟩ = some (.int .i64 b5) ∧ w'.cell? ⟨gp, 6, none⟩ = some (.slice A6 l6.length c6)) (ds := [5]) q9_0 (by kernel_rfl) rfl rfl ⟨IsIt.x0 I.out, IsIt.x1 I.out, IsIt.x2 I.out, IsIt.x3 I.out, IsIt.x4 I.out, IsIt.x5 I.out, IsIt.x6 I.out⟩ (fun hHeld => ?_)
   generalize w3.drew = w4 at R0 B R3 R6 I hHeld ⊢
   refine pure_ (i := 0) (N := some 31) (v := ?_) (a' := ?_) q9_1 rfl rfl (by kernel_rfl) (fun _ _ _ h => h) (Or.inl ⟨by rfl, ?_⟩) ?_ ?_
   rotate_left;(intro w';go_simp;with_reducible rfl);rotate_left;(simp only [Act.put, sa_, sz_, ss_, i64_w, i32_w];rfl)
   refine pure_ (i := 2) (N := some 33) (v := ?_) (a' := ?_) q9_2 rfl rfl (by kernel_rfl) (fun _ _ _ h => h) (Or.inl ⟨by rfl, ?_⟩) ?_ ?_
   rotate_left;(intro w';go_simp;with_reducible rfl);rotate_left;(simp only [Act.put, sa_, sz_, ss_, i64_w, i32_w];rfl)
   refine pure_ (i := 3) (N := some 34) (v := ?_) (a' := ?_) q9_3 rfl rfl (by kernel_rfl) (fun _ _ _ h => h) (Or.inl ⟨by rfl, ?_⟩) ?_ ?_
   rotate_left;(intro w';go_simp;with_reducible rfl);rotate_left;(simp only [Act.put, sa_, sz_, ss_, i64_w, i32_w];rfl)
   refine take_ (i := 4) (N := some 35) (v := ?_) (a' := ?_) q9_4 rfl rfl (by kernel_rfl) (fun _ _ _ h => h) (Or.inl ⟨by rfl, ?_⟩) hHeld ?_ ?_
   rotate_left;(rintro w' ⟨s0_, s1_, s2_, s3_, s4_, s5_, s6_⟩;go_simp;with_reducible rfl);rotate_left;(simp only [Act.put, sa_, sz_, ss_, i64_w, i32_w];rfl)
   refine one_ (i := 1) (N := some 32) q9_5 rfl rfl (by kernel_rfl) (by decide) (fun K hK => ?_)
   refine goes_ Try.func50 (by kernel_rfl) rfl #[.slice A l.length c] (by rfl) rfl rfl (by (try simp only [List.map_toArray, List.map_cons, List.map_nil]); first | done | rfl | (simp only [List.length_drop, List.length_take]; rfl)) ?_
   refine (spec_l6Copy.calls k A c l _ _ R0.out HC0.out HCP.out).mono ?_
   rintro e w5 ⟨vs, rfl, hs_, hb⟩
   refine ⟨_, rfl, ?_⟩
   obtain ⟨As, cs_, rfl⟩ := Kd.S_slice hs_
   have S_ := Aside0.mk (Kd.S_lower hs_ B.out.size)
   clear hs_
   have n0_ := Aside0.mk (Kd.C_below R0.out hb)
   have n1_ := Aside0.mk (below_then B.out B.out.size hb)
   have n2_ := Aside0.mk (Kd.C_below R3.out hb)
   have n3_ := Aside0.mk (Kd.C_below R6.out hb)
   have n4_ := Aside0.mk (IsIt.below I.out hb)
   clear R0 B R3 R6 I
   have R0 := n0_
   have B := n1_
   have R3 := n2_
   have R6 := n3_
   have I := n4_
   clear n0_ n1_ n2_ n3_ n4_ hb
   have S := S_
   clear S_
   refine hK.out _ _ ⟨IsIt.x0 I.out, IsIt.x1 I.out, IsIt.x2 I.out, IsIt.x3 I.out, IsIt.x4 I.out, IsIt.x5 I.out, IsIt.x6 I.out⟩ (fun hHeld => ?_)
   clear hK K
   refine norm_ (a' := ?_) ?_ ?_
   rotate_left
   ·show Act.put _ (some 32) _ = _
    simp only [Act.put, sa_, sz_, ss_, i64_w, i32_w]
    rfl
   refine last_ (i := 5) (N := some 36) q9_6 rfl rfl (by kernel_rfl) (by decide) (fun K hK => ?_)
   refine goes_ Try.func51 (by kernel_rfl) rfl #[.slice As cl.length cs_, .int .i64 up, .int .i64 p, .agg #[.int .i64 b0, .int .i64 b1, .string b2, .slice A3 l3.length c3, .string b4, .int .i64 b5, .slice A6 l6.length c6]] (by rfl) rfl rfl (by (try simp only [List.map_toArray, List.map_cons, List.map_nil]); first | done | rfl | (simp only [List.length_drop, List.length_take]; rfl)) ?_
   refine (l6add_calls As cs_ cl up p b0 b1 b2 A3 c3 l3 b4 b5 A6 c6 l6 w _ B.out S.out R3.out HC3.out R6.out HC6.out h0 h1 HL.out HL3.out HL6.out HK.out).mono ?_
   rintro e w6 ⟨A9, c9, rfl, hs9, hb9⟩
   rw [HQN.out]
   refine ⟨_, rfl, ?_⟩
   rw [HQ.out, HQN.out] at hs9
   have S9 := Aside0.mk hs9
   have B9 := Aside0.mk hb9
   clear hs9 hb9 hHeld R0 R3 R6 B I S
   refine hK.out _ _ ?_
   clear hK K
   refine norm_ (a' := ?_) ?_ ?_
   rotate_left
   ·show Act.put _ (some 36) _ = _
    simp only [Act.put, sa_, sz_, ss_, i64_w, i32_w]
    rfl
   refine pure_ (i := 6) (N := some 30) (v := ?_) (a' := ?_) q9_7 rfl rfl (by kernel_rfl) (fun _ _ _ h => h) (Or.inl ⟨by rfl, ?_⟩) ?_ ?_
   rotate_left;(intro w';go_simp;with_reducible rfl);rotate_left;(simp only [Act.put, sa_, sz_, ss_, i64_w, i32_w];rfl)
   refine pure_ (i := 7) (N := some 37) (v := ?_) (a' := ?_) q9_8 rfl rfl (by kernel_rfl) (fun _ _ _ h => h) (Or.inl ⟨by rfl, ?_⟩) ?_ ?_
   rotate_left;(intro w';go_simp;with_reducible rfl);rotate_left;(simp only [Act.put, sa_, sz_, ss_, i64_w, i32_w];rfl)
   refine pure_ (i := 8) (N := some 38) (v := ?_) (a' := ?_) q9_9 rfl rfl (by kernel_rfl) (fun _ _ _ h => h) (Or.inl ⟨by rfl, ?_⟩) ?_ ?_
   rotate_left;(intro w';go_simp;with_reducible rfl);rotate_left;(simp only [Act.put, sa_, sz_, ss_, i64_w, i32_w];rfl)
   refine pure_ (i := 9) (N := some 10) (v := ?_) (a' := ?_) q9_10 rfl rfl (by kernel_rfl) (fun _ _ _ h => h) (Or.inl ⟨by rfl, ?_⟩) ?_ ?_
   rotate_left;(intro w';go_simp;with_reducible rfl);rotate_left;(simp only [Act.put, sa_, sz_, ss_, i64_w, i32_w];rfl)
   refine pure_ (i := 10) (N := some 11) (v := ?_) (a' := ?_) q9_11 rfl rfl (by kernel_rfl) (fun _ _ _ h => h) (Or.inl ⟨by rfl, ?_⟩) ?_ ?_
   rotate_left;(intro w';go_simp;with_reducible rfl);rotate_left;(simp only [Act.put, sa_, sz_, ss_, i64_w, i32_w];rfl)
   refine done_ (by kernel_rfl) ?_
   go_wp2_with (go_at_call 26; refine (spec_TreeOk.calls k A9 c9 q _ _ (Kd.S_reads' S9.out).2.2 (Kd.S_reads' S9.out).2.1 HT2.out).mono ?_; rintro e w7 ⟨rfl, hb⟩; have n0_ := Aside0.mk (Kd.S_below S9.out hb); have n1_ := Aside0.mk (below_then B9.out B9.out.size hb); clear S9 B9 hb; have S9 := n0_; have B9 := n1_; clear n0_ n1_)
   go_ret2
   exact ⟨_, rfl, S9.out, B9.out⟩
def laws_toIntS.l0 : Nat → List Int → List Int → Int → Option (List Int)
 | 0, _, _, _ => none
 | k + 1, x0, x3, x4 => if x4 < (x0.length : Int) then (if 0 ≤ x4 then (if x4 < (x3.length : Int) then (laws_toIntS.l0 k x0 (x3.set (x4 : Int).toNat (rd x0 x4)) (wrap64 (x4 + 1))) else (none)) else (none)) else (some x3)
def laws_toIntS.f (k : Nat) (l0 : List Int) : Option (List Int) := if 0 ≤ (l0.length : Int) then (if ((l0.length : Int) : Int).toNat ≤ 35184372088832 then (laws_toIntS.l0 k l0 (List.replicate ((l0.length : Int) : Int).toNat 0) 0) else (none)) else (none)
theorem laws_toIntS.mono_l : ∀ k, (∀ y0 y1 y2, LeO (laws_toIntS.l0 k y0 y1 y2) (laws_toIntS.l0 (k + 1) y0 y1 y2))
 | 0 => fun _ _ _ r h => by simp [laws_toIntS.l0] at h
 | k + 1 => by
  have ih0 := laws_toIntS.mono_l k
  ·intro y0 y1 y2
   unfold laws_toIntS.l0
   repeat' first
   | (with_reducible exact ih0 _ _ _)
   | (with_reducible exact LeO.refl _)
   | (with_reducible exact LeO.none _)
   | (with_reducible refine LeO.ite ?_ ?_)
   | (with_reducible refine LeO.bind ?_ (fun _ => ?_))
theorem laws_toIntS.mono : ∀ a0 k, LeO (laws_toIntS.f k a0) (laws_toIntS.f (k + 1) a0) := by
 intro a0 k
 have ih0 := laws_toIntS.mono_l k
 unfold laws_toIntS.f
 repeat' first
   | (with_reducible exact ih0 _ _ _)
   | (with_reducible exact LeO.refl _)
   | (with_reducible exact LeO.none _)
   | (with_reducible refine LeO.ite ?_ ?_)
   | (with_reducible refine LeO.bind ?_ (fun _ => ?_))
set_option maxHeartbeats 8000000 in
set_option maxRecDepth 100000 in
theorem laws_toIntS.calls (k : Nat) (A0 : Option Addr) (c0 : Nat) (l0 : List Int) (r : List Int) (w : World) (hr0 : Kd.C (Kd.int .i64) w A0 l0.length l0) (hc0 : l0.length ≤ c0) (h : laws_toIntS.f k l0 = some r) :
  Calls Try.prog 43 #[.slice A0 l0.length c0] w fun e w' => ∃ v0_ : Value, e = .returned (v0_) ∧ Kd.R (Kd.int .i64) 3 w' w.heap.size (fun _ => True) v0_ r ∧ Below w.heap.size w w' := by
 have HR0 := Aside0.mk hr0
 have HC0 := Aside0.mk hc0
 clear hr0 hc0
 have HB := Aside0.mk (Below.refl w.heap.size w)
 have H : (if 0 ≤ (l0.length : Int) then (if ((l0.length : Int) : Int).toNat ≤ 35184372088832 then (laws_toIntS.l0 k l0 (List.replicate ((l0.length : Int) : Int).toNat 0) 0) else (none)) else (none)) = some r := h
 clear h
 by_cases c2 : 0 ≤ (l0.length : Int)
 ·rw [if_pos c2] at H
  have c2b0 := eq_true c2
  have c2b1 : decide (0 ≤ (l0.length : Int)) = true := decide_eq_true c2
  clear c2
  by_cases c3 : ((l0.length : Int) : Int).toNat ≤ 35184372088832
  ·rw [if_pos c3] at H
   have c3b0 := eq_true c3
   have c3b1 : decide (((l0.length : Int) : Int).toNat ≤ 35184372088832) = true := decide_eq_true c3
   clear c3
   obtain ⟨y243, hy243⟩ : ∃ y_ : List Int, y_ = (List.replicate ((l0.length : Int) : Int).toNat 0) := ⟨_, rfl⟩
   replace H : (laws_toIntS.l0 k l0 y243 0) = some r := by first | (rw [hy243]; with_reducible exact H) | (have H2_ := (Option.bind_some _ _).symm.trans H; rw [hy243]; with_reducible exact H2_) | (have H2_ := (Option.bind_some _ _).symm.trans H; with_reducible exact H2_) | with_reducible exact H | (rw [hy243]; exact H) | exact H
   have Ny243 := Aside0.mk hy243
   clear hy243
   have H' := Aside0.mk H
   clear H
   go_enter Try.func43, Try.ntmps43
   go_wp2_with (first | ((with_reducible refine gate_dst (N := 7) rfl ?_); refine Kd.R_make (Kd.int .i64) _ 3 rfl (N := 7) rfl 23 _ _ rfl (l0.length : Int) rfl rfl Try.underlying23 (.int .i64 0) 8 info3 rfl (by decide) (by omega) 0 (ok := fun _ => True) (okp := fun _ => True) rfl (fun _ hk => hk) trivial (dq_ (by assumption)) (Nat.le_trans (Nat.mul_le_mul_right _ (dq_ (by assumption) : (l0.length : Int).toNat ≤ 35184372088832)) (by omega)) (Below.refl _ _) (Nat.le_refl _) ?_; intro v244 w4 ho5 hb hg_ hnew_; clear hg_ hnew_; (first | rw [← Ny243.out] at ho5 | (simp only [Int.reduceToNat] at ho5; rw [← Ny243.out] at ho5)); have n0_ := Aside0.mk (Kd.R_lower ho5 (below_size (by repeat (first | (with_reducible first | exact HB.out | apply ba_ | apply bn_ | apply b1_) | exact HB.out)))); have n1_ := Aside0.mk (below_step (by repeat (first | (with_reducible first | exact HB.out | apply ba_ | apply bn_ | apply b1_) | exact HB.out)) hb); clear HB; have HO245 := n0_; have HB := n1_; clear n0_ n1_; clear hb ho5))
   go_loopg [4] k (fun kq v4 w' => ∃ (x3_1 : List Int) (x4_1 : Int), v4 = .int .i64 x4_1 ∧ Aside0 (laws_toIntS.l0 kq l0 x3_1 x4_1 = some r) ∧ Aside0 (kq ≤ k) ∧ Aside0 (Kd.R (Kd.int .i64) 3 w' w.heap.size (fun _ => True) v244 x3_1) ∧ Aside0 (Below w.heap.size w w'))
   case atStart => exact ⟨(y243), (0), (by first | rfl | (simp; done) | (simp [*]; done)), H', ⟨Nat.le_refl _⟩, ⟨by (with_reducible repeat (first | apply Kd.R_alloc | apply Kd.R_drewN | apply Kd.R_drew)); exact HO245.out⟩, ⟨by repeat (first | (with_reducible first | exact HB.out | apply ba_ | apply bn_ | apply b1_) | exact HB.out)⟩⟩
   case round =>
    clear H'
    try clear c2
    try clear c2b0
    try clear c2b1
    try clear c3
    try clear c3b0
    try clear c3b1
    obtain ⟨x3_1, x4_1, rfl, HA, HK1, HO_3, HB⟩ := hrel
    cases gk with
    | zero => exact absurd HA.out (by simp [laws_toIntS.l0])
    | succ k1 =>
     have H := HA.out
     clear HA
     simp only [laws_toIntS.l0] at H
     by_cases c6 : x4_1 < (l0.length : Int)
     ·rw [if_pos c6] at H
      have c6b0 : decide (x4_1 < (l0.length : Int)) = true := decide_eq_true c6
      clear c6
      by_cases c7 : 0 ≤ x4_1
      ·rw [if_pos c7] at H
       have c7b0 : decide (0 ≤ x4_1) = true := decide_eq_true c7
       clear c7
       by_cases c8 : x4_1 < (x3_1.length : Int)
       ·rw [if_pos c8] at H
        have c8b0 : decide (x4_1 < (x3_1.length : Int)) = true := decide_eq_true c8
        clear c8
        obtain ⟨y247, hy247⟩ : ∃ y_ : List Int, y_ = (x3_1.set (x4_1 : Int).toNat (rd l0 x4_1)) := ⟨_, rfl⟩
        replace H : (laws_toIntS.l0 k1 l0 y247 (wrap64 (x4_1 + 1))) = some r := by first | (rw [hy247]; with_reducible exact H) | (have H2_ := (Option.bind_some _ _).symm.trans H; rw [hy247]; with_reducible exact H2_) | (have H2_ := (Option.bind_some _ _).symm.trans H; with_reducible exact H2_) | with_reducible exact H | (rw [hy247]; exact H) | exact H
        have Ny247 := Aside0.mk hy247
        clear hy247
        have H' := Aside0.mk H
        clear H
        have p246 : 0 ≤ (x4_1 : Int) := dq_ (by assumption)
        have q246 : x4_1 < (l0.length : Int) := dq_ (by assumption)
        obtain ⟨ad246, e246, hx246_0⟩ := Kd.at_int HR0.out x4_1 p246 q246
        cases e246
        replace hx246_0 := pw_cell_below HB.out hx246_0
        replace p246 := eq_true p246
        replace q246 := eq_true q246
        have p9 : 0 ≤ (x4_1 : Int) := dq_ (by assumption)
        have q9 : (x4_1 : Int) < ((x3_1.length : Int) : Int) := dq_ (by assumption)
        obtain ⟨go9, co9, eo9, gb9, gl9, cl9, HG9⟩ := Kd.R_form HO_3.out (by omega)
        (first | cases eo9 | (injection eo9 with ea_ en_ ec_; (first | subst ea_ | (injection ea_ with ea_; subst ea_)); subst ec_; clear en_))
        have GB9 := Aside0.mk gb9
        have GG9 := Aside0.mk HG9
        clear gb9 gl9 HG9
        obtain ⟨hx9_0, hf9_0⟩ := Kd.R_celln 0 HO_3.out (x4_1 : Int) p9 q9
        replace p9 := eq_true p9
        replace q9 := eq_true q9
        have HP10 := Kd.R_putg HO_3.out (x4_1 : Int) (rd l0 x4_1)
        go_wp2_with (first | ((with_reducible refine gate_store (t := 3) (p := 20) rfl ?_); refine store_event (t := 3) (p := 20) (v := ?vo_w11) (w1 := (wr.setCell ⟨go9, (x4_1 : Int).toNat, none⟩ (.int .i64 (rd l0 x4_1)))) ?hg ?ho ?hn ?hr ?_; (case ho => rfl); (case hg => rfl); (case hn => rfl); (case hr => first | (go_simp; done) | (go_simp; rfl)); intro w11 hw; have hg : wr.grownBy w11 (some go9) := (by rw [hw]; exact HP10.2); have hp_ : Kd.R (Kd.int .i64) 3 w11 w.heap.size (fun _ => True) (.slice (some ⟨go9, 0, none⟩) x3_1.length co9) y247 := (by rw [hw, Ny247.out]; exact HP10.1); clear HP10; have n0_ := Aside0.mk (hp_); have n1_ := Aside0.mk ((by rw [hw]; exact below_set (HB.out) GB9.out : Below w.heap.size w w11)); clear HO_3; clear HB; have HO_3 := n0_; have HB := n1_; clear n0_ n1_; clear hg hw hp_))
        go_roundg k1
        case measure => have := HK1.out; omega
        case rel => exact ⟨(y247), (wrap64 (x4_1 + 1)), (by first | rfl | (simp; done) | (simp [*]; done)), H', ⟨by have := HK1.out; omega⟩, ⟨by (with_reducible repeat (first | apply Kd.R_alloc | apply Kd.R_drewN | apply Kd.R_drew)); exact HO_3.out⟩, ⟨by repeat (first | (with_reducible first | exact HB.out | apply ba_ | apply bn_ | apply b1_) | exact HB.out)⟩⟩
       ·rw [if_neg c8] at H
        exact absurd H (by simp)
      ·rw [if_neg c7] at H
       exact absurd H (by simp)
     ·rw [if_neg c6] at H
      have c6b0 : decide (x4_1 < (l0.length : Int)) = false := decide_eq_false c6
      clear c6
      obtain rfl := Option.some.inj H
      go_wp2
      go_ret
      exact ⟨_, by first | rfl | (simp [errW_none, errW_some] <;> rfl) | (simp [*, errW_none, errW_some] <;> rfl), by (with_reducible repeat (first | apply Kd.R_alloc | apply Kd.R_drewN | apply Kd.R_drew)); exact HO_3.out, by repeat (first | (with_reducible first | exact HB.out | apply ba_ | apply bn_ | apply b1_) | exact HB.out)⟩
  ·rw [if_neg c3] at H
   exact absurd H (by simp)
 ·rw [if_neg c2] at H
  exact absurd H (by simp)
def laws_toAttr.f (a0_0 : ByteArray) (a0_1 : ByteArray) : Option (ByteArray × ByteArray) := some (a0_0, a0_1)
set_option maxHeartbeats 8000000 in
set_option maxRecDepth 100000 in
theorem laws_toAttr.calls (a0_0 : ByteArray) (a0_1 : ByteArray) (r1 : ByteArray) (r2 : ByteArray) (w : World) (h : laws_toAttr.f a0_0 a0_1 = some (r1, r2)) :
  Calls Try.prog 77 #[.agg #[.string a0_0, .string a0_1]] w fun e w' => e = .returned (.agg #[.string r1, .string r2]) ∧ Below w.heap.size w w' := by
 have hu89 := Try.underlying89
 have hu91 := Try.underlying91
 have HB := Aside0.mk (Below.refl w.heap.size w)
 have H : (some (a0_0, a0_1)) = some (r1, r2) := h
 clear h
 simp only [Option.some.injEq, Prod.mk.injEq] at H
 obtain ⟨rfl, rfl⟩ := H
 go_enter Try.func77, Try.ntmps77
 go_wp2_with (first | ((with_reducible refine gate_dst (N := 1) rfl ?_); refine box_event ?hg (N := 1) ?hd (cs := #[.string a0_0, .string a0_1]) (t := 89) ?hr ?_; (case hd => rfl); (case hg => rfl); (case hr => first | (go_simp; done) | (go_simp; rfl)); intro gb248 hg w2 hbox hb; have n0_ := Aside0.mk (below_step (by repeat (first | (with_reducible first | exact HB.out | apply ba_ | apply bn_ | apply b1_) | exact HB.out)) hb); have n1_ := Aside0.mk (hbox); have n2_ := Aside0.mk ((by rw [hg]; exact (below_size (by repeat (first | (with_reducible first | exact HB.out | apply ba_ | apply bn_ | apply b1_) | exact HB.out))) : w.heap.size ≤ gb248)); have n3_ := Aside0.mk ((by rw [hg]; exact (below_size (by repeat (first | (with_reducible first | exact HB.out | apply ba_ | apply bn_ | apply b1_) | exact HB.out))) : w.heap.size ≤ gb248)); clear HB; have HB := n0_; have BK248 := n1_; have GW248 := n2_; have GE248 := n3_; clear n0_ n1_ n2_ n3_; clear hb hbox hg) | ((with_reducible refine gate_dst (N := 2) rfl ?_); refine box_event ?hg (N := 2) ?hd (cs := #[.string (⟨#[]⟩ : ByteArray), .string (⟨#[]⟩ : ByteArray)]) (t := 91) ?hr ?_; (case hd => rfl); (case hg => rfl); (case hr => first | (go_simp; done) | (go_simp; rfl)); intro gb249 hg w3 hbox hb; have n0_ := Aside0.mk (blk_below (g := gb248) (o := .cells #[.string a0_0, .string a0_1] 89 (0, 0)) (by (with_reducible repeat (first | refine dn_ ?_ _ | refine dd_ ?_ | refine da_ ?_ _)); exact BK248.out) hb); have n1_ := Aside0.mk (below_step (by repeat (first | (with_reducible first | exact HB.out | apply ba_ | apply bn_ | apply b1_ | refine below_set ?_ GE248.out) | exact HB.out)) hb); have n2_ := Aside0.mk (hbox); have n3_ := Aside0.mk ((by rw [hg]; exact (below_size (by repeat (first | (with_reducible first | exact HB.out | apply ba_ | apply bn_ | apply b1_ | refine below_set ?_ GE248.out) | exact HB.out))) : w.heap.size ≤ gb249)); have n4_ := Aside0.mk ((by rw [hg]; exact (below_size (by repeat (first | (with_reducible first | exact HB.out | apply ba_ | apply bn_ | apply b1_ | refine below_set ?_ GE248.out) | exact HB.out))) : w.heap.size ≤ gb249)); have n5_ := Aside0.mk ((by rw [hg]; exact Nat.ne_of_lt (blk_lt (g := gb248) (o := .cells #[.string a0_0, .string a0_1] 89 (0, 0)) (by (with_reducible repeat (first | refine dn_ ?_ _ | refine dd_ ?_ | refine da_ ?_ _)); exact BK248.out)) : gb248 ≠ gb249)); have n6_ := Aside0.mk ((by rw [hg]; exact Nat.ne_of_gt (blk_lt (g := gb248) (o := .cells #[.string a0_0, .string a0_1] 89 (0, 0)) (by (with_reducible repeat (first | refine dn_ ?_ _ | refine dd_ ?_ | refine da_ ?_ _)); exact BK248.out)) : gb249 ≠ gb248)); clear BK248; clear HB; have BK248 := n0_; have HB := n1_; have BK249 := n2_; have GW249 := n3_; have GE249 := n4_; have NB248_249 := n5_; have NB249_248 := n6_; clear n0_ n1_ n2_ n3_ n4_ n5_ n6_; clear hb hbox hg) | ((with_reducible refine gate_dst (N := 3) rfl ?_); refine box_event ?hg (N := 3) ?hd (cs := #[.string (⟨#[]⟩ : ByteArray), .string (⟨#[]⟩ : ByteArray)]) (t := 91) ?hr ?_; (case hd => rfl); (case hg => rfl); (case hr => first | (go_simp; done) | (go_simp; rfl)); intro gb250 hg w4 hbox hb; have n0_ := Aside0.mk (blk_below (g := gb248) (o := .cells #[.string a0_0, .string a0_1] 89 (0, 0)) (by (with_reducible repeat (first | refine dn_ ?_ _ | refine dd_ ?_ | refine da_ ?_ _)); exact BK248.out) hb); have n1_ := Aside0.mk (blk_below (g := gb249) (o := .cells #[.string (⟨#[]⟩ : ByteArray), .string (⟨#[]⟩ : ByteArray)] 91 (0, 0)) (by (with_reducible repeat (first | refine dn_ ?_ _ | refine dd_ ?_ | refine da_ ?_ _)); exact BK249.out) hb); have n2_ := Aside0.mk (below_step (by repeat (first | (with_reducible first | exact HB.out | apply ba_ | apply bn_ | apply b1_ | refine below_set ?_ GE248.out | refine below_set ?_ GE249.out) | exact HB.out)) hb); have n3_ := Aside0.mk (hbox); have n4_ := Aside0.mk ((by rw [hg]; exact (below_size (by repeat (first | (with_reducible first | exact HB.out | apply ba_ | apply bn_ | apply b1_ | refine below_set ?_ GE248.out | refine below_set ?_ GE249.out) | exact HB.out))) : w.heap.size ≤ gb250)); have n5_ := Aside0.mk ((by rw [hg]; exact (below_size (by repeat (first | (with_reducible first | exact HB.out | apply ba_ | apply bn_ | apply b1_ | refine below_set ?_ GE248.out | refine below_set ?_ GE249.out) | exact HB.out))) : w.heap.size ≤ gb250)); have n6_ := Aside0.mk ((by rw [hg]; exact Nat.ne_of_lt (blk_lt (g := gb248) (o := .cells #[.string a0_0, .string a0_1] 89 (0, 0)) (by (with_reducible repeat (first | refine dn_ ?_ _ | refine dd_ ?_ | refine da_ ?_ _)); exact BK248.out)) : gb248 ≠ gb250)); have n7_ := Aside0.mk ((by rw [hg]; exact Nat.ne_of_gt (blk_lt (g := gb248) (o := .cells #[.string a0_0, .string a0_1] 89 (0, 0)) (by (with_reducible repeat (first | refine dn_ ?_ _ | refine dd_ ?_ | refine da_ ?_ _)); exact BK248.out)) : gb250 ≠ gb248)); have n8_ := Aside0.mk ((by rw [hg]; exact Nat.ne_of_lt (blk_lt (g := gb249) (o := .cells #[.string (⟨#[]⟩ : ByteArray), .string (⟨#[]⟩ : ByteArray)] 91 (0, 0)) (by (with_reducible repeat (first | refine dn_ ?_ _ | refine dd_ ?_ | refine da_ ?_ _)); exact BK249.out)) : gb249 ≠ gb250)); have n9_ := Aside0.mk ((by rw [hg]; exact Nat.ne_of_gt (blk_lt (g := gb249) (o := .cells #[.string (⟨#[]⟩ : ByteArray), .string (⟨#[]⟩ : ByteArray)] 91 (0, 0)) (by (with_reducible repeat (first | refine dn_ ?_ _ | refine dd_ ?_ | refine da_ ?_ _)); exact BK249.out)) : gb250 ≠ gb249)); clear BK248; clear BK249; clear HB; have BK248 := n0_; have BK249 := n1_; have HB := n2_; have BK250 := n3_; have GW250 := n4_; have GE250 := n5_; have NB248_250 := n6_; have NB250_248 := n7_; have NB249_250 := n8_; have NB250_249 := n9_; clear n0_ n1_ n2_ n3_ n4_ n5_ n6_ n7_ n8_ n9_; clear hb hbox hg; have hnb5 := NB248_249.out; have hnc5 := NB249_248.out; have hnb6 := NB248_250.out; have hnc6 := NB250_248.out; have hcz7_0 : w4.cell? ⟨gb248, 0, none⟩ = some (.string a0_0) := (bc_ BK248.out 0).trans rfl; have hcz7_1 : w4.cell? ⟨gb248, 1, none⟩ = some (.string a0_1) := (bc_ BK248.out 1).trans rfl; have hfz7_0 := blk_frozen BK248.out 0; have hfz7_1 := blk_frozen BK248.out 1; have hnb8 := NB250_249.out; have hnc8 := NB249_250.out; have hcz9_0 : w4.cell? ⟨gb250, 0, none⟩ = some (.string (⟨#[]⟩ : ByteArray)) := (bc_ BK250.out 0).trans rfl; have hcz9_1 : w4.cell? ⟨gb250, 1, none⟩ = some (.string (⟨#[]⟩ : ByteArray)) := (bc_ BK250.out 1).trans rfl; have hfz9_0 := blk_frozen BK250.out 0; have hfz9_1 := blk_frozen BK250.out 1; have hcz10_0 : w4.cell? ⟨gb249, 0, none⟩ = some (.string (⟨#[]⟩ : ByteArray)) := (bc_ BK249.out 0).trans rfl; have hcz10_1 : w4.cell? ⟨gb249, 1, none⟩ = some (.string (⟨#[]⟩ : ByteArray)) := (bc_ BK249.out 1).trans rfl; have hfz10_0 := blk_frozen BK249.out 0; have hfz10_1 := blk_frozen BK249.out 1))
 refine bodyPost_ret (results_cell_row rfl _ _ gb249 91 #[.string a0_0, .string a0_1] (0, 0) _ rfl (by (with_reducible repeat (first | refine dn_ ?_ _ | refine dd_ ?_ | refine da_ ?_ _)); refine blk_put (cs := #[.string a0_0, .string (⟨#[]⟩ : ByteArray)]) ?_ 1 _ rfl; (with_reducible repeat (first | refine dn_ ?_ _ | refine dd_ ?_ | refine da_ ?_ _)); refine blk_put (cs := #[.string (⟨#[]⟩ : ByteArray), .string (⟨#[]⟩ : ByteArray)]) ?_ 0 _ rfl; (with_reducible repeat (first | refine dn_ ?_ _ | refine dd_ ?_ | refine da_ ?_ _)); refine blk_far ?_ NB249_250.out _; (with_reducible repeat (first | refine dn_ ?_ _ | refine dd_ ?_ | refine da_ ?_ _)); refine blk_far ?_ NB249_250.out _; (with_reducible repeat (first | refine dn_ ?_ _ | refine dd_ ?_ | refine da_ ?_ _)); exact BK249.out) Try.underlying91 rfl (by kernel_rfl)) rfl ?_
 exact ⟨by first | rfl | (simp [errW_none, errW_some] <;> rfl) | (simp [*, errW_none, errW_some] <;> rfl), by repeat (first | (with_reducible first | exact HB.out | apply ba_ | apply bn_ | apply b1_ | refine below_set ?_ GE248.out | refine below_set ?_ GE249.out | refine below_set ?_ GE250.out) | exact HB.out)⟩
def laws_toAttrS.l0 : Nat → List (S89) → List (S91) → Int → Option ((List (S91)))
 | 0, _, _, _ => none
 | k + 1, x0, x3, x4 => if x4 < (x0.length : Int) then (if 0 ≤ x4 then ((laws_toAttr.f ((rd_T89 x0 x4).f0) ((rd_T89 x0 x4).f1)).bind fun bt255 => (if x4 < (x3.length : Int) then (laws_toAttrS.l0 k x0 (x3.set (x4 : Int).toNat (⟨bt255.1, bt255.2⟩ : S91)) (wrap64 (x4 + 1))) else (none))) else (none)) else (some x3)
def laws_toAttrS.f (k : Nat) (l0 : List (S89)) : Option ((List (S91))) := if 0 ≤ (l0.length : Int) then (if ((l0.length : Int) : Int).toNat ≤ 8796093022208 then (laws_toAttrS.l0 k l0 (List.replicate ((l0.length : Int) : Int).toNat z91) 0) else (none)) else (none)
theorem laws_toAttrS.mono_l : ∀ k, (∀ y0 y1 y2, LeO (laws_toAttrS.l0 k y0 y1 y2) (laws_toAttrS.l0 (k + 1) y0 y1 y2))
 | 0 => fun _ _ _ r h => by simp [laws_toAttrS.l0] at h
 | k + 1 => by
  have ih0 := laws_toAttrS.mono_l k
  ·intro y0 y1 y2
   unfold laws_toAttrS.l0
   repeat' first
   | (with_reducible exact ih0 _ _ _)
   | (with_reducible exact LeO.refl _)
   | (with_reducible exact LeO.none _)
   | (with_reducible refine LeO.ite ?_ ?_)
   | (with_reducible refine LeO.bind ?_ (fun _ => ?_))
theorem laws_toAttrS.mono : ∀ a0 k, LeO (laws_toAttrS.f k a0) (laws_toAttrS.f (k + 1) a0) := by
 intro a0 k
 have ih0 := laws_toAttrS.mono_l k
 unfold laws_toAttrS.f
 repeat' first
   | (with_reducible exact ih0 _ _ _)
   | (with_reducible exact LeO.refl _)
   | (with_reducible exact LeO.none _)
   | (with_reducible refine LeO.ite ?_ ?_)
   | (with_reducible refine LeO.bind ?_ (fun _ => ?_))
set_option maxHeartbeats 8000000 in
set_option maxRecDepth 100000 in
theorem laws_toAttrS.calls (k : Nat) (A0 : Option Addr) (c0 : Nat) (l0 : List (S89)) (r : List (S91)) (w : World) (hr0 : Kd.C k89 w A0 l0.length l0) (hc0 : l0.length ≤ c0) (h : laws_toAttrS.f k l0 = some r) :
  Calls Try.prog 52 #[.slice A0 l0.length c0] w fun e w' => ∃ v0_ : Value, e = .returned (v0_) ∧ Kd.R k91 91 w' w.heap.size (fun _ => True) v0_ r ∧ Below w.heap.size w w' := by
 have hu89 := Try.underlying89
 have hu91 := Try.underlying91
 have HR0 := Aside0.mk hr0
 have HC0 := Aside0.mk hc0
 clear hr0 hc0
 have HB := Aside0.mk (Below.refl w.heap.size w)
 have H : (if 0 ≤ (l0.length : Int) then (if ((l0.length : Int) : Int).toNat ≤ 8796093022208 then (laws_toAttrS.l0 k l0 (List.replicate ((l0.length : Int) : Int).toNat z91) 0) else (none)) else (none)) = some r := h
 clear h
 by_cases c2 : 0 ≤ (l0.length : Int)
 ·rw [if_pos c2] at H
  have c2b0 := eq_true c2
  have c2b1 : decide (0 ≤ (l0.length : Int)) = true := decide_eq_true c2
  clear c2
  by_cases c3 : ((l0.length : Int) : Int).toNat ≤ 8796093022208
  ·rw [if_pos c3] at H
   have c3b0 := eq_true c3
   have c3b1 : decide (((l0.length : Int) : Int).toNat ≤ 8796093022208) = true := decide_eq_true c3
   clear c3
   obtain ⟨y251, hy251⟩ : ∃ y_ : List (S91), y_ = (List.replicate ((l0.length : Int) : Int).toNat z91) := ⟨_, rfl⟩
   replace H : (laws_toAttrS.l0 k l0 y251 0) = some r := by first | (rw [hy251]; with_reducible exact H) | (have H2_ := (Option.bind_some _ _).symm.trans H; rw [hy251]; with_reducible exact H2_) | (have H2_ := (Option.bind_some _ _).symm.trans H; with_reducible exact H2_) | with_reducible exact H | (rw [hy251]; exact H) | exact H
   have Ny251 := Aside0.mk hy251
   clear hy251
   have H' := Aside0.mk H
   clear H
   go_enter Try.func52, Try.ntmps52
   go_wp2_with (first | ((with_reducible refine gate_dst (N := 7) rfl ?_); refine Kd.R_make k91 _ 91 rfl (N := 7) rfl 42 _ _ rfl (l0.length : Int) rfl rfl Try.underlying42 (.agg #[(.string ⟨#[]⟩), (.string ⟨#[]⟩)]) 32 info91 rfl (by decide) (by omega) z91 (ok := fun _ => True) (okp := fun _ => True) (k91_mkM _ _ _ z91 ) (fun _ hk => hk) trivial (dq_ (by assumption)) (Nat.le_trans (Nat.mul_le_mul_right _ (dq_ (by assumption) : (l0.length : Int).toNat ≤ 8796093022208)) (by omega)) (Below.refl _ _) (Nat.le_refl _) ?_; intro v252 w4 ho5 hb hg_ hnew_; clear hg_ hnew_; (first | rw [← Ny251.out] at ho5 | (simp only [Int.reduceToNat] at ho5; rw [← Ny251.out] at ho5)); have n0_ := Aside0.mk (Kd.R_lower ho5 (below_size (by repeat (first | (with_reducible first | exact HB.out | apply ba_ | apply bn_ | apply b1_) | exact HB.out)))); have n1_ := Aside0.mk (below_step (by repeat (first | (with_reducible first | exact HB.out | apply ba_ | apply bn_ | apply b1_) | exact HB.out)) hb); clear HB; have HO253 := n0_; have HB := n1_; clear n0_ n1_; clear hb ho5))
   go_loopg [4] k (fun kq v4 w' => ∃ (x3_1 : List (S91)) (x4_1 : Int), v4 = .int .i64 x4_1 ∧ Aside0 (laws_toAttrS.l0 kq l0 x3_1 x4_1 = some r) ∧ Aside0 (kq ≤ k) ∧ Aside0 (Kd.R k91 91 w' w.heap.size (fun _ => True) v252 x3_1) ∧ Aside0 (Below w.heap.size w w'))
   case atStart => exact ⟨(y251), (0), (by first | rfl | (simp; done) | (simp [*]; done)), H', ⟨Nat.le_refl _⟩, ⟨by (with_reducible repeat (first | apply Kd.R_alloc | apply Kd.R_drewN | apply Kd.R_drew)); exact HO253.out⟩, ⟨by repeat (first | (with_reducible first | exact HB.out | apply ba_ | apply bn_ | apply b1_) | exact HB.out)⟩⟩
   case round =>
    clear H'
    try clear c2
    try clear c2b0
    try clear c2b1
    try clear c3
    try clear c3b0
    try clear c3b1
    obtain ⟨x3_1, x4_1, rfl, HA, HK1, HO_3, HB⟩ := hrel
    cases gk with
    | zero => exact absurd HA.out (by simp [laws_toAttrS.l0])
    | succ k1 =>
     have H := HA.out
     clear HA
     simp only [laws_toAttrS.l0] at H
     by_cases c6 : x4_1 < (l0.length : Int)
     ·rw [if_pos c6] at H
      have c6b0 : decide (x4_1 < (l0.length : Int)) = true := decide_eq_true c6
      clear c6
      by_cases c7 : 0 ≤ x4_1
      ·rw [if_pos c7] at H
       have c7b0 : decide (0 ≤ x4_1) = true := decide_eq_true c7
       clear c7
       replace H := Option.bind_eq_some_iff.mp H
       obtain ⟨⟨t255, t256⟩, A80, H⟩ := H
       replace H : (if x4_1 < (x3_1.length : Int) then (laws_toAttrS.l0 k1 l0 (x3_1.set (x4_1 : Int).toNat (⟨t255, t256⟩ : S91)) (wrap64 (x4_1 + 1))) else (none)) = some r := H
       have A8 := Aside0.mk A80
       clear A80
       by_cases c9 : x4_1 < (x3_1.length : Int)
       ·rw [if_pos c9] at H
        have c9b0 : decide (x4_1 < (x3_1.length : Int)) = true := decide_eq_true c9
        clear c9
        obtain ⟨y257, hy257⟩ : ∃ y_ : List (S91), y_ = (x3_1.set (x4_1 : Int).toNat (⟨t255, t256⟩ : S91)) := ⟨_, rfl⟩
        replace H : (laws_toAttrS.l0 k1 l0 y257 (wrap64 (x4_1 + 1))) = some r := by first | (rw [hy257]; with_reducible exact H) | (have H2_ := (Option.bind_some _ _).symm.trans H; rw [hy257]; with_reducible exact H2_) | (have H2_ := (Option.bind_some _ _).symm.trans H; with_reducible exact H2_) | with_reducible exact H | (rw [hy257]; exact H) | exact H
        have Ny257 := Aside0.mk hy257
        clear hy257
        have H' := Aside0.mk H
        clear H
        have p254 : 0 ≤ (x4_1 : Int) := dq_ (by assumption)
        have q254 : x4_1 < (l0.length : Int) := dq_ (by assumption)
        obtain ⟨ad254, e254, hx254_0, hx254_1⟩ := at_T89 HR0.out x4_1 p254 q254
        cases e254
        replace hx254_0 := pw_cell_below HB.out hx254_0
        replace hx254_1 := pw_cell_below HB.out hx254_1
        replace p254 := eq_true p254
        replace q254 := eq_true q254
        go_wp2_with (first | ((with_reducible refine gate_callee (f := 77) rfl ?_); refine goesL_ (some 20) rfl rfl Try.func77 (by kernel_rfl) rfl #[.agg #[.string ((rd_T89 l0 x4_1).f0), .string ((rd_T89 l0 x4_1).f1)]] rfl (by (try simp only [List.map_toArray, List.map_cons, List.map_nil]); first | done | rfl | (simp only [List.length_drop, List.length_take]; rfl)) ?_; (with_reducible refine (laws_toAttr.calls ((rd_T89 l0 x4_1).f0) ((rd_T89 l0 x4_1).f1) t255 t256 _ A8.out).mono ?_); rintro e w11 ⟨rfl, hb⟩; refine ⟨_, rfl, ?_⟩; have n0_ := Aside0.mk (Kd.R_below (by (with_reducible repeat (first | apply Kd.R_alloc | apply Kd.R_drewN | apply Kd.R_drew)); exact HO_3.out) hb); have n1_ := Aside0.mk (below_step (by repeat (first | (with_reducible first | exact HB.out | apply ba_ | apply bn_ | apply b1_) | exact HB.out)) hb); clear HO_3; clear HB; have HO_3 := n0_; have HB := n1_; clear n0_ n1_; (try clear hb); (try clear hk); have p10 : 0 ≤ (x4_1 : Int) := dq_ (by assumption); have q10 : (x4_1 : Int) < ((x3_1.length : Int) : Int) := dq_ (by assumption); obtain ⟨go10, co10, eo10, gb10, gl10, cl10, HG10⟩ := Kd.R_form HO_3.out (by omega); (first | cases eo10 | (injection eo10 with ea_ en_ ec_; (first | subst ea_ | (injection ea_ with ea_; subst ea_)); subst ec_; clear en_)); have GB10 := Aside0.mk gb10; have GG10 := Aside0.mk HG10; clear gb10 gl10 HG10; obtain ⟨ce10, hcl10, hM10, hcc10, hfr10⟩ := Kd.R_elem HO_3.out z91 (x4_1 : Int) p10 q10; obtain rfl := k91_openM hM10; have hx10_0 : w11.cell? ⟨go10, (x4_1 : Int).toNat * 2, none⟩ = some (.string ((rd_T91 x3_1 x4_1).f0)) := hcc10 0 _ rfl; have hx10_1 : w11.cell? ⟨go10, (x4_1 : Int).toNat * 2 + 1, none⟩ = some (.string ((rd_T91 x3_1 x4_1).f1)) := hcc10 1 _ rfl; have hf10_0 : w11.frozen? ⟨go10, (x4_1 : Int).toNat * 2, none⟩ = false := hfr10 0; have hf10_1 : w11.frozen? ⟨go10, (x4_1 : Int).toNat * 2 + 1, none⟩ = false := hfr10 1; clear hcl10 hcc10 hfr10 hM10; replace p10 := eq_true p10; replace q10 := eq_true q10; have HX12 := Aside0.mk (show Kd.R k91 91 w11 w.heap.size (fun _ => True) (.slice (some ⟨go10, 0, none⟩) x3_1.length co10) x3_1 from (by (with_reducible repeat (first | apply Kd.R_alloc | apply Kd.R_drewN | apply Kd.R_drew)); exact HO_3.out)); obtain ⟨ce12, hcl12, hM12, hcc12, hfr12⟩ := Kd.R_elem HX12.out z91 (x4_1 : Int) (dq_ (by assumption)) (by have h_ : (x4_1 : Int) < ((x3_1.length : Int) : Int) := dq_ (by assumption); first | exact h_ | (have e_ := (Kd.R_reads' HO_3.out).1; omega) | simpa using h_); obtain rfl := k91_openM hM12; have HP12 := Kd.R_seg HX12.out (x4_1 : Int) (dq_ (by assumption)) (by have h_ : (x4_1 : Int) < ((x3_1.length : Int) : Int) := dq_ (by assumption); first | exact h_ | (have e_ := (Kd.R_reads' HO_3.out).1; omega) | simpa using h_) (seg := [.string t255, .string t256]) (j := 0) hcl12 hcc12 (show 2 ≤ 2 from by decide) (x' := (⟨t255, t256⟩ : S91)) (k91_mkM _ _ _ (⟨t255, t256⟩ : S91) ) (fun _ hk => hk); have hx12_0 := hcc12 0 _ rfl; (try simp only [show (k91).sz = 2 from rfl, Nat.mul_one, Nat.add_zero] at hx12_0); have hf12_0 := hfr12 0; (try simp only [show (k91).sz = 2 from rfl, Nat.mul_one, Nat.add_zero] at hf12_0); have hx12_1 := hcc12 1 _ rfl; (try simp only [show (k91).sz = 2 from rfl, Nat.mul_one, Nat.add_zero] at hx12_1); have hf12_1 := hfr12 1; (try simp only [show (k91).sz = 2 from rfl, Nat.mul_one, Nat.add_zero] at hf12_1); clear hcl12 hcc12 hfr12 hM12) | ((with_reducible refine gate_store (t := 91) (p := 21) rfl ?_); refine store_event (t := 91) (p := 21) (v := ?vo_w13) (w1 := ((w11.setCell ⟨go10, (x4_1 : Int).toNat * 2, none⟩ (.string t255)).setCell ⟨go10, (x4_1 : Int).toNat * 2 + 1, none⟩ (.string t256))) ?hg ?ho ?hn ?hr ?_; (case ho => rfl); (case hg => rfl); (case hn => rfl); (case hr => first | (go_simp; done) | (go_simp; rfl)); intro w13 hw; have hg : w11.grownBy w13 (some go10) := (by rw [hw]; exact HP12.2); have hp_ : Kd.R k91 91 w13 w.heap.size (fun _ => True) (.slice (some ⟨go10, 0, none⟩) x3_1.length co10) y257 := (by rw [hw, Ny257.out]; exact HP12.1); clear HP12; have n0_ := Aside0.mk (hp_); have n1_ := Aside0.mk ((by rw [hw]; exact below_set (below_set (HB.out) GB10.out) GB10.out : Below w.heap.size w w13)); clear HO_3; clear HB; have HO_3 := n0_; have HB := n1_; clear n0_ n1_; clear hg hw hp_))
        go_roundg k1
        case measure => have := HK1.out; omega
        case rel => exact ⟨(y257), (wrap64 (x4_1 + 1)), (by first | rfl | (simp; done) | (simp [*]; done)), H', ⟨by have := HK1.out; omega⟩, ⟨by (with_reducible repeat (first | apply Kd.R_alloc | apply Kd.R_drewN | apply Kd.R_drew)); exact HO_3.out⟩, ⟨by repeat (first | (with_reducible first | exact HB.out | apply ba_ | apply bn_ | apply b1_) | exact HB.out)⟩⟩
       ·rw [if_neg c9] at H
        exact absurd H (by simp)
      ·rw [if_neg c7] at H
       exact absurd H (by simp)
     ·rw [if_neg c6] at H
      have c6b0 : decide (x4_1 < (l0.length : Int)) = false := decide_eq_false c6
      clear c6
      obtain rfl := Option.some.inj H
      go_wp2
      go_ret
      exact ⟨_, by first | rfl | (simp [errW_none, errW_some] <;> rfl) | (simp [*, errW_none, errW_some] <;> rfl), by (with_reducible repeat (first | apply Kd.R_alloc | apply Kd.R_drewN | apply Kd.R_drew)); exact HO_3.out, by repeat (first | (with_reducible first | exact HB.out | apply ba_ | apply bn_ | apply b1_) | exact HB.out)⟩
  ·rw [if_neg c3] at H
   exact absurd H (by simp)
 ·rw [if_neg c2] at H
  exact absurd H (by simp)
def laws_toItem.f (k : Nat) (a0_0 : Int) (a0_1 : Int) (a0_2 : ByteArray) (l0_3 : List (S89)) (a0_4 : ByteArray) (a0_5 : Int) (l0_6 : List Int) : Option (Int × Int × ByteArray × (List (S91)) × ByteArray × Int × List Int) := (laws_toAttrS.f k l0_3).bind fun t261 => ((laws_toIntS.f k l0_6).bind fun t264 => (some (a0_0, a0_1, a0_2, t261, a0_4, a0_5, t264)))
theorem laws_toItem.mono : ∀ a0 a1 a2 a3 a4 a5 a6 k, LeO (laws_toItem.f k a0 a1 a2 a3 a4 a5 a6) (laws_toItem.f (k + 1) a0 a1 a2 a3 a4 a5 a6) := by
 intro a0 a1 a2 a3 a4 a5 a6 k
 unfold laws_toItem.f
 repeat' first
   | (with_reducible exact laws_toAttrS.mono _ _)
   | (with_reducible exact laws_toIntS.mono _ _)
   | (with_reducible exact LeO.refl _)
   | (with_reducible exact LeO.none _)
   | (with_reducible refine LeO.ite ?_ ?_)
   | (with_reducible refine LeO.bind ?_ (fun _ => ?_))
set_option maxHeartbeats 8000000 in
set_option maxRecDepth 100000 in
theorem laws_toItem.calls (k : Nat) (a0_0 : Int) (a0_1 : Int) (a0_2 : ByteArray) (A0_3 : Option Addr) (c0_3 : Nat) (l0_3 : List (S89)) (a0_4 : ByteArray) (a0_5 : Int) (A0_6 : Option Addr) (c0_6 : Nat) (l0_6 : List Int) (r1 : Int) (r2 : Int) (r3 : ByteArray) (r4 : List (S91)) (r5 : ByteArray) (r6 : Int) (r7 : List Int) (w : World) (hr0_3 : Kd.C k89 w A0_3 l0_3.length l0_3) (hc0_3 : l0_3.length ≤ c0_3) (hr0_6 : Kd.C (Kd.int .i64) w A0_6 l0_6.length l0_6) (hc0_6 : l0_6.length ≤ c0_6) (h : laws_toItem.f k a0_0 a0_1 a0_2 l0_3 a0_4 a0_5 l0_6 = some (r1, r2, r3, r4, r5, r6, r7)) :
  Calls Try.prog 19 #[.agg #[.int .i64 a0_0, .int .i64 a0_1, .string a0_2, .slice A0_3 l0_3.length c0_3, .string a0_4, .int .i64 a0_5, .slice A0_6 l0_6.length c0_6]] w fun e w' => ∃ v3_ v6_ : Value, e = .returned (.agg #[.int .i64 r1, .int .i64 r2, .string r3, v3_, .string r5, .int .i64 r6, v6_]) ∧ Kd.R k91 91 w' w.heap.size (fun _ => True) v3_ r4 ∧ Kd.R (Kd.int .i64) 3 w' w.heap.size (fun _ => True) v6_ r7 ∧ Below w.heap.size w w' := by
 have hu36 := Try.underlying36
 have hu44 := Try.underlying44
 have HR0_3 := Aside0.mk hr0_3
 have HC0_3 := Aside0.mk hc0_3
 clear hr0_3 hc0_3
 have HR0_6 := Aside0.mk hr0_6
 have HC0_6 := Aside0.mk hc0_6
 clear hr0_6 hc0_6
 have HB := Aside0.mk (Below.refl w.heap.size w)
 have H : ((laws_toAttrS.f k l0_3).bind fun t261 => ((laws_toIntS.f k l0_6).bind fun t264 => (some (a0_0, a0_1, a0_2, t261, a0_4, a0_5, t264)))) = some (r1, r2, r3, r4, r5, r6, r7) := h
 clear h
 replace H := Option.bind_eq_some_iff.mp H
 obtain ⟨t261, A20, H⟩ := H
 replace H : ((laws_toIntS.f k l0_6).bind fun t264 => (some (a0_0, a0_1, a0_2, t261, a0_4, a0_5, t264))) = some (r1, r2, r3, r4, r5, r6, r7) := H
 have A2 := Aside0.mk A20
 clear A20
 replace H := Option.bind_eq_some_iff.mp H
 obtain ⟨t264, A30, H⟩ := H
 replace H : (some (a0_0, a0_1, a0_2, t261, a0_4, a0_5, t264)) = some (r1, r2, r3, r4, r5, r6, r7) := H
 have A3 := Aside0.mk A30
 clear A30
 simp only [Option.some.injEq, Prod.mk.injEq] at H
 obtain ⟨rfl, rfl, rfl, rfl, rfl, rfl, rfl⟩ := H
 go_enter Try.func19, Try.ntmps19
 go_wp2_with (first | ((with_reducible refine gate_dst (N := 1) rfl ?_); refine box_event ?hg (N := 1) ?hd (cs := #[.int .i64 a0_0, .int .i64 a0_1, .string a0_2, .slice A0_3 l0_3.length c0_3, .string a0_4, .int .i64 a0_5, .slice A0_6 l0_6.length c0_6]) (t := 36) ?hr ?_; (case hd => rfl); (case hg => rfl); (case hr => first | (go_simp; done) | (go_simp; rfl)); intro gb258 hg w4 hbox hb; have n0_ := Aside0.mk (below_step (by repeat (first | (with_reducible first | exact HB.out | apply ba_ | apply bn_ | apply b1_) | exact HB.out)) hb); have n1_ := Aside0.mk (hbox); have n2_ := Aside0.mk ((by rw [hg]; exact (below_size (by repeat (first | (with_reducible first | exact HB.out | apply ba_ | apply bn_ | apply b1_) | exact HB.out))) : w.heap.size ≤ gb258)); have n3_ := Aside0.mk ((by rw [hg]; exact (below_size (by repeat (first | (with_reducible first | exact HB.out | apply ba_ | apply bn_ | apply b1_) | exact HB.out))) : w.heap.size ≤ gb258)); clear HB; have HB := n0_; have BK258 := n1_; have GW258 := n2_; have GE258 := n3_; clear n0_ n1_ n2_ n3_; clear hb hbox hg) | ((with_reducible refine gate_dst (N := 2) rfl ?_); refine box_event ?hg (N := 2) ?hd (cs := #[.int .i64 0, .int .i64 0, .string (⟨#[]⟩ : ByteArray), .slice none 0 0, .string (⟨#[]⟩ : ByteArray), .int .i64 0, .slice none 0 0]) (t := 44) ?hr ?_; (case hd => rfl); (case hg => rfl); (case hr => first | (go_simp; done) | (go_simp; rfl)); intro gb259 hg w5 hbox hb; have n0_ := Aside0.mk (blk_below (g := gb258) (o := .cells #[.int .i64 a0_0, .int .i64 a0_1, .string a0_2, .slice A0_3 l0_3.length c0_3, .string a0_4, .int .i64 a0_5, .slice A0_6 l0_6.length c0_6] 36 (0, 0)) (by (with_reducible repeat (first | refine dn_ ?_ _ | refine dd_ ?_ | refine da_ ?_ _)); exact BK258.out) hb); have n1_ := Aside0.mk (below_step (by repeat (first | (with_reducible first | exact HB.out | apply ba_ | apply bn_ | apply b1_ | refine below_set ?_ GE258.out) | exact HB.out)) hb); have n2_ := Aside0.mk (hbox); have n3_ := Aside0.mk ((by rw [hg]; exact (below_size (by repeat (first | (with_reducible first | exact HB.out | apply ba_ | apply bn_ | apply b1_ | refine below_set ?_ GE258.out) | exact HB.out))) : w.heap.size ≤ gb259)); have n4_ := Aside0.mk ((by rw [hg]; exact (below_size (by repeat (first | (with_reducible first | exact HB.out | apply ba_ | apply bn_ | apply b1_ | refine below_set ?_ GE258.out) | exact HB.out))) : w.heap.size ≤ gb259)); have n5_ := Aside0.mk ((by rw [hg]; exact Nat.ne_of_lt (blk_lt (g := gb258) (o := .cells #[.int .i64 a0_0, .int .i64 a0_1, .string a0_2, .slice A0_3 l0_3.length c0_3, .string a0_4, .int .i64 a0_5, .slice A0_6 l0_6.length c0_6] 36 (0, 0)) (by (with_reducible repeat (first | refine dn_ ?_ _ | refine dd_ ?_ | refine da_ ?_ _)); exact BK258.out)) : gb258 ≠ gb259)); have n6_ := Aside0.mk ((by rw [hg]; exact Nat.ne_of_gt (blk_lt (g := gb258) (o := .cells #[.int .i64 a0_0, .int .i64 a0_1, .string a0_2, .slice A0_3 l0_3.length c0_3, .string a0_4, .int .i64 a0_5, .slice A0_6 l0_6.length c0_6] 36 (0, 0)) (by (with_reducible repeat (first | refine dn_ ?_ _ | refine dd_ ?_ | refine da_ ?_ _)); exact BK258.out)) : gb259 ≠ gb258)); clear BK258; clear HB; have BK258 := n0_; have HB := n1_; have BK259 := n2_; have GW259 := n3_; have GE259 := n4_; have NB258_259 := n5_; have NB259_258 := n6_; clear n0_ n1_ n2_ n3_ n4_ n5_ n6_; clear hb hbox hg) | ((with_reducible refine gate_dst (N := 3) rfl ?_); refine box_event ?hg (N := 3) ?hd (cs := #[.int .i64 0, .int .i64 0, .string (⟨#[]⟩ : ByteArray), .slice none 0 0, .string (⟨#[]⟩ : ByteArray), .int .i64 0, .slice none 0 0]) (t := 44) ?hr ?_; (case hd => rfl); (case hg => rfl); (case hr => first | (go_simp; done) | (go_simp; rfl)); intro gb260 hg w6 hbox hb; have n0_ := Aside0.mk (blk_below (g := gb258) (o := .cells #[.int .i64 a0_0, .int .i64 a0_1, .string a0_2, .slice A0_3 l0_3.length c0_3, .string a0_4, .int .i64 a0_5, .slice A0_6 l0_6.length c0_6] 36 (0, 0)) (by (with_reducible repeat (first | refine dn_ ?_ _ | refine dd_ ?_ | refine da_ ?_ _)); exact BK258.out) hb); have n1_ := Aside0.mk (blk_below (g := gb259) (o := .cells #[.int .i64 0, .int .i64 0, .string (⟨#[]⟩ : ByteArray), .slice none 0 0, .string (⟨#[]⟩ : ByteArray), .int .i64 0, .slice none 0 0] 44 (0, 0)) (by (with_reducible repeat (first | refine dn_ ?_ _ | refine dd_ ?_ | refine da_ ?_ _)); exact BK259.out) hb); have n2_ := Aside0.mk (below_step (by repeat (first | (with_reducible first | exact HB.out | apply ba_ | apply bn_ | apply b1_ | refine below_set ?_ GE258.out | refine below_set ?_ GE259.out) | exact HB.out)) hb); have n3_ := Aside0.mk (hbox); have n4_ := Aside0.mk ((by rw [hg]; exact (below_size (by repeat (first | (with_reducible first | exact HB.out | apply ba_ | apply bn_ | apply b1_ | refine below_set ?_ GE258.out | refine below_set ?_ GE259.out) | exact HB.out))) : w.heap.size ≤ gb260)); have n5_ := Aside0.mk ((by rw [hg]; exact (below_size (by repeat (first | (with_reducible first | exact HB.out | apply ba_ | apply bn_ | apply b1_ | refine below_set ?_ GE258.out | refine below_set ?_ GE259.out) | exact HB.out))) : w.heap.size ≤ gb260)); have n6_ := Aside0.mk ((by rw [hg]; exact Nat.ne_of_lt (blk_lt (g := gb258) (o := .cells #[.int .i64 a0_0, .int .i64 a0_1, .string a0_2, .slice A0_3 l0_3.length c0_3, .string a0_4, .int .i64 a0_5, .slice A0_6 l0_6.length c0_6] 36 (0, 0)) (by (with_reducible repeat (first | refine dn_ ?_ _ | refine dd_ ?_ | refine da_ ?_ _)); exact BK258.out)) : gb258 ≠ gb260)); have n7_ := Aside0.mk ((by rw [hg]; exact Nat.ne_of_gt (blk_lt (g := gb258) (o := .cells #[.int .i64 a0_0, .int .i64 a0_1, .string a0_2, .slice A0_3 l0_3.length c0_3, .string a0_4, .int .i64 a0_5, .slice A0_6 l0_6.length c0_6] 36 (0, 0)) (by (with_reducible repeat (first | refine dn_ ?_ _ | refine dd_ ?_ | refine da_ ?_ _)); exact BK258.out)) : gb260 ≠ gb258)); have n8_ := Aside0.mk ((by rw [hg]; exact Nat.ne_of_lt (blk_lt (g := gb259) (o := .cells #[.int .i64 0, .int .i64 0, .string (⟨#[]⟩ : ByteArray), .slice none 0 0, .string (⟨#[]⟩ : ByteArray), .int .i64 0, .slice none 0 0] 44 (0, 0)) (by (with_reducible repeat (first | refine dn_ ?_ _ | refine dd_ ?_ | refine da_ ?_ _)); exact BK259.out)) : gb259 ≠ gb260)); have n9_ := Aside0.mk ((by rw [hg]; exact Nat.ne_of_gt (blk_lt (g := gb259) (o := .cells #[.int .i64 0, .int .i64 0, .string (⟨#[]⟩ : ByteArray), .slice none 0 0, .string (⟨#[]⟩ : ByteArray), .int .i64 0, .slice none 0 0] 44 (0, 0)) (by (with_reducible repeat (first | refine dn_ ?_ _ | refine dd_ ?_ | refine da_ ?_ _)); exact BK259.out)) : gb260 ≠ gb259)); clear BK258; clear BK259; clear HB; have BK258 := n0_; have BK259 := n1_; have HB := n2_; have BK260 := n3_; have GW260 := n4_; have GE260 := n5_; have NB258_260 := n6_; have NB260_258 := n7_; have NB259_260 := n8_; have NB260_259 := n9_; clear n0_ n1_ n2_ n3_ n4_ n5_ n6_ n7_ n8_ n9_; clear hb hbox hg; have hnb7 := NB258_259.out; have hnc7 := NB259_258.out; have hnb8 := NB258_260.out; have hnc8 := NB260_258.out; have hcz9_0 : w6.cell? ⟨gb258, 0, none⟩ = some (.int .i64 a0_0) := (bc_ BK258.out 0).trans rfl; have hcz9_1 : w6.cell? ⟨gb258, 1, none⟩ = some (.int .i64 a0_1) := (bc_ BK258.out 1).trans rfl; have hcz9_2 : w6.cell? ⟨gb258, 2, none⟩ = some (.string a0_2) := (bc_ BK258.out 2).trans rfl; have hcz9_3 : w6.cell? ⟨gb258, 3, none⟩ = some (.slice A0_3 l0_3.length c0_3) := (bc_ BK258.out 3).trans rfl; have hcz9_4 : w6.cell? ⟨gb258, 4, none⟩ = some (.string a0_4) := (bc_ BK258.out 4).trans rfl; have hcz9_5 : w6.cell? ⟨gb258, 5, none⟩ = some (.int .i64 a0_5) := (bc_ BK258.out 5).trans rfl; have hcz9_6 : w6.cell? ⟨gb258, 6, none⟩ = some (.slice A0_6 l0_6.length c0_6) := (bc_ BK258.out 6).trans rfl; have hfz9_0 := blk_frozen BK258.out 0; have hfz9_1 := blk_frozen BK258.out 1; have hfz9_2 := blk_frozen BK258.out 2; have hfz9_3 := blk_frozen BK258.out 3; have hfz9_4 := blk_frozen BK258.out 4; have hfz9_5 := blk_frozen BK258.out 5; have hfz9_6 := blk_frozen BK258.out 6; have hnb10 := NB260_259.out; have hnc10 := NB259_260.out; have hcz11_0 : w6.cell? ⟨gb260, 0, none⟩ = some (.int .i64 0) := (bc_ BK260.out 0).trans rfl; have hcz11_1 : w6.cell? ⟨gb260, 1, none⟩ = some (.int .i64 0) := (bc_ BK260.out 1).trans rfl; have hcz11_2 : w6.cell? ⟨gb260, 2, none⟩ = some (.string (⟨#[]⟩ : ByteArray)) := (bc_ BK260.out 2).trans rfl; have hcz11_3 : w6.cell? ⟨gb260, 3, none⟩ = some (.slice none 0 0) := (bc_ BK260.out 3).trans rfl; have hcz11_4 : w6.cell? ⟨gb260, 4, none⟩ = some (.string (⟨#[]⟩ : ByteArray)) := (bc_ BK260.out 4).trans rfl; have hcz11_5 : w6.cell? ⟨gb260, 5, none⟩ = some (.int .i64 0) := (bc_ BK260.out 5).trans rfl; have hcz11_6 : w6.cell? ⟨gb260, 6, none⟩ = some (.slice none 0 0) := (bc_ BK260.out 6).trans rfl; have hfz11_0 := blk_frozen BK260.out 0; have hfz11_1 := blk_frozen BK260.out 1; have hfz11_2 := blk_frozen BK260.out 2; have hfz11_3 := blk_frozen BK260.out 3; have hfz11_4 := blk_frozen BK260.out 4; have hfz11_5 := blk_frozen BK260.out 5; have hfz11_6 := blk_frozen BK260.out 6) | ((with_reducible refine gate_callee (f := 52) rfl ?_); refine goesL_ (some 15) rfl rfl Try.func52 (by kernel_rfl) rfl #[.slice A0_3 l0_3.length c0_3] rfl (by (try simp only [List.map_toArray, List.map_cons, List.map_nil]); first | done | rfl | (simp only [List.length_drop, List.length_take]; rfl)) ?_; (with_reducible refine (laws_toAttrS.calls k _ _ l0_3 t261 _ ?side1 ?side2 A2.out).mono ?_); (case side1 => exact Kd.C_below HR0_3.out (by repeat (first | (with_reducible first | exact HB.out | apply ba_ | apply bn_ | apply b1_ | refine below_set ?_ GE258.out | refine below_set ?_ GE259.out | refine below_set ?_ GE260.out) | exact HB.out))); (case side2 => exact HC0_3.out); rintro e w12 ⟨v262, rfl, ho0, hb⟩; refine ⟨_, rfl, ?_⟩; have n0_ := Aside0.mk (Kd.R_lower ho0 (below_size (by repeat (first | (with_reducible first | exact HB.out | apply ba_ | apply bn_ | apply b1_ | refine below_set ?_ GE258.out | refine below_set ?_ GE259.out | refine below_set ?_ GE260.out) | exact HB.out)))); have n1_ := Aside0.mk (blk_below (g := gb258) (o := .cells #[.int .i64 a0_0, .int .i64 a0_1, .string a0_2, .slice A0_3 l0_3.length c0_3, .string a0_4, .int .i64 a0_5, .slice A0_6 l0_6.length c0_6] 36 (0, 0)) (by (with_reducible repeat (first | refine dn_ ?_ _ | refine dd_ ?_ | refine da_ ?_ _)); refine blk_far ?_ NB258_260.out _; (with_reducible repeat (first | refine dn_ ?_ _ | refine dd_ ?_ | refine da_ ?_ _)); refine blk_far ?_ NB258_260.out _; (with_reducible repeat (first | refine dn_ ?_ _ | refine dd_ ?_ | refine da_ ?_ _)); refine blk_far ?_ NB258_260.out _; (with_reducible repeat (first | refine dn_ ?_ _ | refine dd_ ?_ | refine da_ ?_ _)); exact BK258.out) hb); have n2_ := Aside0.mk (blk_below (g := gb259) (o := .cells #[.int .i64 0, .int .i64 0, .string (⟨#[]⟩ : ByteArray), .slice none 0 0, .string (⟨#[]⟩ : ByteArray), .int .i64 0, .slice none 0 0] 44 (0, 0)) (by (with_reducible repeat (first | refine dn_ ?_ _ | refine dd_ ?_ | refine da_ ?_ _)); refine blk_far ?_ NB259_260.out _; (with_reducible repeat (first | refine dn_ ?_ _ | refine dd_ ?_ | refine da_ ?_ _)); refine blk_far ?_ NB259_260.out _; (with_reducible repeat (first | refine dn_ ?_ _ | refine dd_ ?_ | refine da_ ?_ _)); refine blk_far ?_ NB259_260.out _; (with_reducible repeat (first | refine dn_ ?_ _ | refine dd_ ?_ | refine da_ ?_ _)); exact BK259.out) hb); have n3_ := Aside0.mk (blk_below (g := gb260) (o := .cells #[.int .i64 a0_0, .int .i64 a0_1, .string a0_2, .slice none 0 0, .string (⟨#[]⟩ : ByteArray), .int .i64 0, .slice none 0 0] 44 (0, 0)) (by (with_reducible repeat (first | refine dn_ ?_ _ | refine dd_ ?_ | refine da_ ?_ _)); refine blk_put (cs := #[.int .i64 a0_0, .int .i64 a0_1, .string (⟨#[]⟩ : ByteArray), .slice none 0 0, .string (⟨#[]⟩ : ByteArray), .int .i64 0, .slice none 0 0]) ?_ 2 _ rfl; (with_reducible repeat (first | refine dn_ ?_ _ | refine dd_ ?_ | refine da_ ?_ _)); refine blk_put (cs := #[.int .i64 a0_0, .int .i64 0, .string (⟨#[]⟩ : ByteArray), .slice none 0 0, .string (⟨#[]⟩ : ByteArray), .int .i64 0, .slice none 0 0]) ?_ 1 _ rfl; (with_reducible repeat (first | refine dn_ ?_ _ | refine dd_ ?_ | refine da_ ?_ _)); refine blk_put (cs := #[.int .i64 0, .int .i64 0, .string (⟨#[]⟩ : ByteArray), .slice none 0 0, .string (⟨#[]⟩ : ByteArray), .int .i64 0, .slice none 0 0]) ?_ 0 _ rfl; (with_reducible repeat (first | refine dn_ ?_ _ | refine dd_ ?_ | refine da_ ?_ _)); exact BK260.out) hb); have n4_ := Aside0.mk (below_step (by repeat (first | (with_reducible first | exact HB.out | apply ba_ | apply bn_ | apply b1_ | refine below_set ?_ GE258.out | refine below_set ?_ GE259.out | refine below_set ?_ GE260.out) | exact HB.out)) hb); clear BK258; clear BK259; clear BK260; clear HB; have HO263 := n0_; have BK258 := n1_; have BK259 := n2_; have BK260 := n3_; have HB := n4_; clear n0_ n1_ n2_ n3_ n4_; (try clear hb); (try clear hk); (try clear ho0); obtain ⟨Ao13, co13, eo13⟩ := Kd.R_slice HO263.out; subst eo13; have hcz14_0 : w12.cell? ⟨gb260, 0, none⟩ = some (.int .i64 a0_0) := (bc_ BK260.out 0).trans rfl; have hcz14_1 : w12.cell? ⟨gb260, 1, none⟩ = some (.int .i64 a0_1) := (bc_ BK260.out 1).trans rfl; have hcz14_2 : w12.cell? ⟨gb260, 2, none⟩ = some (.string a0_2) := (bc_ BK260.out 2).trans rfl; have hcz14_3 : w12.cell? ⟨gb260, 3, none⟩ = some (.slice none 0 0) := (bc_ BK260.out 3).trans rfl; have hcz14_4 : w12.cell? ⟨gb260, 4, none⟩ = some (.string (⟨#[]⟩ : ByteArray)) := (bc_ BK260.out 4).trans rfl; have hcz14_5 : w12.cell? ⟨gb260, 5, none⟩ = some (.int .i64 0) := (bc_ BK260.out 5).trans rfl; have hcz14_6 : w12.cell? ⟨gb260, 6, none⟩ = some (.slice none 0 0) := (bc_ BK260.out 6).trans rfl; have hfz14_0 := blk_frozen BK260.out 0; have hfz14_1 := blk_frozen BK260.out 1; have hfz14_2 := blk_frozen BK260.out 2; have hfz14_3 := blk_frozen BK260.out 3; have hfz14_4 := blk_frozen BK260.out 4; have hfz14_5 := blk_frozen BK260.out 5; have hfz14_6 := blk_frozen BK260.out 6; have hcz15_0 : w12.cell? ⟨gb258, 0, none⟩ = some (.int .i64 a0_0) := (bc_ BK258.out 0).trans rfl; have hcz15_1 : w12.cell? ⟨gb258, 1, none⟩ = some (.int .i64 a0_1) := (bc_ BK258.out 1).trans rfl; have hcz15_2 : w12.cell? ⟨gb258, 2, none⟩ = some (.string a0_2) := (bc_ BK258.out 2).trans rfl; have hcz15_3 : w12.cell? ⟨gb258, 3, none⟩ = some (.slice A0_3 l0_3.length c0_3) := (bc_ BK258.out 3).trans rfl; have hcz15_4 : w12.cell? ⟨gb258, 4, none⟩ = some (.string a0_4) := (bc_ BK258.out 4).trans rfl; have hcz15_5 : w12.cell? ⟨gb258, 5, none⟩ = some (.int .i64 a0_5) := (bc_ BK258.out 5).trans rfl; have hcz15_6 : w12.cell? ⟨gb258, 6, none⟩ = some (.slice A0_6 l0_6.length c0_6) := (bc_ BK258.out 6).trans rfl; have hfz15_0 := blk_frozen BK258.out 0; have hfz15_1 := blk_frozen BK258.out 1; have hfz15_2 := blk_frozen BK258.out 2; have hfz15_3 := blk_frozen BK258.out 3; have hfz15_4 := blk_frozen BK258.out 4; have hfz15_5 := blk_frozen BK258.out 5; have hfz15_6 := blk_frozen BK258.out 6) | ((with_reducible refine gate_callee (f := 43) rfl ?_); refine goesL_ (some 25) rfl rfl Try.func43 (by kernel_rfl) rfl #[.slice A0_6 l0_6.length c0_6] rfl (by (try simp only [List.map_toArray, List.map_cons, List.map_nil]); first | done | rfl | (simp only [List.length_drop, List.length_take]; rfl)) ?_; (with_reducible refine (laws_toIntS.calls k _ _ l0_6 t264 _ ?side1 ?side2 A3.out).mono ?_); (case side1 => exact Kd.C_below HR0_6.out (by repeat (first | (with_reducible first | exact HB.out | apply ba_ | apply bn_ | apply b1_ | refine below_set ?_ GE258.out | refine below_set ?_ GE259.out | refine below_set ?_ GE260.out) | exact HB.out))); (case side2 => exact HC0_6.out); rintro e w16 ⟨v265, rfl, ho0, hb⟩; refine ⟨_, rfl, ?_⟩; have n0_ := Aside0.mk (Kd.R_below (by (with_reducible repeat (first | apply Kd.R_alloc | apply Kd.R_drewN | apply Kd.R_drew)); exact (Kd.R_mono (Kd.R_far (p := ⟨gb260, 5, none⟩) (Kd.R_far (p := ⟨gb260, 4, none⟩) (Kd.R_far (p := ⟨gb260, 3, none⟩) (Kd.R_types HO263.out BK260.out (by decide)) (fun _ hk => hk.2) (.slice Ao13 t261.length co13)) (fun _ hk => hk.2) (.string a0_4)) (fun _ hk => hk.2) (.int .i64 a0_5)) (fun _ h_ => h_.1))) hb); have n1_ := Aside0.mk (Kd.R_lower ho0 (below_size (by repeat (first | (with_reducible first | exact HB.out | apply ba_ | apply bn_ | apply b1_ | refine below_set ?_ GE258.out | refine below_set ?_ GE259.out | refine below_set ?_ GE260.out) | exact HB.out)))); have n2_ := Aside0.mk (blk_below (g := gb258) (o := .cells #[.int .i64 a0_0, .int .i64 a0_1, .string a0_2, .slice A0_3 l0_3.length c0_3, .string a0_4, .int .i64 a0_5, .slice A0_6 l0_6.length c0_6] 36 (0, 0)) (by (with_reducible repeat (first | refine dn_ ?_ _ | refine dd_ ?_ | refine da_ ?_ _)); refine blk_far ?_ NB258_260.out _; (with_reducible repeat (first | refine dn_ ?_ _ | refine dd_ ?_ | refine da_ ?_ _)); refine blk_far ?_ NB258_260.out _; (with_reducible repeat (first | refine dn_ ?_ _ | refine dd_ ?_ | refine da_ ?_ _)); refine blk_far ?_ NB258_260.out _; (with_reducible repeat (first | refine dn_ ?_ _ | refine dd_ ?_ | refine da_ ?_ _)); exact BK258.out) hb); have n3_ := Aside0.mk (blk_below (g := gb259) (o := .cells #[.int .i64 0, .int .i64 0, .string (⟨#[]⟩ : ByteArray), .slice none 0 0, .string (⟨#[]⟩ : ByteArray), .int .i64 0, .slice none 0 0] 44 (0, 0)) (by (with_reducible repeat (first | refine dn_ ?_ _ | refine dd_ ?_ | refine da_ ?_ _)); refine blk_far ?_ NB259_260.out _; (with_reducible repeat (first | refine dn_ ?_ _ | refine dd_ ?_ | refine da_ ?_ _)); refine blk_far ?_ NB259_260.out _; (with_reducible repeat (first | refine dn_ ?_ _ | refine dd_ ?_ | refine da_ ?_ _)); refine blk_far ?_ NB259_260.out _; (with_reducible repeat (first | refine dn_ ?_ _ | refine dd_ ?_ | refine da_ ?_ _)); exact BK259.out) hb); have n4_ := Aside0.mk (blk_below (g := gb260) (o := .cells #[.int .i64 a0_0, .int .i64 a0_1, .string a0_2, .slice Ao13 t261.length co13, .string a0_4, .int .i64 a0_5, .slice none 0 0] 44 (0, 0)) (by (with_reducible repeat (first | refine dn_ ?_ _ | refine dd_ ?_ | refine da_ ?_ _)); refine blk_put (cs := #[.int .i64 a0_0, .int .i64 a0_1, .string a0_2, .slice Ao13 t261.length co13, .string a0_4, .int .i64 0, .slice none 0 0]) ?_ 5 _ rfl; (with_reducible repeat (first | refine dn_ ?_ _ | refine dd_ ?_ | refine da_ ?_ _)); refine blk_put (cs := #[.int .i64 a0_0, .int .i64 a0_1, .string a0_2, .slice Ao13 t261.length co13, .string (⟨#[]⟩ : ByteArray), .int .i64 0, .slice none 0 0]) ?_ 4 _ rfl; (with_reducible repeat (first | refine dn_ ?_ _ | refine dd_ ?_ | refine da_ ?_ _)); refine blk_put (cs := #[.int .i64 a0_0, .int .i64 a0_1, .string a0_2, .slice none 0 0, .string (⟨#[]⟩ : ByteArray), .int .i64 0, .slice none 0 0]) ?_ 3 _ rfl; (with_reducible repeat (first | refine dn_ ?_ _ | refine dd_ ?_ | refine da_ ?_ _)); exact BK260.out) hb); have n5_ := Aside0.mk (below_step (by repeat (first | (with_reducible first | exact HB.out | apply ba_ | apply bn_ | apply b1_ | refine below_set ?_ GE258.out | refine below_set ?_ GE259.out | refine below_set ?_ GE260.out) | exact HB.out)) hb); clear HO263; clear BK258; clear BK259; clear BK260; clear HB; have HO263 := n0_; have HO266 := n1_; have BK258 := n2_; have BK259 := n3_; have BK260 := n4_; have HB := n5_; clear n0_ n1_ n2_ n3_ n4_ n5_; (try clear hb); (try clear hk); (try clear ho0); obtain ⟨Ao17, co17, eo17⟩ := Kd.R_slice HO266.out; subst eo17; have hcz18_0 : w16.cell? ⟨gb260, 0, none⟩ = some (.int .i64 a0_0) := (bc_ BK260.out 0).trans rfl; have hcz18_1 : w16.cell? ⟨gb260, 1, none⟩ = some (.int .i64 a0_1) := (bc_ BK260.out 1).trans rfl; have hcz18_2 : w16.cell? ⟨gb260, 2, none⟩ = some (.string a0_2) := (bc_ BK260.out 2).trans rfl; have hcz18_3 : w16.cell? ⟨gb260, 3, none⟩ = some (.slice Ao13 t261.length co13) := (bc_ BK260.out 3).trans rfl; have hcz18_4 : w16.cell? ⟨gb260, 4, none⟩ = some (.string a0_4) := (bc_ BK260.out 4).trans rfl; have hcz18_5 : w16.cell? ⟨gb260, 5, none⟩ = some (.int .i64 a0_5) := (bc_ BK260.out 5).trans rfl; have hcz18_6 : w16.cell? ⟨gb260, 6, none⟩ = some (.slice none 0 0) := (bc_ BK260.out 6).trans rfl; have hfz18_0 := blk_frozen BK260.out 0; have hfz18_1 := blk_frozen BK260.out 1; have hfz18_2 := blk_frozen BK260.out 2; have hfz18_3 := blk_frozen BK260.out 3; have hfz18_4 := blk_frozen BK260.out 4; have hfz18_5 := blk_frozen BK260.out 5; have hfz18_6 := blk_frozen BK260.out 6; have hcz19_0 : w16.cell? ⟨gb259, 0, none⟩ = some (.int .i64 0) := (bc_ BK259.out 0).trans rfl; have hcz19_1 : w16.cell? ⟨gb259, 1, none⟩ = some (.int .i64 0) := (bc_ BK259.out 1).trans rfl; have hcz19_2 : w16.cell? ⟨gb259, 2, none⟩ = some (.string (⟨#[]⟩ : ByteArray)) := (bc_ BK259.out 2).trans rfl; have hcz19_3 : w16.cell? ⟨gb259, 3, none⟩ = some (.slice none 0 0) := (bc_ BK259.out 3).trans rfl; have hcz19_4 : w16.cell? ⟨gb259, 4, none⟩ = some (.string (⟨#[]⟩ : ByteArray)) := (bc_ BK259.out 4).trans rfl; have hcz19_5 : w16.cell? ⟨gb259, 5, none⟩ = some (.int .i64 0) := (bc_ BK259.out 5).trans rfl; have hcz19_6 : w16.cell? ⟨gb259, 6, none⟩ = some (.slice none 0 0) := (bc_ BK259.out 6).trans rfl; have hfz19_0 := blk_frozen BK259.out 0; have hfz19_1 := blk_frozen BK259.out 1; have hfz19_2 := blk_frozen BK259.out 2; have hfz19_3 := blk_frozen BK259.out 3; have hfz19_4 := blk_frozen BK259.out 4; have hfz19_5 := blk_frozen BK259.out 5; have hfz19_6 := blk_frozen BK259.out 6))
 refine bodyPost_ret (results_cell_row rfl _ _ gb259 44 #[.int .i64 a0_0, .int .i64 a0_1, .string a0_2, .slice Ao13 t261.length co13, .string a0_4, .int .i64 a0_5, .slice Ao17 t264.length co17] (0, 0) _ rfl (by (with_reducible repeat (first | refine dn_ ?_ _ | refine dd_ ?_ | refine da_ ?_ _)); refine blk_put (cs := #[.int .i64 a0_0, .int .i64 a0_1, .string a0_2, .slice Ao13 t261.length co13, .string a0_4, .int .i64 a0_5, .slice none 0 0]) ?_ 6 _ rfl; (with_reducible repeat (first | refine dn_ ?_ _ | refine dd_ ?_ | refine da_ ?_ _)); refine blk_put (cs := #[.int .i64 a0_0, .int .i64 a0_1, .string a0_2, .slice Ao13 t261.length co13, .string a0_4, .int .i64 0, .slice none 0 0]) ?_ 5 _ rfl; (with_reducible repeat (first | refine dn_ ?_ _ | refine dd_ ?_ | refine da_ ?_ _)); refine blk_put (cs := #[.int .i64 a0_0, .int .i64 a0_1, .string a0_2, .slice Ao13 t261.length co13, .string (⟨#[]⟩ : ByteArray), .int .i64 0, .slice none 0 0]) ?_ 4 _ rfl; (with_reducible repeat (first | refine dn_ ?_ _ | refine dd_ ?_ | refine da_ ?_ _)); refine blk_put (cs := #[.int .i64 a0_0, .int .i64 a0_1, .string a0_2, .slice none 0 0, .string (⟨#[]⟩ : ByteArray), .int .i64 0, .slice none 0 0]) ?_ 3 _ rfl; (with_reducible repeat (first | refine dn_ ?_ _ | refine dd_ ?_ | refine da_ ?_ _)); refine blk_put (cs := #[.int .i64 a0_0, .int .i64 a0_1, .string (⟨#[]⟩ : ByteArray), .slice none 0 0, .string (⟨#[]⟩ : ByteArray), .int .i64 0, .slice none 0 0]) ?_ 2 _ rfl; (with_reducible repeat (first | refine dn_ ?_ _ | refine dd_ ?_ | refine da_ ?_ _)); refine blk_put (cs := #[.int .i64 a0_0, .int .i64 0, .string (⟨#[]⟩ : ByteArray), .slice none 0 0, .string (⟨#[]⟩ : ByteArray), .int .i64 0, .slice none 0 0]) ?_ 1 _ rfl; (with_reducible repeat (first | refine dn_ ?_ _ | refine dd_ ?_ | refine da_ ?_ _)); refine blk_put (cs := #[.int .i64 0, .int .i64 0, .string (⟨#[]⟩ : ByteArray), .slice none 0 0, .string (⟨#[]⟩ : ByteArray), .int .i64 0, .slice none 0 0]) ?_ 0 _ rfl; (with_reducible repeat (first | refine dn_ ?_ _ | refine dd_ ?_ | refine da_ ?_ _)); refine blk_far ?_ NB259_260.out _; (with_reducible repeat (first | refine dn_ ?_ _ | refine dd_ ?_ | refine da_ ?_ _)); exact BK259.out) Try.underlying44 rfl (by kernel_rfl)) rfl ?_
 exact ⟨_, _, by first | rfl | (simp [errW_none, errW_some] <;> rfl) | (simp [*, errW_none, errW_some] <;> rfl), by (with_reducible repeat (first | apply Kd.R_alloc | apply Kd.R_drewN | apply Kd.R_drew)); exact Kd.R_mono (Kd.R_far (p := ⟨gb259, 6, none⟩) (Kd.R_far (p := ⟨gb259, 5, none⟩) (Kd.R_far (p := ⟨gb259, 4, none⟩) (Kd.R_far (p := ⟨gb259, 3, none⟩) (Kd.R_far (p := ⟨gb259, 2, none⟩) (Kd.R_far (p := ⟨gb259, 1, none⟩) (Kd.R_far (p := ⟨gb259, 0, none⟩) (Kd.R_far (p := ⟨gb260, 6, none⟩) (Kd.R_types (Kd.R_types HO263.out BK260.out (by decide)) BK259.out (by decide)) (fun _ hk => hk.1.2) (.slice Ao17 t264.length co17)) (fun _ hk => hk.2) (.int .i64 a0_0)) (fun _ hk => hk.2) (.int .i64 a0_1)) (fun _ hk => hk.2) (.string a0_2)) (fun _ hk => hk.2) (.slice Ao13 t261.length co13)) (fun _ hk => hk.2) (.string a0_4)) (fun _ hk => hk.2) (.int .i64 a0_5)) (fun _ hk => hk.2) (.slice Ao17 t264.length co17)) (fun _ hk => trivial), by (with_reducible repeat (first | apply Kd.R_alloc | apply Kd.R_drewN | apply Kd.R_drew)); exact Kd.R_mono (Kd.R_far (p := ⟨gb259, 6, none⟩) (Kd.R_far (p := ⟨gb259, 5, none⟩) (Kd.R_far (p := ⟨gb259, 4, none⟩) (Kd.R_far (p := ⟨gb259, 3, none⟩) (Kd.R_far (p := ⟨gb259, 2, none⟩) (Kd.R_far (p := ⟨gb259, 1, none⟩) (Kd.R_far (p := ⟨gb259, 0, none⟩) (Kd.R_far (p := ⟨gb260, 6, none⟩) (Kd.R_types (Kd.R_types HO266.out BK260.out (by decide)) BK259.out (by decide)) (fun _ hk => hk.1.2) (.slice Ao17 t264.length co17)) (fun _ hk => hk.2) (.int .i64 a0_0)) (fun _ hk => hk.2) (.int .i64 a0_1)) (fun _ hk => hk.2) (.string a0_2)) (fun _ hk => hk.2) (.slice Ao13 t261.length co13)) (fun _ hk => hk.2) (.string a0_4)) (fun _ hk => hk.2) (.int .i64 a0_5)) (fun _ hk => hk.2) (.slice Ao17 t264.length co17)) (fun _ hk => trivial), by repeat (first | (with_reducible first | exact HB.out | apply ba_ | apply bn_ | apply b1_ | refine below_set ?_ GE258.out | refine below_set ?_ GE259.out | refine below_set ?_ GE260.out) | exact HB.out)⟩
end Go.Proofs.Ytbgedpicfllclaa.PFnExactAdd
