/- The row of FnExactAdd: it holds for every input. -/
import Derived.Test.YtbgedpicfllclaaRows
import Derived.Test.YtbgedpicfllclaaSFnExactAddOpen
import Derived.Test.YtbgedpicfllclaaSFnExactAddx15
import Derived.Test.YtbgedpicfllclaaSFnExactAddPure
import Derived.WalkKit
import Derived.ProofKit
import Derived.OpenShut
import Derived.ShutString
import Derived.ChangeOld
import Derived.ChangeMaps5
import Derived.Below
import Derived.SizedLaws
namespace Go.Proofs.Ytbgedpicfllclaa.fnExactAdd
open Go.ChangeShapes Go.WideShapes Go.ChangeAt Go.RowKit Go.Proofs.YtbgedpicfllclaaW.PrintWords Go.Proofs.Ytbgedpicfllclaa.Open Go.Proofs.Ytbgedpicfllclaa.PFnExactAdd
open Go.ChangeMaps (open_string shut_string)
set_option linter.unusedVariables false
theorem own : ownKnob Try.prog.godebug = none := by kernel_rfl
theorem laidOut : laidOutB Try.prog = true := by kernel_rfl
instance : Inhabited S89 := ⟨z89⟩
instance : Inhabited S36 := ⟨z36⟩
section
variable {H : Type} {enc : TypeId × Value → H} {W : World}
theorem opensA : Opens enc Try.prog W 89 k89 (fun a => a.f0.size ≤ 9223372036854775807 ∧ a.f1.size ≤ 9223372036854775807) :=
 opens_iso (fun x : S89 => (x.f0, x.f1)) (fun p => ⟨p.1, p.2⟩) (fun _ => rfl) (opens_struct Try.underlying89 (by kernel_rfl) (of_cons rfl (by kernel_rfl) (opens_string Try.underlying9) (of_one rfl (by kernel_rfl) (opens_string Try.underlying9))))
def GR (x : S36) : Prop := (Lit.int .i64 x.f0).wf = true ∧ (Lit.int .i64 x.f1).wf = true ∧ x.f2.size ≤ 9223372036854775807 ∧ (x.f3.length ≤ 9223372036854775807 ∧ ∀ a ∈ x.f3, a.f0.size ≤ 9223372036854775807 ∧ a.f1.size ≤ 9223372036854775807) ∧ x.f4.size ≤ 9223372036854775807 ∧ (Lit.int .i64 x.f5).wf = true ∧ (x.f6.length ≤ 9223372036854775807 ∧ ∀ n ∈ x.f6, (Lit.int .i64 n).wf = true)
theorem opensI : Opens enc Try.prog W 36 k36 GR :=
 opens_iso (fun x : S36 => (x.f0, x.f1, x.f2, x.f3, x.f4, x.f5, x.f6)) (fun p => ⟨p.1, p.2.1, p.2.2.1, p.2.2.2.1, p.2.2.2.2.1, p.2.2.2.2.2.1, p.2.2.2.2.2.2⟩) (fun _ => rfl)
  (opens_struct Try.underlying36 (by kernel_rfl) (of_cons rfl (by kernel_rfl) (opens_int Try.underlying3) (of_cons rfl (by kernel_rfl) (opens_int Try.underlying3) (of_cons rfl (by kernel_rfl) (opens_string Try.underlying9) (of_cons rfl (by kernel_rfl) (opens_slice Try.underlying34 (by kernel_rfl) opensA) (of_cons rfl (by kernel_rfl) (opens_string Try.underlying9) (of_cons rfl (by kernel_rfl) (opens_int Try.underlying3) (of_one rfl (by kernel_rfl) (opens_slice Try.underlying23 (by kernel_rfl) (opens_int Try.underlying3))))))))))
def kT : Kd (Int × Int × ByteArray × List S89 × ByteArray × Int × List Int) := Kd.pair (Kd.int .i64) (Kd.pair (Kd.int .i64) (Kd.pair Kd.string (Kd.pair (Kd.slice 89 k89) (Kd.pair Kd.string (Kd.pair (Kd.int .i64) (Kd.slice 3 (Kd.int .i64)))))))
set_option maxRecDepth 100000 in
theorem opensT : Opens enc Try.prog W 36 kT (fun v => (Lit.int .i64 v.1).wf = true ∧ (Lit.int .i64 v.2.1).wf = true ∧ v.2.2.1.size ≤ 9223372036854775807 ∧ (v.2.2.2.1.length ≤ 9223372036854775807 ∧ ∀ a ∈ v.2.2.2.1, a.f0.size ≤ 9223372036854775807 ∧ a.f1.size ≤ 9223372036854775807) ∧ v.2.2.2.2.1.size ≤ 9223372036854775807 ∧ (Lit.int .i64 v.2.2.2.2.2.1).wf = true ∧ (v.2.2.2.2.2.2.length ≤ 9223372036854775807 ∧ ∀ n ∈ v.2.2.2.2.2.2, (Lit.int .i64 n).wf = true)) :=
 opens_struct Try.underlying36 (by kernel_rfl) (of_cons rfl (by kernel_rfl) (opens_int Try.underlying3) (of_cons rfl (by kernel_rfl) (opens_int Try.underlying3) (of_cons rfl (by kernel_rfl) (opens_string Try.underlying9) (of_cons rfl (by kernel_rfl) (opens_slice Try.underlying34 (by kernel_rfl) opensA) (of_cons rfl (by kernel_rfl) (opens_string Try.underlying9) (of_cons rfl (by kernel_rfl) (opens_int Try.underlying3) (of_one rfl (by kernel_rfl) (opens_slice Try.underlying23 (by kernel_rfl) (opens_int Try.underlying3)))))))))
end
set_option maxRecDepth 100000 in
theorem lifted (os : Os) (started : os.Started) (H : Type) (enc : TypeId × Value → H) :
  ReturnsInHanded {} Try.checked os 4 .any (Rows.fnExactAddSpec.pre6 enc Try.prog Try.f4 Rows.fnExactAddRow.domain false) (Rows.fnExactAddSpec.post enc Try.prog Try.f4 false true false false) := by
 refine returnsInHanded_of_change_sized (C := Try.checked) own started (by kernel_rfl) Try.func4
  (ChangeSpec.witness6 (enc := enc) (C := Try.checked) false ⟨#[], #[.slice none 0 0, .int .i64 0, .int .i64 0, .agg #[.int .i64 0, .int .i64 0, .string ByteArray.empty, .slice none 0 0, .string ByteArray.empty, .int .i64 0, .slice none 0 0]], []⟩ 8 (by kernel_rfl) (by kernel_rfl) (by kernel_rfl) (by kernel_rfl)) ?_
 intro W base args ds gs before hval0 hW hcnd hsz0 _
 have hval : ∀ (j : Nat) t v, Try.f4.params[j]? = some t → args[j]? = some v → Value.okWide Try.prog W .any base t v := hval0
 have hW' := hW
 obtain ⟨p, q, hA0, hV, rfl, hfz, hnd⟩ := hW
 have hA : DataW.TrodAll enc Try.prog W 0 (fun _ => true) true Try.f4.params.toList args.toList ds p := hA0
 rw [Try.params4] at hA hval
 obtain ⟨v0, vs0, d0, ds0, p0, q0, hargs, rfl, rfl, h0, r0⟩ := trodAll_cons hA
 obtain ⟨v1, vs1, d1, ds1, p1, q1, rfl, rfl, rfl, h1, r1⟩ := trodAll_cons r0
 obtain ⟨v2, vs2, d2, ds2, p2, q2, rfl, rfl, rfl, h2, r2⟩ := trodAll_cons r1
 obtain ⟨v3, vs3, d3, ds3, p3, q3, rfl, rfl, rfl, h3, r3⟩ := trodAll_cons r2
 obtain ⟨rfl, rfl, rfl⟩ := trodAll_nil r3
 obtain rfl : args = #[v0, v1, v2, v3] := by cases args; simp_all
 obtain ⟨rfl, rfl⟩ := trodVars_none hV
 obtain ⟨a0, len0, cap0, rfl⟩ := okWide_slice Try.underlying22 (hval 0 22 v0 rfl rfl)
 have k0 := h0
 have lt0 : ∀ x ∈ p0, x.block < W.heap.size := by obtain ⟨m, hm⟩ := k0; exact DataW.trod_lt m _ _ _ hm
 obtain ⟨l0, rfl, hc0, hC0, hg0⟩ := open_row (opens_slice Try.underlying22 (by kernel_rfl) opensI) h0
 obtain ⟨a1, rfl, rfl, rfl, w1⟩ := open_int Try.underlying3 (hval 1 3 v1 rfl rfl) h1
 obtain ⟨a2, rfl, rfl, rfl, w2⟩ := open_int Try.underlying3 (hval 2 3 v2 rfl rfl) h2
 obtain ⟨cs3, rfl, hcs3⟩ := okWide_struct Try.underlying36 (hval 3 36 v3 rfl rfl)
 have k3 := h3
 have lt3 : ∀ x ∈ p3, x.block < W.heap.size := by obtain ⟨m, hm⟩ := k3; exact DataW.trod_lt m _ _ _ hm
 obtain ⟨fuel3, hf3⟩ := h3
 obtain ⟨⟨x03, x13, x23, x33, x43, x53, x63⟩, hK3, _, _, hg23, hg33, hg43, _, ⟨hg63, _⟩⟩ := opensT _ _ _ hf3
 obtain ⟨_, _, he3, e03, _, _, rfl, e13, _, _, rfl, e23, _, _, rfl, ⟨A33, C33, rfl, hc33, hC33⟩, _, _, rfl, e43, _, _, rfl, e53, ⟨A63, C63, rfl, hc63, hC63⟩⟩ := hK3
 cases e03
 cases e13
 cases e23
 cases e43
 cases e53
 obtain rfl : cs3 = #[.int .i64 x03, .int .i64 x13, .string x23, .slice A33 x33.length C33, .string x43, .int .i64 x53, .slice A63 x63.length C63] := by
  apply Array.ext'
  simpa [Value.cells] using he3
 clear hA0 hval0 hsz0
 obtain ⟨k, hk⟩ := Pure.FnExactAdd l0 a1 a2 x03 x13 x23 x33 x43 x53 x63 hC0.2.1 (fun x hx => ⟨(hg0 x hx).2.2.1, (hg0 x hx).2.2.2.1, (hg0 x hx).2.2.2.2.1, (hg0 x hx).2.2.2.2.2.2.1⟩) ⟨hg23, hg33, hg43, hg63⟩
 refine (laws_FnExactAdd.calls k a0 cap0 l0 a1 a2 x03 x13 x23 A33 C33 x33 x43 x53 A63 C63 x63 true W hC0 hc0 hC33 hc33 hC63 hc63 hk).mono fun e W' ⟨he, bel0⟩ => ?_
 have bel : Below W.heap.size W W' := bel0
 subst he
 exact ⟨_, rfl, _, _, _, [], _, [], hW', trodAll_mk1 (shut_bool Try.underlying4 _), (trodAll_cons_mk (Below.trod laidOut (by kernel_rfl) (of_decide_eq_true (by kernel_rfl)) k0 bel lt0) (trodAll_cons_mk (shut_int Try.underlying3 w1) (trodAll_cons_mk (shut_int Try.underlying3 w2) (trodAll_cons_mk (Below.trod laidOut (by kernel_rfl) (of_decide_eq_true (by kernel_rfl)) k3 bel lt3) trodAll_mk0)))), rfl, bel.frame _, fun h => by cases h⟩
theorem over : Rows.fnExactAddRow.holds Try.pinned (OpenSpec.ofChange Rows.fnExactAddSpec) :=
 OpenClaim.holds_of_wide 4 Try.f4 rfl rfl rfl rfl rfl rfl rfl ⟨rfl, rfl, rfl, rfl, rfl⟩ rfl rfl rfl rfl rfl (by kernel_rfl) Try.func4 (by kernel_rfl)
  (of_decide_eq_true (by kernel_rfl)) (by unfold Func.isWrapper; first | (rw [if_pos (by decide +kernel)]; kernel_rfl) | (rw [if_neg (by decide +kernel)]; exact ⟨rfl, rfl⟩))
  (fun os started H enc _ => lifted os started H enc)
theorem proved : Rows.FnExactAddSaid := over
#print axioms proved
end Go.Proofs.Ytbgedpicfllclaa.fnExactAdd
namespace Go.Proofs.Ytbgedpicfllclaa
theorem fnExactAdd_holds : Rows.FnExactAddSaid := fnExactAdd.proved
end Go.Proofs.Ytbgedpicfllclaa
