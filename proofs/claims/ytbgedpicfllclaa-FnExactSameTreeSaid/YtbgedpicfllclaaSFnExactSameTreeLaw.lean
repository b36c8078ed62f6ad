/- The row of FnExactSameTree: it holds for every input. -/
import Derived.Test.YtbgedpicfllclaaRows
import Derived.Test.YtbgedpicfllclaaSFnExactSameTreeOpen
import Derived.Test.YtbgedpicfllclaaSFnExactSameTreex13
import Derived.Test.YtbgedpicfllclaaSFnExactSameTreePure
import Derived.WalkKit
import Derived.ProofKit
import Derived.OpenShut
import Derived.ShutString
import Derived.ChangeOld
import Derived.ChangeMaps5
import Derived.Below
import Derived.SizedLaws
namespace Go.Proofs.Ytbgedpicfllclaa.fnExactSameTree
open Go.ChangeShapes Go.WideShapes Go.ChangeAt Go.RowKit Go.Proofs.YtbgedpicfllclaaW.PrintWords Go.Proofs.Ytbgedpicfllclaa.Open Go.Proofs.Ytbgedpicfllclaa.PFnExactSameTree
open Go.ChangeMaps (open_string shut_string)
set_option linter.unusedVariables false
theorem own : ownKnob Try.prog.godebug = none := by kernel_rfl
theorem laidOut : laidOutB Try.prog = true := by kernel_rfl
instance : Inhabited S89 := ⟨z89⟩
instance : Inhabited S36 := ⟨z36⟩
section
variable {H : Type} {enc : TypeId × Value → H} {W : World}
theorem opensA : Opens enc Try.prog W 89 k89 (fun a => a.f0.size ≤ 9223372036854775807 ∧ a.f1.size ≤ 9223372036854775807) :=
 opens_iso (fun x : S89 => (x.f0, x.f1)) (fun p => ⟨p.1, p.2⟩) (fun _ => rfl) (opens_struct Try.underlying89 (by kernel_rfl) (of_cons rfl (by kernel_rfl) (opens_string Try.underlying9) (of_one rfl (by kernel_rfl) (opens_string Try.underlying9))))
def GR (x : S36) : Prop := (Lit.int .i64 x.f0).wf = true ∧ (Lit.int .i64 x.f1).wf = true ∧ x.f2.size ≤ 9223372036854775807 ∧ (x.f3.length ≤ 9223372036854775807 ∧ ∀ a ∈ x.f3, a.f0.size ≤ 9223372036854775807 ∧ a.f1.size ≤ 9223372036854775807) ∧ x.f4.size ≤ 9223372036854775807 ∧ (Lit.int .i64 x.f5).wf = true ∧ (x.f6.length ≤ 9223372036854775807 ∧ ∀ n ∈ x.f6, (Lit.int .i64 n).wf = true)
theorem opensI : Opens enc Try.prog W 36 k36 GR :=
 opens_iso (fun x : S36 => (x.f0, x.f1, x.f2, x.f3, x.f4, x.f5, x.f6)) (fun p => ⟨p.1, p.2.1, p.2.2.1, p.2.2.2.1, p.2.2.2.2.1, p.2.2.2.2.2.1, p.2.2.2.2.2.2⟩) (fun _ => rfl)
  (opens_struct Try.underlying36 (by kernel_rfl) (of_cons rfl (by kernel_rfl) (opens_int Try.underlying3) (of_cons rfl (by kernel_rfl) (opens_int Try.underlying3) (of_cons rfl (by kernel_rfl) (opens_string Try.underlying9) (of_cons rfl (by kernel_rfl) (opens_slice Try.underlying34 (by kernel_rfl) opensA) (of_cons rfl (by kernel_rfl) (opens_string Try.underlying9) (of_cons rfl (by kernel_rfl) (opens_int Try.underlying3) (of_one rfl (by kernel_rfl) (opens_slice Try.underlying23 (by kernel_rfl) (opens_int Try.underlying3))))))))))
end
set_option maxRecDepth 100000 in
theorem lifted (os : Os) (started : os.Started) (H : Type) (enc : TypeId × Value → H) :
  ReturnsInHanded {} Try.checked os 6 .any (Rows.fnExactSameTreeSpec.pre6 enc Try.prog Try.f6 Rows.fnExactSameTreeRow.domain false) (Rows.fnExactSameTreeSpec.post enc Try.prog Try.f6 false true false false) := by
 refine returnsInHanded_of_change_sized (C := Try.checked) own started (by kernel_rfl) Try.func6
  (ChangeSpec.witness6 (enc := enc) (C := Try.checked) false ⟨#[], #[.slice none 0 0, .slice none 0 0], []⟩ 8 (by kernel_rfl) (by kernel_rfl) (by kernel_rfl) (by kernel_rfl)) ?_
 intro W base args ds gs before hval0 hW hcnd hsz0 _
 have hval : ∀ (j : Nat) t v, Try.f6.params[j]? = some t → args[j]? = some v → Value.okWide Try.prog W .any base t v := hval0
 have hW' := hW
 obtain ⟨p, q, hA0, hV, rfl, hfz, hnd⟩ := hW
 have hA : DataW.TrodAll enc Try.prog W 0 (fun _ => true) true Try.f6.params.toList args.toList ds p := hA0
 rw [Try.params6] at hA hval
 obtain ⟨v0, vs0, d0, ds0, p0, q0, hargs, rfl, rfl, h0, r0⟩ := trodAll_cons hA
 obtain ⟨v1, vs1, d1, ds1, p1, q1, rfl, rfl, rfl, h1, r1⟩ := trodAll_cons r0
 obtain ⟨rfl, rfl, rfl⟩ := trodAll_nil r1
 obtain rfl : args = #[v0, v1] := by cases args; simp_all
 obtain ⟨rfl, rfl⟩ := trodVars_none hV
 obtain ⟨a0, len0, cap0, rfl⟩ := okWide_slice Try.underlying22 (hval 0 22 v0 rfl rfl)
 have k0 := h0
 have lt0 : ∀ x ∈ p0, x.block < W.heap.size := by obtain ⟨m, hm⟩ := k0; exact DataW.trod_lt m _ _ _ hm
 obtain ⟨l0, rfl, hc0, hC0, hg0⟩ := open_row (opens_slice Try.underlying22 (by kernel_rfl) opensI) h0
 obtain ⟨a1, len1, cap1, rfl⟩ := okWide_slice Try.underlying22 (hval 1 22 v1 rfl rfl)
 have k1 := h1
 have lt1 : ∀ x ∈ p1, x.block < W.heap.size := by obtain ⟨m, hm⟩ := k1; exact DataW.trod_lt m _ _ _ hm
 obtain ⟨l1, rfl, hc1, hC1, hg1⟩ := open_row (opens_slice Try.underlying22 (by kernel_rfl) opensI) h1
 clear hA0 hval0 hsz0
 obtain ⟨k, hk⟩ := Pure.FnExactSameTree l0 l1 hC0.2.1 (fun x hx => ⟨(hg0 x hx).2.2.1, (hg0 x hx).2.2.2.1, (hg0 x hx).2.2.2.2.1, (hg0 x hx).2.2.2.2.2.2.1⟩) hC1.2.1 (fun x hx => ⟨(hg1 x hx).2.2.1, (hg1 x hx).2.2.2.1, (hg1 x hx).2.2.2.2.1, (hg1 x hx).2.2.2.2.2.2.1⟩)
 refine (laws_FnExactSameTree.calls k a0 cap0 l0 a1 cap1 l1 true W hC0 hc0 hC1 hc1 hk).mono fun e W' ⟨he, bel0⟩ => ?_
 have bel : Below W.heap.size W W' := bel0
 subst he
 exact ⟨_, rfl, _, _, _, [], _, [], hW', trodAll_mk1 (shut_bool Try.underlying4 _), (trodAll_cons_mk (Below.trod laidOut (by kernel_rfl) (of_decide_eq_true (by kernel_rfl)) k0 bel lt0) (trodAll_cons_mk (Below.trod laidOut (by kernel_rfl) (of_decide_eq_true (by kernel_rfl)) k1 bel lt1) trodAll_mk0)), rfl, bel.frame _, fun h => by cases h⟩
theorem over : Rows.fnExactSameTreeRow.holds Try.pinned (OpenSpec.ofChange Rows.fnExactSameTreeSpec) :=
 OpenClaim.holds_of_wide 6 Try.f6 rfl rfl rfl rfl rfl rfl rfl ⟨rfl, rfl, rfl, rfl, rfl⟩ rfl rfl rfl rfl rfl (by kernel_rfl) Try.func6 (by kernel_rfl)
  (of_decide_eq_true (by kernel_rfl)) (by unfold Func.isWrapper; first | (rw [if_pos (by decide +kernel)]; kernel_rfl) | (rw [if_neg (by decide +kernel)]; exact ⟨rfl, rfl⟩))
  (fun os started H enc _ => lifted os started H enc)
theorem proved : Rows.FnExactSameTreeSaid := over
#print axioms proved
end Go.Proofs.Ytbgedpicfllclaa.fnExactSameTree
namespace Go.Proofs.Ytbgedpicfllclaa
theorem fnExactSameTree_holds : Rows.FnExactSameTreeSaid := fnExactSameTree.proved
end Go.Proofs.Ytbgedpicfllclaa
