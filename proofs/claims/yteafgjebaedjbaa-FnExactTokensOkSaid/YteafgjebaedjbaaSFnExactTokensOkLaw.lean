/- The row of FnExactTokensOk: it holds for every input. -/
import Derived.Test.YteafgjebaedjbaaRows
import Derived.Test.YteafgjebaedjbaaSFnExactTokensOkOpen
import Derived.Test.YteafgjebaedjbaaSFnExactTokensOkx18
import Derived.Test.YteafgjebaedjbaaSFnExactTokensOkPure
import Derived.WalkKit
import Derived.ProofKit
import Derived.OpenShut
import Derived.ShutString
import Derived.ChangeOld
import Derived.ChangeMaps5
import Derived.Below
import Derived.SizedLaws
import Derived.HandedShaped
namespace Go.Proofs.Yteafgjebaedjbaa.fnExactTokensOk
open Go.ChangeShapes Go.WideShapes Go.ChangeAt Go.RowKit Go.Proofs.YteafgjebaedjbaaW.PrintWords Go.Proofs.Yteafgjebaedjbaa.Open Go.Proofs.Yteafgjebaedjbaa.PFnExactTokensOk
open Go.ChangeMaps (open_string shut_string)
set_option linter.unusedVariables false
theorem own : ownKnob Try.prog.godebug = none := by kernel_rfl
theorem laidOut : laidOutB Try.prog = true := by kernel_rfl
instance : Inhabited S115 := ⟨z115⟩
instance : Inhabited S83 := ⟨z83⟩
section
variable {H : Type} {enc : TypeId × Value → H} {W : World}
theorem opensA : Opens enc Try.prog W 115 k115 (fun a => a.f0.size ≤ 9223372036854775807 ∧ a.f1.size ≤ 9223372036854775807) :=
 opens_iso (fun x : S115 => (x.f0, x.f1)) (fun p => ⟨p.1, p.2⟩) (fun _ => rfl) (opens_struct Try.underlying115 (by kernel_rfl) (of_cons rfl (by kernel_rfl) (opens_string Try.underlying9) (of_one rfl (by kernel_rfl) (opens_string Try.underlying9))))
def GK (x : S83) : Prop := (Lit.int .i64 x.f0).wf = true ∧ x.f1.size ≤ 9223372036854775807 ∧ (x.f2.length ≤ 9223372036854775807 ∧ ∀ a ∈ x.f2, a.f0.size ≤ 9223372036854775807 ∧ a.f1.size ≤ 9223372036854775807) ∧ x.f3.size ≤ 9223372036854775807 ∧ True
theorem opensK : Opens enc Try.prog W 83 k83 GK :=
 opens_iso (fun x : S83 => (x.f0, x.f1, x.f2, x.f3, x.f4)) (fun p => ⟨p.1, p.2.1, p.2.2.1, p.2.2.2.1, p.2.2.2.2⟩) (fun _ => rfl)
  (opens_struct Try.underlying83 (by kernel_rfl) (of_cons rfl (by kernel_rfl) (opens_int Try.underlying3) (of_cons rfl (by kernel_rfl) (opens_string Try.underlying9) (of_cons rfl (by kernel_rfl) (opens_slice Try.underlying81 (by kernel_rfl) opensA) (of_cons rfl (by kernel_rfl) (opens_string Try.underlying9) (of_one rfl (by kernel_rfl) (opens_bool Try.underlying4)))))))
end
set_option maxRecDepth 100000 in
theorem lifted (os : Os) (started : os.Started) (H : Type) (enc : TypeId × Value → H) :
  ReturnsInHanded {} Try.checked os 8 .any (Rows.fnExactTokensOkSpec.pre6 enc Try.prog Try.f8 Rows.fnExactTokensOkRow.domain false) (Rows.fnExactTokensOkSpec.post enc Try.prog Try.f8 false true false false) := by
 refine returnsInHanded_of_change_shaped (C := Try.checked) own started (by kernel_rfl) Try.func8
  (ChangeSpec.witness6 (enc := enc) (C := Try.checked) false ⟨#[], #[.slice none 0 0], []⟩ 8 (by kernel_rfl) (by kernel_rfl) (by kernel_rfl) (by kernel_rfl)) ?_
 intro W base args ds gs before hval0 hW hcnd hsz0 hsh _
 have hval : ∀ (j : Nat) t v, Try.f8.params[j]? = some t → args[j]? = some v → Value.okWide Try.prog W .any base t v := hval0
 have hW' := hW
 obtain ⟨p, q, hA0, hV, rfl, hfz, hnd⟩ := hW
 have hA : DataW.TrodAll enc Try.prog W 0 (fun _ => true) true Try.f8.params.toList args.toList ds p := hA0
 rw [Try.params8] at hA hval
 obtain ⟨v0, vs0, d0, ds0, p0, q0, hargs, rfl, rfl, h0, r0⟩ := trodAll_cons hA
 obtain ⟨rfl, rfl, rfl⟩ := trodAll_nil r0
 obtain rfl : args = #[v0] := by cases args; simp_all
 obtain ⟨rfl, rfl⟩ := trodVars_none hV
 obtain ⟨a0, len0, cap0, rfl⟩ := okWide_slice Try.underlying43 (hval 0 43 v0 rfl rfl)
 have k0 := h0
 have lt0 : ∀ x ∈ p0, x.block < W.heap.size := by obtain ⟨m, hm⟩ := k0; exact DataW.trod_lt m _ _ _ hm
 obtain ⟨l0, rfl, hc0, hC0, hg0⟩ := open_row (opens_slice Try.underlying43 (by kernel_rfl) opensK) h0
 clear hA0 hval0 hsz0
 obtain ⟨k, hk⟩ := Pure.FnExactTokensOk l0 hC0.2.1 (fun x hx => ⟨(hg0 x hx).2.1, (hg0 x hx).2.2.1, (hg0 x hx).2.2.2.1⟩)
 refine (laws_FnExactTokensOk.calls k a0 cap0 l0 true W hC0 hc0 (MaxSeen.of_shaped hsh) hk).mono fun e W' ⟨he, bel0⟩ => ?_
 have bel : Below W.heap.size W W' := bel0
 subst he
 exact ⟨_, rfl, _, _, _, [], _, [], hW', trodAll_mk1 (shut_bool Try.underlying4 _), (trodAll_cons_mk (Below.trod laidOut (by kernel_rfl) (of_decide_eq_true (by kernel_rfl)) k0 bel lt0) trodAll_mk0), rfl, bel.frame _, fun h => by cases h⟩
theorem over : Rows.fnExactTokensOkRow.holds Try.pinned (OpenSpec.ofChange Rows.fnExactTokensOkSpec) :=
 OpenClaim.holds_of_wide 8 Try.f8 rfl rfl rfl rfl rfl rfl rfl ⟨rfl, rfl, rfl, rfl, rfl⟩ rfl rfl rfl rfl rfl (by kernel_rfl) Try.func8 (by kernel_rfl)
  (of_decide_eq_true (by kernel_rfl)) (by unfold Func.isWrapper; first | (rw [if_pos (by decide +kernel)]; kernel_rfl) | (rw [if_neg (by decide +kernel)]; exact ⟨rfl, rfl⟩))
  (fun os started H enc _ => lifted os started H enc)
theorem proved : Rows.FnExactTokensOkSaid := over
#print axioms proved
end Go.Proofs.Yteafgjebaedjbaa.fnExactTokensOk
namespace Go.Proofs.Yteafgjebaedjbaa
theorem fnExactTokensOk_holds : Rows.FnExactTokensOkSaid := fnExactTokensOk.proved
end Go.Proofs.Yteafgjebaedjbaa
