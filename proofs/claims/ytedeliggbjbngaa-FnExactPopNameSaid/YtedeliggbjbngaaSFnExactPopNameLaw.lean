/- The row of FnExactPopName: it holds for every input. -/
import Derived.Test.YtedeliggbjbngaaRows
import Derived.Test.YtedeliggbjbngaaSFnExactPopNameOpen
import Derived.Test.YtedeliggbjbngaaSFnExactPopNamex11
import Derived.Test.YtedeliggbjbngaaSFnExactPopNamePure
import Derived.WalkKit
import Derived.ProofKit
import Derived.OpenShut
import Derived.ShutString
import Derived.ChangeOld
import Derived.ChangeMaps5
import Derived.Below
import Derived.SizedLaws
namespace Go.Proofs.Ytedeliggbjbngaa.fnExactPopName
open Go.ChangeShapes Go.WideShapes Go.ChangeAt Go.RowKit Go.Proofs.YtedeliggbjbngaaW.PrintWords Go.Proofs.Ytedeliggbjbngaa.Open Go.Proofs.Ytedeliggbjbngaa.PFnExactPopName
open Go.ChangeMaps (open_string shut_string)
set_option linter.unusedVariables false
theorem own : ownKnob Try.prog.godebug = none := by kernel_rfl
theorem laidOut : laidOutB Try.prog = true := by kernel_rfl
instance : Inhabited S86 := ⟨z86⟩
instance : Inhabited S64 := ⟨z64⟩
section
variable {H : Type} {enc : TypeId × Value → H} {W : World}
theorem opensA : Opens enc Try.prog W 86 k86 (fun a => a.f0.size ≤ 9223372036854775807 ∧ a.f1.size ≤ 9223372036854775807) :=
 opens_iso (fun x : S86 => (x.f0, x.f1)) (fun p => ⟨p.1, p.2⟩) (fun _ => rfl) (opens_struct Try.underlying86 (by kernel_rfl) (of_cons rfl (by kernel_rfl) (opens_string Try.underlying9) (of_one rfl (by kernel_rfl) (opens_string Try.underlying9))))
def GR (x : S64) : Prop := (Lit.int .i64 x.f0).wf = true ∧ (Lit.int .i64 x.f1).wf = true ∧ x.f2.size ≤ 9223372036854775807 ∧ (x.f3.length ≤ 9223372036854775807 ∧ ∀ a ∈ x.f3, a.f0.size ≤ 9223372036854775807 ∧ a.f1.size ≤ 9223372036854775807) ∧ x.f4.size ≤ 9223372036854775807 ∧ (Lit.int .i64 x.f5).wf = true ∧ (x.f6.length ≤ 9223372036854775807 ∧ ∀ n ∈ x.f6, (Lit.int .i64 n).wf = true)
theorem opensI : Opens enc Try.prog W 64 k64 GR :=
 opens_iso (fun x : S64 => (x.f0, x.f1, x.f2, x.f3, x.f4, x.f5, x.f6)) (fun p => ⟨p.1, p.2.1, p.2.2.1, p.2.2.2.1, p.2.2.2.2.1, p.2.2.2.2.2.1, p.2.2.2.2.2.2⟩) (fun _ => rfl)
  (opens_struct Try.underlying64 (by kernel_rfl) (of_cons rfl (by kernel_rfl) (opens_int Try.underlying3) (of_cons rfl (by kernel_rfl) (opens_int Try.underlying3) (of_cons rfl (by kernel_rfl) (opens_string Try.underlying9) (of_cons rfl (by kernel_rfl) (opens_slice Try.underlying62 (by kernel_rfl) opensA) (of_cons rfl (by kernel_rfl) (opens_string Try.underlying9) (of_cons rfl (by kernel_rfl) (opens_int Try.underlying3) (of_one rfl (by kernel_rfl) (opens_slice Try.underlying23 (by kernel_rfl) (opens_int Try.underlying3))))))))))
def kP : Kd (List S64 × List Int × List Int × Int × Int) := Kd.pair (Kd.slice 64 k64) (Kd.pair (Kd.slice 3 (Kd.int .i64)) (Kd.pair (Kd.slice 3 (Kd.int .i64)) (Kd.pair (Kd.int .i64) (Kd.int .i64))))
set_option maxRecDepth 100000 in
theorem opensP : Opens enc Try.prog W 32 kP (fun v => (v.1.length ≤ 9223372036854775807 ∧ ∀ x ∈ v.1, GR x) ∧ (v.2.1.length ≤ 9223372036854775807 ∧ ∀ n ∈ v.2.1, (Lit.int .i64 n).wf = true) ∧ (v.2.2.1.length ≤ 9223372036854775807 ∧ ∀ n ∈ v.2.2.1, (Lit.int .i64 n).wf = true) ∧ (Lit.int .i64 v.2.2.2.1).wf = true ∧ (Lit.int .i64 v.2.2.2.2).wf = true) :=
 opens_struct Try.underlying32 (by kernel_rfl) (of_cons rfl (by kernel_rfl) (opens_slice Try.underlying30 (by kernel_rfl) opensI) (of_cons rfl (by kernel_rfl) (opens_slice Try.underlying23 (by kernel_rfl) (opens_int Try.underlying3)) (of_cons rfl (by kernel_rfl) (opens_slice Try.underlying23 (by kernel_rfl) (opens_int Try.underlying3)) (of_cons rfl (by kernel_rfl) (opens_int Try.underlying3) (of_one rfl (by kernel_rfl) (opens_int Try.underlying3))))))
end
set_option maxRecDepth 100000 in
theorem lifted (os : Os) (started : os.Started) (H : Type) (enc : TypeId × Value → H) :
  ReturnsInHanded {} Try.checked os 8 .any (Rows.fnExactPopNameSpec.pre6 enc Try.prog Try.f8 Rows.fnExactPopNameRow.domain false) (Rows.fnExactPopNameSpec.post enc Try.prog Try.f8 false true false false) := by
 refine returnsInHanded_of_change_sized (C := Try.checked) own started (by kernel_rfl) Try.func8
  (ChangeSpec.witness6 (enc := enc) (C := Try.checked) false ⟨#[], #[.agg #[.slice none 0 0, .slice none 0 0, .slice none 0 0, .int .i64 0, .int .i64 0], .string ByteArray.empty], []⟩ 8 (by kernel_rfl) (by kernel_rfl) (by kernel_rfl) (by kernel_rfl)) ?_
 intro W base args ds gs before hval0 hW hcnd hsz0 _
 have hval : ∀ (j : Nat) t v, Try.f8.params[j]? = some t → args[j]? = some v → Value.okWide Try.prog W .any base t v := hval0
 have hW' := hW
 obtain ⟨p, q, hA0, hV, rfl, hfz, hnd⟩ := hW
 have hA : DataW.TrodAll enc Try.prog W 0 (fun _ => true) true Try.f8.params.toList args.toList ds p := hA0
 rw [Try.params8] at hA hval
 obtain ⟨v0, vs0, d0, ds0, p0, q0, hargs, rfl, rfl, h0, r0⟩ := trodAll_cons hA
 obtain ⟨v1, vs1, d1, ds1, p1, q1, rfl, rfl, rfl, h1, r1⟩ := trodAll_cons r0
 obtain ⟨rfl, rfl, rfl⟩ := trodAll_nil r1
 obtain rfl : args = #[v0, v1] := by cases args; simp_all
 obtain ⟨rfl, rfl⟩ := trodVars_none hV
 obtain ⟨cs0, rfl, hcs0⟩ := okWide_struct Try.underlying32 (hval 0 32 v0 rfl rfl)
 have k0 := h0
 have lt0 : ∀ x ∈ p0, x.block < W.heap.size := by obtain ⟨m, hm⟩ := k0; exact DataW.trod_lt m _ _ _ hm
 obtain ⟨fuel0, hf0⟩ := h0
 obtain ⟨⟨l0, o0, f0, a0, b0⟩, hK0, ⟨hgl10, hgl0⟩, ⟨hgo0, _⟩, ⟨hgf0, _⟩, _, _⟩ := opensP _ _ _ hf0
 obtain ⟨_, _, he0, ⟨A00, C00, rfl, hc00, hC00⟩, _, _, rfl, ⟨A10, C10, rfl, hc10, hC10⟩, _, _, rfl, ⟨A20, C20, rfl, hc20, hC20⟩, _, _, rfl, e80, e90⟩ := hK0
 cases e80
 cases e90
 obtain rfl : cs0 = #[.slice A00 l0.length C00, .slice A10 o0.length C10, .slice A20 f0.length C20, .int .i64 a0, .int .i64 b0] := by
  apply Array.ext'
  simpa [Value.cells] using he0
 obtain ⟨a1, rfl, rfl, rfl, y1⟩ := open_string Try.underlying9 (hval 1 9 v1 rfl rfl) h1
 clear hA0 hval0 hsz0
 obtain ⟨k, hk⟩ := Pure.FnExactPopName l0 o0 f0 a0 b0 a1 hgl10 hgo0 hgf0 (fun x hx => ⟨(hgl0 x hx).2.2.1, (hgl0 x hx).2.2.2.1, (hgl0 x hx).2.2.2.2.1, (hgl0 x hx).2.2.2.2.2.2.1⟩) y1
 refine (laws_FnExactPopName.calls k A00 C00 l0 A10 C10 o0 A20 C20 f0 a0 b0 a1 true W hC00 hc00 hC10 hc10 hC20 hc20 hk).mono fun e W' ⟨he, bel0⟩ => ?_
 have bel : Below W.heap.size W W' := bel0
 subst he
 exact ⟨_, rfl, _, _, _, [], _, [], hW', trodAll_mk1 (shut_bool Try.underlying4 _), (trodAll_cons_mk (Below.trod laidOut (by kernel_rfl) (of_decide_eq_true (by kernel_rfl)) k0 bel lt0) (trodAll_cons_mk (shut_string Try.underlying9 y1) trodAll_mk0)), rfl, bel.frame _, fun h => by cases h⟩
theorem over : Rows.fnExactPopNameRow.holds Try.pinned (OpenSpec.ofChange Rows.fnExactPopNameSpec) :=
 OpenClaim.holds_of_wide 8 Try.f8 rfl rfl rfl rfl rfl rfl rfl ⟨rfl, rfl, rfl, rfl, rfl⟩ rfl rfl rfl rfl rfl (by kernel_rfl) Try.func8 (by kernel_rfl)
  (of_decide_eq_true (by kernel_rfl)) (by unfold Func.isWrapper; first | (rw [if_pos (by decide +kernel)]; kernel_rfl) | (rw [if_neg (by decide +kernel)]; exact ⟨rfl, rfl⟩))
  (fun os started H enc _ => lifted os started H enc)
theorem proved : Rows.FnExactPopNameSaid := over
#print axioms proved
end Go.Proofs.Ytedeliggbjbngaa.fnExactPopName
namespace Go.Proofs.Ytedeliggbjbngaa
theorem fnExactPopName_holds : Rows.FnExactPopNameSaid := fnExactPopName.proved
end Go.Proofs.Ytedeliggbjbngaa
