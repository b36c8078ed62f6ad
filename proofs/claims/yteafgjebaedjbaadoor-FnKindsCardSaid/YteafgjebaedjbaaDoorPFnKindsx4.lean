-- Written by this session's program wip/gen (the print, with contracts of our own beside it). Lean checks it.
import Derived.Test.YteafgjebaedjbaaDoorPFnKindsx0
import Derived.Test.YteafgjebaedjbaaDoorPFnKindsx1
import Derived.Test.YteafgjebaedjbaaDoorPFnKindsx2
import Derived.Test.YteafgjebaedjbaaDoorPFnKindsx3
namespace Go.Proofs.YteafgjebaedjbaaDoor.PFnKinds
open Go.RowKit Go.Proofs.YteafgjebaedjbaaDoorW.PrintWords Go.Proofs.YteafgjebaedjbaaDoorW.PrintLast Go.Proofs.YteafgjebaedjbaaDoorW.PrintMore
attribute [local go_sem] max2_int min2_int max_two min_two max_three min_three max_four min_four   -- for this text's walks alone
set_option linter.unusedVariables false
set_option linter.unusedSimpArgs false

/-! ### laws_FnKinds: function 4 -/
def laws_FnKinds.j0 : Nat → Int → ByteArray → ByteArray → Bool → Option (Bool)
  | 0, _, _, _, _ => none
  | k + 1, x6, x8, x9, x72 => if x72 = true then (some false) else ((impl_IsFirst.f x6).bind fun t239 => (if t239 = true then ((impl_IsNext.f x6).bind fun t240 => (if t240 = true then ((impl_IsText.f x6).bind fun t241 => (if t241 = true then ((impl_Small.f x8).bind fun t242 => ((impl_Small.f t242).bind fun t243 => ((impl_Small.f x8).bind fun t244 => (if t243.toList = t244.toList then ((impl_Lines.f x9).bind fun t245 => ((impl_Lines.f t245).bind fun t246 => ((impl_Lines.f x9).bind fun t247 => (if t246.toList = t247.toList then ((impl_Lines.f x9).bind fun t248 => (some (decide ((t248.size : Int) ≤ (x9.size : Int))))) else (some false))))) else (some false))))) else (some false))) else (some false))) else ((impl_Small.f x8).bind fun t249 => ((impl_Small.f t249).bind fun t250 => ((impl_Small.f x8).bind fun t251 => (if t250.toList = t251.toList then ((impl_Lines.f x9).bind fun t252 => ((impl_Lines.f t252).bind fun t253 => ((impl_Lines.f x9).bind fun t254 => (if t253.toList = t254.toList then ((impl_Lines.f x9).bind fun t255 => (some (decide ((t255.size : Int) ≤ (x9.size : Int))))) else (some false))))) else (some false)))))))
def laws_FnKinds.f (k : Nat) (l0 : List Int) : Option (Bool) := (laws_big.f l0).bind fun t217 => (if t217 = true then (some true) else ((spec_DrawIsBlank.f k l0).bind fun t218 => ((spec_DrawIsLetter.f k l0).bind fun t219 => ((spec_DrawIsText.f k l0).bind fun t220 => ((spec_DrawIsFirst.f k l0).bind fun t221 => ((spec_DrawIsNext.f k l0).bind fun t222 => ((spec_DrawSmall.f k l0).bind fun t223 => ((spec_DrawLines.f k l0).bind fun t224 => ((impl_IsBlank.f t218).bind fun t225 => ((spec_IsBlank.f t218).bind fun t226 => (if (t225 != t226) = true then (laws_FnKinds.j0 k t221 t223 t224 true) else ((impl_IsLetter.f t219).bind fun t227 => ((spec_IsLetter.f t219).bind fun t228 => (if (t227 != t228) = true then (laws_FnKinds.j0 k t221 t223 t224 true) else ((impl_IsText.f t220).bind fun t229 => ((spec_IsText.f t220).bind fun t230 => (if (t229 != t230) = true then (laws_FnKinds.j0 k t221 t223 t224 true) else ((impl_IsFirst.f t221).bind fun t231 => ((spec_IsFirst.f k t221).bind fun t232 => (if (t231 != t232) = true then (laws_FnKinds.j0 k t221 t223 t224 true) else ((impl_IsNext.f t222).bind fun t233 => ((spec_IsNext.f k t222).bind fun t234 => (if (t233 != t234) = true then (laws_FnKinds.j0 k t221 t223 t224 true) else ((impl_Small.f t223).bind fun t235 => ((spec_Small.f t223).bind fun t236 => (if t235.toList = t236.toList then ((impl_Lines.f t224).bind fun t237 => ((spec_Lines.f t224).bind fun t238 => (laws_FnKinds.j0 k t221 t223 t224 (t237.toList != t238.toList)))) else (laws_FnKinds.j0 k t221 t223 t224 true)))))))))))))))))))))))))))
theorem laws_FnKinds.mono_l : ∀ k, (∀ y0 y1 y2 y3, LeO (laws_FnKinds.j0 k y0 y1 y2 y3) (laws_FnKinds.j0 (k + 1) y0 y1 y2 y3))
  | 0 => fun _ _ _ _ r h => by simp [laws_FnKinds.j0] at h
  | k + 1 => by
    have ih0 := laws_FnKinds.mono_l k
    · intro y0 y1 y2 y3
      unfold laws_FnKinds.j0
      repeat' first
      | (with_reducible exact ih0 _ _ _ _)
      | (with_reducible exact spec_DrawIsBlank.mono _ _)
      | (with_reducible exact spec_DrawIsFirst.mono _ _)
      | (with_reducible exact spec_DrawIsLetter.mono _ _)
      | (with_reducible exact spec_DrawIsNext.mono _ _)
      | (with_reducible exact spec_DrawIsText.mono _ _)
      | (with_reducible exact spec_DrawLines.mono _ _)
      | (with_reducible exact spec_DrawSmall.mono _ _)
      | (with_reducible exact spec_IsFirst.mono _ _)
      | (with_reducible exact spec_IsNext.mono _ _)
      | (with_reducible exact LeO.refl _)
      | (with_reducible exact LeO.none _)
      | (with_reducible refine LeO.ite ?_ ?_)
      | (with_reducible refine LeO.bind ?_ (fun _ => ?_))
      | exact ih0 _ _ _ _
      | exact spec_DrawIsBlank.mono _ _
      | exact spec_DrawIsFirst.mono _ _
      | exact spec_DrawIsLetter.mono _ _
      | exact spec_DrawIsNext.mono _ _
      | exact spec_DrawIsText.mono _ _
      | exact spec_DrawLines.mono _ _
      | exact spec_DrawSmall.mono _ _
      | exact spec_IsFirst.mono _ _
      | exact spec_IsNext.mono _ _
      | exact LeO.none _
      | refine LeO.ite ?_ ?_
      | refine LeO.bind ?_ (fun _ => ?_)
theorem laws_FnKinds.mono : ∀ a0 k, LeO (laws_FnKinds.f k a0) (laws_FnKinds.f (k + 1) a0) := by
  intro a0 k
  have ih0 := laws_FnKinds.mono_l k
  unfold laws_FnKinds.f
  repeat' first
      | (with_reducible exact ih0 _ _ _ _)
      | (with_reducible exact spec_DrawIsBlank.mono _ _)
      | (with_reducible exact spec_DrawIsFirst.mono _ _)
      | (with_reducible exact spec_DrawIsLetter.mono _ _)
      | (with_reducible exact spec_DrawIsNext.mono _ _)
      | (with_reducible exact spec_DrawIsText.mono _ _)
      | (with_reducible exact spec_DrawLines.mono _ _)
      | (with_reducible exact spec_DrawSmall.mono _ _)
      | (with_reducible exact spec_IsFirst.mono _ _)
      | (with_reducible exact spec_IsNext.mono _ _)
      | (with_reducible exact LeO.refl _)
      | (with_reducible exact LeO.none _)
      | (with_reducible refine LeO.ite ?_ ?_)
      | (with_reducible refine LeO.bind ?_ (fun _ => ?_))
      | exact ih0 _ _ _ _
      | exact spec_DrawIsBlank.mono _ _
      | exact spec_DrawIsFirst.mono _ _
      | exact spec_DrawIsLetter.mono _ _
      | exact spec_DrawIsNext.mono _ _
      | exact spec_DrawIsText.mono _ _
      | exact spec_DrawLines.mono _ _
      | exact spec_DrawSmall.mono _ _
      | exact spec_IsFirst.mono _ _
      | exact spec_IsNext.mono _ _
      | exact LeO.none _
      | refine LeO.ite ?_ ?_
      | refine LeO.bind ?_ (fun _ => ?_)
set_option maxHeartbeats 8000000 in
set_option maxRecDepth 100000 in
theorem laws_FnKinds.calls (k : Nat) (A0 : Option Addr) (c0 : Nat) (l0 : List Int) (r : Bool) (w : World) (hr0 : Kd.C (Kd.int .u8) w A0 l0.length l0) (hc0 : l0.length ≤ c0) (hG : MaxSeen w) (h : laws_FnKinds.f k l0 = some r) :
    Calls Tryd.prog 4 #[.slice A0 l0.length c0] w fun e w' => e = .returned (.bool r) ∧ Below w.heap.size w w' := by
  have HR0 := Aside0.mk hr0
  have HC0 := Aside0.mk hc0
  clear hr0 hc0
  have HB := Aside0.mk (Below.refl w.heap.size w)
  have HG := Aside0.mk hG
  clear hG
  have H : ((laws_big.f l0).bind fun t217 => (if t217 = true then (some true) else ((spec_DrawIsBlank.f k l0).bind fun t218 => ((spec_DrawIsLetter.f k l0).bind fun t219 => ((spec_DrawIsText.f k l0).bind fun t220 => ((spec_DrawIsFirst.f k l0).bind fun t221 => ((spec_DrawIsNext.f k l0).bind fun t222 => ((spec_DrawSmall.f k l0).bind fun t223 => ((spec_DrawLines.f k l0).bind fun t224 => ((impl_IsBlank.f t218).bind fun t225 => ((spec_IsBlank.f t218).bind fun t226 => (if (t225 != t226) = true then (laws_FnKinds.j0 k t221 t223 t224 true) else ((impl_IsLetter.f t219).bind fun t227 => ((spec_IsLetter.f t219).bind fun t228 => (if (t227 != t228) = true then (laws_FnKinds.j0 k t221 t223 t224 true) else ((impl_IsText.f t220).bind fun t229 => ((spec_IsText.f t220).bind fun t230 => (if (t229 != t230) = true then (laws_FnKinds.j0 k t221 t223 t224 true) else ((impl_IsFirst.f t221).bind fun t231 => ((spec_IsFirst.f k t221).bind fun t232 => (if (t231 != t232) = true then (laws_FnKinds.j0 k t221 t223 t224 true) else ((impl_IsNext.f t222).bind fun t233 => ((spec_IsNext.f k t222).bind fun t234 => (if (t233 != t234) = true then (laws_FnKinds.j0 k t221 t223 t224 true) else ((impl_Small.f t223).bind fun t235 => ((spec_Small.f t223).bind fun t236 => (if t235.toList = t236.toList then ((impl_Lines.f t224).bind fun t237 => ((spec_Lines.f t224).bind fun t238 => (laws_FnKinds.j0 k t221 t223 t224 (t237.toList != t238.toList)))) else (laws_FnKinds.j0 k t221 t223 t224 true)))))))))))))))))))))))))))) = some r := h
  clear h
  replace H := Option.bind_eq_some_iff.mp H
  obtain ⟨t217, A20, H⟩ := H
  replace H : (if t217 = true then (some true) else ((spec_DrawIsBlank.f k l0).bind fun t218 => ((spec_DrawIsLetter.f k l0).bind fun t219 => ((spec_DrawIsText.f k l0).bind fun t220 => ((spec_DrawIsFirst.f k l0).bind fun t221 => ((spec_DrawIsNext.f k l0).bind fun t222 => ((spec_DrawSmall.f k l0).bind fun t223 => ((spec_DrawLines.f k l0).bind fun t224 => ((impl_IsBlank.f t218).bind fun t225 => ((spec_IsBlank.f t218).bind fun t226 => (if (t225 != t226) = true then (laws_FnKinds.j0 k t221 t223 t224 true) else ((impl_IsLetter.f t219).bind fun t227 => ((spec_IsLetter.f t219).bind fun t228 => (if (t227 != t228) = true then (laws_FnKinds.j0 k t221 t223 t224 true) else ((impl_IsText.f t220).bind fun t229 => ((spec_IsText.f t220).bind fun t230 => (if (t229 != t230) = true then (laws_FnKinds.j0 k t221 t223 t224 true) else ((impl_IsFirst.f t221).bind fun t231 => ((spec_IsFirst.f k t221).bind fun t232 => (if (t231 != t232) = true then (laws_FnKinds.j0 k t221 t223 t224 true) else ((impl_IsNext.f t222).bind fun t233 => ((spec_IsNext.f k t222).bind fun t234 => (if (t233 != t234) = true then (laws_FnKinds.j0 k t221 t223 t224 true) else ((impl_Small.f t223).bind fun t235 => ((spec_Small.f t223).bind fun t236 => (if t235.toList = t236.toList then ((impl_Lines.f t224).bind fun t237 => ((spec_Lines.f t224).bind fun t238 => (laws_FnKinds.j0 k t221 t223 t224 (t237.toList != t238.toList)))) else (laws_FnKinds.j0 k t221 t223 t224 true))))))))))))))))))))))))))) = some r := H
  have A2 := Aside0.mk A20
  clear A20
  by_cases c3 : t217 = true
  · subst c3
    have H1 : (some true) = some r := by rw [if_pos rfl] at H; exact H
    clear H
    have H := H1
    clear H1
    obtain rfl := Option.some.inj H
    go_enter Tryd.func4, Tryd.ntmps4
    go_wp2_with (first | ((with_reducible refine gate_callee (f := 8) rfl ?_); refine goesL_ (some 11) rfl rfl Tryd.func8 (by kernel_rfl) rfl #[.slice A0 l0.length c0] rfl (by (try simp only [List.map_toArray, List.map_cons, List.map_nil]); first | done | rfl | (simp only [List.length_drop, List.length_take]; rfl)) ?_; (with_reducible refine (laws_big.calls _ _ l0 true _ ?side1 ?side2 A2.out).mono ?_); (case side1 => repeat (first | exact HR0.out | (with_reducible refine Kd.C_alloc ?_ _) | (with_reducible refine Kd.C_drewN ?_ _) | (with_reducible refine Kd.C_drew ?_))); (case side2 => exact HC0.out); rintro e w' ⟨rfl, ⟨nd, rfl⟩⟩; refine ⟨_, rfl, ?_⟩))
    go_ret
    exact ⟨by first | rfl | (simp [errW_none, errW_some] <;> rfl) | (simp [*, errW_none, errW_some] <;> rfl), by repeat (first | (with_reducible first | exact HB.out | apply below_alloc | apply pw_below_drewN | apply below_drew1) | exact HB.out)⟩
  · replace c3 := Bool.eq_false_iff.mpr c3
    subst c3
    have H1 : ((spec_DrawIsBlank.f k l0).bind fun t218 => ((spec_DrawIsLetter.f k l0).bind fun t219 => ((spec_DrawIsText.f k l0).bind fun t220 => ((spec_DrawIsFirst.f k l0).bind fun t221 => ((spec_DrawIsNext.f k l0).bind fun t222 => ((spec_DrawSmall.f k l0).bind fun t223 => ((spec_DrawLines.f k l0).bind fun t224 => ((impl_IsBlank.f t218).bind fun t225 => ((spec_IsBlank.f t218).bind fun t226 => (if (t225 != t226) = true then (laws_FnKinds.j0 k t221 t223 t224 true) else ((impl_IsLetter.f t219).bind fun t227 => ((spec_IsLetter.f t219).bind fun t228 => (if (t227 != t228) = true then (laws_FnKinds.j0 k t221 t223 t224 true) else ((impl_IsText.f t220).bind fun t229 => ((spec_IsText.f t220).bind fun t230 => (if (t229 != t230) = true then (laws_FnKinds.j0 k t221 t223 t224 true) else ((impl_IsFirst.f t221).bind fun t231 => ((spec_IsFirst.f k t221).bind fun t232 => (if (t231 != t232) = true then (laws_FnKinds.j0 k t221 t223 t224 true) else ((impl_IsNext.f t222).bind fun t233 => ((spec_IsNext.f k t222).bind fun t234 => (if (t233 != t234) = true then (laws_FnKinds.j0 k t221 t223 t224 true) else ((impl_Small.f t223).bind fun t235 => ((spec_Small.f t223).bind fun t236 => (if t235.toList = t236.toList then ((impl_Lines.f t224).bind fun t237 => ((spec_Lines.f t224).bind fun t238 => (laws_FnKinds.j0 k t221 t223 t224 (t237.toList != t238.toList)))) else (laws_FnKinds.j0 k t221 t223 t224 true)))))))))))))))))))))))))) = some r := by rw [if_neg (show ¬ (false = true) by decide)] at H; exact H
    clear H
    have H := H1
    clear H1
    replace H := Option.bind_eq_some_iff.mp H
    obtain ⟨t218, A40, H⟩ := H
    replace H : ((spec_DrawIsLetter.f k l0).bind fun t219 => ((spec_DrawIsText.f k l0).bind fun t220 => ((spec_DrawIsFirst.f k l0).bind fun t221 => ((spec_DrawIsNext.f k l0).bind fun t222 => ((spec_DrawSmall.f k l0).bind fun t223 => ((spec_DrawLines.f k l0).bind fun t224 => ((impl_IsBlank.f t218).bind fun t225 => ((spec_IsBlank.f t218).bind fun t226 => (if (t225 != t226) = true then (laws_FnKinds.j0 k t221 t223 t224 true) else ((impl_IsLetter.f t219).bind fun t227 => ((spec_IsLetter.f t219).bind fun t228 => (if (t227 != t228) = true then (laws_FnKinds.j0 k t221 t223 t224 true) else ((impl_IsText.f t220).bind fun t229 => ((spec_IsText.f t220).bind fun t230 => (if (t229 != t230) = true then (laws_FnKinds.j0 k t221 t223 t224 true) else ((impl_IsFirst.f t221).bind fun t231 => ((spec_IsFirst.f k t221).bind fun t232 => (if (t231 != t232) = true then (laws_FnKinds.j0 k t221 t223 t224 true) else ((impl_IsNext.f t222).bind fun t233 => ((spec_IsNext.f k t222).bind fun t234 => (if (t233 != t234) = true then (laws_FnKinds.j0 k t221 t223 t224 true) else ((impl_Small.f t223).bind fun t235 => ((spec_Small.f t223).bind fun t236 => (if t235.toList = t236.toList then ((impl_Lines.f t224).bind fun t237 => ((spec_Lines.f t224).bind fun t238 => (laws_FnKinds.j0 k t221 t223 t224 (t237.toList != t238.toList)))) else (laws_FnKinds.j0 k t221 t223 t224 true))))))))))))))))))))))))) = some r := H
    have A4 := Aside0.mk A40
    clear A40
    replace H := Option.bind_eq_some_iff.mp H
    obtain ⟨t219, A50, H⟩ := H
    replace H : ((spec_DrawIsText.f k l0).bind fun t220 => ((spec_DrawIsFirst.f k l0).bind fun t221 => ((spec_DrawIsNext.f k l0).bind fun t222 => ((spec_DrawSmall.f k l0).bind fun t223 => ((spec_DrawLines.f k l0).bind fun t224 => ((impl_IsBlank.f t218).bind fun t225 => ((spec_IsBlank.f t218).bind fun t226 => (if (t225 != t226) = true then (laws_FnKinds.j0 k t221 t223 t224 true) else ((impl_IsLetter.f t219).bind fun t227 => ((spec_IsLetter.f t219).bind fun t228 => (if (t227 != t228) = true then (laws_FnKinds.j0 k t221 t223 t224 true) else ((impl_IsText.f t220).bind fun t229 => ((spec_IsText.f t220).bind fun t230 => (if (t229 != t230) = true then (laws_FnKinds.j0 k t221 t223 t224 true) else ((impl_IsFirst.f t221).bind fun t231 => ((spec_IsFirst.f k t221).bind fun t232 => (if (t231 != t232) = true then (laws_FnKinds.j0 k t221 t223 t224 true) else ((impl_IsNext.f t222).bind fun t233 => ((spec_IsNext.f k t222).bind fun t234 => (if (t233 != t234) = true then (laws_FnKinds.j0 k t221 t223 t224 true) else ((impl_Small.f t223).bind fun t235 => ((spec_Small.f t223).bind fun t236 => (if t235.toList = t236.toList then ((impl_Lines.f t224).bind fun t237 => ((spec_Lines.f t224).bind fun t238 => (laws_FnKinds.j0 k t221 t223 t224 (t237.toList != t238.toList)))) else (laws_FnKinds.j0 k t221 t223 t224 true)))))))))))))))))))))))) = some r := H
    have A5 := Aside0.mk A50
    clear A50
    replace H := Option.bind_eq_some_iff.mp H
    obtain ⟨t220, A60, H⟩ := H
    replace H : ((spec_DrawIsFirst.f k l0).bind fun t221 => ((spec_DrawIsNext.f k l0).bind fun t222 => ((spec_DrawSmall.f k l0).bind fun t223 => ((spec_DrawLines.f k l0).bind fun t224 => ((impl_IsBlank.f t218).bind fun t225 => ((spec_IsBlank.f t218).bind fun t226 => (if (t225 != t226) = true then (laws_FnKinds.j0 k t221 t223 t224 true) else ((impl_IsLetter.f t219).bind fun t227 => ((spec_IsLetter.f t219).bind fun t228 => (if (t227 != t228) = true then (laws_FnKinds.j0 k t221 t223 t224 true) else ((impl_IsText.f t220).bind fun t229 => ((spec_IsText.f t220).bind fun t230 => (if (t229 != t230) = true then (laws_FnKinds.j0 k t221 t223 t224 true) else ((impl_IsFirst.f t221).bind fun t231 => ((spec_IsFirst.f k t221).bind fun t232 => (if (t231 != t232) = true then (laws_FnKinds.j0 k t221 t223 t224 true) else ((impl_IsNext.f t222).bind fun t233 => ((spec_IsNext.f k t222).bind fun t234 => (if (t233 != t234) = true then (laws_FnKinds.j0 k t221 t223 t224 true) else ((impl_Small.f t223).bind fun t235 => ((spec_Small.f t223).bind fun t236 => (if t235.toList = t236.toList then ((impl_Lines.f t224).bind fun t237 => ((spec_Lines.f t224).bind fun t238 => (laws_FnKinds.j0 k t221 t223 t224 (t237.toList != t238.toList)))) else (laws_FnKinds.j0 k t221 t223 t224 true))))))))))))))))))))))) = some r := H
    have A6 := Aside0.mk A60
    clear A60
    replace H := Option.bind_eq_some_iff.mp H
    obtain ⟨t221, A70, H⟩ := H
    replace H : ((spec_DrawIsNext.f k l0).bind fun t222 => ((spec_DrawSmall.f k l0).bind fun t223 => ((spec_DrawLines.f k l0).bind fun t224 => ((impl_IsBlank.f t218).bind fun t225 => ((spec_IsBlank.f t218).bind fun t226 => (if (t225 != t226) = true then (laws_FnKinds.j0 k t221 t223 t224 true) else ((impl_IsLetter.f t219).bind fun t227 => ((spec_IsLetter.f t219).bind fun t228 => (if (t227 != t228) = true then (laws_FnKinds.j0 k t221 t223 t224 true) else ((impl_IsText.f t220).bind fun t229 => ((spec_IsText.f t220).bind fun t230 => (if (t229 != t230) = true then (laws_FnKinds.j0 k t221 t223 t224 true) else ((impl_IsFirst.f t221).bind fun t231 => ((spec_IsFirst.f k t221).bind fun t232 => (if (t231 != t232) = true then (laws_FnKinds.j0 k t221 t223 t224 true) else ((impl_IsNext.f t222).bind fun t233 => ((spec_IsNext.f k t222).bind fun t234 => (if (t233 != t234) = true then (laws_FnKinds.j0 k t221 t223 t224 true) else ((impl_Small.f t223).bind fun t235 => ((spec_Small.f t223).bind fun t236 => (if t235.toList = t236.toList then ((impl_Lines.f t224).bind fun t237 => ((spec_Lines.f t224).bind fun t238 => (laws_FnKinds.j0 k t221 t223 t224 (t237.toList != t238.toList)))) else (laws_FnKinds.j0 k t221 t223 t224 true)))))))))))))))))))))) = some r := H
    have A7 := Aside0.mk A70
    clear A70
    replace H := Option.bind_eq_some_iff.mp H
    obtain ⟨t222, A80, H⟩ := H
    replace H : ((spec_DrawSmall.f k l0).bind fun t223 => ((spec_DrawLines.f k l0).bind fun t224 => ((impl_IsBlank.f t218).bind fun t225 => ((spec_IsBlank.f t218).bind fun t226 => (if (t225 != t226) = true then (laws_FnKinds.j0 k t221 t223 t224 true) else ((impl_IsLetter.f t219).bind fun t227 => ((spec_IsLetter.f t219).bind fun t228 => (if (t227 != t228) = true then (laws_FnKinds.j0 k t221 t223 t224 true) else ((impl_IsText.f t220).bind fun t229 => ((spec_IsText.f t220).bind fun t230 => (if (t229 != t230) = true then (laws_FnKinds.j0 k t221 t223 t224 true) else ((impl_IsFirst.f t221).bind fun t231 => ((spec_IsFirst.f k t221).bind fun t232 => (if (t231 != t232) = true then (laws_FnKinds.j0 k t221 t223 t224 true) else ((impl_IsNext.f t222).bind fun t233 => ((spec_IsNext.f k t222).bind fun t234 => (if (t233 != t234) = true then (laws_FnKinds.j0 k t221 t223 t224 true) else ((impl_Small.f t223).bind fun t235 => ((spec_Small.f t223).bind fun t236 => (if t235.toList = t236.toList then ((impl_Lines.f t224).bind fun t237 => ((spec_Lines.f t224).bind fun t238 => (laws_FnKinds.j0 k t221 t223 t224 (t237.toList != t238.toList)))) else (laws_FnKinds.j0 k t221 t223 t224 true))))))))))))))))))))) = some r := H
    have A8 := Aside0.mk A80
    clear A80
    replace H := Option.bind_eq_some_iff.mp H
    obtain ⟨t223, A90, H⟩ := H
    replace H : ((spec_DrawLines.f k l0).bind fun t224 => ((impl_IsBlank.f t218).bind fun t225 => ((spec_IsBlank.f t218).bind fun t226 => (if (t225 != t226) = true then (laws_FnKinds.j0 k t221 t223 t224 true) else ((impl_IsLetter.f t219).bind fun t227 => ((spec_IsLetter.f t219).bind fun t228 => (if (t227 != t228) = true then (laws_FnKinds.j0 k t221 t223 t224 true) else ((impl_IsText.f t220).bind fun t229 => ((spec_IsText.f t220).bind fun t230 => (if (t229 != t230) = true then (laws_FnKinds.j0 k t221 t223 t224 true) else ((impl_IsFirst.f t221).bind fun t231 => ((spec_IsFirst.f k t221).bind fun t232 => (if (t231 != t232) = true then (laws_FnKinds.j0 k t221 t223 t224 true) else ((impl_IsNext.f t222).bind fun t233 => ((spec_IsNext.f k t222).bind fun t234 => (if (t233 != t234) = true then (laws_FnKinds.j0 k t221 t223 t224 true) else ((impl_Small.f t223).bind fun t235 => ((spec_Small.f t223).bind fun t236 => (if t235.toList = t236.toList then ((impl_Lines.f t224).bind fun t237 => ((spec_Lines.f t224).bind fun t238 => (laws_FnKinds.j0 k t221 t223 t224 (t237.toList != t238.toList)))) else (laws_FnKinds.j0 k t221 t223 t224 true)))))))))))))))))))) = some r := H
    have A9 := Aside0.mk A90
    clear A90
    replace H := Option.bind_eq_some_iff.mp H
    obtain ⟨t224, A100, H⟩ := H
    replace H : ((impl_IsBlank.f t218).bind fun t225 => ((spec_IsBlank.f t218).bind fun t226 => (if (t225 != t226) = true then (laws_FnKinds.j0 k t221 t223 t224 true) else ((impl_IsLetter.f t219).bind fun t227 => ((spec_IsLetter.f t219).bind fun t228 => (if (t227 != t228) = true then (laws_FnKinds.j0 k t221 t223 t224 true) else ((impl_IsText.f t220).bind fun t229 => ((spec_IsText.f t220).bind fun t230 => (if (t229 != t230) = true then (laws_FnKinds.j0 k t221 t223 t224 true) else ((impl_IsFirst.f t221).bind fun t231 => ((spec_IsFirst.f k t221).bind fun t232 => (if (t231 != t232) = true then (laws_FnKinds.j0 k t221 t223 t224 true) else ((impl_IsNext.f t222).bind fun t233 => ((spec_IsNext.f k t222).bind fun t234 => (if (t233 != t234) = true then (laws_FnKinds.j0 k t221 t223 t224 true) else ((impl_Small.f t223).bind fun t235 => ((spec_Small.f t223).bind fun t236 => (if t235.toList = t236.toList then ((impl_Lines.f t224).bind fun t237 => ((spec_Lines.f t224).bind fun t238 => (laws_FnKinds.j0 k t221 t223 t224 (t237.toList != t238.toList)))) else (laws_FnKinds.j0 k t221 t223 t224 true))))))))))))))))))) = some r := H
    have A10 := Aside0.mk A100
    clear A100
    have HC11 := Aside0.mk H
    clear H
    go_enter Tryd.func4, Tryd.ntmps4
    go_upto_region 5 with (first | ((with_reducible refine gate_callee (f := 8) rfl ?_); refine goesL_ (some 11) rfl rfl Tryd.func8 (by kernel_rfl) rfl #[.slice A0 l0.length c0] rfl (by (try simp only [List.map_toArray, List.map_cons, List.map_nil]); first | done | rfl | (simp only [List.length_drop, List.length_take]; rfl)) ?_; (with_reducible refine (laws_big.calls _ _ l0 false _ ?side1 ?side2 A2.out).mono ?_); (case side1 => repeat (first | exact HR0.out | (with_reducible refine Kd.C_alloc ?_ _) | (with_reducible refine Kd.C_drewN ?_ _) | (with_reducible refine Kd.C_drew ?_))); (case side2 => exact HC0.out); rintro e w' ⟨rfl, ⟨nd, rfl⟩⟩; refine ⟨_, rfl, ?_⟩) | ((with_reducible refine gate_callee (f := 9) rfl ?_); refine goesL_ (some 13) rfl rfl Tryd.func9 (by kernel_rfl) rfl #[.slice A0 l0.length c0] rfl (by (try simp only [List.map_toArray, List.map_cons, List.map_nil]); first | done | rfl | (simp only [List.length_drop, List.length_take]; rfl)) ?_; (with_reducible refine (spec_DrawIsBlank.calls k _ _ l0 t218 _ ?side1 ?side2 A4.out).mono ?_); (case side1 => repeat (first | exact HR0.out | (with_reducible refine Kd.C_alloc ?_ _) | (with_reducible refine Kd.C_drewN ?_ _) | (with_reducible refine Kd.C_drew ?_))); (case side2 => exact HC0.out); rintro e w12 ⟨rfl, hb⟩; refine ⟨_, rfl, ?_⟩; have n0_ := Aside0.mk (below_step (by repeat (first | (with_reducible first | exact HB.out | apply below_alloc | apply pw_below_drewN | apply below_drew1) | exact HB.out)) hb); clear HB; have HB := n0_; clear n0_; (try clear hb); (try clear hb2); (try clear hk); (try clear hi)) | ((with_reducible refine gate_callee (f := 10) rfl ?_); refine goesL_ (some 15) rfl rfl Tryd.func10 (by kernel_rfl) rfl #[.slice A0 l0.length c0] rfl (by (try simp only [List.map_toArray, List.map_cons, List.map_nil]); first | done | rfl | (simp only [List.length_drop, List.length_take]; rfl)) ?_; (with_reducible refine (spec_DrawIsLetter.calls k _ _ l0 t219 _ ?side1 ?side2 A5.out).mono ?_); (case side1 => repeat (first | exact (Kd.C_below HR0.out HB.out) | (with_reducible refine Kd.C_alloc ?_ _) | (with_reducible refine Kd.C_drewN ?_ _) | (with_reducible refine Kd.C_drew ?_))); (case side2 => exact HC0.out); rintro e w13 ⟨rfl, hb⟩; refine ⟨_, rfl, ?_⟩; have n0_ := Aside0.mk (below_step (by repeat (first | (with_reducible first | exact HB.out | apply below_alloc | apply pw_below_drewN | apply below_drew1) | exact HB.out)) hb); clear HB; have HB := n0_; clear n0_; (try clear hb); (try clear hb2); (try clear hk); (try clear hi)) | ((with_reducible refine gate_callee (f := 11) rfl ?_); refine goesL_ (some 17) rfl rfl Tryd.func11 (by kernel_rfl) rfl #[.slice A0 l0.length c0] rfl (by (try simp only [List.map_toArray, List.map_cons, List.map_nil]); first | done | rfl | (simp only [List.length_drop, List.length_take]; rfl)) ?_; (with_reducible refine (spec_DrawIsText.calls k _ _ l0 t220 _ ?side1 ?side2 A6.out).mono ?_); (case side1 => repeat (first | exact (Kd.C_below HR0.out HB.out) | (with_reducible refine Kd.C_alloc ?_ _) | (with_reducible refine Kd.C_drewN ?_ _) | (with_reducible refine Kd.C_drew ?_))); (case side2 => exact HC0.out); rintro e w14 ⟨rfl, hb⟩; refine ⟨_, rfl, ?_⟩; have n0_ := Aside0.mk (below_step (by repeat (first | (with_reducible first | exact HB.out | apply below_alloc | apply pw_below_drewN | apply below_drew1) | exact HB.out)) hb); clear HB; have HB := n0_; clear n0_; (try clear hb); (try clear hb2); (try clear hk); (try clear hi)) | ((with_reducible refine gate_callee (f := 12) rfl ?_); refine goesL_ (some 19) rfl rfl Tryd.func12 (by kernel_rfl) rfl #[.slice A0 l0.length c0] rfl (by (try simp only [List.map_toArray, List.map_cons, List.map_nil]); first | done | rfl | (simp only [List.length_drop, List.length_take]; rfl)) ?_; (with_reducible refine (spec_DrawIsFirst.calls k _ _ l0 t221 _ ?side1 ?side2 A7.out).mono ?_); (case side1 => repeat (first | exact (Kd.C_below HR0.out HB.out) | (with_reducible refine Kd.C_alloc ?_ _) | (with_reducible refine Kd.C_drewN ?_ _) | (with_reducible refine Kd.C_drew ?_))); (case side2 => exact HC0.out); rintro e w15 ⟨rfl, hb⟩; refine ⟨_, rfl, ?_⟩; have n0_ := Aside0.mk (below_step (by repeat (first | (with_reducible first | exact HB.out | apply below_alloc | apply pw_below_drewN | apply below_drew1) | exact HB.out)) hb); clear HB; have HB := n0_; clear n0_; (try clear hb); (try clear hb2); (try clear hk); (try clear hi)) | ((with_reducible refine gate_callee (f := 13) rfl ?_); refine goesL_ (some 21) rfl rfl Tryd.func13 (by kernel_rfl) rfl #[.slice A0 l0.length c0] rfl (by (try simp only [List.map_toArray, List.map_cons, List.map_nil]); first | done | rfl | (simp only [List.length_drop, List.length_take]; rfl)) ?_; (with_reducible refine (spec_DrawIsNext.calls k _ _ l0 t222 _ ?side1 ?side2 A8.out).mono ?_); (case side1 => repeat (first | exact (Kd.C_below HR0.out HB.out) | (with_reducible refine Kd.C_alloc ?_ _) | (with_reducible refine Kd.C_drewN ?_ _) | (with_reducible refine Kd.C_drew ?_))); (case side2 => exact HC0.out); rintro e w16 ⟨rfl, hb⟩; refine ⟨_, rfl, ?_⟩; have n0_ := Aside0.mk (below_step (by repeat (first | (with_reducible first | exact HB.out | apply below_alloc | apply pw_below_drewN | apply below_drew1) | exact HB.out)) hb); clear HB; have HB := n0_; clear n0_; (try clear hb); (try clear hb2); (try clear hk); (try clear hi)) | ((with_reducible refine gate_callee (f := 14) rfl ?_); refine goesL_ (some 23) rfl rfl Tryd.func14 (by kernel_rfl) rfl #[.slice A0 l0.length c0] rfl (by (try simp only [List.map_toArray, List.map_cons, List.map_nil]); first | done | rfl | (simp only [List.length_drop, List.length_take]; rfl)) ?_; (with_reducible refine (spec_DrawSmall.calls k _ _ l0 t223 _ ?side1 ?side2 A9.out).mono ?_); (case side1 => repeat (first | exact (Kd.C_below HR0.out HB.out) | (with_reducible refine Kd.C_alloc ?_ _) | (with_reducible refine Kd.C_drewN ?_ _) | (with_reducible refine Kd.C_drew ?_))); (case side2 => exact HC0.out); rintro e w17 ⟨rfl, hb⟩; refine ⟨_, rfl, ?_⟩; have n0_ := Aside0.mk (below_step (by repeat (first | (with_reducible first | exact HB.out | apply below_alloc | apply pw_below_drewN | apply below_drew1) | exact HB.out)) hb); clear HB; have HB := n0_; clear n0_; (try clear hb); (try clear hb2); (try clear hk); (try clear hi)) | ((with_reducible refine gate_callee (f := 15) rfl ?_); refine goesL_ (some 25) rfl rfl Tryd.func15 (by kernel_rfl) rfl #[.slice A0 l0.length c0] rfl (by (try simp only [List.map_toArray, List.map_cons, List.map_nil]); first | done | rfl | (simp only [List.length_drop, List.length_take]; rfl)) ?_; (with_reducible refine (spec_DrawLines.calls k _ _ l0 t224 _ ?side1 ?side2 A10.out).mono ?_); (case side1 => repeat (first | exact (Kd.C_below HR0.out HB.out) | (with_reducible refine Kd.C_alloc ?_ _) | (with_reducible refine Kd.C_drewN ?_ _) | (with_reducible refine Kd.C_drew ?_))); (case side2 => exact HC0.out); rintro e w18 ⟨rfl, hb⟩; refine ⟨_, rfl, ?_⟩; have n0_ := Aside0.mk (below_step (by repeat (first | (with_reducible first | exact HB.out | apply below_alloc | apply pw_below_drewN | apply below_drew1) | exact HB.out)) hb); clear HB; have HB := n0_; clear n0_; (try clear hb); (try clear hb2); (try clear hk); (try clear hi)))
    (try simp only [Act.put, List.setIfInBounds_toArray, List.set_cons_zero, List.set_cons_succ])
    go_cut [72] (fun v72 wc => ∃ (kq : Nat) (x72_10 : Bool), v72 = .bool x72_10 ∧ Aside0 (laws_FnKinds.j0 kq t221 t223 t224 x72_10 = some r) ∧ Aside0 (kq ≤ k) ∧ Aside0 (Below w.heap.size w wc))
    case first =>
      have H := HC11.out
      clear HC11
      replace H := Option.bind_eq_some_iff.mp H
      obtain ⟨t225, A190, H⟩ := H
      replace H : ((spec_IsBlank.f t218).bind fun t226 => (if (t225 != t226) = true then (laws_FnKinds.j0 k t221 t223 t224 true) else ((impl_IsLetter.f t219).bind fun t227 => ((spec_IsLetter.f t219).bind fun t228 => (if (t227 != t228) = true then (laws_FnKinds.j0 k t221 t223 t224 true) else ((impl_IsText.f t220).bind fun t229 => ((spec_IsText.f t220).bind fun t230 => (if (t229 != t230) = true then (laws_FnKinds.j0 k t221 t223 t224 true) else ((impl_IsFirst.f t221).bind fun t231 => ((spec_IsFirst.f k t221).bind fun t232 => (if (t231 != t232) = true then (laws_FnKinds.j0 k t221 t223 t224 true) else ((impl_IsNext.f t222).bind fun t233 => ((spec_IsNext.f k t222).bind fun t234 => (if (t233 != t234) = true then (laws_FnKinds.j0 k t221 t223 t224 true) else ((impl_Small.f t223).bind fun t235 => ((spec_Small.f t223).bind fun t236 => (if t235.toList = t236.toList then ((impl_Lines.f t224).bind fun t237 => ((spec_Lines.f t224).bind fun t238 => (laws_FnKinds.j0 k t221 t223 t224 (t237.toList != t238.toList)))) else (laws_FnKinds.j0 k t221 t223 t224 true)))))))))))))))))) = some r := H
      have A19 := Aside0.mk A190
      clear A190
      replace H := Option.bind_eq_some_iff.mp H
      obtain ⟨t226, A200, H⟩ := H
      replace H : (if (t225 != t226) = true then (laws_FnKinds.j0 k t221 t223 t224 true) else ((impl_IsLetter.f t219).bind fun t227 => ((spec_IsLetter.f t219).bind fun t228 => (if (t227 != t228) = true then (laws_FnKinds.j0 k t221 t223 t224 true) else ((impl_IsText.f t220).bind fun t229 => ((spec_IsText.f t220).bind fun t230 => (if (t229 != t230) = true then (laws_FnKinds.j0 k t221 t223 t224 true) else ((impl_IsFirst.f t221).bind fun t231 => ((spec_IsFirst.f k t221).bind fun t232 => (if (t231 != t232) = true then (laws_FnKinds.j0 k t221 t223 t224 true) else ((impl_IsNext.f t222).bind fun t233 => ((spec_IsNext.f k t222).bind fun t234 => (if (t233 != t234) = true then (laws_FnKinds.j0 k t221 t223 t224 true) else ((impl_Small.f t223).bind fun t235 => ((spec_Small.f t223).bind fun t236 => (if t235.toList = t236.toList then ((impl_Lines.f t224).bind fun t237 => ((spec_Lines.f t224).bind fun t238 => (laws_FnKinds.j0 k t221 t223 t224 (t237.toList != t238.toList)))) else (laws_FnKinds.j0 k t221 t223 t224 true))))))))))))))))) = some r := H
      have A20 := Aside0.mk A200
      clear A200
      by_cases c21 : (t225 != t226) = true
      · rw [if_pos c21] at H
        have c21b0 : (t225 != t226) = true := c21
        (try (have c21b1 : decide (t225 = t226) = false := by simpa using c21))
        (try (have c21b2 : (t225 == t226) = false := by simpa using c21))
        (try (have c21b3 : ¬ (t225 = t226) := by simpa using c21))
        clear c21
        (first | rw [c21b0] | (simp only [i64_w, i32_w]; rw [c21b0]) | skip)
        have H' := Aside0.mk H
        clear H
        go_wp2_with (first | ((with_reducible refine gate_callee (f := 16) rfl ?_); refine goesL_ (some 27) rfl rfl Tryd.func16 (by kernel_rfl) rfl #[.int .i64 t218] rfl (by (try simp only [List.map_toArray, List.map_cons, List.map_nil]); first | done | rfl | (simp only [List.length_drop, List.length_take]; rfl)) ?_; (with_reducible refine (impl_IsBlank.calls t218 t225 _ A19.out).mono ?_); rintro e w' ⟨rfl, ⟨nd, rfl⟩⟩; refine ⟨_, rfl, ?_⟩) | ((with_reducible refine gate_callee (f := 17) rfl ?_); refine goesL_ (some 29) rfl rfl Tryd.func17 (by kernel_rfl) rfl #[.int .i64 t218] rfl (by (try simp only [List.map_toArray, List.map_cons, List.map_nil]); first | done | rfl | (simp only [List.length_drop, List.length_take]; rfl)) ?_; (with_reducible refine (spec_IsBlank.calls t218 t226 _ A20.out).mono ?_); rintro e w' ⟨rfl, ⟨nd, rfl⟩⟩; refine ⟨_, rfl, ?_⟩))
        go_meet
        case rel => exact ⟨_, (true), (by first | rfl | (simp; done) | (simp [*]; done)), H', ⟨by first | omega | exact Nat.le_refl _⟩, ⟨by repeat (first | (with_reducible first | exact HB.out | apply below_alloc | apply pw_below_drewN | apply below_drew1) | exact HB.out)⟩⟩
      · rw [if_neg c21] at H
        have c21b0 : (t225 != t226) = false := by simpa using c21
        (try (have c21b1 : decide (t225 = t226) = true := by simpa using c21))
        (try (have c21b2 : (t225 == t226) = true := by simpa using c21))
        clear c21
        (first | rw [c21b0] | (simp only [i64_w, i32_w]; rw [c21b0]) | skip)
        replace H := Option.bind_eq_some_iff.mp H
        obtain ⟨t227, A220, H⟩ := H
        replace H : ((spec_IsLetter.f t219).bind fun t228 => (if (t227 != t228) = true then (laws_FnKinds.j0 k t221 t223 t224 true) else ((impl_IsText.f t220).bind fun t229 => ((spec_IsText.f t220).bind fun t230 => (if (t229 != t230) = true then (laws_FnKinds.j0 k t221 t223 t224 true) else ((impl_IsFirst.f t221).bind fun t231 => ((spec_IsFirst.f k t221).bind fun t232 => (if (t231 != t232) = true then (laws_FnKinds.j0 k t221 t223 t224 true) else ((impl_IsNext.f t222).bind fun t233 => ((spec_IsNext.f k t222).bind fun t234 => (if (t233 != t234) = true then (laws_FnKinds.j0 k t221 t223 t224 true) else ((impl_Small.f t223).bind fun t235 => ((spec_Small.f t223).bind fun t236 => (if t235.toList = t236.toList then ((impl_Lines.f t224).bind fun t237 => ((spec_Lines.f t224).bind fun t238 => (laws_FnKinds.j0 k t221 t223 t224 (t237.toList != t238.toList)))) else (laws_FnKinds.j0 k t221 t223 t224 true))))))))))))))) = some r := H
        have A22 := Aside0.mk A220
        clear A220
        replace H := Option.bind_eq_some_iff.mp H
        obtain ⟨t228, A230, H⟩ := H
        replace H : (if (t227 != t228) = true then (laws_FnKinds.j0 k t221 t223 t224 true) else ((impl_IsText.f t220).bind fun t229 => ((spec_IsText.f t220).bind fun t230 => (if (t229 != t230) = true then (laws_FnKinds.j0 k t221 t223 t224 true) else ((impl_IsFirst.f t221).bind fun t231 => ((spec_IsFirst.f k t221).bind fun t232 => (if (t231 != t232) = true then (laws_FnKinds.j0 k t221 t223 t224 true) else ((impl_IsNext.f t222).bind fun t233 => ((spec_IsNext.f k t222).bind fun t234 => (if (t233 != t234) = true then (laws_FnKinds.j0 k t221 t223 t224 true) else ((impl_Small.f t223).bind fun t235 => ((spec_Small.f t223).bind fun t236 => (if t235.toList = t236.toList then ((impl_Lines.f t224).bind fun t237 => ((spec_Lines.f t224).bind fun t238 => (laws_FnKinds.j0 k t221 t223 t224 (t237.toList != t238.toList)))) else (laws_FnKinds.j0 k t221 t223 t224 true)))))))))))))) = some r := H
        have A23 := Aside0.mk A230
        clear A230
        by_cases c24 : (t227 != t228) = true
        · rw [if_pos c24] at H
          have c24b0 : (t227 != t228) = true := c24
          (try (have c24b1 : decide (t227 = t228) = false := by simpa using c24))
          (try (have c24b2 : (t227 == t228) = false := by simpa using c24))
          (try (have c24b3 : ¬ (t227 = t228) := by simpa using c24))
          clear c24
          have H' := Aside0.mk H
          clear H
          go_wp2_with (first | ((with_reducible refine gate_callee (f := 16) rfl ?_); refine goesL_ (some 27) rfl rfl Tryd.func16 (by kernel_rfl) rfl #[.int .i64 t218] rfl (by (try simp only [List.map_toArray, List.map_cons, List.map_nil]); first | done | rfl | (simp only [List.length_drop, List.length_take]; rfl)) ?_; (with_reducible refine (impl_IsBlank.calls t218 t225 _ A19.out).mono ?_); rintro e w' ⟨rfl, ⟨nd, rfl⟩⟩; refine ⟨_, rfl, ?_⟩) | ((with_reducible refine gate_callee (f := 17) rfl ?_); refine goesL_ (some 29) rfl rfl Tryd.func17 (by kernel_rfl) rfl #[.int .i64 t218] rfl (by (try simp only [List.map_toArray, List.map_cons, List.map_nil]); first | done | rfl | (simp only [List.length_drop, List.length_take]; rfl)) ?_; (with_reducible refine (spec_IsBlank.calls t218 t226 _ A20.out).mono ?_); rintro e w' ⟨rfl, ⟨nd, rfl⟩⟩; refine ⟨_, rfl, ?_⟩) | (go_at_call 18; (with_reducible refine (impl_IsLetter.calls t219 t227 _ A22.out).mono ?_); rintro e w' ⟨rfl, ⟨nd, rfl⟩⟩) | (go_at_call 19; (with_reducible refine (spec_IsLetter.calls t219 t228 _ A23.out).mono ?_); rintro e w' ⟨rfl, ⟨nd, rfl⟩⟩))
          go_meet
          case rel => exact ⟨_, (true), (by first | rfl | (simp; done) | (simp [*]; done)), H', ⟨by first | omega | exact Nat.le_refl _⟩, ⟨by repeat (first | (with_reducible first | exact HB.out | apply below_alloc | apply pw_below_drewN | apply below_drew1) | exact HB.out)⟩⟩
        · rw [if_neg c24] at H
          have c24b0 : (t227 != t228) = false := by simpa using c24
          (try (have c24b1 : decide (t227 = t228) = true := by simpa using c24))
          (try (have c24b2 : (t227 == t228) = true := by simpa using c24))
          clear c24
          replace H := Option.bind_eq_some_iff.mp H
          obtain ⟨t229, A250, H⟩ := H
          replace H : ((spec_IsText.f t220).bind fun t230 => (if (t229 != t230) = true then (laws_FnKinds.j0 k t221 t223 t224 true) else ((impl_IsFirst.f t221).bind fun t231 => ((spec_IsFirst.f k t221).bind fun t232 => (if (t231 != t232) = true then (laws_FnKinds.j0 k t221 t223 t224 true) else ((impl_IsNext.f t222).bind fun t233 => ((spec_IsNext.f k t222).bind fun t234 => (if (t233 != t234) = true then (laws_FnKinds.j0 k t221 t223 t224 true) else ((impl_Small.f t223).bind fun t235 => ((spec_Small.f t223).bind fun t236 => (if t235.toList = t236.toList then ((impl_Lines.f t224).bind fun t237 => ((spec_Lines.f t224).bind fun t238 => (laws_FnKinds.j0 k t221 t223 t224 (t237.toList != t238.toList)))) else (laws_FnKinds.j0 k t221 t223 t224 true)))))))))))) = some r := H
          have A25 := Aside0.mk A250
          clear A250
          replace H := Option.bind_eq_some_iff.mp H
          obtain ⟨t230, A260, H⟩ := H
          replace H : (if (t229 != t230) = true then (laws_FnKinds.j0 k t221 t223 t224 true) else ((impl_IsFirst.f t221).bind fun t231 => ((spec_IsFirst.f k t221).bind fun t232 => (if (t231 != t232) = true then (laws_FnKinds.j0 k t221 t223 t224 true) else ((impl_IsNext.f t222).bind fun t233 => ((spec_IsNext.f k t222).bind fun t234 => (if (t233 != t234) = true then (laws_FnKinds.j0 k t221 t223 t224 true) else ((impl_Small.f t223).bind fun t235 => ((spec_Small.f t223).bind fun t236 => (if t235.toList = t236.toList then ((impl_Lines.f t224).bind fun t237 => ((spec_Lines.f t224).bind fun t238 => (laws_FnKinds.j0 k t221 t223 t224 (t237.toList != t238.toList)))) else (laws_FnKinds.j0 k t221 t223 t224 true))))))))))) = some r := H
          have A26 := Aside0.mk A260
          clear A260
          by_cases c27 : (t229 != t230) = true
          · rw [if_pos c27] at H
            have c27b0 : (t229 != t230) = true := c27
            (try (have c27b1 : decide (t229 = t230) = false := by simpa using c27))
            (try (have c27b2 : (t229 == t230) = false := by simpa using c27))
            (try (have c27b3 : ¬ (t229 = t230) := by simpa using c27))
            clear c27
            have H' := Aside0.mk H
            clear H
            go_wp2_with (first | ((with_reducible refine gate_callee (f := 16) rfl ?_); refine goesL_ (some 27) rfl rfl Tryd.func16 (by kernel_rfl) rfl #[.int .i64 t218] rfl (by (try simp only [List.map_toArray, List.map_cons, List.map_nil]); first | done | rfl | (simp only [List.length_drop, List.length_take]; rfl)) ?_; (with_reducible refine (impl_IsBlank.calls t218 t225 _ A19.out).mono ?_); rintro e w' ⟨rfl, ⟨nd, rfl⟩⟩; refine ⟨_, rfl, ?_⟩) | ((with_reducible refine gate_callee (f := 17) rfl ?_); refine goesL_ (some 29) rfl rfl Tryd.func17 (by kernel_rfl) rfl #[.int .i64 t218] rfl (by (try simp only [List.map_toArray, List.map_cons, List.map_nil]); first | done | rfl | (simp only [List.length_drop, List.length_take]; rfl)) ?_; (with_reducible refine (spec_IsBlank.calls t218 t226 _ A20.out).mono ?_); rintro e w' ⟨rfl, ⟨nd, rfl⟩⟩; refine ⟨_, rfl, ?_⟩) | (go_at_call 18; (with_reducible refine (impl_IsLetter.calls t219 t227 _ A22.out).mono ?_); rintro e w' ⟨rfl, ⟨nd, rfl⟩⟩) | (go_at_call 19; (with_reducible refine (spec_IsLetter.calls t219 t228 _ A23.out).mono ?_); rintro e w' ⟨rfl, ⟨nd, rfl⟩⟩) | (go_at_call 20; (with_reducible refine (impl_IsText.calls t220 t229 _ A25.out).mono ?_); rintro e w' ⟨rfl, ⟨nd, rfl⟩⟩) | (go_at_call 21; (with_reducible refine (spec_IsText.calls t220 t230 _ A26.out).mono ?_); rintro e w' ⟨rfl, ⟨nd, rfl⟩⟩))
            go_meet
            case rel => exact ⟨_, (true), (by first | rfl | (simp; done) | (simp [*]; done)), H', ⟨by first | omega | exact Nat.le_refl _⟩, ⟨by repeat (first | (with_reducible first | exact HB.out | apply below_alloc | apply pw_below_drewN | apply below_drew1) | exact HB.out)⟩⟩
          · rw [if_neg c27] at H
            have c27b0 : (t229 != t230) = false := by simpa using c27
            (try (have c27b1 : decide (t229 = t230) = true := by simpa using c27))
            (try (have c27b2 : (t229 == t230) = true := by simpa using c27))
            clear c27
            replace H := Option.bind_eq_some_iff.mp H
            obtain ⟨t231, A280, H⟩ := H
            replace H : ((spec_IsFirst.f k t221).bind fun t232 => (if (t231 != t232) = true then (laws_FnKinds.j0 k t221 t223 t224 true) else ((impl_IsNext.f t222).bind fun t233 => ((spec_IsNext.f k t222).bind fun t234 => (if (t233 != t234) = true then (laws_FnKinds.j0 k t221 t223 t224 true) else ((impl_Small.f t223).bind fun t235 => ((spec_Small.f t223).bind fun t236 => (if t235.toList = t236.toList then ((impl_Lines.f t224).bind fun t237 => ((spec_Lines.f t224).bind fun t238 => (laws_FnKinds.j0 k t221 t223 t224 (t237.toList != t238.toList)))) else (laws_FnKinds.j0 k t221 t223 t224 true))))))))) = some r := H
            have A28 := Aside0.mk A280
            clear A280
            try have ZA28_A60 := Aside0.mk (Option.some.inj (A60.out.symm.trans A28.out))
            replace H := Option.bind_eq_some_iff.mp H
            obtain ⟨t232, A290, H⟩ := H
            replace H : (if (t231 != t232) = true then (laws_FnKinds.j0 k t221 t223 t224 true) else ((impl_IsNext.f t222).bind fun t233 => ((spec_IsNext.f k t222).bind fun t234 => (if (t233 != t234) = true then (laws_FnKinds.j0 k t221 t223 t224 true) else ((impl_Small.f t223).bind fun t235 => ((spec_Small.f t223).bind fun t236 => (if t235.toList = t236.toList then ((impl_Lines.f t224).bind fun t237 => ((spec_Lines.f t224).bind fun t238 => (laws_FnKinds.j0 k t221 t223 t224 (t237.toList != t238.toList)))) else (laws_FnKinds.j0 k t221 t223 t224 true)))))))) = some r := H
            have A29 := Aside0.mk A290
            clear A290
            by_cases c30 : (t231 != t232) = true
            · rw [if_pos c30] at H
              have c30b0 : (t231 != t232) = true := c30
              (try (have c30b1 : decide (t231 = t232) = false := by simpa using c30))
              (try (have c30b2 : (t231 == t232) = false := by simpa using c30))
              (try (have c30b3 : ¬ (t231 = t232) := by simpa using c30))
              clear c30
              have H' := Aside0.mk H
              clear H
              go_wp2_with (first | ((with_reducible refine gate_callee (f := 16) rfl ?_); refine goesL_ (some 27) rfl rfl Tryd.func16 (by kernel_rfl) rfl #[.int .i64 t218] rfl (by (try simp only [List.map_toArray, List.map_cons, List.map_nil]); first | done | rfl | (simp only [List.length_drop, List.length_take]; rfl)) ?_; (with_reducible refine (impl_IsBlank.calls t218 t225 _ A19.out).mono ?_); rintro e w' ⟨rfl, ⟨nd, rfl⟩⟩; refine ⟨_, rfl, ?_⟩) | ((with_reducible refine gate_callee (f := 17) rfl ?_); refine goesL_ (some 29) rfl rfl Tryd.func17 (by kernel_rfl) rfl #[.int .i64 t218] rfl (by (try simp only [List.map_toArray, List.map_cons, List.map_nil]); first | done | rfl | (simp only [List.length_drop, List.length_take]; rfl)) ?_; (with_reducible refine (spec_IsBlank.calls t218 t226 _ A20.out).mono ?_); rintro e w' ⟨rfl, ⟨nd, rfl⟩⟩; refine ⟨_, rfl, ?_⟩) | (go_at_call 18; (with_reducible refine (impl_IsLetter.calls t219 t227 _ A22.out).mono ?_); rintro e w' ⟨rfl, ⟨nd, rfl⟩⟩) | (go_at_call 19; (with_reducible refine (spec_IsLetter.calls t219 t228 _ A23.out).mono ?_); rintro e w' ⟨rfl, ⟨nd, rfl⟩⟩) | (go_at_call 20; (with_reducible refine (impl_IsText.calls t220 t229 _ A25.out).mono ?_); rintro e w' ⟨rfl, ⟨nd, rfl⟩⟩) | (go_at_call 21; (with_reducible refine (spec_IsText.calls t220 t230 _ A26.out).mono ?_); rintro e w' ⟨rfl, ⟨nd, rfl⟩⟩) | (go_at_call 22; (with_reducible refine (impl_IsFirst.calls t221 t231 _ A28.out).mono ?_); rintro e w31 ⟨rfl, hb⟩; have n0_ := Aside0.mk (below_step (by repeat (first | (with_reducible first | exact HB.out | apply below_alloc | apply pw_below_drewN | apply below_drew1) | exact HB.out)) hb); clear HB; have HB := n0_; clear n0_; (try clear hb); (try clear hb2); (try clear hk); (try clear hi)) | (go_at_call 23; (with_reducible refine (spec_IsFirst.calls k t221 t232 _ A29.out).mono ?_); rintro e w32 ⟨rfl, hb⟩; have n0_ := Aside0.mk (below_step (by repeat (first | (with_reducible first | exact HB.out | apply below_alloc | apply pw_below_drewN | apply below_drew1) | exact HB.out)) hb); clear HB; have HB := n0_; clear n0_; (try clear hb); (try clear hb2); (try clear hk); (try clear hi)))
              go_meet
              case rel => exact ⟨_, (true), (by first | rfl | (simp; done) | (simp [*]; done)), H', ⟨by first | omega | exact Nat.le_refl _⟩, ⟨by repeat (first | (with_reducible first | exact HB.out | apply below_alloc | apply pw_below_drewN | apply below_drew1) | exact HB.out)⟩⟩
            · rw [if_neg c30] at H
              have c30b0 : (t231 != t232) = false := by simpa using c30
              (try (have c30b1 : decide (t231 = t232) = true := by simpa using c30))
              (try (have c30b2 : (t231 == t232) = true := by simpa using c30))
              clear c30
              replace H := Option.bind_eq_some_iff.mp H
              obtain ⟨t233, A330, H⟩ := H
              replace H : ((spec_IsNext.f k t222).bind fun t234 => (if (t233 != t234) = true then (laws_FnKinds.j0 k t221 t223 t224 true) else ((impl_Small.f t223).bind fun t235 => ((spec_Small.f t223).bind fun t236 => (if t235.toList = t236.toList then ((impl_Lines.f t224).bind fun t237 => ((spec_Lines.f t224).bind fun t238 => (laws_FnKinds.j0 k t221 t223 t224 (t237.toList != t238.toList)))) else (laws_FnKinds.j0 k t221 t223 t224 true)))))) = some r := H
              have A33 := Aside0.mk A330
              clear A330
              replace H := Option.bind_eq_some_iff.mp H
              obtain ⟨t234, A340, H⟩ := H
              replace H : (if (t233 != t234) = true then (laws_FnKinds.j0 k t221 t223 t224 true) else ((impl_Small.f t223).bind fun t235 => ((spec_Small.f t223).bind fun t236 => (if t235.toList = t236.toList then ((impl_Lines.f t224).bind fun t237 => ((spec_Lines.f t224).bind fun t238 => (laws_FnKinds.j0 k t221 t223 t224 (t237.toList != t238.toList)))) else (laws_FnKinds.j0 k t221 t223 t224 true))))) = some r := H
              have A34 := Aside0.mk A340
              clear A340
              by_cases c35 : (t233 != t234) = true
              · rw [if_pos c35] at H
                have c35b0 : (t233 != t234) = true := c35
                (try (have c35b1 : decide (t233 = t234) = false := by simpa using c35))
                (try (have c35b2 : (t233 == t234) = false := by simpa using c35))
                (try (have c35b3 : ¬ (t233 = t234) := by simpa using c35))
                clear c35
                have H' := Aside0.mk H
                clear H
                go_wp2_with (first | ((with_reducible refine gate_callee (f := 16) rfl ?_); refine goesL_ (some 27) rfl rfl Tryd.func16 (by kernel_rfl) rfl #[.int .i64 t218] rfl (by (try simp only [List.map_toArray, List.map_cons, List.map_nil]); first | done | rfl | (simp only [List.length_drop, List.length_take]; rfl)) ?_; (with_reducible refine (impl_IsBlank.calls t218 t225 _ A19.out).mono ?_); rintro e w' ⟨rfl, ⟨nd, rfl⟩⟩; refine ⟨_, rfl, ?_⟩) | ((with_reducible refine gate_callee (f := 17) rfl ?_); refine goesL_ (some 29) rfl rfl Tryd.func17 (by kernel_rfl) rfl #[.int .i64 t218] rfl (by (try simp only [List.map_toArray, List.map_cons, List.map_nil]); first | done | rfl | (simp only [List.length_drop, List.length_take]; rfl)) ?_; (with_reducible refine (spec_IsBlank.calls t218 t226 _ A20.out).mono ?_); rintro e w' ⟨rfl, ⟨nd, rfl⟩⟩; refine ⟨_, rfl, ?_⟩) | (go_at_call 18; (with_reducible refine (impl_IsLetter.calls t219 t227 _ A22.out).mono ?_); rintro e w' ⟨rfl, ⟨nd, rfl⟩⟩) | (go_at_call 19; (with_reducible refine (spec_IsLetter.calls t219 t228 _ A23.out).mono ?_); rintro e w' ⟨rfl, ⟨nd, rfl⟩⟩) | (go_at_call 20; (with_reducible refine (impl_IsText.calls t220 t229 _ A25.out).mono ?_); rintro e w' ⟨rfl, ⟨nd, rfl⟩⟩) | (go_at_call 21; (with_reducible refine (spec_IsText.calls t220 t230 _ A26.out).mono ?_); rintro e w' ⟨rfl, ⟨nd, rfl⟩⟩) | (go_at_call 22; (with_reducible refine (impl_IsFirst.calls t221 t231 _ A28.out).mono ?_); rintro e w36 ⟨rfl, hb⟩; have n0_ := Aside0.mk (below_step (by repeat (first | (with_reducible first | exact HB.out | apply below_alloc | apply pw_below_drewN | apply below_drew1) | exact HB.out)) hb); clear HB; have HB := n0_; clear n0_; (try clear hb); (try clear hb2); (try clear hk); (try clear hi)) | (go_at_call 23; (with_reducible refine (spec_IsFirst.calls k t221 t232 _ A29.out).mono ?_); rintro e w37 ⟨rfl, hb⟩; have n0_ := Aside0.mk (below_step (by repeat (first | (with_reducible first | exact HB.out | apply below_alloc | apply pw_below_drewN | apply below_drew1) | exact HB.out)) hb); clear HB; have HB := n0_; clear n0_; (try clear hb); (try clear hb2); (try clear hk); (try clear hi)) | (go_at_call 24; (with_reducible refine (impl_IsNext.calls t222 t233 _ A33.out).mono ?_); rintro e w38 ⟨rfl, hb⟩; have n0_ := Aside0.mk (below_step (by repeat (first | (with_reducible first | exact HB.out | apply below_alloc | apply pw_below_drewN | apply below_drew1) | exact HB.out)) hb); clear HB; have HB := n0_; clear n0_; (try clear hb); (try clear hb2); (try clear hk); (try clear hi)) | (go_at_call 25; (with_reducible refine (spec_IsNext.calls k t222 t234 _ A34.out).mono ?_); rintro e w39 ⟨rfl, hb⟩; have n0_ := Aside0.mk (below_step (by repeat (first | (with_reducible first | exact HB.out | apply below_alloc | apply pw_below_drewN | apply below_drew1) | exact HB.out)) hb); clear HB; have HB := n0_; clear n0_; (try clear hb); (try clear hb2); (try clear hk); (try clear hi)))
                go_meet
                case rel => exact ⟨_, (true), (by first | rfl | (simp; done) | (simp [*]; done)), H', ⟨by first | omega | exact Nat.le_refl _⟩, ⟨by repeat (first | (with_reducible first | exact HB.out | apply below_alloc | apply pw_below_drewN | apply below_drew1) | exact HB.out)⟩⟩
              · rw [if_neg c35] at H
                have c35b0 : (t233 != t234) = false := by simpa using c35
                (try (have c35b1 : decide (t233 = t234) = true := by simpa using c35))
                (try (have c35b2 : (t233 == t234) = true := by simpa using c35))
                clear c35
                replace H := Option.bind_eq_some_iff.mp H
                obtain ⟨t235, A400, H⟩ := H
                replace H : ((spec_Small.f t223).bind fun t236 => (if t235.toList = t236.toList then ((impl_Lines.f t224).bind fun t237 => ((spec_Lines.f t224).bind fun t238 => (laws_FnKinds.j0 k t221 t223 t224 (t237.toList != t238.toList)))) else (laws_FnKinds.j0 k t221 t223 t224 true))) = some r := H
                have A40 := Aside0.mk A400
                clear A400
                try have ZA40_A66 := Aside0.mk (Option.some.inj (A66.out.symm.trans A40.out))
                try have ZA40_A68 := Aside0.mk (Option.some.inj (A68.out.symm.trans A40.out))
                try have ZA40_A101 := Aside0.mk (Option.some.inj (A101.out.symm.trans A40.out))
                try have ZA40_A103 := Aside0.mk (Option.some.inj (A103.out.symm.trans A40.out))
                replace H := Option.bind_eq_some_iff.mp H
                obtain ⟨t236, A410, H⟩ := H
                replace H : (if t235.toList = t236.toList then ((impl_Lines.f t224).bind fun t237 => ((spec_Lines.f t224).bind fun t238 => (laws_FnKinds.j0 k t221 t223 t224 (t237.toList != t238.toList)))) else (laws_FnKinds.j0 k t221 t223 t224 true)) = some r := H
                have A41 := Aside0.mk A410
                clear A410
                by_cases c42 : t235.toList = t236.toList
                · rw [if_pos c42] at H
                  have c42b0 : (t235.toList == t236.toList) = true := beq_iff_eq.mpr c42
                  have c42b1 : (t235.toList != t236.toList) = false := bne_eq_false_iff_eq.mpr c42
                  clear c42
                  replace H := Option.bind_eq_some_iff.mp H
                  obtain ⟨t237, A430, H⟩ := H
                  replace H : ((spec_Lines.f t224).bind fun t238 => (laws_FnKinds.j0 k t221 t223 t224 (t237.toList != t238.toList))) = some r := H
                  have A43 := Aside0.mk A430
                  clear A430
                  try have ZA43_A70 := Aside0.mk (Option.some.inj (A70.out.symm.trans A43.out))
                  try have ZA43_A72 := Aside0.mk (Option.some.inj (A72.out.symm.trans A43.out))
                  try have ZA43_A74 := Aside0.mk (Option.some.inj (A74.out.symm.trans A43.out))
                  try have ZA43_A105 := Aside0.mk (Option.some.inj (A105.out.symm.trans A43.out))
                  try have ZA43_A107 := Aside0.mk (Option.some.inj (A107.out.symm.trans A43.out))
                  try have ZA43_A109 := Aside0.mk (Option.some.inj (A109.out.symm.trans A43.out))
                  replace H := Option.bind_eq_some_iff.mp H
                  obtain ⟨t238, A440, H⟩ := H
                  replace H : (laws_FnKinds.j0 k t221 t223 t224 (t237.toList != t238.toList)) = some r := H
                  have A44 := Aside0.mk A440
                  clear A440
                  have H' := Aside0.mk H
                  clear H
                  go_wp2_with (first | ((with_reducible refine gate_callee (f := 16) rfl ?_); refine goesL_ (some 27) rfl rfl Tryd.func16 (by kernel_rfl) rfl #[.int .i64 t218] rfl (by (try simp only [List.map_toArray, List.map_cons, List.map_nil]); first | done | rfl | (simp only [List.length_drop, List.length_take]; rfl)) ?_; (with_reducible refine (impl_IsBlank.calls t218 t225 _ A19.out).mono ?_); rintro e w' ⟨rfl, ⟨nd, rfl⟩⟩; refine ⟨_, rfl, ?_⟩) | ((with_reducible refine gate_callee (f := 17) rfl ?_); refine goesL_ (some 29) rfl rfl Tryd.func17 (by kernel_rfl) rfl #[.int .i64 t218] rfl (by (try simp only [List.map_toArray, List.map_cons, List.map_nil]); first | done | rfl | (simp only [List.length_drop, List.length_take]; rfl)) ?_; (with_reducible refine (spec_IsBlank.calls t218 t226 _ A20.out).mono ?_); rintro e w' ⟨rfl, ⟨nd, rfl⟩⟩; refine ⟨_, rfl, ?_⟩) | (go_at_call 18; (with_reducible refine (impl_IsLetter.calls t219 t227 _ A22.out).mono ?_); rintro e w' ⟨rfl, ⟨nd, rfl⟩⟩) | (go_at_call 19; (with_reducible refine (spec_IsLetter.calls t219 t228 _ A23.out).mono ?_); rintro e w' ⟨rfl, ⟨nd, rfl⟩⟩) | (go_at_call 20; (with_reducible refine (impl_IsText.calls t220 t229 _ A25.out).mono ?_); rintro e w' ⟨rfl, ⟨nd, rfl⟩⟩) | (go_at_call 21; (with_reducible refine (spec_IsText.calls t220 t230 _ A26.out).mono ?_); rintro e w' ⟨rfl, ⟨nd, rfl⟩⟩) | (go_at_call 22; (with_reducible refine (impl_IsFirst.calls t221 t231 _ A28.out).mono ?_); rintro e w45 ⟨rfl, hb⟩; have n0_ := Aside0.mk (below_step (by repeat (first | (with_reducible first | exact HB.out | apply below_alloc | apply pw_below_drewN | apply below_drew1) | exact HB.out)) hb); clear HB; have HB := n0_; clear n0_; (try clear hb); (try clear hb2); (try clear hk); (try clear hi)) | (go_at_call 23; (with_reducible refine (spec_IsFirst.calls k t221 t232 _ A29.out).mono ?_); rintro e w46 ⟨rfl, hb⟩; have n0_ := Aside0.mk (below_step (by repeat (first | (with_reducible first | exact HB.out | apply below_alloc | apply pw_below_drewN | apply below_drew1) | exact HB.out)) hb); clear HB; have HB := n0_; clear n0_; (try clear hb); (try clear hb2); (try clear hk); (try clear hi)) | (go_at_call 24; (with_reducible refine (impl_IsNext.calls t222 t233 _ A33.out).mono ?_); rintro e w47 ⟨rfl, hb⟩; have n0_ := Aside0.mk (below_step (by repeat (first | (with_reducible first | exact HB.out | apply below_alloc | apply pw_below_drewN | apply below_drew1) | exact HB.out)) hb); clear HB; have HB := n0_; clear n0_; (try clear hb); (try clear hb2); (try clear hk); (try clear hi)) | (go_at_call 25; (with_reducible refine (spec_IsNext.calls k t222 t234 _ A34.out).mono ?_); rintro e w48 ⟨rfl, hb⟩; have n0_ := Aside0.mk (below_step (by repeat (first | (with_reducible first | exact HB.out | apply below_alloc | apply pw_below_drewN | apply below_drew1) | exact HB.out)) hb); clear HB; have HB := n0_; clear n0_; (try clear hb); (try clear hb2); (try clear hk); (try clear hi)) | (go_at_call 26; (with_reducible refine (impl_Small.calls t223 t235 _ A40.out).mono ?_); rintro e w49 ⟨rfl, hb⟩; have n0_ := Aside0.mk (below_step (by repeat (first | (with_reducible first | exact HB.out | apply below_alloc | apply pw_below_drewN | apply below_drew1) | exact HB.out)) hb); clear HB; have HB := n0_; clear n0_; (try clear hb); (try clear hb2); (try clear hk); (try clear hi)) | (go_at_call 27; (with_reducible refine (spec_Small.calls t223 t236 _ A41.out).mono ?_); rintro e w50 ⟨rfl, hb⟩; have n0_ := Aside0.mk (below_step (by repeat (first | (with_reducible first | exact HB.out | apply below_alloc | apply pw_below_drewN | apply below_drew1) | exact HB.out)) hb); clear HB; have HB := n0_; clear n0_; (try clear hb); (try clear hb2); (try clear hk); (try clear hi)) | (go_at_call 7; (with_reducible refine (impl_Lines.calls t224 t237 _ ?side1 A43.out).mono ?_); (case side1 => exact MaxSeen.below HG.out (by repeat (first | (with_reducible first | exact HB.out | apply below_alloc | apply pw_below_drewN | apply below_drew1) | exact HB.out))); rintro e w51 ⟨rfl, hb⟩; have n0_ := Aside0.mk (below_step (by repeat (first | (with_reducible first | exact HB.out | apply below_alloc | apply pw_below_drewN | apply below_drew1) | exact HB.out)) hb); clear HB; have HB := n0_; clear n0_; (try clear hb); (try clear hb2); (try clear hk); (try clear hi)) | (go_at_call 6; (with_reducible refine (spec_Lines.calls t224 t238 _ A44.out).mono ?_); rintro e w52 ⟨rfl, hb⟩; have n0_ := Aside0.mk (below_step (by repeat (first | (with_reducible first | exact HB.out | apply below_alloc | apply pw_below_drewN | apply below_drew1) | exact HB.out)) hb); clear HB; have HB := n0_; clear n0_; (try clear hb); (try clear hb2); (try clear hk); (try clear hi)))
                  go_meet
                  case rel => exact ⟨_, ((t237.toList != t238.toList)), (by first | rfl | (simp; done) | (simp [*]; done)), H', ⟨by first | omega | exact Nat.le_refl _⟩, ⟨by repeat (first | (with_reducible first | exact HB.out | apply below_alloc | apply pw_below_drewN | apply below_drew1) | exact HB.out)⟩⟩
                · rw [if_neg c42] at H
                  have c42b0 : (t235.toList == t236.toList) = false := beq_eq_false_iff_ne.mpr c42
                  have c42b1 : (t235.toList != t236.toList) = true := bne_iff_ne.mpr c42
                  have H' := Aside0.mk H
                  clear H
                  go_wp2_with (first | ((with_reducible refine gate_callee (f := 16) rfl ?_); refine goesL_ (some 27) rfl rfl Tryd.func16 (by kernel_rfl) rfl #[.int .i64 t218] rfl (by (try simp only [List.map_toArray, List.map_cons, List.map_nil]); first | done | rfl | (simp only [List.length_drop, List.length_take]; rfl)) ?_; (with_reducible refine (impl_IsBlank.calls t218 t225 _ A19.out).mono ?_); rintro e w' ⟨rfl, ⟨nd, rfl⟩⟩; refine ⟨_, rfl, ?_⟩) | ((with_reducible refine gate_callee (f := 17) rfl ?_); refine goesL_ (some 29) rfl rfl Tryd.func17 (by kernel_rfl) rfl #[.int .i64 t218] rfl (by (try simp only [List.map_toArray, List.map_cons, List.map_nil]); first | done | rfl | (simp only [List.length_drop, List.length_take]; rfl)) ?_; (with_reducible refine (spec_IsBlank.calls t218 t226 _ A20.out).mono ?_); rintro e w' ⟨rfl, ⟨nd, rfl⟩⟩; refine ⟨_, rfl, ?_⟩) | (go_at_call 18; (with_reducible refine (impl_IsLetter.calls t219 t227 _ A22.out).mono ?_); rintro e w' ⟨rfl, ⟨nd, rfl⟩⟩) | (go_at_call 19; (with_reducible refine (spec_IsLetter.calls t219 t228 _ A23.out).mono ?_); rintro e w' ⟨rfl, ⟨nd, rfl⟩⟩) | (go_at_call 20; (with_reducible refine (impl_IsText.calls t220 t229 _ A25.out).mono ?_); rintro e w' ⟨rfl, ⟨nd, rfl⟩⟩) | (go_at_call 21; (with_reducible refine (spec_IsText.calls t220 t230 _ A26.out).mono ?_); rintro e w' ⟨rfl, ⟨nd, rfl⟩⟩) | (go_at_call 22; (with_reducible refine (impl_IsFirst.calls t221 t231 _ A28.out).mono ?_); rintro e w53 ⟨rfl, hb⟩; have n0_ := Aside0.mk (below_step (by repeat (first | (with_reducible first | exact HB.out | apply below_alloc | apply pw_below_drewN | apply below_drew1) | exact HB.out)) hb); clear HB; have HB := n0_; clear n0_; (try clear hb); (try clear hb2); (try clear hk); (try clear hi)) | (go_at_call 23; (with_reducible refine (spec_IsFirst.calls k t221 t232 _ A29.out).mono ?_); rintro e w54 ⟨rfl, hb⟩; have n0_ := Aside0.mk (below_step (by repeat (first | (with_reducible first | exact HB.out | apply below_alloc | apply pw_below_drewN | apply below_drew1) | exact HB.out)) hb); clear HB; have HB := n0_; clear n0_; (try clear hb); (try clear hb2); (try clear hk); (try clear hi)) | (go_at_call 24; (with_reducible refine (impl_IsNext.calls t222 t233 _ A33.out).mono ?_); rintro e w55 ⟨rfl, hb⟩; have n0_ := Aside0.mk (below_step (by repeat (first | (with_reducible first | exact HB.out | apply below_alloc | apply pw_below_drewN | apply below_drew1) | exact HB.out)) hb); clear HB; have HB := n0_; clear n0_; (try clear hb); (try clear hb2); (try clear hk); (try clear hi)) | (go_at_call 25; (with_reducible refine (spec_IsNext.calls k t222 t234 _ A34.out).mono ?_); rintro e w56 ⟨rfl, hb⟩; have n0_ := Aside0.mk (below_step (by repeat (first | (with_reducible first | exact HB.out | apply below_alloc | apply pw_below_drewN | apply below_drew1) | exact HB.out)) hb); clear HB; have HB := n0_; clear n0_; (try clear hb); (try clear hb2); (try clear hk); (try clear hi)) | (go_at_call 26; (with_reducible refine (impl_Small.calls t223 t235 _ A40.out).mono ?_); rintro e w57 ⟨rfl, hb⟩; have n0_ := Aside0.mk (below_step (by repeat (first | (with_reducible first | exact HB.out | apply below_alloc | apply pw_below_drewN | apply below_drew1) | exact HB.out)) hb); clear HB; have HB := n0_; clear n0_; (try clear hb); (try clear hb2); (try clear hk); (try clear hi)) | (go_at_call 27; (with_reducible refine (spec_Small.calls t223 t236 _ A41.out).mono ?_); rintro e w58 ⟨rfl, hb⟩; have n0_ := Aside0.mk (below_step (by repeat (first | (with_reducible first | exact HB.out | apply below_alloc | apply pw_below_drewN | apply below_drew1) | exact HB.out)) hb); clear HB; have HB := n0_; clear n0_; (try clear hb); (try clear hb2); (try clear hk); (try clear hi)))
                  go_meet
                  case rel => exact ⟨_, (true), (by first | rfl | (simp; done) | (simp [*]; done)), H', ⟨by first | omega | exact Nat.le_refl _⟩, ⟨by repeat (first | (with_reducible first | exact HB.out | apply below_alloc | apply pw_below_drewN | apply below_drew1) | exact HB.out)⟩⟩
    case rest =>
      clear HC11
      try clear c1
      try clear c2
      try clear p2
      try clear c3
      try clear c4
      try clear c8
      try clear c9
      try clear c10
      try clear c11
      try clear c12
      try clear c13
      try clear c14
      try clear c15
      try clear c16
      try clear c17
      try clear c21
      try clear c21b0
      try clear c21b1
      try clear c21b2
      try clear c24
      try clear c24b0
      try clear c24b1
      try clear c24b2
      try clear c27
      try clear c27b0
      try clear c27b1
      try clear c27b2
      try clear c30
      try clear c30b0
      try clear c30b1
      try clear c30b2
      try clear c35
      try clear c35b0
      try clear c35b1
      try clear c35b2
      try clear c42
      try clear c42b0
      try clear c42b1
      obtain ⟨kq, x72_10, rfl, HA, HJ10, HB⟩ := hcut
      cases kq with
      | zero => exact absurd HA.out (by simp [laws_FnKinds.j0])
      | succ kj10 =>
        have H := HA.out
        clear HA
        simp only [laws_FnKinds.j0] at H
        by_cases c59 : x72_10 = true
        · subst c59
          have H1 : (some false) = some r := by rw [if_pos rfl] at H; exact H
          clear H
          have H := H1
          clear H1
          obtain rfl := Option.some.inj H
          go_wp2
          go_ret
          exact ⟨by first | rfl | (simp [errW_none, errW_some] <;> rfl) | (simp [*, errW_none, errW_some] <;> rfl), by repeat (first | (with_reducible first | exact HB.out | apply below_alloc | apply pw_below_drewN | apply below_drew1) | exact HB.out)⟩
        · replace c59 := Bool.eq_false_iff.mpr c59
          subst c59
          have H1 : ((impl_IsFirst.f t221).bind fun t239 => (if t239 = true then ((impl_IsNext.f t221).bind fun t240 => (if t240 = true then ((impl_IsText.f t221).bind fun t241 => (if t241 = true then ((impl_Small.f t223).bind fun t242 => ((impl_Small.f t242).bind fun t243 => ((impl_Small.f t223).bind fun t244 => (if t243.toList = t244.toList then ((impl_Lines.f t224).bind fun t245 => ((impl_Lines.f t245).bind fun t246 => ((impl_Lines.f t224).bind fun t247 => (if t246.toList = t247.toList then ((impl_Lines.f t224).bind fun t248 => (some (decide ((t248.size : Int) ≤ (t224.size : Int))))) else (some false))))) else (some false))))) else (some false))) else (some false))) else ((impl_Small.f t223).bind fun t249 => ((impl_Small.f t249).bind fun t250 => ((impl_Small.f t223).bind fun t251 => (if t250.toList = t251.toList then ((impl_Lines.f t224).bind fun t252 => ((impl_Lines.f t252).bind fun t253 => ((impl_Lines.f t224).bind fun t254 => (if t253.toList = t254.toList then ((impl_Lines.f t224).bind fun t255 => (some (decide ((t255.size : Int) ≤ (t224.size : Int))))) else (some false))))) else (some false))))))) = some r := by rw [if_neg (show ¬ (false = true) by decide)] at H; exact H
          clear H
          have H := H1
          clear H1
          replace H := Option.bind_eq_some_iff.mp H
          obtain ⟨t239, A600, H⟩ := H
          replace H : (if t239 = true then ((impl_IsNext.f t221).bind fun t240 => (if t240 = true then ((impl_IsText.f t221).bind fun t241 => (if t241 = true then ((impl_Small.f t223).bind fun t242 => ((impl_Small.f t242).bind fun t243 => ((impl_Small.f t223).bind fun t244 => (if t243.toList = t244.toList then ((impl_Lines.f t224).bind fun t245 => ((impl_Lines.f t245).bind fun t246 => ((impl_Lines.f t224).bind fun t247 => (if t246.toList = t247.toList then ((impl_Lines.f t224).bind fun t248 => (some (decide ((t248.size : Int) ≤ (t224.size : Int))))) else (some false))))) else (some false))))) else (some false))) else (some false))) else ((impl_Small.f t223).bind fun t249 => ((impl_Small.f t249).bind fun t250 => ((impl_Small.f t223).bind fun t251 => (if t250.toList = t251.toList then ((impl_Lines.f t224).bind fun t252 => ((impl_Lines.f t252).bind fun t253 => ((impl_Lines.f t224).bind fun t254 => (if t253.toList = t254.toList then ((impl_Lines.f t224).bind fun t255 => (some (decide ((t255.size : Int) ≤ (t224.size : Int))))) else (some false))))) else (some false)))))) = some r := H
          have A60 := Aside0.mk A600
          clear A600
          try have ZA60_A28 := Aside0.mk (Option.some.inj (A28.out.symm.trans A60.out))
          by_cases c61 : t239 = true
          · subst c61
            have H1 : ((impl_IsNext.f t221).bind fun t240 => (if t240 = true then ((impl_IsText.f t221).bind fun t241 => (if t241 = true then ((impl_Small.f t223).bind fun t242 => ((impl_Small.f t242).bind fun t243 => ((impl_Small.f t223).bind fun t244 => (if t243.toList = t244.toList then ((impl_Lines.f t224).bind fun t245 => ((impl_Lines.f t245).bind fun t246 => ((impl_Lines.f t224).bind fun t247 => (if t246.toList = t247.toList then ((impl_Lines.f t224).bind fun t248 => (some (decide ((t248.size : Int) ≤ (t224.size : Int))))) else (some false))))) else (some false))))) else (some false))) else (some false))) = some r := by rw [if_pos rfl] at H; exact H
            clear H
            have H := H1
            clear H1
            replace H := Option.bind_eq_some_iff.mp H
            obtain ⟨t240, A620, H⟩ := H
            replace H : (if t240 = true then ((impl_IsText.f t221).bind fun t241 => (if t241 = true then ((impl_Small.f t223).bind fun t242 => ((impl_Small.f t242).bind fun t243 => ((impl_Small.f t223).bind fun t244 => (if t243.toList = t244.toList then ((impl_Lines.f t224).bind fun t245 => ((impl_Lines.f t245).bind fun t246 => ((impl_Lines.f t224).bind fun t247 => (if t246.toList = t247.toList then ((impl_Lines.f t224).bind fun t248 => (some (decide ((t248.size : Int) ≤ (t224.size : Int))))) else (some false))))) else (some false))))) else (some false))) else (some false)) = some r := H
            have A62 := Aside0.mk A620
            clear A620
            by_cases c63 : t240 = true
            · subst c63
              have H1 : ((impl_IsText.f t221).bind fun t241 => (if t241 = true then ((impl_Small.f t223).bind fun t242 => ((impl_Small.f t242).bind fun t243 => ((impl_Small.f t223).bind fun t244 => (if t243.toList = t244.toList then ((impl_Lines.f t224).bind fun t245 => ((impl_Lines.f t245).bind fun t246 => ((impl_Lines.f t224).bind fun t247 => (if t246.toList = t247.toList then ((impl_Lines.f t224).bind fun t248 => (some (decide ((t248.size : Int) ≤ (t224.size : Int))))) else (some false))))) else (some false))))) else (some false))) = some r := by rw [if_pos rfl] at H; exact H
              clear H
              have H := H1
              clear H1
              replace H := Option.bind_eq_some_iff.mp H
              obtain ⟨t241, A640, H⟩ := H
              replace H : (if t241 = true then ((impl_Small.f t223).bind fun t242 => ((impl_Small.f t242).bind fun t243 => ((impl_Small.f t223).bind fun t244 => (if t243.toList = t244.toList then ((impl_Lines.f t224).bind fun t245 => ((impl_Lines.f t245).bind fun t246 => ((impl_Lines.f t224).bind fun t247 => (if t246.toList = t247.toList then ((impl_Lines.f t224).bind fun t248 => (some (decide ((t248.size : Int) ≤ (t224.size : Int))))) else (some false))))) else (some false))))) else (some false)) = some r := H
              have A64 := Aside0.mk A640
              clear A640
              by_cases c65 : t241 = true
              · subst c65
                have H1 : ((impl_Small.f t223).bind fun t242 => ((impl_Small.f t242).bind fun t243 => ((impl_Small.f t223).bind fun t244 => (if t243.toList = t244.toList then ((impl_Lines.f t224).bind fun t245 => ((impl_Lines.f t245).bind fun t246 => ((impl_Lines.f t224).bind fun t247 => (if t246.toList = t247.toList then ((impl_Lines.f t224).bind fun t248 => (some (decide ((t248.size : Int) ≤ (t224.size : Int))))) else (some false))))) else (some false))))) = some r := by rw [if_pos rfl] at H; exact H
                clear H
                have H := H1
                clear H1
                replace H := Option.bind_eq_some_iff.mp H
                obtain ⟨t242, A660, H⟩ := H
                replace H : ((impl_Small.f t242).bind fun t243 => ((impl_Small.f t223).bind fun t244 => (if t243.toList = t244.toList then ((impl_Lines.f t224).bind fun t245 => ((impl_Lines.f t245).bind fun t246 => ((impl_Lines.f t224).bind fun t247 => (if t246.toList = t247.toList then ((impl_Lines.f t224).bind fun t248 => (some (decide ((t248.size : Int) ≤ (t224.size : Int))))) else (some false))))) else (some false)))) = some r := H
                have A66 := Aside0.mk A660
                clear A660
                try have ZA66_A40 := Aside0.mk (Option.some.inj (A40.out.symm.trans A66.out))
                try have ZA66_A68 := Aside0.mk (Option.some.inj (A68.out.symm.trans A66.out))
                try have ZA66_A101 := Aside0.mk (Option.some.inj (A101.out.symm.trans A66.out))
                try have ZA66_A103 := Aside0.mk (Option.some.inj (A103.out.symm.trans A66.out))
                replace H := Option.bind_eq_some_iff.mp H
                obtain ⟨t243, A670, H⟩ := H
                replace H : ((impl_Small.f t223).bind fun t244 => (if t243.toList = t244.toList then ((impl_Lines.f t224).bind fun t245 => ((impl_Lines.f t245).bind fun t246 => ((impl_Lines.f t224).bind fun t247 => (if t246.toList = t247.toList then ((impl_Lines.f t224).bind fun t248 => (some (decide ((t248.size : Int) ≤ (t224.size : Int))))) else (some false))))) else (some false))) = some r := H
                have A67 := Aside0.mk A670
                clear A670
                replace H := Option.bind_eq_some_iff.mp H
                obtain ⟨t244, A680, H⟩ := H
                replace H : (if t243.toList = t244.toList then ((impl_Lines.f t224).bind fun t245 => ((impl_Lines.f t245).bind fun t246 => ((impl_Lines.f t224).bind fun t247 => (if t246.toList = t247.toList then ((impl_Lines.f t224).bind fun t248 => (some (decide ((t248.size : Int) ≤ (t224.size : Int))))) else (some false))))) else (some false)) = some r := H
                have A68 := Aside0.mk A680
                clear A680
                try have ZA68_A40 := Aside0.mk (Option.some.inj (A40.out.symm.trans A68.out))
                try have ZA68_A66 := Aside0.mk (Option.some.inj (A66.out.symm.trans A68.out))
                try have ZA68_A101 := Aside0.mk (Option.some.inj (A101.out.symm.trans A68.out))
                try have ZA68_A103 := Aside0.mk (Option.some.inj (A103.out.symm.trans A68.out))
                by_cases c69 : t243.toList = t244.toList
                · rw [if_pos c69] at H
                  have c69b0 : (t243.toList == t244.toList) = true := beq_iff_eq.mpr c69
                  have c69b1 : (t243.toList != t244.toList) = false := bne_eq_false_iff_eq.mpr c69
                  try rw [← ZA68_A66.out] at c69b0 c69b1
                  clear c69
                  replace H := Option.bind_eq_some_iff.mp H
                  obtain ⟨t245, A700, H⟩ := H
                  replace H : ((impl_Lines.f t245).bind fun t246 => ((impl_Lines.f t224).bind fun t247 => (if t246.toList = t247.toList then ((impl_Lines.f t224).bind fun t248 => (some (decide ((t248.size : Int) ≤ (t224.size : Int))))) else (some false)))) = some r := H
                  have A70 := Aside0.mk A700
                  clear A700
                  try have ZA70_A43 := Aside0.mk (Option.some.inj (A43.out.symm.trans A70.out))
                  try have ZA70_A72 := Aside0.mk (Option.some.inj (A72.out.symm.trans A70.out))
                  try have ZA70_A74 := Aside0.mk (Option.some.inj (A74.out.symm.trans A70.out))
                  try have ZA70_A105 := Aside0.mk (Option.some.inj (A105.out.symm.trans A70.out))
                  try have ZA70_A107 := Aside0.mk (Option.some.inj (A107.out.symm.trans A70.out))
                  try have ZA70_A109 := Aside0.mk (Option.some.inj (A109.out.symm.trans A70.out))
                  replace H := Option.bind_eq_some_iff.mp H
                  obtain ⟨t246, A710, H⟩ := H
                  replace H : ((impl_Lines.f t224).bind fun t247 => (if t246.toList = t247.toList then ((impl_Lines.f t224).bind fun t248 => (some (decide ((t248.size : Int) ≤ (t224.size : Int))))) else (some false))) = some r := H
                  have A71 := Aside0.mk A710
                  clear A710
                  replace H := Option.bind_eq_some_iff.mp H
                  obtain ⟨t247, A720, H⟩ := H
                  replace H : (if t246.toList = t247.toList then ((impl_Lines.f t224).bind fun t248 => (some (decide ((t248.size : Int) ≤ (t224.size : Int))))) else (some false)) = some r := H
                  have A72 := Aside0.mk A720
                  clear A720
                  try have ZA72_A43 := Aside0.mk (Option.some.inj (A43.out.symm.trans A72.out))
                  try have ZA72_A70 := Aside0.mk (Option.some.inj (A70.out.symm.trans A72.out))
                  try have ZA72_A74 := Aside0.mk (Option.some.inj (A74.out.symm.trans A72.out))
                  try have ZA72_A105 := Aside0.mk (Option.some.inj (A105.out.symm.trans A72.out))
                  try have ZA72_A107 := Aside0.mk (Option.some.inj (A107.out.symm.trans A72.out))
                  try have ZA72_A109 := Aside0.mk (Option.some.inj (A109.out.symm.trans A72.out))
                  by_cases c73 : t246.toList = t247.toList
                  · rw [if_pos c73] at H
                    have c73b0 : (t246.toList == t247.toList) = true := beq_iff_eq.mpr c73
                    have c73b1 : (t246.toList != t247.toList) = false := bne_eq_false_iff_eq.mpr c73
                    try rw [← ZA68_A66.out] at c73b0 c73b1
                    try rw [← ZA72_A70.out] at c73b0 c73b1
                    clear c73
                    replace H := Option.bind_eq_some_iff.mp H
                    obtain ⟨t248, A740, H⟩ := H
                    replace H : (some (decide ((t248.size : Int) ≤ (t224.size : Int)))) = some r := H
                    have A74 := Aside0.mk A740
                    clear A740
                    try have ZA74_A43 := Aside0.mk (Option.some.inj (A43.out.symm.trans A74.out))
                    try have ZA74_A70 := Aside0.mk (Option.some.inj (A70.out.symm.trans A74.out))
                    try have ZA74_A72 := Aside0.mk (Option.some.inj (A72.out.symm.trans A74.out))
                    try have ZA74_A105 := Aside0.mk (Option.some.inj (A105.out.symm.trans A74.out))
                    try have ZA74_A107 := Aside0.mk (Option.some.inj (A107.out.symm.trans A74.out))
                    try have ZA74_A109 := Aside0.mk (Option.some.inj (A109.out.symm.trans A74.out))
                    try rw [← ZA68_A66.out] at H
                    try rw [← ZA72_A70.out] at H
                    try rw [← ZA74_A70.out] at H
                    try rw [← ZA74_A72.out] at H
                    obtain rfl := Option.some.inj H
                    go_wp2_with (first | ((with_reducible refine gate_callee (f := 22) rfl ?_); refine goesL_ (some 74) rfl rfl Tryd.func22 (by kernel_rfl) rfl #[.int .i64 t221] rfl (by (try simp only [List.map_toArray, List.map_cons, List.map_nil]); first | done | rfl | (simp only [List.length_drop, List.length_take]; rfl)) ?_; (with_reducible refine (impl_IsFirst.calls t221 true _ A60.out).mono ?_); rintro e w75 ⟨rfl, hb⟩; refine ⟨_, rfl, ?_⟩; have n0_ := Aside0.mk (below_step (by repeat (first | (with_reducible first | exact HB.out | apply below_alloc | apply pw_below_drewN | apply below_drew1) | exact HB.out)) hb); clear HB; have HB := n0_; clear n0_; (try clear hb); (try clear hb2); (try clear hk); (try clear hi)) | (go_at_call 24; (with_reducible refine (impl_IsNext.calls t221 true _ A62.out).mono ?_); rintro e w76 ⟨rfl, hb⟩; have n0_ := Aside0.mk (below_step (by repeat (first | (with_reducible first | exact HB.out | apply below_alloc | apply pw_below_drewN | apply below_drew1) | exact HB.out)) hb); clear HB; have HB := n0_; clear n0_; (try clear hb); (try clear hb2); (try clear hk); (try clear hi)) | (go_at_call 20; (with_reducible refine (impl_IsText.calls t221 true _ A64.out).mono ?_); rintro e w' ⟨rfl, ⟨nd, rfl⟩⟩) | (go_at_call 26; (with_reducible refine (impl_Small.calls t223 t242 _ A66.out).mono ?_); rintro e w77 ⟨rfl, hb⟩; have n0_ := Aside0.mk (below_step (by repeat (first | (with_reducible first | exact HB.out | apply below_alloc | apply pw_below_drewN | apply below_drew1) | exact HB.out)) hb); clear HB; have HB := n0_; clear n0_; (try clear hb); (try clear hb2); (try clear hk); (try clear hi)) | (go_at_call 26; (with_reducible refine (impl_Small.calls t242 t243 _ A67.out).mono ?_); rintro e w78 ⟨rfl, hb⟩; have n0_ := Aside0.mk (below_step (by repeat (first | (with_reducible first | exact HB.out | apply below_alloc | apply pw_below_drewN | apply below_drew1) | exact HB.out)) hb); clear HB; have HB := n0_; clear n0_; (try clear hb); (try clear hb2); (try clear hk); (try clear hi)) | (go_at_call 26; (with_reducible refine (impl_Small.calls t223 t244 _ A68.out).mono ?_); rintro e w79 ⟨rfl, hb⟩; have n0_ := Aside0.mk (below_step (by repeat (first | (with_reducible first | exact HB.out | apply below_alloc | apply pw_below_drewN | apply below_drew1) | exact HB.out)) hb); clear HB; have HB := n0_; clear n0_; (try clear hb); (try clear hb2); (try clear hk); (try clear hi)) | (go_at_call 7; (with_reducible refine (impl_Lines.calls t224 t245 _ ?side1 A70.out).mono ?_); (case side1 => exact MaxSeen.below HG.out (by repeat (first | (with_reducible first | exact HB.out | apply below_alloc | apply pw_below_drewN | apply below_drew1) | exact HB.out))); rintro e w80 ⟨rfl, hb⟩; have n0_ := Aside0.mk (below_step (by repeat (first | (with_reducible first | exact HB.out | apply below_alloc | apply pw_below_drewN | apply below_drew1) | exact HB.out)) hb); clear HB; have HB := n0_; clear n0_; (try clear hb); (try clear hb2); (try clear hk); (try clear hi)) | (go_at_call 7; (with_reducible refine (impl_Lines.calls t245 t246 _ ?side1 A71.out).mono ?_); (case side1 => exact MaxSeen.below HG.out (by repeat (first | (with_reducible first | exact HB.out | apply below_alloc | apply pw_below_drewN | apply below_drew1) | exact HB.out))); rintro e w81 ⟨rfl, hb⟩; have n0_ := Aside0.mk (below_step (by repeat (first | (with_reducible first | exact HB.out | apply below_alloc | apply pw_below_drewN | apply below_drew1) | exact HB.out)) hb); clear HB; have HB := n0_; clear n0_; (try clear hb); (try clear hb2); (try clear hk); (try clear hi)) | (go_at_call 7; (with_reducible refine (impl_Lines.calls t224 t247 _ ?side1 A72.out).mono ?_); (case side1 => exact MaxSeen.below HG.out (by repeat (first | (with_reducible first | exact HB.out | apply below_alloc | apply pw_below_drewN | apply below_drew1) | exact HB.out))); rintro e w82 ⟨rfl, hb⟩; have n0_ := Aside0.mk (below_step (by repeat (first | (with_reducible first | exact HB.out | apply below_alloc | apply pw_below_drewN | apply below_drew1) | exact HB.out)) hb); clear HB; have HB := n0_; clear n0_; (try clear hb); (try clear hb2); (try clear hk); (try clear hi)) | (go_at_call 7; (with_reducible refine (impl_Lines.calls t224 t248 _ ?side1 A74.out).mono ?_); (case side1 => exact MaxSeen.below HG.out (by repeat (first | (with_reducible first | exact HB.out | apply below_alloc | apply pw_below_drewN | apply below_drew1) | exact HB.out))); rintro e w83 ⟨rfl, hb⟩; have n0_ := Aside0.mk (below_step (by repeat (first | (with_reducible first | exact HB.out | apply below_alloc | apply pw_below_drewN | apply below_drew1) | exact HB.out)) hb); clear HB; have HB := n0_; clear n0_; (try clear hb); (try clear hb2); (try clear hk); (try clear hi)))
                    go_ret
                    exact ⟨by first | rfl | (simp [errW_none, errW_some] <;> rfl) | (simp [*, errW_none, errW_some] <;> rfl), by repeat (first | (with_reducible first | exact HB.out | apply below_alloc | apply pw_below_drewN | apply below_drew1) | exact HB.out)⟩
                  · rw [if_neg c73] at H
                    have c73b0 : (t246.toList == t247.toList) = false := beq_eq_false_iff_ne.mpr c73
                    have c73b1 : (t246.toList != t247.toList) = true := bne_iff_ne.mpr c73
                    try rw [← ZA68_A66.out] at c73b0 c73b1
                    try rw [← ZA72_A70.out] at c73b0 c73b1
                    try rw [← ZA68_A66.out] at H
                    try rw [← ZA72_A70.out] at H
                    obtain rfl := Option.some.inj H
                    go_wp2_with (first | ((with_reducible refine gate_callee (f := 22) rfl ?_); refine goesL_ (some 74) rfl rfl Tryd.func22 (by kernel_rfl) rfl #[.int .i64 t221] rfl (by (try simp only [List.map_toArray, List.map_cons, List.map_nil]); first | done | rfl | (simp only [List.length_drop, List.length_take]; rfl)) ?_; (with_reducible refine (impl_IsFirst.calls t221 true _ A60.out).mono ?_); rintro e w84 ⟨rfl, hb⟩; refine ⟨_, rfl, ?_⟩; have n0_ := Aside0.mk (below_step (by repeat (first | (with_reducible first | exact HB.out | apply below_alloc | apply pw_below_drewN | apply below_drew1) | exact HB.out)) hb); clear HB; have HB := n0_; clear n0_; (try clear hb); (try clear hb2); (try clear hk); (try clear hi)) | (go_at_call 24; (with_reducible refine (impl_IsNext.calls t221 true _ A62.out).mono ?_); rintro e w85 ⟨rfl, hb⟩; have n0_ := Aside0.mk (below_step (by repeat (first | (with_reducible first | exact HB.out | apply below_alloc | apply pw_below_drewN | apply below_drew1) | exact HB.out)) hb); clear HB; have HB := n0_; clear n0_; (try clear hb); (try clear hb2); (try clear hk); (try clear hi)) | (go_at_call 20; (with_reducible refine (impl_IsText.calls t221 true _ A64.out).mono ?_); rintro e w' ⟨rfl, ⟨nd, rfl⟩⟩) | (go_at_call 26; (with_reducible refine (impl_Small.calls t223 t242 _ A66.out).mono ?_); rintro e w86 ⟨rfl, hb⟩; have n0_ := Aside0.mk (below_step (by repeat (first | (with_reducible first | exact HB.out | apply below_alloc | apply pw_below_drewN | apply below_drew1) | exact HB.out)) hb); clear HB; have HB := n0_; clear n0_; (try clear hb); (try clear hb2); (try clear hk); (try clear hi)) | (go_at_call 26; (with_reducible refine (impl_Small.calls t242 t243 _ A67.out).mono ?_); rintro e w87 ⟨rfl, hb⟩; have n0_ := Aside0.mk (below_step (by repeat (first | (with_reducible first | exact HB.out | apply below_alloc | apply pw_below_drewN | apply below_drew1) | exact HB.out)) hb); clear HB; have HB := n0_; clear n0_; (try clear hb); (try clear hb2); (try clear hk); (try clear hi)) | (go_at_call 26; (with_reducible refine (impl_Small.calls t223 t244 _ A68.out).mono ?_); rintro e w88 ⟨rfl, hb⟩; have n0_ := Aside0.mk (below_step (by repeat (first | (with_reducible first | exact HB.out | apply below_alloc | apply pw_below_drewN | apply below_drew1) | exact HB.out)) hb); clear HB; have HB := n0_; clear n0_; (try clear hb); (try clear hb2); (try clear hk); (try clear hi)) | (go_at_call 7; (with_reducible refine (impl_Lines.calls t224 t245 _ ?side1 A70.out).mono ?_); (case side1 => exact MaxSeen.below HG.out (by repeat (first | (with_reducible first | exact HB.out | apply below_alloc | apply pw_below_drewN | apply below_drew1) | exact HB.out))); rintro e w89 ⟨rfl, hb⟩; have n0_ := Aside0.mk (below_step (by repeat (first | (with_reducible first | exact HB.out | apply below_alloc | apply pw_below_drewN | apply below_drew1) | exact HB.out)) hb); clear HB; have HB := n0_; clear n0_; (try clear hb); (try clear hb2); (try clear hk); (try clear hi)) | (go_at_call 7; (with_reducible refine (impl_Lines.calls t245 t246 _ ?side1 A71.out).mono ?_); (case side1 => exact MaxSeen.below HG.out (by repeat (first | (with_reducible first | exact HB.out | apply below_alloc | apply pw_below_drewN | apply below_drew1) | exact HB.out))); rintro e w90 ⟨rfl, hb⟩; have n0_ := Aside0.mk (below_step (by repeat (first | (with_reducible first | exact HB.out | apply below_alloc | apply pw_below_drewN | apply below_drew1) | exact HB.out)) hb); clear HB; have HB := n0_; clear n0_; (try clear hb); (try clear hb2); (try clear hk); (try clear hi)) | (go_at_call 7; (with_reducible refine (impl_Lines.calls t224 t247 _ ?side1 A72.out).mono ?_); (case side1 => exact MaxSeen.below HG.out (by repeat (first | (with_reducible first | exact HB.out | apply below_alloc | apply pw_below_drewN | apply below_drew1) | exact HB.out))); rintro e w91 ⟨rfl, hb⟩; have n0_ := Aside0.mk (below_step (by repeat (first | (with_reducible first | exact HB.out | apply below_alloc | apply pw_below_drewN | apply below_drew1) | exact HB.out)) hb); clear HB; have HB := n0_; clear n0_; (try clear hb); (try clear hb2); (try clear hk); (try clear hi)))
                    go_ret
                    exact ⟨by first | rfl | (simp [errW_none, errW_some] <;> rfl) | (simp [*, errW_none, errW_some] <;> rfl), by repeat (first | (with_reducible first | exact HB.out | apply below_alloc | apply pw_below_drewN | apply below_drew1) | exact HB.out)⟩
                · rw [if_neg c69] at H
                  have c69b0 : (t243.toList == t244.toList) = false := beq_eq_false_iff_ne.mpr c69
                  have c69b1 : (t243.toList != t244.toList) = true := bne_iff_ne.mpr c69
                  try rw [← ZA68_A66.out] at c69b0 c69b1
                  try rw [← ZA68_A66.out] at H
                  obtain rfl := Option.some.inj H
                  go_wp2_with (first | ((with_reducible refine gate_callee (f := 22) rfl ?_); refine goesL_ (some 74) rfl rfl Tryd.func22 (by kernel_rfl) rfl #[.int .i64 t221] rfl (by (try simp only [List.map_toArray, List.map_cons, List.map_nil]); first | done | rfl | (simp only [List.length_drop, List.length_take]; rfl)) ?_; (with_reducible refine (impl_IsFirst.calls t221 true _ A60.out).mono ?_); rintro e w92 ⟨rfl, hb⟩; refine ⟨_, rfl, ?_⟩; have n0_ := Aside0.mk (below_step (by repeat (first | (with_reducible first | exact HB.out | apply below_alloc | apply pw_below_drewN | apply below_drew1) | exact HB.out)) hb); clear HB; have HB := n0_; clear n0_; (try clear hb); (try clear hb2); (try clear hk); (try clear hi)) | (go_at_call 24; (with_reducible refine (impl_IsNext.calls t221 true _ A62.out).mono ?_); rintro e w93 ⟨rfl, hb⟩; have n0_ := Aside0.mk (below_step (by repeat (first | (with_reducible first | exact HB.out | apply below_alloc | apply pw_below_drewN | apply below_drew1) | exact HB.out)) hb); clear HB; have HB := n0_; clear n0_; (try clear hb); (try clear hb2); (try clear hk); (try clear hi)) | (go_at_call 20; (with_reducible refine (impl_IsText.calls t221 true _ A64.out).mono ?_); rintro e w' ⟨rfl, ⟨nd, rfl⟩⟩) | (go_at_call 26; (with_reducible refine (impl_Small.calls t223 t242 _ A66.out).mono ?_); rintro e w94 ⟨rfl, hb⟩; have n0_ := Aside0.mk (below_step (by repeat (first | (with_reducible first | exact HB.out | apply below_alloc | apply pw_below_drewN | apply below_drew1) | exact HB.out)) hb); clear HB; have HB := n0_; clear n0_; (try clear hb); (try clear hb2); (try clear hk); (try clear hi)) | (go_at_call 26; (with_reducible refine (impl_Small.calls t242 t243 _ A67.out).mono ?_); rintro e w95 ⟨rfl, hb⟩; have n0_ := Aside0.mk (below_step (by repeat (first | (with_reducible first | exact HB.out | apply below_alloc | apply pw_below_drewN | apply below_drew1) | exact HB.out)) hb); clear HB; have HB := n0_; clear n0_; (try clear hb); (try clear hb2); (try clear hk); (try clear hi)) | (go_at_call 26; (with_reducible refine (impl_Small.calls t223 t244 _ A68.out).mono ?_); rintro e w96 ⟨rfl, hb⟩; have n0_ := Aside0.mk (below_step (by repeat (first | (with_reducible first | exact HB.out | apply below_alloc | apply pw_below_drewN | apply below_drew1) | exact HB.out)) hb); clear HB; have HB := n0_; clear n0_; (try clear hb); (try clear hb2); (try clear hk); (try clear hi)))
                  go_ret
                  exact ⟨by first | rfl | (simp [errW_none, errW_some] <;> rfl) | (simp [*, errW_none, errW_some] <;> rfl), by repeat (first | (with_reducible first | exact HB.out | apply below_alloc | apply pw_below_drewN | apply below_drew1) | exact HB.out)⟩
              · replace c65 := Bool.eq_false_iff.mpr c65
                subst c65
                have H1 : (some false) = some r := by rw [if_neg (show ¬ (false = true) by decide)] at H; exact H
                clear H
                have H := H1
                clear H1
                obtain rfl := Option.some.inj H
                go_wp2_with (first | ((with_reducible refine gate_callee (f := 22) rfl ?_); refine goesL_ (some 74) rfl rfl Tryd.func22 (by kernel_rfl) rfl #[.int .i64 t221] rfl (by (try simp only [List.map_toArray, List.map_cons, List.map_nil]); first | done | rfl | (simp only [List.length_drop, List.length_take]; rfl)) ?_; (with_reducible refine (impl_IsFirst.calls t221 true _ A60.out).mono ?_); rintro e w97 ⟨rfl, hb⟩; refine ⟨_, rfl, ?_⟩; have n0_ := Aside0.mk (below_step (by repeat (first | (with_reducible first | exact HB.out | apply below_alloc | apply pw_below_drewN | apply below_drew1) | exact HB.out)) hb); clear HB; have HB := n0_; clear n0_; (try clear hb); (try clear hb2); (try clear hk); (try clear hi)) | (go_at_call 24; (with_reducible refine (impl_IsNext.calls t221 true _ A62.out).mono ?_); rintro e w98 ⟨rfl, hb⟩; have n0_ := Aside0.mk (below_step (by repeat (first | (with_reducible first | exact HB.out | apply below_alloc | apply pw_below_drewN | apply below_drew1) | exact HB.out)) hb); clear HB; have HB := n0_; clear n0_; (try clear hb); (try clear hb2); (try clear hk); (try clear hi)) | (go_at_call 20; (with_reducible refine (impl_IsText.calls t221 false _ A64.out).mono ?_); rintro e w' ⟨rfl, ⟨nd, rfl⟩⟩))
                go_ret
                exact ⟨by first | rfl | (simp [errW_none, errW_some] <;> rfl) | (simp [*, errW_none, errW_some] <;> rfl), by repeat (first | (with_reducible first | exact HB.out | apply below_alloc | apply pw_below_drewN | apply below_drew1) | exact HB.out)⟩
            · replace c63 := Bool.eq_false_iff.mpr c63
              subst c63
              have H1 : (some false) = some r := by rw [if_neg (show ¬ (false = true) by decide)] at H; exact H
              clear H
              have H := H1
              clear H1
              obtain rfl := Option.some.inj H
              go_wp2_with (first | ((with_reducible refine gate_callee (f := 22) rfl ?_); refine goesL_ (some 74) rfl rfl Tryd.func22 (by kernel_rfl) rfl #[.int .i64 t221] rfl (by (try simp only [List.map_toArray, List.map_cons, List.map_nil]); first | done | rfl | (simp only [List.length_drop, List.length_take]; rfl)) ?_; (with_reducible refine (impl_IsFirst.calls t221 true _ A60.out).mono ?_); rintro e w99 ⟨rfl, hb⟩; refine ⟨_, rfl, ?_⟩; have n0_ := Aside0.mk (below_step (by repeat (first | (with_reducible first | exact HB.out | apply below_alloc | apply pw_below_drewN | apply below_drew1) | exact HB.out)) hb); clear HB; have HB := n0_; clear n0_; (try clear hb); (try clear hb2); (try clear hk); (try clear hi)) | (go_at_call 24; (with_reducible refine (impl_IsNext.calls t221 false _ A62.out).mono ?_); rintro e w100 ⟨rfl, hb⟩; have n0_ := Aside0.mk (below_step (by repeat (first | (with_reducible first | exact HB.out | apply below_alloc | apply pw_below_drewN | apply below_drew1) | exact HB.out)) hb); clear HB; have HB := n0_; clear n0_; (try clear hb); (try clear hb2); (try clear hk); (try clear hi)))
              go_ret
              exact ⟨by first | rfl | (simp [errW_none, errW_some] <;> rfl) | (simp [*, errW_none, errW_some] <;> rfl), by repeat (first | (with_reducible first | exact HB.out | apply below_alloc | apply pw_below_drewN | apply below_drew1) | exact HB.out)⟩
          · replace c61 := Bool.eq_false_iff.mpr c61
            subst c61
            have H1 : ((impl_Small.f t223).bind fun t249 => ((impl_Small.f t249).bind fun t250 => ((impl_Small.f t223).bind fun t251 => (if t250.toList = t251.toList then ((impl_Lines.f t224).bind fun t252 => ((impl_Lines.f t252).bind fun t253 => ((impl_Lines.f t224).bind fun t254 => (if t253.toList = t254.toList then ((impl_Lines.f t224).bind fun t255 => (some (decide ((t255.size : Int) ≤ (t224.size : Int))))) else (some false))))) else (some false))))) = some r := by rw [if_neg (show ¬ (false = true) by decide)] at H; exact H
            clear H
            have H := H1
            clear H1
            replace H := Option.bind_eq_some_iff.mp H
            obtain ⟨t249, A1010, H⟩ := H
            replace H : ((impl_Small.f t249).bind fun t250 => ((impl_Small.f t223).bind fun t251 => (if t250.toList = t251.toList then ((impl_Lines.f t224).bind fun t252 => ((impl_Lines.f t252).bind fun t253 => ((impl_Lines.f t224).bind fun t254 => (if t253.toList = t254.toList then ((impl_Lines.f t224).bind fun t255 => (some (decide ((t255.size : Int) ≤ (t224.size : Int))))) else (some false))))) else (some false)))) = some r := H
            have A101 := Aside0.mk A1010
            clear A1010
            try have ZA101_A40 := Aside0.mk (Option.some.inj (A40.out.symm.trans A101.out))
            try have ZA101_A66 := Aside0.mk (Option.some.inj (A66.out.symm.trans A101.out))
            try have ZA101_A68 := Aside0.mk (Option.some.inj (A68.out.symm.trans A101.out))
            try have ZA101_A103 := Aside0.mk (Option.some.inj (A103.out.symm.trans A101.out))
            replace H := Option.bind_eq_some_iff.mp H
            obtain ⟨t250, A1020, H⟩ := H
            replace H : ((impl_Small.f t223).bind fun t251 => (if t250.toList = t251.toList then ((impl_Lines.f t224).bind fun t252 => ((impl_Lines.f t252).bind fun t253 => ((impl_Lines.f t224).bind fun t254 => (if t253.toList = t254.toList then ((impl_Lines.f t224).bind fun t255 => (some (decide ((t255.size : Int) ≤ (t224.size : Int))))) else (some false))))) else (some false))) = some r := H
            have A102 := Aside0.mk A1020
            clear A1020
            replace H := Option.bind_eq_some_iff.mp H
            obtain ⟨t251, A1030, H⟩ := H
            replace H : (if t250.toList = t251.toList then ((impl_Lines.f t224).bind fun t252 => ((impl_Lines.f t252).bind fun t253 => ((impl_Lines.f t224).bind fun t254 => (if t253.toList = t254.toList then ((impl_Lines.f t224).bind fun t255 => (some (decide ((t255.size : Int) ≤ (t224.size : Int))))) else (some false))))) else (some false)) = some r := H
            have A103 := Aside0.mk A1030
            clear A1030
            try have ZA103_A40 := Aside0.mk (Option.some.inj (A40.out.symm.trans A103.out))
            try have ZA103_A66 := Aside0.mk (Option.some.inj (A66.out.symm.trans A103.out))
            try have ZA103_A68 := Aside0.mk (Option.some.inj (A68.out.symm.trans A103.out))
            try have ZA103_A101 := Aside0.mk (Option.some.inj (A101.out.symm.trans A103.out))
            by_cases c104 : t250.toList = t251.toList
            · rw [if_pos c104] at H
              have c104b0 : (t250.toList == t251.toList) = true := beq_iff_eq.mpr c104
              have c104b1 : (t250.toList != t251.toList) = false := bne_eq_false_iff_eq.mpr c104
              try rw [← ZA103_A101.out] at c104b0 c104b1
              clear c104
              replace H := Option.bind_eq_some_iff.mp H
              obtain ⟨t252, A1050, H⟩ := H
              replace H : ((impl_Lines.f t252).bind fun t253 => ((impl_Lines.f t224).bind fun t254 => (if t253.toList = t254.toList then ((impl_Lines.f t224).bind fun t255 => (some (decide ((t255.size : Int) ≤ (t224.size : Int))))) else (some false)))) = some r := H
              have A105 := Aside0.mk A1050
              clear A1050
              try have ZA105_A43 := Aside0.mk (Option.some.inj (A43.out.symm.trans A105.out))
              try have ZA105_A70 := Aside0.mk (Option.some.inj (A70.out.symm.trans A105.out))
              try have ZA105_A72 := Aside0.mk (Option.some.inj (A72.out.symm.trans A105.out))
              try have ZA105_A74 := Aside0.mk (Option.some.inj (A74.out.symm.trans A105.out))
              try have ZA105_A107 := Aside0.mk (Option.some.inj (A107.out.symm.trans A105.out))
              try have ZA105_A109 := Aside0.mk (Option.some.inj (A109.out.symm.trans A105.out))
              replace H := Option.bind_eq_some_iff.mp H
              obtain ⟨t253, A1060, H⟩ := H
              replace H : ((impl_Lines.f t224).bind fun t254 => (if t253.toList = t254.toList then ((impl_Lines.f t224).bind fun t255 => (some (decide ((t255.size : Int) ≤ (t224.size : Int))))) else (some false))) = some r := H
              have A106 := Aside0.mk A1060
              clear A1060
              replace H := Option.bind_eq_some_iff.mp H
              obtain ⟨t254, A1070, H⟩ := H
              replace H : (if t253.toList = t254.toList then ((impl_Lines.f t224).bind fun t255 => (some (decide ((t255.size : Int) ≤ (t224.size : Int))))) else (some false)) = some r := H
              have A107 := Aside0.mk A1070
              clear A1070
              try have ZA107_A43 := Aside0.mk (Option.some.inj (A43.out.symm.trans A107.out))
              try have ZA107_A70 := Aside0.mk (Option.some.inj (A70.out.symm.trans A107.out))
              try have ZA107_A72 := Aside0.mk (Option.some.inj (A72.out.symm.trans A107.out))
              try have ZA107_A74 := Aside0.mk (Option.some.inj (A74.out.symm.trans A107.out))
              try have ZA107_A105 := Aside0.mk (Option.some.inj (A105.out.symm.trans A107.out))
              try have ZA107_A109 := Aside0.mk (Option.some.inj (A109.out.symm.trans A107.out))
              by_cases c108 : t253.toList = t254.toList
              · rw [if_pos c108] at H
                have c108b0 : (t253.toList == t254.toList) = true := beq_iff_eq.mpr c108
                have c108b1 : (t253.toList != t254.toList) = false := bne_eq_false_iff_eq.mpr c108
                try rw [← ZA103_A101.out] at c108b0 c108b1
                try rw [← ZA107_A105.out] at c108b0 c108b1
                clear c108
                replace H := Option.bind_eq_some_iff.mp H
                obtain ⟨t255, A1090, H⟩ := H
                replace H : (some (decide ((t255.size : Int) ≤ (t224.size : Int)))) = some r := H
                have A109 := Aside0.mk A1090
                clear A1090
                try have ZA109_A43 := Aside0.mk (Option.some.inj (A43.out.symm.trans A109.out))
                try have ZA109_A70 := Aside0.mk (Option.some.inj (A70.out.symm.trans A109.out))
                try have ZA109_A72 := Aside0.mk (Option.some.inj (A72.out.symm.trans A109.out))
                try have ZA109_A74 := Aside0.mk (Option.some.inj (A74.out.symm.trans A109.out))
                try have ZA109_A105 := Aside0.mk (Option.some.inj (A105.out.symm.trans A109.out))
                try have ZA109_A107 := Aside0.mk (Option.some.inj (A107.out.symm.trans A109.out))
                try rw [← ZA103_A101.out] at H
                try rw [← ZA107_A105.out] at H
                try rw [← ZA109_A105.out] at H
                try rw [← ZA109_A107.out] at H
                obtain rfl := Option.some.inj H
                go_wp2_with (first | ((with_reducible refine gate_callee (f := 22) rfl ?_); refine goesL_ (some 74) rfl rfl Tryd.func22 (by kernel_rfl) rfl #[.int .i64 t221] rfl (by (try simp only [List.map_toArray, List.map_cons, List.map_nil]); first | done | rfl | (simp only [List.length_drop, List.length_take]; rfl)) ?_; (with_reducible refine (impl_IsFirst.calls t221 false _ A60.out).mono ?_); rintro e w110 ⟨rfl, hb⟩; refine ⟨_, rfl, ?_⟩; have n0_ := Aside0.mk (below_step (by repeat (first | (with_reducible first | exact HB.out | apply below_alloc | apply pw_below_drewN | apply below_drew1) | exact HB.out)) hb); clear HB; have HB := n0_; clear n0_; (try clear hb); (try clear hb2); (try clear hk); (try clear hi)) | (go_at_call 26; (with_reducible refine (impl_Small.calls t223 t249 _ A101.out).mono ?_); rintro e w111 ⟨rfl, hb⟩; have n0_ := Aside0.mk (below_step (by repeat (first | (with_reducible first | exact HB.out | apply below_alloc | apply pw_below_drewN | apply below_drew1) | exact HB.out)) hb); clear HB; have HB := n0_; clear n0_; (try clear hb); (try clear hb2); (try clear hk); (try clear hi)) | (go_at_call 26; (with_reducible refine (impl_Small.calls t249 t250 _ A102.out).mono ?_); rintro e w112 ⟨rfl, hb⟩; have n0_ := Aside0.mk (below_step (by repeat (first | (with_reducible first | exact HB.out | apply below_alloc | apply pw_below_drewN | apply below_drew1) | exact HB.out)) hb); clear HB; have HB := n0_; clear n0_; (try clear hb); (try clear hb2); (try clear hk); (try clear hi)) | (go_at_call 26; (with_reducible refine (impl_Small.calls t223 t251 _ A103.out).mono ?_); rintro e w113 ⟨rfl, hb⟩; have n0_ := Aside0.mk (below_step (by repeat (first | (with_reducible first | exact HB.out | apply below_alloc | apply pw_below_drewN | apply below_drew1) | exact HB.out)) hb); clear HB; have HB := n0_; clear n0_; (try clear hb); (try clear hb2); (try clear hk); (try clear hi)) | (go_at_call 7; (with_reducible refine (impl_Lines.calls t224 t252 _ ?side1 A105.out).mono ?_); (case side1 => exact MaxSeen.below HG.out (by repeat (first | (with_reducible first | exact HB.out | apply below_alloc | apply pw_below_drewN | apply below_drew1) | exact HB.out))); rintro e w114 ⟨rfl, hb⟩; have n0_ := Aside0.mk (below_step (by repeat (first | (with_reducible first | exact HB.out | apply below_alloc | apply pw_below_drewN | apply below_drew1) | exact HB.out)) hb); clear HB; have HB := n0_; clear n0_; (try clear hb); (try clear hb2); (try clear hk); (try clear hi)) | (go_at_call 7; (with_reducible refine (impl_Lines.calls t252 t253 _ ?side1 A106.out).mono ?_); (case side1 => exact MaxSeen.below HG.out (by repeat (first | (with_reducible first | exact HB.out | apply below_alloc | apply pw_below_drewN | apply below_drew1) | exact HB.out))); rintro e w115 ⟨rfl, hb⟩; have n0_ := Aside0.mk (below_step (by repeat (first | (with_reducible first | exact HB.out | apply below_alloc | apply pw_below_drewN | apply below_drew1) | exact HB.out)) hb); clear HB; have HB := n0_; clear n0_; (try clear hb); (try clear hb2); (try clear hk); (try clear hi)) | (go_at_call 7; (with_reducible refine (impl_Lines.calls t224 t254 _ ?side1 A107.out).mono ?_); (case side1 => exact MaxSeen.below HG.out (by repeat (first | (with_reducible first | exact HB.out | apply below_alloc | apply pw_below_drewN | apply below_drew1) | exact HB.out))); rintro e w116 ⟨rfl, hb⟩; have n0_ := Aside0.mk (below_step (by repeat (first | (with_reducible first | exact HB.out | apply below_alloc | apply pw_below_drewN | apply below_drew1) | exact HB.out)) hb); clear HB; have HB := n0_; clear n0_; (try clear hb); (try clear hb2); (try clear hk); (try clear hi)) | (go_at_call 7; (with_reducible refine (impl_Lines.calls t224 t255 _ ?side1 A109.out).mono ?_); (case side1 => exact MaxSeen.below HG.out (by repeat (first | (with_reducible first | exact HB.out | apply below_alloc | apply pw_below_drewN | apply below_drew1) | exact HB.out))); rintro e w117 ⟨rfl, hb⟩; have n0_ := Aside0.mk (below_step (by repeat (first | (with_reducible first | exact HB.out | apply below_alloc | apply pw_below_drewN | apply below_drew1) | exact HB.out)) hb); clear HB; have HB := n0_; clear n0_; (try clear hb); (try clear hb2); (try clear hk); (try clear hi)))
                go_ret
                exact ⟨by first | rfl | (simp [errW_none, errW_some] <;> rfl) | (simp [*, errW_none, errW_some] <;> rfl), by repeat (first | (with_reducible first | exact HB.out | apply below_alloc | apply pw_below_drewN | apply below_drew1) | exact HB.out)⟩
              · rw [if_neg c108] at H
                have c108b0 : (t253.toList == t254.toList) = false := beq_eq_false_iff_ne.mpr c108
                have c108b1 : (t253.toList != t254.toList) = true := bne_iff_ne.mpr c108
                try rw [← ZA103_A101.out] at c108b0 c108b1
                try rw [← ZA107_A105.out] at c108b0 c108b1
                try rw [← ZA103_A101.out] at H
                try rw [← ZA107_A105.out] at H
                obtain rfl := Option.some.inj H
                go_wp2_with (first | ((with_reducible refine gate_callee (f := 22) rfl ?_); refine goesL_ (some 74) rfl rfl Tryd.func22 (by kernel_rfl) rfl #[.int .i64 t221] rfl (by (try simp only [List.map_toArray, List.map_cons, List.map_nil]); first | done | rfl | (simp only [List.length_drop, List.length_take]; rfl)) ?_; (with_reducible refine (impl_IsFirst.calls t221 false _ A60.out).mono ?_); rintro e w118 ⟨rfl, hb⟩; refine ⟨_, rfl, ?_⟩; have n0_ := Aside0.mk (below_step (by repeat (first | (with_reducible first | exact HB.out | apply below_alloc | apply pw_below_drewN | apply below_drew1) | exact HB.out)) hb); clear HB; have HB := n0_; clear n0_; (try clear hb); (try clear hb2); (try clear hk); (try clear hi)) | (go_at_call 26; (with_reducible refine (impl_Small.calls t223 t249 _ A101.out).mono ?_); rintro e w119 ⟨rfl, hb⟩; have n0_ := Aside0.mk (below_step (by repeat (first | (with_reducible first | exact HB.out | apply below_alloc | apply pw_below_drewN | apply below_drew1) | exact HB.out)) hb); clear HB; have HB := n0_; clear n0_; (try clear hb); (try clear hb2); (try clear hk); (try clear hi)) | (go_at_call 26; (with_reducible refine (impl_Small.calls t249 t250 _ A102.out).mono ?_); rintro e w120 ⟨rfl, hb⟩; have n0_ := Aside0.mk (below_step (by repeat (first | (with_reducible first | exact HB.out | apply below_alloc | apply pw_below_drewN | apply below_drew1) | exact HB.out)) hb); clear HB; have HB := n0_; clear n0_; (try clear hb); (try clear hb2); (try clear hk); (try clear hi)) | (go_at_call 26; (with_reducible refine (impl_Small.calls t223 t251 _ A103.out).mono ?_); rintro e w121 ⟨rfl, hb⟩; have n0_ := Aside0.mk (below_step (by repeat (first | (with_reducible first | exact HB.out | apply below_alloc | apply pw_below_drewN | apply below_drew1) | exact HB.out)) hb); clear HB; have HB := n0_; clear n0_; (try clear hb); (try clear hb2); (try clear hk); (try clear hi)) | (go_at_call 7; (with_reducible refine (impl_Lines.calls t224 t252 _ ?side1 A105.out).mono ?_); (case side1 => exact MaxSeen.below HG.out (by repeat (first | (with_reducible first | exact HB.out | apply below_alloc | apply pw_below_drewN | apply below_drew1) | exact HB.out))); rintro e w122 ⟨rfl, hb⟩; have n0_ := Aside0.mk (below_step (by repeat (first | (with_reducible first | exact HB.out | apply below_alloc | apply pw_below_drewN | apply below_drew1) | exact HB.out)) hb); clear HB; have HB := n0_; clear n0_; (try clear hb); (try clear hb2); (try clear hk); (try clear hi)) | (go_at_call 7; (with_reducible refine (impl_Lines.calls t252 t253 _ ?side1 A106.out).mono ?_); (case side1 => exact MaxSeen.below HG.out (by repeat (first | (with_reducible first | exact HB.out | apply below_alloc | apply pw_below_drewN | apply below_drew1) | exact HB.out))); rintro e w123 ⟨rfl, hb⟩; have n0_ := Aside0.mk (below_step (by repeat (first | (with_reducible first | exact HB.out | apply below_alloc | apply pw_below_drewN | apply below_drew1) | exact HB.out)) hb); clear HB; have HB := n0_; clear n0_; (try clear hb); (try clear hb2); (try clear hk); (try clear hi)) | (go_at_call 7; (with_reducible refine (impl_Lines.calls t224 t254 _ ?side1 A107.out).mono ?_); (case side1 => exact MaxSeen.below HG.out (by repeat (first | (with_reducible first | exact HB.out | apply below_alloc | apply pw_below_drewN | apply below_drew1) | exact HB.out))); rintro e w124 ⟨rfl, hb⟩; have n0_ := Aside0.mk (below_step (by repeat (first | (with_reducible first | exact HB.out | apply below_alloc | apply pw_below_drewN | apply below_drew1) | exact HB.out)) hb); clear HB; have HB := n0_; clear n0_; (try clear hb); (try clear hb2); (try clear hk); (try clear hi)))
                go_ret
                exact ⟨by first | rfl | (simp [errW_none, errW_some] <;> rfl) | (simp [*, errW_none, errW_some] <;> rfl), by repeat (first | (with_reducible first | exact HB.out | apply below_alloc | apply pw_below_drewN | apply below_drew1) | exact HB.out)⟩
            · rw [if_neg c104] at H
              have c104b0 : (t250.toList == t251.toList) = false := beq_eq_false_iff_ne.mpr c104
              have c104b1 : (t250.toList != t251.toList) = true := bne_iff_ne.mpr c104
              try rw [← ZA103_A101.out] at c104b0 c104b1
              try rw [← ZA103_A101.out] at H
              obtain rfl := Option.some.inj H
              go_wp2_with (first | ((with_reducible refine gate_callee (f := 22) rfl ?_); refine goesL_ (some 74) rfl rfl Tryd.func22 (by kernel_rfl) rfl #[.int .i64 t221] rfl (by (try simp only [List.map_toArray, List.map_cons, List.map_nil]); first | done | rfl | (simp only [List.length_drop, List.length_take]; rfl)) ?_; (with_reducible refine (impl_IsFirst.calls t221 false _ A60.out).mono ?_); rintro e w125 ⟨rfl, hb⟩; refine ⟨_, rfl, ?_⟩; have n0_ := Aside0.mk (below_step (by repeat (first | (with_reducible first | exact HB.out | apply below_alloc | apply pw_below_drewN | apply below_drew1) | exact HB.out)) hb); clear HB; have HB := n0_; clear n0_; (try clear hb); (try clear hb2); (try clear hk); (try clear hi)) | (go_at_call 26; (with_reducible refine (impl_Small.calls t223 t249 _ A101.out).mono ?_); rintro e w126 ⟨rfl, hb⟩; have n0_ := Aside0.mk (below_step (by repeat (first | (with_reducible first | exact HB.out | apply below_alloc | apply pw_below_drewN | apply below_drew1) | exact HB.out)) hb); clear HB; have HB := n0_; clear n0_; (try clear hb); (try clear hb2); (try clear hk); (try clear hi)) | (go_at_call 26; (with_reducible refine (impl_Small.calls t249 t250 _ A102.out).mono ?_); rintro e w127 ⟨rfl, hb⟩; have n0_ := Aside0.mk (below_step (by repeat (first | (with_reducible first | exact HB.out | apply below_alloc | apply pw_below_drewN | apply below_drew1) | exact HB.out)) hb); clear HB; have HB := n0_; clear n0_; (try clear hb); (try clear hb2); (try clear hk); (try clear hi)) | (go_at_call 26; (with_reducible refine (impl_Small.calls t223 t251 _ A103.out).mono ?_); rintro e w128 ⟨rfl, hb⟩; have n0_ := Aside0.mk (below_step (by repeat (first | (with_reducible first | exact HB.out | apply below_alloc | apply pw_below_drewN | apply below_drew1) | exact HB.out)) hb); clear HB; have HB := n0_; clear n0_; (try clear hb); (try clear hb2); (try clear hk); (try clear hi)))
              go_ret
              exact ⟨by first | rfl | (simp [errW_none, errW_some] <;> rfl) | (simp [*, errW_none, errW_some] <;> rfl), by repeat (first | (with_reducible first | exact HB.out | apply below_alloc | apply pw_below_drewN | apply below_drew1) | exact HB.out)⟩

/-- THE ONE PURE STATEMENT of laws_FnKinds: yours. -/
def laws_FnKinds.Pure : Prop := ∀ (l0 : List Int), l0.length ≤ maxLen → l0.length * 1 ≤ 140737488351232 → (∀ x ∈ l0, (Lit.int .u8 x).wf = true) → ∃ k, laws_FnKinds.f k l0 = some true
theorem laws_FnKinds.walk (P : laws_FnKinds.Pure) (a0 : Option Addr) (len0 cap0 : Nat) (z0 : List Int) (w : World) (w0 : (a0 = none ∧ len0 = 0 ∧ cap0 = 0 ∧ z0 = []) ∨ ∃ x, a0 = some x ∧ len0 ≤ cap0 ∧ cap0 ≤ maxLen ∧ z0.length = cap0 ∧ (∀ i, i < z0.length → w.cell? (x.add i) = some (.int .u8 (z0.getD i 0))) ∧ ∀ n ∈ z0, (Lit.int .u8 n).wf = true) (y0 : len0 * 1 ≤ 140737488351232) (hG : MaxSeen w) :
    Calls Tryd.prog 4 #[.slice a0 len0 cap0] w fun e w' => e = .returned (.bool true) ∧ Below w.heap.size w w' := by
  obtain ⟨l0, rfl, hr0, hm0, hw0, hc0⟩ := ReadsInt.ofRowC w0
  obtain ⟨k, h⟩ := P l0 hm0 y0 hw0
  refine (laws_FnKinds.calls k _ _ l0 true w (Kd.C_of_reads (d := (0 : Int)) (h1 := fun _ => rfl) hr0) hc0 hG h).mono ?_
  rintro e w' ⟨rfl, hd⟩
  exact ⟨rfl, hd⟩

end Go.Proofs.YteafgjebaedjbaaDoor.PFnKinds
