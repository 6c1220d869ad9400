-- Written by a program of this session; Lean checks it.
import Derived.Test.YtfgmngfhchfaaaaDoorPFnDigitsx0
import Derived.Test.YtfgmngfhchfaaaaDoorPFnDigitsx1
import Derived.Test.YtfgmngfhchfaaaaDoorPFnDigitsx2
namespace Go.Proofs.YtfgmngfhchfaaaaDoor.PFnDigits
open Go.RowKit Go.Proofs.YtfgmngfhchfaaaaDoorW.PrintWords Go.Proofs.YtfgmngfhchfaaaaDoorW.PrintLast Go.Proofs.YtfgmngfhchfaaaaDoorW.PrintMore
attribute [local go_sem] max2_int min2_int max_two min_two max_three min_three max_four min_four   -- for this text's walks alone
set_option linter.unusedVariables false
set_option linter.unusedSimpArgs false

/-! ### laws_FnDigits: function 6 -/
def laws_FnDigits.j0 : Nat → Int → Int → Bool → ByteArray → Int → Bool → Int → Int → Int → Int → Int → Bool → Option (Bool)
  | 0, _, _, _, _, _, _, _, _, _, _, _, _ => none
  | k + 1, x3, x5, x6, x7, x8, x9, x12, x13, x16, x17, x18, x93 => if x93 = true then (some false) else (if x3 ≥ 0 then (if (x6 == (decide (x3 ≤ 99999))) = true then (if x6 = true then (if x5 = x3 then (if x9 = true then ((impl_NumText.f x8).bind fun t239 => (if t239.toList = x7.toList then ((impl_Least.f x12 x13).bind fun t240 => ((impl_Most.f x12 x13).bind fun t241 => (if t240 ≤ t241 then (if x16 < 1 then (some true) else (if x17 < 1 then (some true) else (if x16 > 1073741824 then (some true) else (if (wrap64 (x18 * x17)) ≥ x16 then (some (decide ((wrap64 ((wrap64 (x18 - 1)) * x17)) < x16))) else (some false))))) else (some false)))) else (some false))) else ((impl_Least.f x12 x13).bind fun t242 => ((impl_Most.f x12 x13).bind fun t243 => (if t242 ≤ t243 then (if x16 < 1 then (some true) else (if x17 < 1 then (some true) else (if x16 > 1073741824 then (some true) else (if (wrap64 (x18 * x17)) ≥ x16 then (some (decide ((wrap64 ((wrap64 (x18 - 1)) * x17)) < x16))) else (some false))))) else (some false))))) else (some false)) else (if x9 = true then ((impl_NumText.f x8).bind fun t244 => (if t244.toList = x7.toList then ((impl_Least.f x12 x13).bind fun t245 => ((impl_Most.f x12 x13).bind fun t246 => (if t245 ≤ t246 then (if x16 < 1 then (some true) else (if x17 < 1 then (some true) else (if x16 > 1073741824 then (some true) else (if (wrap64 (x18 * x17)) ≥ x16 then (some (decide ((wrap64 ((wrap64 (x18 - 1)) * x17)) < x16))) else (some false))))) else (some false)))) else (some false))) else ((impl_Least.f x12 x13).bind fun t247 => ((impl_Most.f x12 x13).bind fun t248 => (if t247 ≤ t248 then (if x16 < 1 then (some true) else (if x17 < 1 then (some true) else (if x16 > 1073741824 then (some true) else (if (wrap64 (x18 * x17)) ≥ x16 then (some (decide ((wrap64 ((wrap64 (x18 - 1)) * x17)) < x16))) else (some false))))) else (some false)))))) else (some false)) else (if (x6 == false) = true then (if x6 = true then (if x5 = x3 then (if x9 = true then ((impl_NumText.f x8).bind fun t249 => (if t249.toList = x7.toList then ((impl_Least.f x12 x13).bind fun t250 => ((impl_Most.f x12 x13).bind fun t251 => (if t250 ≤ t251 then (if x16 < 1 then (some true) else (if x17 < 1 then (some true) else (if x16 > 1073741824 then (some true) else (if (wrap64 (x18 * x17)) ≥ x16 then (some (decide ((wrap64 ((wrap64 (x18 - 1)) * x17)) < x16))) else (some false))))) else (some false)))) else (some false))) else ((impl_Least.f x12 x13).bind fun t252 => ((impl_Most.f x12 x13).bind fun t253 => (if t252 ≤ t253 then (if x16 < 1 then (some true) else (if x17 < 1 then (some true) else (if x16 > 1073741824 then (some true) else (if (wrap64 (x18 * x17)) ≥ x16 then (some (decide ((wrap64 ((wrap64 (x18 - 1)) * x17)) < x16))) else (some false))))) else (some false))))) else (some false)) else (if x9 = true then ((impl_NumText.f x8).bind fun t254 => (if t254.toList = x7.toList then ((impl_Least.f x12 x13).bind fun t255 => ((impl_Most.f x12 x13).bind fun t256 => (if t255 ≤ t256 then (if x16 < 1 then (some true) else (if x17 < 1 then (some true) else (if x16 > 1073741824 then (some true) else (if (wrap64 (x18 * x17)) ≥ x16 then (some (decide ((wrap64 ((wrap64 (x18 - 1)) * x17)) < x16))) else (some false))))) else (some false)))) else (some false))) else ((impl_Least.f x12 x13).bind fun t257 => ((impl_Most.f x12 x13).bind fun t258 => (if t257 ≤ t258 then (if x16 < 1 then (some true) else (if x17 < 1 then (some true) else (if x16 > 1073741824 then (some true) else (if (wrap64 (x18 * x17)) ≥ x16 then (some (decide ((wrap64 ((wrap64 (x18 - 1)) * x17)) < x16))) else (some false))))) else (some false)))))) else (some false)))
def laws_FnDigits.f (k : Nat) (l0 : List Int) : Option (Bool) := (laws_big.f l0).bind fun t216 => (if t216 = true then (some true) else ((spec_DrawNumText.f k l0).bind fun t217 => ((impl_NumText.f t217).bind fun t218 => ((impl_ParseNum.f t218).bind fun bt219 => ((spec_DrawParseNum.f k l0).bind fun t221 => ((impl_ParseNum.f t221).bind fun bt222 => ((spec_ParseNum.f k t221).bind fun bt224 => ((spec_DrawLeast.f k l0).bind fun bt226 => ((spec_DrawMost.f k l0).bind fun bt228 => ((spec_DrawUp.f k l0).bind fun bt230 => ((impl_Up.f bt230.1 bt230.2).bind fun t232 => ((spec_NumText.f k t217).bind fun t233 => (if t218.toList = t233.toList then (if (bt222.2 != bt224.2) = true then (laws_FnDigits.j0 k t217 bt219.1 bt219.2 t221 bt222.1 bt222.2 bt226.1 bt226.2 bt230.1 bt230.2 t232 true) else ((impl_Least.f bt226.1 bt226.2).bind fun t234 => ((spec_Least.f bt226.1 bt226.2).bind fun t235 => (if t234 = t235 then ((impl_Most.f bt228.1 bt228.2).bind fun t236 => ((spec_Most.f bt228.1 bt228.2).bind fun t237 => (if t236 = t237 then ((spec_Up.f k bt230.1 bt230.2).bind fun t238 => (laws_FnDigits.j0 k t217 bt219.1 bt219.2 t221 bt222.1 bt222.2 bt226.1 bt226.2 bt230.1 bt230.2 t232 (t232 != t238))) else (laws_FnDigits.j0 k t217 bt219.1 bt219.2 t221 bt222.1 bt222.2 bt226.1 bt226.2 bt230.1 bt230.2 t232 true)))) else (laws_FnDigits.j0 k t217 bt219.1 bt219.2 t221 bt222.1 bt222.2 bt226.1 bt226.2 bt230.1 bt230.2 t232 true))))) else (laws_FnDigits.j0 k t217 bt219.1 bt219.2 t221 bt222.1 bt222.2 bt226.1 bt226.2 bt230.1 bt230.2 t232 true))))))))))))))
theorem laws_FnDigits.mono_l : ∀ k, (∀ y0 y1 y2 y3 y4 y5 y6 y7 y8 y9 y10 y11, LeO (laws_FnDigits.j0 k y0 y1 y2 y3 y4 y5 y6 y7 y8 y9 y10 y11) (laws_FnDigits.j0 (k + 1) y0 y1 y2 y3 y4 y5 y6 y7 y8 y9 y10 y11))
  | 0 => fun _ _ _ _ _ _ _ _ _ _ _ _ r h => by simp [laws_FnDigits.j0] at h
  | k + 1 => by
    have ih0 := laws_FnDigits.mono_l k
    · intro y0 y1 y2 y3 y4 y5 y6 y7 y8 y9 y10 y11
      unfold laws_FnDigits.j0
      repeat' first
      | (with_reducible exact ih0 _ _ _ _ _ _ _ _ _ _ _ _)
      | (with_reducible exact spec_DrawLeast.mono _ _)
      | (with_reducible exact spec_DrawMost.mono _ _)
      | (with_reducible exact spec_DrawNumText.mono _ _)
      | (with_reducible exact spec_DrawParseNum.mono _ _)
      | (with_reducible exact spec_DrawUp.mono _ _)
      | (with_reducible exact spec_NumText.mono _ _)
      | (with_reducible exact spec_ParseNum.mono _ _)
      | (with_reducible exact spec_Up.mono _ _ _)
      | (with_reducible exact LeO.refl _)
      | (with_reducible exact LeO.none _)
      | (with_reducible refine LeO.ite ?_ ?_)
      | (with_reducible refine LeO.bind ?_ (fun _ => ?_))
      | exact ih0 _ _ _ _ _ _ _ _ _ _ _ _
      | exact spec_DrawLeast.mono _ _
      | exact spec_DrawMost.mono _ _
      | exact spec_DrawNumText.mono _ _
      | exact spec_DrawParseNum.mono _ _
      | exact spec_DrawUp.mono _ _
      | exact spec_NumText.mono _ _
      | exact spec_ParseNum.mono _ _
      | exact spec_Up.mono _ _ _
      | exact LeO.none _
      | refine LeO.ite ?_ ?_
      | refine LeO.bind ?_ (fun _ => ?_)
theorem laws_FnDigits.mono : ∀ a0 k, LeO (laws_FnDigits.f k a0) (laws_FnDigits.f (k + 1) a0) := by
  intro a0 k
  have ih0 := laws_FnDigits.mono_l k
  unfold laws_FnDigits.f
  repeat' first
      | (with_reducible exact ih0 _ _ _ _ _ _ _ _ _ _ _ _)
      | (with_reducible exact spec_DrawLeast.mono _ _)
      | (with_reducible exact spec_DrawMost.mono _ _)
      | (with_reducible exact spec_DrawNumText.mono _ _)
      | (with_reducible exact spec_DrawParseNum.mono _ _)
      | (with_reducible exact spec_DrawUp.mono _ _)
      | (with_reducible exact spec_NumText.mono _ _)
      | (with_reducible exact spec_ParseNum.mono _ _)
      | (with_reducible exact spec_Up.mono _ _ _)
      | (with_reducible exact LeO.refl _)
      | (with_reducible exact LeO.none _)
      | (with_reducible refine LeO.ite ?_ ?_)
      | (with_reducible refine LeO.bind ?_ (fun _ => ?_))
      | exact ih0 _ _ _ _ _ _ _ _ _ _ _ _
      | exact spec_DrawLeast.mono _ _
      | exact spec_DrawMost.mono _ _
      | exact spec_DrawNumText.mono _ _
      | exact spec_DrawParseNum.mono _ _
      | exact spec_DrawUp.mono _ _
      | exact spec_NumText.mono _ _
      | exact spec_ParseNum.mono _ _
      | exact spec_Up.mono _ _ _
      | exact LeO.none _
      | refine LeO.ite ?_ ?_
      | refine LeO.bind ?_ (fun _ => ?_)
set_option maxHeartbeats 8000000 in
set_option maxRecDepth 100000 in
theorem laws_FnDigits.calls (k : Nat) (A0 : Option Addr) (c0 : Nat) (l0 : List Int) (r : Bool) (w : World) (hr0 : Kd.C (Kd.int .u8) w A0 l0.length l0) (hc0 : l0.length ≤ c0) (h : laws_FnDigits.f k l0 = some true) (hT_ : Go.Proofs.YtfgmngfhchfaaaaDoor.AidP.TabE w) :
    Calls Tryd.prog 6 #[.slice A0 l0.length c0] w fun e w' => e = .returned (.bool true) ∧ Below w.heap.size w w' := by
  have HTAB_ := Aside0.mk hT_
  clear hT_
  have HR0 := Aside0.mk hr0
  have HC0 := Aside0.mk hc0
  clear hr0 hc0
  have HB := Aside0.mk (Below.refl w.heap.size w)
  have H : ((laws_big.f l0).bind fun t216 => (if t216 = true then (some true) else ((spec_DrawNumText.f k l0).bind fun t217 => ((impl_NumText.f t217).bind fun t218 => ((impl_ParseNum.f t218).bind fun bt219 => ((spec_DrawParseNum.f k l0).bind fun t221 => ((impl_ParseNum.f t221).bind fun bt222 => ((spec_ParseNum.f k t221).bind fun bt224 => ((spec_DrawLeast.f k l0).bind fun bt226 => ((spec_DrawMost.f k l0).bind fun bt228 => ((spec_DrawUp.f k l0).bind fun bt230 => ((impl_Up.f bt230.1 bt230.2).bind fun t232 => ((spec_NumText.f k t217).bind fun t233 => (if t218.toList = t233.toList then (if (bt222.2 != bt224.2) = true then (laws_FnDigits.j0 k t217 bt219.1 bt219.2 t221 bt222.1 bt222.2 bt226.1 bt226.2 bt230.1 bt230.2 t232 true) else ((impl_Least.f bt226.1 bt226.2).bind fun t234 => ((spec_Least.f bt226.1 bt226.2).bind fun t235 => (if t234 = t235 then ((impl_Most.f bt228.1 bt228.2).bind fun t236 => ((spec_Most.f bt228.1 bt228.2).bind fun t237 => (if t236 = t237 then ((spec_Up.f k bt230.1 bt230.2).bind fun t238 => (laws_FnDigits.j0 k t217 bt219.1 bt219.2 t221 bt222.1 bt222.2 bt226.1 bt226.2 bt230.1 bt230.2 t232 (t232 != t238))) else (laws_FnDigits.j0 k t217 bt219.1 bt219.2 t221 bt222.1 bt222.2 bt226.1 bt226.2 bt230.1 bt230.2 t232 true)))) else (laws_FnDigits.j0 k t217 bt219.1 bt219.2 t221 bt222.1 bt222.2 bt226.1 bt226.2 bt230.1 bt230.2 t232 true))))) else (laws_FnDigits.j0 k t217 bt219.1 bt219.2 t221 bt222.1 bt222.2 bt226.1 bt226.2 bt230.1 bt230.2 t232 true))))))))))))))) = some true := h
  clear h
  replace H := Option.bind_eq_some_iff.mp H
  obtain ⟨t216, A20, H⟩ := H
  replace H : (if t216 = true then (some true) else ((spec_DrawNumText.f k l0).bind fun t217 => ((impl_NumText.f t217).bind fun t218 => ((impl_ParseNum.f t218).bind fun bt219 => ((spec_DrawParseNum.f k l0).bind fun t221 => ((impl_ParseNum.f t221).bind fun bt222 => ((spec_ParseNum.f k t221).bind fun bt224 => ((spec_DrawLeast.f k l0).bind fun bt226 => ((spec_DrawMost.f k l0).bind fun bt228 => ((spec_DrawUp.f k l0).bind fun bt230 => ((impl_Up.f bt230.1 bt230.2).bind fun t232 => ((spec_NumText.f k t217).bind fun t233 => (if t218.toList = t233.toList then (if (bt222.2 != bt224.2) = true then (laws_FnDigits.j0 k t217 bt219.1 bt219.2 t221 bt222.1 bt222.2 bt226.1 bt226.2 bt230.1 bt230.2 t232 true) else ((impl_Least.f bt226.1 bt226.2).bind fun t234 => ((spec_Least.f bt226.1 bt226.2).bind fun t235 => (if t234 = t235 then ((impl_Most.f bt228.1 bt228.2).bind fun t236 => ((spec_Most.f bt228.1 bt228.2).bind fun t237 => (if t236 = t237 then ((spec_Up.f k bt230.1 bt230.2).bind fun t238 => (laws_FnDigits.j0 k t217 bt219.1 bt219.2 t221 bt222.1 bt222.2 bt226.1 bt226.2 bt230.1 bt230.2 t232 (t232 != t238))) else (laws_FnDigits.j0 k t217 bt219.1 bt219.2 t221 bt222.1 bt222.2 bt226.1 bt226.2 bt230.1 bt230.2 t232 true)))) else (laws_FnDigits.j0 k t217 bt219.1 bt219.2 t221 bt222.1 bt222.2 bt226.1 bt226.2 bt230.1 bt230.2 t232 true))))) else (laws_FnDigits.j0 k t217 bt219.1 bt219.2 t221 bt222.1 bt222.2 bt226.1 bt226.2 bt230.1 bt230.2 t232 true)))))))))))))) = some true := H
  have A2 := Aside0.mk A20
  clear A20
  by_cases c3 : t216 = true
  · subst c3
    have H1 : (some true) = some true := rfl
    clear H
    have H := H1
    clear H1
    clear H
    go_enter Tryd.func6, Tryd.ntmps6
    go_wp2_with (first | ((with_reducible refine gate_callee (f := 15) rfl ?_); refine goesL_ (some 20) rfl rfl Tryd.func15 (by kernel_rfl) rfl #[.slice A0 l0.length c0] rfl (by (try simp only [List.map_toArray, List.map_cons, List.map_nil]); first | done | rfl | (simp only [List.length_drop, List.length_take]; rfl)) ?_; (with_reducible refine (laws_big.calls _ _ l0 true _ ?side1 ?side2 A2.out).mono ?_); (case side1 => repeat (first | exact HR0.out | (with_reducible refine Kd.C_alloc ?_ _) | (with_reducible refine Kd.C_drewN ?_ _) | (with_reducible refine Kd.C_drew ?_))); (case side2 => exact HC0.out); rintro e w' ⟨rfl, ⟨nd, rfl⟩⟩; refine ⟨_, rfl, ?_⟩))
    go_ret
    exact ⟨by first | rfl | (rw [hrv_.out]; done) | (rw [hrv_.out]; rfl) | (have hrv1_ := hrv_.out; simp [hrv1_]; done) | (simp [errW_none, errW_some] <;> rfl) | (simp [*, errW_none, errW_some] <;> rfl), by repeat (first | (with_reducible first | exact HB.out | apply below_alloc | apply pw_below_drewN | apply below_drew1) | exact HB.out)⟩
  · replace c3 := Bool.eq_false_iff.mpr c3
    subst c3
    have H1 : ((spec_DrawNumText.f k l0).bind fun t217 => ((impl_NumText.f t217).bind fun t218 => ((impl_ParseNum.f t218).bind fun bt219 => ((spec_DrawParseNum.f k l0).bind fun t221 => ((impl_ParseNum.f t221).bind fun bt222 => ((spec_ParseNum.f k t221).bind fun bt224 => ((spec_DrawLeast.f k l0).bind fun bt226 => ((spec_DrawMost.f k l0).bind fun bt228 => ((spec_DrawUp.f k l0).bind fun bt230 => ((impl_Up.f bt230.1 bt230.2).bind fun t232 => ((spec_NumText.f k t217).bind fun t233 => (if t218.toList = t233.toList then (if (bt222.2 != bt224.2) = true then (laws_FnDigits.j0 k t217 bt219.1 bt219.2 t221 bt222.1 bt222.2 bt226.1 bt226.2 bt230.1 bt230.2 t232 true) else ((impl_Least.f bt226.1 bt226.2).bind fun t234 => ((spec_Least.f bt226.1 bt226.2).bind fun t235 => (if t234 = t235 then ((impl_Most.f bt228.1 bt228.2).bind fun t236 => ((spec_Most.f bt228.1 bt228.2).bind fun t237 => (if t236 = t237 then ((spec_Up.f k bt230.1 bt230.2).bind fun t238 => (laws_FnDigits.j0 k t217 bt219.1 bt219.2 t221 bt222.1 bt222.2 bt226.1 bt226.2 bt230.1 bt230.2 t232 (t232 != t238))) else (laws_FnDigits.j0 k t217 bt219.1 bt219.2 t221 bt222.1 bt222.2 bt226.1 bt226.2 bt230.1 bt230.2 t232 true)))) else (laws_FnDigits.j0 k t217 bt219.1 bt219.2 t221 bt222.1 bt222.2 bt226.1 bt226.2 bt230.1 bt230.2 t232 true))))) else (laws_FnDigits.j0 k t217 bt219.1 bt219.2 t221 bt222.1 bt222.2 bt226.1 bt226.2 bt230.1 bt230.2 t232 true))))))))))))) = some true := by rw [if_neg (show ¬ (false = true) by decide)] at H; exact H
    clear H
    have H := H1
    clear H1
    replace H := Option.bind_eq_some_iff.mp H
    obtain ⟨t217, A40, H⟩ := H
    replace H : ((impl_NumText.f t217).bind fun t218 => ((impl_ParseNum.f t218).bind fun bt219 => ((spec_DrawParseNum.f k l0).bind fun t221 => ((impl_ParseNum.f t221).bind fun bt222 => ((spec_ParseNum.f k t221).bind fun bt224 => ((spec_DrawLeast.f k l0).bind fun bt226 => ((spec_DrawMost.f k l0).bind fun bt228 => ((spec_DrawUp.f k l0).bind fun bt230 => ((impl_Up.f bt230.1 bt230.2).bind fun t232 => ((spec_NumText.f k t217).bind fun t233 => (if t218.toList = t233.toList then (if (bt222.2 != bt224.2) = true then (laws_FnDigits.j0 k t217 bt219.1 bt219.2 t221 bt222.1 bt222.2 bt226.1 bt226.2 bt230.1 bt230.2 t232 true) else ((impl_Least.f bt226.1 bt226.2).bind fun t234 => ((spec_Least.f bt226.1 bt226.2).bind fun t235 => (if t234 = t235 then ((impl_Most.f bt228.1 bt228.2).bind fun t236 => ((spec_Most.f bt228.1 bt228.2).bind fun t237 => (if t236 = t237 then ((spec_Up.f k bt230.1 bt230.2).bind fun t238 => (laws_FnDigits.j0 k t217 bt219.1 bt219.2 t221 bt222.1 bt222.2 bt226.1 bt226.2 bt230.1 bt230.2 t232 (t232 != t238))) else (laws_FnDigits.j0 k t217 bt219.1 bt219.2 t221 bt222.1 bt222.2 bt226.1 bt226.2 bt230.1 bt230.2 t232 true)))) else (laws_FnDigits.j0 k t217 bt219.1 bt219.2 t221 bt222.1 bt222.2 bt226.1 bt226.2 bt230.1 bt230.2 t232 true))))) else (laws_FnDigits.j0 k t217 bt219.1 bt219.2 t221 bt222.1 bt222.2 bt226.1 bt226.2 bt230.1 bt230.2 t232 true)))))))))))) = some true := H
    have A4 := Aside0.mk A40
    clear A40
    replace H := Option.bind_eq_some_iff.mp H
    obtain ⟨t218, A50, H⟩ := H
    replace H : ((impl_ParseNum.f t218).bind fun bt219 => ((spec_DrawParseNum.f k l0).bind fun t221 => ((impl_ParseNum.f t221).bind fun bt222 => ((spec_ParseNum.f k t221).bind fun bt224 => ((spec_DrawLeast.f k l0).bind fun bt226 => ((spec_DrawMost.f k l0).bind fun bt228 => ((spec_DrawUp.f k l0).bind fun bt230 => ((impl_Up.f bt230.1 bt230.2).bind fun t232 => ((spec_NumText.f k t217).bind fun t233 => (if t218.toList = t233.toList then (if (bt222.2 != bt224.2) = true then (laws_FnDigits.j0 k t217 bt219.1 bt219.2 t221 bt222.1 bt222.2 bt226.1 bt226.2 bt230.1 bt230.2 t232 true) else ((impl_Least.f bt226.1 bt226.2).bind fun t234 => ((spec_Least.f bt226.1 bt226.2).bind fun t235 => (if t234 = t235 then ((impl_Most.f bt228.1 bt228.2).bind fun t236 => ((spec_Most.f bt228.1 bt228.2).bind fun t237 => (if t236 = t237 then ((spec_Up.f k bt230.1 bt230.2).bind fun t238 => (laws_FnDigits.j0 k t217 bt219.1 bt219.2 t221 bt222.1 bt222.2 bt226.1 bt226.2 bt230.1 bt230.2 t232 (t232 != t238))) else (laws_FnDigits.j0 k t217 bt219.1 bt219.2 t221 bt222.1 bt222.2 bt226.1 bt226.2 bt230.1 bt230.2 t232 true)))) else (laws_FnDigits.j0 k t217 bt219.1 bt219.2 t221 bt222.1 bt222.2 bt226.1 bt226.2 bt230.1 bt230.2 t232 true))))) else (laws_FnDigits.j0 k t217 bt219.1 bt219.2 t221 bt222.1 bt222.2 bt226.1 bt226.2 bt230.1 bt230.2 t232 true))))))))))) = some true := H
    have A5 := Aside0.mk A50
    clear A50
    replace H := Option.bind_eq_some_iff.mp H
    obtain ⟨⟨t219, t220⟩, A60, H⟩ := H
    replace H : ((spec_DrawParseNum.f k l0).bind fun t221 => ((impl_ParseNum.f t221).bind fun bt222 => ((spec_ParseNum.f k t221).bind fun bt224 => ((spec_DrawLeast.f k l0).bind fun bt226 => ((spec_DrawMost.f k l0).bind fun bt228 => ((spec_DrawUp.f k l0).bind fun bt230 => ((impl_Up.f bt230.1 bt230.2).bind fun t232 => ((spec_NumText.f k t217).bind fun t233 => (if t218.toList = t233.toList then (if (bt222.2 != bt224.2) = true then (laws_FnDigits.j0 k t217 t219 t220 t221 bt222.1 bt222.2 bt226.1 bt226.2 bt230.1 bt230.2 t232 true) else ((impl_Least.f bt226.1 bt226.2).bind fun t234 => ((spec_Least.f bt226.1 bt226.2).bind fun t235 => (if t234 = t235 then ((impl_Most.f bt228.1 bt228.2).bind fun t236 => ((spec_Most.f bt228.1 bt228.2).bind fun t237 => (if t236 = t237 then ((spec_Up.f k bt230.1 bt230.2).bind fun t238 => (laws_FnDigits.j0 k t217 t219 t220 t221 bt222.1 bt222.2 bt226.1 bt226.2 bt230.1 bt230.2 t232 (t232 != t238))) else (laws_FnDigits.j0 k t217 t219 t220 t221 bt222.1 bt222.2 bt226.1 bt226.2 bt230.1 bt230.2 t232 true)))) else (laws_FnDigits.j0 k t217 t219 t220 t221 bt222.1 bt222.2 bt226.1 bt226.2 bt230.1 bt230.2 t232 true))))) else (laws_FnDigits.j0 k t217 t219 t220 t221 bt222.1 bt222.2 bt226.1 bt226.2 bt230.1 bt230.2 t232 true)))))))))) = some true := H
    have A6 := Aside0.mk A60
    clear A60
    replace H := Option.bind_eq_some_iff.mp H
    obtain ⟨t221, A70, H⟩ := H
    replace H : ((impl_ParseNum.f t221).bind fun bt222 => ((spec_ParseNum.f k t221).bind fun bt224 => ((spec_DrawLeast.f k l0).bind fun bt226 => ((spec_DrawMost.f k l0).bind fun bt228 => ((spec_DrawUp.f k l0).bind fun bt230 => ((impl_Up.f bt230.1 bt230.2).bind fun t232 => ((spec_NumText.f k t217).bind fun t233 => (if t218.toList = t233.toList then (if (bt222.2 != bt224.2) = true then (laws_FnDigits.j0 k t217 t219 t220 t221 bt222.1 bt222.2 bt226.1 bt226.2 bt230.1 bt230.2 t232 true) else ((impl_Least.f bt226.1 bt226.2).bind fun t234 => ((spec_Least.f bt226.1 bt226.2).bind fun t235 => (if t234 = t235 then ((impl_Most.f bt228.1 bt228.2).bind fun t236 => ((spec_Most.f bt228.1 bt228.2).bind fun t237 => (if t236 = t237 then ((spec_Up.f k bt230.1 bt230.2).bind fun t238 => (laws_FnDigits.j0 k t217 t219 t220 t221 bt222.1 bt222.2 bt226.1 bt226.2 bt230.1 bt230.2 t232 (t232 != t238))) else (laws_FnDigits.j0 k t217 t219 t220 t221 bt222.1 bt222.2 bt226.1 bt226.2 bt230.1 bt230.2 t232 true)))) else (laws_FnDigits.j0 k t217 t219 t220 t221 bt222.1 bt222.2 bt226.1 bt226.2 bt230.1 bt230.2 t232 true))))) else (laws_FnDigits.j0 k t217 t219 t220 t221 bt222.1 bt222.2 bt226.1 bt226.2 bt230.1 bt230.2 t232 true))))))))) = some true := H
    have A7 := Aside0.mk A70
    clear A70
    replace H := Option.bind_eq_some_iff.mp H
    obtain ⟨⟨t222, t223⟩, A80, H⟩ := H
    replace H : ((spec_ParseNum.f k t221).bind fun bt224 => ((spec_DrawLeast.f k l0).bind fun bt226 => ((spec_DrawMost.f k l0).bind fun bt228 => ((spec_DrawUp.f k l0).bind fun bt230 => ((impl_Up.f bt230.1 bt230.2).bind fun t232 => ((spec_NumText.f k t217).bind fun t233 => (if t218.toList = t233.toList then (if (t223 != bt224.2) = true then (laws_FnDigits.j0 k t217 t219 t220 t221 t222 t223 bt226.1 bt226.2 bt230.1 bt230.2 t232 true) else ((impl_Least.f bt226.1 bt226.2).bind fun t234 => ((spec_Least.f bt226.1 bt226.2).bind fun t235 => (if t234 = t235 then ((impl_Most.f bt228.1 bt228.2).bind fun t236 => ((spec_Most.f bt228.1 bt228.2).bind fun t237 => (if t236 = t237 then ((spec_Up.f k bt230.1 bt230.2).bind fun t238 => (laws_FnDigits.j0 k t217 t219 t220 t221 t222 t223 bt226.1 bt226.2 bt230.1 bt230.2 t232 (t232 != t238))) else (laws_FnDigits.j0 k t217 t219 t220 t221 t222 t223 bt226.1 bt226.2 bt230.1 bt230.2 t232 true)))) else (laws_FnDigits.j0 k t217 t219 t220 t221 t222 t223 bt226.1 bt226.2 bt230.1 bt230.2 t232 true))))) else (laws_FnDigits.j0 k t217 t219 t220 t221 t222 t223 bt226.1 bt226.2 bt230.1 bt230.2 t232 true)))))))) = some true := H
    have A8 := Aside0.mk A80
    clear A80
    replace H := Option.bind_eq_some_iff.mp H
    obtain ⟨⟨t224, t225⟩, A90, H⟩ := H
    replace H : ((spec_DrawLeast.f k l0).bind fun bt226 => ((spec_DrawMost.f k l0).bind fun bt228 => ((spec_DrawUp.f k l0).bind fun bt230 => ((impl_Up.f bt230.1 bt230.2).bind fun t232 => ((spec_NumText.f k t217).bind fun t233 => (if t218.toList = t233.toList then (if (t223 != t225) = true then (laws_FnDigits.j0 k t217 t219 t220 t221 t222 t223 bt226.1 bt226.2 bt230.1 bt230.2 t232 true) else ((impl_Least.f bt226.1 bt226.2).bind fun t234 => ((spec_Least.f bt226.1 bt226.2).bind fun t235 => (if t234 = t235 then ((impl_Most.f bt228.1 bt228.2).bind fun t236 => ((spec_Most.f bt228.1 bt228.2).bind fun t237 => (if t236 = t237 then ((spec_Up.f k bt230.1 bt230.2).bind fun t238 => (laws_FnDigits.j0 k t217 t219 t220 t221 t222 t223 bt226.1 bt226.2 bt230.1 bt230.2 t232 (t232 != t238))) else (laws_FnDigits.j0 k t217 t219 t220 t221 t222 t223 bt226.1 bt226.2 bt230.1 bt230.2 t232 true)))) else (laws_FnDigits.j0 k t217 t219 t220 t221 t222 t223 bt226.1 bt226.2 bt230.1 bt230.2 t232 true))))) else (laws_FnDigits.j0 k t217 t219 t220 t221 t222 t223 bt226.1 bt226.2 bt230.1 bt230.2 t232 true))))))) = some true := H
    have A9 := Aside0.mk A90
    clear A90
    replace H := Option.bind_eq_some_iff.mp H
    obtain ⟨⟨t226, t227⟩, A100, H⟩ := H
    replace H : ((spec_DrawMost.f k l0).bind fun bt228 => ((spec_DrawUp.f k l0).bind fun bt230 => ((impl_Up.f bt230.1 bt230.2).bind fun t232 => ((spec_NumText.f k t217).bind fun t233 => (if t218.toList = t233.toList then (if (t223 != t225) = true then (laws_FnDigits.j0 k t217 t219 t220 t221 t222 t223 t226 t227 bt230.1 bt230.2 t232 true) else ((impl_Least.f t226 t227).bind fun t234 => ((spec_Least.f t226 t227).bind fun t235 => (if t234 = t235 then ((impl_Most.f bt228.1 bt228.2).bind fun t236 => ((spec_Most.f bt228.1 bt228.2).bind fun t237 => (if t236 = t237 then ((spec_Up.f k bt230.1 bt230.2).bind fun t238 => (laws_FnDigits.j0 k t217 t219 t220 t221 t222 t223 t226 t227 bt230.1 bt230.2 t232 (t232 != t238))) else (laws_FnDigits.j0 k t217 t219 t220 t221 t222 t223 t226 t227 bt230.1 bt230.2 t232 true)))) else (laws_FnDigits.j0 k t217 t219 t220 t221 t222 t223 t226 t227 bt230.1 bt230.2 t232 true))))) else (laws_FnDigits.j0 k t217 t219 t220 t221 t222 t223 t226 t227 bt230.1 bt230.2 t232 true)))))) = some true := H
    have A10 := Aside0.mk A100
    clear A100
    replace H := Option.bind_eq_some_iff.mp H
    obtain ⟨⟨t228, t229⟩, A110, H⟩ := H
    replace H : ((spec_DrawUp.f k l0).bind fun bt230 => ((impl_Up.f bt230.1 bt230.2).bind fun t232 => ((spec_NumText.f k t217).bind fun t233 => (if t218.toList = t233.toList then (if (t223 != t225) = true then (laws_FnDigits.j0 k t217 t219 t220 t221 t222 t223 t226 t227 bt230.1 bt230.2 t232 true) else ((impl_Least.f t226 t227).bind fun t234 => ((spec_Least.f t226 t227).bind fun t235 => (if t234 = t235 then ((impl_Most.f t228 t229).bind fun t236 => ((spec_Most.f t228 t229).bind fun t237 => (if t236 = t237 then ((spec_Up.f k bt230.1 bt230.2).bind fun t238 => (laws_FnDigits.j0 k t217 t219 t220 t221 t222 t223 t226 t227 bt230.1 bt230.2 t232 (t232 != t238))) else (laws_FnDigits.j0 k t217 t219 t220 t221 t222 t223 t226 t227 bt230.1 bt230.2 t232 true)))) else (laws_FnDigits.j0 k t217 t219 t220 t221 t222 t223 t226 t227 bt230.1 bt230.2 t232 true))))) else (laws_FnDigits.j0 k t217 t219 t220 t221 t222 t223 t226 t227 bt230.1 bt230.2 t232 true))))) = some true := H
    have A11 := Aside0.mk A110
    clear A110
    replace H := Option.bind_eq_some_iff.mp H
    obtain ⟨⟨t230, t231⟩, A120, H⟩ := H
    replace H : ((impl_Up.f t230 t231).bind fun t232 => ((spec_NumText.f k t217).bind fun t233 => (if t218.toList = t233.toList then (if (t223 != t225) = true then (laws_FnDigits.j0 k t217 t219 t220 t221 t222 t223 t226 t227 t230 t231 t232 true) else ((impl_Least.f t226 t227).bind fun t234 => ((spec_Least.f t226 t227).bind fun t235 => (if t234 = t235 then ((impl_Most.f t228 t229).bind fun t236 => ((spec_Most.f t228 t229).bind fun t237 => (if t236 = t237 then ((spec_Up.f k t230 t231).bind fun t238 => (laws_FnDigits.j0 k t217 t219 t220 t221 t222 t223 t226 t227 t230 t231 t232 (t232 != t238))) else (laws_FnDigits.j0 k t217 t219 t220 t221 t222 t223 t226 t227 t230 t231 t232 true)))) else (laws_FnDigits.j0 k t217 t219 t220 t221 t222 t223 t226 t227 t230 t231 t232 true))))) else (laws_FnDigits.j0 k t217 t219 t220 t221 t222 t223 t226 t227 t230 t231 t232 true)))) = some true := H
    have A12 := Aside0.mk A120
    clear A120
    replace H := Option.bind_eq_some_iff.mp H
    obtain ⟨t232, A130, H⟩ := H
    replace H : ((spec_NumText.f k t217).bind fun t233 => (if t218.toList = t233.toList then (if (t223 != t225) = true then (laws_FnDigits.j0 k t217 t219 t220 t221 t222 t223 t226 t227 t230 t231 t232 true) else ((impl_Least.f t226 t227).bind fun t234 => ((spec_Least.f t226 t227).bind fun t235 => (if t234 = t235 then ((impl_Most.f t228 t229).bind fun t236 => ((spec_Most.f t228 t229).bind fun t237 => (if t236 = t237 then ((spec_Up.f k t230 t231).bind fun t238 => (laws_FnDigits.j0 k t217 t219 t220 t221 t222 t223 t226 t227 t230 t231 t232 (t232 != t238))) else (laws_FnDigits.j0 k t217 t219 t220 t221 t222 t223 t226 t227 t230 t231 t232 true)))) else (laws_FnDigits.j0 k t217 t219 t220 t221 t222 t223 t226 t227 t230 t231 t232 true))))) else (laws_FnDigits.j0 k t217 t219 t220 t221 t222 t223 t226 t227 t230 t231 t232 true))) = some true := H
    have A13 := Aside0.mk A130
    clear A130
    have HC14 := Aside0.mk H
    clear H
    go_enter Tryd.func6, Tryd.ntmps6
    go_upto_region 13 with (first | ((with_reducible refine gate_callee (f := 15) rfl ?_); refine goesL_ (some 20) rfl rfl Tryd.func15 (by kernel_rfl) rfl #[.slice A0 l0.length c0] rfl (by (try simp only [List.map_toArray, List.map_cons, List.map_nil]); first | done | rfl | (simp only [List.length_drop, List.length_take]; rfl)) ?_; (with_reducible refine (laws_big.calls _ _ l0 false _ ?side1 ?side2 A2.out).mono ?_); (case side1 => repeat (first | exact HR0.out | (with_reducible refine Kd.C_alloc ?_ _) | (with_reducible refine Kd.C_drewN ?_ _) | (with_reducible refine Kd.C_drew ?_))); (case side2 => exact HC0.out); rintro e w' ⟨rfl, ⟨nd, rfl⟩⟩; refine ⟨_, rfl, ?_⟩) | ((with_reducible refine gate_callee (f := 16) rfl ?_); refine goesL_ (some 22) rfl rfl Tryd.func16 (by kernel_rfl) rfl #[.slice A0 l0.length c0] rfl (by (try simp only [List.map_toArray, List.map_cons, List.map_nil]); first | done | rfl | (simp only [List.length_drop, List.length_take]; rfl)) ?_; (with_reducible refine (spec_DrawNumText.calls k _ _ l0 t217 _ ?side1 ?side2 A4.out).mono ?_); (case side1 => repeat (first | exact HR0.out | (with_reducible refine Kd.C_alloc ?_ _) | (with_reducible refine Kd.C_drewN ?_ _) | (with_reducible refine Kd.C_drew ?_))); (case side2 => exact HC0.out); rintro e w15 ⟨rfl, hb⟩; refine ⟨_, rfl, ?_⟩; have n0_ := Aside0.mk (below_step (by repeat (first | (with_reducible first | exact HB.out | apply below_alloc | apply pw_below_drewN | apply below_drew1) | exact HB.out)) hb); clear HB; have HB := n0_; clear n0_; (try clear hb); (try clear hb2); (try clear hk); (try clear hi)) | ((with_reducible refine gate_callee (f := 11) rfl ?_); refine goesL_ (some 24) rfl rfl Tryd.func11 (by kernel_rfl) rfl #[.int .i64 t217] rfl (by (try simp only [List.map_toArray, List.map_cons, List.map_nil]); first | done | rfl | (simp only [List.length_drop, List.length_take]; rfl)) ?_; (with_reducible refine (impl_NumText.calls (hT_ := (Go.Proofs.YtfgmngfhchfaaaaDoor.AidP.tabE_below HTAB_.out (by repeat (first | (with_reducible first | exact HB.out | apply below_alloc | apply pw_below_drewN | apply below_drew1) | exact HB.out))).1) t217 t218 _ A5.out).mono ?_); rintro e w16 ⟨rfl, hb⟩; refine ⟨_, rfl, ?_⟩; have n0_ := Aside0.mk (below_step (by repeat (first | (with_reducible first | exact HB.out | apply below_alloc | apply pw_below_drewN | apply below_drew1) | exact HB.out)) hb); clear HB; have HB := n0_; clear n0_; (try clear hb); (try clear hb2); (try clear hk); (try clear hi)) | ((with_reducible refine gate_callee (f := 9) rfl ?_); refine goesL_ (some 27) rfl rfl Tryd.func9 (by kernel_rfl) rfl #[.string t218] rfl (by (try simp only [List.map_toArray, List.map_cons, List.map_nil]); first | done | rfl | (simp only [List.length_drop, List.length_take]; rfl)) ?_; (with_reducible refine (impl_ParseNum.calls (hT_ := (Go.Proofs.YtfgmngfhchfaaaaDoor.AidP.tabE_below HTAB_.out (by repeat (first | (with_reducible first | exact HB.out | apply below_alloc | apply pw_below_drewN | apply below_drew1) | exact HB.out)))) t218 t219 t220 _ A6.out).mono ?_); rintro e w17 ⟨rfl, hb⟩; refine ⟨_, rfl, ?_⟩; have n0_ := Aside0.mk (below_step (by repeat (first | (with_reducible first | exact HB.out | apply below_alloc | apply pw_below_drewN | apply below_drew1) | exact HB.out)) hb); clear HB; have HB := n0_; clear n0_; (try clear hb); (try clear hb2); (try clear hk); (try clear hi)) | ((with_reducible refine gate_callee (f := 17) rfl ?_); refine goesL_ (some 31) rfl rfl Tryd.func17 (by kernel_rfl) rfl #[.slice A0 l0.length c0] rfl (by (try simp only [List.map_toArray, List.map_cons, List.map_nil]); first | done | rfl | (simp only [List.length_drop, List.length_take]; rfl)) ?_; (with_reducible refine (spec_DrawParseNum.calls k _ _ l0 t221 _ ?side1 ?side2 A7.out).mono ?_); (case side1 => repeat (first | exact (Kd.C_below HR0.out HB.out) | (with_reducible refine Kd.C_alloc ?_ _) | (with_reducible refine Kd.C_drewN ?_ _) | (with_reducible refine Kd.C_drew ?_))); (case side2 => exact HC0.out); rintro e w18 ⟨rfl, hb⟩; refine ⟨_, rfl, ?_⟩; have n0_ := Aside0.mk (below_step (by repeat (first | (with_reducible first | exact HB.out | apply below_alloc | apply pw_below_drewN | apply below_drew1) | exact HB.out)) hb); clear HB; have HB := n0_; clear n0_; (try clear hb); (try clear hb2); (try clear hk); (try clear hi)) | ((with_reducible refine gate_callee (f := 9) rfl ?_); refine goesL_ (some 34) rfl rfl Tryd.func9 (by kernel_rfl) rfl #[.string t221] rfl (by (try simp only [List.map_toArray, List.map_cons, List.map_nil]); first | done | rfl | (simp only [List.length_drop, List.length_take]; rfl)) ?_; (with_reducible refine (impl_ParseNum.calls (hT_ := (Go.Proofs.YtfgmngfhchfaaaaDoor.AidP.tabE_below HTAB_.out (by repeat (first | (with_reducible first | exact HB.out | apply below_alloc | apply pw_below_drewN | apply below_drew1) | exact HB.out)))) t221 t222 t223 _ A8.out).mono ?_); rintro e w19 ⟨rfl, hb⟩; refine ⟨_, rfl, ?_⟩; have n0_ := Aside0.mk (below_step (by repeat (first | (with_reducible first | exact HB.out | apply below_alloc | apply pw_below_drewN | apply below_drew1) | exact HB.out)) hb); clear HB; have HB := n0_; clear n0_; (try clear hb); (try clear hb2); (try clear hk); (try clear hi)) | ((with_reducible refine gate_callee (f := 8) rfl ?_); refine goesL_ (some 39) rfl rfl Tryd.func8 (by kernel_rfl) rfl #[.string t221] rfl (by (try simp only [List.map_toArray, List.map_cons, List.map_nil]); first | done | rfl | (simp only [List.length_drop, List.length_take]; rfl)) ?_; (with_reducible refine (spec_ParseNum.calls k t221 t224 t225 _ A9.out).mono ?_); rintro e w' ⟨rfl, ⟨nd, rfl⟩⟩; refine ⟨_, rfl, ?_⟩) | ((with_reducible refine gate_callee (f := 18) rfl ?_); refine goesL_ (some 44) rfl rfl Tryd.func18 (by kernel_rfl) rfl #[.slice A0 l0.length c0] rfl (by (try simp only [List.map_toArray, List.map_cons, List.map_nil]); first | done | rfl | (simp only [List.length_drop, List.length_take]; rfl)) ?_; (with_reducible refine (spec_DrawLeast.calls k _ _ l0 t226 t227 _ ?side1 ?side2 A10.out).mono ?_); (case side1 => repeat (first | exact (Kd.C_below HR0.out (by repeat (first | (with_reducible first | exact HB.out | apply below_alloc | apply pw_below_drewN | apply below_drew1) | exact HB.out))) | (with_reducible refine Kd.C_alloc ?_ _) | (with_reducible refine Kd.C_drewN ?_ _) | (with_reducible refine Kd.C_drew ?_))); (case side2 => exact HC0.out); rintro e w20 ⟨rfl, hb⟩; refine ⟨_, rfl, ?_⟩; have n0_ := Aside0.mk (below_step (by repeat (first | (with_reducible first | exact HB.out | apply below_alloc | apply pw_below_drewN | apply below_drew1) | exact HB.out)) hb); clear HB; have HB := n0_; clear n0_; (try clear hb); (try clear hb2); (try clear hk); (try clear hi)) | ((with_reducible refine gate_callee (f := 19) rfl ?_); refine goesL_ (some 49) rfl rfl Tryd.func19 (by kernel_rfl) rfl #[.slice A0 l0.length c0] rfl (by (try simp only [List.map_toArray, List.map_cons, List.map_nil]); first | done | rfl | (simp only [List.length_drop, List.length_take]; rfl)) ?_; (with_reducible refine (spec_DrawMost.calls k _ _ l0 t228 t229 _ ?side1 ?side2 A11.out).mono ?_); (case side1 => repeat (first | exact (Kd.C_below HR0.out HB.out) | (with_reducible refine Kd.C_alloc ?_ _) | (with_reducible refine Kd.C_drewN ?_ _) | (with_reducible refine Kd.C_drew ?_))); (case side2 => exact HC0.out); rintro e w21 ⟨rfl, hb⟩; refine ⟨_, rfl, ?_⟩; have n0_ := Aside0.mk (below_step (by repeat (first | (with_reducible first | exact HB.out | apply below_alloc | apply pw_below_drewN | apply below_drew1) | exact HB.out)) hb); clear HB; have HB := n0_; clear n0_; (try clear hb); (try clear hb2); (try clear hk); (try clear hi)) | ((with_reducible refine gate_callee (f := 20) rfl ?_); refine goesL_ (some 54) rfl rfl Tryd.func20 (by kernel_rfl) rfl #[.slice A0 l0.length c0] rfl (by (try simp only [List.map_toArray, List.map_cons, List.map_nil]); first | done | rfl | (simp only [List.length_drop, List.length_take]; rfl)) ?_; (with_reducible refine (spec_DrawUp.calls k _ _ l0 t230 t231 _ ?side1 ?side2 A12.out).mono ?_); (case side1 => repeat (first | exact (Kd.C_below HR0.out HB.out) | (with_reducible refine Kd.C_alloc ?_ _) | (with_reducible refine Kd.C_drewN ?_ _) | (with_reducible refine Kd.C_drew ?_))); (case side2 => exact HC0.out); rintro e w22 ⟨rfl, hb⟩; refine ⟨_, rfl, ?_⟩; have n0_ := Aside0.mk (below_step (by repeat (first | (with_reducible first | exact HB.out | apply below_alloc | apply pw_below_drewN | apply below_drew1) | exact HB.out)) hb); clear HB; have HB := n0_; clear n0_; (try clear hb); (try clear hb2); (try clear hk); (try clear hi)) | ((with_reducible refine gate_callee (f := 21) rfl ?_); refine goesL_ (some 59) rfl rfl Tryd.func21 (by kernel_rfl) rfl #[.int .i64 t230, .int .i64 t231] rfl (by (try simp only [List.map_toArray, List.map_cons, List.map_nil]); first | done | rfl | (simp only [List.length_drop, List.length_take]; rfl)) ?_; (with_reducible refine (impl_Up.calls t230 t231 t232 _ A13.out).mono ?_); rintro e w' ⟨rfl, ⟨nd, rfl⟩⟩; refine ⟨_, rfl, ?_⟩))
    (try simp only [Act.put, List.setIfInBounds_toArray, List.set_cons_zero, List.set_cons_succ])
    go_cut [93] (fun v93 wc => ∃ (kq : Nat) (x93_13 : Bool), v93 = .bool x93_13 ∧ Aside0 (laws_FnDigits.j0 kq t217 t219 t220 t221 t222 t223 t226 t227 t230 t231 t232 x93_13 = some true) ∧ Aside0 (kq ≤ k) ∧ Aside0 (Below w.heap.size w wc))
    case first =>
      have H := HC14.out
      clear HC14
      replace H := Option.bind_eq_some_iff.mp H
      obtain ⟨t233, A230, H⟩ := H
      replace H : (if t218.toList = t233.toList then (if (t223 != t225) = true then (laws_FnDigits.j0 k t217 t219 t220 t221 t222 t223 t226 t227 t230 t231 t232 true) else ((impl_Least.f t226 t227).bind fun t234 => ((spec_Least.f t226 t227).bind fun t235 => (if t234 = t235 then ((impl_Most.f t228 t229).bind fun t236 => ((spec_Most.f t228 t229).bind fun t237 => (if t236 = t237 then ((spec_Up.f k t230 t231).bind fun t238 => (laws_FnDigits.j0 k t217 t219 t220 t221 t222 t223 t226 t227 t230 t231 t232 (t232 != t238))) else (laws_FnDigits.j0 k t217 t219 t220 t221 t222 t223 t226 t227 t230 t231 t232 true)))) else (laws_FnDigits.j0 k t217 t219 t220 t221 t222 t223 t226 t227 t230 t231 t232 true))))) else (laws_FnDigits.j0 k t217 t219 t220 t221 t222 t223 t226 t227 t230 t231 t232 true)) = some true := H
      have A23 := Aside0.mk A230
      clear A230
      by_cases c24 : t218.toList = t233.toList
      · rw [if_pos c24] at H
        have c24b0 : (t218.toList == t233.toList) = true := beq_iff_eq.mpr c24
        have c24b1 : (t218.toList != t233.toList) = false := bne_eq_false_iff_eq.mpr c24
        clear c24
        (first | rw [c24b0] | (simp only [i64_w, i32_w]; rw [c24b0]) | skip)
        by_cases c25 : (t223 != t225) = true
        · rw [if_pos c25] at H
          have c25b0 : (t223 != t225) = true := c25
          (try (have c25b1 : decide (t223 = t225) = false := by simpa using c25))
          (try (have c25b2 : (t223 == t225) = false := by simpa using c25))
          (try (have c25b3 : ¬ (t223 = t225) := by simpa using c25))
          clear c25
          have H' := Aside0.mk H
          clear H
          go_wp2_with (first | ((with_reducible refine gate_callee (f := 10) rfl ?_); refine goesL_ (some 62) rfl rfl Tryd.func10 (by kernel_rfl) rfl #[.int .i64 t217] rfl (by (try simp only [List.map_toArray, List.map_cons, List.map_nil]); first | done | rfl | (simp only [List.length_drop, List.length_take]; rfl)) ?_; (with_reducible refine (spec_NumText.calls k t217 t233 _ A23.out).mono ?_); rintro e w26 ⟨rfl, hb⟩; refine ⟨_, rfl, ?_⟩; have n0_ := Aside0.mk (below_step (by repeat (first | (with_reducible first | exact HB.out | apply below_alloc | apply pw_below_drewN | apply below_drew1) | exact HB.out)) hb); clear HB; have HB := n0_; clear n0_; (try clear hb); (try clear hb2); (try clear hk); (try clear hi)))
          go_meet
          case rel => exact ⟨_, (true), (by first | rfl | (simp; done) | (simp [*]; done)), H', ⟨by first | omega | exact Nat.le_refl _⟩, ⟨by repeat (first | (with_reducible first | exact HB.out | apply below_alloc | apply pw_below_drewN | apply below_drew1) | exact HB.out)⟩⟩
        · rw [if_neg c25] at H
          have c25b0 : (t223 != t225) = false := by simpa using c25
          (try (have c25b1 : decide (t223 = t225) = true := by simpa using c25))
          (try (have c25b2 : (t223 == t225) = true := by simpa using c25))
          clear c25
          replace H := Option.bind_eq_some_iff.mp H
          obtain ⟨t234, A270, H⟩ := H
          replace H : ((spec_Least.f t226 t227).bind fun t235 => (if t234 = t235 then ((impl_Most.f t228 t229).bind fun t236 => ((spec_Most.f t228 t229).bind fun t237 => (if t236 = t237 then ((spec_Up.f k t230 t231).bind fun t238 => (laws_FnDigits.j0 k t217 t219 t220 t221 t222 t223 t226 t227 t230 t231 t232 (t232 != t238))) else (laws_FnDigits.j0 k t217 t219 t220 t221 t222 t223 t226 t227 t230 t231 t232 true)))) else (laws_FnDigits.j0 k t217 t219 t220 t221 t222 t223 t226 t227 t230 t231 t232 true))) = some true := H
          have A27 := Aside0.mk A270
          clear A270
          replace H := Option.bind_eq_some_iff.mp H
          obtain ⟨t235, A280, H⟩ := H
          replace H : (if t234 = t235 then ((impl_Most.f t228 t229).bind fun t236 => ((spec_Most.f t228 t229).bind fun t237 => (if t236 = t237 then ((spec_Up.f k t230 t231).bind fun t238 => (laws_FnDigits.j0 k t217 t219 t220 t221 t222 t223 t226 t227 t230 t231 t232 (t232 != t238))) else (laws_FnDigits.j0 k t217 t219 t220 t221 t222 t223 t226 t227 t230 t231 t232 true)))) else (laws_FnDigits.j0 k t217 t219 t220 t221 t222 t223 t226 t227 t230 t231 t232 true)) = some true := H
          have A28 := Aside0.mk A280
          clear A280
          by_cases c29 : t234 = t235
          · rw [if_pos c29] at H
            have c29b0 : (t234 == t235) = true := beq_iff_eq.mpr c29
            have c29b1 : (t234 != t235) = false := bne_eq_false_iff_eq.mpr c29
            clear c29
            replace H := Option.bind_eq_some_iff.mp H
            obtain ⟨t236, A300, H⟩ := H
            replace H : ((spec_Most.f t228 t229).bind fun t237 => (if t236 = t237 then ((spec_Up.f k t230 t231).bind fun t238 => (laws_FnDigits.j0 k t217 t219 t220 t221 t222 t223 t226 t227 t230 t231 t232 (t232 != t238))) else (laws_FnDigits.j0 k t217 t219 t220 t221 t222 t223 t226 t227 t230 t231 t232 true))) = some true := H
            have A30 := Aside0.mk A300
            clear A300
            replace H := Option.bind_eq_some_iff.mp H
            obtain ⟨t237, A310, H⟩ := H
            replace H : (if t236 = t237 then ((spec_Up.f k t230 t231).bind fun t238 => (laws_FnDigits.j0 k t217 t219 t220 t221 t222 t223 t226 t227 t230 t231 t232 (t232 != t238))) else (laws_FnDigits.j0 k t217 t219 t220 t221 t222 t223 t226 t227 t230 t231 t232 true)) = some true := H
            have A31 := Aside0.mk A310
            clear A310
            by_cases c32 : t236 = t237
            · rw [if_pos c32] at H
              have c32b0 : (t236 == t237) = true := beq_iff_eq.mpr c32
              have c32b1 : (t236 != t237) = false := bne_eq_false_iff_eq.mpr c32
              clear c32
              replace H := Option.bind_eq_some_iff.mp H
              obtain ⟨t238, A330, H⟩ := H
              replace H : (laws_FnDigits.j0 k t217 t219 t220 t221 t222 t223 t226 t227 t230 t231 t232 (t232 != t238)) = some true := H
              have A33 := Aside0.mk A330
              clear A330
              have H' := Aside0.mk H
              clear H
              go_wp2_with (first | ((with_reducible refine gate_callee (f := 10) rfl ?_); refine goesL_ (some 62) rfl rfl Tryd.func10 (by kernel_rfl) rfl #[.int .i64 t217] rfl (by (try simp only [List.map_toArray, List.map_cons, List.map_nil]); first | done | rfl | (simp only [List.length_drop, List.length_take]; rfl)) ?_; (with_reducible refine (spec_NumText.calls k t217 t233 _ A23.out).mono ?_); rintro e w34 ⟨rfl, hb⟩; refine ⟨_, rfl, ?_⟩; have n0_ := Aside0.mk (below_step (by repeat (first | (with_reducible first | exact HB.out | apply below_alloc | apply pw_below_drewN | apply below_drew1) | exact HB.out)) hb); clear HB; have HB := n0_; clear n0_; (try clear hb); (try clear hb2); (try clear hk); (try clear hi)) | (go_at_call 22; (with_reducible refine (impl_Least.calls t226 t227 t234 _ A27.out).mono ?_); rintro e w35 ⟨rfl, hb⟩; have n0_ := Aside0.mk (below_step (by repeat (first | (with_reducible first | exact HB.out | apply below_alloc | apply pw_below_drewN | apply below_drew1) | exact HB.out)) hb); clear HB; have HB := n0_; clear n0_; (try clear hb); (try clear hb2); (try clear hk); (try clear hi)) | (go_at_call 23; (with_reducible refine (spec_Least.calls t226 t227 t235 _ A28.out).mono ?_); rintro e w' ⟨rfl, ⟨nd, rfl⟩⟩) | (go_at_call 24; (with_reducible refine (impl_Most.calls t228 t229 t236 _ A30.out).mono ?_); rintro e w36 ⟨rfl, hb⟩; have n0_ := Aside0.mk (below_step (by repeat (first | (with_reducible first | exact HB.out | apply below_alloc | apply pw_below_drewN | apply below_drew1) | exact HB.out)) hb); clear HB; have HB := n0_; clear n0_; (try clear hb); (try clear hb2); (try clear hk); (try clear hi)) | (go_at_call 25; (with_reducible refine (spec_Most.calls t228 t229 t237 _ A31.out).mono ?_); rintro e w' ⟨rfl, ⟨nd, rfl⟩⟩) | (go_at_call 26; (with_reducible refine (spec_Up.calls k t230 t231 t238 _ A33.out).mono ?_); rintro e w' ⟨rfl, ⟨nd, rfl⟩⟩))
              go_meet
              case rel => exact ⟨_, ((t232 != t238)), (by first | rfl | (simp; done) | (simp [*]; done)), H', ⟨by first | omega | exact Nat.le_refl _⟩, ⟨by repeat (first | (with_reducible first | exact HB.out | apply below_alloc | apply pw_below_drewN | apply below_drew1) | exact HB.out)⟩⟩
            · rw [if_neg c32] at H
              have c32b0 : (t236 == t237) = false := beq_eq_false_iff_ne.mpr c32
              have c32b1 : (t236 != t237) = true := bne_iff_ne.mpr c32
              have H' := Aside0.mk H
              clear H
              go_wp2_with (first | ((with_reducible refine gate_callee (f := 10) rfl ?_); refine goesL_ (some 62) rfl rfl Tryd.func10 (by kernel_rfl) rfl #[.int .i64 t217] rfl (by (try simp only [List.map_toArray, List.map_cons, List.map_nil]); first | done | rfl | (simp only [List.length_drop, List.length_take]; rfl)) ?_; (with_reducible refine (spec_NumText.calls k t217 t233 _ A23.out).mono ?_); rintro e w37 ⟨rfl, hb⟩; refine ⟨_, rfl, ?_⟩; have n0_ := Aside0.mk (below_step (by repeat (first | (with_reducible first | exact HB.out | apply below_alloc | apply pw_below_drewN | apply below_drew1) | exact HB.out)) hb); clear HB; have HB := n0_; clear n0_; (try clear hb); (try clear hb2); (try clear hk); (try clear hi)) | (go_at_call 22; (with_reducible refine (impl_Least.calls t226 t227 t234 _ A27.out).mono ?_); rintro e w38 ⟨rfl, hb⟩; have n0_ := Aside0.mk (below_step (by repeat (first | (with_reducible first | exact HB.out | apply below_alloc | apply pw_below_drewN | apply below_drew1) | exact HB.out)) hb); clear HB; have HB := n0_; clear n0_; (try clear hb); (try clear hb2); (try clear hk); (try clear hi)) | (go_at_call 23; (with_reducible refine (spec_Least.calls t226 t227 t235 _ A28.out).mono ?_); rintro e w' ⟨rfl, ⟨nd, rfl⟩⟩) | (go_at_call 24; (with_reducible refine (impl_Most.calls t228 t229 t236 _ A30.out).mono ?_); rintro e w39 ⟨rfl, hb⟩; have n0_ := Aside0.mk (below_step (by repeat (first | (with_reducible first | exact HB.out | apply below_alloc | apply pw_below_drewN | apply below_drew1) | exact HB.out)) hb); clear HB; have HB := n0_; clear n0_; (try clear hb); (try clear hb2); (try clear hk); (try clear hi)) | (go_at_call 25; (with_reducible refine (spec_Most.calls t228 t229 t237 _ A31.out).mono ?_); rintro e w' ⟨rfl, ⟨nd, rfl⟩⟩))
              go_meet
              case rel => exact ⟨_, (true), (by first | rfl | (simp; done) | (simp [*]; done)), H', ⟨by first | omega | exact Nat.le_refl _⟩, ⟨by repeat (first | (with_reducible first | exact HB.out | apply below_alloc | apply pw_below_drewN | apply below_drew1) | exact HB.out)⟩⟩
          · rw [if_neg c29] at H
            have c29b0 : (t234 == t235) = false := beq_eq_false_iff_ne.mpr c29
            have c29b1 : (t234 != t235) = true := bne_iff_ne.mpr c29
            have H' := Aside0.mk H
            clear H
            go_wp2_with (first | ((with_reducible refine gate_callee (f := 10) rfl ?_); refine goesL_ (some 62) rfl rfl Tryd.func10 (by kernel_rfl) rfl #[.int .i64 t217] rfl (by (try simp only [List.map_toArray, List.map_cons, List.map_nil]); first | done | rfl | (simp only [List.length_drop, List.length_take]; rfl)) ?_; (with_reducible refine (spec_NumText.calls k t217 t233 _ A23.out).mono ?_); rintro e w40 ⟨rfl, hb⟩; refine ⟨_, rfl, ?_⟩; have n0_ := Aside0.mk (below_step (by repeat (first | (with_reducible first | exact HB.out | apply below_alloc | apply pw_below_drewN | apply below_drew1) | exact HB.out)) hb); clear HB; have HB := n0_; clear n0_; (try clear hb); (try clear hb2); (try clear hk); (try clear hi)) | (go_at_call 22; (with_reducible refine (impl_Least.calls t226 t227 t234 _ A27.out).mono ?_); rintro e w41 ⟨rfl, hb⟩; have n0_ := Aside0.mk (below_step (by repeat (first | (with_reducible first | exact HB.out | apply below_alloc | apply pw_below_drewN | apply below_drew1) | exact HB.out)) hb); clear HB; have HB := n0_; clear n0_; (try clear hb); (try clear hb2); (try clear hk); (try clear hi)) | (go_at_call 23; (with_reducible refine (spec_Least.calls t226 t227 t235 _ A28.out).mono ?_); rintro e w' ⟨rfl, ⟨nd, rfl⟩⟩))
            go_meet
            case rel => exact ⟨_, (true), (by first | rfl | (simp; done) | (simp [*]; done)), H', ⟨by first | omega | exact Nat.le_refl _⟩, ⟨by repeat (first | (with_reducible first | exact HB.out | apply below_alloc | apply pw_below_drewN | apply below_drew1) | exact HB.out)⟩⟩
      · rw [if_neg c24] at H
        have c24b0 : (t218.toList == t233.toList) = false := beq_eq_false_iff_ne.mpr c24
        have c24b1 : (t218.toList != t233.toList) = true := bne_iff_ne.mpr c24
        (first | rw [c24b0] | (simp only [i64_w, i32_w]; rw [c24b0]) | skip)
        have H' := Aside0.mk H
        clear H
        go_wp2_with (first | ((with_reducible refine gate_callee (f := 10) rfl ?_); refine goesL_ (some 62) rfl rfl Tryd.func10 (by kernel_rfl) rfl #[.int .i64 t217] rfl (by (try simp only [List.map_toArray, List.map_cons, List.map_nil]); first | done | rfl | (simp only [List.length_drop, List.length_take]; rfl)) ?_; (with_reducible refine (spec_NumText.calls k t217 t233 _ A23.out).mono ?_); rintro e w42 ⟨rfl, hb⟩; refine ⟨_, rfl, ?_⟩; have n0_ := Aside0.mk (below_step (by repeat (first | (with_reducible first | exact HB.out | apply below_alloc | apply pw_below_drewN | apply below_drew1) | exact HB.out)) hb); clear HB; have HB := n0_; clear n0_; (try clear hb); (try clear hb2); (try clear hk); (try clear hi)))
        go_meet
        case rel => exact ⟨_, (true), (by first | rfl | (simp; done) | (simp [*]; done)), H', ⟨by first | omega | exact Nat.le_refl _⟩, ⟨by repeat (first | (with_reducible first | exact HB.out | apply below_alloc | apply pw_below_drewN | apply below_drew1) | exact HB.out)⟩⟩
    case rest =>
      clear HC14
      try clear c1
      try clear c2
      try clear p2
      try clear c3
      try clear c6
      try clear c8
      try clear c9
      try clear c10
      try clear c11
      try clear c15
      try clear c16
      try clear c17
      try clear c18
      try clear c19
      try clear c20
      try clear c21
      try clear c24
      try clear c24b0
      try clear c24b1
      try clear c25
      try clear c25b0
      try clear c25b1
      try clear c25b2
      try clear c29
      try clear c29b0
      try clear c29b1
      try clear c32
      try clear c32b0
      try clear c32b1
      obtain ⟨kq, x93_13, rfl, HA, HJ13, HB⟩ := hcut
      cases kq with
      | zero => exact absurd HA.out (by simp [laws_FnDigits.j0])
      | succ kj13 =>
        have H := HA.out
        clear HA
        simp only [laws_FnDigits.j0] at H
        by_cases c43 : x93_13 = true
        · subst c43
          have H1 : (some false) = some true := by rw [if_pos rfl] at H; exact H
          clear H
          have H := H1
          clear H1
          exact absurd H (by simp)
        · replace c43 := Bool.eq_false_iff.mpr c43
          subst c43
          have H1 : (if t217 ≥ 0 then (if (t220 == (decide (t217 ≤ 99999))) = true then (if t220 = true then (if t219 = t217 then (if t223 = true then ((impl_NumText.f t222).bind fun t239 => (if t239.toList = t221.toList then ((impl_Least.f t226 t227).bind fun t240 => ((impl_Most.f t226 t227).bind fun t241 => (if t240 ≤ t241 then (if t230 < 1 then (some true) else (if t231 < 1 then (some true) else (if t230 > 1073741824 then (some true) else (if (wrap64 (t232 * t231)) ≥ t230 then (some (decide ((wrap64 ((wrap64 (t232 - 1)) * t231)) < t230))) else (some false))))) else (some false)))) else (some false))) else ((impl_Least.f t226 t227).bind fun t242 => ((impl_Most.f t226 t227).bind fun t243 => (if t242 ≤ t243 then (if t230 < 1 then (some true) else (if t231 < 1 then (some true) else (if t230 > 1073741824 then (some true) else (if (wrap64 (t232 * t231)) ≥ t230 then (some (decide ((wrap64 ((wrap64 (t232 - 1)) * t231)) < t230))) else (some false))))) else (some false))))) else (some false)) else (if t223 = true then ((impl_NumText.f t222).bind fun t244 => (if t244.toList = t221.toList then ((impl_Least.f t226 t227).bind fun t245 => ((impl_Most.f t226 t227).bind fun t246 => (if t245 ≤ t246 then (if t230 < 1 then (some true) else (if t231 < 1 then (some true) else (if t230 > 1073741824 then (some true) else (if (wrap64 (t232 * t231)) ≥ t230 then (some (decide ((wrap64 ((wrap64 (t232 - 1)) * t231)) < t230))) else (some false))))) else (some false)))) else (some false))) else ((impl_Least.f t226 t227).bind fun t247 => ((impl_Most.f t226 t227).bind fun t248 => (if t247 ≤ t248 then (if t230 < 1 then (some true) else (if t231 < 1 then (some true) else (if t230 > 1073741824 then (some true) else (if (wrap64 (t232 * t231)) ≥ t230 then (some (decide ((wrap64 ((wrap64 (t232 - 1)) * t231)) < t230))) else (some false))))) else (some false)))))) else (some false)) else (if (t220 == false) = true then (if t220 = true then (if t219 = t217 then (if t223 = true then ((impl_NumText.f t222).bind fun t249 => (if t249.toList = t221.toList then ((impl_Least.f t226 t227).bind fun t250 => ((impl_Most.f t226 t227).bind fun t251 => (if t250 ≤ t251 then (if t230 < 1 then (some true) else (if t231 < 1 then (some true) else (if t230 > 1073741824 then (some true) else (if (wrap64 (t232 * t231)) ≥ t230 then (some (decide ((wrap64 ((wrap64 (t232 - 1)) * t231)) < t230))) else (some false))))) else (some false)))) else (some false))) else ((impl_Least.f t226 t227).bind fun t252 => ((impl_Most.f t226 t227).bind fun t253 => (if t252 ≤ t253 then (if t230 < 1 then (some true) else (if t231 < 1 then (some true) else (if t230 > 1073741824 then (some true) else (if (wrap64 (t232 * t231)) ≥ t230 then (some (decide ((wrap64 ((wrap64 (t232 - 1)) * t231)) < t230))) else (some false))))) else (some false))))) else (some false)) else (if t223 = true then ((impl_NumText.f t222).bind fun t254 => (if t254.toList = t221.toList then ((impl_Least.f t226 t227).bind fun t255 => ((impl_Most.f t226 t227).bind fun t256 => (if t255 ≤ t256 then (if t230 < 1 then (some true) else (if t231 < 1 then (some true) else (if t230 > 1073741824 then (some true) else (if (wrap64 (t232 * t231)) ≥ t230 then (some (decide ((wrap64 ((wrap64 (t232 - 1)) * t231)) < t230))) else (some false))))) else (some false)))) else (some false))) else ((impl_Least.f t226 t227).bind fun t257 => ((impl_Most.f t226 t227).bind fun t258 => (if t257 ≤ t258 then (if t230 < 1 then (some true) else (if t231 < 1 then (some true) else (if t230 > 1073741824 then (some true) else (if (wrap64 (t232 * t231)) ≥ t230 then (some (decide ((wrap64 ((wrap64 (t232 - 1)) * t231)) < t230))) else (some false))))) else (some false)))))) else (some false))) = some true := by rw [if_neg (show ¬ (false = true) by decide)] at H; exact H
          clear H
          have H := H1
          clear H1
          by_cases c44 : t217 ≥ 0
          · rw [if_pos c44] at H
            have c44b0 : decide (0 ≤ t217) = true := decide_eq_true c44
            clear c44
            by_cases c45 : (t220 == (decide (t217 ≤ 99999))) = true
            · rw [if_pos c45] at H
              have c45b0 : (t220 == (decide (t217 ≤ 99999))) = true := c45
              (try (have c45b1 : decide (t220 = (decide (t217 ≤ 99999))) = true := by simpa using c45))
              (try (have c45b2 : (t220 == (decide (t217 ≤ 99999))) = true := by simpa using c45))
              clear c45
              by_cases c46 : t220 = true
              · subst c46
                have H1 : (if t219 = t217 then (if t223 = true then ((impl_NumText.f t222).bind fun t239 => (if t239.toList = t221.toList then ((impl_Least.f t226 t227).bind fun t240 => ((impl_Most.f t226 t227).bind fun t241 => (if t240 ≤ t241 then (if t230 < 1 then (some true) else (if t231 < 1 then (some true) else (if t230 > 1073741824 then (some true) else (if (wrap64 (t232 * t231)) ≥ t230 then (some (decide ((wrap64 ((wrap64 (t232 - 1)) * t231)) < t230))) else (some false))))) else (some false)))) else (some false))) else ((impl_Least.f t226 t227).bind fun t242 => ((impl_Most.f t226 t227).bind fun t243 => (if t242 ≤ t243 then (if t230 < 1 then (some true) else (if t231 < 1 then (some true) else (if t230 > 1073741824 then (some true) else (if (wrap64 (t232 * t231)) ≥ t230 then (some (decide ((wrap64 ((wrap64 (t232 - 1)) * t231)) < t230))) else (some false))))) else (some false))))) else (some false)) = some true := by rw [if_pos rfl] at H; exact H
                clear H
                have H := H1
                clear H1
                by_cases c47 : t219 = t217
                · rw [if_pos c47] at H
                  have c47b0 : (t219 == t217) = true := beq_iff_eq.mpr c47
                  have c47b1 : (t219 != t217) = false := bne_eq_false_iff_eq.mpr c47
                  clear c47
                  by_cases c48 : t223 = true
                  · subst c48
                    have H1 : ((impl_NumText.f t222).bind fun t239 => (if t239.toList = t221.toList then ((impl_Least.f t226 t227).bind fun t240 => ((impl_Most.f t226 t227).bind fun t241 => (if t240 ≤ t241 then (if t230 < 1 then (some true) else (if t231 < 1 then (some true) else (if t230 > 1073741824 then (some true) else (if (wrap64 (t232 * t231)) ≥ t230 then (some (decide ((wrap64 ((wrap64 (t232 - 1)) * t231)) < t230))) else (some false))))) else (some false)))) else (some false))) = some true := by rw [if_pos rfl] at H; exact H
                    clear H
                    have H := H1
                    clear H1
                    replace H := Option.bind_eq_some_iff.mp H
                    obtain ⟨t239, A490, H⟩ := H
                    replace H : (if t239.toList = t221.toList then ((impl_Least.f t226 t227).bind fun t240 => ((impl_Most.f t226 t227).bind fun t241 => (if t240 ≤ t241 then (if t230 < 1 then (some true) else (if t231 < 1 then (some true) else (if t230 > 1073741824 then (some true) else (if (wrap64 (t232 * t231)) ≥ t230 then (some (decide ((wrap64 ((wrap64 (t232 - 1)) * t231)) < t230))) else (some false))))) else (some false)))) else (some false)) = some true := H
                    have A49 := Aside0.mk A490
                    clear A490
                    by_cases c50 : t239.toList = t221.toList
                    · rw [if_pos c50] at H
                      have c50b0 : (t239.toList == t221.toList) = true := beq_iff_eq.mpr c50
                      have c50b1 : (t239.toList != t221.toList) = false := bne_eq_false_iff_eq.mpr c50
                      clear c50
                      replace H := Option.bind_eq_some_iff.mp H
                      obtain ⟨t240, A510, H⟩ := H
                      replace H : ((impl_Most.f t226 t227).bind fun t241 => (if t240 ≤ t241 then (if t230 < 1 then (some true) else (if t231 < 1 then (some true) else (if t230 > 1073741824 then (some true) else (if (wrap64 (t232 * t231)) ≥ t230 then (some (decide ((wrap64 ((wrap64 (t232 - 1)) * t231)) < t230))) else (some false))))) else (some false))) = some true := H
                      have A51 := Aside0.mk A510
                      clear A510
                      replace H := Option.bind_eq_some_iff.mp H
                      obtain ⟨t241, A520, H⟩ := H
                      replace H : (if t240 ≤ t241 then (if t230 < 1 then (some true) else (if t231 < 1 then (some true) else (if t230 > 1073741824 then (some true) else (if (wrap64 (t232 * t231)) ≥ t230 then (some (decide ((wrap64 ((wrap64 (t232 - 1)) * t231)) < t230))) else (some false))))) else (some false)) = some true := H
                      have A52 := Aside0.mk A520
                      clear A520
                      by_cases c53 : t240 ≤ t241
                      · rw [if_pos c53] at H
                        have c53b0 : decide (t240 ≤ t241) = true := decide_eq_true c53
                        clear c53
                        by_cases c54 : t230 < 1
                        · rw [if_pos c54] at H
                          have c54b0 : decide (t230 < 1) = true := decide_eq_true c54
                          clear c54
                          clear H
                          go_wp2_with (first | (go_at_call 11; (with_reducible refine (impl_NumText.calls (hT_ := (Go.Proofs.YtfgmngfhchfaaaaDoor.AidP.tabE_below HTAB_.out (by repeat (first | (with_reducible first | exact HB.out | apply below_alloc | apply pw_below_drewN | apply below_drew1) | exact HB.out))).1) t222 t239 _ A49.out).mono ?_); rintro e w55 ⟨rfl, hb⟩; have n0_ := Aside0.mk (below_step (by repeat (first | (with_reducible first | exact HB.out | apply below_alloc | apply pw_below_drewN | apply below_drew1) | exact HB.out)) hb); clear HB; have HB := n0_; clear n0_; (try clear hb); (try clear hb2); (try clear hk); (try clear hi)) | (go_at_call 22; (with_reducible refine (impl_Least.calls t226 t227 t240 _ A51.out).mono ?_); rintro e w56 ⟨rfl, hb⟩; have n0_ := Aside0.mk (below_step (by repeat (first | (with_reducible first | exact HB.out | apply below_alloc | apply pw_below_drewN | apply below_drew1) | exact HB.out)) hb); clear HB; have HB := n0_; clear n0_; (try clear hb); (try clear hb2); (try clear hk); (try clear hi)) | (go_at_call 24; (with_reducible refine (impl_Most.calls t226 t227 t241 _ A52.out).mono ?_); rintro e w57 ⟨rfl, hb⟩; have n0_ := Aside0.mk (below_step (by repeat (first | (with_reducible first | exact HB.out | apply below_alloc | apply pw_below_drewN | apply below_drew1) | exact HB.out)) hb); clear HB; have HB := n0_; clear n0_; (try clear hb); (try clear hb2); (try clear hk); (try clear hi)))
                          go_ret
                          exact ⟨by first | rfl | (rw [hrv_.out]; done) | (rw [hrv_.out]; rfl) | (have hrv1_ := hrv_.out; simp [hrv1_]; done) | (simp [errW_none, errW_some] <;> rfl) | (simp [*, errW_none, errW_some] <;> rfl), by repeat (first | (with_reducible first | exact HB.out | apply below_alloc | apply pw_below_drewN | apply below_drew1) | exact HB.out)⟩
                        · rw [if_neg c54] at H
                          have c54b0 : decide (t230 < 1) = false := decide_eq_false c54
                          clear c54
                          by_cases c58 : t231 < 1
                          · rw [if_pos c58] at H
                            have c58b0 : decide (t231 < 1) = true := decide_eq_true c58
                            clear c58
                            clear H
                            go_wp2_with (first | (go_at_call 11; (with_reducible refine (impl_NumText.calls (hT_ := (Go.Proofs.YtfgmngfhchfaaaaDoor.AidP.tabE_below HTAB_.out (by repeat (first | (with_reducible first | exact HB.out | apply below_alloc | apply pw_below_drewN | apply below_drew1) | exact HB.out))).1) t222 t239 _ A49.out).mono ?_); rintro e w59 ⟨rfl, hb⟩; have n0_ := Aside0.mk (below_step (by repeat (first | (with_reducible first | exact HB.out | apply below_alloc | apply pw_below_drewN | apply below_drew1) | exact HB.out)) hb); clear HB; have HB := n0_; clear n0_; (try clear hb); (try clear hb2); (try clear hk); (try clear hi)) | (go_at_call 22; (with_reducible refine (impl_Least.calls t226 t227 t240 _ A51.out).mono ?_); rintro e w60 ⟨rfl, hb⟩; have n0_ := Aside0.mk (below_step (by repeat (first | (with_reducible first | exact HB.out | apply below_alloc | apply pw_below_drewN | apply below_drew1) | exact HB.out)) hb); clear HB; have HB := n0_; clear n0_; (try clear hb); (try clear hb2); (try clear hk); (try clear hi)) | (go_at_call 24; (with_reducible refine (impl_Most.calls t226 t227 t241 _ A52.out).mono ?_); rintro e w61 ⟨rfl, hb⟩; have n0_ := Aside0.mk (below_step (by repeat (first | (with_reducible first | exact HB.out | apply below_alloc | apply pw_below_drewN | apply below_drew1) | exact HB.out)) hb); clear HB; have HB := n0_; clear n0_; (try clear hb); (try clear hb2); (try clear hk); (try clear hi)))
                            go_ret
                            exact ⟨by first | rfl | (rw [hrv_.out]; done) | (rw [hrv_.out]; rfl) | (have hrv1_ := hrv_.out; simp [hrv1_]; done) | (simp [errW_none, errW_some] <;> rfl) | (simp [*, errW_none, errW_some] <;> rfl), by repeat (first | (with_reducible first | exact HB.out | apply below_alloc | apply pw_below_drewN | apply below_drew1) | exact HB.out)⟩
                          · rw [if_neg c58] at H
                            have c58b0 : decide (t231 < 1) = false := decide_eq_false c58
                            clear c58
                            by_cases c62 : t230 > 1073741824
                            · rw [if_pos c62] at H
                              have c62b0 : decide (1073741824 < t230) = true := decide_eq_true c62
                              clear c62
                              clear H
                              go_wp2_with (first | (go_at_call 11; (with_reducible refine (impl_NumText.calls (hT_ := (Go.Proofs.YtfgmngfhchfaaaaDoor.AidP.tabE_below HTAB_.out (by repeat (first | (with_reducible first | exact HB.out | apply below_alloc | apply pw_below_drewN | apply below_drew1) | exact HB.out))).1) t222 t239 _ A49.out).mono ?_); rintro e w63 ⟨rfl, hb⟩; have n0_ := Aside0.mk (below_step (by repeat (first | (with_reducible first | exact HB.out | apply below_alloc | apply pw_below_drewN | apply below_drew1) | exact HB.out)) hb); clear HB; have HB := n0_; clear n0_; (try clear hb); (try clear hb2); (try clear hk); (try clear hi)) | (go_at_call 22; (with_reducible refine (impl_Least.calls t226 t227 t240 _ A51.out).mono ?_); rintro e w64 ⟨rfl, hb⟩; have n0_ := Aside0.mk (below_step (by repeat (first | (with_reducible first | exact HB.out | apply below_alloc | apply pw_below_drewN | apply below_drew1) | exact HB.out)) hb); clear HB; have HB := n0_; clear n0_; (try clear hb); (try clear hb2); (try clear hk); (try clear hi)) | (go_at_call 24; (with_reducible refine (impl_Most.calls t226 t227 t241 _ A52.out).mono ?_); rintro e w65 ⟨rfl, hb⟩; have n0_ := Aside0.mk (below_step (by repeat (first | (with_reducible first | exact HB.out | apply below_alloc | apply pw_below_drewN | apply below_drew1) | exact HB.out)) hb); clear HB; have HB := n0_; clear n0_; (try clear hb); (try clear hb2); (try clear hk); (try clear hi)))
                              go_ret
                              exact ⟨by first | rfl | (rw [hrv_.out]; done) | (rw [hrv_.out]; rfl) | (have hrv1_ := hrv_.out; simp [hrv1_]; done) | (simp [errW_none, errW_some] <;> rfl) | (simp [*, errW_none, errW_some] <;> rfl), by repeat (first | (with_reducible first | exact HB.out | apply below_alloc | apply pw_below_drewN | apply below_drew1) | exact HB.out)⟩
                            · rw [if_neg c62] at H
                              have c62b0 : decide (1073741824 < t230) = false := decide_eq_false c62
                              clear c62
                              by_cases c66 : (wrap64 (t232 * t231)) ≥ t230
                              · rw [if_pos c66] at H
                                have c66b0 : decide (t230 ≤ (wrap64 (t232 * t231))) = true := decide_eq_true c66
                                clear c66
                                have hrv_ := Aside0.mk (show (decide ((wrap64 ((wrap64 (t232 - 1)) * t231)) < t230)) = true from Option.some.inj H)
                                clear H
                                go_wp2_with (first | (go_at_call 11; (with_reducible refine (impl_NumText.calls (hT_ := (Go.Proofs.YtfgmngfhchfaaaaDoor.AidP.tabE_below HTAB_.out (by repeat (first | (with_reducible first | exact HB.out | apply below_alloc | apply pw_below_drewN | apply below_drew1) | exact HB.out))).1) t222 t239 _ A49.out).mono ?_); rintro e w67 ⟨rfl, hb⟩; have n0_ := Aside0.mk (below_step (by repeat (first | (with_reducible first | exact HB.out | apply below_alloc | apply pw_below_drewN | apply below_drew1) | exact HB.out)) hb); clear HB; have HB := n0_; clear n0_; (try clear hb); (try clear hb2); (try clear hk); (try clear hi)) | (go_at_call 22; (with_reducible refine (impl_Least.calls t226 t227 t240 _ A51.out).mono ?_); rintro e w68 ⟨rfl, hb⟩; have n0_ := Aside0.mk (below_step (by repeat (first | (with_reducible first | exact HB.out | apply below_alloc | apply pw_below_drewN | apply below_drew1) | exact HB.out)) hb); clear HB; have HB := n0_; clear n0_; (try clear hb); (try clear hb2); (try clear hk); (try clear hi)) | (go_at_call 24; (with_reducible refine (impl_Most.calls t226 t227 t241 _ A52.out).mono ?_); rintro e w69 ⟨rfl, hb⟩; have n0_ := Aside0.mk (below_step (by repeat (first | (with_reducible first | exact HB.out | apply below_alloc | apply pw_below_drewN | apply below_drew1) | exact HB.out)) hb); clear HB; have HB := n0_; clear n0_; (try clear hb); (try clear hb2); (try clear hk); (try clear hi)))
                                go_ret
                                exact ⟨by first | rfl | (rw [hrv_.out]; done) | (rw [hrv_.out]; rfl) | (have hrv1_ := hrv_.out; simp [hrv1_]; done) | (simp [errW_none, errW_some] <;> rfl) | (simp [*, errW_none, errW_some] <;> rfl), by repeat (first | (with_reducible first | exact HB.out | apply below_alloc | apply pw_below_drewN | apply below_drew1) | exact HB.out)⟩
                              · rw [if_neg c66] at H
                                have c66b0 : decide (t230 ≤ (wrap64 (t232 * t231))) = false := decide_eq_false c66
                                clear c66
                                exact absurd H (by simp)
                      · rw [if_neg c53] at H
                        have c53b0 : decide (t240 ≤ t241) = false := decide_eq_false c53
                        clear c53
                        exact absurd H (by simp)
                    · rw [if_neg c50] at H
                      have c50b0 : (t239.toList == t221.toList) = false := beq_eq_false_iff_ne.mpr c50
                      have c50b1 : (t239.toList != t221.toList) = true := bne_iff_ne.mpr c50
                      exact absurd H (by simp)
                  · replace c48 := Bool.eq_false_iff.mpr c48
                    subst c48
                    have H1 : ((impl_Least.f t226 t227).bind fun t242 => ((impl_Most.f t226 t227).bind fun t243 => (if t242 ≤ t243 then (if t230 < 1 then (some true) else (if t231 < 1 then (some true) else (if t230 > 1073741824 then (some true) else (if (wrap64 (t232 * t231)) ≥ t230 then (some (decide ((wrap64 ((wrap64 (t232 - 1)) * t231)) < t230))) else (some false))))) else (some false)))) = some true := by rw [if_neg (show ¬ (false = true) by decide)] at H; exact H
                    clear H
                    have H := H1
                    clear H1
                    replace H := Option.bind_eq_some_iff.mp H
                    obtain ⟨t242, A700, H⟩ := H
                    replace H : ((impl_Most.f t226 t227).bind fun t243 => (if t242 ≤ t243 then (if t230 < 1 then (some true) else (if t231 < 1 then (some true) else (if t230 > 1073741824 then (some true) else (if (wrap64 (t232 * t231)) ≥ t230 then (some (decide ((wrap64 ((wrap64 (t232 - 1)) * t231)) < t230))) else (some false))))) else (some false))) = some true := H
                    have A70 := Aside0.mk A700
                    clear A700
                    replace H := Option.bind_eq_some_iff.mp H
                    obtain ⟨t243, A710, H⟩ := H
                    replace H : (if t242 ≤ t243 then (if t230 < 1 then (some true) else (if t231 < 1 then (some true) else (if t230 > 1073741824 then (some true) else (if (wrap64 (t232 * t231)) ≥ t230 then (some (decide ((wrap64 ((wrap64 (t232 - 1)) * t231)) < t230))) else (some false))))) else (some false)) = some true := H
                    have A71 := Aside0.mk A710
                    clear A710
                    by_cases c72 : t242 ≤ t243
                    · rw [if_pos c72] at H
                      have c72b0 : decide (t242 ≤ t243) = true := decide_eq_true c72
                      clear c72
                      by_cases c73 : t230 < 1
                      · rw [if_pos c73] at H
                        have c73b0 : decide (t230 < 1) = true := decide_eq_true c73
                        clear c73
                        clear H
                        go_wp2_with (first | (go_at_call 22; (with_reducible refine (impl_Least.calls t226 t227 t242 _ A70.out).mono ?_); rintro e w74 ⟨rfl, hb⟩; have n0_ := Aside0.mk (below_step (by repeat (first | (with_reducible first | exact HB.out | apply below_alloc | apply pw_below_drewN | apply below_drew1) | exact HB.out)) hb); clear HB; have HB := n0_; clear n0_; (try clear hb); (try clear hb2); (try clear hk); (try clear hi)) | (go_at_call 24; (with_reducible refine (impl_Most.calls t226 t227 t243 _ A71.out).mono ?_); rintro e w75 ⟨rfl, hb⟩; have n0_ := Aside0.mk (below_step (by repeat (first | (with_reducible first | exact HB.out | apply below_alloc | apply pw_below_drewN | apply below_drew1) | exact HB.out)) hb); clear HB; have HB := n0_; clear n0_; (try clear hb); (try clear hb2); (try clear hk); (try clear hi)))
                        go_ret
                        exact ⟨by first | rfl | (rw [hrv_.out]; done) | (rw [hrv_.out]; rfl) | (have hrv1_ := hrv_.out; simp [hrv1_]; done) | (simp [errW_none, errW_some] <;> rfl) | (simp [*, errW_none, errW_some] <;> rfl), by repeat (first | (with_reducible first | exact HB.out | apply below_alloc | apply pw_below_drewN | apply below_drew1) | exact HB.out)⟩
                      · rw [if_neg c73] at H
                        have c73b0 : decide (t230 < 1) = false := decide_eq_false c73
                        clear c73
                        by_cases c76 : t231 < 1
                        · rw [if_pos c76] at H
                          have c76b0 : decide (t231 < 1) = true := decide_eq_true c76
                          clear c76
                          clear H
                          go_wp2_with (first | (go_at_call 22; (with_reducible refine (impl_Least.calls t226 t227 t242 _ A70.out).mono ?_); rintro e w77 ⟨rfl, hb⟩; have n0_ := Aside0.mk (below_step (by repeat (first | (with_reducible first | exact HB.out | apply below_alloc | apply pw_below_drewN | apply below_drew1) | exact HB.out)) hb); clear HB; have HB := n0_; clear n0_; (try clear hb); (try clear hb2); (try clear hk); (try clear hi)) | (go_at_call 24; (with_reducible refine (impl_Most.calls t226 t227 t243 _ A71.out).mono ?_); rintro e w78 ⟨rfl, hb⟩; have n0_ := Aside0.mk (below_step (by repeat (first | (with_reducible first | exact HB.out | apply below_alloc | apply pw_below_drewN | apply below_drew1) | exact HB.out)) hb); clear HB; have HB := n0_; clear n0_; (try clear hb); (try clear hb2); (try clear hk); (try clear hi)))
                          go_ret
                          exact ⟨by first | rfl | (rw [hrv_.out]; done) | (rw [hrv_.out]; rfl) | (have hrv1_ := hrv_.out; simp [hrv1_]; done) | (simp [errW_none, errW_some] <;> rfl) | (simp [*, errW_none, errW_some] <;> rfl), by repeat (first | (with_reducible first | exact HB.out | apply below_alloc | apply pw_below_drewN | apply below_drew1) | exact HB.out)⟩
                        · rw [if_neg c76] at H
                          have c76b0 : decide (t231 < 1) = false := decide_eq_false c76
                          clear c76
                          by_cases c79 : t230 > 1073741824
                          · rw [if_pos c79] at H
                            have c79b0 : decide (1073741824 < t230) = true := decide_eq_true c79
                            clear c79
                            clear H
                            go_wp2_with (first | (go_at_call 22; (with_reducible refine (impl_Least.calls t226 t227 t242 _ A70.out).mono ?_); rintro e w80 ⟨rfl, hb⟩; have n0_ := Aside0.mk (below_step (by repeat (first | (with_reducible first | exact HB.out | apply below_alloc | apply pw_below_drewN | apply below_drew1) | exact HB.out)) hb); clear HB; have HB := n0_; clear n0_; (try clear hb); (try clear hb2); (try clear hk); (try clear hi)) | (go_at_call 24; (with_reducible refine (impl_Most.calls t226 t227 t243 _ A71.out).mono ?_); rintro e w81 ⟨rfl, hb⟩; have n0_ := Aside0.mk (below_step (by repeat (first | (with_reducible first | exact HB.out | apply below_alloc | apply pw_below_drewN | apply below_drew1) | exact HB.out)) hb); clear HB; have HB := n0_; clear n0_; (try clear hb); (try clear hb2); (try clear hk); (try clear hi)))
                            go_ret
                            exact ⟨by first | rfl | (rw [hrv_.out]; done) | (rw [hrv_.out]; rfl) | (have hrv1_ := hrv_.out; simp [hrv1_]; done) | (simp [errW_none, errW_some] <;> rfl) | (simp [*, errW_none, errW_some] <;> rfl), by repeat (first | (with_reducible first | exact HB.out | apply below_alloc | apply pw_below_drewN | apply below_drew1) | exact HB.out)⟩
                          · rw [if_neg c79] at H
                            have c79b0 : decide (1073741824 < t230) = false := decide_eq_false c79
                            clear c79
                            by_cases c82 : (wrap64 (t232 * t231)) ≥ t230
                            · rw [if_pos c82] at H
                              have c82b0 : decide (t230 ≤ (wrap64 (t232 * t231))) = true := decide_eq_true c82
                              clear c82
                              have hrv_ := Aside0.mk (show (decide ((wrap64 ((wrap64 (t232 - 1)) * t231)) < t230)) = true from Option.some.inj H)
                              clear H
                              go_wp2_with (first | (go_at_call 22; (with_reducible refine (impl_Least.calls t226 t227 t242 _ A70.out).mono ?_); rintro e w83 ⟨rfl, hb⟩; have n0_ := Aside0.mk (below_step (by repeat (first | (with_reducible first | exact HB.out | apply below_alloc | apply pw_below_drewN | apply below_drew1) | exact HB.out)) hb); clear HB; have HB := n0_; clear n0_; (try clear hb); (try clear hb2); (try clear hk); (try clear hi)) | (go_at_call 24; (with_reducible refine (impl_Most.calls t226 t227 t243 _ A71.out).mono ?_); rintro e w84 ⟨rfl, hb⟩; have n0_ := Aside0.mk (below_step (by repeat (first | (with_reducible first | exact HB.out | apply below_alloc | apply pw_below_drewN | apply below_drew1) | exact HB.out)) hb); clear HB; have HB := n0_; clear n0_; (try clear hb); (try clear hb2); (try clear hk); (try clear hi)))
                              go_ret
                              exact ⟨by first | rfl | (rw [hrv_.out]; done) | (rw [hrv_.out]; rfl) | (have hrv1_ := hrv_.out; simp [hrv1_]; done) | (simp [errW_none, errW_some] <;> rfl) | (simp [*, errW_none, errW_some] <;> rfl), by repeat (first | (with_reducible first | exact HB.out | apply below_alloc | apply pw_below_drewN | apply below_drew1) | exact HB.out)⟩
                            · rw [if_neg c82] at H
                              have c82b0 : decide (t230 ≤ (wrap64 (t232 * t231))) = false := decide_eq_false c82
                              clear c82
                              exact absurd H (by simp)
                    · rw [if_neg c72] at H
                      have c72b0 : decide (t242 ≤ t243) = false := decide_eq_false c72
                      clear c72
                      exact absurd H (by simp)
                · rw [if_neg c47] at H
                  have c47b0 : (t219 == t217) = false := beq_eq_false_iff_ne.mpr c47
                  have c47b1 : (t219 != t217) = true := bne_iff_ne.mpr c47
                  exact absurd H (by simp)
              · replace c46 := Bool.eq_false_iff.mpr c46
                subst c46
                have H1 : (if t223 = true then ((impl_NumText.f t222).bind fun t244 => (if t244.toList = t221.toList then ((impl_Least.f t226 t227).bind fun t245 => ((impl_Most.f t226 t227).bind fun t246 => (if t245 ≤ t246 then (if t230 < 1 then (some true) else (if t231 < 1 then (some true) else (if t230 > 1073741824 then (some true) else (if (wrap64 (t232 * t231)) ≥ t230 then (some (decide ((wrap64 ((wrap64 (t232 - 1)) * t231)) < t230))) else (some false))))) else (some false)))) else (some false))) else ((impl_Least.f t226 t227).bind fun t247 => ((impl_Most.f t226 t227).bind fun t248 => (if t247 ≤ t248 then (if t230 < 1 then (some true) else (if t231 < 1 then (some true) else (if t230 > 1073741824 then (some true) else (if (wrap64 (t232 * t231)) ≥ t230 then (some (decide ((wrap64 ((wrap64 (t232 - 1)) * t231)) < t230))) else (some false))))) else (some false))))) = some true := by rw [if_neg (show ¬ (false = true) by decide)] at H; exact H
                clear H
                have H := H1
                clear H1
                by_cases c85 : t223 = true
                · subst c85
                  have H1 : ((impl_NumText.f t222).bind fun t244 => (if t244.toList = t221.toList then ((impl_Least.f t226 t227).bind fun t245 => ((impl_Most.f t226 t227).bind fun t246 => (if t245 ≤ t246 then (if t230 < 1 then (some true) else (if t231 < 1 then (some true) else (if t230 > 1073741824 then (some true) else (if (wrap64 (t232 * t231)) ≥ t230 then (some (decide ((wrap64 ((wrap64 (t232 - 1)) * t231)) < t230))) else (some false))))) else (some false)))) else (some false))) = some true := by rw [if_pos rfl] at H; exact H
                  clear H
                  have H := H1
                  clear H1
                  replace H := Option.bind_eq_some_iff.mp H
                  obtain ⟨t244, A860, H⟩ := H
                  replace H : (if t244.toList = t221.toList then ((impl_Least.f t226 t227).bind fun t245 => ((impl_Most.f t226 t227).bind fun t246 => (if t245 ≤ t246 then (if t230 < 1 then (some true) else (if t231 < 1 then (some true) else (if t230 > 1073741824 then (some true) else (if (wrap64 (t232 * t231)) ≥ t230 then (some (decide ((wrap64 ((wrap64 (t232 - 1)) * t231)) < t230))) else (some false))))) else (some false)))) else (some false)) = some true := H
                  have A86 := Aside0.mk A860
                  clear A860
                  by_cases c87 : t244.toList = t221.toList
                  · rw [if_pos c87] at H
                    have c87b0 : (t244.toList == t221.toList) = true := beq_iff_eq.mpr c87
                    have c87b1 : (t244.toList != t221.toList) = false := bne_eq_false_iff_eq.mpr c87
                    clear c87
                    replace H := Option.bind_eq_some_iff.mp H
                    obtain ⟨t245, A880, H⟩ := H
                    replace H : ((impl_Most.f t226 t227).bind fun t246 => (if t245 ≤ t246 then (if t230 < 1 then (some true) else (if t231 < 1 then (some true) else (if t230 > 1073741824 then (some true) else (if (wrap64 (t232 * t231)) ≥ t230 then (some (decide ((wrap64 ((wrap64 (t232 - 1)) * t231)) < t230))) else (some false))))) else (some false))) = some true := H
                    have A88 := Aside0.mk A880
                    clear A880
                    replace H := Option.bind_eq_some_iff.mp H
                    obtain ⟨t246, A890, H⟩ := H
                    replace H : (if t245 ≤ t246 then (if t230 < 1 then (some true) else (if t231 < 1 then (some true) else (if t230 > 1073741824 then (some true) else (if (wrap64 (t232 * t231)) ≥ t230 then (some (decide ((wrap64 ((wrap64 (t232 - 1)) * t231)) < t230))) else (some false))))) else (some false)) = some true := H
                    have A89 := Aside0.mk A890
                    clear A890
                    by_cases c90 : t245 ≤ t246
                    · rw [if_pos c90] at H
                      have c90b0 : decide (t245 ≤ t246) = true := decide_eq_true c90
                      clear c90
                      by_cases c91 : t230 < 1
                      · rw [if_pos c91] at H
                        have c91b0 : decide (t230 < 1) = true := decide_eq_true c91
                        clear c91
                        clear H
                        go_wp2_with (first | (go_at_call 11; (with_reducible refine (impl_NumText.calls (hT_ := (Go.Proofs.YtfgmngfhchfaaaaDoor.AidP.tabE_below HTAB_.out (by repeat (first | (with_reducible first | exact HB.out | apply below_alloc | apply pw_below_drewN | apply below_drew1) | exact HB.out))).1) t222 t244 _ A86.out).mono ?_); rintro e w92 ⟨rfl, hb⟩; have n0_ := Aside0.mk (below_step (by repeat (first | (with_reducible first | exact HB.out | apply below_alloc | apply pw_below_drewN | apply below_drew1) | exact HB.out)) hb); clear HB; have HB := n0_; clear n0_; (try clear hb); (try clear hb2); (try clear hk); (try clear hi)) | (go_at_call 22; (with_reducible refine (impl_Least.calls t226 t227 t245 _ A88.out).mono ?_); rintro e w93 ⟨rfl, hb⟩; have n0_ := Aside0.mk (below_step (by repeat (first | (with_reducible first | exact HB.out | apply below_alloc | apply pw_below_drewN | apply below_drew1) | exact HB.out)) hb); clear HB; have HB := n0_; clear n0_; (try clear hb); (try clear hb2); (try clear hk); (try clear hi)) | (go_at_call 24; (with_reducible refine (impl_Most.calls t226 t227 t246 _ A89.out).mono ?_); rintro e w94 ⟨rfl, hb⟩; have n0_ := Aside0.mk (below_step (by repeat (first | (with_reducible first | exact HB.out | apply below_alloc | apply pw_below_drewN | apply below_drew1) | exact HB.out)) hb); clear HB; have HB := n0_; clear n0_; (try clear hb); (try clear hb2); (try clear hk); (try clear hi)))
                        go_ret
                        exact ⟨by first | rfl | (rw [hrv_.out]; done) | (rw [hrv_.out]; rfl) | (have hrv1_ := hrv_.out; simp [hrv1_]; done) | (simp [errW_none, errW_some] <;> rfl) | (simp [*, errW_none, errW_some] <;> rfl), by repeat (first | (with_reducible first | exact HB.out | apply below_alloc | apply pw_below_drewN | apply below_drew1) | exact HB.out)⟩
                      · rw [if_neg c91] at H
                        have c91b0 : decide (t230 < 1) = false := decide_eq_false c91
                        clear c91
                        by_cases c95 : t231 < 1
                        · rw [if_pos c95] at H
                          have c95b0 : decide (t231 < 1) = true := decide_eq_true c95
                          clear c95
                          clear H
                          go_wp2_with (first | (go_at_call 11; (with_reducible refine (impl_NumText.calls (hT_ := (Go.Proofs.YtfgmngfhchfaaaaDoor.AidP.tabE_below HTAB_.out (by repeat (first | (with_reducible first | exact HB.out | apply below_alloc | apply pw_below_drewN | apply below_drew1) | exact HB.out))).1) t222 t244 _ A86.out).mono ?_); rintro e w96 ⟨rfl, hb⟩; have n0_ := Aside0.mk (below_step (by repeat (first | (with_reducible first | exact HB.out | apply below_alloc | apply pw_below_drewN | apply below_drew1) | exact HB.out)) hb); clear HB; have HB := n0_; clear n0_; (try clear hb); (try clear hb2); (try clear hk); (try clear hi)) | (go_at_call 22; (with_reducible refine (impl_Least.calls t226 t227 t245 _ A88.out).mono ?_); rintro e w97 ⟨rfl, hb⟩; have n0_ := Aside0.mk (below_step (by repeat (first | (with_reducible first | exact HB.out | apply below_alloc | apply pw_below_drewN | apply below_drew1) | exact HB.out)) hb); clear HB; have HB := n0_; clear n0_; (try clear hb); (try clear hb2); (try clear hk); (try clear hi)) | (go_at_call 24; (with_reducible refine (impl_Most.calls t226 t227 t246 _ A89.out).mono ?_); rintro e w98 ⟨rfl, hb⟩; have n0_ := Aside0.mk (below_step (by repeat (first | (with_reducible first | exact HB.out | apply below_alloc | apply pw_below_drewN | apply below_drew1) | exact HB.out)) hb); clear HB; have HB := n0_; clear n0_; (try clear hb); (try clear hb2); (try clear hk); (try clear hi)))
                          go_ret
                          exact ⟨by first | rfl | (rw [hrv_.out]; done) | (rw [hrv_.out]; rfl) | (have hrv1_ := hrv_.out; simp [hrv1_]; done) | (simp [errW_none, errW_some] <;> rfl) | (simp [*, errW_none, errW_some] <;> rfl), by repeat (first | (with_reducible first | exact HB.out | apply below_alloc | apply pw_below_drewN | apply below_drew1) | exact HB.out)⟩
                        · rw [if_neg c95] at H
                          have c95b0 : decide (t231 < 1) = false := decide_eq_false c95
                          clear c95
                          by_cases c99 : t230 > 1073741824
                          · rw [if_pos c99] at H
                            have c99b0 : decide (1073741824 < t230) = true := decide_eq_true c99
                            clear c99
                            clear H
                            go_wp2_with (first | (go_at_call 11; (with_reducible refine (impl_NumText.calls (hT_ := (Go.Proofs.YtfgmngfhchfaaaaDoor.AidP.tabE_below HTAB_.out (by repeat (first | (with_reducible first | exact HB.out | apply below_alloc | apply pw_below_drewN | apply below_drew1) | exact HB.out))).1) t222 t244 _ A86.out).mono ?_); rintro e w100 ⟨rfl, hb⟩; have n0_ := Aside0.mk (below_step (by repeat (first | (with_reducible first | exact HB.out | apply below_alloc | apply pw_below_drewN | apply below_drew1) | exact HB.out)) hb); clear HB; have HB := n0_; clear n0_; (try clear hb); (try clear hb2); (try clear hk); (try clear hi)) | (go_at_call 22; (with_reducible refine (impl_Least.calls t226 t227 t245 _ A88.out).mono ?_); rintro e w101 ⟨rfl, hb⟩; have n0_ := Aside0.mk (below_step (by repeat (first | (with_reducible first | exact HB.out | apply below_alloc | apply pw_below_drewN | apply below_drew1) | exact HB.out)) hb); clear HB; have HB := n0_; clear n0_; (try clear hb); (try clear hb2); (try clear hk); (try clear hi)) | (go_at_call 24; (with_reducible refine (impl_Most.calls t226 t227 t246 _ A89.out).mono ?_); rintro e w102 ⟨rfl, hb⟩; have n0_ := Aside0.mk (below_step (by repeat (first | (with_reducible first | exact HB.out | apply below_alloc | apply pw_below_drewN | apply below_drew1) | exact HB.out)) hb); clear HB; have HB := n0_; clear n0_; (try clear hb); (try clear hb2); (try clear hk); (try clear hi)))
                            go_ret
                            exact ⟨by first | rfl | (rw [hrv_.out]; done) | (rw [hrv_.out]; rfl) | (have hrv1_ := hrv_.out; simp [hrv1_]; done) | (simp [errW_none, errW_some] <;> rfl) | (simp [*, errW_none, errW_some] <;> rfl), by repeat (first | (with_reducible first | exact HB.out | apply below_alloc | apply pw_below_drewN | apply below_drew1) | exact HB.out)⟩
                          · rw [if_neg c99] at H
                            have c99b0 : decide (1073741824 < t230) = false := decide_eq_false c99
                            clear c99
                            by_cases c103 : (wrap64 (t232 * t231)) ≥ t230
                            · rw [if_pos c103] at H
                              have c103b0 : decide (t230 ≤ (wrap64 (t232 * t231))) = true := decide_eq_true c103
                              clear c103
                              have hrv_ := Aside0.mk (show (decide ((wrap64 ((wrap64 (t232 - 1)) * t231)) < t230)) = true from Option.some.inj H)
                              clear H
                              go_wp2_with (first | (go_at_call 11; (with_reducible refine (impl_NumText.calls (hT_ := (Go.Proofs.YtfgmngfhchfaaaaDoor.AidP.tabE_below HTAB_.out (by repeat (first | (with_reducible first | exact HB.out | apply below_alloc | apply pw_below_drewN | apply below_drew1) | exact HB.out))).1) t222 t244 _ A86.out).mono ?_); rintro e w104 ⟨rfl, hb⟩; have n0_ := Aside0.mk (below_step (by repeat (first | (with_reducible first | exact HB.out | apply below_alloc | apply pw_below_drewN | apply below_drew1) | exact HB.out)) hb); clear HB; have HB := n0_; clear n0_; (try clear hb); (try clear hb2); (try clear hk); (try clear hi)) | (go_at_call 22; (with_reducible refine (impl_Least.calls t226 t227 t245 _ A88.out).mono ?_); rintro e w105 ⟨rfl, hb⟩; have n0_ := Aside0.mk (below_step (by repeat (first | (with_reducible first | exact HB.out | apply below_alloc | apply pw_below_drewN | apply below_drew1) | exact HB.out)) hb); clear HB; have HB := n0_; clear n0_; (try clear hb); (try clear hb2); (try clear hk); (try clear hi)) | (go_at_call 24; (with_reducible refine (impl_Most.calls t226 t227 t246 _ A89.out).mono ?_); rintro e w106 ⟨rfl, hb⟩; have n0_ := Aside0.mk (below_step (by repeat (first | (with_reducible first | exact HB.out | apply below_alloc | apply pw_below_drewN | apply below_drew1) | exact HB.out)) hb); clear HB; have HB := n0_; clear n0_; (try clear hb); (try clear hb2); (try clear hk); (try clear hi)))
                              go_ret
                              exact ⟨by first | rfl | (rw [hrv_.out]; done) | (rw [hrv_.out]; rfl) | (have hrv1_ := hrv_.out; simp [hrv1_]; done) | (simp [errW_none, errW_some] <;> rfl) | (simp [*, errW_none, errW_some] <;> rfl), by repeat (first | (with_reducible first | exact HB.out | apply below_alloc | apply pw_below_drewN | apply below_drew1) | exact HB.out)⟩
                            · rw [if_neg c103] at H
                              have c103b0 : decide (t230 ≤ (wrap64 (t232 * t231))) = false := decide_eq_false c103
                              clear c103
                              exact absurd H (by simp)
                    · rw [if_neg c90] at H
                      have c90b0 : decide (t245 ≤ t246) = false := decide_eq_false c90
                      clear c90
                      exact absurd H (by simp)
                  · rw [if_neg c87] at H
                    have c87b0 : (t244.toList == t221.toList) = false := beq_eq_false_iff_ne.mpr c87
                    have c87b1 : (t244.toList != t221.toList) = true := bne_iff_ne.mpr c87
                    exact absurd H (by simp)
                · replace c85 := Bool.eq_false_iff.mpr c85
                  subst c85
                  have H1 : ((impl_Least.f t226 t227).bind fun t247 => ((impl_Most.f t226 t227).bind fun t248 => (if t247 ≤ t248 then (if t230 < 1 then (some true) else (if t231 < 1 then (some true) else (if t230 > 1073741824 then (some true) else (if (wrap64 (t232 * t231)) ≥ t230 then (some (decide ((wrap64 ((wrap64 (t232 - 1)) * t231)) < t230))) else (some false))))) else (some false)))) = some true := by rw [if_neg (show ¬ (false = true) by decide)] at H; exact H
                  clear H
                  have H := H1
                  clear H1
                  replace H := Option.bind_eq_some_iff.mp H
                  obtain ⟨t247, A1070, H⟩ := H
                  replace H : ((impl_Most.f t226 t227).bind fun t248 => (if t247 ≤ t248 then (if t230 < 1 then (some true) else (if t231 < 1 then (some true) else (if t230 > 1073741824 then (some true) else (if (wrap64 (t232 * t231)) ≥ t230 then (some (decide ((wrap64 ((wrap64 (t232 - 1)) * t231)) < t230))) else (some false))))) else (some false))) = some true := H
                  have A107 := Aside0.mk A1070
                  clear A1070
                  replace H := Option.bind_eq_some_iff.mp H
                  obtain ⟨t248, A1080, H⟩ := H
                  replace H : (if t247 ≤ t248 then (if t230 < 1 then (some true) else (if t231 < 1 then (some true) else (if t230 > 1073741824 then (some true) else (if (wrap64 (t232 * t231)) ≥ t230 then (some (decide ((wrap64 ((wrap64 (t232 - 1)) * t231)) < t230))) else (some false))))) else (some false)) = some true := H
                  have A108 := Aside0.mk A1080
                  clear A1080
                  by_cases c109 : t247 ≤ t248
                  · rw [if_pos c109] at H
                    have c109b0 : decide (t247 ≤ t248) = true := decide_eq_true c109
                    clear c109
                    by_cases c110 : t230 < 1
                    · rw [if_pos c110] at H
                      have c110b0 : decide (t230 < 1) = true := decide_eq_true c110
                      clear c110
                      clear H
                      go_wp2_with (first | (go_at_call 22; (with_reducible refine (impl_Least.calls t226 t227 t247 _ A107.out).mono ?_); rintro e w111 ⟨rfl, hb⟩; have n0_ := Aside0.mk (below_step (by repeat (first | (with_reducible first | exact HB.out | apply below_alloc | apply pw_below_drewN | apply below_drew1) | exact HB.out)) hb); clear HB; have HB := n0_; clear n0_; (try clear hb); (try clear hb2); (try clear hk); (try clear hi)) | (go_at_call 24; (with_reducible refine (impl_Most.calls t226 t227 t248 _ A108.out).mono ?_); rintro e w112 ⟨rfl, hb⟩; have n0_ := Aside0.mk (below_step (by repeat (first | (with_reducible first | exact HB.out | apply below_alloc | apply pw_below_drewN | apply below_drew1) | exact HB.out)) hb); clear HB; have HB := n0_; clear n0_; (try clear hb); (try clear hb2); (try clear hk); (try clear hi)))
                      go_ret
                      exact ⟨by first | rfl | (rw [hrv_.out]; done) | (rw [hrv_.out]; rfl) | (have hrv1_ := hrv_.out; simp [hrv1_]; done) | (simp [errW_none, errW_some] <;> rfl) | (simp [*, errW_none, errW_some] <;> rfl), by repeat (first | (with_reducible first | exact HB.out | apply below_alloc | apply pw_below_drewN | apply below_drew1) | exact HB.out)⟩
                    · rw [if_neg c110] at H
                      have c110b0 : decide (t230 < 1) = false := decide_eq_false c110
                      clear c110
                      by_cases c113 : t231 < 1
                      · rw [if_pos c113] at H
                        have c113b0 : decide (t231 < 1) = true := decide_eq_true c113
                        clear c113
                        clear H
                        go_wp2_with (first | (go_at_call 22; (with_reducible refine (impl_Least.calls t226 t227 t247 _ A107.out).mono ?_); rintro e w114 ⟨rfl, hb⟩; have n0_ := Aside0.mk (below_step (by repeat (first | (with_reducible first | exact HB.out | apply below_alloc | apply pw_below_drewN | apply below_drew1) | exact HB.out)) hb); clear HB; have HB := n0_; clear n0_; (try clear hb); (try clear hb2); (try clear hk); (try clear hi)) | (go_at_call 24; (with_reducible refine (impl_Most.calls t226 t227 t248 _ A108.out).mono ?_); rintro e w115 ⟨rfl, hb⟩; have n0_ := Aside0.mk (below_step (by repeat (first | (with_reducible first | exact HB.out | apply below_alloc | apply pw_below_drewN | apply below_drew1) | exact HB.out)) hb); clear HB; have HB := n0_; clear n0_; (try clear hb); (try clear hb2); (try clear hk); (try clear hi)))
                        go_ret
                        exact ⟨by first | rfl | (rw [hrv_.out]; done) | (rw [hrv_.out]; rfl) | (have hrv1_ := hrv_.out; simp [hrv1_]; done) | (simp [errW_none, errW_some] <;> rfl) | (simp [*, errW_none, errW_some] <;> rfl), by repeat (first | (with_reducible first | exact HB.out | apply below_alloc | apply pw_below_drewN | apply below_drew1) | exact HB.out)⟩
                      · rw [if_neg c113] at H
                        have c113b0 : decide (t231 < 1) = false := decide_eq_false c113
                        clear c113
                        by_cases c116 : t230 > 1073741824
                        · rw [if_pos c116] at H
                          have c116b0 : decide (1073741824 < t230) = true := decide_eq_true c116
                          clear c116
                          clear H
                          go_wp2_with (first | (go_at_call 22; (with_reducible refine (impl_Least.calls t226 t227 t247 _ A107.out).mono ?_); rintro e w117 ⟨rfl, hb⟩; have n0_ := Aside0.mk (below_step (by repeat (first | (with_reducible first | exact HB.out | apply below_alloc | apply pw_below_drewN | apply below_drew1) | exact HB.out)) hb); clear HB; have HB := n0_; clear n0_; (try clear hb); (try clear hb2); (try clear hk); (try clear hi)) | (go_at_call 24; (with_reducible refine (impl_Most.calls t226 t227 t248 _ A108.out).mono ?_); rintro e w118 ⟨rfl, hb⟩; have n0_ := Aside0.mk (below_step (by repeat (first | (with_reducible first | exact HB.out | apply below_alloc | apply pw_below_drewN | apply below_drew1) | exact HB.out)) hb); clear HB; have HB := n0_; clear n0_; (try clear hb); (try clear hb2); (try clear hk); (try clear hi)))
                          go_ret
                          exact ⟨by first | rfl | (rw [hrv_.out]; done) | (rw [hrv_.out]; rfl) | (have hrv1_ := hrv_.out; simp [hrv1_]; done) | (simp [errW_none, errW_some] <;> rfl) | (simp [*, errW_none, errW_some] <;> rfl), by repeat (first | (with_reducible first | exact HB.out | apply below_alloc | apply pw_below_drewN | apply below_drew1) | exact HB.out)⟩
                        · rw [if_neg c116] at H
                          have c116b0 : decide (1073741824 < t230) = false := decide_eq_false c116
                          clear c116
                          by_cases c119 : (wrap64 (t232 * t231)) ≥ t230
                          · rw [if_pos c119] at H
                            have c119b0 : decide (t230 ≤ (wrap64 (t232 * t231))) = true := decide_eq_true c119
                            clear c119
                            have hrv_ := Aside0.mk (show (decide ((wrap64 ((wrap64 (t232 - 1)) * t231)) < t230)) = true from Option.some.inj H)
                            clear H
                            go_wp2_with (first | (go_at_call 22; (with_reducible refine (impl_Least.calls t226 t227 t247 _ A107.out).mono ?_); rintro e w120 ⟨rfl, hb⟩; have n0_ := Aside0.mk (below_step (by repeat (first | (with_reducible first | exact HB.out | apply below_alloc | apply pw_below_drewN | apply below_drew1) | exact HB.out)) hb); clear HB; have HB := n0_; clear n0_; (try clear hb); (try clear hb2); (try clear hk); (try clear hi)) | (go_at_call 24; (with_reducible refine (impl_Most.calls t226 t227 t248 _ A108.out).mono ?_); rintro e w121 ⟨rfl, hb⟩; have n0_ := Aside0.mk (below_step (by repeat (first | (with_reducible first | exact HB.out | apply below_alloc | apply pw_below_drewN | apply below_drew1) | exact HB.out)) hb); clear HB; have HB := n0_; clear n0_; (try clear hb); (try clear hb2); (try clear hk); (try clear hi)))
                            go_ret
                            exact ⟨by first | rfl | (rw [hrv_.out]; done) | (rw [hrv_.out]; rfl) | (have hrv1_ := hrv_.out; simp [hrv1_]; done) | (simp [errW_none, errW_some] <;> rfl) | (simp [*, errW_none, errW_some] <;> rfl), by repeat (first | (with_reducible first | exact HB.out | apply below_alloc | apply pw_below_drewN | apply below_drew1) | exact HB.out)⟩
                          · rw [if_neg c119] at H
                            have c119b0 : decide (t230 ≤ (wrap64 (t232 * t231))) = false := decide_eq_false c119
                            clear c119
                            exact absurd H (by simp)
                  · rw [if_neg c109] at H
                    have c109b0 : decide (t247 ≤ t248) = false := decide_eq_false c109
                    clear c109
                    exact absurd H (by simp)
            · rw [if_neg c45] at H
              have c45b0 : (t220 == (decide (t217 ≤ 99999))) = false := by simpa using c45
              (try (have c45b1 : decide (t220 = (decide (t217 ≤ 99999))) = false := by simpa using c45))
              (try (have c45b2 : (t220 == (decide (t217 ≤ 99999))) = false := by simpa using c45))
              (try (have c45b3 : ¬ (t220 = (decide (t217 ≤ 99999))) := by simpa using c45))
              clear c45
              exact absurd H (by simp)
          · rw [if_neg c44] at H
            have c44b0 : decide (0 ≤ t217) = false := decide_eq_false c44
            clear c44
            by_cases c122 : (t220 == false) = true
            · rw [if_pos c122] at H
              have c122b0 : (t220 == false) = true := c122
              (try (have c122b1 : decide (t220 = false) = true := by simpa using c122))
              (try (have c122b2 : (t220 == false) = true := by simpa using c122))
              clear c122
              by_cases c123 : t220 = true
              · subst c123
                have H1 : (if t219 = t217 then (if t223 = true then ((impl_NumText.f t222).bind fun t249 => (if t249.toList = t221.toList then ((impl_Least.f t226 t227).bind fun t250 => ((impl_Most.f t226 t227).bind fun t251 => (if t250 ≤ t251 then (if t230 < 1 then (some true) else (if t231 < 1 then (some true) else (if t230 > 1073741824 then (some true) else (if (wrap64 (t232 * t231)) ≥ t230 then (some (decide ((wrap64 ((wrap64 (t232 - 1)) * t231)) < t230))) else (some false))))) else (some false)))) else (some false))) else ((impl_Least.f t226 t227).bind fun t252 => ((impl_Most.f t226 t227).bind fun t253 => (if t252 ≤ t253 then (if t230 < 1 then (some true) else (if t231 < 1 then (some true) else (if t230 > 1073741824 then (some true) else (if (wrap64 (t232 * t231)) ≥ t230 then (some (decide ((wrap64 ((wrap64 (t232 - 1)) * t231)) < t230))) else (some false))))) else (some false))))) else (some false)) = some true := by rw [if_pos rfl] at H; exact H
                clear H
                have H := H1
                clear H1
                by_cases c124 : t219 = t217
                · rw [if_pos c124] at H
                  have c124b0 : (t219 == t217) = true := beq_iff_eq.mpr c124
                  have c124b1 : (t219 != t217) = false := bne_eq_false_iff_eq.mpr c124
                  clear c124
                  by_cases c125 : t223 = true
                  · subst c125
                    have H1 : ((impl_NumText.f t222).bind fun t249 => (if t249.toList = t221.toList then ((impl_Least.f t226 t227).bind fun t250 => ((impl_Most.f t226 t227).bind fun t251 => (if t250 ≤ t251 then (if t230 < 1 then (some true) else (if t231 < 1 then (some true) else (if t230 > 1073741824 then (some true) else (if (wrap64 (t232 * t231)) ≥ t230 then (some (decide ((wrap64 ((wrap64 (t232 - 1)) * t231)) < t230))) else (some false))))) else (some false)))) else (some false))) = some true := by rw [if_pos rfl] at H; exact H
                    clear H
                    have H := H1
                    clear H1
                    replace H := Option.bind_eq_some_iff.mp H
                    obtain ⟨t249, A1260, H⟩ := H
                    replace H : (if t249.toList = t221.toList then ((impl_Least.f t226 t227).bind fun t250 => ((impl_Most.f t226 t227).bind fun t251 => (if t250 ≤ t251 then (if t230 < 1 then (some true) else (if t231 < 1 then (some true) else (if t230 > 1073741824 then (some true) else (if (wrap64 (t232 * t231)) ≥ t230 then (some (decide ((wrap64 ((wrap64 (t232 - 1)) * t231)) < t230))) else (some false))))) else (some false)))) else (some false)) = some true := H
                    have A126 := Aside0.mk A1260
                    clear A1260
                    by_cases c127 : t249.toList = t221.toList
                    · rw [if_pos c127] at H
                      have c127b0 : (t249.toList == t221.toList) = true := beq_iff_eq.mpr c127
                      have c127b1 : (t249.toList != t221.toList) = false := bne_eq_false_iff_eq.mpr c127
                      clear c127
                      replace H := Option.bind_eq_some_iff.mp H
                      obtain ⟨t250, A1280, H⟩ := H
                      replace H : ((impl_Most.f t226 t227).bind fun t251 => (if t250 ≤ t251 then (if t230 < 1 then (some true) else (if t231 < 1 then (some true) else (if t230 > 1073741824 then (some true) else (if (wrap64 (t232 * t231)) ≥ t230 then (some (decide ((wrap64 ((wrap64 (t232 - 1)) * t231)) < t230))) else (some false))))) else (some false))) = some true := H
                      have A128 := Aside0.mk A1280
                      clear A1280
                      replace H := Option.bind_eq_some_iff.mp H
                      obtain ⟨t251, A1290, H⟩ := H
                      replace H : (if t250 ≤ t251 then (if t230 < 1 then (some true) else (if t231 < 1 then (some true) else (if t230 > 1073741824 then (some true) else (if (wrap64 (t232 * t231)) ≥ t230 then (some (decide ((wrap64 ((wrap64 (t232 - 1)) * t231)) < t230))) else (some false))))) else (some false)) = some true := H
                      have A129 := Aside0.mk A1290
                      clear A1290
                      by_cases c130 : t250 ≤ t251
                      · rw [if_pos c130] at H
                        have c130b0 : decide (t250 ≤ t251) = true := decide_eq_true c130
                        clear c130
                        by_cases c131 : t230 < 1
                        · rw [if_pos c131] at H
                          have c131b0 : decide (t230 < 1) = true := decide_eq_true c131
                          clear c131
                          clear H
                          go_wp2_with (first | (go_at_call 11; (with_reducible refine (impl_NumText.calls (hT_ := (Go.Proofs.YtfgmngfhchfaaaaDoor.AidP.tabE_below HTAB_.out (by repeat (first | (with_reducible first | exact HB.out | apply below_alloc | apply pw_below_drewN | apply below_drew1) | exact HB.out))).1) t222 t249 _ A126.out).mono ?_); rintro e w132 ⟨rfl, hb⟩; have n0_ := Aside0.mk (below_step (by repeat (first | (with_reducible first | exact HB.out | apply below_alloc | apply pw_below_drewN | apply below_drew1) | exact HB.out)) hb); clear HB; have HB := n0_; clear n0_; (try clear hb); (try clear hb2); (try clear hk); (try clear hi)) | (go_at_call 22; (with_reducible refine (impl_Least.calls t226 t227 t250 _ A128.out).mono ?_); rintro e w133 ⟨rfl, hb⟩; have n0_ := Aside0.mk (below_step (by repeat (first | (with_reducible first | exact HB.out | apply below_alloc | apply pw_below_drewN | apply below_drew1) | exact HB.out)) hb); clear HB; have HB := n0_; clear n0_; (try clear hb); (try clear hb2); (try clear hk); (try clear hi)) | (go_at_call 24; (with_reducible refine (impl_Most.calls t226 t227 t251 _ A129.out).mono ?_); rintro e w134 ⟨rfl, hb⟩; have n0_ := Aside0.mk (below_step (by repeat (first | (with_reducible first | exact HB.out | apply below_alloc | apply pw_below_drewN | apply below_drew1) | exact HB.out)) hb); clear HB; have HB := n0_; clear n0_; (try clear hb); (try clear hb2); (try clear hk); (try clear hi)))
                          go_ret
                          exact ⟨by first | rfl | (rw [hrv_.out]; done) | (rw [hrv_.out]; rfl) | (have hrv1_ := hrv_.out; simp [hrv1_]; done) | (simp [errW_none, errW_some] <;> rfl) | (simp [*, errW_none, errW_some] <;> rfl), by repeat (first | (with_reducible first | exact HB.out | apply below_alloc | apply pw_below_drewN | apply below_drew1) | exact HB.out)⟩
                        · rw [if_neg c131] at H
                          have c131b0 : decide (t230 < 1) = false := decide_eq_false c131
                          clear c131
                          by_cases c135 : t231 < 1
                          · rw [if_pos c135] at H
                            have c135b0 : decide (t231 < 1) = true := decide_eq_true c135
                            clear c135
                            clear H
                            go_wp2_with (first | (go_at_call 11; (with_reducible refine (impl_NumText.calls (hT_ := (Go.Proofs.YtfgmngfhchfaaaaDoor.AidP.tabE_below HTAB_.out (by repeat (first | (with_reducible first | exact HB.out | apply below_alloc | apply pw_below_drewN | apply below_drew1) | exact HB.out))).1) t222 t249 _ A126.out).mono ?_); rintro e w136 ⟨rfl, hb⟩; have n0_ := Aside0.mk (below_step (by repeat (first | (with_reducible first | exact HB.out | apply below_alloc | apply pw_below_drewN | apply below_drew1) | exact HB.out)) hb); clear HB; have HB := n0_; clear n0_; (try clear hb); (try clear hb2); (try clear hk); (try clear hi)) | (go_at_call 22; (with_reducible refine (impl_Least.calls t226 t227 t250 _ A128.out).mono ?_); rintro e w137 ⟨rfl, hb⟩; have n0_ := Aside0.mk (below_step (by repeat (first | (with_reducible first | exact HB.out | apply below_alloc | apply pw_below_drewN | apply below_drew1) | exact HB.out)) hb); clear HB; have HB := n0_; clear n0_; (try clear hb); (try clear hb2); (try clear hk); (try clear hi)) | (go_at_call 24; (with_reducible refine (impl_Most.calls t226 t227 t251 _ A129.out).mono ?_); rintro e w138 ⟨rfl, hb⟩; have n0_ := Aside0.mk (below_step (by repeat (first | (with_reducible first | exact HB.out | apply below_alloc | apply pw_below_drewN | apply below_drew1) | exact HB.out)) hb); clear HB; have HB := n0_; clear n0_; (try clear hb); (try clear hb2); (try clear hk); (try clear hi)))
                            go_ret
                            exact ⟨by first | rfl | (rw [hrv_.out]; done) | (rw [hrv_.out]; rfl) | (have hrv1_ := hrv_.out; simp [hrv1_]; done) | (simp [errW_none, errW_some] <;> rfl) | (simp [*, errW_none, errW_some] <;> rfl), by repeat (first | (with_reducible first | exact HB.out | apply below_alloc | apply pw_below_drewN | apply below_drew1) | exact HB.out)⟩
                          · rw [if_neg c135] at H
                            have c135b0 : decide (t231 < 1) = false := decide_eq_false c135
                            clear c135
                            by_cases c139 : t230 > 1073741824
                            · rw [if_pos c139] at H
                              have c139b0 : decide (1073741824 < t230) = true := decide_eq_true c139
                              clear c139
                              clear H
                              go_wp2_with (first | (go_at_call 11; (with_reducible refine (impl_NumText.calls (hT_ := (Go.Proofs.YtfgmngfhchfaaaaDoor.AidP.tabE_below HTAB_.out (by repeat (first | (with_reducible first | exact HB.out | apply below_alloc | apply pw_below_drewN | apply below_drew1) | exact HB.out))).1) t222 t249 _ A126.out).mono ?_); rintro e w140 ⟨rfl, hb⟩; have n0_ := Aside0.mk (below_step (by repeat (first | (with_reducible first | exact HB.out | apply below_alloc | apply pw_below_drewN | apply below_drew1) | exact HB.out)) hb); clear HB; have HB := n0_; clear n0_; (try clear hb); (try clear hb2); (try clear hk); (try clear hi)) | (go_at_call 22; (with_reducible refine (impl_Least.calls t226 t227 t250 _ A128.out).mono ?_); rintro e w141 ⟨rfl, hb⟩; have n0_ := Aside0.mk (below_step (by repeat (first | (with_reducible first | exact HB.out | apply below_alloc | apply pw_below_drewN | apply below_drew1) | exact HB.out)) hb); clear HB; have HB := n0_; clear n0_; (try clear hb); (try clear hb2); (try clear hk); (try clear hi)) | (go_at_call 24; (with_reducible refine (impl_Most.calls t226 t227 t251 _ A129.out).mono ?_); rintro e w142 ⟨rfl, hb⟩; have n0_ := Aside0.mk (below_step (by repeat (first | (with_reducible first | exact HB.out | apply below_alloc | apply pw_below_drewN | apply below_drew1) | exact HB.out)) hb); clear HB; have HB := n0_; clear n0_; (try clear hb); (try clear hb2); (try clear hk); (try clear hi)))
                              go_ret
                              exact ⟨by first | rfl | (rw [hrv_.out]; done) | (rw [hrv_.out]; rfl) | (have hrv1_ := hrv_.out; simp [hrv1_]; done) | (simp [errW_none, errW_some] <;> rfl) | (simp [*, errW_none, errW_some] <;> rfl), by repeat (first | (with_reducible first | exact HB.out | apply below_alloc | apply pw_below_drewN | apply below_drew1) | exact HB.out)⟩
                            · rw [if_neg c139] at H
                              have c139b0 : decide (1073741824 < t230) = false := decide_eq_false c139
                              clear c139
                              by_cases c143 : (wrap64 (t232 * t231)) ≥ t230
                              · rw [if_pos c143] at H
                                have c143b0 : decide (t230 ≤ (wrap64 (t232 * t231))) = true := decide_eq_true c143
                                clear c143
                                have hrv_ := Aside0.mk (show (decide ((wrap64 ((wrap64 (t232 - 1)) * t231)) < t230)) = true from Option.some.inj H)
                                clear H
                                go_wp2_with (first | (go_at_call 11; (with_reducible refine (impl_NumText.calls (hT_ := (Go.Proofs.YtfgmngfhchfaaaaDoor.AidP.tabE_below HTAB_.out (by repeat (first | (with_reducible first | exact HB.out | apply below_alloc | apply pw_below_drewN | apply below_drew1) | exact HB.out))).1) t222 t249 _ A126.out).mono ?_); rintro e w144 ⟨rfl, hb⟩; have n0_ := Aside0.mk (below_step (by repeat (first | (with_reducible first | exact HB.out | apply below_alloc | apply pw_below_drewN | apply below_drew1) | exact HB.out)) hb); clear HB; have HB := n0_; clear n0_; (try clear hb); (try clear hb2); (try clear hk); (try clear hi)) | (go_at_call 22; (with_reducible refine (impl_Least.calls t226 t227 t250 _ A128.out).mono ?_); rintro e w145 ⟨rfl, hb⟩; have n0_ := Aside0.mk (below_step (by repeat (first | (with_reducible first | exact HB.out | apply below_alloc | apply pw_below_drewN | apply below_drew1) | exact HB.out)) hb); clear HB; have HB := n0_; clear n0_; (try clear hb); (try clear hb2); (try clear hk); (try clear hi)) | (go_at_call 24; (with_reducible refine (impl_Most.calls t226 t227 t251 _ A129.out).mono ?_); rintro e w146 ⟨rfl, hb⟩; have n0_ := Aside0.mk (below_step (by repeat (first | (with_reducible first | exact HB.out | apply below_alloc | apply pw_below_drewN | apply below_drew1) | exact HB.out)) hb); clear HB; have HB := n0_; clear n0_; (try clear hb); (try clear hb2); (try clear hk); (try clear hi)))
                                go_ret
                                exact ⟨by first | rfl | (rw [hrv_.out]; done) | (rw [hrv_.out]; rfl) | (have hrv1_ := hrv_.out; simp [hrv1_]; done) | (simp [errW_none, errW_some] <;> rfl) | (simp [*, errW_none, errW_some] <;> rfl), by repeat (first | (with_reducible first | exact HB.out | apply below_alloc | apply pw_below_drewN | apply below_drew1) | exact HB.out)⟩
                              · rw [if_neg c143] at H
                                have c143b0 : decide (t230 ≤ (wrap64 (t232 * t231))) = false := decide_eq_false c143
                                clear c143
                                exact absurd H (by simp)
                      · rw [if_neg c130] at H
                        have c130b0 : decide (t250 ≤ t251) = false := decide_eq_false c130
                        clear c130
                        exact absurd H (by simp)
                    · rw [if_neg c127] at H
                      have c127b0 : (t249.toList == t221.toList) = false := beq_eq_false_iff_ne.mpr c127
                      have c127b1 : (t249.toList != t221.toList) = true := bne_iff_ne.mpr c127
                      exact absurd H (by simp)
                  · replace c125 := Bool.eq_false_iff.mpr c125
                    subst c125
                    have H1 : ((impl_Least.f t226 t227).bind fun t252 => ((impl_Most.f t226 t227).bind fun t253 => (if t252 ≤ t253 then (if t230 < 1 then (some true) else (if t231 < 1 then (some true) else (if t230 > 1073741824 then (some true) else (if (wrap64 (t232 * t231)) ≥ t230 then (some (decide ((wrap64 ((wrap64 (t232 - 1)) * t231)) < t230))) else (some false))))) else (some false)))) = some true := by rw [if_neg (show ¬ (false = true) by decide)] at H; exact H
                    clear H
                    have H := H1
                    clear H1
                    replace H := Option.bind_eq_some_iff.mp H
                    obtain ⟨t252, A1470, H⟩ := H
                    replace H : ((impl_Most.f t226 t227).bind fun t253 => (if t252 ≤ t253 then (if t230 < 1 then (some true) else (if t231 < 1 then (some true) else (if t230 > 1073741824 then (some true) else (if (wrap64 (t232 * t231)) ≥ t230 then (some (decide ((wrap64 ((wrap64 (t232 - 1)) * t231)) < t230))) else (some false))))) else (some false))) = some true := H
                    have A147 := Aside0.mk A1470
                    clear A1470
                    replace H := Option.bind_eq_some_iff.mp H
                    obtain ⟨t253, A1480, H⟩ := H
                    replace H : (if t252 ≤ t253 then (if t230 < 1 then (some true) else (if t231 < 1 then (some true) else (if t230 > 1073741824 then (some true) else (if (wrap64 (t232 * t231)) ≥ t230 then (some (decide ((wrap64 ((wrap64 (t232 - 1)) * t231)) < t230))) else (some false))))) else (some false)) = some true := H
                    have A148 := Aside0.mk A1480
                    clear A1480
                    by_cases c149 : t252 ≤ t253
                    · rw [if_pos c149] at H
                      have c149b0 : decide (t252 ≤ t253) = true := decide_eq_true c149
                      clear c149
                      by_cases c150 : t230 < 1
                      · rw [if_pos c150] at H
                        have c150b0 : decide (t230 < 1) = true := decide_eq_true c150
                        clear c150
                        clear H
                        go_wp2_with (first | (go_at_call 22; (with_reducible refine (impl_Least.calls t226 t227 t252 _ A147.out).mono ?_); rintro e w151 ⟨rfl, hb⟩; have n0_ := Aside0.mk (below_step (by repeat (first | (with_reducible first | exact HB.out | apply below_alloc | apply pw_below_drewN | apply below_drew1) | exact HB.out)) hb); clear HB; have HB := n0_; clear n0_; (try clear hb); (try clear hb2); (try clear hk); (try clear hi)) | (go_at_call 24; (with_reducible refine (impl_Most.calls t226 t227 t253 _ A148.out).mono ?_); rintro e w152 ⟨rfl, hb⟩; have n0_ := Aside0.mk (below_step (by repeat (first | (with_reducible first | exact HB.out | apply below_alloc | apply pw_below_drewN | apply below_drew1) | exact HB.out)) hb); clear HB; have HB := n0_; clear n0_; (try clear hb); (try clear hb2); (try clear hk); (try clear hi)))
                        go_ret
                        exact ⟨by first | rfl | (rw [hrv_.out]; done) | (rw [hrv_.out]; rfl) | (have hrv1_ := hrv_.out; simp [hrv1_]; done) | (simp [errW_none, errW_some] <;> rfl) | (simp [*, errW_none, errW_some] <;> rfl), by repeat (first | (with_reducible first | exact HB.out | apply below_alloc | apply pw_below_drewN | apply below_drew1) | exact HB.out)⟩
                      · rw [if_neg c150] at H
                        have c150b0 : decide (t230 < 1) = false := decide_eq_false c150
                        clear c150
                        by_cases c153 : t231 < 1
                        · rw [if_pos c153] at H
                          have c153b0 : decide (t231 < 1) = true := decide_eq_true c153
                          clear c153
                          clear H
                          go_wp2_with (first | (go_at_call 22; (with_reducible refine (impl_Least.calls t226 t227 t252 _ A147.out).mono ?_); rintro e w154 ⟨rfl, hb⟩; have n0_ := Aside0.mk (below_step (by repeat (first | (with_reducible first | exact HB.out | apply below_alloc | apply pw_below_drewN | apply below_drew1) | exact HB.out)) hb); clear HB; have HB := n0_; clear n0_; (try clear hb); (try clear hb2); (try clear hk); (try clear hi)) | (go_at_call 24; (with_reducible refine (impl_Most.calls t226 t227 t253 _ A148.out).mono ?_); rintro e w155 ⟨rfl, hb⟩; have n0_ := Aside0.mk (below_step (by repeat (first | (with_reducible first | exact HB.out | apply below_alloc | apply pw_below_drewN | apply below_drew1) | exact HB.out)) hb); clear HB; have HB := n0_; clear n0_; (try clear hb); (try clear hb2); (try clear hk); (try clear hi)))
                          go_ret
                          exact ⟨by first | rfl | (rw [hrv_.out]; done) | (rw [hrv_.out]; rfl) | (have hrv1_ := hrv_.out; simp [hrv1_]; done) | (simp [errW_none, errW_some] <;> rfl) | (simp [*, errW_none, errW_some] <;> rfl), by repeat (first | (with_reducible first | exact HB.out | apply below_alloc | apply pw_below_drewN | apply below_drew1) | exact HB.out)⟩
                        · rw [if_neg c153] at H
                          have c153b0 : decide (t231 < 1) = false := decide_eq_false c153
                          clear c153
                          by_cases c156 : t230 > 1073741824
                          · rw [if_pos c156] at H
                            have c156b0 : decide (1073741824 < t230) = true := decide_eq_true c156
                            clear c156
                            clear H
                            go_wp2_with (first | (go_at_call 22; (with_reducible refine (impl_Least.calls t226 t227 t252 _ A147.out).mono ?_); rintro e w157 ⟨rfl, hb⟩; have n0_ := Aside0.mk (below_step (by repeat (first | (with_reducible first | exact HB.out | apply below_alloc | apply pw_below_drewN | apply below_drew1) | exact HB.out)) hb); clear HB; have HB := n0_; clear n0_; (try clear hb); (try clear hb2); (try clear hk); (try clear hi)) | (go_at_call 24; (with_reducible refine (impl_Most.calls t226 t227 t253 _ A148.out).mono ?_); rintro e w158 ⟨rfl, hb⟩; have n0_ := Aside0.mk (below_step (by repeat (first | (with_reducible first | exact HB.out | apply below_alloc | apply pw_below_drewN | apply below_drew1) | exact HB.out)) hb); clear HB; have HB := n0_; clear n0_; (try clear hb); (try clear hb2); (try clear hk); (try clear hi)))
                            go_ret
                            exact ⟨by first | rfl | (rw [hrv_.out]; done) | (rw [hrv_.out]; rfl) | (have hrv1_ := hrv_.out; simp [hrv1_]; done) | (simp [errW_none, errW_some] <;> rfl) | (simp [*, errW_none, errW_some] <;> rfl), by repeat (first | (with_reducible first | exact HB.out | apply below_alloc | apply pw_below_drewN | apply below_drew1) | exact HB.out)⟩
                          · rw [if_neg c156] at H
                            have c156b0 : decide (1073741824 < t230) = false := decide_eq_false c156
                            clear c156
                            by_cases c159 : (wrap64 (t232 * t231)) ≥ t230
                            · rw [if_pos c159] at H
                              have c159b0 : decide (t230 ≤ (wrap64 (t232 * t231))) = true := decide_eq_true c159
                              clear c159
                              have hrv_ := Aside0.mk (show (decide ((wrap64 ((wrap64 (t232 - 1)) * t231)) < t230)) = true from Option.some.inj H)
                              clear H
                              go_wp2_with (first | (go_at_call 22; (with_reducible refine (impl_Least.calls t226 t227 t252 _ A147.out).mono ?_); rintro e w160 ⟨rfl, hb⟩; have n0_ := Aside0.mk (below_step (by repeat (first | (with_reducible first | exact HB.out | apply below_alloc | apply pw_below_drewN | apply below_drew1) | exact HB.out)) hb); clear HB; have HB := n0_; clear n0_; (try clear hb); (try clear hb2); (try clear hk); (try clear hi)) | (go_at_call 24; (with_reducible refine (impl_Most.calls t226 t227 t253 _ A148.out).mono ?_); rintro e w161 ⟨rfl, hb⟩; have n0_ := Aside0.mk (below_step (by repeat (first | (with_reducible first | exact HB.out | apply below_alloc | apply pw_below_drewN | apply below_drew1) | exact HB.out)) hb); clear HB; have HB := n0_; clear n0_; (try clear hb); (try clear hb2); (try clear hk); (try clear hi)))
                              go_ret
                              exact ⟨by first | rfl | (rw [hrv_.out]; done) | (rw [hrv_.out]; rfl) | (have hrv1_ := hrv_.out; simp [hrv1_]; done) | (simp [errW_none, errW_some] <;> rfl) | (simp [*, errW_none, errW_some] <;> rfl), by repeat (first | (with_reducible first | exact HB.out | apply below_alloc | apply pw_below_drewN | apply below_drew1) | exact HB.out)⟩
                            · rw [if_neg c159] at H
                              have c159b0 : decide (t230 ≤ (wrap64 (t232 * t231))) = false := decide_eq_false c159
                              clear c159
                              exact absurd H (by simp)
                    · rw [if_neg c149] at H
                      have c149b0 : decide (t252 ≤ t253) = false := decide_eq_false c149
                      clear c149
                      exact absurd H (by simp)
                · rw [if_neg c124] at H
                  have c124b0 : (t219 == t217) = false := beq_eq_false_iff_ne.mpr c124
                  have c124b1 : (t219 != t217) = true := bne_iff_ne.mpr c124
                  exact absurd H (by simp)
              · replace c123 := Bool.eq_false_iff.mpr c123
                subst c123
                have H1 : (if t223 = true then ((impl_NumText.f t222).bind fun t254 => (if t254.toList = t221.toList then ((impl_Least.f t226 t227).bind fun t255 => ((impl_Most.f t226 t227).bind fun t256 => (if t255 ≤ t256 then (if t230 < 1 then (some true) else (if t231 < 1 then (some true) else (if t230 > 1073741824 then (some true) else (if (wrap64 (t232 * t231)) ≥ t230 then (some (decide ((wrap64 ((wrap64 (t232 - 1)) * t231)) < t230))) else (some false))))) else (some false)))) else (some false))) else ((impl_Least.f t226 t227).bind fun t257 => ((impl_Most.f t226 t227).bind fun t258 => (if t257 ≤ t258 then (if t230 < 1 then (some true) else (if t231 < 1 then (some true) else (if t230 > 1073741824 then (some true) else (if (wrap64 (t232 * t231)) ≥ t230 then (some (decide ((wrap64 ((wrap64 (t232 - 1)) * t231)) < t230))) else (some false))))) else (some false))))) = some true := by rw [if_neg (show ¬ (false = true) by decide)] at H; exact H
                clear H
                have H := H1
                clear H1
                by_cases c162 : t223 = true
                · subst c162
                  have H1 : ((impl_NumText.f t222).bind fun t254 => (if t254.toList = t221.toList then ((impl_Least.f t226 t227).bind fun t255 => ((impl_Most.f t226 t227).bind fun t256 => (if t255 ≤ t256 then (if t230 < 1 then (some true) else (if t231 < 1 then (some true) else (if t230 > 1073741824 then (some true) else (if (wrap64 (t232 * t231)) ≥ t230 then (some (decide ((wrap64 ((wrap64 (t232 - 1)) * t231)) < t230))) else (some false))))) else (some false)))) else (some false))) = some true := by rw [if_pos rfl] at H; exact H
                  clear H
                  have H := H1
                  clear H1
                  replace H := Option.bind_eq_some_iff.mp H
                  obtain ⟨t254, A1630, H⟩ := H
                  replace H : (if t254.toList = t221.toList then ((impl_Least.f t226 t227).bind fun t255 => ((impl_Most.f t226 t227).bind fun t256 => (if t255 ≤ t256 then (if t230 < 1 then (some true) else (if t231 < 1 then (some true) else (if t230 > 1073741824 then (some true) else (if (wrap64 (t232 * t231)) ≥ t230 then (some (decide ((wrap64 ((wrap64 (t232 - 1)) * t231)) < t230))) else (some false))))) else (some false)))) else (some false)) = some true := H
                  have A163 := Aside0.mk A1630
                  clear A1630
                  by_cases c164 : t254.toList = t221.toList
                  · rw [if_pos c164] at H
                    have c164b0 : (t254.toList == t221.toList) = true := beq_iff_eq.mpr c164
                    have c164b1 : (t254.toList != t221.toList) = false := bne_eq_false_iff_eq.mpr c164
                    clear c164
                    replace H := Option.bind_eq_some_iff.mp H
                    obtain ⟨t255, A1650, H⟩ := H
                    replace H : ((impl_Most.f t226 t227).bind fun t256 => (if t255 ≤ t256 then (if t230 < 1 then (some true) else (if t231 < 1 then (some true) else (if t230 > 1073741824 then (some true) else (if (wrap64 (t232 * t231)) ≥ t230 then (some (decide ((wrap64 ((wrap64 (t232 - 1)) * t231)) < t230))) else (some false))))) else (some false))) = some true := H
                    have A165 := Aside0.mk A1650
                    clear A1650
                    replace H := Option.bind_eq_some_iff.mp H
                    obtain ⟨t256, A1660, H⟩ := H
                    replace H : (if t255 ≤ t256 then (if t230 < 1 then (some true) else (if t231 < 1 then (some true) else (if t230 > 1073741824 then (some true) else (if (wrap64 (t232 * t231)) ≥ t230 then (some (decide ((wrap64 ((wrap64 (t232 - 1)) * t231)) < t230))) else (some false))))) else (some false)) = some true := H
                    have A166 := Aside0.mk A1660
                    clear A1660
                    by_cases c167 : t255 ≤ t256
                    · rw [if_pos c167] at H
                      have c167b0 : decide (t255 ≤ t256) = true := decide_eq_true c167
                      clear c167
                      by_cases c168 : t230 < 1
                      · rw [if_pos c168] at H
                        have c168b0 : decide (t230 < 1) = true := decide_eq_true c168
                        clear c168
                        clear H
                        go_wp2_with (first | (go_at_call 11; (with_reducible refine (impl_NumText.calls (hT_ := (Go.Proofs.YtfgmngfhchfaaaaDoor.AidP.tabE_below HTAB_.out (by repeat (first | (with_reducible first | exact HB.out | apply below_alloc | apply pw_below_drewN | apply below_drew1) | exact HB.out))).1) t222 t254 _ A163.out).mono ?_); rintro e w169 ⟨rfl, hb⟩; have n0_ := Aside0.mk (below_step (by repeat (first | (with_reducible first | exact HB.out | apply below_alloc | apply pw_below_drewN | apply below_drew1) | exact HB.out)) hb); clear HB; have HB := n0_; clear n0_; (try clear hb); (try clear hb2); (try clear hk); (try clear hi)) | (go_at_call 22; (with_reducible refine (impl_Least.calls t226 t227 t255 _ A165.out).mono ?_); rintro e w170 ⟨rfl, hb⟩; have n0_ := Aside0.mk (below_step (by repeat (first | (with_reducible first | exact HB.out | apply below_alloc | apply pw_below_drewN | apply below_drew1) | exact HB.out)) hb); clear HB; have HB := n0_; clear n0_; (try clear hb); (try clear hb2); (try clear hk); (try clear hi)) | (go_at_call 24; (with_reducible refine (impl_Most.calls t226 t227 t256 _ A166.out).mono ?_); rintro e w171 ⟨rfl, hb⟩; have n0_ := Aside0.mk (below_step (by repeat (first | (with_reducible first | exact HB.out | apply below_alloc | apply pw_below_drewN | apply below_drew1) | exact HB.out)) hb); clear HB; have HB := n0_; clear n0_; (try clear hb); (try clear hb2); (try clear hk); (try clear hi)))
                        go_ret
                        exact ⟨by first | rfl | (rw [hrv_.out]; done) | (rw [hrv_.out]; rfl) | (have hrv1_ := hrv_.out; simp [hrv1_]; done) | (simp [errW_none, errW_some] <;> rfl) | (simp [*, errW_none, errW_some] <;> rfl), by repeat (first | (with_reducible first | exact HB.out | apply below_alloc | apply pw_below_drewN | apply below_drew1) | exact HB.out)⟩
                      · rw [if_neg c168] at H
                        have c168b0 : decide (t230 < 1) = false := decide_eq_false c168
                        clear c168
                        by_cases c172 : t231 < 1
                        · rw [if_pos c172] at H
                          have c172b0 : decide (t231 < 1) = true := decide_eq_true c172
                          clear c172
                          clear H
                          go_wp2_with (first | (go_at_call 11; (with_reducible refine (impl_NumText.calls (hT_ := (Go.Proofs.YtfgmngfhchfaaaaDoor.AidP.tabE_below HTAB_.out (by repeat (first | (with_reducible first | exact HB.out | apply below_alloc | apply pw_below_drewN | apply below_drew1) | exact HB.out))).1) t222 t254 _ A163.out).mono ?_); rintro e w173 ⟨rfl, hb⟩; have n0_ := Aside0.mk (below_step (by repeat (first | (with_reducible first | exact HB.out | apply below_alloc | apply pw_below_drewN | apply below_drew1) | exact HB.out)) hb); clear HB; have HB := n0_; clear n0_; (try clear hb); (try clear hb2); (try clear hk); (try clear hi)) | (go_at_call 22; (with_reducible refine (impl_Least.calls t226 t227 t255 _ A165.out).mono ?_); rintro e w174 ⟨rfl, hb⟩; have n0_ := Aside0.mk (below_step (by repeat (first | (with_reducible first | exact HB.out | apply below_alloc | apply pw_below_drewN | apply below_drew1) | exact HB.out)) hb); clear HB; have HB := n0_; clear n0_; (try clear hb); (try clear hb2); (try clear hk); (try clear hi)) | (go_at_call 24; (with_reducible refine (impl_Most.calls t226 t227 t256 _ A166.out).mono ?_); rintro e w175 ⟨rfl, hb⟩; have n0_ := Aside0.mk (below_step (by repeat (first | (with_reducible first | exact HB.out | apply below_alloc | apply pw_below_drewN | apply below_drew1) | exact HB.out)) hb); clear HB; have HB := n0_; clear n0_; (try clear hb); (try clear hb2); (try clear hk); (try clear hi)))
                          go_ret
                          exact ⟨by first | rfl | (rw [hrv_.out]; done) | (rw [hrv_.out]; rfl) | (have hrv1_ := hrv_.out; simp [hrv1_]; done) | (simp [errW_none, errW_some] <;> rfl) | (simp [*, errW_none, errW_some] <;> rfl), by repeat (first | (with_reducible first | exact HB.out | apply below_alloc | apply pw_below_drewN | apply below_drew1) | exact HB.out)⟩
                        · rw [if_neg c172] at H
                          have c172b0 : decide (t231 < 1) = false := decide_eq_false c172
                          clear c172
                          by_cases c176 : t230 > 1073741824
                          · rw [if_pos c176] at H
                            have c176b0 : decide (1073741824 < t230) = true := decide_eq_true c176
                            clear c176
                            clear H
                            go_wp2_with (first | (go_at_call 11; (with_reducible refine (impl_NumText.calls (hT_ := (Go.Proofs.YtfgmngfhchfaaaaDoor.AidP.tabE_below HTAB_.out (by repeat (first | (with_reducible first | exact HB.out | apply below_alloc | apply pw_below_drewN | apply below_drew1) | exact HB.out))).1) t222 t254 _ A163.out).mono ?_); rintro e w177 ⟨rfl, hb⟩; have n0_ := Aside0.mk (below_step (by repeat (first | (with_reducible first | exact HB.out | apply below_alloc | apply pw_below_drewN | apply below_drew1) | exact HB.out)) hb); clear HB; have HB := n0_; clear n0_; (try clear hb); (try clear hb2); (try clear hk); (try clear hi)) | (go_at_call 22; (with_reducible refine (impl_Least.calls t226 t227 t255 _ A165.out).mono ?_); rintro e w178 ⟨rfl, hb⟩; have n0_ := Aside0.mk (below_step (by repeat (first | (with_reducible first | exact HB.out | apply below_alloc | apply pw_below_drewN | apply below_drew1) | exact HB.out)) hb); clear HB; have HB := n0_; clear n0_; (try clear hb); (try clear hb2); (try clear hk); (try clear hi)) | (go_at_call 24; (with_reducible refine (impl_Most.calls t226 t227 t256 _ A166.out).mono ?_); rintro e w179 ⟨rfl, hb⟩; have n0_ := Aside0.mk (below_step (by repeat (first | (with_reducible first | exact HB.out | apply below_alloc | apply pw_below_drewN | apply below_drew1) | exact HB.out)) hb); clear HB; have HB := n0_; clear n0_; (try clear hb); (try clear hb2); (try clear hk); (try clear hi)))
                            go_ret
                            exact ⟨by first | rfl | (rw [hrv_.out]; done) | (rw [hrv_.out]; rfl) | (have hrv1_ := hrv_.out; simp [hrv1_]; done) | (simp [errW_none, errW_some] <;> rfl) | (simp [*, errW_none, errW_some] <;> rfl), by repeat (first | (with_reducible first | exact HB.out | apply below_alloc | apply pw_below_drewN | apply below_drew1) | exact HB.out)⟩
                          · rw [if_neg c176] at H
                            have c176b0 : decide (1073741824 < t230) = false := decide_eq_false c176
                            clear c176
                            by_cases c180 : (wrap64 (t232 * t231)) ≥ t230
                            · rw [if_pos c180] at H
                              have c180b0 : decide (t230 ≤ (wrap64 (t232 * t231))) = true := decide_eq_true c180
                              clear c180
                              have hrv_ := Aside0.mk (show (decide ((wrap64 ((wrap64 (t232 - 1)) * t231)) < t230)) = true from Option.some.inj H)
                              clear H
                              go_wp2_with (first | (go_at_call 11; (with_reducible refine (impl_NumText.calls (hT_ := (Go.Proofs.YtfgmngfhchfaaaaDoor.AidP.tabE_below HTAB_.out (by repeat (first | (with_reducible first | exact HB.out | apply below_alloc | apply pw_below_drewN | apply below_drew1) | exact HB.out))).1) t222 t254 _ A163.out).mono ?_); rintro e w181 ⟨rfl, hb⟩; have n0_ := Aside0.mk (below_step (by repeat (first | (with_reducible first | exact HB.out | apply below_alloc | apply pw_below_drewN | apply below_drew1) | exact HB.out)) hb); clear HB; have HB := n0_; clear n0_; (try clear hb); (try clear hb2); (try clear hk); (try clear hi)) | (go_at_call 22; (with_reducible refine (impl_Least.calls t226 t227 t255 _ A165.out).mono ?_); rintro e w182 ⟨rfl, hb⟩; have n0_ := Aside0.mk (below_step (by repeat (first | (with_reducible first | exact HB.out | apply below_alloc | apply pw_below_drewN | apply below_drew1) | exact HB.out)) hb); clear HB; have HB := n0_; clear n0_; (try clear hb); (try clear hb2); (try clear hk); (try clear hi)) | (go_at_call 24; (with_reducible refine (impl_Most.calls t226 t227 t256 _ A166.out).mono ?_); rintro e w183 ⟨rfl, hb⟩; have n0_ := Aside0.mk (below_step (by repeat (first | (with_reducible first | exact HB.out | apply below_alloc | apply pw_below_drewN | apply below_drew1) | exact HB.out)) hb); clear HB; have HB := n0_; clear n0_; (try clear hb); (try clear hb2); (try clear hk); (try clear hi)))
                              go_ret
                              exact ⟨by first | rfl | (rw [hrv_.out]; done) | (rw [hrv_.out]; rfl) | (have hrv1_ := hrv_.out; simp [hrv1_]; done) | (simp [errW_none, errW_some] <;> rfl) | (simp [*, errW_none, errW_some] <;> rfl), by repeat (first | (with_reducible first | exact HB.out | apply below_alloc | apply pw_below_drewN | apply below_drew1) | exact HB.out)⟩
                            · rw [if_neg c180] at H
                              have c180b0 : decide (t230 ≤ (wrap64 (t232 * t231))) = false := decide_eq_false c180
                              clear c180
                              exact absurd H (by simp)
                    · rw [if_neg c167] at H
                      have c167b0 : decide (t255 ≤ t256) = false := decide_eq_false c167
                      clear c167
                      exact absurd H (by simp)
                  · rw [if_neg c164] at H
                    have c164b0 : (t254.toList == t221.toList) = false := beq_eq_false_iff_ne.mpr c164
                    have c164b1 : (t254.toList != t221.toList) = true := bne_iff_ne.mpr c164
                    exact absurd H (by simp)
                · replace c162 := Bool.eq_false_iff.mpr c162
                  subst c162
                  have H1 : ((impl_Least.f t226 t227).bind fun t257 => ((impl_Most.f t226 t227).bind fun t258 => (if t257 ≤ t258 then (if t230 < 1 then (some true) else (if t231 < 1 then (some true) else (if t230 > 1073741824 then (some true) else (if (wrap64 (t232 * t231)) ≥ t230 then (some (decide ((wrap64 ((wrap64 (t232 - 1)) * t231)) < t230))) else (some false))))) else (some false)))) = some true := by rw [if_neg (show ¬ (false = true) by decide)] at H; exact H
                  clear H
                  have H := H1
                  clear H1
                  replace H := Option.bind_eq_some_iff.mp H
                  obtain ⟨t257, A1840, H⟩ := H
                  replace H : ((impl_Most.f t226 t227).bind fun t258 => (if t257 ≤ t258 then (if t230 < 1 then (some true) else (if t231 < 1 then (some true) else (if t230 > 1073741824 then (some true) else (if (wrap64 (t232 * t231)) ≥ t230 then (some (decide ((wrap64 ((wrap64 (t232 - 1)) * t231)) < t230))) else (some false))))) else (some false))) = some true := H
                  have A184 := Aside0.mk A1840
                  clear A1840
                  replace H := Option.bind_eq_some_iff.mp H
                  obtain ⟨t258, A1850, H⟩ := H
                  replace H : (if t257 ≤ t258 then (if t230 < 1 then (some true) else (if t231 < 1 then (some true) else (if t230 > 1073741824 then (some true) else (if (wrap64 (t232 * t231)) ≥ t230 then (some (decide ((wrap64 ((wrap64 (t232 - 1)) * t231)) < t230))) else (some false))))) else (some false)) = some true := H
                  have A185 := Aside0.mk A1850
                  clear A1850
                  by_cases c186 : t257 ≤ t258
                  · rw [if_pos c186] at H
                    have c186b0 : decide (t257 ≤ t258) = true := decide_eq_true c186
                    clear c186
                    by_cases c187 : t230 < 1
                    · rw [if_pos c187] at H
                      have c187b0 : decide (t230 < 1) = true := decide_eq_true c187
                      clear c187
                      clear H
                      go_wp2_with (first | (go_at_call 22; (with_reducible refine (impl_Least.calls t226 t227 t257 _ A184.out).mono ?_); rintro e w188 ⟨rfl, hb⟩; have n0_ := Aside0.mk (below_step (by repeat (first | (with_reducible first | exact HB.out | apply below_alloc | apply pw_below_drewN | apply below_drew1) | exact HB.out)) hb); clear HB; have HB := n0_; clear n0_; (try clear hb); (try clear hb2); (try clear hk); (try clear hi)) | (go_at_call 24; (with_reducible refine (impl_Most.calls t226 t227 t258 _ A185.out).mono ?_); rintro e w189 ⟨rfl, hb⟩; have n0_ := Aside0.mk (below_step (by repeat (first | (with_reducible first | exact HB.out | apply below_alloc | apply pw_below_drewN | apply below_drew1) | exact HB.out)) hb); clear HB; have HB := n0_; clear n0_; (try clear hb); (try clear hb2); (try clear hk); (try clear hi)))
                      go_ret
                      exact ⟨by first | rfl | (rw [hrv_.out]; done) | (rw [hrv_.out]; rfl) | (have hrv1_ := hrv_.out; simp [hrv1_]; done) | (simp [errW_none, errW_some] <;> rfl) | (simp [*, errW_none, errW_some] <;> rfl), by repeat (first | (with_reducible first | exact HB.out | apply below_alloc | apply pw_below_drewN | apply below_drew1) | exact HB.out)⟩
                    · rw [if_neg c187] at H
                      have c187b0 : decide (t230 < 1) = false := decide_eq_false c187
                      clear c187
                      by_cases c190 : t231 < 1
                      · rw [if_pos c190] at H
                        have c190b0 : decide (t231 < 1) = true := decide_eq_true c190
                        clear c190
                        clear H
                        go_wp2_with (first | (go_at_call 22; (with_reducible refine (impl_Least.calls t226 t227 t257 _ A184.out).mono ?_); rintro e w191 ⟨rfl, hb⟩; have n0_ := Aside0.mk (below_step (by repeat (first | (with_reducible first | exact HB.out | apply below_alloc | apply pw_below_drewN | apply below_drew1) | exact HB.out)) hb); clear HB; have HB := n0_; clear n0_; (try clear hb); (try clear hb2); (try clear hk); (try clear hi)) | (go_at_call 24; (with_reducible refine (impl_Most.calls t226 t227 t258 _ A185.out).mono ?_); rintro e w192 ⟨rfl, hb⟩; have n0_ := Aside0.mk (below_step (by repeat (first | (with_reducible first | exact HB.out | apply below_alloc | apply pw_below_drewN | apply below_drew1) | exact HB.out)) hb); clear HB; have HB := n0_; clear n0_; (try clear hb); (try clear hb2); (try clear hk); (try clear hi)))
                        go_ret
                        exact ⟨by first | rfl | (rw [hrv_.out]; done) | (rw [hrv_.out]; rfl) | (have hrv1_ := hrv_.out; simp [hrv1_]; done) | (simp [errW_none, errW_some] <;> rfl) | (simp [*, errW_none, errW_some] <;> rfl), by repeat (first | (with_reducible first | exact HB.out | apply below_alloc | apply pw_below_drewN | apply below_drew1) | exact HB.out)⟩
                      · rw [if_neg c190] at H
                        have c190b0 : decide (t231 < 1) = false := decide_eq_false c190
                        clear c190
                        by_cases c193 : t230 > 1073741824
                        · rw [if_pos c193] at H
                          have c193b0 : decide (1073741824 < t230) = true := decide_eq_true c193
                          clear c193
                          clear H
                          go_wp2_with (first | (go_at_call 22; (with_reducible refine (impl_Least.calls t226 t227 t257 _ A184.out).mono ?_); rintro e w194 ⟨rfl, hb⟩; have n0_ := Aside0.mk (below_step (by repeat (first | (with_reducible first | exact HB.out | apply below_alloc | apply pw_below_drewN | apply below_drew1) | exact HB.out)) hb); clear HB; have HB := n0_; clear n0_; (try clear hb); (try clear hb2); (try clear hk); (try clear hi)) | (go_at_call 24; (with_reducible refine (impl_Most.calls t226 t227 t258 _ A185.out).mono ?_); rintro e w195 ⟨rfl, hb⟩; have n0_ := Aside0.mk (below_step (by repeat (first | (with_reducible first | exact HB.out | apply below_alloc | apply pw_below_drewN | apply below_drew1) | exact HB.out)) hb); clear HB; have HB := n0_; clear n0_; (try clear hb); (try clear hb2); (try clear hk); (try clear hi)))
                          go_ret
                          exact ⟨by first | rfl | (rw [hrv_.out]; done) | (rw [hrv_.out]; rfl) | (have hrv1_ := hrv_.out; simp [hrv1_]; done) | (simp [errW_none, errW_some] <;> rfl) | (simp [*, errW_none, errW_some] <;> rfl), by repeat (first | (with_reducible first | exact HB.out | apply below_alloc | apply pw_below_drewN | apply below_drew1) | exact HB.out)⟩
                        · rw [if_neg c193] at H
                          have c193b0 : decide (1073741824 < t230) = false := decide_eq_false c193
                          clear c193
                          by_cases c196 : (wrap64 (t232 * t231)) ≥ t230
                          · rw [if_pos c196] at H
                            have c196b0 : decide (t230 ≤ (wrap64 (t232 * t231))) = true := decide_eq_true c196
                            clear c196
                            have hrv_ := Aside0.mk (show (decide ((wrap64 ((wrap64 (t232 - 1)) * t231)) < t230)) = true from Option.some.inj H)
                            clear H
                            go_wp2_with (first | (go_at_call 22; (with_reducible refine (impl_Least.calls t226 t227 t257 _ A184.out).mono ?_); rintro e w197 ⟨rfl, hb⟩; have n0_ := Aside0.mk (below_step (by repeat (first | (with_reducible first | exact HB.out | apply below_alloc | apply pw_below_drewN | apply below_drew1) | exact HB.out)) hb); clear HB; have HB := n0_; clear n0_; (try clear hb); (try clear hb2); (try clear hk); (try clear hi)) | (go_at_call 24; (with_reducible refine (impl_Most.calls t226 t227 t258 _ A185.out).mono ?_); rintro e w198 ⟨rfl, hb⟩; have n0_ := Aside0.mk (below_step (by repeat (first | (with_reducible first | exact HB.out | apply below_alloc | apply pw_below_drewN | apply below_drew1) | exact HB.out)) hb); clear HB; have HB := n0_; clear n0_; (try clear hb); (try clear hb2); (try clear hk); (try clear hi)))
                            go_ret
                            exact ⟨by first | rfl | (rw [hrv_.out]; done) | (rw [hrv_.out]; rfl) | (have hrv1_ := hrv_.out; simp [hrv1_]; done) | (simp [errW_none, errW_some] <;> rfl) | (simp [*, errW_none, errW_some] <;> rfl), by repeat (first | (with_reducible first | exact HB.out | apply below_alloc | apply pw_below_drewN | apply below_drew1) | exact HB.out)⟩
                          · rw [if_neg c196] at H
                            have c196b0 : decide (t230 ≤ (wrap64 (t232 * t231))) = false := decide_eq_false c196
                            clear c196
                            exact absurd H (by simp)
                  · rw [if_neg c186] at H
                    have c186b0 : decide (t257 ≤ t258) = false := decide_eq_false c186
                    clear c186
                    exact absurd H (by simp)
            · rw [if_neg c122] at H
              have c122b0 : (t220 == false) = false := by simpa using c122
              (try (have c122b1 : decide (t220 = false) = false := by simpa using c122))
              (try (have c122b2 : (t220 == false) = false := by simpa using c122))
              (try (have c122b3 : ¬ (t220 = false) := by simpa using c122))
              clear c122
              exact absurd H (by simp)

/-- THE ONE PURE STATEMENT of laws_FnDigits: yours. -/
def laws_FnDigits.Pure : Prop := ∀ (l0 : List Int), l0.length ≤ maxLen → l0.length * 1 ≤ 140737488351232 → (∀ x ∈ l0, (Lit.int .u8 x).wf = true) → ∃ k, laws_FnDigits.f k l0 = some true

end Go.Proofs.YtfgmngfhchfaaaaDoor.PFnDigits
