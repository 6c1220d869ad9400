-- Written by a program of this session; Lean checks it.
import Derived.Test.YtjmgomailgplcaaPFnNumsx0
import Derived.Test.YtjmgomailgplcaaPFnNumsx1
import Derived.Test.YtjmgomailgplcaaPFnNumsx2
namespace Go.Proofs.Ytjmgomailgplcaa.PFnNums
open Go.RowKit Go.Proofs.YtjmgomailgplcaaW.PrintWords Go.Proofs.YtjmgomailgplcaaW.PrintLast Go.Proofs.YtjmgomailgplcaaW.PrintMore
attribute [local go_sem] max2_int min2_int max_two min_two max_three min_three max_four min_four   -- for this text's walks alone
set_option linter.unusedVariables false
set_option linter.unusedSimpArgs false

/-! ### laws_FnNums: function 12 -/
def laws_FnNums.j0 : Nat → List Int → Int → List Int → Int → Bool → List Int → List Int → Bool → Option (Bool)
  | 0, _, _, _, _, _, _, _, _ => none
  | k + 1, x3, x4, x5, x6, x7, x14, x16, x82 => if x82 = true then (some false) else (if x4 ≥ 0 then (if (x7 == (decide (x4 ≤ 65535))) = true then (if x7 = true then (if x6 = x4 then (if (x5.length : Int) = (wrap64 ((x3.length : Int) + 2)) then (if 0 ≤ (x3.length : Int) then (if (x3.length : Int) ≤ (x5.length : Int) then ((laws_same.f k (x5.take ((x3.length : Int) : Int).toNat) x3).bind fun t292 => (if t292 = true then (if (x16.length : Int) ≥ (x14.length : Int) then (if 0 ≤ (x14.length : Int) then (if (x14.length : Int) ≤ (x16.length : Int) then ((laws_same.f k (x16.take ((x14.length : Int) : Int).toNat) x14).bind fun t297 => (if t297 = true then ((impl_Put2.f x3 0).bind fun t298 => (some ((t298.length : Int) == (wrap64 ((x3.length : Int) + 2))))) else (some false))) else (none)) else (none)) else (some false)) else (some false))) else (none)) else (none)) else (some false)) else (some false)) else (if 0 ≤ (x3.length : Int) then (if (x3.length : Int) ≤ (x5.length : Int) then ((laws_same.f k (x5.take ((x3.length : Int) : Int).toNat) x3).bind fun t305 => (if t305 = true then (if (x16.length : Int) ≥ (x14.length : Int) then (if 0 ≤ (x14.length : Int) then (if (x14.length : Int) ≤ (x16.length : Int) then ((laws_same.f k (x16.take ((x14.length : Int) : Int).toNat) x14).bind fun t310 => (if t310 = true then ((impl_Put2.f x3 0).bind fun t311 => (some ((t311.length : Int) == (wrap64 ((x3.length : Int) + 2))))) else (some false))) else (none)) else (none)) else (some false)) else (some false))) else (none)) else (none))) else (some false)) else (if (x7 == false) = true then (if x7 = true then (if x6 = x4 then (if (x5.length : Int) = (wrap64 ((x3.length : Int) + 2)) then (if 0 ≤ (x3.length : Int) then (if (x3.length : Int) ≤ (x5.length : Int) then ((laws_same.f k (x5.take ((x3.length : Int) : Int).toNat) x3).bind fun t318 => (if t318 = true then (if (x16.length : Int) ≥ (x14.length : Int) then (if 0 ≤ (x14.length : Int) then (if (x14.length : Int) ≤ (x16.length : Int) then ((laws_same.f k (x16.take ((x14.length : Int) : Int).toNat) x14).bind fun t323 => (if t323 = true then ((impl_Put2.f x3 0).bind fun t324 => (some ((t324.length : Int) == (wrap64 ((x3.length : Int) + 2))))) else (some false))) else (none)) else (none)) else (some false)) else (some false))) else (none)) else (none)) else (some false)) else (some false)) else (if 0 ≤ (x3.length : Int) then (if (x3.length : Int) ≤ (x5.length : Int) then ((laws_same.f k (x5.take ((x3.length : Int) : Int).toNat) x3).bind fun t331 => (if t331 = true then (if (x16.length : Int) ≥ (x14.length : Int) then (if 0 ≤ (x14.length : Int) then (if (x14.length : Int) ≤ (x16.length : Int) then ((laws_same.f k (x16.take ((x14.length : Int) : Int).toNat) x14).bind fun t336 => (if t336 = true then ((impl_Put2.f x3 0).bind fun t337 => (some ((t337.length : Int) == (wrap64 ((x3.length : Int) + 2))))) else (some false))) else (none)) else (none)) else (some false)) else (some false))) else (none)) else (none))) else (some false)))
def laws_FnNums.f (k : Nat) (l0 : List Int) : Option (Bool) := (laws_big.f l0).bind fun t255 => (if t255 = true then (some true) else ((spec_DrawPut2.f k l0).bind fun bt256 => ((impl_Put2.f bt256.1 bt256.2).bind fun t260 => ((impl_Get2.f t260 (bt256.1.length : Int)).bind fun bt263 => ((spec_DrawGet2.f k l0).bind fun bt265 => ((impl_Get2.f bt265.1 bt265.2).bind fun bt269 => ((spec_Get2.f bt265.1 bt265.2).bind fun bt271 => ((spec_DrawPad.f k l0).bind fun bt273 => ((impl_Pad.f k bt273.1 bt273.2).bind fun t277 => ((spec_Put2.f bt256.1 bt256.2).bind fun t280 => ((laws_same.f k t260 t280).bind fun t283 => (if t283 = true then (if bt269.1 = bt271.1 then (if (bt269.2 != bt271.2) = true then (laws_FnNums.j0 k bt256.1 bt256.2 t260 bt263.1 bt263.2 bt273.1 t277 true) else ((spec_Pad.f k bt273.1 bt273.2).bind fun t284 => ((laws_same.f k t277 t284).bind fun t287 => (laws_FnNums.j0 k bt256.1 bt256.2 t260 bt263.1 bt263.2 bt273.1 t277 (!t287))))) else (laws_FnNums.j0 k bt256.1 bt256.2 t260 bt263.1 bt263.2 bt273.1 t277 true)) else (laws_FnNums.j0 k bt256.1 bt256.2 t260 bt263.1 bt263.2 bt273.1 t277 true)))))))))))))
theorem laws_FnNums.mono_l : ∀ k, (∀ y0 y1 y2 y3 y4 y5 y6 y7, LeO (laws_FnNums.j0 k y0 y1 y2 y3 y4 y5 y6 y7) (laws_FnNums.j0 (k + 1) y0 y1 y2 y3 y4 y5 y6 y7))
  | 0 => fun _ _ _ _ _ _ _ _ r h => by simp [laws_FnNums.j0] at h
  | k + 1 => by
    have ih0 := laws_FnNums.mono_l k
    · intro y0 y1 y2 y3 y4 y5 y6 y7
      unfold laws_FnNums.j0
      repeat' first
      | (with_reducible exact ih0 _ _ _ _ _ _ _ _)
      | (with_reducible exact impl_Pad.mono _ _ _)
      | (with_reducible exact laws_same.mono _ _ _)
      | (with_reducible exact spec_DrawGet2.mono _ _)
      | (with_reducible exact spec_DrawPad.mono _ _)
      | (with_reducible exact spec_DrawPut2.mono _ _)
      | (with_reducible exact spec_Pad.mono _ _ _)
      | (with_reducible exact LeO.refl _)
      | (with_reducible exact LeO.none _)
      | (with_reducible refine LeO.ite ?_ ?_)
      | (with_reducible refine LeO.bind ?_ (fun _ => ?_))
      | exact ih0 _ _ _ _ _ _ _ _
      | exact impl_Pad.mono _ _ _
      | exact laws_same.mono _ _ _
      | exact spec_DrawGet2.mono _ _
      | exact spec_DrawPad.mono _ _
      | exact spec_DrawPut2.mono _ _
      | exact spec_Pad.mono _ _ _
      | exact LeO.none _
      | refine LeO.ite ?_ ?_
      | refine LeO.bind ?_ (fun _ => ?_)
theorem laws_FnNums.mono : ∀ a0 k, LeO (laws_FnNums.f k a0) (laws_FnNums.f (k + 1) a0) := by
  intro a0 k
  have ih0 := laws_FnNums.mono_l k
  unfold laws_FnNums.f
  repeat' first
      | (with_reducible exact ih0 _ _ _ _ _ _ _ _)
      | (with_reducible exact impl_Pad.mono _ _ _)
      | (with_reducible exact laws_same.mono _ _ _)
      | (with_reducible exact spec_DrawGet2.mono _ _)
      | (with_reducible exact spec_DrawPad.mono _ _)
      | (with_reducible exact spec_DrawPut2.mono _ _)
      | (with_reducible exact spec_Pad.mono _ _ _)
      | (with_reducible exact LeO.refl _)
      | (with_reducible exact LeO.none _)
      | (with_reducible refine LeO.ite ?_ ?_)
      | (with_reducible refine LeO.bind ?_ (fun _ => ?_))
      | exact ih0 _ _ _ _ _ _ _ _
      | exact impl_Pad.mono _ _ _
      | exact laws_same.mono _ _ _
      | exact spec_DrawGet2.mono _ _
      | exact spec_DrawPad.mono _ _
      | exact spec_DrawPut2.mono _ _
      | exact spec_Pad.mono _ _ _
      | exact LeO.none _
      | refine LeO.ite ?_ ?_
      | refine LeO.bind ?_ (fun _ => ?_)
set_option maxHeartbeats 8000000 in
set_option maxRecDepth 100000 in
theorem laws_FnNums.calls (k : Nat) (A0 : Option Addr) (c0 : Nat) (l0 : List Int) (r : Bool) (w : World) (hr0 : Kd.C (Kd.int .u8) w A0 l0.length l0) (hc0 : l0.length ≤ c0) (h : laws_FnNums.f k l0 = some true) :
    Calls Try.prog 12 #[.slice A0 l0.length c0] w fun e w' => e = .returned (.bool true) ∧ Below w.heap.size w w' := by
  have HR0 := Aside0.mk hr0
  have HC0 := Aside0.mk hc0
  clear hr0 hc0
  have HB := Aside0.mk (Below.refl w.heap.size w)
  have H : ((laws_big.f l0).bind fun t255 => (if t255 = true then (some true) else ((spec_DrawPut2.f k l0).bind fun bt256 => ((impl_Put2.f bt256.1 bt256.2).bind fun t260 => ((impl_Get2.f t260 (bt256.1.length : Int)).bind fun bt263 => ((spec_DrawGet2.f k l0).bind fun bt265 => ((impl_Get2.f bt265.1 bt265.2).bind fun bt269 => ((spec_Get2.f bt265.1 bt265.2).bind fun bt271 => ((spec_DrawPad.f k l0).bind fun bt273 => ((impl_Pad.f k bt273.1 bt273.2).bind fun t277 => ((spec_Put2.f bt256.1 bt256.2).bind fun t280 => ((laws_same.f k t260 t280).bind fun t283 => (if t283 = true then (if bt269.1 = bt271.1 then (if (bt269.2 != bt271.2) = true then (laws_FnNums.j0 k bt256.1 bt256.2 t260 bt263.1 bt263.2 bt273.1 t277 true) else ((spec_Pad.f k bt273.1 bt273.2).bind fun t284 => ((laws_same.f k t277 t284).bind fun t287 => (laws_FnNums.j0 k bt256.1 bt256.2 t260 bt263.1 bt263.2 bt273.1 t277 (!t287))))) else (laws_FnNums.j0 k bt256.1 bt256.2 t260 bt263.1 bt263.2 bt273.1 t277 true)) else (laws_FnNums.j0 k bt256.1 bt256.2 t260 bt263.1 bt263.2 bt273.1 t277 true)))))))))))))) = some true := h
  clear h
  replace H := Option.bind_eq_some_iff.mp H
  obtain ⟨t255, A20, H⟩ := H
  replace H : (if t255 = true then (some true) else ((spec_DrawPut2.f k l0).bind fun bt256 => ((impl_Put2.f bt256.1 bt256.2).bind fun t260 => ((impl_Get2.f t260 (bt256.1.length : Int)).bind fun bt263 => ((spec_DrawGet2.f k l0).bind fun bt265 => ((impl_Get2.f bt265.1 bt265.2).bind fun bt269 => ((spec_Get2.f bt265.1 bt265.2).bind fun bt271 => ((spec_DrawPad.f k l0).bind fun bt273 => ((impl_Pad.f k bt273.1 bt273.2).bind fun t277 => ((spec_Put2.f bt256.1 bt256.2).bind fun t280 => ((laws_same.f k t260 t280).bind fun t283 => (if t283 = true then (if bt269.1 = bt271.1 then (if (bt269.2 != bt271.2) = true then (laws_FnNums.j0 k bt256.1 bt256.2 t260 bt263.1 bt263.2 bt273.1 t277 true) else ((spec_Pad.f k bt273.1 bt273.2).bind fun t284 => ((laws_same.f k t277 t284).bind fun t287 => (laws_FnNums.j0 k bt256.1 bt256.2 t260 bt263.1 bt263.2 bt273.1 t277 (!t287))))) else (laws_FnNums.j0 k bt256.1 bt256.2 t260 bt263.1 bt263.2 bt273.1 t277 true)) else (laws_FnNums.j0 k bt256.1 bt256.2 t260 bt263.1 bt263.2 bt273.1 t277 true))))))))))))) = some true := H
  have A2 := Aside0.mk A20
  clear A20
  by_cases c3 : t255 = true
  · subst c3
    have H1 : (some true) = some true := rfl
    clear H
    have H := H1
    clear H1
    clear H
    go_enter Try.func12, Try.ntmps12
    go_wp2_with (first | ((with_reducible refine gate_callee (f := 52) rfl ?_); refine goesL_ (some 18) rfl rfl Try.func52 (by kernel_rfl) rfl #[.slice A0 l0.length c0] rfl (by (try simp only [List.map_toArray, List.map_cons, List.map_nil]); first | done | rfl | (simp only [List.length_drop, List.length_take]; rfl)) ?_; (with_reducible refine (laws_big.calls _ _ l0 true _ ?side1 ?side2 A2.out).mono ?_); (case side1 => repeat (first | exact HR0.out | (with_reducible refine Kd.C_alloc ?_ _) | (with_reducible refine Kd.C_drewN ?_ _) | (with_reducible refine Kd.C_drew ?_))); (case side2 => exact HC0.out); rintro e w' ⟨rfl, ⟨nd, rfl⟩⟩; refine ⟨_, rfl, ?_⟩))
    go_ret
    exact ⟨by first | rfl | (rw [hrv_.out]; done) | (rw [hrv_.out]; rfl) | (have hrv1_ := hrv_.out; simp [hrv1_]; done) | (simp [errW_none, errW_some] <;> rfl) | (simp [*, errW_none, errW_some] <;> rfl), by repeat (first | (with_reducible first | exact HB.out | apply below_alloc | apply pw_below_drewN | apply below_drew1) | exact HB.out)⟩
  · replace c3 := Bool.eq_false_iff.mpr c3
    subst c3
    have H1 : ((spec_DrawPut2.f k l0).bind fun bt256 => ((impl_Put2.f bt256.1 bt256.2).bind fun t260 => ((impl_Get2.f t260 (bt256.1.length : Int)).bind fun bt263 => ((spec_DrawGet2.f k l0).bind fun bt265 => ((impl_Get2.f bt265.1 bt265.2).bind fun bt269 => ((spec_Get2.f bt265.1 bt265.2).bind fun bt271 => ((spec_DrawPad.f k l0).bind fun bt273 => ((impl_Pad.f k bt273.1 bt273.2).bind fun t277 => ((spec_Put2.f bt256.1 bt256.2).bind fun t280 => ((laws_same.f k t260 t280).bind fun t283 => (if t283 = true then (if bt269.1 = bt271.1 then (if (bt269.2 != bt271.2) = true then (laws_FnNums.j0 k bt256.1 bt256.2 t260 bt263.1 bt263.2 bt273.1 t277 true) else ((spec_Pad.f k bt273.1 bt273.2).bind fun t284 => ((laws_same.f k t277 t284).bind fun t287 => (laws_FnNums.j0 k bt256.1 bt256.2 t260 bt263.1 bt263.2 bt273.1 t277 (!t287))))) else (laws_FnNums.j0 k bt256.1 bt256.2 t260 bt263.1 bt263.2 bt273.1 t277 true)) else (laws_FnNums.j0 k bt256.1 bt256.2 t260 bt263.1 bt263.2 bt273.1 t277 true)))))))))))) = some true := by rw [if_neg (show ¬ (false = true) by decide)] at H; exact H
    clear H
    have H := H1
    clear H1
    replace H := Option.bind_eq_some_iff.mp H
    obtain ⟨⟨t256, t257⟩, A40, H⟩ := H
    replace H : ((impl_Put2.f t256 t257).bind fun t260 => ((impl_Get2.f t260 (t256.length : Int)).bind fun bt263 => ((spec_DrawGet2.f k l0).bind fun bt265 => ((impl_Get2.f bt265.1 bt265.2).bind fun bt269 => ((spec_Get2.f bt265.1 bt265.2).bind fun bt271 => ((spec_DrawPad.f k l0).bind fun bt273 => ((impl_Pad.f k bt273.1 bt273.2).bind fun t277 => ((spec_Put2.f t256 t257).bind fun t280 => ((laws_same.f k t260 t280).bind fun t283 => (if t283 = true then (if bt269.1 = bt271.1 then (if (bt269.2 != bt271.2) = true then (laws_FnNums.j0 k t256 t257 t260 bt263.1 bt263.2 bt273.1 t277 true) else ((spec_Pad.f k bt273.1 bt273.2).bind fun t284 => ((laws_same.f k t277 t284).bind fun t287 => (laws_FnNums.j0 k t256 t257 t260 bt263.1 bt263.2 bt273.1 t277 (!t287))))) else (laws_FnNums.j0 k t256 t257 t260 bt263.1 bt263.2 bt273.1 t277 true)) else (laws_FnNums.j0 k t256 t257 t260 bt263.1 bt263.2 bt273.1 t277 true))))))))))) = some true := H
    have A4 := Aside0.mk A40
    clear A40
    replace H := Option.bind_eq_some_iff.mp H
    obtain ⟨t260, A50, H⟩ := H
    replace H : ((impl_Get2.f t260 (t256.length : Int)).bind fun bt263 => ((spec_DrawGet2.f k l0).bind fun bt265 => ((impl_Get2.f bt265.1 bt265.2).bind fun bt269 => ((spec_Get2.f bt265.1 bt265.2).bind fun bt271 => ((spec_DrawPad.f k l0).bind fun bt273 => ((impl_Pad.f k bt273.1 bt273.2).bind fun t277 => ((spec_Put2.f t256 t257).bind fun t280 => ((laws_same.f k t260 t280).bind fun t283 => (if t283 = true then (if bt269.1 = bt271.1 then (if (bt269.2 != bt271.2) = true then (laws_FnNums.j0 k t256 t257 t260 bt263.1 bt263.2 bt273.1 t277 true) else ((spec_Pad.f k bt273.1 bt273.2).bind fun t284 => ((laws_same.f k t277 t284).bind fun t287 => (laws_FnNums.j0 k t256 t257 t260 bt263.1 bt263.2 bt273.1 t277 (!t287))))) else (laws_FnNums.j0 k t256 t257 t260 bt263.1 bt263.2 bt273.1 t277 true)) else (laws_FnNums.j0 k t256 t257 t260 bt263.1 bt263.2 bt273.1 t277 true)))))))))) = some true := H
    have A5 := Aside0.mk A50
    clear A50
    replace H := Option.bind_eq_some_iff.mp H
    obtain ⟨⟨t263, t264⟩, A60, H⟩ := H
    replace H : ((spec_DrawGet2.f k l0).bind fun bt265 => ((impl_Get2.f bt265.1 bt265.2).bind fun bt269 => ((spec_Get2.f bt265.1 bt265.2).bind fun bt271 => ((spec_DrawPad.f k l0).bind fun bt273 => ((impl_Pad.f k bt273.1 bt273.2).bind fun t277 => ((spec_Put2.f t256 t257).bind fun t280 => ((laws_same.f k t260 t280).bind fun t283 => (if t283 = true then (if bt269.1 = bt271.1 then (if (bt269.2 != bt271.2) = true then (laws_FnNums.j0 k t256 t257 t260 t263 t264 bt273.1 t277 true) else ((spec_Pad.f k bt273.1 bt273.2).bind fun t284 => ((laws_same.f k t277 t284).bind fun t287 => (laws_FnNums.j0 k t256 t257 t260 t263 t264 bt273.1 t277 (!t287))))) else (laws_FnNums.j0 k t256 t257 t260 t263 t264 bt273.1 t277 true)) else (laws_FnNums.j0 k t256 t257 t260 t263 t264 bt273.1 t277 true))))))))) = some true := H
    have A6 := Aside0.mk A60
    clear A60
    replace H := Option.bind_eq_some_iff.mp H
    obtain ⟨⟨t265, t266⟩, A70, H⟩ := H
    replace H : ((impl_Get2.f t265 t266).bind fun bt269 => ((spec_Get2.f t265 t266).bind fun bt271 => ((spec_DrawPad.f k l0).bind fun bt273 => ((impl_Pad.f k bt273.1 bt273.2).bind fun t277 => ((spec_Put2.f t256 t257).bind fun t280 => ((laws_same.f k t260 t280).bind fun t283 => (if t283 = true then (if bt269.1 = bt271.1 then (if (bt269.2 != bt271.2) = true then (laws_FnNums.j0 k t256 t257 t260 t263 t264 bt273.1 t277 true) else ((spec_Pad.f k bt273.1 bt273.2).bind fun t284 => ((laws_same.f k t277 t284).bind fun t287 => (laws_FnNums.j0 k t256 t257 t260 t263 t264 bt273.1 t277 (!t287))))) else (laws_FnNums.j0 k t256 t257 t260 t263 t264 bt273.1 t277 true)) else (laws_FnNums.j0 k t256 t257 t260 t263 t264 bt273.1 t277 true)))))))) = some true := H
    have A7 := Aside0.mk A70
    clear A70
    replace H := Option.bind_eq_some_iff.mp H
    obtain ⟨⟨t269, t270⟩, A80, H⟩ := H
    replace H : ((spec_Get2.f t265 t266).bind fun bt271 => ((spec_DrawPad.f k l0).bind fun bt273 => ((impl_Pad.f k bt273.1 bt273.2).bind fun t277 => ((spec_Put2.f t256 t257).bind fun t280 => ((laws_same.f k t260 t280).bind fun t283 => (if t283 = true then (if t269 = bt271.1 then (if (t270 != bt271.2) = true then (laws_FnNums.j0 k t256 t257 t260 t263 t264 bt273.1 t277 true) else ((spec_Pad.f k bt273.1 bt273.2).bind fun t284 => ((laws_same.f k t277 t284).bind fun t287 => (laws_FnNums.j0 k t256 t257 t260 t263 t264 bt273.1 t277 (!t287))))) else (laws_FnNums.j0 k t256 t257 t260 t263 t264 bt273.1 t277 true)) else (laws_FnNums.j0 k t256 t257 t260 t263 t264 bt273.1 t277 true))))))) = some true := H
    have A8 := Aside0.mk A80
    clear A80
    replace H := Option.bind_eq_some_iff.mp H
    obtain ⟨⟨t271, t272⟩, A90, H⟩ := H
    replace H : ((spec_DrawPad.f k l0).bind fun bt273 => ((impl_Pad.f k bt273.1 bt273.2).bind fun t277 => ((spec_Put2.f t256 t257).bind fun t280 => ((laws_same.f k t260 t280).bind fun t283 => (if t283 = true then (if t269 = t271 then (if (t270 != t272) = true then (laws_FnNums.j0 k t256 t257 t260 t263 t264 bt273.1 t277 true) else ((spec_Pad.f k bt273.1 bt273.2).bind fun t284 => ((laws_same.f k t277 t284).bind fun t287 => (laws_FnNums.j0 k t256 t257 t260 t263 t264 bt273.1 t277 (!t287))))) else (laws_FnNums.j0 k t256 t257 t260 t263 t264 bt273.1 t277 true)) else (laws_FnNums.j0 k t256 t257 t260 t263 t264 bt273.1 t277 true)))))) = some true := H
    have A9 := Aside0.mk A90
    clear A90
    replace H := Option.bind_eq_some_iff.mp H
    obtain ⟨⟨t273, t274⟩, A100, H⟩ := H
    replace H : ((impl_Pad.f k t273 t274).bind fun t277 => ((spec_Put2.f t256 t257).bind fun t280 => ((laws_same.f k t260 t280).bind fun t283 => (if t283 = true then (if t269 = t271 then (if (t270 != t272) = true then (laws_FnNums.j0 k t256 t257 t260 t263 t264 t273 t277 true) else ((spec_Pad.f k t273 t274).bind fun t284 => ((laws_same.f k t277 t284).bind fun t287 => (laws_FnNums.j0 k t256 t257 t260 t263 t264 t273 t277 (!t287))))) else (laws_FnNums.j0 k t256 t257 t260 t263 t264 t273 t277 true)) else (laws_FnNums.j0 k t256 t257 t260 t263 t264 t273 t277 true))))) = some true := H
    have A10 := Aside0.mk A100
    clear A100
    replace H := Option.bind_eq_some_iff.mp H
    obtain ⟨t277, A110, H⟩ := H
    replace H : ((spec_Put2.f t256 t257).bind fun t280 => ((laws_same.f k t260 t280).bind fun t283 => (if t283 = true then (if t269 = t271 then (if (t270 != t272) = true then (laws_FnNums.j0 k t256 t257 t260 t263 t264 t273 t277 true) else ((spec_Pad.f k t273 t274).bind fun t284 => ((laws_same.f k t277 t284).bind fun t287 => (laws_FnNums.j0 k t256 t257 t260 t263 t264 t273 t277 (!t287))))) else (laws_FnNums.j0 k t256 t257 t260 t263 t264 t273 t277 true)) else (laws_FnNums.j0 k t256 t257 t260 t263 t264 t273 t277 true)))) = some true := H
    have A11 := Aside0.mk A110
    clear A110
    have HC12 := Aside0.mk H
    clear H
    go_enter Try.func12, Try.ntmps12
    go_upto_region 11 with (first | ((with_reducible refine gate_callee (f := 52) rfl ?_); refine goesL_ (some 18) rfl rfl Try.func52 (by kernel_rfl) rfl #[.slice A0 l0.length c0] rfl (by (try simp only [List.map_toArray, List.map_cons, List.map_nil]); first | done | rfl | (simp only [List.length_drop, List.length_take]; rfl)) ?_; (with_reducible refine (laws_big.calls _ _ l0 false _ ?side1 ?side2 A2.out).mono ?_); (case side1 => repeat (first | exact HR0.out | (with_reducible refine Kd.C_alloc ?_ _) | (with_reducible refine Kd.C_drewN ?_ _) | (with_reducible refine Kd.C_drew ?_))); (case side2 => exact HC0.out); rintro e w' ⟨rfl, ⟨nd, rfl⟩⟩; refine ⟨_, rfl, ?_⟩) | ((with_reducible refine gate_callee (f := 53) rfl ?_); refine goesL_ (some 21) rfl rfl Try.func53 (by kernel_rfl) rfl #[.slice A0 l0.length c0] rfl (by (try simp only [List.map_toArray, List.map_cons, List.map_nil]); first | done | rfl | (simp only [List.length_drop, List.length_take]; rfl)) ?_; (with_reducible refine (spec_DrawPut2.calls k _ _ l0 t256 t257 _ ?side1 ?side2 A4.out).mono ?_); (case side1 => repeat (first | exact HR0.out | (with_reducible refine Kd.C_alloc ?_ _) | (with_reducible refine Kd.C_drewN ?_ _) | (with_reducible refine Kd.C_drew ?_))); (case side2 => exact HC0.out); rintro e w13 ⟨v258, rfl, ho0, hb⟩; refine ⟨_, rfl, ?_⟩; have n0_ := Aside0.mk (Kd.R_lower ho0 (below_size (by repeat (first | (with_reducible first | exact HB.out | apply below_alloc | apply pw_below_drewN | apply below_drew1) | exact HB.out)))); have n1_ := Aside0.mk (below_step (by repeat (first | (with_reducible first | exact HB.out | apply below_alloc | apply pw_below_drewN | apply below_drew1) | exact HB.out)) hb); clear HB; have HO259 := n0_; have HB := n1_; clear n0_ n1_; (try clear hb); (try clear hb2); (try clear hk); (try clear hi); (try clear ho0); obtain ⟨Ao14, co14, eo14⟩ := Kd.R_slice HO259.out; subst eo14) | ((with_reducible refine gate_callee (f := 54) rfl ?_); refine goesL_ (some 26) rfl rfl Try.func54 (by kernel_rfl) rfl #[.slice Ao14 t256.length co14, .int .i64 t257] rfl (by (try simp only [List.map_toArray, List.map_cons, List.map_nil]); first | done | rfl | (simp only [List.length_drop, List.length_take]; rfl)) ?_; (with_reducible refine (impl_Put2.calls _ _ t256 t257 t260 _ ?side1 ?side2 A5.out).mono ?_); (case side1 => repeat (first | exact (Kd.R_reads' HO259.out).2.2 | (with_reducible refine Kd.C_alloc ?_ _) | (with_reducible refine Kd.C_drewN ?_ _) | (with_reducible refine Kd.C_drew ?_))); (case side2 => exact (Kd.R_reads' HO259.out).2.1); rintro e w15 ⟨v261, rfl, ho0, hb⟩; refine ⟨_, rfl, ?_⟩; have n0_ := Aside0.mk (Kd.R_elder' (by (with_reducible repeat (first | apply Kd.R_alloc | apply Kd.R_drewN | apply Kd.R_drew)); exact HO259.out) (Kd.R_base ho0) hb); have n1_ := Aside0.mk (Kd.R_lower (Kd.R_new' ho0 (Kd.R_lt (by (with_reducible repeat (first | apply Kd.R_alloc | apply Kd.R_drewN | apply Kd.R_drew)); exact HO259.out))) (below_size (by repeat (first | (with_reducible first | exact HB.out | apply below_alloc | apply pw_below_drewN | apply below_drew1) | exact HB.out)))); have n2_ := Aside0.mk (below_step (by repeat (first | (with_reducible first | exact HB.out | apply below_alloc | apply pw_below_drewN | apply below_drew1) | exact HB.out)) hb); clear HO259; clear HB; have HO259 := n0_; have HO262 := n1_; have HB := n2_; clear n0_ n1_ n2_; (try clear hb); (try clear hb2); (try clear hk); (try clear hi); (try clear ho0); obtain ⟨Ao16, co16, eo16⟩ := Kd.R_slice HO262.out; subst eo16) | ((with_reducible refine gate_callee (f := 55) rfl ?_); refine goesL_ (some 31) rfl rfl Try.func55 (by kernel_rfl) rfl #[.slice Ao16 t260.length co16, .int .i64 (t256.length : Int)] rfl (by (try simp only [List.map_toArray, List.map_cons, List.map_nil]); first | done | rfl | (simp only [List.length_drop, List.length_take]; rfl)) ?_; (with_reducible refine (impl_Get2.calls _ _ t260 (t256.length : Int) t263 t264 _ ?side1 ?side2 A6.out).mono ?_); (case side1 => repeat (first | exact (Kd.R_reads' HO262.out).2.2 | (with_reducible refine Kd.C_alloc ?_ _) | (with_reducible refine Kd.C_drewN ?_ _) | (with_reducible refine Kd.C_drew ?_))); (case side2 => exact (Kd.R_reads' HO262.out).2.1); rintro e w' ⟨rfl, ⟨nd, rfl⟩⟩; refine ⟨_, rfl, ?_⟩) | ((with_reducible refine gate_callee (f := 56) rfl ?_); refine goesL_ (some 36) rfl rfl Try.func56 (by kernel_rfl) rfl #[.slice A0 l0.length c0] rfl (by (try simp only [List.map_toArray, List.map_cons, List.map_nil]); first | done | rfl | (simp only [List.length_drop, List.length_take]; rfl)) ?_; (with_reducible refine (spec_DrawGet2.calls k _ _ l0 t265 t266 _ ?side1 ?side2 A7.out).mono ?_); (case side1 => repeat (first | exact (Kd.C_below HR0.out (by repeat (first | (with_reducible first | exact HB.out | apply below_alloc | apply pw_below_drewN | apply below_drew1) | exact HB.out))) | (with_reducible refine Kd.C_alloc ?_ _) | (with_reducible refine Kd.C_drewN ?_ _) | (with_reducible refine Kd.C_drew ?_))); (case side2 => exact HC0.out); rintro e w17 ⟨v267, rfl, ho0, hb⟩; refine ⟨_, rfl, ?_⟩; have n0_ := Aside0.mk (Kd.R_elder' (by (with_reducible repeat (first | apply Kd.R_alloc | apply Kd.R_drewN | apply Kd.R_drew)); exact HO259.out) (Kd.R_base ho0) hb); have n1_ := Aside0.mk (Kd.R_elder' (by (with_reducible repeat (first | apply Kd.R_alloc | apply Kd.R_drewN | apply Kd.R_drew)); exact HO262.out) (Kd.R_base ho0) hb); have n2_ := Aside0.mk (Kd.R_lower (Kd.R_new' (Kd.R_new' ho0 (Kd.R_lt (by (with_reducible repeat (first | apply Kd.R_alloc | apply Kd.R_drewN | apply Kd.R_drew)); exact HO259.out))) (Kd.R_lt (by (with_reducible repeat (first | apply Kd.R_alloc | apply Kd.R_drewN | apply Kd.R_drew)); exact HO262.out))) (below_size (by repeat (first | (with_reducible first | exact HB.out | apply below_alloc | apply pw_below_drewN | apply below_drew1) | exact HB.out)))); have n3_ := Aside0.mk (below_step (by repeat (first | (with_reducible first | exact HB.out | apply below_alloc | apply pw_below_drewN | apply below_drew1) | exact HB.out)) hb); clear HO259; clear HO262; clear HB; have HO259 := n0_; have HO262 := n1_; have HO268 := n2_; have HB := n3_; clear n0_ n1_ n2_ n3_; (try clear hb); (try clear hb2); (try clear hk); (try clear hi); (try clear ho0); obtain ⟨Ao18, co18, eo18⟩ := Kd.R_slice HO268.out; subst eo18) | ((with_reducible refine gate_callee (f := 55) rfl ?_); refine goesL_ (some 42) rfl rfl Try.func55 (by kernel_rfl) rfl #[.slice Ao18 t265.length co18, .int .i64 t266] rfl (by (try simp only [List.map_toArray, List.map_cons, List.map_nil]); first | done | rfl | (simp only [List.length_drop, List.length_take]; rfl)) ?_; (with_reducible refine (impl_Get2.calls _ _ t265 t266 t269 t270 _ ?side1 ?side2 A8.out).mono ?_); (case side1 => repeat (first | exact (Kd.R_reads' HO268.out).2.2 | (with_reducible refine Kd.C_alloc ?_ _) | (with_reducible refine Kd.C_drewN ?_ _) | (with_reducible refine Kd.C_drew ?_))); (case side2 => exact (Kd.R_reads' HO268.out).2.1); rintro e w' ⟨rfl, ⟨nd, rfl⟩⟩; refine ⟨_, rfl, ?_⟩) | ((with_reducible refine gate_callee (f := 57) rfl ?_); refine goesL_ (some 48) rfl rfl Try.func57 (by kernel_rfl) rfl #[.slice Ao18 t265.length co18, .int .i64 t266] rfl (by (try simp only [List.map_toArray, List.map_cons, List.map_nil]); first | done | rfl | (simp only [List.length_drop, List.length_take]; rfl)) ?_; (with_reducible refine (spec_Get2.calls _ _ t265 t266 t271 t272 _ ?side1 ?side2 A9.out).mono ?_); (case side1 => repeat (first | exact (Kd.R_reads' HO268.out).2.2 | (with_reducible refine Kd.C_alloc ?_ _) | (with_reducible refine Kd.C_drewN ?_ _) | (with_reducible refine Kd.C_drew ?_))); (case side2 => exact (Kd.R_reads' HO268.out).2.1); rintro e w' ⟨rfl, ⟨nd, rfl⟩⟩; refine ⟨_, rfl, ?_⟩) | ((with_reducible refine gate_callee (f := 58) rfl ?_); refine goesL_ (some 53) rfl rfl Try.func58 (by kernel_rfl) rfl #[.slice A0 l0.length c0] rfl (by (try simp only [List.map_toArray, List.map_cons, List.map_nil]); first | done | rfl | (simp only [List.length_drop, List.length_take]; rfl)) ?_; (with_reducible refine (spec_DrawPad.calls k _ _ l0 t273 t274 _ ?side1 ?side2 A10.out).mono ?_); (case side1 => repeat (first | exact (Kd.C_below HR0.out (by repeat (first | (with_reducible first | exact HB.out | apply below_alloc | apply pw_below_drewN | apply below_drew1) | exact HB.out))) | (with_reducible refine Kd.C_alloc ?_ _) | (with_reducible refine Kd.C_drewN ?_ _) | (with_reducible refine Kd.C_drew ?_))); (case side2 => exact HC0.out); rintro e w19 ⟨v275, rfl, ho0, hb⟩; refine ⟨_, rfl, ?_⟩; have n0_ := Aside0.mk (Kd.R_elder' (by (with_reducible repeat (first | apply Kd.R_alloc | apply Kd.R_drewN | apply Kd.R_drew)); exact HO259.out) (Kd.R_base ho0) hb); have n1_ := Aside0.mk (Kd.R_elder' (by (with_reducible repeat (first | apply Kd.R_alloc | apply Kd.R_drewN | apply Kd.R_drew)); exact HO262.out) (Kd.R_base ho0) hb); have n2_ := Aside0.mk (Kd.R_elder' (by (with_reducible repeat (first | apply Kd.R_alloc | apply Kd.R_drewN | apply Kd.R_drew)); exact HO268.out) (Kd.R_base ho0) hb); have n3_ := Aside0.mk (Kd.R_lower (Kd.R_new' (Kd.R_new' (Kd.R_new' ho0 (Kd.R_lt (by (with_reducible repeat (first | apply Kd.R_alloc | apply Kd.R_drewN | apply Kd.R_drew)); exact HO259.out))) (Kd.R_lt (by (with_reducible repeat (first | apply Kd.R_alloc | apply Kd.R_drewN | apply Kd.R_drew)); exact HO262.out))) (Kd.R_lt (by (with_reducible repeat (first | apply Kd.R_alloc | apply Kd.R_drewN | apply Kd.R_drew)); exact HO268.out))) (below_size (by repeat (first | (with_reducible first | exact HB.out | apply below_alloc | apply pw_below_drewN | apply below_drew1) | exact HB.out)))); have n4_ := Aside0.mk (below_step (by repeat (first | (with_reducible first | exact HB.out | apply below_alloc | apply pw_below_drewN | apply below_drew1) | exact HB.out)) hb); clear HO259; clear HO262; clear HO268; clear HB; have HO259 := n0_; have HO262 := n1_; have HO268 := n2_; have HO276 := n3_; have HB := n4_; clear n0_ n1_ n2_ n3_ n4_; (try clear hb); (try clear hb2); (try clear hk); (try clear hi); (try clear ho0); obtain ⟨Ao20, co20, eo20⟩ := Kd.R_slice HO276.out; subst eo20) | ((with_reducible refine gate_callee (f := 59) rfl ?_); refine goesL_ (some 58) rfl rfl Try.func59 (by kernel_rfl) rfl #[.slice Ao20 t273.length co20, .int .i64 t274] rfl (by (try simp only [List.map_toArray, List.map_cons, List.map_nil]); first | done | rfl | (simp only [List.length_drop, List.length_take]; rfl)) ?_; (with_reducible refine (impl_Pad.calls k _ _ t273 t274 t277 _ ?side1 ?side2 A11.out).mono ?_); (case side1 => repeat (first | exact (Kd.R_reads' HO276.out).2.2 | (with_reducible refine Kd.C_alloc ?_ _) | (with_reducible refine Kd.C_drewN ?_ _) | (with_reducible refine Kd.C_drew ?_))); (case side2 => exact (Kd.R_reads' HO276.out).2.1); rintro e w21 ⟨v278, rfl, ho0, hb⟩; refine ⟨_, rfl, ?_⟩; have n0_ := Aside0.mk (Kd.R_elder' (by (with_reducible repeat (first | apply Kd.R_alloc | apply Kd.R_drewN | apply Kd.R_drew)); exact HO259.out) (Kd.R_base ho0) hb); have n1_ := Aside0.mk (Kd.R_elder' (by (with_reducible repeat (first | apply Kd.R_alloc | apply Kd.R_drewN | apply Kd.R_drew)); exact HO262.out) (Kd.R_base ho0) hb); have n2_ := Aside0.mk (Kd.R_elder' (by (with_reducible repeat (first | apply Kd.R_alloc | apply Kd.R_drewN | apply Kd.R_drew)); exact HO268.out) (Kd.R_base ho0) hb); have n3_ := Aside0.mk (Kd.R_elder' (by (with_reducible repeat (first | apply Kd.R_alloc | apply Kd.R_drewN | apply Kd.R_drew)); exact HO276.out) (Kd.R_base ho0) hb); have n4_ := Aside0.mk (Kd.R_lower (Kd.R_new' (Kd.R_new' (Kd.R_new' (Kd.R_new' ho0 (Kd.R_lt (by (with_reducible repeat (first | apply Kd.R_alloc | apply Kd.R_drewN | apply Kd.R_drew)); exact HO259.out))) (Kd.R_lt (by (with_reducible repeat (first | apply Kd.R_alloc | apply Kd.R_drewN | apply Kd.R_drew)); exact HO262.out))) (Kd.R_lt (by (with_reducible repeat (first | apply Kd.R_alloc | apply Kd.R_drewN | apply Kd.R_drew)); exact HO268.out))) (Kd.R_lt (by (with_reducible repeat (first | apply Kd.R_alloc | apply Kd.R_drewN | apply Kd.R_drew)); exact HO276.out))) (below_size (by repeat (first | (with_reducible first | exact HB.out | apply below_alloc | apply pw_below_drewN | apply below_drew1) | exact HB.out)))); have n5_ := Aside0.mk (below_step (by repeat (first | (with_reducible first | exact HB.out | apply below_alloc | apply pw_below_drewN | apply below_drew1) | exact HB.out)) hb); clear HO259; clear HO262; clear HO268; clear HO276; clear HB; have HO259 := n0_; have HO262 := n1_; have HO268 := n2_; have HO276 := n3_; have HO279 := n4_; have HB := n5_; clear n0_ n1_ n2_ n3_ n4_ n5_; (try clear hb); (try clear hb2); (try clear hk); (try clear hi); (try clear ho0)))
    (try simp only [Act.put, List.setIfInBounds_toArray, List.set_cons_zero, List.set_cons_succ])
    go_cut [82] (fun v82 wc => ∃ (kq : Nat) (x82_11 : Bool), v82 = .bool x82_11 ∧ Aside0 (laws_FnNums.j0 kq t256 t257 t260 t263 t264 t273 t277 x82_11 = some true) ∧ Aside0 (kq ≤ k) ∧ Aside0 (Kd.R (Kd.int .u8) 5 wc w.heap.size (fun k_ => some k_ ≠ ((.slice Ao16 t260.length co16) : Value).ownBlock ∧ some k_ ≠ ((.slice Ao20 t273.length co20) : Value).ownBlock ∧ some k_ ≠ (v278 : Value).ownBlock) (.slice Ao14 t256.length co14) t256) ∧ Aside0 (Kd.R (Kd.int .u8) 5 wc w.heap.size (fun k_ => some k_ ≠ ((.slice Ao14 t256.length co14) : Value).ownBlock ∧ some k_ ≠ ((.slice Ao20 t273.length co20) : Value).ownBlock ∧ some k_ ≠ (v278 : Value).ownBlock) (.slice Ao16 t260.length co16) t260) ∧ Aside0 (Kd.R (Kd.int .u8) 5 wc w.heap.size (fun k_ => some k_ ≠ ((.slice Ao14 t256.length co14) : Value).ownBlock ∧ some k_ ≠ ((.slice Ao16 t260.length co16) : Value).ownBlock ∧ some k_ ≠ (v278 : Value).ownBlock) (.slice Ao20 t273.length co20) t273) ∧ Aside0 (Kd.R (Kd.int .u8) 5 wc w.heap.size (fun k_ => some k_ ≠ ((.slice Ao14 t256.length co14) : Value).ownBlock ∧ some k_ ≠ ((.slice Ao16 t260.length co16) : Value).ownBlock ∧ some k_ ≠ ((.slice Ao20 t273.length co20) : Value).ownBlock) v278 t277) ∧ Aside0 (Below w.heap.size w wc))
    case first =>
      have H := HC12.out
      clear HC12
      replace H := Option.bind_eq_some_iff.mp H
      obtain ⟨t280, A220, H⟩ := H
      replace H : ((laws_same.f k t260 t280).bind fun t283 => (if t283 = true then (if t269 = t271 then (if (t270 != t272) = true then (laws_FnNums.j0 k t256 t257 t260 t263 t264 t273 t277 true) else ((spec_Pad.f k t273 t274).bind fun t284 => ((laws_same.f k t277 t284).bind fun t287 => (laws_FnNums.j0 k t256 t257 t260 t263 t264 t273 t277 (!t287))))) else (laws_FnNums.j0 k t256 t257 t260 t263 t264 t273 t277 true)) else (laws_FnNums.j0 k t256 t257 t260 t263 t264 t273 t277 true))) = some true := H
      have A22 := Aside0.mk A220
      clear A220
      replace H := Option.bind_eq_some_iff.mp H
      obtain ⟨t283, A230, H⟩ := H
      replace H : (if t283 = true then (if t269 = t271 then (if (t270 != t272) = true then (laws_FnNums.j0 k t256 t257 t260 t263 t264 t273 t277 true) else ((spec_Pad.f k t273 t274).bind fun t284 => ((laws_same.f k t277 t284).bind fun t287 => (laws_FnNums.j0 k t256 t257 t260 t263 t264 t273 t277 (!t287))))) else (laws_FnNums.j0 k t256 t257 t260 t263 t264 t273 t277 true)) else (laws_FnNums.j0 k t256 t257 t260 t263 t264 t273 t277 true)) = some true := H
      have A23 := Aside0.mk A230
      clear A230
      by_cases c24 : t283 = true
      · subst c24
        have H1 : (if t269 = t271 then (if (t270 != t272) = true then (laws_FnNums.j0 k t256 t257 t260 t263 t264 t273 t277 true) else ((spec_Pad.f k t273 t274).bind fun t284 => ((laws_same.f k t277 t284).bind fun t287 => (laws_FnNums.j0 k t256 t257 t260 t263 t264 t273 t277 (!t287))))) else (laws_FnNums.j0 k t256 t257 t260 t263 t264 t273 t277 true)) = some true := by rw [if_pos rfl] at H; exact H
        clear H
        have H := H1
        clear H1
        by_cases c25 : t269 = t271
        · rw [if_pos c25] at H
          have c25b0 : (t269 == t271) = true := beq_iff_eq.mpr c25
          have c25b1 : (t269 != t271) = false := bne_eq_false_iff_eq.mpr c25
          clear c25
          (first | rw [c25b0] | (simp only [i64_w, i32_w]; rw [c25b0]) | skip)
          by_cases c26 : (t270 != t272) = true
          · rw [if_pos c26] at H
            have c26b0 : (t270 != t272) = true := c26
            (try (have c26b1 : decide (t270 = t272) = false := by simpa using c26))
            (try (have c26b2 : (t270 == t272) = false := by simpa using c26))
            (try (have c26b3 : ¬ (t270 = t272) := by simpa using c26))
            clear c26
            have H' := Aside0.mk H
            clear H
            go_wp2_with (first | ((with_reducible refine gate_callee (f := 61) rfl ?_); refine goesL_ (some 62) rfl rfl Try.func61 (by kernel_rfl) rfl #[.slice Ao14 t256.length co14, .int .i64 t257] rfl (by (try simp only [List.map_toArray, List.map_cons, List.map_nil]); first | done | rfl | (simp only [List.length_drop, List.length_take]; rfl)) ?_; (with_reducible refine (spec_Put2.calls _ _ t256 t257 t280 _ ?side1 ?side2 A22.out).mono ?_); (case side1 => repeat (first | exact (Kd.R_reads' HO259.out).2.2 | (with_reducible refine Kd.C_alloc ?_ _) | (with_reducible refine Kd.C_drewN ?_ _) | (with_reducible refine Kd.C_drew ?_))); (case side2 => exact (Kd.R_reads' HO259.out).2.1); rintro e w27 ⟨v281, rfl, ho0, hb⟩; refine ⟨_, rfl, ?_⟩; have n0_ := Aside0.mk (Kd.R_elder' (by (with_reducible repeat (first | apply Kd.R_alloc | apply Kd.R_drewN | apply Kd.R_drew)); exact HO259.out) (Kd.R_base ho0) hb); have n1_ := Aside0.mk (Kd.R_elder' (by (with_reducible repeat (first | apply Kd.R_alloc | apply Kd.R_drewN | apply Kd.R_drew)); exact HO262.out) (Kd.R_base ho0) hb); have n2_ := Aside0.mk (Kd.R_elder' (by (with_reducible repeat (first | apply Kd.R_alloc | apply Kd.R_drewN | apply Kd.R_drew)); exact HO268.out) (Kd.R_base ho0) hb); have n3_ := Aside0.mk (Kd.R_elder' (by (with_reducible repeat (first | apply Kd.R_alloc | apply Kd.R_drewN | apply Kd.R_drew)); exact HO276.out) (Kd.R_base ho0) hb); have n4_ := Aside0.mk (Kd.R_elder' (by (with_reducible repeat (first | apply Kd.R_alloc | apply Kd.R_drewN | apply Kd.R_drew)); exact HO279.out) (Kd.R_base ho0) hb); have n5_ := Aside0.mk (Kd.R_lower (Kd.R_new' (Kd.R_new' (Kd.R_new' (Kd.R_new' (Kd.R_new' ho0 (Kd.R_lt (by (with_reducible repeat (first | apply Kd.R_alloc | apply Kd.R_drewN | apply Kd.R_drew)); exact HO259.out))) (Kd.R_lt (by (with_reducible repeat (first | apply Kd.R_alloc | apply Kd.R_drewN | apply Kd.R_drew)); exact HO262.out))) (Kd.R_lt (by (with_reducible repeat (first | apply Kd.R_alloc | apply Kd.R_drewN | apply Kd.R_drew)); exact HO268.out))) (Kd.R_lt (by (with_reducible repeat (first | apply Kd.R_alloc | apply Kd.R_drewN | apply Kd.R_drew)); exact HO276.out))) (Kd.R_lt (by (with_reducible repeat (first | apply Kd.R_alloc | apply Kd.R_drewN | apply Kd.R_drew)); exact HO279.out))) (below_size (by repeat (first | (with_reducible first | exact HB.out | apply below_alloc | apply pw_below_drewN | apply below_drew1) | exact HB.out)))); have n6_ := Aside0.mk (below_step (by repeat (first | (with_reducible first | exact HB.out | apply below_alloc | apply pw_below_drewN | apply below_drew1) | exact HB.out)) hb); clear HO259; clear HO262; clear HO268; clear HO276; clear HO279; clear HB; have HO259 := n0_; have HO262 := n1_; have HO268 := n2_; have HO276 := n3_; have HO279 := n4_; have HO282 := n5_; have HB := n6_; clear n0_ n1_ n2_ n3_ n4_ n5_ n6_; (try clear hb); (try clear hb2); (try clear hk); (try clear hi); (try clear ho0); obtain ⟨Ao28, co28, eo28⟩ := Kd.R_slice HO282.out; subst eo28) | ((with_reducible refine gate_callee (f := 60) rfl ?_); refine goesL_ (some 63) rfl rfl Try.func60 (by kernel_rfl) rfl #[.slice Ao16 t260.length co16, .slice Ao28 t280.length co28] rfl (by (try simp only [List.map_toArray, List.map_cons, List.map_nil]); first | done | rfl | (simp only [List.length_drop, List.length_take]; rfl)) ?_; (with_reducible refine (laws_same.calls k _ _ t260 _ _ t280 true _ ?side1 ?side2 ?side3 ?side4 A23.out).mono ?_); (case side1 => repeat (first | exact (Kd.R_reads' HO262.out).2.2 | (with_reducible refine Kd.C_alloc ?_ _) | (with_reducible refine Kd.C_drewN ?_ _) | (with_reducible refine Kd.C_drew ?_))); (case side2 => exact (Kd.R_reads' HO262.out).2.1); (case side3 => repeat (first | exact (Kd.R_reads' HO282.out).2.2 | (with_reducible refine Kd.C_alloc ?_ _) | (with_reducible refine Kd.C_drewN ?_ _) | (with_reducible refine Kd.C_drew ?_))); (case side4 => exact (Kd.R_reads' HO282.out).2.1); rintro e w' ⟨rfl, ⟨nd, rfl⟩⟩; refine ⟨_, rfl, ?_⟩))
            go_meet
            case rel => exact ⟨_, (true), (by first | rfl | (simp; done) | (simp [*]; done)), H', ⟨by first | omega | exact Nat.le_refl _⟩, ⟨by (with_reducible repeat (first | apply Kd.R_alloc | apply Kd.R_drewN | apply Kd.R_drew)); exact Kd.R_mono HO259.out (fun _ hk => ⟨hk.1.1.1.1.2, ⟨hk.1.1.2, hk.1.2⟩⟩)⟩, ⟨by (with_reducible repeat (first | apply Kd.R_alloc | apply Kd.R_drewN | apply Kd.R_drew)); exact Kd.R_mono HO262.out (fun _ hk => ⟨hk.1.1.1.1.2, ⟨hk.1.1.2, hk.1.2⟩⟩)⟩, ⟨by (with_reducible repeat (first | apply Kd.R_alloc | apply Kd.R_drewN | apply Kd.R_drew)); exact Kd.R_mono HO276.out (fun _ hk => ⟨hk.1.1.1.1.2, ⟨hk.1.1.1.2, hk.1.2⟩⟩)⟩, ⟨by (with_reducible repeat (first | apply Kd.R_alloc | apply Kd.R_drewN | apply Kd.R_drew)); exact Kd.R_mono HO279.out (fun _ hk => ⟨hk.1.1.1.1.2, ⟨hk.1.1.1.2, hk.1.2⟩⟩)⟩, ⟨by repeat (first | (with_reducible first | exact HB.out | apply below_alloc | apply pw_below_drewN | apply below_drew1) | exact HB.out)⟩⟩
          · rw [if_neg c26] at H
            have c26b0 : (t270 != t272) = false := by simpa using c26
            (try (have c26b1 : decide (t270 = t272) = true := by simpa using c26))
            (try (have c26b2 : (t270 == t272) = true := by simpa using c26))
            clear c26
            replace H := Option.bind_eq_some_iff.mp H
            obtain ⟨t284, A290, H⟩ := H
            replace H : ((laws_same.f k t277 t284).bind fun t287 => (laws_FnNums.j0 k t256 t257 t260 t263 t264 t273 t277 (!t287))) = some true := H
            have A29 := Aside0.mk A290
            clear A290
            replace H := Option.bind_eq_some_iff.mp H
            obtain ⟨t287, A300, H⟩ := H
            replace H : (laws_FnNums.j0 k t256 t257 t260 t263 t264 t273 t277 (!t287)) = some true := H
            have A30 := Aside0.mk A300
            clear A300
            have H' := Aside0.mk H
            clear H
            go_wp2_with (first | ((with_reducible refine gate_callee (f := 61) rfl ?_); refine goesL_ (some 62) rfl rfl Try.func61 (by kernel_rfl) rfl #[.slice Ao14 t256.length co14, .int .i64 t257] rfl (by (try simp only [List.map_toArray, List.map_cons, List.map_nil]); first | done | rfl | (simp only [List.length_drop, List.length_take]; rfl)) ?_; (with_reducible refine (spec_Put2.calls _ _ t256 t257 t280 _ ?side1 ?side2 A22.out).mono ?_); (case side1 => repeat (first | exact (Kd.R_reads' HO259.out).2.2 | (with_reducible refine Kd.C_alloc ?_ _) | (with_reducible refine Kd.C_drewN ?_ _) | (with_reducible refine Kd.C_drew ?_))); (case side2 => exact (Kd.R_reads' HO259.out).2.1); rintro e w31 ⟨v281, rfl, ho0, hb⟩; refine ⟨_, rfl, ?_⟩; have n0_ := Aside0.mk (Kd.R_elder' (by (with_reducible repeat (first | apply Kd.R_alloc | apply Kd.R_drewN | apply Kd.R_drew)); exact HO259.out) (Kd.R_base ho0) hb); have n1_ := Aside0.mk (Kd.R_elder' (by (with_reducible repeat (first | apply Kd.R_alloc | apply Kd.R_drewN | apply Kd.R_drew)); exact HO262.out) (Kd.R_base ho0) hb); have n2_ := Aside0.mk (Kd.R_elder' (by (with_reducible repeat (first | apply Kd.R_alloc | apply Kd.R_drewN | apply Kd.R_drew)); exact HO268.out) (Kd.R_base ho0) hb); have n3_ := Aside0.mk (Kd.R_elder' (by (with_reducible repeat (first | apply Kd.R_alloc | apply Kd.R_drewN | apply Kd.R_drew)); exact HO276.out) (Kd.R_base ho0) hb); have n4_ := Aside0.mk (Kd.R_elder' (by (with_reducible repeat (first | apply Kd.R_alloc | apply Kd.R_drewN | apply Kd.R_drew)); exact HO279.out) (Kd.R_base ho0) hb); have n5_ := Aside0.mk (Kd.R_lower (Kd.R_new' (Kd.R_new' (Kd.R_new' (Kd.R_new' (Kd.R_new' ho0 (Kd.R_lt (by (with_reducible repeat (first | apply Kd.R_alloc | apply Kd.R_drewN | apply Kd.R_drew)); exact HO259.out))) (Kd.R_lt (by (with_reducible repeat (first | apply Kd.R_alloc | apply Kd.R_drewN | apply Kd.R_drew)); exact HO262.out))) (Kd.R_lt (by (with_reducible repeat (first | apply Kd.R_alloc | apply Kd.R_drewN | apply Kd.R_drew)); exact HO268.out))) (Kd.R_lt (by (with_reducible repeat (first | apply Kd.R_alloc | apply Kd.R_drewN | apply Kd.R_drew)); exact HO276.out))) (Kd.R_lt (by (with_reducible repeat (first | apply Kd.R_alloc | apply Kd.R_drewN | apply Kd.R_drew)); exact HO279.out))) (below_size (by repeat (first | (with_reducible first | exact HB.out | apply below_alloc | apply pw_below_drewN | apply below_drew1) | exact HB.out)))); have n6_ := Aside0.mk (below_step (by repeat (first | (with_reducible first | exact HB.out | apply below_alloc | apply pw_below_drewN | apply below_drew1) | exact HB.out)) hb); clear HO259; clear HO262; clear HO268; clear HO276; clear HO279; clear HB; have HO259 := n0_; have HO262 := n1_; have HO268 := n2_; have HO276 := n3_; have HO279 := n4_; have HO282 := n5_; have HB := n6_; clear n0_ n1_ n2_ n3_ n4_ n5_ n6_; (try clear hb); (try clear hb2); (try clear hk); (try clear hi); (try clear ho0); obtain ⟨Ao32, co32, eo32⟩ := Kd.R_slice HO282.out; subst eo32) | ((with_reducible refine gate_callee (f := 60) rfl ?_); refine goesL_ (some 63) rfl rfl Try.func60 (by kernel_rfl) rfl #[.slice Ao16 t260.length co16, .slice Ao32 t280.length co32] rfl (by (try simp only [List.map_toArray, List.map_cons, List.map_nil]); first | done | rfl | (simp only [List.length_drop, List.length_take]; rfl)) ?_; (with_reducible refine (laws_same.calls k _ _ t260 _ _ t280 true _ ?side1 ?side2 ?side3 ?side4 A23.out).mono ?_); (case side1 => repeat (first | exact (Kd.R_reads' HO262.out).2.2 | (with_reducible refine Kd.C_alloc ?_ _) | (with_reducible refine Kd.C_drewN ?_ _) | (with_reducible refine Kd.C_drew ?_))); (case side2 => exact (Kd.R_reads' HO262.out).2.1); (case side3 => repeat (first | exact (Kd.R_reads' HO282.out).2.2 | (with_reducible refine Kd.C_alloc ?_ _) | (with_reducible refine Kd.C_drewN ?_ _) | (with_reducible refine Kd.C_drew ?_))); (case side4 => exact (Kd.R_reads' HO282.out).2.1); rintro e w' ⟨rfl, ⟨nd, rfl⟩⟩; refine ⟨_, rfl, ?_⟩) | (go_at_call 62; (with_reducible refine (spec_Pad.calls k _ _ t273 t274 t284 _ ?side1 ?side2 A29.out).mono ?_); (case side1 => repeat (first | exact (Kd.R_reads' HO276.out).2.2 | (with_reducible refine Kd.C_alloc ?_ _) | (with_reducible refine Kd.C_drewN ?_ _) | (with_reducible refine Kd.C_drew ?_))); (case side2 => exact (Kd.R_reads' HO276.out).2.1); rintro e w33 ⟨v285, rfl, ho0, hb⟩; have n0_ := Aside0.mk (Kd.R_elder' (by (with_reducible repeat (first | apply Kd.R_alloc | apply Kd.R_drewN | apply Kd.R_drew)); exact HO259.out) (Kd.R_base ho0) hb); have n1_ := Aside0.mk (Kd.R_elder' (by (with_reducible repeat (first | apply Kd.R_alloc | apply Kd.R_drewN | apply Kd.R_drew)); exact HO262.out) (Kd.R_base ho0) hb); have n2_ := Aside0.mk (Kd.R_elder' (by (with_reducible repeat (first | apply Kd.R_alloc | apply Kd.R_drewN | apply Kd.R_drew)); exact HO268.out) (Kd.R_base ho0) hb); have n3_ := Aside0.mk (Kd.R_elder' (by (with_reducible repeat (first | apply Kd.R_alloc | apply Kd.R_drewN | apply Kd.R_drew)); exact HO276.out) (Kd.R_base ho0) hb); have n4_ := Aside0.mk (Kd.R_elder' (by (with_reducible repeat (first | apply Kd.R_alloc | apply Kd.R_drewN | apply Kd.R_drew)); exact HO279.out) (Kd.R_base ho0) hb); have n5_ := Aside0.mk (Kd.R_elder' (by (with_reducible repeat (first | apply Kd.R_alloc | apply Kd.R_drewN | apply Kd.R_drew)); exact HO282.out) (Kd.R_base ho0) hb); have n6_ := Aside0.mk (Kd.R_lower (Kd.R_new' (Kd.R_new' (Kd.R_new' (Kd.R_new' (Kd.R_new' (Kd.R_new' ho0 (Kd.R_lt (by (with_reducible repeat (first | apply Kd.R_alloc | apply Kd.R_drewN | apply Kd.R_drew)); exact HO259.out))) (Kd.R_lt (by (with_reducible repeat (first | apply Kd.R_alloc | apply Kd.R_drewN | apply Kd.R_drew)); exact HO262.out))) (Kd.R_lt (by (with_reducible repeat (first | apply Kd.R_alloc | apply Kd.R_drewN | apply Kd.R_drew)); exact HO268.out))) (Kd.R_lt (by (with_reducible repeat (first | apply Kd.R_alloc | apply Kd.R_drewN | apply Kd.R_drew)); exact HO276.out))) (Kd.R_lt (by (with_reducible repeat (first | apply Kd.R_alloc | apply Kd.R_drewN | apply Kd.R_drew)); exact HO279.out))) (Kd.R_lt (by (with_reducible repeat (first | apply Kd.R_alloc | apply Kd.R_drewN | apply Kd.R_drew)); exact HO282.out))) (below_size (by repeat (first | (with_reducible first | exact HB.out | apply below_alloc | apply pw_below_drewN | apply below_drew1) | exact HB.out)))); have n7_ := Aside0.mk (below_step (by repeat (first | (with_reducible first | exact HB.out | apply below_alloc | apply pw_below_drewN | apply below_drew1) | exact HB.out)) hb); clear HO259; clear HO262; clear HO268; clear HO276; clear HO279; clear HO282; clear HB; have HO259 := n0_; have HO262 := n1_; have HO268 := n2_; have HO276 := n3_; have HO279 := n4_; have HO282 := n5_; have HO286 := n6_; have HB := n7_; clear n0_ n1_ n2_ n3_ n4_ n5_ n6_ n7_; (try clear hb); (try clear hb2); (try clear hk); (try clear hi); (try clear ho0); obtain ⟨Ao34, co34, eo34⟩ := Kd.R_slice HO279.out; subst eo34; obtain ⟨Ao35, co35, eo35⟩ := Kd.R_slice HO286.out; subst eo35) | (go_at_call 60; (with_reducible refine (laws_same.calls k _ _ t277 _ _ t284 t287 _ ?side1 ?side2 ?side3 ?side4 A30.out).mono ?_); (case side1 => repeat (first | exact (Kd.R_reads' HO279.out).2.2 | (with_reducible refine Kd.C_alloc ?_ _) | (with_reducible refine Kd.C_drewN ?_ _) | (with_reducible refine Kd.C_drew ?_))); (case side2 => exact (Kd.R_reads' HO279.out).2.1); (case side3 => repeat (first | exact (Kd.R_reads' HO286.out).2.2 | (with_reducible refine Kd.C_alloc ?_ _) | (with_reducible refine Kd.C_drewN ?_ _) | (with_reducible refine Kd.C_drew ?_))); (case side4 => exact (Kd.R_reads' HO286.out).2.1); rintro e w' ⟨rfl, ⟨nd, rfl⟩⟩))
            go_meet
            case rel => exact ⟨_, (!t287), (by first | rfl | (simp; done) | (simp [*]; done)), H', ⟨by first | omega | exact Nat.le_refl _⟩, ⟨by (with_reducible repeat (first | apply Kd.R_alloc | apply Kd.R_drewN | apply Kd.R_drew)); exact Kd.R_mono HO259.out (fun _ hk => ⟨hk.1.1.1.1.1.2, ⟨hk.1.1.1.2, hk.1.1.2⟩⟩)⟩, ⟨by (with_reducible repeat (first | apply Kd.R_alloc | apply Kd.R_drewN | apply Kd.R_drew)); exact Kd.R_mono HO262.out (fun _ hk => ⟨hk.1.1.1.1.1.2, ⟨hk.1.1.1.2, hk.1.1.2⟩⟩)⟩, ⟨by (with_reducible repeat (first | apply Kd.R_alloc | apply Kd.R_drewN | apply Kd.R_drew)); exact Kd.R_mono HO276.out (fun _ hk => ⟨hk.1.1.1.1.1.2, ⟨hk.1.1.1.1.2, hk.1.1.2⟩⟩)⟩, ⟨by (with_reducible repeat (first | apply Kd.R_alloc | apply Kd.R_drewN | apply Kd.R_drew)); exact Kd.R_mono HO279.out (fun _ hk => ⟨hk.1.1.1.1.1.2, ⟨hk.1.1.1.1.2, hk.1.1.2⟩⟩)⟩, ⟨by repeat (first | (with_reducible first | exact HB.out | apply below_alloc | apply pw_below_drewN | apply below_drew1) | exact HB.out)⟩⟩
        · rw [if_neg c25] at H
          have c25b0 : (t269 == t271) = false := beq_eq_false_iff_ne.mpr c25
          have c25b1 : (t269 != t271) = true := bne_iff_ne.mpr c25
          (first | rw [c25b0] | (simp only [i64_w, i32_w]; rw [c25b0]) | skip)
          have H' := Aside0.mk H
          clear H
          go_wp2_with (first | ((with_reducible refine gate_callee (f := 61) rfl ?_); refine goesL_ (some 62) rfl rfl Try.func61 (by kernel_rfl) rfl #[.slice Ao14 t256.length co14, .int .i64 t257] rfl (by (try simp only [List.map_toArray, List.map_cons, List.map_nil]); first | done | rfl | (simp only [List.length_drop, List.length_take]; rfl)) ?_; (with_reducible refine (spec_Put2.calls _ _ t256 t257 t280 _ ?side1 ?side2 A22.out).mono ?_); (case side1 => repeat (first | exact (Kd.R_reads' HO259.out).2.2 | (with_reducible refine Kd.C_alloc ?_ _) | (with_reducible refine Kd.C_drewN ?_ _) | (with_reducible refine Kd.C_drew ?_))); (case side2 => exact (Kd.R_reads' HO259.out).2.1); rintro e w36 ⟨v281, rfl, ho0, hb⟩; refine ⟨_, rfl, ?_⟩; have n0_ := Aside0.mk (Kd.R_elder' (by (with_reducible repeat (first | apply Kd.R_alloc | apply Kd.R_drewN | apply Kd.R_drew)); exact HO259.out) (Kd.R_base ho0) hb); have n1_ := Aside0.mk (Kd.R_elder' (by (with_reducible repeat (first | apply Kd.R_alloc | apply Kd.R_drewN | apply Kd.R_drew)); exact HO262.out) (Kd.R_base ho0) hb); have n2_ := Aside0.mk (Kd.R_elder' (by (with_reducible repeat (first | apply Kd.R_alloc | apply Kd.R_drewN | apply Kd.R_drew)); exact HO268.out) (Kd.R_base ho0) hb); have n3_ := Aside0.mk (Kd.R_elder' (by (with_reducible repeat (first | apply Kd.R_alloc | apply Kd.R_drewN | apply Kd.R_drew)); exact HO276.out) (Kd.R_base ho0) hb); have n4_ := Aside0.mk (Kd.R_elder' (by (with_reducible repeat (first | apply Kd.R_alloc | apply Kd.R_drewN | apply Kd.R_drew)); exact HO279.out) (Kd.R_base ho0) hb); have n5_ := Aside0.mk (Kd.R_lower (Kd.R_new' (Kd.R_new' (Kd.R_new' (Kd.R_new' (Kd.R_new' ho0 (Kd.R_lt (by (with_reducible repeat (first | apply Kd.R_alloc | apply Kd.R_drewN | apply Kd.R_drew)); exact HO259.out))) (Kd.R_lt (by (with_reducible repeat (first | apply Kd.R_alloc | apply Kd.R_drewN | apply Kd.R_drew)); exact HO262.out))) (Kd.R_lt (by (with_reducible repeat (first | apply Kd.R_alloc | apply Kd.R_drewN | apply Kd.R_drew)); exact HO268.out))) (Kd.R_lt (by (with_reducible repeat (first | apply Kd.R_alloc | apply Kd.R_drewN | apply Kd.R_drew)); exact HO276.out))) (Kd.R_lt (by (with_reducible repeat (first | apply Kd.R_alloc | apply Kd.R_drewN | apply Kd.R_drew)); exact HO279.out))) (below_size (by repeat (first | (with_reducible first | exact HB.out | apply below_alloc | apply pw_below_drewN | apply below_drew1) | exact HB.out)))); have n6_ := Aside0.mk (below_step (by repeat (first | (with_reducible first | exact HB.out | apply below_alloc | apply pw_below_drewN | apply below_drew1) | exact HB.out)) hb); clear HO259; clear HO262; clear HO268; clear HO276; clear HO279; clear HB; have HO259 := n0_; have HO262 := n1_; have HO268 := n2_; have HO276 := n3_; have HO279 := n4_; have HO282 := n5_; have HB := n6_; clear n0_ n1_ n2_ n3_ n4_ n5_ n6_; (try clear hb); (try clear hb2); (try clear hk); (try clear hi); (try clear ho0); obtain ⟨Ao37, co37, eo37⟩ := Kd.R_slice HO282.out; subst eo37) | ((with_reducible refine gate_callee (f := 60) rfl ?_); refine goesL_ (some 63) rfl rfl Try.func60 (by kernel_rfl) rfl #[.slice Ao16 t260.length co16, .slice Ao37 t280.length co37] rfl (by (try simp only [List.map_toArray, List.map_cons, List.map_nil]); first | done | rfl | (simp only [List.length_drop, List.length_take]; rfl)) ?_; (with_reducible refine (laws_same.calls k _ _ t260 _ _ t280 true _ ?side1 ?side2 ?side3 ?side4 A23.out).mono ?_); (case side1 => repeat (first | exact (Kd.R_reads' HO262.out).2.2 | (with_reducible refine Kd.C_alloc ?_ _) | (with_reducible refine Kd.C_drewN ?_ _) | (with_reducible refine Kd.C_drew ?_))); (case side2 => exact (Kd.R_reads' HO262.out).2.1); (case side3 => repeat (first | exact (Kd.R_reads' HO282.out).2.2 | (with_reducible refine Kd.C_alloc ?_ _) | (with_reducible refine Kd.C_drewN ?_ _) | (with_reducible refine Kd.C_drew ?_))); (case side4 => exact (Kd.R_reads' HO282.out).2.1); rintro e w' ⟨rfl, ⟨nd, rfl⟩⟩; refine ⟨_, rfl, ?_⟩))
          go_meet
          case rel => exact ⟨_, (true), (by first | rfl | (simp; done) | (simp [*]; done)), H', ⟨by first | omega | exact Nat.le_refl _⟩, ⟨by (with_reducible repeat (first | apply Kd.R_alloc | apply Kd.R_drewN | apply Kd.R_drew)); exact Kd.R_mono HO259.out (fun _ hk => ⟨hk.1.1.1.1.2, ⟨hk.1.1.2, hk.1.2⟩⟩)⟩, ⟨by (with_reducible repeat (first | apply Kd.R_alloc | apply Kd.R_drewN | apply Kd.R_drew)); exact Kd.R_mono HO262.out (fun _ hk => ⟨hk.1.1.1.1.2, ⟨hk.1.1.2, hk.1.2⟩⟩)⟩, ⟨by (with_reducible repeat (first | apply Kd.R_alloc | apply Kd.R_drewN | apply Kd.R_drew)); exact Kd.R_mono HO276.out (fun _ hk => ⟨hk.1.1.1.1.2, ⟨hk.1.1.1.2, hk.1.2⟩⟩)⟩, ⟨by (with_reducible repeat (first | apply Kd.R_alloc | apply Kd.R_drewN | apply Kd.R_drew)); exact Kd.R_mono HO279.out (fun _ hk => ⟨hk.1.1.1.1.2, ⟨hk.1.1.1.2, hk.1.2⟩⟩)⟩, ⟨by repeat (first | (with_reducible first | exact HB.out | apply below_alloc | apply pw_below_drewN | apply below_drew1) | exact HB.out)⟩⟩
      · replace c24 := Bool.eq_false_iff.mpr c24
        subst c24
        have H1 : (laws_FnNums.j0 k t256 t257 t260 t263 t264 t273 t277 true) = some true := by rw [if_neg (show ¬ (false = true) by decide)] at H; exact H
        clear H
        have H := H1
        clear H1
        have H' := Aside0.mk H
        clear H
        go_wp2_with (first | ((with_reducible refine gate_callee (f := 61) rfl ?_); refine goesL_ (some 62) rfl rfl Try.func61 (by kernel_rfl) rfl #[.slice Ao14 t256.length co14, .int .i64 t257] rfl (by (try simp only [List.map_toArray, List.map_cons, List.map_nil]); first | done | rfl | (simp only [List.length_drop, List.length_take]; rfl)) ?_; (with_reducible refine (spec_Put2.calls _ _ t256 t257 t280 _ ?side1 ?side2 A22.out).mono ?_); (case side1 => repeat (first | exact (Kd.R_reads' HO259.out).2.2 | (with_reducible refine Kd.C_alloc ?_ _) | (with_reducible refine Kd.C_drewN ?_ _) | (with_reducible refine Kd.C_drew ?_))); (case side2 => exact (Kd.R_reads' HO259.out).2.1); rintro e w38 ⟨v281, rfl, ho0, hb⟩; refine ⟨_, rfl, ?_⟩; have n0_ := Aside0.mk (Kd.R_elder' (by (with_reducible repeat (first | apply Kd.R_alloc | apply Kd.R_drewN | apply Kd.R_drew)); exact HO259.out) (Kd.R_base ho0) hb); have n1_ := Aside0.mk (Kd.R_elder' (by (with_reducible repeat (first | apply Kd.R_alloc | apply Kd.R_drewN | apply Kd.R_drew)); exact HO262.out) (Kd.R_base ho0) hb); have n2_ := Aside0.mk (Kd.R_elder' (by (with_reducible repeat (first | apply Kd.R_alloc | apply Kd.R_drewN | apply Kd.R_drew)); exact HO268.out) (Kd.R_base ho0) hb); have n3_ := Aside0.mk (Kd.R_elder' (by (with_reducible repeat (first | apply Kd.R_alloc | apply Kd.R_drewN | apply Kd.R_drew)); exact HO276.out) (Kd.R_base ho0) hb); have n4_ := Aside0.mk (Kd.R_elder' (by (with_reducible repeat (first | apply Kd.R_alloc | apply Kd.R_drewN | apply Kd.R_drew)); exact HO279.out) (Kd.R_base ho0) hb); have n5_ := Aside0.mk (Kd.R_lower (Kd.R_new' (Kd.R_new' (Kd.R_new' (Kd.R_new' (Kd.R_new' ho0 (Kd.R_lt (by (with_reducible repeat (first | apply Kd.R_alloc | apply Kd.R_drewN | apply Kd.R_drew)); exact HO259.out))) (Kd.R_lt (by (with_reducible repeat (first | apply Kd.R_alloc | apply Kd.R_drewN | apply Kd.R_drew)); exact HO262.out))) (Kd.R_lt (by (with_reducible repeat (first | apply Kd.R_alloc | apply Kd.R_drewN | apply Kd.R_drew)); exact HO268.out))) (Kd.R_lt (by (with_reducible repeat (first | apply Kd.R_alloc | apply Kd.R_drewN | apply Kd.R_drew)); exact HO276.out))) (Kd.R_lt (by (with_reducible repeat (first | apply Kd.R_alloc | apply Kd.R_drewN | apply Kd.R_drew)); exact HO279.out))) (below_size (by repeat (first | (with_reducible first | exact HB.out | apply below_alloc | apply pw_below_drewN | apply below_drew1) | exact HB.out)))); have n6_ := Aside0.mk (below_step (by repeat (first | (with_reducible first | exact HB.out | apply below_alloc | apply pw_below_drewN | apply below_drew1) | exact HB.out)) hb); clear HO259; clear HO262; clear HO268; clear HO276; clear HO279; clear HB; have HO259 := n0_; have HO262 := n1_; have HO268 := n2_; have HO276 := n3_; have HO279 := n4_; have HO282 := n5_; have HB := n6_; clear n0_ n1_ n2_ n3_ n4_ n5_ n6_; (try clear hb); (try clear hb2); (try clear hk); (try clear hi); (try clear ho0); obtain ⟨Ao39, co39, eo39⟩ := Kd.R_slice HO282.out; subst eo39) | ((with_reducible refine gate_callee (f := 60) rfl ?_); refine goesL_ (some 63) rfl rfl Try.func60 (by kernel_rfl) rfl #[.slice Ao16 t260.length co16, .slice Ao39 t280.length co39] rfl (by (try simp only [List.map_toArray, List.map_cons, List.map_nil]); first | done | rfl | (simp only [List.length_drop, List.length_take]; rfl)) ?_; (with_reducible refine (laws_same.calls k _ _ t260 _ _ t280 false _ ?side1 ?side2 ?side3 ?side4 A23.out).mono ?_); (case side1 => repeat (first | exact (Kd.R_reads' HO262.out).2.2 | (with_reducible refine Kd.C_alloc ?_ _) | (with_reducible refine Kd.C_drewN ?_ _) | (with_reducible refine Kd.C_drew ?_))); (case side2 => exact (Kd.R_reads' HO262.out).2.1); (case side3 => repeat (first | exact (Kd.R_reads' HO282.out).2.2 | (with_reducible refine Kd.C_alloc ?_ _) | (with_reducible refine Kd.C_drewN ?_ _) | (with_reducible refine Kd.C_drew ?_))); (case side4 => exact (Kd.R_reads' HO282.out).2.1); rintro e w' ⟨rfl, ⟨nd, rfl⟩⟩; refine ⟨_, rfl, ?_⟩))
        go_meet
        case rel => exact ⟨_, (true), (by first | rfl | (simp; done) | (simp [*]; done)), H', ⟨by first | omega | exact Nat.le_refl _⟩, ⟨by (with_reducible repeat (first | apply Kd.R_alloc | apply Kd.R_drewN | apply Kd.R_drew)); exact Kd.R_mono HO259.out (fun _ hk => ⟨hk.1.1.1.1.2, ⟨hk.1.1.2, hk.1.2⟩⟩)⟩, ⟨by (with_reducible repeat (first | apply Kd.R_alloc | apply Kd.R_drewN | apply Kd.R_drew)); exact Kd.R_mono HO262.out (fun _ hk => ⟨hk.1.1.1.1.2, ⟨hk.1.1.2, hk.1.2⟩⟩)⟩, ⟨by (with_reducible repeat (first | apply Kd.R_alloc | apply Kd.R_drewN | apply Kd.R_drew)); exact Kd.R_mono HO276.out (fun _ hk => ⟨hk.1.1.1.1.2, ⟨hk.1.1.1.2, hk.1.2⟩⟩)⟩, ⟨by (with_reducible repeat (first | apply Kd.R_alloc | apply Kd.R_drewN | apply Kd.R_drew)); exact Kd.R_mono HO279.out (fun _ hk => ⟨hk.1.1.1.1.2, ⟨hk.1.1.1.2, hk.1.2⟩⟩)⟩, ⟨by repeat (first | (with_reducible first | exact HB.out | apply below_alloc | apply pw_below_drewN | apply below_drew1) | exact HB.out)⟩⟩
    case rest =>
      clear HC12
      try clear c1
      try clear c2
      try clear p2
      try clear c3
      try clear c5
      try clear c6
      try clear c12
      try clear c24
      try clear c25
      try clear c25b0
      try clear c25b1
      try clear c26
      try clear c26b0
      try clear c26b1
      try clear c26b2
      obtain ⟨kq, x82_11, rfl, HA, HJ11, HO_3, HO_5, HO_14, HO_16, HB⟩ := hcut
      cases kq with
      | zero => exact absurd HA.out (by simp [laws_FnNums.j0])
      | succ kj11 =>
        have H := HA.out
        clear HA
        simp only [laws_FnNums.j0] at H
        by_cases c40 : x82_11 = true
        · subst c40
          have H1 : (some false) = some true := by rw [if_pos rfl] at H; exact H
          clear H
          have H := H1
          clear H1
          exact absurd H (by simp)
        · replace c40 := Bool.eq_false_iff.mpr c40
          subst c40
          have H1 : (if t257 ≥ 0 then (if (t264 == (decide (t257 ≤ 65535))) = true then (if t264 = true then (if t263 = t257 then (if (t260.length : Int) = (wrap64 ((t256.length : Int) + 2)) then (if 0 ≤ (t256.length : Int) then (if (t256.length : Int) ≤ (t260.length : Int) then ((laws_same.f kj11 (t260.take ((t256.length : Int) : Int).toNat) t256).bind fun t292 => (if t292 = true then (if (t277.length : Int) ≥ (t273.length : Int) then (if 0 ≤ (t273.length : Int) then (if (t273.length : Int) ≤ (t277.length : Int) then ((laws_same.f kj11 (t277.take ((t273.length : Int) : Int).toNat) t273).bind fun t297 => (if t297 = true then ((impl_Put2.f t256 0).bind fun t298 => (some ((t298.length : Int) == (wrap64 ((t256.length : Int) + 2))))) else (some false))) else (none)) else (none)) else (some false)) else (some false))) else (none)) else (none)) else (some false)) else (some false)) else (if 0 ≤ (t256.length : Int) then (if (t256.length : Int) ≤ (t260.length : Int) then ((laws_same.f kj11 (t260.take ((t256.length : Int) : Int).toNat) t256).bind fun t305 => (if t305 = true then (if (t277.length : Int) ≥ (t273.length : Int) then (if 0 ≤ (t273.length : Int) then (if (t273.length : Int) ≤ (t277.length : Int) then ((laws_same.f kj11 (t277.take ((t273.length : Int) : Int).toNat) t273).bind fun t310 => (if t310 = true then ((impl_Put2.f t256 0).bind fun t311 => (some ((t311.length : Int) == (wrap64 ((t256.length : Int) + 2))))) else (some false))) else (none)) else (none)) else (some false)) else (some false))) else (none)) else (none))) else (some false)) else (if (t264 == false) = true then (if t264 = true then (if t263 = t257 then (if (t260.length : Int) = (wrap64 ((t256.length : Int) + 2)) then (if 0 ≤ (t256.length : Int) then (if (t256.length : Int) ≤ (t260.length : Int) then ((laws_same.f kj11 (t260.take ((t256.length : Int) : Int).toNat) t256).bind fun t318 => (if t318 = true then (if (t277.length : Int) ≥ (t273.length : Int) then (if 0 ≤ (t273.length : Int) then (if (t273.length : Int) ≤ (t277.length : Int) then ((laws_same.f kj11 (t277.take ((t273.length : Int) : Int).toNat) t273).bind fun t323 => (if t323 = true then ((impl_Put2.f t256 0).bind fun t324 => (some ((t324.length : Int) == (wrap64 ((t256.length : Int) + 2))))) else (some false))) else (none)) else (none)) else (some false)) else (some false))) else (none)) else (none)) else (some false)) else (some false)) else (if 0 ≤ (t256.length : Int) then (if (t256.length : Int) ≤ (t260.length : Int) then ((laws_same.f kj11 (t260.take ((t256.length : Int) : Int).toNat) t256).bind fun t331 => (if t331 = true then (if (t277.length : Int) ≥ (t273.length : Int) then (if 0 ≤ (t273.length : Int) then (if (t273.length : Int) ≤ (t277.length : Int) then ((laws_same.f kj11 (t277.take ((t273.length : Int) : Int).toNat) t273).bind fun t336 => (if t336 = true then ((impl_Put2.f t256 0).bind fun t337 => (some ((t337.length : Int) == (wrap64 ((t256.length : Int) + 2))))) else (some false))) else (none)) else (none)) else (some false)) else (some false))) else (none)) else (none))) else (some false))) = some true := by rw [if_neg (show ¬ (false = true) by decide)] at H; exact H
          clear H
          have H := H1
          clear H1
          by_cases c41 : t257 ≥ 0
          · rw [if_pos c41] at H
            have c41b0 : decide (0 ≤ t257) = true := decide_eq_true c41
            clear c41
            by_cases c42 : (t264 == (decide (t257 ≤ 65535))) = true
            · rw [if_pos c42] at H
              have c42b0 : (t264 == (decide (t257 ≤ 65535))) = true := c42
              (try (have c42b1 : decide (t264 = (decide (t257 ≤ 65535))) = true := by simpa using c42))
              (try (have c42b2 : (t264 == (decide (t257 ≤ 65535))) = true := by simpa using c42))
              clear c42
              by_cases c43 : t264 = true
              · subst c43
                have H1 : (if t263 = t257 then (if (t260.length : Int) = (wrap64 ((t256.length : Int) + 2)) then (if 0 ≤ (t256.length : Int) then (if (t256.length : Int) ≤ (t260.length : Int) then ((laws_same.f kj11 (t260.take ((t256.length : Int) : Int).toNat) t256).bind fun t292 => (if t292 = true then (if (t277.length : Int) ≥ (t273.length : Int) then (if 0 ≤ (t273.length : Int) then (if (t273.length : Int) ≤ (t277.length : Int) then ((laws_same.f kj11 (t277.take ((t273.length : Int) : Int).toNat) t273).bind fun t297 => (if t297 = true then ((impl_Put2.f t256 0).bind fun t298 => (some ((t298.length : Int) == (wrap64 ((t256.length : Int) + 2))))) else (some false))) else (none)) else (none)) else (some false)) else (some false))) else (none)) else (none)) else (some false)) else (some false)) = some true := by rw [if_pos rfl] at H; exact H
                clear H
                have H := H1
                clear H1
                by_cases c44 : t263 = t257
                · rw [if_pos c44] at H
                  have c44b0 : (t263 == t257) = true := beq_iff_eq.mpr c44
                  have c44b1 : (t263 != t257) = false := bne_eq_false_iff_eq.mpr c44
                  clear c44
                  by_cases c45 : (t260.length : Int) = (wrap64 ((t256.length : Int) + 2))
                  · rw [if_pos c45] at H
                    have c45b0 : ((t260.length : Int) == (wrap64 ((t256.length : Int) + 2))) = true := beq_iff_eq.mpr c45
                    have c45b1 : ((t260.length : Int) != (wrap64 ((t256.length : Int) + 2))) = false := bne_eq_false_iff_eq.mpr c45
                    clear c45
                    by_cases c46 : 0 ≤ (t256.length : Int)
                    · rw [if_pos c46] at H
                      have c46b0 := eq_true c46
                      have c46b1 : decide (0 ≤ (t256.length : Int)) = true := decide_eq_true c46
                      clear c46
                      by_cases c47 : (t256.length : Int) ≤ (t260.length : Int)
                      · rw [if_pos c47] at H
                        have c47b0 := eq_true c47
                        have c47b1 : decide ((t256.length : Int) ≤ (t260.length : Int)) = true := decide_eq_true c47
                        clear c47
                        obtain ⟨y288, hy288⟩ : ∃ y_ : List Int, y_ = (t260.take ((t256.length : Int) : Int).toNat) := ⟨_, rfl⟩
                        replace H : ((laws_same.f kj11 y288 t256).bind fun t292 => (if t292 = true then (if (t277.length : Int) ≥ (t273.length : Int) then (if 0 ≤ (t273.length : Int) then (if (t273.length : Int) ≤ (t277.length : Int) then ((laws_same.f kj11 (t277.take ((t273.length : Int) : Int).toNat) t273).bind fun t297 => (if t297 = true then ((impl_Put2.f t256 0).bind fun t298 => (some ((t298.length : Int) == (wrap64 ((t256.length : Int) + 2))))) else (some false))) else (none)) else (none)) else (some false)) else (some false))) = some true := by first | (rw [hy288]; with_reducible exact H) | (have H2_ := (Option.bind_some _ _).symm.trans H; rw [hy288]; with_reducible exact H2_) | (have H2_ := (Option.bind_some _ _).symm.trans H; with_reducible exact H2_) | with_reducible exact H | (rw [hy288]; exact H) | exact H
                        have Ny288 := Aside0.mk hy288
                        clear hy288
                        replace H := Option.bind_eq_some_iff.mp H
                        obtain ⟨t292, A480, H⟩ := H
                        replace H : (if t292 = true then (if (t277.length : Int) ≥ (t273.length : Int) then (if 0 ≤ (t273.length : Int) then (if (t273.length : Int) ≤ (t277.length : Int) then ((laws_same.f kj11 (t277.take ((t273.length : Int) : Int).toNat) t273).bind fun t297 => (if t297 = true then ((impl_Put2.f t256 0).bind fun t298 => (some ((t298.length : Int) == (wrap64 ((t256.length : Int) + 2))))) else (some false))) else (none)) else (none)) else (some false)) else (some false)) = some true := H
                        have A48 := Aside0.mk A480
                        clear A480
                        by_cases c49 : t292 = true
                        · subst c49
                          have H1 : (if (t277.length : Int) ≥ (t273.length : Int) then (if 0 ≤ (t273.length : Int) then (if (t273.length : Int) ≤ (t277.length : Int) then ((laws_same.f kj11 (t277.take ((t273.length : Int) : Int).toNat) t273).bind fun t297 => (if t297 = true then ((impl_Put2.f t256 0).bind fun t298 => (some ((t298.length : Int) == (wrap64 ((t256.length : Int) + 2))))) else (some false))) else (none)) else (none)) else (some false)) = some true := by rw [if_pos rfl] at H; exact H
                          clear H
                          have H := H1
                          clear H1
                          by_cases c50 : (t277.length : Int) ≥ (t273.length : Int)
                          · rw [if_pos c50] at H
                            have c50b0 : decide ((t273.length : Int) ≤ (t277.length : Int)) = true := decide_eq_true c50
                            have c50b1 : decide (t273.length ≤ t277.length) = true := decide_eq_true (Int.ofNat_le.mp c50)
                            clear c50
                            by_cases c51 : 0 ≤ (t273.length : Int)
                            · rw [if_pos c51] at H
                              have c51b0 := eq_true c51
                              have c51b1 : decide (0 ≤ (t273.length : Int)) = true := decide_eq_true c51
                              clear c51
                              by_cases c52 : (t273.length : Int) ≤ (t277.length : Int)
                              · rw [if_pos c52] at H
                                have c52b0 := eq_true c52
                                have c52b1 : decide ((t273.length : Int) ≤ (t277.length : Int)) = true := decide_eq_true c52
                                clear c52
                                obtain ⟨y293, hy293⟩ : ∃ y_ : List Int, y_ = (t277.take ((t273.length : Int) : Int).toNat) := ⟨_, rfl⟩
                                replace H : ((laws_same.f kj11 y293 t273).bind fun t297 => (if t297 = true then ((impl_Put2.f t256 0).bind fun t298 => (some ((t298.length : Int) == (wrap64 ((t256.length : Int) + 2))))) else (some false))) = some true := by first | (rw [hy293]; with_reducible exact H) | (have H2_ := (Option.bind_some _ _).symm.trans H; rw [hy293]; with_reducible exact H2_) | (have H2_ := (Option.bind_some _ _).symm.trans H; with_reducible exact H2_) | with_reducible exact H | (rw [hy293]; exact H) | exact H
                                have Ny293 := Aside0.mk hy293
                                clear hy293
                                replace H := Option.bind_eq_some_iff.mp H
                                obtain ⟨t297, A530, H⟩ := H
                                replace H : (if t297 = true then ((impl_Put2.f t256 0).bind fun t298 => (some ((t298.length : Int) == (wrap64 ((t256.length : Int) + 2))))) else (some false)) = some true := H
                                have A53 := Aside0.mk A530
                                clear A530
                                by_cases c54 : t297 = true
                                · subst c54
                                  have H1 : ((impl_Put2.f t256 0).bind fun t298 => (some ((t298.length : Int) == (wrap64 ((t256.length : Int) + 2))))) = some true := by rw [if_pos rfl] at H; exact H
                                  clear H
                                  have H := H1
                                  clear H1
                                  replace H := Option.bind_eq_some_iff.mp H
                                  obtain ⟨t298, A550, H⟩ := H
                                  replace H : (some ((t298.length : Int) == (wrap64 ((t256.length : Int) + 2)))) = some true := H
                                  have A55 := Aside0.mk A550
                                  clear A550
                                  have hrv_ := Aside0.mk (show (((t298.length : Int) == (wrap64 ((t256.length : Int) + 2)))) = true from Option.some.inj H)
                                  clear H
                                  have q56 : ((t256.length : Int) : Int) ≤ ((t260.length : Int) : Int) := of_decide_eq_true (by first | (with_reducible assumption) | assumption)
                                  obtain ⟨i056, hi056, _, hsz56, _⟩ := info_parts info5
                                  have hroom56 : t260.length ≤ co16 := (Kd.R_reads' HO_5.out).2.1
                                  have hC56 : Kd.C (Kd.int .u8) _ Ao16 t260.length t260 := (Kd.R_reads' HO_5.out).2.2
                                  have hcut56 := cut_to (P := Try.prog) 58 5 .i64 Try.underlying58 hi056 Ao16 t260.length co16 (t256.length : Int) (of_decide_eq_true (by first | (with_reducible assumption) | assumption)) q56 hroom56
                                  have hr56 := Kd.C_take (m := ((t256.length : Int) : Int).toNat) hC56 (by omega)
                                  have hy56 : y288.length = ((t256.length : Int) : Int).toNat := (by rw [Ny288.out, List.length_take]; omega)
                                  rw [← Ny288.out] at hr56
                                  rw [← hy56] at hcut56
                                  have HR291 := Aside0.mk hr56
                                  have HC291 := Aside0.mk (show y288.length ≤ co16 from by omega)
                                  clear hr56 hC56 hroom56 hi056 hsz56
                                  have KY56 := Aside0.mk hy56
                                  clear hy56
                                  have KL56 := Aside0.mk (show ((t256.length : Int) : Int).toNat ≤ t260.length from by omega)
                                  replace q56 := eq_true q56
                                  go_wp2_with (first | (go_at_call 60; (with_reducible refine (laws_same.calls kj11 _ _ y288 _ _ t256 true _ ?side1 ?side2 ?side3 ?side4 A48.out).mono ?_); (case side1 => repeat (first | exact (by repeat (first | (with_reducible exact HR291.out) | (with_reducible refine Kd.C_alloc ?_ _) | (with_reducible refine Kd.C_drewN ?_ _) | (with_reducible refine Kd.C_drew ?_) | exact HR291.out)) | (with_reducible refine Kd.C_alloc ?_ _) | (with_reducible refine Kd.C_drewN ?_ _) | (with_reducible refine Kd.C_drew ?_))); (case side2 => exact HC291.out); (case side3 => repeat (first | exact (Kd.R_reads' HO_3.out).2.2 | (with_reducible refine Kd.C_alloc ?_ _) | (with_reducible refine Kd.C_drewN ?_ _) | (with_reducible refine Kd.C_drew ?_))); (case side4 => exact (Kd.R_reads' HO_3.out).2.1); rintro e w' ⟨rfl, ⟨nd, rfl⟩⟩; obtain ⟨Ao57, co57, eo57⟩ := Kd.R_slice HO_16.out; subst eo57; have q58 : ((t273.length : Int) : Int) ≤ ((t277.length : Int) : Int) := of_decide_eq_true (by first | (with_reducible assumption) | assumption); obtain ⟨i058, hi058, _, hsz58, _⟩ := info_parts info5; have hroom58 : t277.length ≤ co57 := (Kd.R_reads' HO_16.out).2.1; have hC58 : Kd.C (Kd.int .u8) _ Ao57 t277.length t277 := (Kd.R_reads' HO_16.out).2.2; have hcut58 := cut_to (P := Try.prog) 58 5 .i64 Try.underlying58 hi058 Ao57 t277.length co57 (t273.length : Int) (of_decide_eq_true (by first | (with_reducible assumption) | assumption)) q58 hroom58; have hr58 := Kd.C_take (m := ((t273.length : Int) : Int).toNat) hC58 (by omega); have hy58 : y293.length = ((t273.length : Int) : Int).toNat := (by rw [Ny293.out, List.length_take]; omega); rw [← Ny293.out] at hr58; rw [← hy58] at hcut58; have HR296 := Aside0.mk hr58; have HC296 := Aside0.mk (show y293.length ≤ co57 from by omega); clear hr58 hC58 hroom58 hi058 hsz58; have KY58 := Aside0.mk hy58; clear hy58; have KL58 := Aside0.mk (show ((t273.length : Int) : Int).toNat ≤ t277.length from by omega); replace q58 := eq_true q58) | (go_at_call 60; (with_reducible refine (laws_same.calls kj11 _ _ y293 _ _ t273 true _ ?side1 ?side2 ?side3 ?side4 A53.out).mono ?_); (case side1 => repeat (first | exact (by repeat (first | (with_reducible exact HR296.out) | (with_reducible refine Kd.C_alloc ?_ _) | (with_reducible refine Kd.C_drewN ?_ _) | (with_reducible refine Kd.C_drew ?_) | exact HR296.out)) | (with_reducible refine Kd.C_alloc ?_ _) | (with_reducible refine Kd.C_drewN ?_ _) | (with_reducible refine Kd.C_drew ?_))); (case side2 => exact HC296.out); (case side3 => repeat (first | exact (Kd.R_reads' HO_14.out).2.2 | (with_reducible refine Kd.C_alloc ?_ _) | (with_reducible refine Kd.C_drewN ?_ _) | (with_reducible refine Kd.C_drew ?_))); (case side4 => exact (Kd.R_reads' HO_14.out).2.1); rintro e w' ⟨rfl, ⟨nd, rfl⟩⟩) | (go_at_call 54; (with_reducible refine (impl_Put2.calls _ _ t256 0 t298 _ ?side1 ?side2 A55.out).mono ?_); (case side1 => repeat (first | exact (Kd.R_reads' HO_3.out).2.2 | (with_reducible refine Kd.C_alloc ?_ _) | (with_reducible refine Kd.C_drewN ?_ _) | (with_reducible refine Kd.C_drew ?_))); (case side2 => exact (Kd.R_reads' HO_3.out).2.1); rintro e w59 ⟨v299, rfl, ho0, hb⟩; have n0_ := Aside0.mk (Kd.R_elder' (by (with_reducible repeat (first | apply Kd.R_alloc | apply Kd.R_drewN | apply Kd.R_drew)); exact HO_3.out) (Kd.R_base ho0) hb); have n1_ := Aside0.mk (Kd.R_elder' (by (with_reducible repeat (first | apply Kd.R_alloc | apply Kd.R_drewN | apply Kd.R_drew)); exact HO_5.out) (Kd.R_base ho0) hb); have n2_ := Aside0.mk (Kd.R_elder' (by (with_reducible repeat (first | apply Kd.R_alloc | apply Kd.R_drewN | apply Kd.R_drew)); exact HO_14.out) (Kd.R_base ho0) hb); have n3_ := Aside0.mk (Kd.R_elder' (by (with_reducible repeat (first | apply Kd.R_alloc | apply Kd.R_drewN | apply Kd.R_drew)); exact HO_16.out) (Kd.R_base ho0) hb); have n4_ := Aside0.mk (Kd.R_lower (Kd.R_new' (Kd.R_new' (Kd.R_new' (Kd.R_new' ho0 (Kd.R_lt (by (with_reducible repeat (first | apply Kd.R_alloc | apply Kd.R_drewN | apply Kd.R_drew)); exact HO_3.out))) (Kd.R_lt (by (with_reducible repeat (first | apply Kd.R_alloc | apply Kd.R_drewN | apply Kd.R_drew)); exact HO_5.out))) (Kd.R_lt (by (with_reducible repeat (first | apply Kd.R_alloc | apply Kd.R_drewN | apply Kd.R_drew)); exact HO_14.out))) (Kd.R_lt (by (with_reducible repeat (first | apply Kd.R_alloc | apply Kd.R_drewN | apply Kd.R_drew)); exact HO_16.out))) (below_size (by repeat (first | (with_reducible first | exact HB.out | apply below_alloc | apply pw_below_drewN | apply below_drew1) | exact HB.out)))); have n7_ := Aside0.mk (below_step (by repeat (first | (with_reducible first | exact HB.out | apply below_alloc | apply pw_below_drewN | apply below_drew1) | exact HB.out)) hb); clear HO_3; clear HO_5; clear HO_14; clear HO_16; clear HB; have HO_3 := n0_; have HO_5 := n1_; have HO_14 := n2_; have HO_16 := n3_; have HO300 := n4_; have HB := n7_; clear n0_ n1_ n2_ n3_ n4_ n7_; (try clear hb); (try clear hb2); (try clear hk); (try clear hi); (try clear ho0); obtain ⟨Ao60, co60, eo60⟩ := Kd.R_slice HO300.out; subst eo60))
                                  go_ret
                                  exact ⟨by first | rfl | (rw [hrv_.out]; done) | (rw [hrv_.out]; rfl) | (have hrv1_ := hrv_.out; simp [hrv1_]; done) | (simp [errW_none, errW_some] <;> rfl) | (simp [*, errW_none, errW_some] <;> rfl), by repeat (first | (with_reducible first | exact HB.out | apply below_alloc | apply pw_below_drewN | apply below_drew1) | exact HB.out)⟩
                                · replace c54 := Bool.eq_false_iff.mpr c54
                                  subst c54
                                  have H1 : (some false) = some true := by rw [if_neg (show ¬ (false = true) by decide)] at H; exact H
                                  clear H
                                  have H := H1
                                  clear H1
                                  exact absurd H (by simp)
                              · rw [if_neg c52] at H
                                exact absurd H (by simp)
                            · rw [if_neg c51] at H
                              exact absurd H (by simp)
                          · rw [if_neg c50] at H
                            have c50b0 : decide ((t273.length : Int) ≤ (t277.length : Int)) = false := decide_eq_false c50
                            have c50b1 : decide (t273.length ≤ t277.length) = false := decide_eq_false (fun h => c50 (Int.ofNat_le.mpr h))
                            clear c50
                            exact absurd H (by simp)
                        · replace c49 := Bool.eq_false_iff.mpr c49
                          subst c49
                          have H1 : (some false) = some true := by rw [if_neg (show ¬ (false = true) by decide)] at H; exact H
                          clear H
                          have H := H1
                          clear H1
                          exact absurd H (by simp)
                      · rw [if_neg c47] at H
                        exact absurd H (by simp)
                    · rw [if_neg c46] at H
                      exact absurd H (by simp)
                  · rw [if_neg c45] at H
                    have c45b0 : ((t260.length : Int) == (wrap64 ((t256.length : Int) + 2))) = false := beq_eq_false_iff_ne.mpr c45
                    have c45b1 : ((t260.length : Int) != (wrap64 ((t256.length : Int) + 2))) = true := bne_iff_ne.mpr c45
                    exact absurd H (by simp)
                · rw [if_neg c44] at H
                  have c44b0 : (t263 == t257) = false := beq_eq_false_iff_ne.mpr c44
                  have c44b1 : (t263 != t257) = true := bne_iff_ne.mpr c44
                  exact absurd H (by simp)
              · replace c43 := Bool.eq_false_iff.mpr c43
                subst c43
                have H1 : (if 0 ≤ (t256.length : Int) then (if (t256.length : Int) ≤ (t260.length : Int) then ((laws_same.f kj11 (t260.take ((t256.length : Int) : Int).toNat) t256).bind fun t305 => (if t305 = true then (if (t277.length : Int) ≥ (t273.length : Int) then (if 0 ≤ (t273.length : Int) then (if (t273.length : Int) ≤ (t277.length : Int) then ((laws_same.f kj11 (t277.take ((t273.length : Int) : Int).toNat) t273).bind fun t310 => (if t310 = true then ((impl_Put2.f t256 0).bind fun t311 => (some ((t311.length : Int) == (wrap64 ((t256.length : Int) + 2))))) else (some false))) else (none)) else (none)) else (some false)) else (some false))) else (none)) else (none)) = some true := by rw [if_neg (show ¬ (false = true) by decide)] at H; exact H
                clear H
                have H := H1
                clear H1
                by_cases c61 : 0 ≤ (t256.length : Int)
                · rw [if_pos c61] at H
                  have c61b0 := eq_true c61
                  have c61b1 : decide (0 ≤ (t256.length : Int)) = true := decide_eq_true c61
                  clear c61
                  by_cases c62 : (t256.length : Int) ≤ (t260.length : Int)
                  · rw [if_pos c62] at H
                    have c62b0 := eq_true c62
                    have c62b1 : decide ((t256.length : Int) ≤ (t260.length : Int)) = true := decide_eq_true c62
                    clear c62
                    obtain ⟨y301, hy301⟩ : ∃ y_ : List Int, y_ = (t260.take ((t256.length : Int) : Int).toNat) := ⟨_, rfl⟩
                    replace H : ((laws_same.f kj11 y301 t256).bind fun t305 => (if t305 = true then (if (t277.length : Int) ≥ (t273.length : Int) then (if 0 ≤ (t273.length : Int) then (if (t273.length : Int) ≤ (t277.length : Int) then ((laws_same.f kj11 (t277.take ((t273.length : Int) : Int).toNat) t273).bind fun t310 => (if t310 = true then ((impl_Put2.f t256 0).bind fun t311 => (some ((t311.length : Int) == (wrap64 ((t256.length : Int) + 2))))) else (some false))) else (none)) else (none)) else (some false)) else (some false))) = some true := by first | (rw [hy301]; with_reducible exact H) | (have H2_ := (Option.bind_some _ _).symm.trans H; rw [hy301]; with_reducible exact H2_) | (have H2_ := (Option.bind_some _ _).symm.trans H; with_reducible exact H2_) | with_reducible exact H | (rw [hy301]; exact H) | exact H
                    have Ny301 := Aside0.mk hy301
                    clear hy301
                    replace H := Option.bind_eq_some_iff.mp H
                    obtain ⟨t305, A630, H⟩ := H
                    replace H : (if t305 = true then (if (t277.length : Int) ≥ (t273.length : Int) then (if 0 ≤ (t273.length : Int) then (if (t273.length : Int) ≤ (t277.length : Int) then ((laws_same.f kj11 (t277.take ((t273.length : Int) : Int).toNat) t273).bind fun t310 => (if t310 = true then ((impl_Put2.f t256 0).bind fun t311 => (some ((t311.length : Int) == (wrap64 ((t256.length : Int) + 2))))) else (some false))) else (none)) else (none)) else (some false)) else (some false)) = some true := H
                    have A63 := Aside0.mk A630
                    clear A630
                    by_cases c64 : t305 = true
                    · subst c64
                      have H1 : (if (t277.length : Int) ≥ (t273.length : Int) then (if 0 ≤ (t273.length : Int) then (if (t273.length : Int) ≤ (t277.length : Int) then ((laws_same.f kj11 (t277.take ((t273.length : Int) : Int).toNat) t273).bind fun t310 => (if t310 = true then ((impl_Put2.f t256 0).bind fun t311 => (some ((t311.length : Int) == (wrap64 ((t256.length : Int) + 2))))) else (some false))) else (none)) else (none)) else (some false)) = some true := by rw [if_pos rfl] at H; exact H
                      clear H
                      have H := H1
                      clear H1
                      by_cases c65 : (t277.length : Int) ≥ (t273.length : Int)
                      · rw [if_pos c65] at H
                        have c65b0 : decide ((t273.length : Int) ≤ (t277.length : Int)) = true := decide_eq_true c65
                        have c65b1 : decide (t273.length ≤ t277.length) = true := decide_eq_true (Int.ofNat_le.mp c65)
                        clear c65
                        by_cases c66 : 0 ≤ (t273.length : Int)
                        · rw [if_pos c66] at H
                          have c66b0 := eq_true c66
                          have c66b1 : decide (0 ≤ (t273.length : Int)) = true := decide_eq_true c66
                          clear c66
                          by_cases c67 : (t273.length : Int) ≤ (t277.length : Int)
                          · rw [if_pos c67] at H
                            have c67b0 := eq_true c67
                            have c67b1 : decide ((t273.length : Int) ≤ (t277.length : Int)) = true := decide_eq_true c67
                            clear c67
                            obtain ⟨y306, hy306⟩ : ∃ y_ : List Int, y_ = (t277.take ((t273.length : Int) : Int).toNat) := ⟨_, rfl⟩
                            replace H : ((laws_same.f kj11 y306 t273).bind fun t310 => (if t310 = true then ((impl_Put2.f t256 0).bind fun t311 => (some ((t311.length : Int) == (wrap64 ((t256.length : Int) + 2))))) else (some false))) = some true := by first | (rw [hy306]; with_reducible exact H) | (have H2_ := (Option.bind_some _ _).symm.trans H; rw [hy306]; with_reducible exact H2_) | (have H2_ := (Option.bind_some _ _).symm.trans H; with_reducible exact H2_) | with_reducible exact H | (rw [hy306]; exact H) | exact H
                            have Ny306 := Aside0.mk hy306
                            clear hy306
                            replace H := Option.bind_eq_some_iff.mp H
                            obtain ⟨t310, A680, H⟩ := H
                            replace H : (if t310 = true then ((impl_Put2.f t256 0).bind fun t311 => (some ((t311.length : Int) == (wrap64 ((t256.length : Int) + 2))))) else (some false)) = some true := H
                            have A68 := Aside0.mk A680
                            clear A680
                            by_cases c69 : t310 = true
                            · subst c69
                              have H1 : ((impl_Put2.f t256 0).bind fun t311 => (some ((t311.length : Int) == (wrap64 ((t256.length : Int) + 2))))) = some true := by rw [if_pos rfl] at H; exact H
                              clear H
                              have H := H1
                              clear H1
                              replace H := Option.bind_eq_some_iff.mp H
                              obtain ⟨t311, A700, H⟩ := H
                              replace H : (some ((t311.length : Int) == (wrap64 ((t256.length : Int) + 2)))) = some true := H
                              have A70 := Aside0.mk A700
                              clear A700
                              have hrv_ := Aside0.mk (show (((t311.length : Int) == (wrap64 ((t256.length : Int) + 2)))) = true from Option.some.inj H)
                              clear H
                              have q71 : ((t256.length : Int) : Int) ≤ ((t260.length : Int) : Int) := of_decide_eq_true (by first | (with_reducible assumption) | assumption)
                              obtain ⟨i071, hi071, _, hsz71, _⟩ := info_parts info5
                              have hroom71 : t260.length ≤ co16 := (Kd.R_reads' HO_5.out).2.1
                              have hC71 : Kd.C (Kd.int .u8) _ Ao16 t260.length t260 := (Kd.R_reads' HO_5.out).2.2
                              have hcut71 := cut_to (P := Try.prog) 58 5 .i64 Try.underlying58 hi071 Ao16 t260.length co16 (t256.length : Int) (of_decide_eq_true (by first | (with_reducible assumption) | assumption)) q71 hroom71
                              have hr71 := Kd.C_take (m := ((t256.length : Int) : Int).toNat) hC71 (by omega)
                              have hy71 : y301.length = ((t256.length : Int) : Int).toNat := (by rw [Ny301.out, List.length_take]; omega)
                              rw [← Ny301.out] at hr71
                              rw [← hy71] at hcut71
                              have HR304 := Aside0.mk hr71
                              have HC304 := Aside0.mk (show y301.length ≤ co16 from by omega)
                              clear hr71 hC71 hroom71 hi071 hsz71
                              have KY71 := Aside0.mk hy71
                              clear hy71
                              have KL71 := Aside0.mk (show ((t256.length : Int) : Int).toNat ≤ t260.length from by omega)
                              replace q71 := eq_true q71
                              go_wp2_with (first | (go_at_call 60; (with_reducible refine (laws_same.calls kj11 _ _ y301 _ _ t256 true _ ?side1 ?side2 ?side3 ?side4 A63.out).mono ?_); (case side1 => repeat (first | exact (by repeat (first | (with_reducible exact HR304.out) | (with_reducible refine Kd.C_alloc ?_ _) | (with_reducible refine Kd.C_drewN ?_ _) | (with_reducible refine Kd.C_drew ?_) | exact HR304.out)) | (with_reducible refine Kd.C_alloc ?_ _) | (with_reducible refine Kd.C_drewN ?_ _) | (with_reducible refine Kd.C_drew ?_))); (case side2 => exact HC304.out); (case side3 => repeat (first | exact (Kd.R_reads' HO_3.out).2.2 | (with_reducible refine Kd.C_alloc ?_ _) | (with_reducible refine Kd.C_drewN ?_ _) | (with_reducible refine Kd.C_drew ?_))); (case side4 => exact (Kd.R_reads' HO_3.out).2.1); rintro e w' ⟨rfl, ⟨nd, rfl⟩⟩; obtain ⟨Ao72, co72, eo72⟩ := Kd.R_slice HO_16.out; subst eo72; have q73 : ((t273.length : Int) : Int) ≤ ((t277.length : Int) : Int) := of_decide_eq_true (by first | (with_reducible assumption) | assumption); obtain ⟨i073, hi073, _, hsz73, _⟩ := info_parts info5; have hroom73 : t277.length ≤ co72 := (Kd.R_reads' HO_16.out).2.1; have hC73 : Kd.C (Kd.int .u8) _ Ao72 t277.length t277 := (Kd.R_reads' HO_16.out).2.2; have hcut73 := cut_to (P := Try.prog) 58 5 .i64 Try.underlying58 hi073 Ao72 t277.length co72 (t273.length : Int) (of_decide_eq_true (by first | (with_reducible assumption) | assumption)) q73 hroom73; have hr73 := Kd.C_take (m := ((t273.length : Int) : Int).toNat) hC73 (by omega); have hy73 : y306.length = ((t273.length : Int) : Int).toNat := (by rw [Ny306.out, List.length_take]; omega); rw [← Ny306.out] at hr73; rw [← hy73] at hcut73; have HR309 := Aside0.mk hr73; have HC309 := Aside0.mk (show y306.length ≤ co72 from by omega); clear hr73 hC73 hroom73 hi073 hsz73; have KY73 := Aside0.mk hy73; clear hy73; have KL73 := Aside0.mk (show ((t273.length : Int) : Int).toNat ≤ t277.length from by omega); replace q73 := eq_true q73) | (go_at_call 60; (with_reducible refine (laws_same.calls kj11 _ _ y306 _ _ t273 true _ ?side1 ?side2 ?side3 ?side4 A68.out).mono ?_); (case side1 => repeat (first | exact (by repeat (first | (with_reducible exact HR309.out) | (with_reducible refine Kd.C_alloc ?_ _) | (with_reducible refine Kd.C_drewN ?_ _) | (with_reducible refine Kd.C_drew ?_) | exact HR309.out)) | (with_reducible refine Kd.C_alloc ?_ _) | (with_reducible refine Kd.C_drewN ?_ _) | (with_reducible refine Kd.C_drew ?_))); (case side2 => exact HC309.out); (case side3 => repeat (first | exact (Kd.R_reads' HO_14.out).2.2 | (with_reducible refine Kd.C_alloc ?_ _) | (with_reducible refine Kd.C_drewN ?_ _) | (with_reducible refine Kd.C_drew ?_))); (case side4 => exact (Kd.R_reads' HO_14.out).2.1); rintro e w' ⟨rfl, ⟨nd, rfl⟩⟩) | (go_at_call 54; (with_reducible refine (impl_Put2.calls _ _ t256 0 t311 _ ?side1 ?side2 A70.out).mono ?_); (case side1 => repeat (first | exact (Kd.R_reads' HO_3.out).2.2 | (with_reducible refine Kd.C_alloc ?_ _) | (with_reducible refine Kd.C_drewN ?_ _) | (with_reducible refine Kd.C_drew ?_))); (case side2 => exact (Kd.R_reads' HO_3.out).2.1); rintro e w74 ⟨v312, rfl, ho0, hb⟩; have n0_ := Aside0.mk (Kd.R_elder' (by (with_reducible repeat (first | apply Kd.R_alloc | apply Kd.R_drewN | apply Kd.R_drew)); exact HO_3.out) (Kd.R_base ho0) hb); have n1_ := Aside0.mk (Kd.R_elder' (by (with_reducible repeat (first | apply Kd.R_alloc | apply Kd.R_drewN | apply Kd.R_drew)); exact HO_5.out) (Kd.R_base ho0) hb); have n2_ := Aside0.mk (Kd.R_elder' (by (with_reducible repeat (first | apply Kd.R_alloc | apply Kd.R_drewN | apply Kd.R_drew)); exact HO_14.out) (Kd.R_base ho0) hb); have n3_ := Aside0.mk (Kd.R_elder' (by (with_reducible repeat (first | apply Kd.R_alloc | apply Kd.R_drewN | apply Kd.R_drew)); exact HO_16.out) (Kd.R_base ho0) hb); have n4_ := Aside0.mk (Kd.R_lower (Kd.R_new' (Kd.R_new' (Kd.R_new' (Kd.R_new' ho0 (Kd.R_lt (by (with_reducible repeat (first | apply Kd.R_alloc | apply Kd.R_drewN | apply Kd.R_drew)); exact HO_3.out))) (Kd.R_lt (by (with_reducible repeat (first | apply Kd.R_alloc | apply Kd.R_drewN | apply Kd.R_drew)); exact HO_5.out))) (Kd.R_lt (by (with_reducible repeat (first | apply Kd.R_alloc | apply Kd.R_drewN | apply Kd.R_drew)); exact HO_14.out))) (Kd.R_lt (by (with_reducible repeat (first | apply Kd.R_alloc | apply Kd.R_drewN | apply Kd.R_drew)); exact HO_16.out))) (below_size (by repeat (first | (with_reducible first | exact HB.out | apply below_alloc | apply pw_below_drewN | apply below_drew1) | exact HB.out)))); have n7_ := Aside0.mk (below_step (by repeat (first | (with_reducible first | exact HB.out | apply below_alloc | apply pw_below_drewN | apply below_drew1) | exact HB.out)) hb); clear HO_3; clear HO_5; clear HO_14; clear HO_16; clear HB; have HO_3 := n0_; have HO_5 := n1_; have HO_14 := n2_; have HO_16 := n3_; have HO313 := n4_; have HB := n7_; clear n0_ n1_ n2_ n3_ n4_ n7_; (try clear hb); (try clear hb2); (try clear hk); (try clear hi); (try clear ho0); obtain ⟨Ao75, co75, eo75⟩ := Kd.R_slice HO313.out; subst eo75))
                              go_ret
                              exact ⟨by first | rfl | (rw [hrv_.out]; done) | (rw [hrv_.out]; rfl) | (have hrv1_ := hrv_.out; simp [hrv1_]; done) | (simp [errW_none, errW_some] <;> rfl) | (simp [*, errW_none, errW_some] <;> rfl), by repeat (first | (with_reducible first | exact HB.out | apply below_alloc | apply pw_below_drewN | apply below_drew1) | exact HB.out)⟩
                            · replace c69 := Bool.eq_false_iff.mpr c69
                              subst c69
                              have H1 : (some false) = some true := by rw [if_neg (show ¬ (false = true) by decide)] at H; exact H
                              clear H
                              have H := H1
                              clear H1
                              exact absurd H (by simp)
                          · rw [if_neg c67] at H
                            exact absurd H (by simp)
                        · rw [if_neg c66] at H
                          exact absurd H (by simp)
                      · rw [if_neg c65] at H
                        have c65b0 : decide ((t273.length : Int) ≤ (t277.length : Int)) = false := decide_eq_false c65
                        have c65b1 : decide (t273.length ≤ t277.length) = false := decide_eq_false (fun h => c65 (Int.ofNat_le.mpr h))
                        clear c65
                        exact absurd H (by simp)
                    · replace c64 := Bool.eq_false_iff.mpr c64
                      subst c64
                      have H1 : (some false) = some true := by rw [if_neg (show ¬ (false = true) by decide)] at H; exact H
                      clear H
                      have H := H1
                      clear H1
                      exact absurd H (by simp)
                  · rw [if_neg c62] at H
                    exact absurd H (by simp)
                · rw [if_neg c61] at H
                  exact absurd H (by simp)
            · rw [if_neg c42] at H
              have c42b0 : (t264 == (decide (t257 ≤ 65535))) = false := by simpa using c42
              (try (have c42b1 : decide (t264 = (decide (t257 ≤ 65535))) = false := by simpa using c42))
              (try (have c42b2 : (t264 == (decide (t257 ≤ 65535))) = false := by simpa using c42))
              (try (have c42b3 : ¬ (t264 = (decide (t257 ≤ 65535))) := by simpa using c42))
              clear c42
              exact absurd H (by simp)
          · rw [if_neg c41] at H
            have c41b0 : decide (0 ≤ t257) = false := decide_eq_false c41
            clear c41
            by_cases c76 : (t264 == false) = true
            · rw [if_pos c76] at H
              have c76b0 : (t264 == false) = true := c76
              (try (have c76b1 : decide (t264 = false) = true := by simpa using c76))
              (try (have c76b2 : (t264 == false) = true := by simpa using c76))
              clear c76
              by_cases c77 : t264 = true
              · subst c77
                have H1 : (if t263 = t257 then (if (t260.length : Int) = (wrap64 ((t256.length : Int) + 2)) then (if 0 ≤ (t256.length : Int) then (if (t256.length : Int) ≤ (t260.length : Int) then ((laws_same.f kj11 (t260.take ((t256.length : Int) : Int).toNat) t256).bind fun t318 => (if t318 = true then (if (t277.length : Int) ≥ (t273.length : Int) then (if 0 ≤ (t273.length : Int) then (if (t273.length : Int) ≤ (t277.length : Int) then ((laws_same.f kj11 (t277.take ((t273.length : Int) : Int).toNat) t273).bind fun t323 => (if t323 = true then ((impl_Put2.f t256 0).bind fun t324 => (some ((t324.length : Int) == (wrap64 ((t256.length : Int) + 2))))) else (some false))) else (none)) else (none)) else (some false)) else (some false))) else (none)) else (none)) else (some false)) else (some false)) = some true := by rw [if_pos rfl] at H; exact H
                clear H
                have H := H1
                clear H1
                by_cases c78 : t263 = t257
                · rw [if_pos c78] at H
                  have c78b0 : (t263 == t257) = true := beq_iff_eq.mpr c78
                  have c78b1 : (t263 != t257) = false := bne_eq_false_iff_eq.mpr c78
                  clear c78
                  by_cases c79 : (t260.length : Int) = (wrap64 ((t256.length : Int) + 2))
                  · rw [if_pos c79] at H
                    have c79b0 : ((t260.length : Int) == (wrap64 ((t256.length : Int) + 2))) = true := beq_iff_eq.mpr c79
                    have c79b1 : ((t260.length : Int) != (wrap64 ((t256.length : Int) + 2))) = false := bne_eq_false_iff_eq.mpr c79
                    clear c79
                    by_cases c80 : 0 ≤ (t256.length : Int)
                    · rw [if_pos c80] at H
                      have c80b0 := eq_true c80
                      have c80b1 : decide (0 ≤ (t256.length : Int)) = true := decide_eq_true c80
                      clear c80
                      by_cases c81 : (t256.length : Int) ≤ (t260.length : Int)
                      · rw [if_pos c81] at H
                        have c81b0 := eq_true c81
                        have c81b1 : decide ((t256.length : Int) ≤ (t260.length : Int)) = true := decide_eq_true c81
                        clear c81
                        obtain ⟨y314, hy314⟩ : ∃ y_ : List Int, y_ = (t260.take ((t256.length : Int) : Int).toNat) := ⟨_, rfl⟩
                        replace H : ((laws_same.f kj11 y314 t256).bind fun t318 => (if t318 = true then (if (t277.length : Int) ≥ (t273.length : Int) then (if 0 ≤ (t273.length : Int) then (if (t273.length : Int) ≤ (t277.length : Int) then ((laws_same.f kj11 (t277.take ((t273.length : Int) : Int).toNat) t273).bind fun t323 => (if t323 = true then ((impl_Put2.f t256 0).bind fun t324 => (some ((t324.length : Int) == (wrap64 ((t256.length : Int) + 2))))) else (some false))) else (none)) else (none)) else (some false)) else (some false))) = some true := by first | (rw [hy314]; with_reducible exact H) | (have H2_ := (Option.bind_some _ _).symm.trans H; rw [hy314]; with_reducible exact H2_) | (have H2_ := (Option.bind_some _ _).symm.trans H; with_reducible exact H2_) | with_reducible exact H | (rw [hy314]; exact H) | exact H
                        have Ny314 := Aside0.mk hy314
                        clear hy314
                        replace H := Option.bind_eq_some_iff.mp H
                        obtain ⟨t318, A820, H⟩ := H
                        replace H : (if t318 = true then (if (t277.length : Int) ≥ (t273.length : Int) then (if 0 ≤ (t273.length : Int) then (if (t273.length : Int) ≤ (t277.length : Int) then ((laws_same.f kj11 (t277.take ((t273.length : Int) : Int).toNat) t273).bind fun t323 => (if t323 = true then ((impl_Put2.f t256 0).bind fun t324 => (some ((t324.length : Int) == (wrap64 ((t256.length : Int) + 2))))) else (some false))) else (none)) else (none)) else (some false)) else (some false)) = some true := H
                        have A82 := Aside0.mk A820
                        clear A820
                        by_cases c83 : t318 = true
                        · subst c83
                          have H1 : (if (t277.length : Int) ≥ (t273.length : Int) then (if 0 ≤ (t273.length : Int) then (if (t273.length : Int) ≤ (t277.length : Int) then ((laws_same.f kj11 (t277.take ((t273.length : Int) : Int).toNat) t273).bind fun t323 => (if t323 = true then ((impl_Put2.f t256 0).bind fun t324 => (some ((t324.length : Int) == (wrap64 ((t256.length : Int) + 2))))) else (some false))) else (none)) else (none)) else (some false)) = some true := by rw [if_pos rfl] at H; exact H
                          clear H
                          have H := H1
                          clear H1
                          by_cases c84 : (t277.length : Int) ≥ (t273.length : Int)
                          · rw [if_pos c84] at H
                            have c84b0 : decide ((t273.length : Int) ≤ (t277.length : Int)) = true := decide_eq_true c84
                            have c84b1 : decide (t273.length ≤ t277.length) = true := decide_eq_true (Int.ofNat_le.mp c84)
                            clear c84
                            by_cases c85 : 0 ≤ (t273.length : Int)
                            · rw [if_pos c85] at H
                              have c85b0 := eq_true c85
                              have c85b1 : decide (0 ≤ (t273.length : Int)) = true := decide_eq_true c85
                              clear c85
                              by_cases c86 : (t273.length : Int) ≤ (t277.length : Int)
                              · rw [if_pos c86] at H
                                have c86b0 := eq_true c86
                                have c86b1 : decide ((t273.length : Int) ≤ (t277.length : Int)) = true := decide_eq_true c86
                                clear c86
                                obtain ⟨y319, hy319⟩ : ∃ y_ : List Int, y_ = (t277.take ((t273.length : Int) : Int).toNat) := ⟨_, rfl⟩
                                replace H : ((laws_same.f kj11 y319 t273).bind fun t323 => (if t323 = true then ((impl_Put2.f t256 0).bind fun t324 => (some ((t324.length : Int) == (wrap64 ((t256.length : Int) + 2))))) else (some false))) = some true := by first | (rw [hy319]; with_reducible exact H) | (have H2_ := (Option.bind_some _ _).symm.trans H; rw [hy319]; with_reducible exact H2_) | (have H2_ := (Option.bind_some _ _).symm.trans H; with_reducible exact H2_) | with_reducible exact H | (rw [hy319]; exact H) | exact H
                                have Ny319 := Aside0.mk hy319
                                clear hy319
                                replace H := Option.bind_eq_some_iff.mp H
                                obtain ⟨t323, A870, H⟩ := H
                                replace H : (if t323 = true then ((impl_Put2.f t256 0).bind fun t324 => (some ((t324.length : Int) == (wrap64 ((t256.length : Int) + 2))))) else (some false)) = some true := H
                                have A87 := Aside0.mk A870
                                clear A870
                                by_cases c88 : t323 = true
                                · subst c88
                                  have H1 : ((impl_Put2.f t256 0).bind fun t324 => (some ((t324.length : Int) == (wrap64 ((t256.length : Int) + 2))))) = some true := by rw [if_pos rfl] at H; exact H
                                  clear H
                                  have H := H1
                                  clear H1
                                  replace H := Option.bind_eq_some_iff.mp H
                                  obtain ⟨t324, A890, H⟩ := H
                                  replace H : (some ((t324.length : Int) == (wrap64 ((t256.length : Int) + 2)))) = some true := H
                                  have A89 := Aside0.mk A890
                                  clear A890
                                  have hrv_ := Aside0.mk (show (((t324.length : Int) == (wrap64 ((t256.length : Int) + 2)))) = true from Option.some.inj H)
                                  clear H
                                  have q90 : ((t256.length : Int) : Int) ≤ ((t260.length : Int) : Int) := of_decide_eq_true (by first | (with_reducible assumption) | assumption)
                                  obtain ⟨i090, hi090, _, hsz90, _⟩ := info_parts info5
                                  have hroom90 : t260.length ≤ co16 := (Kd.R_reads' HO_5.out).2.1
                                  have hC90 : Kd.C (Kd.int .u8) _ Ao16 t260.length t260 := (Kd.R_reads' HO_5.out).2.2
                                  have hcut90 := cut_to (P := Try.prog) 58 5 .i64 Try.underlying58 hi090 Ao16 t260.length co16 (t256.length : Int) (of_decide_eq_true (by first | (with_reducible assumption) | assumption)) q90 hroom90
                                  have hr90 := Kd.C_take (m := ((t256.length : Int) : Int).toNat) hC90 (by omega)
                                  have hy90 : y314.length = ((t256.length : Int) : Int).toNat := (by rw [Ny314.out, List.length_take]; omega)
                                  rw [← Ny314.out] at hr90
                                  rw [← hy90] at hcut90
                                  have HR317 := Aside0.mk hr90
                                  have HC317 := Aside0.mk (show y314.length ≤ co16 from by omega)
                                  clear hr90 hC90 hroom90 hi090 hsz90
                                  have KY90 := Aside0.mk hy90
                                  clear hy90
                                  have KL90 := Aside0.mk (show ((t256.length : Int) : Int).toNat ≤ t260.length from by omega)
                                  replace q90 := eq_true q90
                                  go_wp2_with (first | (go_at_call 60; (with_reducible refine (laws_same.calls kj11 _ _ y314 _ _ t256 true _ ?side1 ?side2 ?side3 ?side4 A82.out).mono ?_); (case side1 => repeat (first | exact (by repeat (first | (with_reducible exact HR317.out) | (with_reducible refine Kd.C_alloc ?_ _) | (with_reducible refine Kd.C_drewN ?_ _) | (with_reducible refine Kd.C_drew ?_) | exact HR317.out)) | (with_reducible refine Kd.C_alloc ?_ _) | (with_reducible refine Kd.C_drewN ?_ _) | (with_reducible refine Kd.C_drew ?_))); (case side2 => exact HC317.out); (case side3 => repeat (first | exact (Kd.R_reads' HO_3.out).2.2 | (with_reducible refine Kd.C_alloc ?_ _) | (with_reducible refine Kd.C_drewN ?_ _) | (with_reducible refine Kd.C_drew ?_))); (case side4 => exact (Kd.R_reads' HO_3.out).2.1); rintro e w' ⟨rfl, ⟨nd, rfl⟩⟩; obtain ⟨Ao91, co91, eo91⟩ := Kd.R_slice HO_16.out; subst eo91; have q92 : ((t273.length : Int) : Int) ≤ ((t277.length : Int) : Int) := of_decide_eq_true (by first | (with_reducible assumption) | assumption); obtain ⟨i092, hi092, _, hsz92, _⟩ := info_parts info5; have hroom92 : t277.length ≤ co91 := (Kd.R_reads' HO_16.out).2.1; have hC92 : Kd.C (Kd.int .u8) _ Ao91 t277.length t277 := (Kd.R_reads' HO_16.out).2.2; have hcut92 := cut_to (P := Try.prog) 58 5 .i64 Try.underlying58 hi092 Ao91 t277.length co91 (t273.length : Int) (of_decide_eq_true (by first | (with_reducible assumption) | assumption)) q92 hroom92; have hr92 := Kd.C_take (m := ((t273.length : Int) : Int).toNat) hC92 (by omega); have hy92 : y319.length = ((t273.length : Int) : Int).toNat := (by rw [Ny319.out, List.length_take]; omega); rw [← Ny319.out] at hr92; rw [← hy92] at hcut92; have HR322 := Aside0.mk hr92; have HC322 := Aside0.mk (show y319.length ≤ co91 from by omega); clear hr92 hC92 hroom92 hi092 hsz92; have KY92 := Aside0.mk hy92; clear hy92; have KL92 := Aside0.mk (show ((t273.length : Int) : Int).toNat ≤ t277.length from by omega); replace q92 := eq_true q92) | (go_at_call 60; (with_reducible refine (laws_same.calls kj11 _ _ y319 _ _ t273 true _ ?side1 ?side2 ?side3 ?side4 A87.out).mono ?_); (case side1 => repeat (first | exact (by repeat (first | (with_reducible exact HR322.out) | (with_reducible refine Kd.C_alloc ?_ _) | (with_reducible refine Kd.C_drewN ?_ _) | (with_reducible refine Kd.C_drew ?_) | exact HR322.out)) | (with_reducible refine Kd.C_alloc ?_ _) | (with_reducible refine Kd.C_drewN ?_ _) | (with_reducible refine Kd.C_drew ?_))); (case side2 => exact HC322.out); (case side3 => repeat (first | exact (Kd.R_reads' HO_14.out).2.2 | (with_reducible refine Kd.C_alloc ?_ _) | (with_reducible refine Kd.C_drewN ?_ _) | (with_reducible refine Kd.C_drew ?_))); (case side4 => exact (Kd.R_reads' HO_14.out).2.1); rintro e w' ⟨rfl, ⟨nd, rfl⟩⟩) | (go_at_call 54; (with_reducible refine (impl_Put2.calls _ _ t256 0 t324 _ ?side1 ?side2 A89.out).mono ?_); (case side1 => repeat (first | exact (Kd.R_reads' HO_3.out).2.2 | (with_reducible refine Kd.C_alloc ?_ _) | (with_reducible refine Kd.C_drewN ?_ _) | (with_reducible refine Kd.C_drew ?_))); (case side2 => exact (Kd.R_reads' HO_3.out).2.1); rintro e w93 ⟨v325, rfl, ho0, hb⟩; have n0_ := Aside0.mk (Kd.R_elder' (by (with_reducible repeat (first | apply Kd.R_alloc | apply Kd.R_drewN | apply Kd.R_drew)); exact HO_3.out) (Kd.R_base ho0) hb); have n1_ := Aside0.mk (Kd.R_elder' (by (with_reducible repeat (first | apply Kd.R_alloc | apply Kd.R_drewN | apply Kd.R_drew)); exact HO_5.out) (Kd.R_base ho0) hb); have n2_ := Aside0.mk (Kd.R_elder' (by (with_reducible repeat (first | apply Kd.R_alloc | apply Kd.R_drewN | apply Kd.R_drew)); exact HO_14.out) (Kd.R_base ho0) hb); have n3_ := Aside0.mk (Kd.R_elder' (by (with_reducible repeat (first | apply Kd.R_alloc | apply Kd.R_drewN | apply Kd.R_drew)); exact HO_16.out) (Kd.R_base ho0) hb); have n4_ := Aside0.mk (Kd.R_lower (Kd.R_new' (Kd.R_new' (Kd.R_new' (Kd.R_new' ho0 (Kd.R_lt (by (with_reducible repeat (first | apply Kd.R_alloc | apply Kd.R_drewN | apply Kd.R_drew)); exact HO_3.out))) (Kd.R_lt (by (with_reducible repeat (first | apply Kd.R_alloc | apply Kd.R_drewN | apply Kd.R_drew)); exact HO_5.out))) (Kd.R_lt (by (with_reducible repeat (first | apply Kd.R_alloc | apply Kd.R_drewN | apply Kd.R_drew)); exact HO_14.out))) (Kd.R_lt (by (with_reducible repeat (first | apply Kd.R_alloc | apply Kd.R_drewN | apply Kd.R_drew)); exact HO_16.out))) (below_size (by repeat (first | (with_reducible first | exact HB.out | apply below_alloc | apply pw_below_drewN | apply below_drew1) | exact HB.out)))); have n7_ := Aside0.mk (below_step (by repeat (first | (with_reducible first | exact HB.out | apply below_alloc | apply pw_below_drewN | apply below_drew1) | exact HB.out)) hb); clear HO_3; clear HO_5; clear HO_14; clear HO_16; clear HB; have HO_3 := n0_; have HO_5 := n1_; have HO_14 := n2_; have HO_16 := n3_; have HO326 := n4_; have HB := n7_; clear n0_ n1_ n2_ n3_ n4_ n7_; (try clear hb); (try clear hb2); (try clear hk); (try clear hi); (try clear ho0); obtain ⟨Ao94, co94, eo94⟩ := Kd.R_slice HO326.out; subst eo94))
                                  go_ret
                                  exact ⟨by first | rfl | (rw [hrv_.out]; done) | (rw [hrv_.out]; rfl) | (have hrv1_ := hrv_.out; simp [hrv1_]; done) | (simp [errW_none, errW_some] <;> rfl) | (simp [*, errW_none, errW_some] <;> rfl), by repeat (first | (with_reducible first | exact HB.out | apply below_alloc | apply pw_below_drewN | apply below_drew1) | exact HB.out)⟩
                                · replace c88 := Bool.eq_false_iff.mpr c88
                                  subst c88
                                  have H1 : (some false) = some true := by rw [if_neg (show ¬ (false = true) by decide)] at H; exact H
                                  clear H
                                  have H := H1
                                  clear H1
                                  exact absurd H (by simp)
                              · rw [if_neg c86] at H
                                exact absurd H (by simp)
                            · rw [if_neg c85] at H
                              exact absurd H (by simp)
                          · rw [if_neg c84] at H
                            have c84b0 : decide ((t273.length : Int) ≤ (t277.length : Int)) = false := decide_eq_false c84
                            have c84b1 : decide (t273.length ≤ t277.length) = false := decide_eq_false (fun h => c84 (Int.ofNat_le.mpr h))
                            clear c84
                            exact absurd H (by simp)
                        · replace c83 := Bool.eq_false_iff.mpr c83
                          subst c83
                          have H1 : (some false) = some true := by rw [if_neg (show ¬ (false = true) by decide)] at H; exact H
                          clear H
                          have H := H1
                          clear H1
                          exact absurd H (by simp)
                      · rw [if_neg c81] at H
                        exact absurd H (by simp)
                    · rw [if_neg c80] at H
                      exact absurd H (by simp)
                  · rw [if_neg c79] at H
                    have c79b0 : ((t260.length : Int) == (wrap64 ((t256.length : Int) + 2))) = false := beq_eq_false_iff_ne.mpr c79
                    have c79b1 : ((t260.length : Int) != (wrap64 ((t256.length : Int) + 2))) = true := bne_iff_ne.mpr c79
                    exact absurd H (by simp)
                · rw [if_neg c78] at H
                  have c78b0 : (t263 == t257) = false := beq_eq_false_iff_ne.mpr c78
                  have c78b1 : (t263 != t257) = true := bne_iff_ne.mpr c78
                  exact absurd H (by simp)
              · replace c77 := Bool.eq_false_iff.mpr c77
                subst c77
                have H1 : (if 0 ≤ (t256.length : Int) then (if (t256.length : Int) ≤ (t260.length : Int) then ((laws_same.f kj11 (t260.take ((t256.length : Int) : Int).toNat) t256).bind fun t331 => (if t331 = true then (if (t277.length : Int) ≥ (t273.length : Int) then (if 0 ≤ (t273.length : Int) then (if (t273.length : Int) ≤ (t277.length : Int) then ((laws_same.f kj11 (t277.take ((t273.length : Int) : Int).toNat) t273).bind fun t336 => (if t336 = true then ((impl_Put2.f t256 0).bind fun t337 => (some ((t337.length : Int) == (wrap64 ((t256.length : Int) + 2))))) else (some false))) else (none)) else (none)) else (some false)) else (some false))) else (none)) else (none)) = some true := by rw [if_neg (show ¬ (false = true) by decide)] at H; exact H
                clear H
                have H := H1
                clear H1
                by_cases c95 : 0 ≤ (t256.length : Int)
                · rw [if_pos c95] at H
                  have c95b0 := eq_true c95
                  have c95b1 : decide (0 ≤ (t256.length : Int)) = true := decide_eq_true c95
                  clear c95
                  by_cases c96 : (t256.length : Int) ≤ (t260.length : Int)
                  · rw [if_pos c96] at H
                    have c96b0 := eq_true c96
                    have c96b1 : decide ((t256.length : Int) ≤ (t260.length : Int)) = true := decide_eq_true c96
                    clear c96
                    obtain ⟨y327, hy327⟩ : ∃ y_ : List Int, y_ = (t260.take ((t256.length : Int) : Int).toNat) := ⟨_, rfl⟩
                    replace H : ((laws_same.f kj11 y327 t256).bind fun t331 => (if t331 = true then (if (t277.length : Int) ≥ (t273.length : Int) then (if 0 ≤ (t273.length : Int) then (if (t273.length : Int) ≤ (t277.length : Int) then ((laws_same.f kj11 (t277.take ((t273.length : Int) : Int).toNat) t273).bind fun t336 => (if t336 = true then ((impl_Put2.f t256 0).bind fun t337 => (some ((t337.length : Int) == (wrap64 ((t256.length : Int) + 2))))) else (some false))) else (none)) else (none)) else (some false)) else (some false))) = some true := by first | (rw [hy327]; with_reducible exact H) | (have H2_ := (Option.bind_some _ _).symm.trans H; rw [hy327]; with_reducible exact H2_) | (have H2_ := (Option.bind_some _ _).symm.trans H; with_reducible exact H2_) | with_reducible exact H | (rw [hy327]; exact H) | exact H
                    have Ny327 := Aside0.mk hy327
                    clear hy327
                    replace H := Option.bind_eq_some_iff.mp H
                    obtain ⟨t331, A970, H⟩ := H
                    replace H : (if t331 = true then (if (t277.length : Int) ≥ (t273.length : Int) then (if 0 ≤ (t273.length : Int) then (if (t273.length : Int) ≤ (t277.length : Int) then ((laws_same.f kj11 (t277.take ((t273.length : Int) : Int).toNat) t273).bind fun t336 => (if t336 = true then ((impl_Put2.f t256 0).bind fun t337 => (some ((t337.length : Int) == (wrap64 ((t256.length : Int) + 2))))) else (some false))) else (none)) else (none)) else (some false)) else (some false)) = some true := H
                    have A97 := Aside0.mk A970
                    clear A970
                    by_cases c98 : t331 = true
                    · subst c98
                      have H1 : (if (t277.length : Int) ≥ (t273.length : Int) then (if 0 ≤ (t273.length : Int) then (if (t273.length : Int) ≤ (t277.length : Int) then ((laws_same.f kj11 (t277.take ((t273.length : Int) : Int).toNat) t273).bind fun t336 => (if t336 = true then ((impl_Put2.f t256 0).bind fun t337 => (some ((t337.length : Int) == (wrap64 ((t256.length : Int) + 2))))) else (some false))) else (none)) else (none)) else (some false)) = some true := by rw [if_pos rfl] at H; exact H
                      clear H
                      have H := H1
                      clear H1
                      by_cases c99 : (t277.length : Int) ≥ (t273.length : Int)
                      · rw [if_pos c99] at H
                        have c99b0 : decide ((t273.length : Int) ≤ (t277.length : Int)) = true := decide_eq_true c99
                        have c99b1 : decide (t273.length ≤ t277.length) = true := decide_eq_true (Int.ofNat_le.mp c99)
                        clear c99
                        by_cases c100 : 0 ≤ (t273.length : Int)
                        · rw [if_pos c100] at H
                          have c100b0 := eq_true c100
                          have c100b1 : decide (0 ≤ (t273.length : Int)) = true := decide_eq_true c100
                          clear c100
                          by_cases c101 : (t273.length : Int) ≤ (t277.length : Int)
                          · rw [if_pos c101] at H
                            have c101b0 := eq_true c101
                            have c101b1 : decide ((t273.length : Int) ≤ (t277.length : Int)) = true := decide_eq_true c101
                            clear c101
                            obtain ⟨y332, hy332⟩ : ∃ y_ : List Int, y_ = (t277.take ((t273.length : Int) : Int).toNat) := ⟨_, rfl⟩
                            replace H : ((laws_same.f kj11 y332 t273).bind fun t336 => (if t336 = true then ((impl_Put2.f t256 0).bind fun t337 => (some ((t337.length : Int) == (wrap64 ((t256.length : Int) + 2))))) else (some false))) = some true := by first | (rw [hy332]; with_reducible exact H) | (have H2_ := (Option.bind_some _ _).symm.trans H; rw [hy332]; with_reducible exact H2_) | (have H2_ := (Option.bind_some _ _).symm.trans H; with_reducible exact H2_) | with_reducible exact H | (rw [hy332]; exact H) | exact H
                            have Ny332 := Aside0.mk hy332
                            clear hy332
                            replace H := Option.bind_eq_some_iff.mp H
                            obtain ⟨t336, A1020, H⟩ := H
                            replace H : (if t336 = true then ((impl_Put2.f t256 0).bind fun t337 => (some ((t337.length : Int) == (wrap64 ((t256.length : Int) + 2))))) else (some false)) = some true := H
                            have A102 := Aside0.mk A1020
                            clear A1020
                            by_cases c103 : t336 = true
                            · subst c103
                              have H1 : ((impl_Put2.f t256 0).bind fun t337 => (some ((t337.length : Int) == (wrap64 ((t256.length : Int) + 2))))) = some true := by rw [if_pos rfl] at H; exact H
                              clear H
                              have H := H1
                              clear H1
                              replace H := Option.bind_eq_some_iff.mp H
                              obtain ⟨t337, A1040, H⟩ := H
                              replace H : (some ((t337.length : Int) == (wrap64 ((t256.length : Int) + 2)))) = some true := H
                              have A104 := Aside0.mk A1040
                              clear A1040
                              have hrv_ := Aside0.mk (show (((t337.length : Int) == (wrap64 ((t256.length : Int) + 2)))) = true from Option.some.inj H)
                              clear H
                              have q105 : ((t256.length : Int) : Int) ≤ ((t260.length : Int) : Int) := of_decide_eq_true (by first | (with_reducible assumption) | assumption)
                              obtain ⟨i0105, hi0105, _, hsz105, _⟩ := info_parts info5
                              have hroom105 : t260.length ≤ co16 := (Kd.R_reads' HO_5.out).2.1
                              have hC105 : Kd.C (Kd.int .u8) _ Ao16 t260.length t260 := (Kd.R_reads' HO_5.out).2.2
                              have hcut105 := cut_to (P := Try.prog) 58 5 .i64 Try.underlying58 hi0105 Ao16 t260.length co16 (t256.length : Int) (of_decide_eq_true (by first | (with_reducible assumption) | assumption)) q105 hroom105
                              have hr105 := Kd.C_take (m := ((t256.length : Int) : Int).toNat) hC105 (by omega)
                              have hy105 : y327.length = ((t256.length : Int) : Int).toNat := (by rw [Ny327.out, List.length_take]; omega)
                              rw [← Ny327.out] at hr105
                              rw [← hy105] at hcut105
                              have HR330 := Aside0.mk hr105
                              have HC330 := Aside0.mk (show y327.length ≤ co16 from by omega)
                              clear hr105 hC105 hroom105 hi0105 hsz105
                              have KY105 := Aside0.mk hy105
                              clear hy105
                              have KL105 := Aside0.mk (show ((t256.length : Int) : Int).toNat ≤ t260.length from by omega)
                              replace q105 := eq_true q105
                              go_wp2_with (first | (go_at_call 60; (with_reducible refine (laws_same.calls kj11 _ _ y327 _ _ t256 true _ ?side1 ?side2 ?side3 ?side4 A97.out).mono ?_); (case side1 => repeat (first | exact (by repeat (first | (with_reducible exact HR330.out) | (with_reducible refine Kd.C_alloc ?_ _) | (with_reducible refine Kd.C_drewN ?_ _) | (with_reducible refine Kd.C_drew ?_) | exact HR330.out)) | (with_reducible refine Kd.C_alloc ?_ _) | (with_reducible refine Kd.C_drewN ?_ _) | (with_reducible refine Kd.C_drew ?_))); (case side2 => exact HC330.out); (case side3 => repeat (first | exact (Kd.R_reads' HO_3.out).2.2 | (with_reducible refine Kd.C_alloc ?_ _) | (with_reducible refine Kd.C_drewN ?_ _) | (with_reducible refine Kd.C_drew ?_))); (case side4 => exact (Kd.R_reads' HO_3.out).2.1); rintro e w' ⟨rfl, ⟨nd, rfl⟩⟩; obtain ⟨Ao106, co106, eo106⟩ := Kd.R_slice HO_16.out; subst eo106; have q107 : ((t273.length : Int) : Int) ≤ ((t277.length : Int) : Int) := of_decide_eq_true (by first | (with_reducible assumption) | assumption); obtain ⟨i0107, hi0107, _, hsz107, _⟩ := info_parts info5; have hroom107 : t277.length ≤ co106 := (Kd.R_reads' HO_16.out).2.1; have hC107 : Kd.C (Kd.int .u8) _ Ao106 t277.length t277 := (Kd.R_reads' HO_16.out).2.2; have hcut107 := cut_to (P := Try.prog) 58 5 .i64 Try.underlying58 hi0107 Ao106 t277.length co106 (t273.length : Int) (of_decide_eq_true (by first | (with_reducible assumption) | assumption)) q107 hroom107; have hr107 := Kd.C_take (m := ((t273.length : Int) : Int).toNat) hC107 (by omega); have hy107 : y332.length = ((t273.length : Int) : Int).toNat := (by rw [Ny332.out, List.length_take]; omega); rw [← Ny332.out] at hr107; rw [← hy107] at hcut107; have HR335 := Aside0.mk hr107; have HC335 := Aside0.mk (show y332.length ≤ co106 from by omega); clear hr107 hC107 hroom107 hi0107 hsz107; have KY107 := Aside0.mk hy107; clear hy107; have KL107 := Aside0.mk (show ((t273.length : Int) : Int).toNat ≤ t277.length from by omega); replace q107 := eq_true q107) | (go_at_call 60; (with_reducible refine (laws_same.calls kj11 _ _ y332 _ _ t273 true _ ?side1 ?side2 ?side3 ?side4 A102.out).mono ?_); (case side1 => repeat (first | exact (by repeat (first | (with_reducible exact HR335.out) | (with_reducible refine Kd.C_alloc ?_ _) | (with_reducible refine Kd.C_drewN ?_ _) | (with_reducible refine Kd.C_drew ?_) | exact HR335.out)) | (with_reducible refine Kd.C_alloc ?_ _) | (with_reducible refine Kd.C_drewN ?_ _) | (with_reducible refine Kd.C_drew ?_))); (case side2 => exact HC335.out); (case side3 => repeat (first | exact (Kd.R_reads' HO_14.out).2.2 | (with_reducible refine Kd.C_alloc ?_ _) | (with_reducible refine Kd.C_drewN ?_ _) | (with_reducible refine Kd.C_drew ?_))); (case side4 => exact (Kd.R_reads' HO_14.out).2.1); rintro e w' ⟨rfl, ⟨nd, rfl⟩⟩) | (go_at_call 54; (with_reducible refine (impl_Put2.calls _ _ t256 0 t337 _ ?side1 ?side2 A104.out).mono ?_); (case side1 => repeat (first | exact (Kd.R_reads' HO_3.out).2.2 | (with_reducible refine Kd.C_alloc ?_ _) | (with_reducible refine Kd.C_drewN ?_ _) | (with_reducible refine Kd.C_drew ?_))); (case side2 => exact (Kd.R_reads' HO_3.out).2.1); rintro e w108 ⟨v338, rfl, ho0, hb⟩; have n0_ := Aside0.mk (Kd.R_elder' (by (with_reducible repeat (first | apply Kd.R_alloc | apply Kd.R_drewN | apply Kd.R_drew)); exact HO_3.out) (Kd.R_base ho0) hb); have n1_ := Aside0.mk (Kd.R_elder' (by (with_reducible repeat (first | apply Kd.R_alloc | apply Kd.R_drewN | apply Kd.R_drew)); exact HO_5.out) (Kd.R_base ho0) hb); have n2_ := Aside0.mk (Kd.R_elder' (by (with_reducible repeat (first | apply Kd.R_alloc | apply Kd.R_drewN | apply Kd.R_drew)); exact HO_14.out) (Kd.R_base ho0) hb); have n3_ := Aside0.mk (Kd.R_elder' (by (with_reducible repeat (first | apply Kd.R_alloc | apply Kd.R_drewN | apply Kd.R_drew)); exact HO_16.out) (Kd.R_base ho0) hb); have n4_ := Aside0.mk (Kd.R_lower (Kd.R_new' (Kd.R_new' (Kd.R_new' (Kd.R_new' ho0 (Kd.R_lt (by (with_reducible repeat (first | apply Kd.R_alloc | apply Kd.R_drewN | apply Kd.R_drew)); exact HO_3.out))) (Kd.R_lt (by (with_reducible repeat (first | apply Kd.R_alloc | apply Kd.R_drewN | apply Kd.R_drew)); exact HO_5.out))) (Kd.R_lt (by (with_reducible repeat (first | apply Kd.R_alloc | apply Kd.R_drewN | apply Kd.R_drew)); exact HO_14.out))) (Kd.R_lt (by (with_reducible repeat (first | apply Kd.R_alloc | apply Kd.R_drewN | apply Kd.R_drew)); exact HO_16.out))) (below_size (by repeat (first | (with_reducible first | exact HB.out | apply below_alloc | apply pw_below_drewN | apply below_drew1) | exact HB.out)))); have n7_ := Aside0.mk (below_step (by repeat (first | (with_reducible first | exact HB.out | apply below_alloc | apply pw_below_drewN | apply below_drew1) | exact HB.out)) hb); clear HO_3; clear HO_5; clear HO_14; clear HO_16; clear HB; have HO_3 := n0_; have HO_5 := n1_; have HO_14 := n2_; have HO_16 := n3_; have HO339 := n4_; have HB := n7_; clear n0_ n1_ n2_ n3_ n4_ n7_; (try clear hb); (try clear hb2); (try clear hk); (try clear hi); (try clear ho0); obtain ⟨Ao109, co109, eo109⟩ := Kd.R_slice HO339.out; subst eo109))
                              go_ret
                              exact ⟨by first | rfl | (rw [hrv_.out]; done) | (rw [hrv_.out]; rfl) | (have hrv1_ := hrv_.out; simp [hrv1_]; done) | (simp [errW_none, errW_some] <;> rfl) | (simp [*, errW_none, errW_some] <;> rfl), by repeat (first | (with_reducible first | exact HB.out | apply below_alloc | apply pw_below_drewN | apply below_drew1) | exact HB.out)⟩
                            · replace c103 := Bool.eq_false_iff.mpr c103
                              subst c103
                              have H1 : (some false) = some true := by rw [if_neg (show ¬ (false = true) by decide)] at H; exact H
                              clear H
                              have H := H1
                              clear H1
                              exact absurd H (by simp)
                          · rw [if_neg c101] at H
                            exact absurd H (by simp)
                        · rw [if_neg c100] at H
                          exact absurd H (by simp)
                      · rw [if_neg c99] at H
                        have c99b0 : decide ((t273.length : Int) ≤ (t277.length : Int)) = false := decide_eq_false c99
                        have c99b1 : decide (t273.length ≤ t277.length) = false := decide_eq_false (fun h => c99 (Int.ofNat_le.mpr h))
                        clear c99
                        exact absurd H (by simp)
                    · replace c98 := Bool.eq_false_iff.mpr c98
                      subst c98
                      have H1 : (some false) = some true := by rw [if_neg (show ¬ (false = true) by decide)] at H; exact H
                      clear H
                      have H := H1
                      clear H1
                      exact absurd H (by simp)
                  · rw [if_neg c96] at H
                    exact absurd H (by simp)
                · rw [if_neg c95] at H
                  exact absurd H (by simp)
            · rw [if_neg c76] at H
              have c76b0 : (t264 == false) = false := by simpa using c76
              (try (have c76b1 : decide (t264 = false) = false := by simpa using c76))
              (try (have c76b2 : (t264 == false) = false := by simpa using c76))
              (try (have c76b3 : ¬ (t264 = false) := by simpa using c76))
              clear c76
              exact absurd H (by simp)

/-- THE ONE PURE STATEMENT of laws_FnNums: yours. -/
def laws_FnNums.Pure : Prop := ∀ (l0 : List Int), l0.length ≤ maxLen → l0.length * 1 ≤ 140737488351232 → (∀ x ∈ l0, (Lit.int .u8 x).wf = true) → ∃ k, laws_FnNums.f k l0 = some true
theorem laws_FnNums.walk (P : laws_FnNums.Pure) (a0 : Option Addr) (len0 cap0 : Nat) (z0 : List Int) (w : World) (w0 : (a0 = none ∧ len0 = 0 ∧ cap0 = 0 ∧ z0 = []) ∨ ∃ x, a0 = some x ∧ len0 ≤ cap0 ∧ cap0 ≤ maxLen ∧ z0.length = cap0 ∧ (∀ i, i < z0.length → w.cell? (x.add i) = some (.int .u8 (z0.getD i 0))) ∧ ∀ n ∈ z0, (Lit.int .u8 n).wf = true) (y0 : len0 * 1 ≤ 140737488351232) :
    Calls Try.prog 12 #[.slice a0 len0 cap0] w fun e w' => e = .returned (.bool true) ∧ Below w.heap.size w w' := by
  obtain ⟨l0, rfl, hr0, hm0, hw0, hc0⟩ := ReadsInt.ofRowC w0
  obtain ⟨k, h⟩ := P l0 hm0 y0 hw0
  refine (laws_FnNums.calls k _ _ l0 true w (Kd.C_of_reads (d := (0 : Int)) (h1 := fun _ => rfl) hr0) hc0 h).mono ?_
  rintro e w' ⟨rfl, hd⟩
  exact ⟨rfl, hd⟩

end Go.Proofs.Ytjmgomailgplcaa.PFnNums
