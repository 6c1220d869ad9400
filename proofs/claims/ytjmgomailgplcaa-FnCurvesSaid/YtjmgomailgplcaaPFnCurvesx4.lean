-- Written by a program of this session; Lean checks it.
import Derived.Test.YtjmgomailgplcaaPFnCurvesx0
import Derived.Test.YtjmgomailgplcaaPFnCurvesx1
import Derived.Test.YtjmgomailgplcaaPFnCurvesx2
import Derived.Test.YtjmgomailgplcaaPFnCurvesx3
namespace Go.Proofs.Ytjmgomailgplcaa.PFnCurves
open Go.RowKit Go.Proofs.YtjmgomailgplcaaW.PrintWords Go.Proofs.YtjmgomailgplcaaW.PrintLast Go.Proofs.YtjmgomailgplcaaW.PrintMore
attribute [local go_sem] max2_int min2_int max_two min_two max_three min_three max_four min_four   -- for this text's walks alone
set_option linter.unusedVariables false
set_option linter.unusedSimpArgs false

/-! ### laws_FnCurves: function 14 -/
mutual
def laws_FnCurves.j0 : Nat → Int → Int → Int → Int → Int → Int → Int → Int → Int → Bool → Int → Int → Int → Int → Option (Bool)
  | 0, _, _, _, _, _, _, _, _, _, _, _, _, _, _ => none
  | k + 1, x3, x4, x5, x6, x7, x8, x11, x15, x16, x86, x284000, x284001, x284002, x284003 => if x86 = true then (some false) else (if x5 ≥ 0 then ((impl_PointAt.f k x5).bind fun bt296 => (if bt296.1 = x3 then (if bt296.2 = x4 then (laws_FnCurves.j1 k x3 x4 x5 x6 x7 x8 x11 x15 x16 x284000 x284001 x284002 x284003) else (some false)) else (some false))) else (laws_FnCurves.j1 k x3 x4 x5 x6 x7 x8 x11 x15 x16 x284000 x284001 x284002 x284003))
def laws_FnCurves.j1 : Nat → Int → Int → Int → Int → Int → Int → Int → Int → Int → Int → Int → Int → Int → Option (Bool)
  | 0, _, _, _, _, _, _, _, _, _, _, _, _, _ => none
  | k + 1, x3, x4, x5, x6, x7, x8, x11, x15, x16, x284000, x284001, x284002, x284003 => if x6 ≥ 0 then (if x6 < 65536 then ((impl_Along.f k x7 x8).bind fun t298 => (if t298 = x6 then (if x3 < 0 then (if ((x5 == (-1)) == true) = true then ((impl_Apart.f k (Int.tmod (wrap64 ((Int.tmod x11 65535) + 65535)) 65535) (wrap64 ((Int.tmod (wrap64 ((Int.tmod x11 65535) + 65535)) 65535) + 1))).bind fun t299 => (if t299 = 1 then (if x15 ≥ x284000 then (if x15 ≤ x284002 then (if x16 ≥ x284001 then (some (decide (x16 ≤ x284003))) else (some false)) else (some false)) else (some false)) else (some false))) else (some false)) else (if x3 > 255 then (if ((x5 == (-1)) == true) = true then ((impl_Apart.f k (Int.tmod (wrap64 ((Int.tmod x11 65535) + 65535)) 65535) (wrap64 ((Int.tmod (wrap64 ((Int.tmod x11 65535) + 65535)) 65535) + 1))).bind fun t300 => (if t300 = 1 then (if x15 ≥ x284000 then (if x15 ≤ x284002 then (if x16 ≥ x284001 then (some (decide (x16 ≤ x284003))) else (some false)) else (some false)) else (some false)) else (some false))) else (some false)) else (if x4 < 0 then (if ((x5 == (-1)) == true) = true then ((impl_Apart.f k (Int.tmod (wrap64 ((Int.tmod x11 65535) + 65535)) 65535) (wrap64 ((Int.tmod (wrap64 ((Int.tmod x11 65535) + 65535)) 65535) + 1))).bind fun t301 => (if t301 = 1 then (if x15 ≥ x284000 then (if x15 ≤ x284002 then (if x16 ≥ x284001 then (some (decide (x16 ≤ x284003))) else (some false)) else (some false)) else (some false)) else (some false))) else (some false)) else (if ((x5 == (-1)) == (decide (x4 > 255))) = true then ((impl_Apart.f k (Int.tmod (wrap64 ((Int.tmod x11 65535) + 65535)) 65535) (wrap64 ((Int.tmod (wrap64 ((Int.tmod x11 65535) + 65535)) 65535) + 1))).bind fun t302 => (if t302 = 1 then (if x15 ≥ x284000 then (if x15 ≤ x284002 then (if x16 ≥ x284001 then (some (decide (x16 ≤ x284003))) else (some false)) else (some false)) else (some false)) else (some false))) else (some false))))) else (some false))) else (if x3 < 0 then (if ((x5 == (-1)) == true) = true then ((impl_Apart.f k (Int.tmod (wrap64 ((Int.tmod x11 65535) + 65535)) 65535) (wrap64 ((Int.tmod (wrap64 ((Int.tmod x11 65535) + 65535)) 65535) + 1))).bind fun t303 => (if t303 = 1 then (if x15 ≥ x284000 then (if x15 ≤ x284002 then (if x16 ≥ x284001 then (some (decide (x16 ≤ x284003))) else (some false)) else (some false)) else (some false)) else (some false))) else (some false)) else (if x3 > 255 then (if ((x5 == (-1)) == true) = true then ((impl_Apart.f k (Int.tmod (wrap64 ((Int.tmod x11 65535) + 65535)) 65535) (wrap64 ((Int.tmod (wrap64 ((Int.tmod x11 65535) + 65535)) 65535) + 1))).bind fun t304 => (if t304 = 1 then (if x15 ≥ x284000 then (if x15 ≤ x284002 then (if x16 ≥ x284001 then (some (decide (x16 ≤ x284003))) else (some false)) else (some false)) else (some false)) else (some false))) else (some false)) else (if x4 < 0 then (if ((x5 == (-1)) == true) = true then ((impl_Apart.f k (Int.tmod (wrap64 ((Int.tmod x11 65535) + 65535)) 65535) (wrap64 ((Int.tmod (wrap64 ((Int.tmod x11 65535) + 65535)) 65535) + 1))).bind fun t305 => (if t305 = 1 then (if x15 ≥ x284000 then (if x15 ≤ x284002 then (if x16 ≥ x284001 then (some (decide (x16 ≤ x284003))) else (some false)) else (some false)) else (some false)) else (some false))) else (some false)) else (if ((x5 == (-1)) == (decide (x4 > 255))) = true then ((impl_Apart.f k (Int.tmod (wrap64 ((Int.tmod x11 65535) + 65535)) 65535) (wrap64 ((Int.tmod (wrap64 ((Int.tmod x11 65535) + 65535)) 65535) + 1))).bind fun t306 => (if t306 = 1 then (if x15 ≥ x284000 then (if x15 ≤ x284002 then (if x16 ≥ x284001 then (some (decide (x16 ≤ x284003))) else (some false)) else (some false)) else (some false)) else (some false))) else (some false)))))) else (if x3 < 0 then (if ((x5 == (-1)) == true) = true then ((impl_Apart.f k (Int.tmod (wrap64 ((Int.tmod x11 65535) + 65535)) 65535) (wrap64 ((Int.tmod (wrap64 ((Int.tmod x11 65535) + 65535)) 65535) + 1))).bind fun t307 => (if t307 = 1 then (if x15 ≥ x284000 then (if x15 ≤ x284002 then (if x16 ≥ x284001 then (some (decide (x16 ≤ x284003))) else (some false)) else (some false)) else (some false)) else (some false))) else (some false)) else (if x3 > 255 then (if ((x5 == (-1)) == true) = true then ((impl_Apart.f k (Int.tmod (wrap64 ((Int.tmod x11 65535) + 65535)) 65535) (wrap64 ((Int.tmod (wrap64 ((Int.tmod x11 65535) + 65535)) 65535) + 1))).bind fun t308 => (if t308 = 1 then (if x15 ≥ x284000 then (if x15 ≤ x284002 then (if x16 ≥ x284001 then (some (decide (x16 ≤ x284003))) else (some false)) else (some false)) else (some false)) else (some false))) else (some false)) else (if x4 < 0 then (if ((x5 == (-1)) == true) = true then ((impl_Apart.f k (Int.tmod (wrap64 ((Int.tmod x11 65535) + 65535)) 65535) (wrap64 ((Int.tmod (wrap64 ((Int.tmod x11 65535) + 65535)) 65535) + 1))).bind fun t309 => (if t309 = 1 then (if x15 ≥ x284000 then (if x15 ≤ x284002 then (if x16 ≥ x284001 then (some (decide (x16 ≤ x284003))) else (some false)) else (some false)) else (some false)) else (some false))) else (some false)) else (if ((x5 == (-1)) == (decide (x4 > 255))) = true then ((impl_Apart.f k (Int.tmod (wrap64 ((Int.tmod x11 65535) + 65535)) 65535) (wrap64 ((Int.tmod (wrap64 ((Int.tmod x11 65535) + 65535)) 65535) + 1))).bind fun t310 => (if t310 = 1 then (if x15 ≥ x284000 then (if x15 ≤ x284002 then (if x16 ≥ x284001 then (some (decide (x16 ≤ x284003))) else (some false)) else (some false)) else (some false)) else (some false))) else (some false)))))
end
def laws_FnCurves.f (k : Nat) (l0 : List Int) : Option (Bool) := (laws_big.f l0).bind fun t268 => (if t268 = true then (some true) else ((spec_DrawAlong.f k l0).bind fun bt269 => ((impl_Along.f k bt269.1 bt269.2).bind fun t271 => ((spec_DrawPointAt.f k l0).bind fun t272 => ((impl_PointAt.f k t272).bind fun bt273 => ((spec_PointAt.f k t272).bind fun bt275 => ((spec_DrawApart.f k l0).bind fun bt277 => ((spec_DrawMiddle.f k l0).bind fun bt279 => ((spec_DrawKeyOf.f k l0).bind fun bt284 => ((impl_Middle.f bt279.1 bt279.2.1 bt279.2.2.1 bt279.2.2.2).bind fun bt289 => ((spec_Along.f k bt269.1 bt269.2).bind fun t291 => (if t271 = t291 then (if bt273.1 = bt275.1 then (if bt273.2 = bt275.2 then ((impl_Apart.f k bt277.1 bt277.2).bind fun t292 => ((spec_Apart.f k bt277.1 bt277.2).bind fun t293 => (if t292 = t293 then ((impl_KeyOf.f k bt284.1 bt284.2.1 bt284.2.2.1 bt284.2.2.2).bind fun t294 => ((spec_KeyOf.f k bt284.1 bt284.2.1 bt284.2.2.1 bt284.2.2.2).bind fun t295 => (laws_FnCurves.j0 k bt269.1 bt269.2 t271 t272 bt273.1 bt273.2 bt277.1 bt289.1 bt289.2 (t294 != t295) bt279.1 bt279.2.1 bt279.2.2.1 bt279.2.2.2))) else (laws_FnCurves.j0 k bt269.1 bt269.2 t271 t272 bt273.1 bt273.2 bt277.1 bt289.1 bt289.2 true bt279.1 bt279.2.1 bt279.2.2.1 bt279.2.2.2)))) else (laws_FnCurves.j0 k bt269.1 bt269.2 t271 t272 bt273.1 bt273.2 bt277.1 bt289.1 bt289.2 true bt279.1 bt279.2.1 bt279.2.2.1 bt279.2.2.2)) else (laws_FnCurves.j0 k bt269.1 bt269.2 t271 t272 bt273.1 bt273.2 bt277.1 bt289.1 bt289.2 true bt279.1 bt279.2.1 bt279.2.2.1 bt279.2.2.2)) else (laws_FnCurves.j0 k bt269.1 bt269.2 t271 t272 bt273.1 bt273.2 bt277.1 bt289.1 bt289.2 true bt279.1 bt279.2.1 bt279.2.2.1 bt279.2.2.2)))))))))))))
theorem laws_FnCurves.mono_l : ∀ k, (∀ y0 y1 y2 y3 y4 y5 y6 y7 y8 y9 y10 y11 y12 y13, LeO (laws_FnCurves.j0 k y0 y1 y2 y3 y4 y5 y6 y7 y8 y9 y10 y11 y12 y13) (laws_FnCurves.j0 (k + 1) y0 y1 y2 y3 y4 y5 y6 y7 y8 y9 y10 y11 y12 y13)) ∧ (∀ y0 y1 y2 y3 y4 y5 y6 y7 y8 y9 y10 y11 y12, LeO (laws_FnCurves.j1 k y0 y1 y2 y3 y4 y5 y6 y7 y8 y9 y10 y11 y12) (laws_FnCurves.j1 (k + 1) y0 y1 y2 y3 y4 y5 y6 y7 y8 y9 y10 y11 y12))
  | 0 => ⟨fun _ _ _ _ _ _ _ _ _ _ _ _ _ _ r h => by simp [laws_FnCurves.j0] at h, fun _ _ _ _ _ _ _ _ _ _ _ _ _ r h => by simp [laws_FnCurves.j1] at h⟩
  | k + 1 => by
    obtain ⟨ih0, ih1⟩ := laws_FnCurves.mono_l k
    refine ⟨?_, ?_⟩
    · intro y0 y1 y2 y3 y4 y5 y6 y7 y8 y9 y10 y11 y12 y13
      unfold laws_FnCurves.j0
      repeat' first
      | (with_reducible exact ih0 _ _ _ _ _ _ _ _ _ _ _ _ _ _)
      | (with_reducible exact ih1 _ _ _ _ _ _ _ _ _ _ _ _ _)
      | (with_reducible exact impl_Along.mono _ _ _)
      | (with_reducible exact impl_Apart.mono _ _ _)
      | (with_reducible exact impl_KeyOf.mono _ _ _ _ _)
      | (with_reducible exact impl_PointAt.mono _ _)
      | (with_reducible exact spec_Along.mono _ _ _)
      | (with_reducible exact spec_Apart.mono _ _ _)
      | (with_reducible exact spec_DrawAlong.mono _ _)
      | (with_reducible exact spec_DrawApart.mono _ _)
      | (with_reducible exact spec_DrawKeyOf.mono _ _)
      | (with_reducible exact spec_DrawMiddle.mono _ _)
      | (with_reducible exact spec_DrawPointAt.mono _ _)
      | (with_reducible exact spec_KeyOf.mono _ _ _ _ _)
      | (with_reducible exact spec_PointAt.mono _ _)
      | (with_reducible exact LeO.refl _)
      | (with_reducible exact LeO.none _)
      | (with_reducible refine LeO.ite ?_ ?_)
      | (with_reducible refine LeO.bind ?_ (fun _ => ?_))
      | exact ih0 _ _ _ _ _ _ _ _ _ _ _ _ _ _
      | exact ih1 _ _ _ _ _ _ _ _ _ _ _ _ _
      | exact impl_Along.mono _ _ _
      | exact impl_Apart.mono _ _ _
      | exact impl_KeyOf.mono _ _ _ _ _
      | exact impl_PointAt.mono _ _
      | exact spec_Along.mono _ _ _
      | exact spec_Apart.mono _ _ _
      | exact spec_DrawAlong.mono _ _
      | exact spec_DrawApart.mono _ _
      | exact spec_DrawKeyOf.mono _ _
      | exact spec_DrawMiddle.mono _ _
      | exact spec_DrawPointAt.mono _ _
      | exact spec_KeyOf.mono _ _ _ _ _
      | exact spec_PointAt.mono _ _
      | exact LeO.none _
      | refine LeO.ite ?_ ?_
      | refine LeO.bind ?_ (fun _ => ?_)
    · intro y0 y1 y2 y3 y4 y5 y6 y7 y8 y9 y10 y11 y12
      unfold laws_FnCurves.j1
      repeat' first
      | (with_reducible exact ih0 _ _ _ _ _ _ _ _ _ _ _ _ _ _)
      | (with_reducible exact ih1 _ _ _ _ _ _ _ _ _ _ _ _ _)
      | (with_reducible exact impl_Along.mono _ _ _)
      | (with_reducible exact impl_Apart.mono _ _ _)
      | (with_reducible exact impl_KeyOf.mono _ _ _ _ _)
      | (with_reducible exact impl_PointAt.mono _ _)
      | (with_reducible exact spec_Along.mono _ _ _)
      | (with_reducible exact spec_Apart.mono _ _ _)
      | (with_reducible exact spec_DrawAlong.mono _ _)
      | (with_reducible exact spec_DrawApart.mono _ _)
      | (with_reducible exact spec_DrawKeyOf.mono _ _)
      | (with_reducible exact spec_DrawMiddle.mono _ _)
      | (with_reducible exact spec_DrawPointAt.mono _ _)
      | (with_reducible exact spec_KeyOf.mono _ _ _ _ _)
      | (with_reducible exact spec_PointAt.mono _ _)
      | (with_reducible exact LeO.refl _)
      | (with_reducible exact LeO.none _)
      | (with_reducible refine LeO.ite ?_ ?_)
      | (with_reducible refine LeO.bind ?_ (fun _ => ?_))
      | exact ih0 _ _ _ _ _ _ _ _ _ _ _ _ _ _
      | exact ih1 _ _ _ _ _ _ _ _ _ _ _ _ _
      | exact impl_Along.mono _ _ _
      | exact impl_Apart.mono _ _ _
      | exact impl_KeyOf.mono _ _ _ _ _
      | exact impl_PointAt.mono _ _
      | exact spec_Along.mono _ _ _
      | exact spec_Apart.mono _ _ _
      | exact spec_DrawAlong.mono _ _
      | exact spec_DrawApart.mono _ _
      | exact spec_DrawKeyOf.mono _ _
      | exact spec_DrawMiddle.mono _ _
      | exact spec_DrawPointAt.mono _ _
      | exact spec_KeyOf.mono _ _ _ _ _
      | exact spec_PointAt.mono _ _
      | exact LeO.none _
      | refine LeO.ite ?_ ?_
      | refine LeO.bind ?_ (fun _ => ?_)
theorem laws_FnCurves.mono : ∀ a0 k, LeO (laws_FnCurves.f k a0) (laws_FnCurves.f (k + 1) a0) := by
  intro a0 k
  obtain ⟨ih0, ih1⟩ := laws_FnCurves.mono_l k
  unfold laws_FnCurves.f
  repeat' first
      | (with_reducible exact ih0 _ _ _ _ _ _ _ _ _ _ _ _ _ _)
      | (with_reducible exact ih1 _ _ _ _ _ _ _ _ _ _ _ _ _)
      | (with_reducible exact impl_Along.mono _ _ _)
      | (with_reducible exact impl_Apart.mono _ _ _)
      | (with_reducible exact impl_KeyOf.mono _ _ _ _ _)
      | (with_reducible exact impl_PointAt.mono _ _)
      | (with_reducible exact spec_Along.mono _ _ _)
      | (with_reducible exact spec_Apart.mono _ _ _)
      | (with_reducible exact spec_DrawAlong.mono _ _)
      | (with_reducible exact spec_DrawApart.mono _ _)
      | (with_reducible exact spec_DrawKeyOf.mono _ _)
      | (with_reducible exact spec_DrawMiddle.mono _ _)
      | (with_reducible exact spec_DrawPointAt.mono _ _)
      | (with_reducible exact spec_KeyOf.mono _ _ _ _ _)
      | (with_reducible exact spec_PointAt.mono _ _)
      | (with_reducible exact LeO.refl _)
      | (with_reducible exact LeO.none _)
      | (with_reducible refine LeO.ite ?_ ?_)
      | (with_reducible refine LeO.bind ?_ (fun _ => ?_))
      | exact ih0 _ _ _ _ _ _ _ _ _ _ _ _ _ _
      | exact ih1 _ _ _ _ _ _ _ _ _ _ _ _ _
      | exact impl_Along.mono _ _ _
      | exact impl_Apart.mono _ _ _
      | exact impl_KeyOf.mono _ _ _ _ _
      | exact impl_PointAt.mono _ _
      | exact spec_Along.mono _ _ _
      | exact spec_Apart.mono _ _ _
      | exact spec_DrawAlong.mono _ _
      | exact spec_DrawApart.mono _ _
      | exact spec_DrawKeyOf.mono _ _
      | exact spec_DrawMiddle.mono _ _
      | exact spec_DrawPointAt.mono _ _
      | exact spec_KeyOf.mono _ _ _ _ _
      | exact spec_PointAt.mono _ _
      | exact LeO.none _
      | refine LeO.ite ?_ ?_
      | refine LeO.bind ?_ (fun _ => ?_)
def laws_FnCurves.T12 : Bool × List (List Nat × List Nat) := (true, [([], []), ([], []), ([], []), ([1, 2], [1, 2]), ([0, 3], [0, 3]), ([4, 3], [4]), ([5], [5]), ([5], [5]), ([6, 7, 5], [5, 6, 7]), ([5, 8], [5, 8]), ([9, 5], [9]), ([10], [10]), ([10], [10]), ([11, 12, 10], [10, 11, 12]), ([10, 13], [10, 13]), ([14, 10], [14]), ([15], [15]), ([15], [15]), ([16, 17, 15, 15], [15, 16, 17]), ([15], [15]), ([15], [15]), ([19, 20, 18, 15], [15, 19, 20]), ([18, 21, 15], [15, 18, 21]), ([15, 22], [15, 22]), ([23, 21], [23]), ([24], [24]), ([25, 24, 24], [24, 25]), ([24], [24]), ([27, 26, 24], [24, 27]), ([26, 28, 24], [24, 26, 28]), ([24, 29], [24, 29])])
def laws_FnCurves.B12 : List Nat := [0, 0, 0, 6, 15, 31, 63, 63, 255, 511, 1023, 2047, 2047, 8191, 16383, 32767, 65535, 65535, 262143, 65535, 65535, 2097151, 4194303, 8388607, 16777215, 33554431, 67108863, 33554431, 268435455, 536870911, 1073741823]
theorem laws_FnCurves.tab12 : rtab .any (opsOf Try.f14 12) = laws_FnCurves.T12 := by kernel_rfl
theorem laws_FnCurves.bits12 : waitsOk laws_FnCurves.T12.2 laws_FnCurves.B12 = true := by kernel_rfl
set_option maxHeartbeats 8000000 in
set_option maxRecDepth 100000 in
theorem laws_FnCurves.calls (k : Nat) (A0 : Option Addr) (c0 : Nat) (l0 : List Int) (r : Bool) (w : World) (hr0 : Kd.C (Kd.int .u8) w A0 l0.length l0) (hc0 : l0.length ≤ c0) (h : laws_FnCurves.f k l0 = some true) :
    Calls Try.prog 14 #[.slice A0 l0.length c0] w fun e w' => e = .returned (.bool true) ∧ Below w.heap.size w w' := by
  have hu73 := Try.underlying73
  have HR0 := Aside0.mk hr0
  have HC0 := Aside0.mk hc0
  clear hr0 hc0
  have HB := Aside0.mk (Below.refl w.heap.size w)
  have H : ((laws_big.f l0).bind fun t268 => (if t268 = true then (some true) else ((spec_DrawAlong.f k l0).bind fun bt269 => ((impl_Along.f k bt269.1 bt269.2).bind fun t271 => ((spec_DrawPointAt.f k l0).bind fun t272 => ((impl_PointAt.f k t272).bind fun bt273 => ((spec_PointAt.f k t272).bind fun bt275 => ((spec_DrawApart.f k l0).bind fun bt277 => ((spec_DrawMiddle.f k l0).bind fun bt279 => ((spec_DrawKeyOf.f k l0).bind fun bt284 => ((impl_Middle.f bt279.1 bt279.2.1 bt279.2.2.1 bt279.2.2.2).bind fun bt289 => ((spec_Along.f k bt269.1 bt269.2).bind fun t291 => (if t271 = t291 then (if bt273.1 = bt275.1 then (if bt273.2 = bt275.2 then ((impl_Apart.f k bt277.1 bt277.2).bind fun t292 => ((spec_Apart.f k bt277.1 bt277.2).bind fun t293 => (if t292 = t293 then ((impl_KeyOf.f k bt284.1 bt284.2.1 bt284.2.2.1 bt284.2.2.2).bind fun t294 => ((spec_KeyOf.f k bt284.1 bt284.2.1 bt284.2.2.1 bt284.2.2.2).bind fun t295 => (laws_FnCurves.j0 k bt269.1 bt269.2 t271 t272 bt273.1 bt273.2 bt277.1 bt289.1 bt289.2 (t294 != t295) bt279.1 bt279.2.1 bt279.2.2.1 bt279.2.2.2))) else (laws_FnCurves.j0 k bt269.1 bt269.2 t271 t272 bt273.1 bt273.2 bt277.1 bt289.1 bt289.2 true bt279.1 bt279.2.1 bt279.2.2.1 bt279.2.2.2)))) else (laws_FnCurves.j0 k bt269.1 bt269.2 t271 t272 bt273.1 bt273.2 bt277.1 bt289.1 bt289.2 true bt279.1 bt279.2.1 bt279.2.2.1 bt279.2.2.2)) else (laws_FnCurves.j0 k bt269.1 bt269.2 t271 t272 bt273.1 bt273.2 bt277.1 bt289.1 bt289.2 true bt279.1 bt279.2.1 bt279.2.2.1 bt279.2.2.2)) else (laws_FnCurves.j0 k bt269.1 bt269.2 t271 t272 bt273.1 bt273.2 bt277.1 bt289.1 bt289.2 true bt279.1 bt279.2.1 bt279.2.2.1 bt279.2.2.2)))))))))))))) = some true := h
  clear h
  replace H := Option.bind_eq_some_iff.mp H
  obtain ⟨t268, A20, H⟩ := H
  replace H : (if t268 = true then (some true) else ((spec_DrawAlong.f k l0).bind fun bt269 => ((impl_Along.f k bt269.1 bt269.2).bind fun t271 => ((spec_DrawPointAt.f k l0).bind fun t272 => ((impl_PointAt.f k t272).bind fun bt273 => ((spec_PointAt.f k t272).bind fun bt275 => ((spec_DrawApart.f k l0).bind fun bt277 => ((spec_DrawMiddle.f k l0).bind fun bt279 => ((spec_DrawKeyOf.f k l0).bind fun bt284 => ((impl_Middle.f bt279.1 bt279.2.1 bt279.2.2.1 bt279.2.2.2).bind fun bt289 => ((spec_Along.f k bt269.1 bt269.2).bind fun t291 => (if t271 = t291 then (if bt273.1 = bt275.1 then (if bt273.2 = bt275.2 then ((impl_Apart.f k bt277.1 bt277.2).bind fun t292 => ((spec_Apart.f k bt277.1 bt277.2).bind fun t293 => (if t292 = t293 then ((impl_KeyOf.f k bt284.1 bt284.2.1 bt284.2.2.1 bt284.2.2.2).bind fun t294 => ((spec_KeyOf.f k bt284.1 bt284.2.1 bt284.2.2.1 bt284.2.2.2).bind fun t295 => (laws_FnCurves.j0 k bt269.1 bt269.2 t271 t272 bt273.1 bt273.2 bt277.1 bt289.1 bt289.2 (t294 != t295) bt279.1 bt279.2.1 bt279.2.2.1 bt279.2.2.2))) else (laws_FnCurves.j0 k bt269.1 bt269.2 t271 t272 bt273.1 bt273.2 bt277.1 bt289.1 bt289.2 true bt279.1 bt279.2.1 bt279.2.2.1 bt279.2.2.2)))) else (laws_FnCurves.j0 k bt269.1 bt269.2 t271 t272 bt273.1 bt273.2 bt277.1 bt289.1 bt289.2 true bt279.1 bt279.2.1 bt279.2.2.1 bt279.2.2.2)) else (laws_FnCurves.j0 k bt269.1 bt269.2 t271 t272 bt273.1 bt273.2 bt277.1 bt289.1 bt289.2 true bt279.1 bt279.2.1 bt279.2.2.1 bt279.2.2.2)) else (laws_FnCurves.j0 k bt269.1 bt269.2 t271 t272 bt273.1 bt273.2 bt277.1 bt289.1 bt289.2 true bt279.1 bt279.2.1 bt279.2.2.1 bt279.2.2.2))))))))))))) = some true := H
  have A2 := Aside0.mk A20
  clear A20
  by_cases c3 : t268 = true
  · subst c3
    have H1 : (some true) = some true := rfl
    clear H
    have H := H1
    clear H1
    clear H
    go_enter Try.func14, Try.ntmps14
    go_wp2_with (first | ((with_reducible refine gate_callee (f := 52) rfl ?_); refine goesL_ (some 21) rfl rfl Try.func52 (by kernel_rfl) rfl #[.slice A0 l0.length c0] rfl (by (try simp only [List.map_toArray, List.map_cons, List.map_nil]); first | done | rfl | (simp only [List.length_drop, List.length_take]; rfl)) ?_; (with_reducible refine (laws_big.calls _ _ l0 true _ ?side1 ?side2 A2.out).mono ?_); (case side1 => repeat (first | exact HR0.out | (with_reducible refine Kd.C_alloc ?_ _) | (with_reducible refine Kd.C_drewN ?_ _) | (with_reducible refine Kd.C_drew ?_))); (case side2 => exact HC0.out); rintro e w' ⟨rfl, ⟨nd, rfl⟩⟩; refine ⟨_, rfl, ?_⟩))
    go_ret
    exact ⟨by first | rfl | (simp [errW_none, errW_some] <;> rfl) | (simp [*, errW_none, errW_some] <;> rfl), by repeat (first | (with_reducible first | exact HB.out | apply below_alloc | apply pw_below_drewN | apply below_drew1) | exact HB.out)⟩
  · replace c3 := Bool.eq_false_iff.mpr c3
    subst c3
    have H1 : ((spec_DrawAlong.f k l0).bind fun bt269 => ((impl_Along.f k bt269.1 bt269.2).bind fun t271 => ((spec_DrawPointAt.f k l0).bind fun t272 => ((impl_PointAt.f k t272).bind fun bt273 => ((spec_PointAt.f k t272).bind fun bt275 => ((spec_DrawApart.f k l0).bind fun bt277 => ((spec_DrawMiddle.f k l0).bind fun bt279 => ((spec_DrawKeyOf.f k l0).bind fun bt284 => ((impl_Middle.f bt279.1 bt279.2.1 bt279.2.2.1 bt279.2.2.2).bind fun bt289 => ((spec_Along.f k bt269.1 bt269.2).bind fun t291 => (if t271 = t291 then (if bt273.1 = bt275.1 then (if bt273.2 = bt275.2 then ((impl_Apart.f k bt277.1 bt277.2).bind fun t292 => ((spec_Apart.f k bt277.1 bt277.2).bind fun t293 => (if t292 = t293 then ((impl_KeyOf.f k bt284.1 bt284.2.1 bt284.2.2.1 bt284.2.2.2).bind fun t294 => ((spec_KeyOf.f k bt284.1 bt284.2.1 bt284.2.2.1 bt284.2.2.2).bind fun t295 => (laws_FnCurves.j0 k bt269.1 bt269.2 t271 t272 bt273.1 bt273.2 bt277.1 bt289.1 bt289.2 (t294 != t295) bt279.1 bt279.2.1 bt279.2.2.1 bt279.2.2.2))) else (laws_FnCurves.j0 k bt269.1 bt269.2 t271 t272 bt273.1 bt273.2 bt277.1 bt289.1 bt289.2 true bt279.1 bt279.2.1 bt279.2.2.1 bt279.2.2.2)))) else (laws_FnCurves.j0 k bt269.1 bt269.2 t271 t272 bt273.1 bt273.2 bt277.1 bt289.1 bt289.2 true bt279.1 bt279.2.1 bt279.2.2.1 bt279.2.2.2)) else (laws_FnCurves.j0 k bt269.1 bt269.2 t271 t272 bt273.1 bt273.2 bt277.1 bt289.1 bt289.2 true bt279.1 bt279.2.1 bt279.2.2.1 bt279.2.2.2)) else (laws_FnCurves.j0 k bt269.1 bt269.2 t271 t272 bt273.1 bt273.2 bt277.1 bt289.1 bt289.2 true bt279.1 bt279.2.1 bt279.2.2.1 bt279.2.2.2)))))))))))) = some true := by rw [if_neg (show ¬ (false = true) by decide)] at H; exact H
    clear H
    have H := H1
    clear H1
    replace H := Option.bind_eq_some_iff.mp H
    obtain ⟨⟨t269, t270⟩, A40, H⟩ := H
    replace H : ((impl_Along.f k t269 t270).bind fun t271 => ((spec_DrawPointAt.f k l0).bind fun t272 => ((impl_PointAt.f k t272).bind fun bt273 => ((spec_PointAt.f k t272).bind fun bt275 => ((spec_DrawApart.f k l0).bind fun bt277 => ((spec_DrawMiddle.f k l0).bind fun bt279 => ((spec_DrawKeyOf.f k l0).bind fun bt284 => ((impl_Middle.f bt279.1 bt279.2.1 bt279.2.2.1 bt279.2.2.2).bind fun bt289 => ((spec_Along.f k t269 t270).bind fun t291 => (if t271 = t291 then (if bt273.1 = bt275.1 then (if bt273.2 = bt275.2 then ((impl_Apart.f k bt277.1 bt277.2).bind fun t292 => ((spec_Apart.f k bt277.1 bt277.2).bind fun t293 => (if t292 = t293 then ((impl_KeyOf.f k bt284.1 bt284.2.1 bt284.2.2.1 bt284.2.2.2).bind fun t294 => ((spec_KeyOf.f k bt284.1 bt284.2.1 bt284.2.2.1 bt284.2.2.2).bind fun t295 => (laws_FnCurves.j0 k t269 t270 t271 t272 bt273.1 bt273.2 bt277.1 bt289.1 bt289.2 (t294 != t295) bt279.1 bt279.2.1 bt279.2.2.1 bt279.2.2.2))) else (laws_FnCurves.j0 k t269 t270 t271 t272 bt273.1 bt273.2 bt277.1 bt289.1 bt289.2 true bt279.1 bt279.2.1 bt279.2.2.1 bt279.2.2.2)))) else (laws_FnCurves.j0 k t269 t270 t271 t272 bt273.1 bt273.2 bt277.1 bt289.1 bt289.2 true bt279.1 bt279.2.1 bt279.2.2.1 bt279.2.2.2)) else (laws_FnCurves.j0 k t269 t270 t271 t272 bt273.1 bt273.2 bt277.1 bt289.1 bt289.2 true bt279.1 bt279.2.1 bt279.2.2.1 bt279.2.2.2)) else (laws_FnCurves.j0 k t269 t270 t271 t272 bt273.1 bt273.2 bt277.1 bt289.1 bt289.2 true bt279.1 bt279.2.1 bt279.2.2.1 bt279.2.2.2))))))))))) = some true := H
    have A4 := Aside0.mk A40
    clear A40
    replace H := Option.bind_eq_some_iff.mp H
    obtain ⟨t271, A50, H⟩ := H
    replace H : ((spec_DrawPointAt.f k l0).bind fun t272 => ((impl_PointAt.f k t272).bind fun bt273 => ((spec_PointAt.f k t272).bind fun bt275 => ((spec_DrawApart.f k l0).bind fun bt277 => ((spec_DrawMiddle.f k l0).bind fun bt279 => ((spec_DrawKeyOf.f k l0).bind fun bt284 => ((impl_Middle.f bt279.1 bt279.2.1 bt279.2.2.1 bt279.2.2.2).bind fun bt289 => ((spec_Along.f k t269 t270).bind fun t291 => (if t271 = t291 then (if bt273.1 = bt275.1 then (if bt273.2 = bt275.2 then ((impl_Apart.f k bt277.1 bt277.2).bind fun t292 => ((spec_Apart.f k bt277.1 bt277.2).bind fun t293 => (if t292 = t293 then ((impl_KeyOf.f k bt284.1 bt284.2.1 bt284.2.2.1 bt284.2.2.2).bind fun t294 => ((spec_KeyOf.f k bt284.1 bt284.2.1 bt284.2.2.1 bt284.2.2.2).bind fun t295 => (laws_FnCurves.j0 k t269 t270 t271 t272 bt273.1 bt273.2 bt277.1 bt289.1 bt289.2 (t294 != t295) bt279.1 bt279.2.1 bt279.2.2.1 bt279.2.2.2))) else (laws_FnCurves.j0 k t269 t270 t271 t272 bt273.1 bt273.2 bt277.1 bt289.1 bt289.2 true bt279.1 bt279.2.1 bt279.2.2.1 bt279.2.2.2)))) else (laws_FnCurves.j0 k t269 t270 t271 t272 bt273.1 bt273.2 bt277.1 bt289.1 bt289.2 true bt279.1 bt279.2.1 bt279.2.2.1 bt279.2.2.2)) else (laws_FnCurves.j0 k t269 t270 t271 t272 bt273.1 bt273.2 bt277.1 bt289.1 bt289.2 true bt279.1 bt279.2.1 bt279.2.2.1 bt279.2.2.2)) else (laws_FnCurves.j0 k t269 t270 t271 t272 bt273.1 bt273.2 bt277.1 bt289.1 bt289.2 true bt279.1 bt279.2.1 bt279.2.2.1 bt279.2.2.2)))))))))) = some true := H
    have A5 := Aside0.mk A50
    clear A50
    replace H := Option.bind_eq_some_iff.mp H
    obtain ⟨t272, A60, H⟩ := H
    replace H : ((impl_PointAt.f k t272).bind fun bt273 => ((spec_PointAt.f k t272).bind fun bt275 => ((spec_DrawApart.f k l0).bind fun bt277 => ((spec_DrawMiddle.f k l0).bind fun bt279 => ((spec_DrawKeyOf.f k l0).bind fun bt284 => ((impl_Middle.f bt279.1 bt279.2.1 bt279.2.2.1 bt279.2.2.2).bind fun bt289 => ((spec_Along.f k t269 t270).bind fun t291 => (if t271 = t291 then (if bt273.1 = bt275.1 then (if bt273.2 = bt275.2 then ((impl_Apart.f k bt277.1 bt277.2).bind fun t292 => ((spec_Apart.f k bt277.1 bt277.2).bind fun t293 => (if t292 = t293 then ((impl_KeyOf.f k bt284.1 bt284.2.1 bt284.2.2.1 bt284.2.2.2).bind fun t294 => ((spec_KeyOf.f k bt284.1 bt284.2.1 bt284.2.2.1 bt284.2.2.2).bind fun t295 => (laws_FnCurves.j0 k t269 t270 t271 t272 bt273.1 bt273.2 bt277.1 bt289.1 bt289.2 (t294 != t295) bt279.1 bt279.2.1 bt279.2.2.1 bt279.2.2.2))) else (laws_FnCurves.j0 k t269 t270 t271 t272 bt273.1 bt273.2 bt277.1 bt289.1 bt289.2 true bt279.1 bt279.2.1 bt279.2.2.1 bt279.2.2.2)))) else (laws_FnCurves.j0 k t269 t270 t271 t272 bt273.1 bt273.2 bt277.1 bt289.1 bt289.2 true bt279.1 bt279.2.1 bt279.2.2.1 bt279.2.2.2)) else (laws_FnCurves.j0 k t269 t270 t271 t272 bt273.1 bt273.2 bt277.1 bt289.1 bt289.2 true bt279.1 bt279.2.1 bt279.2.2.1 bt279.2.2.2)) else (laws_FnCurves.j0 k t269 t270 t271 t272 bt273.1 bt273.2 bt277.1 bt289.1 bt289.2 true bt279.1 bt279.2.1 bt279.2.2.1 bt279.2.2.2))))))))) = some true := H
    have A6 := Aside0.mk A60
    clear A60
    replace H := Option.bind_eq_some_iff.mp H
    obtain ⟨⟨t273, t274⟩, A70, H⟩ := H
    replace H : ((spec_PointAt.f k t272).bind fun bt275 => ((spec_DrawApart.f k l0).bind fun bt277 => ((spec_DrawMiddle.f k l0).bind fun bt279 => ((spec_DrawKeyOf.f k l0).bind fun bt284 => ((impl_Middle.f bt279.1 bt279.2.1 bt279.2.2.1 bt279.2.2.2).bind fun bt289 => ((spec_Along.f k t269 t270).bind fun t291 => (if t271 = t291 then (if t273 = bt275.1 then (if t274 = bt275.2 then ((impl_Apart.f k bt277.1 bt277.2).bind fun t292 => ((spec_Apart.f k bt277.1 bt277.2).bind fun t293 => (if t292 = t293 then ((impl_KeyOf.f k bt284.1 bt284.2.1 bt284.2.2.1 bt284.2.2.2).bind fun t294 => ((spec_KeyOf.f k bt284.1 bt284.2.1 bt284.2.2.1 bt284.2.2.2).bind fun t295 => (laws_FnCurves.j0 k t269 t270 t271 t272 t273 t274 bt277.1 bt289.1 bt289.2 (t294 != t295) bt279.1 bt279.2.1 bt279.2.2.1 bt279.2.2.2))) else (laws_FnCurves.j0 k t269 t270 t271 t272 t273 t274 bt277.1 bt289.1 bt289.2 true bt279.1 bt279.2.1 bt279.2.2.1 bt279.2.2.2)))) else (laws_FnCurves.j0 k t269 t270 t271 t272 t273 t274 bt277.1 bt289.1 bt289.2 true bt279.1 bt279.2.1 bt279.2.2.1 bt279.2.2.2)) else (laws_FnCurves.j0 k t269 t270 t271 t272 t273 t274 bt277.1 bt289.1 bt289.2 true bt279.1 bt279.2.1 bt279.2.2.1 bt279.2.2.2)) else (laws_FnCurves.j0 k t269 t270 t271 t272 t273 t274 bt277.1 bt289.1 bt289.2 true bt279.1 bt279.2.1 bt279.2.2.1 bt279.2.2.2)))))))) = some true := H
    have A7 := Aside0.mk A70
    clear A70
    replace H := Option.bind_eq_some_iff.mp H
    obtain ⟨⟨t275, t276⟩, A80, H⟩ := H
    replace H : ((spec_DrawApart.f k l0).bind fun bt277 => ((spec_DrawMiddle.f k l0).bind fun bt279 => ((spec_DrawKeyOf.f k l0).bind fun bt284 => ((impl_Middle.f bt279.1 bt279.2.1 bt279.2.2.1 bt279.2.2.2).bind fun bt289 => ((spec_Along.f k t269 t270).bind fun t291 => (if t271 = t291 then (if t273 = t275 then (if t274 = t276 then ((impl_Apart.f k bt277.1 bt277.2).bind fun t292 => ((spec_Apart.f k bt277.1 bt277.2).bind fun t293 => (if t292 = t293 then ((impl_KeyOf.f k bt284.1 bt284.2.1 bt284.2.2.1 bt284.2.2.2).bind fun t294 => ((spec_KeyOf.f k bt284.1 bt284.2.1 bt284.2.2.1 bt284.2.2.2).bind fun t295 => (laws_FnCurves.j0 k t269 t270 t271 t272 t273 t274 bt277.1 bt289.1 bt289.2 (t294 != t295) bt279.1 bt279.2.1 bt279.2.2.1 bt279.2.2.2))) else (laws_FnCurves.j0 k t269 t270 t271 t272 t273 t274 bt277.1 bt289.1 bt289.2 true bt279.1 bt279.2.1 bt279.2.2.1 bt279.2.2.2)))) else (laws_FnCurves.j0 k t269 t270 t271 t272 t273 t274 bt277.1 bt289.1 bt289.2 true bt279.1 bt279.2.1 bt279.2.2.1 bt279.2.2.2)) else (laws_FnCurves.j0 k t269 t270 t271 t272 t273 t274 bt277.1 bt289.1 bt289.2 true bt279.1 bt279.2.1 bt279.2.2.1 bt279.2.2.2)) else (laws_FnCurves.j0 k t269 t270 t271 t272 t273 t274 bt277.1 bt289.1 bt289.2 true bt279.1 bt279.2.1 bt279.2.2.1 bt279.2.2.2))))))) = some true := H
    have A8 := Aside0.mk A80
    clear A80
    replace H := Option.bind_eq_some_iff.mp H
    obtain ⟨⟨t277, t278⟩, A90, H⟩ := H
    replace H : ((spec_DrawMiddle.f k l0).bind fun bt279 => ((spec_DrawKeyOf.f k l0).bind fun bt284 => ((impl_Middle.f bt279.1 bt279.2.1 bt279.2.2.1 bt279.2.2.2).bind fun bt289 => ((spec_Along.f k t269 t270).bind fun t291 => (if t271 = t291 then (if t273 = t275 then (if t274 = t276 then ((impl_Apart.f k t277 t278).bind fun t292 => ((spec_Apart.f k t277 t278).bind fun t293 => (if t292 = t293 then ((impl_KeyOf.f k bt284.1 bt284.2.1 bt284.2.2.1 bt284.2.2.2).bind fun t294 => ((spec_KeyOf.f k bt284.1 bt284.2.1 bt284.2.2.1 bt284.2.2.2).bind fun t295 => (laws_FnCurves.j0 k t269 t270 t271 t272 t273 t274 t277 bt289.1 bt289.2 (t294 != t295) bt279.1 bt279.2.1 bt279.2.2.1 bt279.2.2.2))) else (laws_FnCurves.j0 k t269 t270 t271 t272 t273 t274 t277 bt289.1 bt289.2 true bt279.1 bt279.2.1 bt279.2.2.1 bt279.2.2.2)))) else (laws_FnCurves.j0 k t269 t270 t271 t272 t273 t274 t277 bt289.1 bt289.2 true bt279.1 bt279.2.1 bt279.2.2.1 bt279.2.2.2)) else (laws_FnCurves.j0 k t269 t270 t271 t272 t273 t274 t277 bt289.1 bt289.2 true bt279.1 bt279.2.1 bt279.2.2.1 bt279.2.2.2)) else (laws_FnCurves.j0 k t269 t270 t271 t272 t273 t274 t277 bt289.1 bt289.2 true bt279.1 bt279.2.1 bt279.2.2.1 bt279.2.2.2)))))) = some true := H
    have A9 := Aside0.mk A90
    clear A90
    replace H := Option.bind_eq_some_iff.mp H
    obtain ⟨⟨t279, t280, t281, t282⟩, A100, H⟩ := H
    replace H : ((spec_DrawKeyOf.f k l0).bind fun bt284 => ((impl_Middle.f t279 t280 t281 t282).bind fun bt289 => ((spec_Along.f k t269 t270).bind fun t291 => (if t271 = t291 then (if t273 = t275 then (if t274 = t276 then ((impl_Apart.f k t277 t278).bind fun t292 => ((spec_Apart.f k t277 t278).bind fun t293 => (if t292 = t293 then ((impl_KeyOf.f k bt284.1 bt284.2.1 bt284.2.2.1 bt284.2.2.2).bind fun t294 => ((spec_KeyOf.f k bt284.1 bt284.2.1 bt284.2.2.1 bt284.2.2.2).bind fun t295 => (laws_FnCurves.j0 k t269 t270 t271 t272 t273 t274 t277 bt289.1 bt289.2 (t294 != t295) t279 t280 t281 t282))) else (laws_FnCurves.j0 k t269 t270 t271 t272 t273 t274 t277 bt289.1 bt289.2 true t279 t280 t281 t282)))) else (laws_FnCurves.j0 k t269 t270 t271 t272 t273 t274 t277 bt289.1 bt289.2 true t279 t280 t281 t282)) else (laws_FnCurves.j0 k t269 t270 t271 t272 t273 t274 t277 bt289.1 bt289.2 true t279 t280 t281 t282)) else (laws_FnCurves.j0 k t269 t270 t271 t272 t273 t274 t277 bt289.1 bt289.2 true t279 t280 t281 t282))))) = some true := H
    have A10 := Aside0.mk A100
    clear A100
    replace H := Option.bind_eq_some_iff.mp H
    obtain ⟨⟨t284, t285, t286, t287⟩, A110, H⟩ := H
    replace H : ((impl_Middle.f t279 t280 t281 t282).bind fun bt289 => ((spec_Along.f k t269 t270).bind fun t291 => (if t271 = t291 then (if t273 = t275 then (if t274 = t276 then ((impl_Apart.f k t277 t278).bind fun t292 => ((spec_Apart.f k t277 t278).bind fun t293 => (if t292 = t293 then ((impl_KeyOf.f k t284 t285 t286 t287).bind fun t294 => ((spec_KeyOf.f k t284 t285 t286 t287).bind fun t295 => (laws_FnCurves.j0 k t269 t270 t271 t272 t273 t274 t277 bt289.1 bt289.2 (t294 != t295) t279 t280 t281 t282))) else (laws_FnCurves.j0 k t269 t270 t271 t272 t273 t274 t277 bt289.1 bt289.2 true t279 t280 t281 t282)))) else (laws_FnCurves.j0 k t269 t270 t271 t272 t273 t274 t277 bt289.1 bt289.2 true t279 t280 t281 t282)) else (laws_FnCurves.j0 k t269 t270 t271 t272 t273 t274 t277 bt289.1 bt289.2 true t279 t280 t281 t282)) else (laws_FnCurves.j0 k t269 t270 t271 t272 t273 t274 t277 bt289.1 bt289.2 true t279 t280 t281 t282)))) = some true := H
    have A11 := Aside0.mk A110
    clear A110
    replace H := Option.bind_eq_some_iff.mp H
    obtain ⟨⟨t289, t290⟩, A120, H⟩ := H
    replace H : ((spec_Along.f k t269 t270).bind fun t291 => (if t271 = t291 then (if t273 = t275 then (if t274 = t276 then ((impl_Apart.f k t277 t278).bind fun t292 => ((spec_Apart.f k t277 t278).bind fun t293 => (if t292 = t293 then ((impl_KeyOf.f k t284 t285 t286 t287).bind fun t294 => ((spec_KeyOf.f k t284 t285 t286 t287).bind fun t295 => (laws_FnCurves.j0 k t269 t270 t271 t272 t273 t274 t277 t289 t290 (t294 != t295) t279 t280 t281 t282))) else (laws_FnCurves.j0 k t269 t270 t271 t272 t273 t274 t277 t289 t290 true t279 t280 t281 t282)))) else (laws_FnCurves.j0 k t269 t270 t271 t272 t273 t274 t277 t289 t290 true t279 t280 t281 t282)) else (laws_FnCurves.j0 k t269 t270 t271 t272 t273 t274 t277 t289 t290 true t279 t280 t281 t282)) else (laws_FnCurves.j0 k t269 t270 t271 t272 t273 t274 t277 t289 t290 true t279 t280 t281 t282))) = some true := H
    have A12 := Aside0.mk A120
    clear A120
    have HC13 := Aside0.mk H
    clear H
    go_enter Try.func14, Try.ntmps14
    go_upto_region 12 with (first | ((with_reducible refine gate_callee (f := 52) rfl ?_); refine goesL_ (some 21) rfl rfl Try.func52 (by kernel_rfl) rfl #[.slice A0 l0.length c0] rfl (by (try simp only [List.map_toArray, List.map_cons, List.map_nil]); first | done | rfl | (simp only [List.length_drop, List.length_take]; rfl)) ?_; (with_reducible refine (laws_big.calls _ _ l0 false _ ?side1 ?side2 A2.out).mono ?_); (case side1 => repeat (first | exact HR0.out | (with_reducible refine Kd.C_alloc ?_ _) | (with_reducible refine Kd.C_drewN ?_ _) | (with_reducible refine Kd.C_drew ?_))); (case side2 => exact HC0.out); rintro e w' ⟨rfl, ⟨nd, rfl⟩⟩; refine ⟨_, rfl, ?_⟩) | ((with_reducible refine gate_callee (f := 81) rfl ?_); refine goesL_ (some 24) rfl rfl Try.func81 (by kernel_rfl) rfl #[.slice A0 l0.length c0] rfl (by (try simp only [List.map_toArray, List.map_cons, List.map_nil]); first | done | rfl | (simp only [List.length_drop, List.length_take]; rfl)) ?_; (with_reducible refine (spec_DrawAlong.calls k _ _ l0 t269 t270 _ ?side1 ?side2 A4.out).mono ?_); (case side1 => repeat (first | exact HR0.out | (with_reducible refine Kd.C_alloc ?_ _) | (with_reducible refine Kd.C_drewN ?_ _) | (with_reducible refine Kd.C_drew ?_))); (case side2 => exact HC0.out); rintro e w14 ⟨rfl, hb⟩; refine ⟨_, rfl, ?_⟩; have n0_ := Aside0.mk (below_step (by repeat (first | (with_reducible first | exact HB.out | apply below_alloc | apply pw_below_drewN | apply below_drew1) | exact HB.out)) hb); clear HB; have HB := n0_; clear n0_; (try clear hb); (try clear hb2); (try clear hk); (try clear hi)) | ((with_reducible refine gate_callee (f := 82) rfl ?_); refine goesL_ (some 29) rfl rfl Try.func82 (by kernel_rfl) rfl #[.int .i64 t269, .int .i64 t270] rfl (by (try simp only [List.map_toArray, List.map_cons, List.map_nil]); first | done | rfl | (simp only [List.length_drop, List.length_take]; rfl)) ?_; (with_reducible refine (impl_Along.calls k t269 t270 t271 _ A5.out).mono ?_); rintro e w' ⟨rfl, ⟨nd, rfl⟩⟩; refine ⟨_, rfl, ?_⟩; (try (rw [drewN_self w14]; generalize hq_ : World.drewN w14 _ = w14; have n0_ : Aside0 (Below w.heap.size w w14) := ⟨by rw [← hq_]; exact (by repeat (first | (with_reducible first | exact HB.out | apply below_alloc | apply pw_below_drewN | apply below_drew1) | exact HB.out))⟩; clear HB hq_; have HB := n0_; clear n0_))) | ((with_reducible refine gate_callee (f := 83) rfl ?_); refine goesL_ (some 31) rfl rfl Try.func83 (by kernel_rfl) rfl #[.slice A0 l0.length c0] rfl (by (try simp only [List.map_toArray, List.map_cons, List.map_nil]); first | done | rfl | (simp only [List.length_drop, List.length_take]; rfl)) ?_; (with_reducible refine (spec_DrawPointAt.calls k _ _ l0 t272 _ ?side1 ?side2 A6.out).mono ?_); (case side1 => repeat (first | exact (Kd.C_below HR0.out HB.out) | (with_reducible refine Kd.C_alloc ?_ _) | (with_reducible refine Kd.C_drewN ?_ _) | (with_reducible refine Kd.C_drew ?_))); (case side2 => exact HC0.out); rintro e w15 ⟨rfl, hb⟩; refine ⟨_, rfl, ?_⟩; have n0_ := Aside0.mk (below_step (by repeat (first | (with_reducible first | exact HB.out | apply below_alloc | apply pw_below_drewN | apply below_drew1) | exact HB.out)) hb); clear HB; have HB := n0_; clear n0_; (try clear hb); (try clear hb2); (try clear hk); (try clear hi)) | ((with_reducible refine gate_callee (f := 84) rfl ?_); refine goesL_ (some 34) rfl rfl Try.func84 (by kernel_rfl) rfl #[.int .i64 t272] rfl (by (try simp only [List.map_toArray, List.map_cons, List.map_nil]); first | done | rfl | (simp only [List.length_drop, List.length_take]; rfl)) ?_; (with_reducible refine (impl_PointAt.calls k t272 t273 t274 _ A7.out).mono ?_); rintro e w' ⟨rfl, ⟨nd, rfl⟩⟩; refine ⟨_, rfl, ?_⟩; (try (rw [drewN_self w15]; generalize hq_ : World.drewN w15 _ = w15; have n0_ : Aside0 (Below w.heap.size w w15) := ⟨by rw [← hq_]; exact (by repeat (first | (with_reducible first | exact HB.out | apply below_alloc | apply pw_below_drewN | apply below_drew1) | exact HB.out))⟩; clear HB hq_; have HB := n0_; clear n0_))) | ((with_reducible refine gate_callee (f := 85) rfl ?_); refine goesL_ (some 39) rfl rfl Try.func85 (by kernel_rfl) rfl #[.int .i64 t272] rfl (by (try simp only [List.map_toArray, List.map_cons, List.map_nil]); first | done | rfl | (simp only [List.length_drop, List.length_take]; rfl)) ?_; (with_reducible refine (spec_PointAt.calls k t272 t275 t276 _ A8.out).mono ?_); rintro e w' ⟨rfl, ⟨nd, rfl⟩⟩; refine ⟨_, rfl, ?_⟩; (try (rw [drewN_self w15]; generalize hq_ : World.drewN w15 _ = w15; have n0_ : Aside0 (Below w.heap.size w w15) := ⟨by rw [← hq_]; exact (by repeat (first | (with_reducible first | exact HB.out | apply below_alloc | apply pw_below_drewN | apply below_drew1) | exact HB.out))⟩; clear HB hq_; have HB := n0_; clear n0_))) | ((with_reducible refine gate_callee (f := 86) rfl ?_); refine goesL_ (some 44) rfl rfl Try.func86 (by kernel_rfl) rfl #[.slice A0 l0.length c0] rfl (by (try simp only [List.map_toArray, List.map_cons, List.map_nil]); first | done | rfl | (simp only [List.length_drop, List.length_take]; rfl)) ?_; (with_reducible refine (spec_DrawApart.calls k _ _ l0 t277 t278 _ ?side1 ?side2 A9.out).mono ?_); (case side1 => repeat (first | exact (Kd.C_below HR0.out HB.out) | (with_reducible refine Kd.C_alloc ?_ _) | (with_reducible refine Kd.C_drewN ?_ _) | (with_reducible refine Kd.C_drew ?_))); (case side2 => exact HC0.out); rintro e w16 ⟨rfl, hb⟩; refine ⟨_, rfl, ?_⟩; have n0_ := Aside0.mk (below_step (by repeat (first | (with_reducible first | exact HB.out | apply below_alloc | apply pw_below_drewN | apply below_drew1) | exact HB.out)) hb); clear HB; have HB := n0_; clear n0_; (try clear hb); (try clear hb2); (try clear hk); (try clear hi)) | ((with_reducible refine gate_callee (f := 87) rfl ?_); refine goesL_ (some 48) rfl rfl Try.func87 (by kernel_rfl) rfl #[.slice A0 l0.length c0] rfl (by (try simp only [List.map_toArray, List.map_cons, List.map_nil]); first | done | rfl | (simp only [List.length_drop, List.length_take]; rfl)) ?_; (with_reducible refine (spec_DrawMiddle.calls k _ _ l0 t279 t280 t281 t282 _ ?side1 ?side2 A10.out).mono ?_); (case side1 => repeat (first | exact (Kd.C_below HR0.out HB.out) | (with_reducible refine Kd.C_alloc ?_ _) | (with_reducible refine Kd.C_drewN ?_ _) | (with_reducible refine Kd.C_drew ?_))); (case side2 => exact HC0.out); rintro e w17 ⟨rfl, hb⟩; refine ⟨_, rfl, ?_⟩; have n0_ := Aside0.mk (below_step (by repeat (first | (with_reducible first | exact HB.out | apply below_alloc | apply pw_below_drewN | apply below_drew1) | exact HB.out)) hb); clear HB; have HB := n0_; clear n0_; (try clear hb); (try clear hb2); (try clear hk); (try clear hi)) | ((with_reducible refine gate_dst (N := 13) rfl ?_); refine box_event ?hg (N := 13) ?hd (cs := #[.int .i64 0, .int .i64 0, .int .i64 0, .int .i64 0]) (t := 73) ?hr ?_; (case hd => rfl); (case hg => rfl); (case hr => first | (go_simp; done) | (go_simp; rfl)); intro gb283 hg w18 hbox hb; have n0_ := Aside0.mk (below_step (by repeat (first | (with_reducible first | exact HB.out | apply below_alloc | apply pw_below_drewN | apply below_drew1) | exact HB.out)) hb); have n1_ := Aside0.mk (hbox); have n2_ := Aside0.mk ((by rw [hg]; exact (below_size (by repeat (first | (with_reducible first | exact HB.out | apply below_alloc | apply pw_below_drewN | apply below_drew1) | exact HB.out))) : w.heap.size ≤ gb283)); have n3_ := Aside0.mk ((by rw [hg]; exact (below_size (by repeat (first | (with_reducible first | exact HB.out | apply below_alloc | apply pw_below_drewN | apply below_drew1) | exact HB.out))) : w.heap.size ≤ gb283)); clear HB; have HB := n0_; have BK283 := n1_; have GW283 := n2_; have GE283 := n3_; clear n0_ n1_ n2_ n3_; clear hb hbox hg; have hcz19_0 : w18.cell? ⟨gb283, 0, none⟩ = some (.int .i64 0) := (blk_cell BK283.out 0).trans rfl; have hcz19_1 : w18.cell? ⟨gb283, 1, none⟩ = some (.int .i64 0) := (blk_cell BK283.out 1).trans rfl; have hcz19_2 : w18.cell? ⟨gb283, 2, none⟩ = some (.int .i64 0) := (blk_cell BK283.out 2).trans rfl; have hcz19_3 : w18.cell? ⟨gb283, 3, none⟩ = some (.int .i64 0) := (blk_cell BK283.out 3).trans rfl; have hfz19_0 := blk_frozen BK283.out 0; have hfz19_1 := blk_frozen BK283.out 1; have hfz19_2 := blk_frozen BK283.out 2; have hfz19_3 := blk_frozen BK283.out 3) | ((with_reducible refine gate_callee (f := 88) rfl ?_); refine goesL_ (some 50) rfl rfl Try.func88 (by kernel_rfl) rfl #[.slice A0 l0.length c0] rfl (by (try simp only [List.map_toArray, List.map_cons, List.map_nil]); first | done | rfl | (simp only [List.length_drop, List.length_take]; rfl)) ?_; (with_reducible refine (spec_DrawKeyOf.calls k _ _ l0 t284 t285 t286 t287 _ ?side1 ?side2 A11.out).mono ?_); (case side1 => exact Kd.C_below HR0.out (by repeat (first | (with_reducible first | exact HB.out | apply below_alloc | apply pw_below_drewN | apply below_drew1 | refine below_set ?_ GE283.out) | exact HB.out))); (case side2 => exact HC0.out); rintro e w20 ⟨rfl, hb⟩; refine ⟨_, rfl, ?_⟩; have n0_ := Aside0.mk (blk_below (g := gb283) (o := .cells #[.int .i64 t279, .int .i64 t280, .int .i64 t281, .int .i64 t282] 73 (0, 0)) (by (with_reducible repeat (first | refine blk_drewN ?_ _ | refine blk_drew ?_ | refine blk_alloc ?_ _)); refine blk_put (cs := #[.int .i64 t279, .int .i64 t280, .int .i64 t281, .int .i64 0]) ?_ 3 _ rfl; (with_reducible repeat (first | refine blk_drewN ?_ _ | refine blk_drew ?_ | refine blk_alloc ?_ _)); refine blk_put (cs := #[.int .i64 t279, .int .i64 t280, .int .i64 0, .int .i64 0]) ?_ 2 _ rfl; (with_reducible repeat (first | refine blk_drewN ?_ _ | refine blk_drew ?_ | refine blk_alloc ?_ _)); refine blk_put (cs := #[.int .i64 t279, .int .i64 0, .int .i64 0, .int .i64 0]) ?_ 1 _ rfl; (with_reducible repeat (first | refine blk_drewN ?_ _ | refine blk_drew ?_ | refine blk_alloc ?_ _)); refine blk_put (cs := #[.int .i64 0, .int .i64 0, .int .i64 0, .int .i64 0]) ?_ 0 _ rfl; (with_reducible repeat (first | refine blk_drewN ?_ _ | refine blk_drew ?_ | refine blk_alloc ?_ _)); exact BK283.out) hb); have n1_ := Aside0.mk (below_step (by repeat (first | (with_reducible first | exact HB.out | apply below_alloc | apply pw_below_drewN | apply below_drew1 | refine below_set ?_ GE283.out) | exact HB.out)) hb); clear BK283; clear HB; have BK283 := n0_; have HB := n1_; clear n0_ n1_; (try clear hb); (try clear hb2); (try clear hk); (try clear hi)) | ((with_reducible refine gate_dst (N := 14) rfl ?_); refine box_event ?hg (N := 14) ?hd (cs := #[.int .i64 0, .int .i64 0, .int .i64 0, .int .i64 0]) (t := 73) ?hr ?_; (case hd => rfl); (case hg => rfl); (case hr => first | (go_simp; done) | (go_simp; rfl)); intro gb288 hg w21 hbox hb; have n0_ := Aside0.mk (blk_below (g := gb283) (o := .cells #[.int .i64 t279, .int .i64 t280, .int .i64 t281, .int .i64 t282] 73 (0, 0)) (by (with_reducible repeat (first | refine blk_drewN ?_ _ | refine blk_drew ?_ | refine blk_alloc ?_ _)); exact BK283.out) hb); have n1_ := Aside0.mk (below_step (by repeat (first | (with_reducible first | exact HB.out | apply below_alloc | apply pw_below_drewN | apply below_drew1 | refine below_set ?_ GE283.out) | exact HB.out)) hb); have n2_ := Aside0.mk (hbox); have n3_ := Aside0.mk ((by rw [hg]; exact (below_size (by repeat (first | (with_reducible first | exact HB.out | apply below_alloc | apply pw_below_drewN | apply below_drew1 | refine below_set ?_ GE283.out) | exact HB.out))) : w.heap.size ≤ gb288)); have n4_ := Aside0.mk ((by rw [hg]; exact (below_size (by repeat (first | (with_reducible first | exact HB.out | apply below_alloc | apply pw_below_drewN | apply below_drew1 | refine below_set ?_ GE283.out) | exact HB.out))) : w.heap.size ≤ gb288)); have n5_ := Aside0.mk ((by rw [hg]; exact Nat.ne_of_lt (blk_lt (g := gb283) (o := .cells #[.int .i64 t279, .int .i64 t280, .int .i64 t281, .int .i64 t282] 73 (0, 0)) (by (with_reducible repeat (first | refine blk_drewN ?_ _ | refine blk_drew ?_ | refine blk_alloc ?_ _)); exact BK283.out)) : gb283 ≠ gb288)); have n6_ := Aside0.mk ((by rw [hg]; exact Nat.ne_of_gt (blk_lt (g := gb283) (o := .cells #[.int .i64 t279, .int .i64 t280, .int .i64 t281, .int .i64 t282] 73 (0, 0)) (by (with_reducible repeat (first | refine blk_drewN ?_ _ | refine blk_drew ?_ | refine blk_alloc ?_ _)); exact BK283.out)) : gb288 ≠ gb283)); clear BK283; clear HB; have BK283 := n0_; have HB := n1_; have BK288 := n2_; have GW288 := n3_; have GE288 := n4_; have NB283_288 := n5_; have NB288_283 := n6_; clear n0_ n1_ n2_ n3_ n4_ n5_ n6_; clear hb hbox hg; have hnb22 := NB288_283.out; have hnc22 := NB283_288.out; have hcz23_0 : w21.cell? ⟨gb288, 0, none⟩ = some (.int .i64 0) := (blk_cell BK288.out 0).trans rfl; have hcz23_1 : w21.cell? ⟨gb288, 1, none⟩ = some (.int .i64 0) := (blk_cell BK288.out 1).trans rfl; have hcz23_2 : w21.cell? ⟨gb288, 2, none⟩ = some (.int .i64 0) := (blk_cell BK288.out 2).trans rfl; have hcz23_3 : w21.cell? ⟨gb288, 3, none⟩ = some (.int .i64 0) := (blk_cell BK288.out 3).trans rfl; have hfz23_0 := blk_frozen BK288.out 0; have hfz23_1 := blk_frozen BK288.out 1; have hfz23_2 := blk_frozen BK288.out 2; have hfz23_3 := blk_frozen BK288.out 3; have hcz24_0 : w21.cell? ⟨gb283, 0, none⟩ = some (.int .i64 t279) := (blk_cell BK283.out 0).trans rfl; have hcz24_1 : w21.cell? ⟨gb283, 1, none⟩ = some (.int .i64 t280) := (blk_cell BK283.out 1).trans rfl; have hcz24_2 : w21.cell? ⟨gb283, 2, none⟩ = some (.int .i64 t281) := (blk_cell BK283.out 2).trans rfl; have hcz24_3 : w21.cell? ⟨gb283, 3, none⟩ = some (.int .i64 t282) := (blk_cell BK283.out 3).trans rfl; have hfz24_0 := blk_frozen BK283.out 0; have hfz24_1 := blk_frozen BK283.out 1; have hfz24_2 := blk_frozen BK283.out 2; have hfz24_3 := blk_frozen BK283.out 3) | ((with_reducible refine gate_callee (f := 89) rfl ?_); refine goesL_ (some 53) rfl rfl Try.func89 (by kernel_rfl) rfl #[.agg #[.int .i64 t279, .int .i64 t280, .int .i64 t281, .int .i64 t282]] rfl (by (try simp only [List.map_toArray, List.map_cons, List.map_nil]); first | done | rfl | (simp only [List.length_drop, List.length_take]; rfl)) ?_; (with_reducible refine (impl_Middle.calls t279 t280 t281 t282 t289 t290 _ A12.out).mono ?_); rintro e w25 ⟨rfl, hb⟩; refine ⟨_, rfl, ?_⟩; have n0_ := Aside0.mk (blk_below (g := gb283) (o := .cells #[.int .i64 t279, .int .i64 t280, .int .i64 t281, .int .i64 t282] 73 (0, 0)) (by (with_reducible repeat (first | refine blk_drewN ?_ _ | refine blk_drew ?_ | refine blk_alloc ?_ _)); refine blk_far ?_ NB283_288.out _; (with_reducible repeat (first | refine blk_drewN ?_ _ | refine blk_drew ?_ | refine blk_alloc ?_ _)); refine blk_far ?_ NB283_288.out _; (with_reducible repeat (first | refine blk_drewN ?_ _ | refine blk_drew ?_ | refine blk_alloc ?_ _)); refine blk_far ?_ NB283_288.out _; (with_reducible repeat (first | refine blk_drewN ?_ _ | refine blk_drew ?_ | refine blk_alloc ?_ _)); refine blk_far ?_ NB283_288.out _; (with_reducible repeat (first | refine blk_drewN ?_ _ | refine blk_drew ?_ | refine blk_alloc ?_ _)); exact BK283.out) hb); have n1_ := Aside0.mk (blk_below (g := gb288) (o := .cells #[.int .i64 t284, .int .i64 t285, .int .i64 t286, .int .i64 t287] 73 (0, 0)) (by (with_reducible repeat (first | refine blk_drewN ?_ _ | refine blk_drew ?_ | refine blk_alloc ?_ _)); refine blk_put (cs := #[.int .i64 t284, .int .i64 t285, .int .i64 t286, .int .i64 0]) ?_ 3 _ rfl; (with_reducible repeat (first | refine blk_drewN ?_ _ | refine blk_drew ?_ | refine blk_alloc ?_ _)); refine blk_put (cs := #[.int .i64 t284, .int .i64 t285, .int .i64 0, .int .i64 0]) ?_ 2 _ rfl; (with_reducible repeat (first | refine blk_drewN ?_ _ | refine blk_drew ?_ | refine blk_alloc ?_ _)); refine blk_put (cs := #[.int .i64 t284, .int .i64 0, .int .i64 0, .int .i64 0]) ?_ 1 _ rfl; (with_reducible repeat (first | refine blk_drewN ?_ _ | refine blk_drew ?_ | refine blk_alloc ?_ _)); refine blk_put (cs := #[.int .i64 0, .int .i64 0, .int .i64 0, .int .i64 0]) ?_ 0 _ rfl; (with_reducible repeat (first | refine blk_drewN ?_ _ | refine blk_drew ?_ | refine blk_alloc ?_ _)); exact BK288.out) hb); have n2_ := Aside0.mk (below_step (by repeat (first | (with_reducible first | exact HB.out | apply below_alloc | apply pw_below_drewN | apply below_drew1 | refine below_set ?_ GE283.out | refine below_set ?_ GE288.out) | exact HB.out)) hb); clear BK283; clear BK288; clear HB; have BK283 := n0_; have BK288 := n1_; have HB := n2_; clear n0_ n1_ n2_; (try clear hb); (try clear hb2); (try clear hk); (try clear hi)))
    (try simp only [Act.put, List.setIfInBounds_toArray, List.set_cons_zero, List.set_cons_succ])
    go_cut [86] (fun v86 wc => ∃ (kq : Nat) (x86_12 : Bool), v86 = .bool x86_12 ∧ Aside0 (laws_FnCurves.j0 kq t269 t270 t271 t272 t273 t274 t277 t289 t290 x86_12 t279 t280 t281 t282 = some true) ∧ Aside0 (kq ≤ k) ∧ Aside0 (wc.heap[gb283]? = some (.cells #[.int .i64 t279, .int .i64 t280, .int .i64 t281, .int .i64 t282] 73 (0, 0))) ∧ Aside0 (wc.heap[gb288]? = some (.cells #[.int .i64 t284, .int .i64 t285, .int .i64 t286, .int .i64 t287] 73 (0, 0))) ∧ Aside0 (Below w.heap.size w wc))
    case first =>
      have H := HC13.out
      clear HC13
      replace H := Option.bind_eq_some_iff.mp H
      obtain ⟨t291, A260, H⟩ := H
      replace H : (if t271 = t291 then (if t273 = t275 then (if t274 = t276 then ((impl_Apart.f k t277 t278).bind fun t292 => ((spec_Apart.f k t277 t278).bind fun t293 => (if t292 = t293 then ((impl_KeyOf.f k t284 t285 t286 t287).bind fun t294 => ((spec_KeyOf.f k t284 t285 t286 t287).bind fun t295 => (laws_FnCurves.j0 k t269 t270 t271 t272 t273 t274 t277 t289 t290 (t294 != t295) t279 t280 t281 t282))) else (laws_FnCurves.j0 k t269 t270 t271 t272 t273 t274 t277 t289 t290 true t279 t280 t281 t282)))) else (laws_FnCurves.j0 k t269 t270 t271 t272 t273 t274 t277 t289 t290 true t279 t280 t281 t282)) else (laws_FnCurves.j0 k t269 t270 t271 t272 t273 t274 t277 t289 t290 true t279 t280 t281 t282)) else (laws_FnCurves.j0 k t269 t270 t271 t272 t273 t274 t277 t289 t290 true t279 t280 t281 t282)) = some true := H
      have A26 := Aside0.mk A260
      clear A260
      by_cases c27 : t271 = t291
      · rw [if_pos c27] at H
        have c27b0 : (t271 == t291) = true := beq_iff_eq.mpr c27
        have c27b1 : (t271 != t291) = false := bne_eq_false_iff_eq.mpr c27
        clear c27
        (first | rw [c27b0] | (simp only [i64_w, i32_w]; rw [c27b0]) | skip)
        by_cases c28 : t273 = t275
        · rw [if_pos c28] at H
          have c28b0 : (t273 == t275) = true := beq_iff_eq.mpr c28
          have c28b1 : (t273 != t275) = false := bne_eq_false_iff_eq.mpr c28
          clear c28
          by_cases c29 : t274 = t276
          · rw [if_pos c29] at H
            have c29b0 : (t274 == t276) = true := beq_iff_eq.mpr c29
            have c29b1 : (t274 != t276) = false := bne_eq_false_iff_eq.mpr c29
            clear c29
            replace H := Option.bind_eq_some_iff.mp H
            obtain ⟨t292, A300, H⟩ := H
            replace H : ((spec_Apart.f k t277 t278).bind fun t293 => (if t292 = t293 then ((impl_KeyOf.f k t284 t285 t286 t287).bind fun t294 => ((spec_KeyOf.f k t284 t285 t286 t287).bind fun t295 => (laws_FnCurves.j0 k t269 t270 t271 t272 t273 t274 t277 t289 t290 (t294 != t295) t279 t280 t281 t282))) else (laws_FnCurves.j0 k t269 t270 t271 t272 t273 t274 t277 t289 t290 true t279 t280 t281 t282))) = some true := H
            have A30 := Aside0.mk A300
            clear A300
            replace H := Option.bind_eq_some_iff.mp H
            obtain ⟨t293, A310, H⟩ := H
            replace H : (if t292 = t293 then ((impl_KeyOf.f k t284 t285 t286 t287).bind fun t294 => ((spec_KeyOf.f k t284 t285 t286 t287).bind fun t295 => (laws_FnCurves.j0 k t269 t270 t271 t272 t273 t274 t277 t289 t290 (t294 != t295) t279 t280 t281 t282))) else (laws_FnCurves.j0 k t269 t270 t271 t272 t273 t274 t277 t289 t290 true t279 t280 t281 t282)) = some true := H
            have A31 := Aside0.mk A310
            clear A310
            by_cases c32 : t292 = t293
            · rw [if_pos c32] at H
              have c32b0 : (t292 == t293) = true := beq_iff_eq.mpr c32
              have c32b1 : (t292 != t293) = false := bne_eq_false_iff_eq.mpr c32
              clear c32
              replace H := Option.bind_eq_some_iff.mp H
              obtain ⟨t294, A330, H⟩ := H
              replace H : ((spec_KeyOf.f k t284 t285 t286 t287).bind fun t295 => (laws_FnCurves.j0 k t269 t270 t271 t272 t273 t274 t277 t289 t290 (t294 != t295) t279 t280 t281 t282)) = some true := H
              have A33 := Aside0.mk A330
              clear A330
              replace H := Option.bind_eq_some_iff.mp H
              obtain ⟨t295, A340, H⟩ := H
              replace H : (laws_FnCurves.j0 k t269 t270 t271 t272 t273 t274 t277 t289 t290 (t294 != t295) t279 t280 t281 t282) = some true := H
              have A34 := Aside0.mk A340
              clear A340
              have H' := Aside0.mk H
              clear H
              try go_wp2
              have n0_ := Aside0.mk (blk_drew BK283.out)
              have n1_ := Aside0.mk (blk_drew BK288.out)
              have n2_ := Aside0.mk (below_drew1 HB.out)
              clear BK283
              clear BK288
              clear HB
              have BK283 := n0_
              have BK288 := n1_
              have HB := n2_
              clear n0_ n1_ n2_
              refine start_ (n := 31) (S := fun w' => w'.cell? ⟨gb288, 0, none⟩ = some (.int .i64 t284) ∧ w'.cell? ⟨gb288, 1, none⟩ = some (.int .i64 t285) ∧ w'.cell? ⟨gb288, 2, none⟩ = some (.int .i64 t286) ∧ w'.cell? ⟨gb288, 3, none⟩ = some (.int .i64 t287)) (ds := []) #[false, false, false, false, false, false, false, false, false, false, false, false, false, false, false, false, false, false, false, false, false, false, false, false, false, false, false, false, false, false, false] (by kernel_rfl) rfl rfl ⟨(blk_cell BK288.out 0).trans rfl, (blk_cell BK288.out 1).trans rfl, (blk_cell BK288.out 2).trans rfl, (blk_cell BK288.out 3).trans rfl⟩ (fun hHeld => ?_); refine with_tabW laws_FnCurves.tab12 laws_FnCurves.bits12 (fun HT_ HW_ => ?_)
              generalize w25.drew = w35 at BK283 BK288 HB hHeld ⊢
              refine pure_ (i := 0) (N := some 56) (v := ?_) (a' := ?_) #[true, false, false, false, false, false, false, false, false, false, false, false, false, false, false, false, false, false, false, false, false, false, false, false, false, false, false, false, false, false, false] rfl rfl (any_of HT_.out (by kernel_rfl)) (fun _ _ _ h => h) (Or.inl ⟨by rfl, ?_⟩) ?_ ?_
              rotate_left
              · intro w'
                go_simp
                with_reducible rfl
              rotate_left
              · simp only [Act.put, List.setIfInBounds_toArray, List.set_cons_zero, List.set_cons_succ, i64_w, i32_w]
                rfl
              refine pure_ (i := 1) (N := some 57) (v := ?_) (a' := ?_) #[true, true, false, false, false, false, false, false, false, false, false, false, false, false, false, false, false, false, false, false, false, false, false, false, false, false, false, false, false, false, false] rfl rfl (any_of HT_.out (by kernel_rfl)) (fun _ _ _ h => h) (Or.inl ⟨by rfl, ?_⟩) ?_ ?_
              rotate_left
              · intro w'
                go_simp
                with_reducible rfl
              rotate_left
              · simp only [Act.put, List.setIfInBounds_toArray, List.set_cons_zero, List.set_cons_succ, i64_w, i32_w]
                rfl
              refine pure_ (i := 2) (N := some 58) (v := ?_) (a' := ?_) #[true, true, true, false, false, false, false, false, false, false, false, false, false, false, false, false, false, false, false, false, false, false, false, false, false, false, false, false, false, false, false] rfl rfl (any_of HT_.out (by kernel_rfl)) (fun _ _ _ h => h) (Or.inl ⟨by rfl, ?_⟩) ?_ ?_
              rotate_left
              · intro w'
                go_simp
                with_reducible rfl
              rotate_left
              · simp only [Act.put, List.setIfInBounds_toArray, List.set_cons_zero, List.set_cons_succ, i64_w, i32_w]
                rfl
              refine one_ (i := 3) (N := some 59) #[true, true, true, true, false, false, false, false, false, false, false, false, false, false, false, false, false, false, false, false, false, false, false, false, false, false, false, false, false, false, false] rfl rfl (one_of HT_.out (by kernel_rfl)) (by decide) (fun K hK => ?_)
              refine goes_ Try.func90 (by kernel_rfl) rfl #[.int .i64 t269, .int .i64 t270] (by rfl) rfl rfl (by (try simp only [List.map_toArray, List.map_cons, List.map_nil]); first | done | rfl | (simp only [List.length_drop, List.length_take]; rfl)) ?_
              with_reducible refine (spec_Along.calls k t269 t270 t291 _ A26.out).mono ?_
              rintro e w' ⟨rfl, ⟨nd, rfl⟩⟩
              refine ⟨_, rfl, ?_⟩
              refine hK.out _ _ ⟨(blk_cell BK288.out 0).trans rfl, (blk_cell BK288.out 1).trans rfl, (blk_cell BK288.out 2).trans rfl, (blk_cell BK288.out 3).trans rfl⟩ (fun hHeld => ?_)
              clear hK K
              refine norm_ (a' := ?_) ?_ ?_
              rotate_left
              · show Act.put _ (some 59) _ = _
                simp only [Act.put, List.setIfInBounds_toArray, List.set_cons_zero, List.set_cons_succ, i64_w, i32_w]
                rfl
              refine pure_ (i := 4) (N := some 60) (v := ?_) (a' := ?_) #[true, true, true, true, true, false, false, false, false, false, false, false, false, false, false, false, false, false, false, false, false, false, false, false, false, false, false, false, false, false, false] rfl rfl (any_of HT_.out (by kernel_rfl)) (fun _ _ _ h => h) (Or.inl ⟨by rfl, ?_⟩) ?_ ?_
              rotate_left
              · intro w'
                go_simp
                with_reducible rfl
              rotate_left
              · simp only [Act.put, List.setIfInBounds_toArray, List.set_cons_zero, List.set_cons_succ, i64_w, i32_w]
                rfl
              refine pure_ (i := 5) (N := some 61) (v := ?_) (a' := ?_) #[true, true, true, true, true, true, false, false, false, false, false, false, false, false, false, false, false, false, false, false, false, false, false, false, false, false, false, false, false, false, false] rfl rfl (any_of HT_.out (by kernel_rfl)) (fun _ _ _ h => h) (Or.inl ⟨by rfl, ?_⟩) ?_ ?_
              rotate_left
              · intro w'
                go_simp
                with_reducible rfl
              rotate_left
              · simp only [Act.put, List.setIfInBounds_toArray, List.set_cons_zero, List.set_cons_succ, i64_w, i32_w]
                rfl
              refine pure_ (i := 6) (N := some 62) (v := ?_) (a' := ?_) #[true, true, true, true, true, true, true, false, false, false, false, false, false, false, false, false, false, false, false, false, false, false, false, false, false, false, false, false, false, false, false] rfl rfl (any_of HT_.out (by kernel_rfl)) (fun _ _ _ h => h) (Or.inl ⟨by rfl, ?_⟩) ?_ ?_
              rotate_left
              · intro w'
                go_simp
                with_reducible rfl
              rotate_left
              · simp only [Act.put, List.setIfInBounds_toArray, List.set_cons_zero, List.set_cons_succ, i64_w, i32_w]
                rfl
              refine pure_ (i := 7) (N := some 63) (v := ?_) (a' := ?_) #[true, true, true, true, true, true, true, true, false, false, false, false, false, false, false, false, false, false, false, false, false, false, false, false, false, false, false, false, false, false, false] rfl rfl (any_of HT_.out (by kernel_rfl)) (fun _ _ _ h => h) (Or.inl ⟨by rfl, ?_⟩) ?_ ?_
              rotate_left
              · intro w'
                go_simp
                with_reducible rfl
              rotate_left
              · simp only [Act.put, List.setIfInBounds_toArray, List.set_cons_zero, List.set_cons_succ, i64_w, i32_w]
                rfl
              refine pure_ (i := 8) (N := some 64) (v := ?_) (a' := ?_) #[true, true, true, true, true, true, true, true, true, false, false, false, false, false, false, false, false, false, false, false, false, false, false, false, false, false, false, false, false, false, false] rfl rfl (any_of HT_.out (by kernel_rfl)) (fun _ _ _ h => h) (Or.inl ⟨by rfl, ?_⟩) ?_ ?_
              rotate_left
              · intro w'
                go_simp
                with_reducible rfl
              rotate_left
              · simp only [Act.put, List.setIfInBounds_toArray, List.set_cons_zero, List.set_cons_succ, i64_w, i32_w]
                rfl
              refine pure_ (i := 9) (N := some 65) (v := ?_) (a' := ?_) #[true, true, true, true, true, true, true, true, true, true, false, false, false, false, false, false, false, false, false, false, false, false, false, false, false, false, false, false, false, false, false] rfl rfl (any_of HT_.out (by kernel_rfl)) (fun _ _ _ h => h) (Or.inl ⟨by rfl, ?_⟩) ?_ ?_
              rotate_left
              · intro w'
                go_simp
                with_reducible rfl
              rotate_left
              · simp only [Act.put, List.setIfInBounds_toArray, List.set_cons_zero, List.set_cons_succ, i64_w, i32_w]
                rfl
              refine pure_ (i := 10) (N := some 66) (v := ?_) (a' := ?_) #[true, true, true, true, true, true, true, true, true, true, true, false, false, false, false, false, false, false, false, false, false, false, false, false, false, false, false, false, false, false, false] rfl rfl (any_of HT_.out (by kernel_rfl)) (fun _ _ _ h => h) (Or.inl ⟨by rfl, ?_⟩) ?_ ?_
              rotate_left
              · intro w'
                go_simp
                with_reducible rfl
              rotate_left
              · simp only [Act.put, List.setIfInBounds_toArray, List.set_cons_zero, List.set_cons_succ, i64_w, i32_w]
                rfl
              refine pure_ (i := 11) (N := some 67) (v := ?_) (a' := ?_) #[true, true, true, true, true, true, true, true, true, true, true, true, false, false, false, false, false, false, false, false, false, false, false, false, false, false, false, false, false, false, false] rfl rfl (any_of HT_.out (by kernel_rfl)) (fun _ _ _ h => h) (Or.inl ⟨by rfl, ?_⟩) ?_ ?_
              rotate_left
              · intro w'
                go_simp
                with_reducible rfl
              rotate_left
              · simp only [Act.put, List.setIfInBounds_toArray, List.set_cons_zero, List.set_cons_succ, i64_w, i32_w]
                rfl
              refine pure_ (i := 12) (N := some 68) (v := ?_) (a' := ?_) #[true, true, true, true, true, true, true, true, true, true, true, true, true, false, false, false, false, false, false, false, false, false, false, false, false, false, false, false, false, false, false] rfl rfl (any_of HT_.out (by kernel_rfl)) (fun _ _ _ h => h) (Or.inl ⟨by rfl, ?_⟩) ?_ ?_
              rotate_left
              · intro w'
                go_simp
                with_reducible rfl
              rotate_left
              · simp only [Act.put, List.setIfInBounds_toArray, List.set_cons_zero, List.set_cons_succ, i64_w, i32_w]
                rfl
              refine pure_ (i := 13) (N := some 69) (v := ?_) (a' := ?_) #[true, true, true, true, true, true, true, true, true, true, true, true, true, true, false, false, false, false, false, false, false, false, false, false, false, false, false, false, false, false, false] rfl rfl (any_of HT_.out (by kernel_rfl)) (fun _ _ _ h => h) (Or.inl ⟨by rfl, ?_⟩) ?_ ?_
              rotate_left
              · intro w'
                go_simp
                with_reducible rfl
              rotate_left
              · simp only [Act.put, List.setIfInBounds_toArray, List.set_cons_zero, List.set_cons_succ, i64_w, i32_w]
                rfl
              refine pure_ (i := 14) (N := some 70) (v := ?_) (a' := ?_) #[true, true, true, true, true, true, true, true, true, true, true, true, true, true, true, false, false, false, false, false, false, false, false, false, false, false, false, false, false, false, false] rfl rfl (any_of HT_.out (by kernel_rfl)) (fun _ _ _ h => h) (Or.inl ⟨by rfl, ?_⟩) ?_ ?_
              rotate_left
              · intro w'
                go_simp
                with_reducible rfl
              rotate_left
              · simp only [Act.put, List.setIfInBounds_toArray, List.set_cons_zero, List.set_cons_succ, i64_w, i32_w]
                rfl
              refine pure_ (i := 15) (N := some 71) (v := ?_) (a' := ?_) #[true, true, true, true, true, true, true, true, true, true, true, true, true, true, true, true, false, false, false, false, false, false, false, false, false, false, false, false, false, false, false] rfl rfl (any_of HT_.out (by kernel_rfl)) (fun _ _ _ h => h) (Or.inl ⟨by rfl, ?_⟩) ?_ ?_
              rotate_left
              · intro w'
                go_simp
                with_reducible rfl
              rotate_left
              · simp only [Act.put, List.setIfInBounds_toArray, List.set_cons_zero, List.set_cons_succ, i64_w, i32_w]
                rfl
              refine pure_ (i := 16) (N := some 72) (v := ?_) (a' := ?_) #[true, true, true, true, true, true, true, true, true, true, true, true, true, true, true, true, true, false, false, false, false, false, false, false, false, false, false, false, false, false, false] rfl rfl (any_of HT_.out (by kernel_rfl)) (fun _ _ _ h => h) (Or.inl ⟨by rfl, ?_⟩) ?_ ?_
              rotate_left
              · intro w'
                go_simp
                with_reducible rfl
              rotate_left
              · simp only [Act.put, List.setIfInBounds_toArray, List.set_cons_zero, List.set_cons_succ, i64_w, i32_w]
                rfl
              refine pure_ (i := 17) (N := some 73) (v := ?_) (a' := ?_) #[true, true, true, true, true, true, true, true, true, true, true, true, true, true, true, true, true, true, false, false, false, false, false, false, false, false, false, false, false, false, false] rfl rfl (any_of HT_.out (by kernel_rfl)) (fun _ _ _ h => h) (Or.inl ⟨by rfl, ?_⟩) ?_ ?_
              rotate_left
              · intro w'
                go_simp
                with_reducible rfl
              rotate_left
              · simp only [Act.put, List.setIfInBounds_toArray, List.set_cons_zero, List.set_cons_succ, i64_w, i32_w]
                rfl
              refine pure_ (i := 19) (N := some 75) (v := ?_) (a' := ?_) #[true, true, true, true, true, true, true, true, true, true, true, true, true, true, true, true, true, true, false, true, false, false, false, false, false, false, false, false, false, false, false] rfl rfl (any_of HT_.out (by kernel_rfl)) (fun _ _ _ h => h) (Or.inl ⟨by rfl, ?_⟩) ?_ ?_
              rotate_left
              · intro w'
                go_simp
                with_reducible rfl
              rotate_left
              · simp only [Act.put, List.setIfInBounds_toArray, List.set_cons_zero, List.set_cons_succ, i64_w, i32_w]
                rfl
              refine pure_ (i := 20) (N := some 76) (v := ?_) (a' := ?_) #[true, true, true, true, true, true, true, true, true, true, true, true, true, true, true, true, true, true, false, true, true, false, false, false, false, false, false, false, false, false, false] rfl rfl (any_of HT_.out (by kernel_rfl)) (fun _ _ _ h => h) (Or.inl ⟨by rfl, ?_⟩) ?_ ?_
              rotate_left
              · intro w'
                go_simp
                with_reducible rfl
              rotate_left
              · simp only [Act.put, List.setIfInBounds_toArray, List.set_cons_zero, List.set_cons_succ, i64_w, i32_w]
                rfl
              refine one_ (i := 18) (N := some 74) #[true, true, true, true, true, true, true, true, true, true, true, true, true, true, true, true, true, true, true, true, true, false, false, false, false, false, false, false, false, false, false] rfl rfl (one_of HT_.out (by kernel_rfl)) (by decide) (fun K hK => ?_)
              refine goes_ Try.func91 (by kernel_rfl) rfl #[.int .i64 t277, .int .i64 t278] (by rfl) rfl rfl (by (try simp only [List.map_toArray, List.map_cons, List.map_nil]); first | done | rfl | (simp only [List.length_drop, List.length_take]; rfl)) ?_
              with_reducible refine (impl_Apart.calls k t277 t278 t292 _ A30.out).mono ?_
              rintro e w36 ⟨rfl, hb⟩
              refine ⟨_, rfl, ?_⟩
              have n0_ := Aside0.mk (blk_below (g := gb283) (o := .cells #[.int .i64 t279, .int .i64 t280, .int .i64 t281, .int .i64 t282] 73 (0, 0)) (by (with_reducible repeat (first | refine blk_drewN ?_ _ | refine blk_drew ?_ | refine blk_alloc ?_ _)); exact BK283.out) hb)
              have n1_ := Aside0.mk (blk_below (g := gb288) (o := .cells #[.int .i64 t284, .int .i64 t285, .int .i64 t286, .int .i64 t287] 73 (0, 0)) (by (with_reducible repeat (first | refine blk_drewN ?_ _ | refine blk_drew ?_ | refine blk_alloc ?_ _)); exact BK288.out) hb)
              have n2_ := Aside0.mk (below_step (by repeat (first | (with_reducible first | exact HB.out | apply below_alloc | apply pw_below_drewN | apply below_drew1 | refine below_set ?_ GE283.out | refine below_set ?_ GE288.out) | exact HB.out)) hb)
              clear BK283
              clear BK288
              clear HB
              have BK283 := n0_
              have BK288 := n1_
              have HB := n2_
              clear n0_ n1_ n2_
              (try clear hb)
              (try clear hb2)
              (try clear hk)
              (try clear hi)
              refine hK.out _ _ ⟨(blk_cell BK288.out 0).trans rfl, (blk_cell BK288.out 1).trans rfl, (blk_cell BK288.out 2).trans rfl, (blk_cell BK288.out 3).trans rfl⟩ (fun hHeld => ?_)
              clear hK K
              refine norm_ (a' := ?_) ?_ ?_
              rotate_left
              · show Act.put _ (some 74) _ = _
                simp only [Act.put, List.setIfInBounds_toArray, List.set_cons_zero, List.set_cons_succ, i64_w, i32_w]
                rfl
              refine one_ (i := 21) (N := some 77) #[true, true, true, true, true, true, true, true, true, true, true, true, true, true, true, true, true, true, true, true, true, true, false, false, false, false, false, false, false, false, false] rfl rfl (one_of HT_.out (by kernel_rfl)) (by decide) (fun K hK => ?_)
              refine goes_ Try.func92 (by kernel_rfl) rfl #[.int .i64 t277, .int .i64 t278] (by rfl) rfl rfl (by (try simp only [List.map_toArray, List.map_cons, List.map_nil]); first | done | rfl | (simp only [List.length_drop, List.length_take]; rfl)) ?_
              with_reducible refine (spec_Apart.calls k t277 t278 t293 _ A31.out).mono ?_
              rintro e w' ⟨rfl, ⟨nd, rfl⟩⟩
              refine ⟨_, rfl, ?_⟩
              refine hK.out _ _ ⟨(blk_cell BK288.out 0).trans rfl, (blk_cell BK288.out 1).trans rfl, (blk_cell BK288.out 2).trans rfl, (blk_cell BK288.out 3).trans rfl⟩ (fun hHeld => ?_)
              clear hK K
              refine norm_ (a' := ?_) ?_ ?_
              rotate_left
              · show Act.put _ (some 77) _ = _
                simp only [Act.put, List.setIfInBounds_toArray, List.set_cons_zero, List.set_cons_succ, i64_w, i32_w]
                rfl
              refine pure_ (i := 22) (N := some 78) (v := ?_) (a' := ?_) #[true, true, true, true, true, true, true, true, true, true, true, true, true, true, true, true, true, true, true, true, true, true, true, false, false, false, false, false, false, false, false] rfl rfl (any_of HT_.out (by kernel_rfl)) (fun _ _ _ h => h) (Or.inl ⟨by rfl, ?_⟩) ?_ ?_
              rotate_left
              · intro w'
                go_simp
                with_reducible rfl
              rotate_left
              · simp only [Act.put, List.setIfInBounds_toArray, List.set_cons_zero, List.set_cons_succ, i64_w, i32_w]
                rfl
              refine pure_ (i := 23) (N := some 79) (v := ?_) (a' := ?_) #[true, true, true, true, true, true, true, true, true, true, true, true, true, true, true, true, true, true, true, true, true, true, true, true, false, false, false, false, false, false, false] rfl rfl (any_of HT_.out (by kernel_rfl)) (fun _ _ _ h => h) (Or.inl ⟨by rfl, ?_⟩) ?_ ?_
              rotate_left
              · intro w'
                go_simp
                with_reducible rfl
              rotate_left
              · simp only [Act.put, List.setIfInBounds_toArray, List.set_cons_zero, List.set_cons_succ, i64_w, i32_w]
                rfl
              refine pure_ (i := 24) (N := some 80) (v := ?_) (a' := ?_) #[true, true, true, true, true, true, true, true, true, true, true, true, true, true, true, true, true, true, true, true, true, true, true, true, true, false, false, false, false, false, false] rfl rfl (any_of HT_.out (by kernel_rfl)) (fun _ _ _ h => h) (Or.inl ⟨by rfl, ?_⟩) ?_ ?_
              rotate_left
              · intro w'
                go_simp
                with_reducible rfl
              rotate_left
              · simp only [Act.put, List.setIfInBounds_toArray, List.set_cons_zero, List.set_cons_succ, i64_w, i32_w]
                rfl
              refine take_ (i := 25) (N := some 81) (v := ?_) (a' := ?_) #[true, true, true, true, true, true, true, true, true, true, true, true, true, true, true, true, true, true, true, true, true, true, true, true, true, true, false, false, false, false, false] rfl rfl (take_ofW HT_.out HW_.out (by kernel_rfl)) (fun _ _ _ h => h) (Or.inl ⟨by rfl, ?_⟩) hHeld ?_ ?_
              rotate_left
              · rintro w' ⟨s0, s1, s2, s3⟩
                go_simp
                with_reducible rfl
              rotate_left
              · simp only [Act.put, List.setIfInBounds_toArray, List.set_cons_zero, List.set_cons_succ, i64_w, i32_w]
                rfl
              refine take_ (i := 27) (N := some 83) (v := ?_) (a' := ?_) #[true, true, true, true, true, true, true, true, true, true, true, true, true, true, true, true, true, true, true, true, true, true, true, true, true, true, false, true, false, false, false] rfl rfl (take_ofW HT_.out HW_.out (by kernel_rfl)) (fun _ _ _ h => h) (Or.inl ⟨by rfl, ?_⟩) hHeld ?_ ?_
              rotate_left
              · rintro w' ⟨s0, s1, s2, s3⟩
                go_simp
                with_reducible rfl
              rotate_left
              · simp only [Act.put, List.setIfInBounds_toArray, List.set_cons_zero, List.set_cons_succ, i64_w, i32_w]
                rfl
              refine one_ (i := 26) (N := some 82) #[true, true, true, true, true, true, true, true, true, true, true, true, true, true, true, true, true, true, true, true, true, true, true, true, true, true, true, true, false, false, false] rfl rfl (one_of HT_.out (by kernel_rfl)) (by decide) (fun K hK => ?_)
              refine goes_ Try.func93 (by kernel_rfl) rfl #[.agg #[.int .i64 t284, .int .i64 t285, .int .i64 t286, .int .i64 t287]] (by rfl) rfl rfl (by (try simp only [List.map_toArray, List.map_cons, List.map_nil]); first | done | rfl | (simp only [List.length_drop, List.length_take]; rfl)) ?_
              with_reducible refine (impl_KeyOf.calls k t284 t285 t286 t287 t294 _ A33.out).mono ?_
              rintro e w37 ⟨rfl, hb⟩
              refine ⟨_, rfl, ?_⟩
              have n0_ := Aside0.mk (blk_below (g := gb283) (o := .cells #[.int .i64 t279, .int .i64 t280, .int .i64 t281, .int .i64 t282] 73 (0, 0)) (by (with_reducible repeat (first | refine blk_drewN ?_ _ | refine blk_drew ?_ | refine blk_alloc ?_ _)); exact BK283.out) hb)
              have n1_ := Aside0.mk (blk_below (g := gb288) (o := .cells #[.int .i64 t284, .int .i64 t285, .int .i64 t286, .int .i64 t287] 73 (0, 0)) (by (with_reducible repeat (first | refine blk_drewN ?_ _ | refine blk_drew ?_ | refine blk_alloc ?_ _)); exact BK288.out) hb)
              have n2_ := Aside0.mk (below_step (by repeat (first | (with_reducible first | exact HB.out | apply below_alloc | apply pw_below_drewN | apply below_drew1 | refine below_set ?_ GE283.out | refine below_set ?_ GE288.out) | exact HB.out)) hb)
              clear BK283
              clear BK288
              clear HB
              have BK283 := n0_
              have BK288 := n1_
              have HB := n2_
              clear n0_ n1_ n2_
              (try clear hb)
              (try clear hb2)
              (try clear hk)
              (try clear hi)
              refine hK.out _ _ ⟨(blk_cell BK288.out 0).trans rfl, (blk_cell BK288.out 1).trans rfl, (blk_cell BK288.out 2).trans rfl, (blk_cell BK288.out 3).trans rfl⟩ (fun hHeld => ?_)
              clear hK K
              refine norm_ (a' := ?_) ?_ ?_
              rotate_left
              · show Act.put _ (some 82) _ = _
                simp only [Act.put, List.setIfInBounds_toArray, List.set_cons_zero, List.set_cons_succ, i64_w, i32_w]
                rfl
              refine one_ (i := 28) (N := some 84) #[true, true, true, true, true, true, true, true, true, true, true, true, true, true, true, true, true, true, true, true, true, true, true, true, true, true, true, true, true, false, false] rfl rfl (one_of HT_.out (by kernel_rfl)) (by decide) (fun K hK => ?_)
              refine goes_ Try.func94 (by kernel_rfl) rfl #[.agg #[.int .i64 t284, .int .i64 t285, .int .i64 t286, .int .i64 t287]] (by rfl) rfl rfl (by (try simp only [List.map_toArray, List.map_cons, List.map_nil]); first | done | rfl | (simp only [List.length_drop, List.length_take]; rfl)) ?_
              with_reducible refine (spec_KeyOf.calls k t284 t285 t286 t287 t295 _ A34.out).mono ?_
              rintro e w38 ⟨rfl, hb⟩
              refine ⟨_, rfl, ?_⟩
              have n0_ := Aside0.mk (blk_below (g := gb283) (o := .cells #[.int .i64 t279, .int .i64 t280, .int .i64 t281, .int .i64 t282] 73 (0, 0)) (by (with_reducible repeat (first | refine blk_drewN ?_ _ | refine blk_drew ?_ | refine blk_alloc ?_ _)); exact BK283.out) hb)
              have n1_ := Aside0.mk (blk_below (g := gb288) (o := .cells #[.int .i64 t284, .int .i64 t285, .int .i64 t286, .int .i64 t287] 73 (0, 0)) (by (with_reducible repeat (first | refine blk_drewN ?_ _ | refine blk_drew ?_ | refine blk_alloc ?_ _)); exact BK288.out) hb)
              have n2_ := Aside0.mk (below_step (by repeat (first | (with_reducible first | exact HB.out | apply below_alloc | apply pw_below_drewN | apply below_drew1 | refine below_set ?_ GE283.out | refine below_set ?_ GE288.out) | exact HB.out)) hb)
              clear BK283
              clear BK288
              clear HB
              have BK283 := n0_
              have BK288 := n1_
              have HB := n2_
              clear n0_ n1_ n2_
              (try clear hb)
              (try clear hb2)
              (try clear hk)
              (try clear hi)
              refine hK.out _ _ ⟨(blk_cell BK288.out 0).trans rfl, (blk_cell BK288.out 1).trans rfl, (blk_cell BK288.out 2).trans rfl, (blk_cell BK288.out 3).trans rfl⟩ (fun hHeld => ?_)
              clear hK K
              refine norm_ (a' := ?_) ?_ ?_
              rotate_left
              · show Act.put _ (some 84) _ = _
                simp only [Act.put, List.setIfInBounds_toArray, List.set_cons_zero, List.set_cons_succ, i64_w, i32_w]
                rfl
              refine pure_ (i := 29) (N := some 85) (v := ?_) (a' := ?_) #[true, true, true, true, true, true, true, true, true, true, true, true, true, true, true, true, true, true, true, true, true, true, true, true, true, true, true, true, true, true, false] rfl rfl (any_of HT_.out (by kernel_rfl)) (fun _ _ _ h => h) (Or.inl ⟨by rfl, ?_⟩) ?_ ?_
              rotate_left
              · intro w'
                go_simp
                with_reducible rfl
              rotate_left
              · simp only [Act.put, List.setIfInBounds_toArray, List.set_cons_zero, List.set_cons_succ, i64_w, i32_w]
                rfl
              refine pure_ (i := 30) (N := some 86) (v := ?_) (a' := ?_) #[true, true, true, true, true, true, true, true, true, true, true, true, true, true, true, true, true, true, true, true, true, true, true, true, true, true, true, true, true, true, true] rfl rfl (any_of HT_.out (by kernel_rfl)) (fun _ _ _ h => h) (Or.inl ⟨by rfl, ?_⟩) ?_ ?_
              rotate_left
              · intro w'
                go_simp
                with_reducible rfl
              rotate_left
              · simp only [Act.put, List.setIfInBounds_toArray, List.set_cons_zero, List.set_cons_succ, i64_w, i32_w]
                rfl
              refine done_ (done_of HT_.out (by kernel_rfl)) ?_
              try go_wp2
              go_meet
              case rel => exact ⟨_, ((t294 != t295)), (by first | rfl | (simp; done) | (simp [*]; done)), H', ⟨by first | omega | exact Nat.le_refl _⟩, ⟨by (with_reducible repeat (first | refine blk_drewN ?_ _ | refine blk_drew ?_ | refine blk_alloc ?_ _)); exact BK283.out⟩, ⟨by (with_reducible repeat (first | refine blk_drewN ?_ _ | refine blk_drew ?_ | refine blk_alloc ?_ _)); exact BK288.out⟩, ⟨by repeat (first | (with_reducible first | exact HB.out | apply below_alloc | apply pw_below_drewN | apply below_drew1 | refine below_set ?_ GE283.out | refine below_set ?_ GE288.out) | exact HB.out)⟩⟩
            · rw [if_neg c32] at H
              have c32b0 : (t292 == t293) = false := beq_eq_false_iff_ne.mpr c32
              have c32b1 : (t292 != t293) = true := bne_iff_ne.mpr c32
              have H' := Aside0.mk H
              clear H
              try go_wp2
              have n0_ := Aside0.mk (blk_drew BK283.out)
              have n1_ := Aside0.mk (blk_drew BK288.out)
              have n2_ := Aside0.mk (below_drew1 HB.out)
              clear BK283
              clear BK288
              clear HB
              have BK283 := n0_
              have BK288 := n1_
              have HB := n2_
              clear n0_ n1_ n2_
              refine start_ (n := 31) (S := fun w' => True) (ds := []) #[false, false, false, false, false, false, false, false, false, false, false, false, false, false, false, false, false, false, false, false, false, false, false, false, false, false, false, false, false, false, false] (by kernel_rfl) rfl rfl trivial (fun hHeld => ?_); refine with_tabW laws_FnCurves.tab12 laws_FnCurves.bits12 (fun HT_ HW_ => ?_)
              generalize w25.drew = w39 at BK283 BK288 HB hHeld ⊢
              refine pure_ (i := 0) (N := some 56) (v := ?_) (a' := ?_) #[true, false, false, false, false, false, false, false, false, false, false, false, false, false, false, false, false, false, false, false, false, false, false, false, false, false, false, false, false, false, false] rfl rfl (any_of HT_.out (by kernel_rfl)) (fun _ _ _ h => h) (Or.inl ⟨by rfl, ?_⟩) ?_ ?_
              rotate_left
              · intro w'
                go_simp
                with_reducible rfl
              rotate_left
              · simp only [Act.put, List.setIfInBounds_toArray, List.set_cons_zero, List.set_cons_succ, i64_w, i32_w]
                rfl
              refine pure_ (i := 1) (N := some 57) (v := ?_) (a' := ?_) #[true, true, false, false, false, false, false, false, false, false, false, false, false, false, false, false, false, false, false, false, false, false, false, false, false, false, false, false, false, false, false] rfl rfl (any_of HT_.out (by kernel_rfl)) (fun _ _ _ h => h) (Or.inl ⟨by rfl, ?_⟩) ?_ ?_
              rotate_left
              · intro w'
                go_simp
                with_reducible rfl
              rotate_left
              · simp only [Act.put, List.setIfInBounds_toArray, List.set_cons_zero, List.set_cons_succ, i64_w, i32_w]
                rfl
              refine pure_ (i := 2) (N := some 58) (v := ?_) (a' := ?_) #[true, true, true, false, false, false, false, false, false, false, false, false, false, false, false, false, false, false, false, false, false, false, false, false, false, false, false, false, false, false, false] rfl rfl (any_of HT_.out (by kernel_rfl)) (fun _ _ _ h => h) (Or.inl ⟨by rfl, ?_⟩) ?_ ?_
              rotate_left
              · intro w'
                go_simp
                with_reducible rfl
              rotate_left
              · simp only [Act.put, List.setIfInBounds_toArray, List.set_cons_zero, List.set_cons_succ, i64_w, i32_w]
                rfl
              refine one_ (i := 3) (N := some 59) #[true, true, true, true, false, false, false, false, false, false, false, false, false, false, false, false, false, false, false, false, false, false, false, false, false, false, false, false, false, false, false] rfl rfl (one_of HT_.out (by kernel_rfl)) (by decide) (fun K hK => ?_)
              refine goes_ Try.func90 (by kernel_rfl) rfl #[.int .i64 t269, .int .i64 t270] (by rfl) rfl rfl (by (try simp only [List.map_toArray, List.map_cons, List.map_nil]); first | done | rfl | (simp only [List.length_drop, List.length_take]; rfl)) ?_
              with_reducible refine (spec_Along.calls k t269 t270 t291 _ A26.out).mono ?_
              rintro e w' ⟨rfl, ⟨nd, rfl⟩⟩
              refine ⟨_, rfl, ?_⟩
              refine hK.out _ _ trivial (fun hHeld => ?_)
              clear hK K
              refine norm_ (a' := ?_) ?_ ?_
              rotate_left
              · show Act.put _ (some 59) _ = _
                simp only [Act.put, List.setIfInBounds_toArray, List.set_cons_zero, List.set_cons_succ, i64_w, i32_w]
                rfl
              refine pure_ (i := 4) (N := some 60) (v := ?_) (a' := ?_) #[true, true, true, true, true, false, false, false, false, false, false, false, false, false, false, false, false, false, false, false, false, false, false, false, false, false, false, false, false, false, false] rfl rfl (any_of HT_.out (by kernel_rfl)) (fun _ _ _ h => h) (Or.inl ⟨by rfl, ?_⟩) ?_ ?_
              rotate_left
              · intro w'
                go_simp
                with_reducible rfl
              rotate_left
              · simp only [Act.put, List.setIfInBounds_toArray, List.set_cons_zero, List.set_cons_succ, i64_w, i32_w]
                rfl
              refine pure_ (i := 5) (N := some 61) (v := ?_) (a' := ?_) #[true, true, true, true, true, true, false, false, false, false, false, false, false, false, false, false, false, false, false, false, false, false, false, false, false, false, false, false, false, false, false] rfl rfl (any_of HT_.out (by kernel_rfl)) (fun _ _ _ h => h) (Or.inl ⟨by rfl, ?_⟩) ?_ ?_
              rotate_left
              · intro w'
                go_simp
                with_reducible rfl
              rotate_left
              · simp only [Act.put, List.setIfInBounds_toArray, List.set_cons_zero, List.set_cons_succ, i64_w, i32_w]
                rfl
              refine pure_ (i := 6) (N := some 62) (v := ?_) (a' := ?_) #[true, true, true, true, true, true, true, false, false, false, false, false, false, false, false, false, false, false, false, false, false, false, false, false, false, false, false, false, false, false, false] rfl rfl (any_of HT_.out (by kernel_rfl)) (fun _ _ _ h => h) (Or.inl ⟨by rfl, ?_⟩) ?_ ?_
              rotate_left
              · intro w'
                go_simp
                with_reducible rfl
              rotate_left
              · simp only [Act.put, List.setIfInBounds_toArray, List.set_cons_zero, List.set_cons_succ, i64_w, i32_w]
                rfl
              refine pure_ (i := 7) (N := some 63) (v := ?_) (a' := ?_) #[true, true, true, true, true, true, true, true, false, false, false, false, false, false, false, false, false, false, false, false, false, false, false, false, false, false, false, false, false, false, false] rfl rfl (any_of HT_.out (by kernel_rfl)) (fun _ _ _ h => h) (Or.inl ⟨by rfl, ?_⟩) ?_ ?_
              rotate_left
              · intro w'
                go_simp
                with_reducible rfl
              rotate_left
              · simp only [Act.put, List.setIfInBounds_toArray, List.set_cons_zero, List.set_cons_succ, i64_w, i32_w]
                rfl
              refine pure_ (i := 8) (N := some 64) (v := ?_) (a' := ?_) #[true, true, true, true, true, true, true, true, true, false, false, false, false, false, false, false, false, false, false, false, false, false, false, false, false, false, false, false, false, false, false] rfl rfl (any_of HT_.out (by kernel_rfl)) (fun _ _ _ h => h) (Or.inl ⟨by rfl, ?_⟩) ?_ ?_
              rotate_left
              · intro w'
                go_simp
                with_reducible rfl
              rotate_left
              · simp only [Act.put, List.setIfInBounds_toArray, List.set_cons_zero, List.set_cons_succ, i64_w, i32_w]
                rfl
              refine pure_ (i := 9) (N := some 65) (v := ?_) (a' := ?_) #[true, true, true, true, true, true, true, true, true, true, false, false, false, false, false, false, false, false, false, false, false, false, false, false, false, false, false, false, false, false, false] rfl rfl (any_of HT_.out (by kernel_rfl)) (fun _ _ _ h => h) (Or.inl ⟨by rfl, ?_⟩) ?_ ?_
              rotate_left
              · intro w'
                go_simp
                with_reducible rfl
              rotate_left
              · simp only [Act.put, List.setIfInBounds_toArray, List.set_cons_zero, List.set_cons_succ, i64_w, i32_w]
                rfl
              refine pure_ (i := 10) (N := some 66) (v := ?_) (a' := ?_) #[true, true, true, true, true, true, true, true, true, true, true, false, false, false, false, false, false, false, false, false, false, false, false, false, false, false, false, false, false, false, false] rfl rfl (any_of HT_.out (by kernel_rfl)) (fun _ _ _ h => h) (Or.inl ⟨by rfl, ?_⟩) ?_ ?_
              rotate_left
              · intro w'
                go_simp
                with_reducible rfl
              rotate_left
              · simp only [Act.put, List.setIfInBounds_toArray, List.set_cons_zero, List.set_cons_succ, i64_w, i32_w]
                rfl
              refine pure_ (i := 11) (N := some 67) (v := ?_) (a' := ?_) #[true, true, true, true, true, true, true, true, true, true, true, true, false, false, false, false, false, false, false, false, false, false, false, false, false, false, false, false, false, false, false] rfl rfl (any_of HT_.out (by kernel_rfl)) (fun _ _ _ h => h) (Or.inl ⟨by rfl, ?_⟩) ?_ ?_
              rotate_left
              · intro w'
                go_simp
                with_reducible rfl
              rotate_left
              · simp only [Act.put, List.setIfInBounds_toArray, List.set_cons_zero, List.set_cons_succ, i64_w, i32_w]
                rfl
              refine pure_ (i := 12) (N := some 68) (v := ?_) (a' := ?_) #[true, true, true, true, true, true, true, true, true, true, true, true, true, false, false, false, false, false, false, false, false, false, false, false, false, false, false, false, false, false, false] rfl rfl (any_of HT_.out (by kernel_rfl)) (fun _ _ _ h => h) (Or.inl ⟨by rfl, ?_⟩) ?_ ?_
              rotate_left
              · intro w'
                go_simp
                with_reducible rfl
              rotate_left
              · simp only [Act.put, List.setIfInBounds_toArray, List.set_cons_zero, List.set_cons_succ, i64_w, i32_w]
                rfl
              refine pure_ (i := 13) (N := some 69) (v := ?_) (a' := ?_) #[true, true, true, true, true, true, true, true, true, true, true, true, true, true, false, false, false, false, false, false, false, false, false, false, false, false, false, false, false, false, false] rfl rfl (any_of HT_.out (by kernel_rfl)) (fun _ _ _ h => h) (Or.inl ⟨by rfl, ?_⟩) ?_ ?_
              rotate_left
              · intro w'
                go_simp
                with_reducible rfl
              rotate_left
              · simp only [Act.put, List.setIfInBounds_toArray, List.set_cons_zero, List.set_cons_succ, i64_w, i32_w]
                rfl
              refine pure_ (i := 14) (N := some 70) (v := ?_) (a' := ?_) #[true, true, true, true, true, true, true, true, true, true, true, true, true, true, true, false, false, false, false, false, false, false, false, false, false, false, false, false, false, false, false] rfl rfl (any_of HT_.out (by kernel_rfl)) (fun _ _ _ h => h) (Or.inl ⟨by rfl, ?_⟩) ?_ ?_
              rotate_left
              · intro w'
                go_simp
                with_reducible rfl
              rotate_left
              · simp only [Act.put, List.setIfInBounds_toArray, List.set_cons_zero, List.set_cons_succ, i64_w, i32_w]
                rfl
              refine pure_ (i := 15) (N := some 71) (v := ?_) (a' := ?_) #[true, true, true, true, true, true, true, true, true, true, true, true, true, true, true, true, false, false, false, false, false, false, false, false, false, false, false, false, false, false, false] rfl rfl (any_of HT_.out (by kernel_rfl)) (fun _ _ _ h => h) (Or.inl ⟨by rfl, ?_⟩) ?_ ?_
              rotate_left
              · intro w'
                go_simp
                with_reducible rfl
              rotate_left
              · simp only [Act.put, List.setIfInBounds_toArray, List.set_cons_zero, List.set_cons_succ, i64_w, i32_w]
                rfl
              refine pure_ (i := 16) (N := some 72) (v := ?_) (a' := ?_) #[true, true, true, true, true, true, true, true, true, true, true, true, true, true, true, true, true, false, false, false, false, false, false, false, false, false, false, false, false, false, false] rfl rfl (any_of HT_.out (by kernel_rfl)) (fun _ _ _ h => h) (Or.inl ⟨by rfl, ?_⟩) ?_ ?_
              rotate_left
              · intro w'
                go_simp
                with_reducible rfl
              rotate_left
              · simp only [Act.put, List.setIfInBounds_toArray, List.set_cons_zero, List.set_cons_succ, i64_w, i32_w]
                rfl
              refine pure_ (i := 17) (N := some 73) (v := ?_) (a' := ?_) #[true, true, true, true, true, true, true, true, true, true, true, true, true, true, true, true, true, true, false, false, false, false, false, false, false, false, false, false, false, false, false] rfl rfl (any_of HT_.out (by kernel_rfl)) (fun _ _ _ h => h) (Or.inl ⟨by rfl, ?_⟩) ?_ ?_
              rotate_left
              · intro w'
                go_simp
                with_reducible rfl
              rotate_left
              · simp only [Act.put, List.setIfInBounds_toArray, List.set_cons_zero, List.set_cons_succ, i64_w, i32_w]
                rfl
              refine pure_ (i := 19) (N := some 75) (v := ?_) (a' := ?_) #[true, true, true, true, true, true, true, true, true, true, true, true, true, true, true, true, true, true, false, true, false, false, false, false, false, false, false, false, false, false, false] rfl rfl (any_of HT_.out (by kernel_rfl)) (fun _ _ _ h => h) (Or.inl ⟨by rfl, ?_⟩) ?_ ?_
              rotate_left
              · intro w'
                go_simp
                with_reducible rfl
              rotate_left
              · simp only [Act.put, List.setIfInBounds_toArray, List.set_cons_zero, List.set_cons_succ, i64_w, i32_w]
                rfl
              refine pure_ (i := 20) (N := some 76) (v := ?_) (a' := ?_) #[true, true, true, true, true, true, true, true, true, true, true, true, true, true, true, true, true, true, false, true, true, false, false, false, false, false, false, false, false, false, false] rfl rfl (any_of HT_.out (by kernel_rfl)) (fun _ _ _ h => h) (Or.inl ⟨by rfl, ?_⟩) ?_ ?_
              rotate_left
              · intro w'
                go_simp
                with_reducible rfl
              rotate_left
              · simp only [Act.put, List.setIfInBounds_toArray, List.set_cons_zero, List.set_cons_succ, i64_w, i32_w]
                rfl
              refine one_ (i := 18) (N := some 74) #[true, true, true, true, true, true, true, true, true, true, true, true, true, true, true, true, true, true, true, true, true, false, false, false, false, false, false, false, false, false, false] rfl rfl (one_of HT_.out (by kernel_rfl)) (by decide) (fun K hK => ?_)
              refine goes_ Try.func91 (by kernel_rfl) rfl #[.int .i64 t277, .int .i64 t278] (by rfl) rfl rfl (by (try simp only [List.map_toArray, List.map_cons, List.map_nil]); first | done | rfl | (simp only [List.length_drop, List.length_take]; rfl)) ?_
              with_reducible refine (impl_Apart.calls k t277 t278 t292 _ A30.out).mono ?_
              rintro e w40 ⟨rfl, hb⟩
              refine ⟨_, rfl, ?_⟩
              have n0_ := Aside0.mk (blk_below (g := gb283) (o := .cells #[.int .i64 t279, .int .i64 t280, .int .i64 t281, .int .i64 t282] 73 (0, 0)) (by (with_reducible repeat (first | refine blk_drewN ?_ _ | refine blk_drew ?_ | refine blk_alloc ?_ _)); exact BK283.out) hb)
              have n1_ := Aside0.mk (blk_below (g := gb288) (o := .cells #[.int .i64 t284, .int .i64 t285, .int .i64 t286, .int .i64 t287] 73 (0, 0)) (by (with_reducible repeat (first | refine blk_drewN ?_ _ | refine blk_drew ?_ | refine blk_alloc ?_ _)); exact BK288.out) hb)
              have n2_ := Aside0.mk (below_step (by repeat (first | (with_reducible first | exact HB.out | apply below_alloc | apply pw_below_drewN | apply below_drew1 | refine below_set ?_ GE283.out | refine below_set ?_ GE288.out) | exact HB.out)) hb)
              clear BK283
              clear BK288
              clear HB
              have BK283 := n0_
              have BK288 := n1_
              have HB := n2_
              clear n0_ n1_ n2_
              (try clear hb)
              (try clear hb2)
              (try clear hk)
              (try clear hi)
              refine hK.out _ _ trivial (fun hHeld => ?_)
              clear hK K
              refine norm_ (a' := ?_) ?_ ?_
              rotate_left
              · show Act.put _ (some 74) _ = _
                simp only [Act.put, List.setIfInBounds_toArray, List.set_cons_zero, List.set_cons_succ, i64_w, i32_w]
                rfl
              refine one_ (i := 21) (N := some 77) #[true, true, true, true, true, true, true, true, true, true, true, true, true, true, true, true, true, true, true, true, true, true, false, false, false, false, false, false, false, false, false] rfl rfl (one_of HT_.out (by kernel_rfl)) (by decide) (fun K hK => ?_)
              refine goes_ Try.func92 (by kernel_rfl) rfl #[.int .i64 t277, .int .i64 t278] (by rfl) rfl rfl (by (try simp only [List.map_toArray, List.map_cons, List.map_nil]); first | done | rfl | (simp only [List.length_drop, List.length_take]; rfl)) ?_
              with_reducible refine (spec_Apart.calls k t277 t278 t293 _ A31.out).mono ?_
              rintro e w' ⟨rfl, ⟨nd, rfl⟩⟩
              refine ⟨_, rfl, ?_⟩
              refine hK.out _ _ trivial (fun hHeld => ?_)
              clear hK K
              refine norm_ (a' := ?_) ?_ ?_
              rotate_left
              · show Act.put _ (some 77) _ = _
                simp only [Act.put, List.setIfInBounds_toArray, List.set_cons_zero, List.set_cons_succ, i64_w, i32_w]
                rfl
              refine pure_ (i := 22) (N := some 78) (v := ?_) (a' := ?_) #[true, true, true, true, true, true, true, true, true, true, true, true, true, true, true, true, true, true, true, true, true, true, true, false, false, false, false, false, false, false, false] rfl rfl (any_of HT_.out (by kernel_rfl)) (fun _ _ _ h => h) (Or.inl ⟨by rfl, ?_⟩) ?_ ?_
              rotate_left
              · intro w'
                go_simp
                with_reducible rfl
              rotate_left
              · simp only [Act.put, List.setIfInBounds_toArray, List.set_cons_zero, List.set_cons_succ, i64_w, i32_w]
                rfl
              refine pure_ (i := 23) (N := some 79) (v := ?_) (a' := ?_) #[true, true, true, true, true, true, true, true, true, true, true, true, true, true, true, true, true, true, true, true, true, true, true, true, false, false, false, false, false, false, false] rfl rfl (any_of HT_.out (by kernel_rfl)) (fun _ _ _ h => h) (Or.inl ⟨by rfl, ?_⟩) ?_ ?_
              rotate_left
              · intro w'
                go_simp
                with_reducible rfl
              rotate_left
              · simp only [Act.put, List.setIfInBounds_toArray, List.set_cons_zero, List.set_cons_succ, i64_w, i32_w]
                rfl
              refine pure_ (i := 24) (N := some 80) (v := ?_) (a' := ?_) #[true, true, true, true, true, true, true, true, true, true, true, true, true, true, true, true, true, true, true, true, true, true, true, true, true, false, false, false, false, false, false] rfl rfl (any_of HT_.out (by kernel_rfl)) (fun _ _ _ h => h) (Or.inl ⟨by rfl, ?_⟩) ?_ ?_
              rotate_left
              · intro w'
                go_simp
                with_reducible rfl
              rotate_left
              · simp only [Act.put, List.setIfInBounds_toArray, List.set_cons_zero, List.set_cons_succ, i64_w, i32_w]
                rfl
              refine pure_ (i := 25) (N := some 81) (v := undef) (a' := ?_) #[true, true, true, true, true, true, true, true, true, true, true, true, true, true, true, true, true, true, true, true, true, true, true, true, true, true, false, false, false, false, false] rfl rfl (any_of HT_.out (by kernel_rfl)) (fun _ _ _ h => h) (Or.inr ⟨by rfl, rfl⟩) ?_ ?_
              rotate_left
              · simp only [Act.put, List.setIfInBounds_toArray, List.set_cons_zero, List.set_cons_succ, i64_w, i32_w]
                rfl
              refine pure_ (i := 26) (N := some 82) (v := undef) (a' := ?_) #[true, true, true, true, true, true, true, true, true, true, true, true, true, true, true, true, true, true, true, true, true, true, true, true, true, true, true, false, false, false, false] rfl rfl (any_of HT_.out (by kernel_rfl)) (fun _ _ _ h => h) (Or.inr ⟨by rfl, rfl⟩) ?_ ?_
              rotate_left
              · simp only [Act.put, List.setIfInBounds_toArray, List.set_cons_zero, List.set_cons_succ, i64_w, i32_w]
                rfl
              refine pure_ (i := 27) (N := some 83) (v := undef) (a' := ?_) #[true, true, true, true, true, true, true, true, true, true, true, true, true, true, true, true, true, true, true, true, true, true, true, true, true, true, true, true, false, false, false] rfl rfl (any_of HT_.out (by kernel_rfl)) (fun _ _ _ h => h) (Or.inr ⟨by rfl, rfl⟩) ?_ ?_
              rotate_left
              · simp only [Act.put, List.setIfInBounds_toArray, List.set_cons_zero, List.set_cons_succ, i64_w, i32_w]
                rfl
              refine pure_ (i := 28) (N := some 84) (v := undef) (a' := ?_) #[true, true, true, true, true, true, true, true, true, true, true, true, true, true, true, true, true, true, true, true, true, true, true, true, true, true, true, true, true, false, false] rfl rfl (any_of HT_.out (by kernel_rfl)) (fun _ _ _ h => h) (Or.inr ⟨by rfl, rfl⟩) ?_ ?_
              rotate_left
              · simp only [Act.put, List.setIfInBounds_toArray, List.set_cons_zero, List.set_cons_succ, i64_w, i32_w]
                rfl
              refine pure_ (i := 29) (N := some 85) (v := undef) (a' := ?_) #[true, true, true, true, true, true, true, true, true, true, true, true, true, true, true, true, true, true, true, true, true, true, true, true, true, true, true, true, true, true, false] rfl rfl (any_of HT_.out (by kernel_rfl)) (fun _ _ _ h => h) (Or.inr ⟨by rfl, rfl⟩) ?_ ?_
              rotate_left
              · simp only [Act.put, List.setIfInBounds_toArray, List.set_cons_zero, List.set_cons_succ, i64_w, i32_w]
                rfl
              refine pure_ (i := 30) (N := some 86) (v := ?_) (a' := ?_) #[true, true, true, true, true, true, true, true, true, true, true, true, true, true, true, true, true, true, true, true, true, true, true, true, true, true, true, true, true, true, true] rfl rfl (any_of HT_.out (by kernel_rfl)) (fun _ _ _ h => h) (Or.inl ⟨by rfl, ?_⟩) ?_ ?_
              rotate_left
              · intro w'
                go_simp
                with_reducible rfl
              rotate_left
              · simp only [Act.put, List.setIfInBounds_toArray, List.set_cons_zero, List.set_cons_succ, i64_w, i32_w]
                rfl
              refine done_ (done_of HT_.out (by kernel_rfl)) ?_
              try go_wp2
              go_meet
              case rel => exact ⟨_, (true), (by first | rfl | (simp; done) | (simp [*]; done)), H', ⟨by first | omega | exact Nat.le_refl _⟩, ⟨by (with_reducible repeat (first | refine blk_drewN ?_ _ | refine blk_drew ?_ | refine blk_alloc ?_ _)); exact BK283.out⟩, ⟨by (with_reducible repeat (first | refine blk_drewN ?_ _ | refine blk_drew ?_ | refine blk_alloc ?_ _)); exact BK288.out⟩, ⟨by repeat (first | (with_reducible first | exact HB.out | apply below_alloc | apply pw_below_drewN | apply below_drew1 | refine below_set ?_ GE283.out | refine below_set ?_ GE288.out) | exact HB.out)⟩⟩
          · rw [if_neg c29] at H
            have c29b0 : (t274 == t276) = false := beq_eq_false_iff_ne.mpr c29
            have c29b1 : (t274 != t276) = true := bne_iff_ne.mpr c29
            have H' := Aside0.mk H
            clear H
            try go_wp2
            have n0_ := Aside0.mk (blk_drew BK283.out)
            have n1_ := Aside0.mk (blk_drew BK288.out)
            have n2_ := Aside0.mk (below_drew1 HB.out)
            clear BK283
            clear BK288
            clear HB
            have BK283 := n0_
            have BK288 := n1_
            have HB := n2_
            clear n0_ n1_ n2_
            refine start_ (n := 31) (S := fun w' => True) (ds := []) #[false, false, false, false, false, false, false, false, false, false, false, false, false, false, false, false, false, false, false, false, false, false, false, false, false, false, false, false, false, false, false] (by kernel_rfl) rfl rfl trivial (fun hHeld => ?_); refine with_tabW laws_FnCurves.tab12 laws_FnCurves.bits12 (fun HT_ HW_ => ?_)
            generalize w25.drew = w41 at BK283 BK288 HB hHeld ⊢
            refine pure_ (i := 0) (N := some 56) (v := ?_) (a' := ?_) #[true, false, false, false, false, false, false, false, false, false, false, false, false, false, false, false, false, false, false, false, false, false, false, false, false, false, false, false, false, false, false] rfl rfl (any_of HT_.out (by kernel_rfl)) (fun _ _ _ h => h) (Or.inl ⟨by rfl, ?_⟩) ?_ ?_
            rotate_left
            · intro w'
              go_simp
              with_reducible rfl
            rotate_left
            · simp only [Act.put, List.setIfInBounds_toArray, List.set_cons_zero, List.set_cons_succ, i64_w, i32_w]
              rfl
            refine pure_ (i := 1) (N := some 57) (v := ?_) (a' := ?_) #[true, true, false, false, false, false, false, false, false, false, false, false, false, false, false, false, false, false, false, false, false, false, false, false, false, false, false, false, false, false, false] rfl rfl (any_of HT_.out (by kernel_rfl)) (fun _ _ _ h => h) (Or.inl ⟨by rfl, ?_⟩) ?_ ?_
            rotate_left
            · intro w'
              go_simp
              with_reducible rfl
            rotate_left
            · simp only [Act.put, List.setIfInBounds_toArray, List.set_cons_zero, List.set_cons_succ, i64_w, i32_w]
              rfl
            refine pure_ (i := 2) (N := some 58) (v := ?_) (a' := ?_) #[true, true, true, false, false, false, false, false, false, false, false, false, false, false, false, false, false, false, false, false, false, false, false, false, false, false, false, false, false, false, false] rfl rfl (any_of HT_.out (by kernel_rfl)) (fun _ _ _ h => h) (Or.inl ⟨by rfl, ?_⟩) ?_ ?_
            rotate_left
            · intro w'
              go_simp
              with_reducible rfl
            rotate_left
            · simp only [Act.put, List.setIfInBounds_toArray, List.set_cons_zero, List.set_cons_succ, i64_w, i32_w]
              rfl
            refine one_ (i := 3) (N := some 59) #[true, true, true, true, false, false, false, false, false, false, false, false, false, false, false, false, false, false, false, false, false, false, false, false, false, false, false, false, false, false, false] rfl rfl (one_of HT_.out (by kernel_rfl)) (by decide) (fun K hK => ?_)
            refine goes_ Try.func90 (by kernel_rfl) rfl #[.int .i64 t269, .int .i64 t270] (by rfl) rfl rfl (by (try simp only [List.map_toArray, List.map_cons, List.map_nil]); first | done | rfl | (simp only [List.length_drop, List.length_take]; rfl)) ?_
            with_reducible refine (spec_Along.calls k t269 t270 t291 _ A26.out).mono ?_
            rintro e w' ⟨rfl, ⟨nd, rfl⟩⟩
            refine ⟨_, rfl, ?_⟩
            refine hK.out _ _ trivial (fun hHeld => ?_)
            clear hK K
            refine norm_ (a' := ?_) ?_ ?_
            rotate_left
            · show Act.put _ (some 59) _ = _
              simp only [Act.put, List.setIfInBounds_toArray, List.set_cons_zero, List.set_cons_succ, i64_w, i32_w]
              rfl
            refine pure_ (i := 4) (N := some 60) (v := ?_) (a' := ?_) #[true, true, true, true, true, false, false, false, false, false, false, false, false, false, false, false, false, false, false, false, false, false, false, false, false, false, false, false, false, false, false] rfl rfl (any_of HT_.out (by kernel_rfl)) (fun _ _ _ h => h) (Or.inl ⟨by rfl, ?_⟩) ?_ ?_
            rotate_left
            · intro w'
              go_simp
              with_reducible rfl
            rotate_left
            · simp only [Act.put, List.setIfInBounds_toArray, List.set_cons_zero, List.set_cons_succ, i64_w, i32_w]
              rfl
            refine pure_ (i := 5) (N := some 61) (v := ?_) (a' := ?_) #[true, true, true, true, true, true, false, false, false, false, false, false, false, false, false, false, false, false, false, false, false, false, false, false, false, false, false, false, false, false, false] rfl rfl (any_of HT_.out (by kernel_rfl)) (fun _ _ _ h => h) (Or.inl ⟨by rfl, ?_⟩) ?_ ?_
            rotate_left
            · intro w'
              go_simp
              with_reducible rfl
            rotate_left
            · simp only [Act.put, List.setIfInBounds_toArray, List.set_cons_zero, List.set_cons_succ, i64_w, i32_w]
              rfl
            refine pure_ (i := 6) (N := some 62) (v := ?_) (a' := ?_) #[true, true, true, true, true, true, true, false, false, false, false, false, false, false, false, false, false, false, false, false, false, false, false, false, false, false, false, false, false, false, false] rfl rfl (any_of HT_.out (by kernel_rfl)) (fun _ _ _ h => h) (Or.inl ⟨by rfl, ?_⟩) ?_ ?_
            rotate_left
            · intro w'
              go_simp
              with_reducible rfl
            rotate_left
            · simp only [Act.put, List.setIfInBounds_toArray, List.set_cons_zero, List.set_cons_succ, i64_w, i32_w]
              rfl
            refine pure_ (i := 7) (N := some 63) (v := ?_) (a' := ?_) #[true, true, true, true, true, true, true, true, false, false, false, false, false, false, false, false, false, false, false, false, false, false, false, false, false, false, false, false, false, false, false] rfl rfl (any_of HT_.out (by kernel_rfl)) (fun _ _ _ h => h) (Or.inl ⟨by rfl, ?_⟩) ?_ ?_
            rotate_left
            · intro w'
              go_simp
              with_reducible rfl
            rotate_left
            · simp only [Act.put, List.setIfInBounds_toArray, List.set_cons_zero, List.set_cons_succ, i64_w, i32_w]
              rfl
            refine pure_ (i := 8) (N := some 64) (v := ?_) (a' := ?_) #[true, true, true, true, true, true, true, true, true, false, false, false, false, false, false, false, false, false, false, false, false, false, false, false, false, false, false, false, false, false, false] rfl rfl (any_of HT_.out (by kernel_rfl)) (fun _ _ _ h => h) (Or.inl ⟨by rfl, ?_⟩) ?_ ?_
            rotate_left
            · intro w'
              go_simp
              with_reducible rfl
            rotate_left
            · simp only [Act.put, List.setIfInBounds_toArray, List.set_cons_zero, List.set_cons_succ, i64_w, i32_w]
              rfl
            refine pure_ (i := 9) (N := some 65) (v := ?_) (a' := ?_) #[true, true, true, true, true, true, true, true, true, true, false, false, false, false, false, false, false, false, false, false, false, false, false, false, false, false, false, false, false, false, false] rfl rfl (any_of HT_.out (by kernel_rfl)) (fun _ _ _ h => h) (Or.inl ⟨by rfl, ?_⟩) ?_ ?_
            rotate_left
            · intro w'
              go_simp
              with_reducible rfl
            rotate_left
            · simp only [Act.put, List.setIfInBounds_toArray, List.set_cons_zero, List.set_cons_succ, i64_w, i32_w]
              rfl
            refine pure_ (i := 10) (N := some 66) (v := ?_) (a' := ?_) #[true, true, true, true, true, true, true, true, true, true, true, false, false, false, false, false, false, false, false, false, false, false, false, false, false, false, false, false, false, false, false] rfl rfl (any_of HT_.out (by kernel_rfl)) (fun _ _ _ h => h) (Or.inl ⟨by rfl, ?_⟩) ?_ ?_
            rotate_left
            · intro w'
              go_simp
              with_reducible rfl
            rotate_left
            · simp only [Act.put, List.setIfInBounds_toArray, List.set_cons_zero, List.set_cons_succ, i64_w, i32_w]
              rfl
            refine pure_ (i := 11) (N := some 67) (v := ?_) (a' := ?_) #[true, true, true, true, true, true, true, true, true, true, true, true, false, false, false, false, false, false, false, false, false, false, false, false, false, false, false, false, false, false, false] rfl rfl (any_of HT_.out (by kernel_rfl)) (fun _ _ _ h => h) (Or.inl ⟨by rfl, ?_⟩) ?_ ?_
            rotate_left
            · intro w'
              go_simp
              with_reducible rfl
            rotate_left
            · simp only [Act.put, List.setIfInBounds_toArray, List.set_cons_zero, List.set_cons_succ, i64_w, i32_w]
              rfl
            refine pure_ (i := 12) (N := some 68) (v := ?_) (a' := ?_) #[true, true, true, true, true, true, true, true, true, true, true, true, true, false, false, false, false, false, false, false, false, false, false, false, false, false, false, false, false, false, false] rfl rfl (any_of HT_.out (by kernel_rfl)) (fun _ _ _ h => h) (Or.inl ⟨by rfl, ?_⟩) ?_ ?_
            rotate_left
            · intro w'
              go_simp
              with_reducible rfl
            rotate_left
            · simp only [Act.put, List.setIfInBounds_toArray, List.set_cons_zero, List.set_cons_succ, i64_w, i32_w]
              rfl
            refine pure_ (i := 13) (N := some 69) (v := ?_) (a' := ?_) #[true, true, true, true, true, true, true, true, true, true, true, true, true, true, false, false, false, false, false, false, false, false, false, false, false, false, false, false, false, false, false] rfl rfl (any_of HT_.out (by kernel_rfl)) (fun _ _ _ h => h) (Or.inl ⟨by rfl, ?_⟩) ?_ ?_
            rotate_left
            · intro w'
              go_simp
              with_reducible rfl
            rotate_left
            · simp only [Act.put, List.setIfInBounds_toArray, List.set_cons_zero, List.set_cons_succ, i64_w, i32_w]
              rfl
            refine pure_ (i := 14) (N := some 70) (v := ?_) (a' := ?_) #[true, true, true, true, true, true, true, true, true, true, true, true, true, true, true, false, false, false, false, false, false, false, false, false, false, false, false, false, false, false, false] rfl rfl (any_of HT_.out (by kernel_rfl)) (fun _ _ _ h => h) (Or.inl ⟨by rfl, ?_⟩) ?_ ?_
            rotate_left
            · intro w'
              go_simp
              with_reducible rfl
            rotate_left
            · simp only [Act.put, List.setIfInBounds_toArray, List.set_cons_zero, List.set_cons_succ, i64_w, i32_w]
              rfl
            refine pure_ (i := 15) (N := some 71) (v := ?_) (a' := ?_) #[true, true, true, true, true, true, true, true, true, true, true, true, true, true, true, true, false, false, false, false, false, false, false, false, false, false, false, false, false, false, false] rfl rfl (any_of HT_.out (by kernel_rfl)) (fun _ _ _ h => h) (Or.inl ⟨by rfl, ?_⟩) ?_ ?_
            rotate_left
            · intro w'
              go_simp
              with_reducible rfl
            rotate_left
            · simp only [Act.put, List.setIfInBounds_toArray, List.set_cons_zero, List.set_cons_succ, i64_w, i32_w]
              rfl
            refine pure_ (i := 16) (N := some 72) (v := undef) (a' := ?_) #[true, true, true, true, true, true, true, true, true, true, true, true, true, true, true, true, true, false, false, false, false, false, false, false, false, false, false, false, false, false, false] rfl rfl (any_of HT_.out (by kernel_rfl)) (fun _ _ _ h => h) (Or.inr ⟨by rfl, rfl⟩) ?_ ?_
            rotate_left
            · simp only [Act.put, List.setIfInBounds_toArray, List.set_cons_zero, List.set_cons_succ, i64_w, i32_w]
              rfl
            refine pure_ (i := 17) (N := some 73) (v := undef) (a' := ?_) #[true, true, true, true, true, true, true, true, true, true, true, true, true, true, true, true, true, true, false, false, false, false, false, false, false, false, false, false, false, false, false] rfl rfl (any_of HT_.out (by kernel_rfl)) (fun _ _ _ h => h) (Or.inr ⟨by rfl, rfl⟩) ?_ ?_
            rotate_left
            · simp only [Act.put, List.setIfInBounds_toArray, List.set_cons_zero, List.set_cons_succ, i64_w, i32_w]
              rfl
            refine pure_ (i := 18) (N := some 74) (v := undef) (a' := ?_) #[true, true, true, true, true, true, true, true, true, true, true, true, true, true, true, true, true, true, true, false, false, false, false, false, false, false, false, false, false, false, false] rfl rfl (any_of HT_.out (by kernel_rfl)) (fun _ _ _ h => h) (Or.inr ⟨by rfl, rfl⟩) ?_ ?_
            rotate_left
            · simp only [Act.put, List.setIfInBounds_toArray, List.set_cons_zero, List.set_cons_succ, i64_w, i32_w]
              rfl
            refine pure_ (i := 19) (N := some 75) (v := undef) (a' := ?_) #[true, true, true, true, true, true, true, true, true, true, true, true, true, true, true, true, true, true, true, true, false, false, false, false, false, false, false, false, false, false, false] rfl rfl (any_of HT_.out (by kernel_rfl)) (fun _ _ _ h => h) (Or.inr ⟨by rfl, rfl⟩) ?_ ?_
            rotate_left
            · simp only [Act.put, List.setIfInBounds_toArray, List.set_cons_zero, List.set_cons_succ, i64_w, i32_w]
              rfl
            refine pure_ (i := 20) (N := some 76) (v := undef) (a' := ?_) #[true, true, true, true, true, true, true, true, true, true, true, true, true, true, true, true, true, true, true, true, true, false, false, false, false, false, false, false, false, false, false] rfl rfl (any_of HT_.out (by kernel_rfl)) (fun _ _ _ h => h) (Or.inr ⟨by rfl, rfl⟩) ?_ ?_
            rotate_left
            · simp only [Act.put, List.setIfInBounds_toArray, List.set_cons_zero, List.set_cons_succ, i64_w, i32_w]
              rfl
            refine pure_ (i := 21) (N := some 77) (v := undef) (a' := ?_) #[true, true, true, true, true, true, true, true, true, true, true, true, true, true, true, true, true, true, true, true, true, true, false, false, false, false, false, false, false, false, false] rfl rfl (any_of HT_.out (by kernel_rfl)) (fun _ _ _ h => h) (Or.inr ⟨by rfl, rfl⟩) ?_ ?_
            rotate_left
            · simp only [Act.put, List.setIfInBounds_toArray, List.set_cons_zero, List.set_cons_succ, i64_w, i32_w]
              rfl
            refine pure_ (i := 22) (N := some 78) (v := undef) (a' := ?_) #[true, true, true, true, true, true, true, true, true, true, true, true, true, true, true, true, true, true, true, true, true, true, true, false, false, false, false, false, false, false, false] rfl rfl (any_of HT_.out (by kernel_rfl)) (fun _ _ _ h => h) (Or.inr ⟨by rfl, rfl⟩) ?_ ?_
            rotate_left
            · simp only [Act.put, List.setIfInBounds_toArray, List.set_cons_zero, List.set_cons_succ, i64_w, i32_w]
              rfl
            refine pure_ (i := 23) (N := some 79) (v := ?_) (a' := ?_) #[true, true, true, true, true, true, true, true, true, true, true, true, true, true, true, true, true, true, true, true, true, true, true, true, false, false, false, false, false, false, false] rfl rfl (any_of HT_.out (by kernel_rfl)) (fun _ _ _ h => h) (Or.inl ⟨by rfl, ?_⟩) ?_ ?_
            rotate_left
            · intro w'
              go_simp
              with_reducible rfl
            rotate_left
            · simp only [Act.put, List.setIfInBounds_toArray, List.set_cons_zero, List.set_cons_succ, i64_w, i32_w]
              rfl
            refine pure_ (i := 24) (N := some 80) (v := ?_) (a' := ?_) #[true, true, true, true, true, true, true, true, true, true, true, true, true, true, true, true, true, true, true, true, true, true, true, true, true, false, false, false, false, false, false] rfl rfl (any_of HT_.out (by kernel_rfl)) (fun _ _ _ h => h) (Or.inl ⟨by rfl, ?_⟩) ?_ ?_
            rotate_left
            · intro w'
              go_simp
              with_reducible rfl
            rotate_left
            · simp only [Act.put, List.setIfInBounds_toArray, List.set_cons_zero, List.set_cons_succ, i64_w, i32_w]
              rfl
            refine pure_ (i := 25) (N := some 81) (v := undef) (a' := ?_) #[true, true, true, true, true, true, true, true, true, true, true, true, true, true, true, true, true, true, true, true, true, true, true, true, true, true, false, false, false, false, false] rfl rfl (any_of HT_.out (by kernel_rfl)) (fun _ _ _ h => h) (Or.inr ⟨by rfl, rfl⟩) ?_ ?_
            rotate_left
            · simp only [Act.put, List.setIfInBounds_toArray, List.set_cons_zero, List.set_cons_succ, i64_w, i32_w]
              rfl
            refine pure_ (i := 26) (N := some 82) (v := undef) (a' := ?_) #[true, true, true, true, true, true, true, true, true, true, true, true, true, true, true, true, true, true, true, true, true, true, true, true, true, true, true, false, false, false, false] rfl rfl (any_of HT_.out (by kernel_rfl)) (fun _ _ _ h => h) (Or.inr ⟨by rfl, rfl⟩) ?_ ?_
            rotate_left
            · simp only [Act.put, List.setIfInBounds_toArray, List.set_cons_zero, List.set_cons_succ, i64_w, i32_w]
              rfl
            refine pure_ (i := 27) (N := some 83) (v := undef) (a' := ?_) #[true, true, true, true, true, true, true, true, true, true, true, true, true, true, true, true, true, true, true, true, true, true, true, true, true, true, true, true, false, false, false] rfl rfl (any_of HT_.out (by kernel_rfl)) (fun _ _ _ h => h) (Or.inr ⟨by rfl, rfl⟩) ?_ ?_
            rotate_left
            · simp only [Act.put, List.setIfInBounds_toArray, List.set_cons_zero, List.set_cons_succ, i64_w, i32_w]
              rfl
            refine pure_ (i := 28) (N := some 84) (v := undef) (a' := ?_) #[true, true, true, true, true, true, true, true, true, true, true, true, true, true, true, true, true, true, true, true, true, true, true, true, true, true, true, true, true, false, false] rfl rfl (any_of HT_.out (by kernel_rfl)) (fun _ _ _ h => h) (Or.inr ⟨by rfl, rfl⟩) ?_ ?_
            rotate_left
            · simp only [Act.put, List.setIfInBounds_toArray, List.set_cons_zero, List.set_cons_succ, i64_w, i32_w]
              rfl
            refine pure_ (i := 29) (N := some 85) (v := undef) (a' := ?_) #[true, true, true, true, true, true, true, true, true, true, true, true, true, true, true, true, true, true, true, true, true, true, true, true, true, true, true, true, true, true, false] rfl rfl (any_of HT_.out (by kernel_rfl)) (fun _ _ _ h => h) (Or.inr ⟨by rfl, rfl⟩) ?_ ?_
            rotate_left
            · simp only [Act.put, List.setIfInBounds_toArray, List.set_cons_zero, List.set_cons_succ, i64_w, i32_w]
              rfl
            refine pure_ (i := 30) (N := some 86) (v := ?_) (a' := ?_) #[true, true, true, true, true, true, true, true, true, true, true, true, true, true, true, true, true, true, true, true, true, true, true, true, true, true, true, true, true, true, true] rfl rfl (any_of HT_.out (by kernel_rfl)) (fun _ _ _ h => h) (Or.inl ⟨by rfl, ?_⟩) ?_ ?_
            rotate_left
            · intro w'
              go_simp
              with_reducible rfl
            rotate_left
            · simp only [Act.put, List.setIfInBounds_toArray, List.set_cons_zero, List.set_cons_succ, i64_w, i32_w]
              rfl
            refine done_ (done_of HT_.out (by kernel_rfl)) ?_
            try go_wp2
            go_meet
            case rel => exact ⟨_, (true), (by first | rfl | (simp; done) | (simp [*]; done)), H', ⟨by first | omega | exact Nat.le_refl _⟩, ⟨by (with_reducible repeat (first | refine blk_drewN ?_ _ | refine blk_drew ?_ | refine blk_alloc ?_ _)); exact BK283.out⟩, ⟨by (with_reducible repeat (first | refine blk_drewN ?_ _ | refine blk_drew ?_ | refine blk_alloc ?_ _)); exact BK288.out⟩, ⟨by repeat (first | (with_reducible first | exact HB.out | apply below_alloc | apply pw_below_drewN | apply below_drew1 | refine below_set ?_ GE283.out | refine below_set ?_ GE288.out) | exact HB.out)⟩⟩
        · rw [if_neg c28] at H
          have c28b0 : (t273 == t275) = false := beq_eq_false_iff_ne.mpr c28
          have c28b1 : (t273 != t275) = true := bne_iff_ne.mpr c28
          have H' := Aside0.mk H
          clear H
          try go_wp2
          have n0_ := Aside0.mk (blk_drew BK283.out)
          have n1_ := Aside0.mk (blk_drew BK288.out)
          have n2_ := Aside0.mk (below_drew1 HB.out)
          clear BK283
          clear BK288
          clear HB
          have BK283 := n0_
          have BK288 := n1_
          have HB := n2_
          clear n0_ n1_ n2_
          refine start_ (n := 31) (S := fun w' => True) (ds := []) #[false, false, false, false, false, false, false, false, false, false, false, false, false, false, false, false, false, false, false, false, false, false, false, false, false, false, false, false, false, false, false] (by kernel_rfl) rfl rfl trivial (fun hHeld => ?_); refine with_tabW laws_FnCurves.tab12 laws_FnCurves.bits12 (fun HT_ HW_ => ?_)
          generalize w25.drew = w42 at BK283 BK288 HB hHeld ⊢
          refine pure_ (i := 0) (N := some 56) (v := ?_) (a' := ?_) #[true, false, false, false, false, false, false, false, false, false, false, false, false, false, false, false, false, false, false, false, false, false, false, false, false, false, false, false, false, false, false] rfl rfl (any_of HT_.out (by kernel_rfl)) (fun _ _ _ h => h) (Or.inl ⟨by rfl, ?_⟩) ?_ ?_
          rotate_left
          · intro w'
            go_simp
            with_reducible rfl
          rotate_left
          · simp only [Act.put, List.setIfInBounds_toArray, List.set_cons_zero, List.set_cons_succ, i64_w, i32_w]
            rfl
          refine pure_ (i := 1) (N := some 57) (v := ?_) (a' := ?_) #[true, true, false, false, false, false, false, false, false, false, false, false, false, false, false, false, false, false, false, false, false, false, false, false, false, false, false, false, false, false, false] rfl rfl (any_of HT_.out (by kernel_rfl)) (fun _ _ _ h => h) (Or.inl ⟨by rfl, ?_⟩) ?_ ?_
          rotate_left
          · intro w'
            go_simp
            with_reducible rfl
          rotate_left
          · simp only [Act.put, List.setIfInBounds_toArray, List.set_cons_zero, List.set_cons_succ, i64_w, i32_w]
            rfl
          refine pure_ (i := 2) (N := some 58) (v := ?_) (a' := ?_) #[true, true, true, false, false, false, false, false, false, false, false, false, false, false, false, false, false, false, false, false, false, false, false, false, false, false, false, false, false, false, false] rfl rfl (any_of HT_.out (by kernel_rfl)) (fun _ _ _ h => h) (Or.inl ⟨by rfl, ?_⟩) ?_ ?_
          rotate_left
          · intro w'
            go_simp
            with_reducible rfl
          rotate_left
          · simp only [Act.put, List.setIfInBounds_toArray, List.set_cons_zero, List.set_cons_succ, i64_w, i32_w]
            rfl
          refine one_ (i := 3) (N := some 59) #[true, true, true, true, false, false, false, false, false, false, false, false, false, false, false, false, false, false, false, false, false, false, false, false, false, false, false, false, false, false, false] rfl rfl (one_of HT_.out (by kernel_rfl)) (by decide) (fun K hK => ?_)
          refine goes_ Try.func90 (by kernel_rfl) rfl #[.int .i64 t269, .int .i64 t270] (by rfl) rfl rfl (by (try simp only [List.map_toArray, List.map_cons, List.map_nil]); first | done | rfl | (simp only [List.length_drop, List.length_take]; rfl)) ?_
          with_reducible refine (spec_Along.calls k t269 t270 t291 _ A26.out).mono ?_
          rintro e w' ⟨rfl, ⟨nd, rfl⟩⟩
          refine ⟨_, rfl, ?_⟩
          refine hK.out _ _ trivial (fun hHeld => ?_)
          clear hK K
          refine norm_ (a' := ?_) ?_ ?_
          rotate_left
          · show Act.put _ (some 59) _ = _
            simp only [Act.put, List.setIfInBounds_toArray, List.set_cons_zero, List.set_cons_succ, i64_w, i32_w]
            rfl
          refine pure_ (i := 4) (N := some 60) (v := ?_) (a' := ?_) #[true, true, true, true, true, false, false, false, false, false, false, false, false, false, false, false, false, false, false, false, false, false, false, false, false, false, false, false, false, false, false] rfl rfl (any_of HT_.out (by kernel_rfl)) (fun _ _ _ h => h) (Or.inl ⟨by rfl, ?_⟩) ?_ ?_
          rotate_left
          · intro w'
            go_simp
            with_reducible rfl
          rotate_left
          · simp only [Act.put, List.setIfInBounds_toArray, List.set_cons_zero, List.set_cons_succ, i64_w, i32_w]
            rfl
          refine pure_ (i := 5) (N := some 61) (v := ?_) (a' := ?_) #[true, true, true, true, true, true, false, false, false, false, false, false, false, false, false, false, false, false, false, false, false, false, false, false, false, false, false, false, false, false, false] rfl rfl (any_of HT_.out (by kernel_rfl)) (fun _ _ _ h => h) (Or.inl ⟨by rfl, ?_⟩) ?_ ?_
          rotate_left
          · intro w'
            go_simp
            with_reducible rfl
          rotate_left
          · simp only [Act.put, List.setIfInBounds_toArray, List.set_cons_zero, List.set_cons_succ, i64_w, i32_w]
            rfl
          refine pure_ (i := 6) (N := some 62) (v := ?_) (a' := ?_) #[true, true, true, true, true, true, true, false, false, false, false, false, false, false, false, false, false, false, false, false, false, false, false, false, false, false, false, false, false, false, false] rfl rfl (any_of HT_.out (by kernel_rfl)) (fun _ _ _ h => h) (Or.inl ⟨by rfl, ?_⟩) ?_ ?_
          rotate_left
          · intro w'
            go_simp
            with_reducible rfl
          rotate_left
          · simp only [Act.put, List.setIfInBounds_toArray, List.set_cons_zero, List.set_cons_succ, i64_w, i32_w]
            rfl
          refine pure_ (i := 7) (N := some 63) (v := ?_) (a' := ?_) #[true, true, true, true, true, true, true, true, false, false, false, false, false, false, false, false, false, false, false, false, false, false, false, false, false, false, false, false, false, false, false] rfl rfl (any_of HT_.out (by kernel_rfl)) (fun _ _ _ h => h) (Or.inl ⟨by rfl, ?_⟩) ?_ ?_
          rotate_left
          · intro w'
            go_simp
            with_reducible rfl
          rotate_left
          · simp only [Act.put, List.setIfInBounds_toArray, List.set_cons_zero, List.set_cons_succ, i64_w, i32_w]
            rfl
          refine pure_ (i := 8) (N := some 64) (v := ?_) (a' := ?_) #[true, true, true, true, true, true, true, true, true, false, false, false, false, false, false, false, false, false, false, false, false, false, false, false, false, false, false, false, false, false, false] rfl rfl (any_of HT_.out (by kernel_rfl)) (fun _ _ _ h => h) (Or.inl ⟨by rfl, ?_⟩) ?_ ?_
          rotate_left
          · intro w'
            go_simp
            with_reducible rfl
          rotate_left
          · simp only [Act.put, List.setIfInBounds_toArray, List.set_cons_zero, List.set_cons_succ, i64_w, i32_w]
            rfl
          refine pure_ (i := 9) (N := some 65) (v := ?_) (a' := ?_) #[true, true, true, true, true, true, true, true, true, true, false, false, false, false, false, false, false, false, false, false, false, false, false, false, false, false, false, false, false, false, false] rfl rfl (any_of HT_.out (by kernel_rfl)) (fun _ _ _ h => h) (Or.inl ⟨by rfl, ?_⟩) ?_ ?_
          rotate_left
          · intro w'
            go_simp
            with_reducible rfl
          rotate_left
          · simp only [Act.put, List.setIfInBounds_toArray, List.set_cons_zero, List.set_cons_succ, i64_w, i32_w]
            rfl
          refine pure_ (i := 10) (N := some 66) (v := ?_) (a' := ?_) #[true, true, true, true, true, true, true, true, true, true, true, false, false, false, false, false, false, false, false, false, false, false, false, false, false, false, false, false, false, false, false] rfl rfl (any_of HT_.out (by kernel_rfl)) (fun _ _ _ h => h) (Or.inl ⟨by rfl, ?_⟩) ?_ ?_
          rotate_left
          · intro w'
            go_simp
            with_reducible rfl
          rotate_left
          · simp only [Act.put, List.setIfInBounds_toArray, List.set_cons_zero, List.set_cons_succ, i64_w, i32_w]
            rfl
          refine pure_ (i := 11) (N := some 67) (v := undef) (a' := ?_) #[true, true, true, true, true, true, true, true, true, true, true, true, false, false, false, false, false, false, false, false, false, false, false, false, false, false, false, false, false, false, false] rfl rfl (any_of HT_.out (by kernel_rfl)) (fun _ _ _ h => h) (Or.inr ⟨by rfl, rfl⟩) ?_ ?_
          rotate_left
          · simp only [Act.put, List.setIfInBounds_toArray, List.set_cons_zero, List.set_cons_succ, i64_w, i32_w]
            rfl
          refine pure_ (i := 12) (N := some 68) (v := undef) (a' := ?_) #[true, true, true, true, true, true, true, true, true, true, true, true, true, false, false, false, false, false, false, false, false, false, false, false, false, false, false, false, false, false, false] rfl rfl (any_of HT_.out (by kernel_rfl)) (fun _ _ _ h => h) (Or.inr ⟨by rfl, rfl⟩) ?_ ?_
          rotate_left
          · simp only [Act.put, List.setIfInBounds_toArray, List.set_cons_zero, List.set_cons_succ, i64_w, i32_w]
            rfl
          refine pure_ (i := 13) (N := some 69) (v := undef) (a' := ?_) #[true, true, true, true, true, true, true, true, true, true, true, true, true, true, false, false, false, false, false, false, false, false, false, false, false, false, false, false, false, false, false] rfl rfl (any_of HT_.out (by kernel_rfl)) (fun _ _ _ h => h) (Or.inr ⟨by rfl, rfl⟩) ?_ ?_
          rotate_left
          · simp only [Act.put, List.setIfInBounds_toArray, List.set_cons_zero, List.set_cons_succ, i64_w, i32_w]
            rfl
          refine pure_ (i := 14) (N := some 70) (v := ?_) (a' := ?_) #[true, true, true, true, true, true, true, true, true, true, true, true, true, true, true, false, false, false, false, false, false, false, false, false, false, false, false, false, false, false, false] rfl rfl (any_of HT_.out (by kernel_rfl)) (fun _ _ _ h => h) (Or.inl ⟨by rfl, ?_⟩) ?_ ?_
          rotate_left
          · intro w'
            go_simp
            with_reducible rfl
          rotate_left
          · simp only [Act.put, List.setIfInBounds_toArray, List.set_cons_zero, List.set_cons_succ, i64_w, i32_w]
            rfl
          refine pure_ (i := 15) (N := some 71) (v := ?_) (a' := ?_) #[true, true, true, true, true, true, true, true, true, true, true, true, true, true, true, true, false, false, false, false, false, false, false, false, false, false, false, false, false, false, false] rfl rfl (any_of HT_.out (by kernel_rfl)) (fun _ _ _ h => h) (Or.inl ⟨by rfl, ?_⟩) ?_ ?_
          rotate_left
          · intro w'
            go_simp
            with_reducible rfl
          rotate_left
          · simp only [Act.put, List.setIfInBounds_toArray, List.set_cons_zero, List.set_cons_succ, i64_w, i32_w]
            rfl
          refine pure_ (i := 16) (N := some 72) (v := undef) (a' := ?_) #[true, true, true, true, true, true, true, true, true, true, true, true, true, true, true, true, true, false, false, false, false, false, false, false, false, false, false, false, false, false, false] rfl rfl (any_of HT_.out (by kernel_rfl)) (fun _ _ _ h => h) (Or.inr ⟨by rfl, rfl⟩) ?_ ?_
          rotate_left
          · simp only [Act.put, List.setIfInBounds_toArray, List.set_cons_zero, List.set_cons_succ, i64_w, i32_w]
            rfl
          refine pure_ (i := 17) (N := some 73) (v := undef) (a' := ?_) #[true, true, true, true, true, true, true, true, true, true, true, true, true, true, true, true, true, true, false, false, false, false, false, false, false, false, false, false, false, false, false] rfl rfl (any_of HT_.out (by kernel_rfl)) (fun _ _ _ h => h) (Or.inr ⟨by rfl, rfl⟩) ?_ ?_
          rotate_left
          · simp only [Act.put, List.setIfInBounds_toArray, List.set_cons_zero, List.set_cons_succ, i64_w, i32_w]
            rfl
          refine pure_ (i := 18) (N := some 74) (v := undef) (a' := ?_) #[true, true, true, true, true, true, true, true, true, true, true, true, true, true, true, true, true, true, true, false, false, false, false, false, false, false, false, false, false, false, false] rfl rfl (any_of HT_.out (by kernel_rfl)) (fun _ _ _ h => h) (Or.inr ⟨by rfl, rfl⟩) ?_ ?_
          rotate_left
          · simp only [Act.put, List.setIfInBounds_toArray, List.set_cons_zero, List.set_cons_succ, i64_w, i32_w]
            rfl
          refine pure_ (i := 19) (N := some 75) (v := undef) (a' := ?_) #[true, true, true, true, true, true, true, true, true, true, true, true, true, true, true, true, true, true, true, true, false, false, false, false, false, false, false, false, false, false, false] rfl rfl (any_of HT_.out (by kernel_rfl)) (fun _ _ _ h => h) (Or.inr ⟨by rfl, rfl⟩) ?_ ?_
          rotate_left
          · simp only [Act.put, List.setIfInBounds_toArray, List.set_cons_zero, List.set_cons_succ, i64_w, i32_w]
            rfl
          refine pure_ (i := 20) (N := some 76) (v := undef) (a' := ?_) #[true, true, true, true, true, true, true, true, true, true, true, true, true, true, true, true, true, true, true, true, true, false, false, false, false, false, false, false, false, false, false] rfl rfl (any_of HT_.out (by kernel_rfl)) (fun _ _ _ h => h) (Or.inr ⟨by rfl, rfl⟩) ?_ ?_
          rotate_left
          · simp only [Act.put, List.setIfInBounds_toArray, List.set_cons_zero, List.set_cons_succ, i64_w, i32_w]
            rfl
          refine pure_ (i := 21) (N := some 77) (v := undef) (a' := ?_) #[true, true, true, true, true, true, true, true, true, true, true, true, true, true, true, true, true, true, true, true, true, true, false, false, false, false, false, false, false, false, false] rfl rfl (any_of HT_.out (by kernel_rfl)) (fun _ _ _ h => h) (Or.inr ⟨by rfl, rfl⟩) ?_ ?_
          rotate_left
          · simp only [Act.put, List.setIfInBounds_toArray, List.set_cons_zero, List.set_cons_succ, i64_w, i32_w]
            rfl
          refine pure_ (i := 22) (N := some 78) (v := undef) (a' := ?_) #[true, true, true, true, true, true, true, true, true, true, true, true, true, true, true, true, true, true, true, true, true, true, true, false, false, false, false, false, false, false, false] rfl rfl (any_of HT_.out (by kernel_rfl)) (fun _ _ _ h => h) (Or.inr ⟨by rfl, rfl⟩) ?_ ?_
          rotate_left
          · simp only [Act.put, List.setIfInBounds_toArray, List.set_cons_zero, List.set_cons_succ, i64_w, i32_w]
            rfl
          refine pure_ (i := 23) (N := some 79) (v := ?_) (a' := ?_) #[true, true, true, true, true, true, true, true, true, true, true, true, true, true, true, true, true, true, true, true, true, true, true, true, false, false, false, false, false, false, false] rfl rfl (any_of HT_.out (by kernel_rfl)) (fun _ _ _ h => h) (Or.inl ⟨by rfl, ?_⟩) ?_ ?_
          rotate_left
          · intro w'
            go_simp
            with_reducible rfl
          rotate_left
          · simp only [Act.put, List.setIfInBounds_toArray, List.set_cons_zero, List.set_cons_succ, i64_w, i32_w]
            rfl
          refine pure_ (i := 24) (N := some 80) (v := ?_) (a' := ?_) #[true, true, true, true, true, true, true, true, true, true, true, true, true, true, true, true, true, true, true, true, true, true, true, true, true, false, false, false, false, false, false] rfl rfl (any_of HT_.out (by kernel_rfl)) (fun _ _ _ h => h) (Or.inl ⟨by rfl, ?_⟩) ?_ ?_
          rotate_left
          · intro w'
            go_simp
            with_reducible rfl
          rotate_left
          · simp only [Act.put, List.setIfInBounds_toArray, List.set_cons_zero, List.set_cons_succ, i64_w, i32_w]
            rfl
          refine pure_ (i := 25) (N := some 81) (v := undef) (a' := ?_) #[true, true, true, true, true, true, true, true, true, true, true, true, true, true, true, true, true, true, true, true, true, true, true, true, true, true, false, false, false, false, false] rfl rfl (any_of HT_.out (by kernel_rfl)) (fun _ _ _ h => h) (Or.inr ⟨by rfl, rfl⟩) ?_ ?_
          rotate_left
          · simp only [Act.put, List.setIfInBounds_toArray, List.set_cons_zero, List.set_cons_succ, i64_w, i32_w]
            rfl
          refine pure_ (i := 26) (N := some 82) (v := undef) (a' := ?_) #[true, true, true, true, true, true, true, true, true, true, true, true, true, true, true, true, true, true, true, true, true, true, true, true, true, true, true, false, false, false, false] rfl rfl (any_of HT_.out (by kernel_rfl)) (fun _ _ _ h => h) (Or.inr ⟨by rfl, rfl⟩) ?_ ?_
          rotate_left
          · simp only [Act.put, List.setIfInBounds_toArray, List.set_cons_zero, List.set_cons_succ, i64_w, i32_w]
            rfl
          refine pure_ (i := 27) (N := some 83) (v := undef) (a' := ?_) #[true, true, true, true, true, true, true, true, true, true, true, true, true, true, true, true, true, true, true, true, true, true, true, true, true, true, true, true, false, false, false] rfl rfl (any_of HT_.out (by kernel_rfl)) (fun _ _ _ h => h) (Or.inr ⟨by rfl, rfl⟩) ?_ ?_
          rotate_left
          · simp only [Act.put, List.setIfInBounds_toArray, List.set_cons_zero, List.set_cons_succ, i64_w, i32_w]
            rfl
          refine pure_ (i := 28) (N := some 84) (v := undef) (a' := ?_) #[true, true, true, true, true, true, true, true, true, true, true, true, true, true, true, true, true, true, true, true, true, true, true, true, true, true, true, true, true, false, false] rfl rfl (any_of HT_.out (by kernel_rfl)) (fun _ _ _ h => h) (Or.inr ⟨by rfl, rfl⟩) ?_ ?_
          rotate_left
          · simp only [Act.put, List.setIfInBounds_toArray, List.set_cons_zero, List.set_cons_succ, i64_w, i32_w]
            rfl
          refine pure_ (i := 29) (N := some 85) (v := undef) (a' := ?_) #[true, true, true, true, true, true, true, true, true, true, true, true, true, true, true, true, true, true, true, true, true, true, true, true, true, true, true, true, true, true, false] rfl rfl (any_of HT_.out (by kernel_rfl)) (fun _ _ _ h => h) (Or.inr ⟨by rfl, rfl⟩) ?_ ?_
          rotate_left
          · simp only [Act.put, List.setIfInBounds_toArray, List.set_cons_zero, List.set_cons_succ, i64_w, i32_w]
            rfl
          refine pure_ (i := 30) (N := some 86) (v := ?_) (a' := ?_) #[true, true, true, true, true, true, true, true, true, true, true, true, true, true, true, true, true, true, true, true, true, true, true, true, true, true, true, true, true, true, true] rfl rfl (any_of HT_.out (by kernel_rfl)) (fun _ _ _ h => h) (Or.inl ⟨by rfl, ?_⟩) ?_ ?_
          rotate_left
          · intro w'
            go_simp
            with_reducible rfl
          rotate_left
          · simp only [Act.put, List.setIfInBounds_toArray, List.set_cons_zero, List.set_cons_succ, i64_w, i32_w]
            rfl
          refine done_ (done_of HT_.out (by kernel_rfl)) ?_
          try go_wp2
          go_meet
          case rel => exact ⟨_, (true), (by first | rfl | (simp; done) | (simp [*]; done)), H', ⟨by first | omega | exact Nat.le_refl _⟩, ⟨by (with_reducible repeat (first | refine blk_drewN ?_ _ | refine blk_drew ?_ | refine blk_alloc ?_ _)); exact BK283.out⟩, ⟨by (with_reducible repeat (first | refine blk_drewN ?_ _ | refine blk_drew ?_ | refine blk_alloc ?_ _)); exact BK288.out⟩, ⟨by repeat (first | (with_reducible first | exact HB.out | apply below_alloc | apply pw_below_drewN | apply below_drew1 | refine below_set ?_ GE283.out | refine below_set ?_ GE288.out) | exact HB.out)⟩⟩
      · rw [if_neg c27] at H
        have c27b0 : (t271 == t291) = false := beq_eq_false_iff_ne.mpr c27
        have c27b1 : (t271 != t291) = true := bne_iff_ne.mpr c27
        (first | rw [c27b0] | (simp only [i64_w, i32_w]; rw [c27b0]) | skip)
        have H' := Aside0.mk H
        clear H
        try go_wp2
        have n0_ := Aside0.mk (blk_drew BK283.out)
        have n1_ := Aside0.mk (blk_drew BK288.out)
        have n2_ := Aside0.mk (below_drew1 HB.out)
        clear BK283
        clear BK288
        clear HB
        have BK283 := n0_
        have BK288 := n1_
        have HB := n2_
        clear n0_ n1_ n2_
        refine start_ (n := 31) (S := fun w' => True) (ds := []) #[false, false, false, false, false, false, false, false, false, false, false, false, false, false, false, false, false, false, false, false, false, false, false, false, false, false, false, false, false, false, false] (by kernel_rfl) rfl rfl trivial (fun hHeld => ?_); refine with_tabW laws_FnCurves.tab12 laws_FnCurves.bits12 (fun HT_ HW_ => ?_)
        generalize w25.drew = w43 at BK283 BK288 HB hHeld ⊢
        refine pure_ (i := 0) (N := some 56) (v := ?_) (a' := ?_) #[true, false, false, false, false, false, false, false, false, false, false, false, false, false, false, false, false, false, false, false, false, false, false, false, false, false, false, false, false, false, false] rfl rfl (any_of HT_.out (by kernel_rfl)) (fun _ _ _ h => h) (Or.inl ⟨by rfl, ?_⟩) ?_ ?_
        rotate_left
        · intro w'
          go_simp
          with_reducible rfl
        rotate_left
        · simp only [Act.put, List.setIfInBounds_toArray, List.set_cons_zero, List.set_cons_succ, i64_w, i32_w]
          rfl
        refine pure_ (i := 1) (N := some 57) (v := ?_) (a' := ?_) #[true, true, false, false, false, false, false, false, false, false, false, false, false, false, false, false, false, false, false, false, false, false, false, false, false, false, false, false, false, false, false] rfl rfl (any_of HT_.out (by kernel_rfl)) (fun _ _ _ h => h) (Or.inl ⟨by rfl, ?_⟩) ?_ ?_
        rotate_left
        · intro w'
          go_simp
          with_reducible rfl
        rotate_left
        · simp only [Act.put, List.setIfInBounds_toArray, List.set_cons_zero, List.set_cons_succ, i64_w, i32_w]
          rfl
        refine pure_ (i := 2) (N := some 58) (v := ?_) (a' := ?_) #[true, true, true, false, false, false, false, false, false, false, false, false, false, false, false, false, false, false, false, false, false, false, false, false, false, false, false, false, false, false, false] rfl rfl (any_of HT_.out (by kernel_rfl)) (fun _ _ _ h => h) (Or.inl ⟨by rfl, ?_⟩) ?_ ?_
        rotate_left
        · intro w'
          go_simp
          with_reducible rfl
        rotate_left
        · simp only [Act.put, List.setIfInBounds_toArray, List.set_cons_zero, List.set_cons_succ, i64_w, i32_w]
          rfl
        refine one_ (i := 3) (N := some 59) #[true, true, true, true, false, false, false, false, false, false, false, false, false, false, false, false, false, false, false, false, false, false, false, false, false, false, false, false, false, false, false] rfl rfl (one_of HT_.out (by kernel_rfl)) (by decide) (fun K hK => ?_)
        refine goes_ Try.func90 (by kernel_rfl) rfl #[.int .i64 t269, .int .i64 t270] (by rfl) rfl rfl (by (try simp only [List.map_toArray, List.map_cons, List.map_nil]); first | done | rfl | (simp only [List.length_drop, List.length_take]; rfl)) ?_
        with_reducible refine (spec_Along.calls k t269 t270 t291 _ A26.out).mono ?_
        rintro e w' ⟨rfl, ⟨nd, rfl⟩⟩
        refine ⟨_, rfl, ?_⟩
        refine hK.out _ _ trivial (fun hHeld => ?_)
        clear hK K
        refine norm_ (a' := ?_) ?_ ?_
        rotate_left
        · show Act.put _ (some 59) _ = _
          simp only [Act.put, List.setIfInBounds_toArray, List.set_cons_zero, List.set_cons_succ, i64_w, i32_w]
          rfl
        refine pure_ (i := 4) (N := some 60) (v := ?_) (a' := ?_) #[true, true, true, true, true, false, false, false, false, false, false, false, false, false, false, false, false, false, false, false, false, false, false, false, false, false, false, false, false, false, false] rfl rfl (any_of HT_.out (by kernel_rfl)) (fun _ _ _ h => h) (Or.inl ⟨by rfl, ?_⟩) ?_ ?_
        rotate_left
        · intro w'
          go_simp
          with_reducible rfl
        rotate_left
        · simp only [Act.put, List.setIfInBounds_toArray, List.set_cons_zero, List.set_cons_succ, i64_w, i32_w]
          rfl
        refine pure_ (i := 5) (N := some 61) (v := ?_) (a' := ?_) #[true, true, true, true, true, true, false, false, false, false, false, false, false, false, false, false, false, false, false, false, false, false, false, false, false, false, false, false, false, false, false] rfl rfl (any_of HT_.out (by kernel_rfl)) (fun _ _ _ h => h) (Or.inl ⟨by rfl, ?_⟩) ?_ ?_
        rotate_left
        · intro w'
          go_simp
          with_reducible rfl
        rotate_left
        · simp only [Act.put, List.setIfInBounds_toArray, List.set_cons_zero, List.set_cons_succ, i64_w, i32_w]
          rfl
        refine pure_ (i := 6) (N := some 62) (v := undef) (a' := ?_) #[true, true, true, true, true, true, true, false, false, false, false, false, false, false, false, false, false, false, false, false, false, false, false, false, false, false, false, false, false, false, false] rfl rfl (any_of HT_.out (by kernel_rfl)) (fun _ _ _ h => h) (Or.inr ⟨by rfl, rfl⟩) ?_ ?_
        rotate_left
        · simp only [Act.put, List.setIfInBounds_toArray, List.set_cons_zero, List.set_cons_succ, i64_w, i32_w]
          rfl
        refine pure_ (i := 7) (N := some 63) (v := undef) (a' := ?_) #[true, true, true, true, true, true, true, true, false, false, false, false, false, false, false, false, false, false, false, false, false, false, false, false, false, false, false, false, false, false, false] rfl rfl (any_of HT_.out (by kernel_rfl)) (fun _ _ _ h => h) (Or.inr ⟨by rfl, rfl⟩) ?_ ?_
        rotate_left
        · simp only [Act.put, List.setIfInBounds_toArray, List.set_cons_zero, List.set_cons_succ, i64_w, i32_w]
          rfl
        refine pure_ (i := 8) (N := some 64) (v := undef) (a' := ?_) #[true, true, true, true, true, true, true, true, true, false, false, false, false, false, false, false, false, false, false, false, false, false, false, false, false, false, false, false, false, false, false] rfl rfl (any_of HT_.out (by kernel_rfl)) (fun _ _ _ h => h) (Or.inr ⟨by rfl, rfl⟩) ?_ ?_
        rotate_left
        · simp only [Act.put, List.setIfInBounds_toArray, List.set_cons_zero, List.set_cons_succ, i64_w, i32_w]
          rfl
        refine pure_ (i := 9) (N := some 65) (v := ?_) (a' := ?_) #[true, true, true, true, true, true, true, true, true, true, false, false, false, false, false, false, false, false, false, false, false, false, false, false, false, false, false, false, false, false, false] rfl rfl (any_of HT_.out (by kernel_rfl)) (fun _ _ _ h => h) (Or.inl ⟨by rfl, ?_⟩) ?_ ?_
        rotate_left
        · intro w'
          go_simp
          with_reducible rfl
        rotate_left
        · simp only [Act.put, List.setIfInBounds_toArray, List.set_cons_zero, List.set_cons_succ, i64_w, i32_w]
          rfl
        refine pure_ (i := 10) (N := some 66) (v := ?_) (a' := ?_) #[true, true, true, true, true, true, true, true, true, true, true, false, false, false, false, false, false, false, false, false, false, false, false, false, false, false, false, false, false, false, false] rfl rfl (any_of HT_.out (by kernel_rfl)) (fun _ _ _ h => h) (Or.inl ⟨by rfl, ?_⟩) ?_ ?_
        rotate_left
        · intro w'
          go_simp
          with_reducible rfl
        rotate_left
        · simp only [Act.put, List.setIfInBounds_toArray, List.set_cons_zero, List.set_cons_succ, i64_w, i32_w]
          rfl
        refine pure_ (i := 11) (N := some 67) (v := undef) (a' := ?_) #[true, true, true, true, true, true, true, true, true, true, true, true, false, false, false, false, false, false, false, false, false, false, false, false, false, false, false, false, false, false, false] rfl rfl (any_of HT_.out (by kernel_rfl)) (fun _ _ _ h => h) (Or.inr ⟨by rfl, rfl⟩) ?_ ?_
        rotate_left
        · simp only [Act.put, List.setIfInBounds_toArray, List.set_cons_zero, List.set_cons_succ, i64_w, i32_w]
          rfl
        refine pure_ (i := 12) (N := some 68) (v := undef) (a' := ?_) #[true, true, true, true, true, true, true, true, true, true, true, true, true, false, false, false, false, false, false, false, false, false, false, false, false, false, false, false, false, false, false] rfl rfl (any_of HT_.out (by kernel_rfl)) (fun _ _ _ h => h) (Or.inr ⟨by rfl, rfl⟩) ?_ ?_
        rotate_left
        · simp only [Act.put, List.setIfInBounds_toArray, List.set_cons_zero, List.set_cons_succ, i64_w, i32_w]
          rfl
        refine pure_ (i := 13) (N := some 69) (v := undef) (a' := ?_) #[true, true, true, true, true, true, true, true, true, true, true, true, true, true, false, false, false, false, false, false, false, false, false, false, false, false, false, false, false, false, false] rfl rfl (any_of HT_.out (by kernel_rfl)) (fun _ _ _ h => h) (Or.inr ⟨by rfl, rfl⟩) ?_ ?_
        rotate_left
        · simp only [Act.put, List.setIfInBounds_toArray, List.set_cons_zero, List.set_cons_succ, i64_w, i32_w]
          rfl
        refine pure_ (i := 14) (N := some 70) (v := ?_) (a' := ?_) #[true, true, true, true, true, true, true, true, true, true, true, true, true, true, true, false, false, false, false, false, false, false, false, false, false, false, false, false, false, false, false] rfl rfl (any_of HT_.out (by kernel_rfl)) (fun _ _ _ h => h) (Or.inl ⟨by rfl, ?_⟩) ?_ ?_
        rotate_left
        · intro w'
          go_simp
          with_reducible rfl
        rotate_left
        · simp only [Act.put, List.setIfInBounds_toArray, List.set_cons_zero, List.set_cons_succ, i64_w, i32_w]
          rfl
        refine pure_ (i := 15) (N := some 71) (v := ?_) (a' := ?_) #[true, true, true, true, true, true, true, true, true, true, true, true, true, true, true, true, false, false, false, false, false, false, false, false, false, false, false, false, false, false, false] rfl rfl (any_of HT_.out (by kernel_rfl)) (fun _ _ _ h => h) (Or.inl ⟨by rfl, ?_⟩) ?_ ?_
        rotate_left
        · intro w'
          go_simp
          with_reducible rfl
        rotate_left
        · simp only [Act.put, List.setIfInBounds_toArray, List.set_cons_zero, List.set_cons_succ, i64_w, i32_w]
          rfl
        refine pure_ (i := 16) (N := some 72) (v := undef) (a' := ?_) #[true, true, true, true, true, true, true, true, true, true, true, true, true, true, true, true, true, false, false, false, false, false, false, false, false, false, false, false, false, false, false] rfl rfl (any_of HT_.out (by kernel_rfl)) (fun _ _ _ h => h) (Or.inr ⟨by rfl, rfl⟩) ?_ ?_
        rotate_left
        · simp only [Act.put, List.setIfInBounds_toArray, List.set_cons_zero, List.set_cons_succ, i64_w, i32_w]
          rfl
        refine pure_ (i := 17) (N := some 73) (v := undef) (a' := ?_) #[true, true, true, true, true, true, true, true, true, true, true, true, true, true, true, true, true, true, false, false, false, false, false, false, false, false, false, false, false, false, false] rfl rfl (any_of HT_.out (by kernel_rfl)) (fun _ _ _ h => h) (Or.inr ⟨by rfl, rfl⟩) ?_ ?_
        rotate_left
        · simp only [Act.put, List.setIfInBounds_toArray, List.set_cons_zero, List.set_cons_succ, i64_w, i32_w]
          rfl
        refine pure_ (i := 18) (N := some 74) (v := undef) (a' := ?_) #[true, true, true, true, true, true, true, true, true, true, true, true, true, true, true, true, true, true, true, false, false, false, false, false, false, false, false, false, false, false, false] rfl rfl (any_of HT_.out (by kernel_rfl)) (fun _ _ _ h => h) (Or.inr ⟨by rfl, rfl⟩) ?_ ?_
        rotate_left
        · simp only [Act.put, List.setIfInBounds_toArray, List.set_cons_zero, List.set_cons_succ, i64_w, i32_w]
          rfl
        refine pure_ (i := 19) (N := some 75) (v := undef) (a' := ?_) #[true, true, true, true, true, true, true, true, true, true, true, true, true, true, true, true, true, true, true, true, false, false, false, false, false, false, false, false, false, false, false] rfl rfl (any_of HT_.out (by kernel_rfl)) (fun _ _ _ h => h) (Or.inr ⟨by rfl, rfl⟩) ?_ ?_
        rotate_left
        · simp only [Act.put, List.setIfInBounds_toArray, List.set_cons_zero, List.set_cons_succ, i64_w, i32_w]
          rfl
        refine pure_ (i := 20) (N := some 76) (v := undef) (a' := ?_) #[true, true, true, true, true, true, true, true, true, true, true, true, true, true, true, true, true, true, true, true, true, false, false, false, false, false, false, false, false, false, false] rfl rfl (any_of HT_.out (by kernel_rfl)) (fun _ _ _ h => h) (Or.inr ⟨by rfl, rfl⟩) ?_ ?_
        rotate_left
        · simp only [Act.put, List.setIfInBounds_toArray, List.set_cons_zero, List.set_cons_succ, i64_w, i32_w]
          rfl
        refine pure_ (i := 21) (N := some 77) (v := undef) (a' := ?_) #[true, true, true, true, true, true, true, true, true, true, true, true, true, true, true, true, true, true, true, true, true, true, false, false, false, false, false, false, false, false, false] rfl rfl (any_of HT_.out (by kernel_rfl)) (fun _ _ _ h => h) (Or.inr ⟨by rfl, rfl⟩) ?_ ?_
        rotate_left
        · simp only [Act.put, List.setIfInBounds_toArray, List.set_cons_zero, List.set_cons_succ, i64_w, i32_w]
          rfl
        refine pure_ (i := 22) (N := some 78) (v := undef) (a' := ?_) #[true, true, true, true, true, true, true, true, true, true, true, true, true, true, true, true, true, true, true, true, true, true, true, false, false, false, false, false, false, false, false] rfl rfl (any_of HT_.out (by kernel_rfl)) (fun _ _ _ h => h) (Or.inr ⟨by rfl, rfl⟩) ?_ ?_
        rotate_left
        · simp only [Act.put, List.setIfInBounds_toArray, List.set_cons_zero, List.set_cons_succ, i64_w, i32_w]
          rfl
        refine pure_ (i := 23) (N := some 79) (v := ?_) (a' := ?_) #[true, true, true, true, true, true, true, true, true, true, true, true, true, true, true, true, true, true, true, true, true, true, true, true, false, false, false, false, false, false, false] rfl rfl (any_of HT_.out (by kernel_rfl)) (fun _ _ _ h => h) (Or.inl ⟨by rfl, ?_⟩) ?_ ?_
        rotate_left
        · intro w'
          go_simp
          with_reducible rfl
        rotate_left
        · simp only [Act.put, List.setIfInBounds_toArray, List.set_cons_zero, List.set_cons_succ, i64_w, i32_w]
          rfl
        refine pure_ (i := 24) (N := some 80) (v := ?_) (a' := ?_) #[true, true, true, true, true, true, true, true, true, true, true, true, true, true, true, true, true, true, true, true, true, true, true, true, true, false, false, false, false, false, false] rfl rfl (any_of HT_.out (by kernel_rfl)) (fun _ _ _ h => h) (Or.inl ⟨by rfl, ?_⟩) ?_ ?_
        rotate_left
        · intro w'
          go_simp
          with_reducible rfl
        rotate_left
        · simp only [Act.put, List.setIfInBounds_toArray, List.set_cons_zero, List.set_cons_succ, i64_w, i32_w]
          rfl
        refine pure_ (i := 25) (N := some 81) (v := undef) (a' := ?_) #[true, true, true, true, true, true, true, true, true, true, true, true, true, true, true, true, true, true, true, true, true, true, true, true, true, true, false, false, false, false, false] rfl rfl (any_of HT_.out (by kernel_rfl)) (fun _ _ _ h => h) (Or.inr ⟨by rfl, rfl⟩) ?_ ?_
        rotate_left
        · simp only [Act.put, List.setIfInBounds_toArray, List.set_cons_zero, List.set_cons_succ, i64_w, i32_w]
          rfl
        refine pure_ (i := 26) (N := some 82) (v := undef) (a' := ?_) #[true, true, true, true, true, true, true, true, true, true, true, true, true, true, true, true, true, true, true, true, true, true, true, true, true, true, true, false, false, false, false] rfl rfl (any_of HT_.out (by kernel_rfl)) (fun _ _ _ h => h) (Or.inr ⟨by rfl, rfl⟩) ?_ ?_
        rotate_left
        · simp only [Act.put, List.setIfInBounds_toArray, List.set_cons_zero, List.set_cons_succ, i64_w, i32_w]
          rfl
        refine pure_ (i := 27) (N := some 83) (v := undef) (a' := ?_) #[true, true, true, true, true, true, true, true, true, true, true, true, true, true, true, true, true, true, true, true, true, true, true, true, true, true, true, true, false, false, false] rfl rfl (any_of HT_.out (by kernel_rfl)) (fun _ _ _ h => h) (Or.inr ⟨by rfl, rfl⟩) ?_ ?_
        rotate_left
        · simp only [Act.put, List.setIfInBounds_toArray, List.set_cons_zero, List.set_cons_succ, i64_w, i32_w]
          rfl
        refine pure_ (i := 28) (N := some 84) (v := undef) (a' := ?_) #[true, true, true, true, true, true, true, true, true, true, true, true, true, true, true, true, true, true, true, true, true, true, true, true, true, true, true, true, true, false, false] rfl rfl (any_of HT_.out (by kernel_rfl)) (fun _ _ _ h => h) (Or.inr ⟨by rfl, rfl⟩) ?_ ?_
        rotate_left
        · simp only [Act.put, List.setIfInBounds_toArray, List.set_cons_zero, List.set_cons_succ, i64_w, i32_w]
          rfl
        refine pure_ (i := 29) (N := some 85) (v := undef) (a' := ?_) #[true, true, true, true, true, true, true, true, true, true, true, true, true, true, true, true, true, true, true, true, true, true, true, true, true, true, true, true, true, true, false] rfl rfl (any_of HT_.out (by kernel_rfl)) (fun _ _ _ h => h) (Or.inr ⟨by rfl, rfl⟩) ?_ ?_
        rotate_left
        · simp only [Act.put, List.setIfInBounds_toArray, List.set_cons_zero, List.set_cons_succ, i64_w, i32_w]
          rfl
        refine pure_ (i := 30) (N := some 86) (v := ?_) (a' := ?_) #[true, true, true, true, true, true, true, true, true, true, true, true, true, true, true, true, true, true, true, true, true, true, true, true, true, true, true, true, true, true, true] rfl rfl (any_of HT_.out (by kernel_rfl)) (fun _ _ _ h => h) (Or.inl ⟨by rfl, ?_⟩) ?_ ?_
        rotate_left
        · intro w'
          go_simp
          with_reducible rfl
        rotate_left
        · simp only [Act.put, List.setIfInBounds_toArray, List.set_cons_zero, List.set_cons_succ, i64_w, i32_w]
          rfl
        refine done_ (done_of HT_.out (by kernel_rfl)) ?_
        try go_wp2
        go_meet
        case rel => exact ⟨_, (true), (by first | rfl | (simp; done) | (simp [*]; done)), H', ⟨by first | omega | exact Nat.le_refl _⟩, ⟨by (with_reducible repeat (first | refine blk_drewN ?_ _ | refine blk_drew ?_ | refine blk_alloc ?_ _)); exact BK283.out⟩, ⟨by (with_reducible repeat (first | refine blk_drewN ?_ _ | refine blk_drew ?_ | refine blk_alloc ?_ _)); exact BK288.out⟩, ⟨by repeat (first | (with_reducible first | exact HB.out | apply below_alloc | apply pw_below_drewN | apply below_drew1 | refine below_set ?_ GE283.out | refine below_set ?_ GE288.out) | exact HB.out)⟩⟩
    case rest =>
      clear HC13
      try clear c2
      try clear p2
      try clear c9
      try clear c27
      try clear c27b0
      try clear c27b1
      try clear c28
      try clear c28b0
      try clear c28b1
      obtain ⟨kq, x86_12, rfl, HA, HJ12, BK283, BK288, HB⟩ := hcut
      cases kq with
      | zero => exact absurd HA.out (by simp [laws_FnCurves.j0])
      | succ kj12 =>
        have H := HA.out
        clear HA
        simp only [laws_FnCurves.j0] at H
        by_cases c44 : x86_12 = true
        · subst c44
          have H1 : (some false) = some true := by rw [if_pos rfl] at H; exact H
          clear H
          have H := H1
          clear H1
          exact absurd H (by simp)
        · replace c44 := Bool.eq_false_iff.mpr c44
          subst c44
          have H1 : (if t271 ≥ 0 then ((impl_PointAt.f kj12 t271).bind fun bt296 => (if bt296.1 = t269 then (if bt296.2 = t270 then (laws_FnCurves.j1 kj12 t269 t270 t271 t272 t273 t274 t277 t289 t290 t279 t280 t281 t282) else (some false)) else (some false))) else (laws_FnCurves.j1 kj12 t269 t270 t271 t272 t273 t274 t277 t289 t290 t279 t280 t281 t282)) = some true := by rw [if_neg (show ¬ (false = true) by decide)] at H; exact H
          clear H
          have H := H1
          clear H1
          have HC45 := Aside0.mk H
          clear H
          go_upto_if 88 with (fail)
          go_cut [] (fun wc => ∃ (kq : Nat), Aside0 (laws_FnCurves.j1 kq t269 t270 t271 t272 t273 t274 t277 t289 t290 t279 t280 t281 t282 = some true) ∧ Aside0 (kq ≤ kj12) ∧ Aside0 (wc.heap[gb283]? = some (.cells #[.int .i64 t279, .int .i64 t280, .int .i64 t281, .int .i64 t282] 73 (0, 0))) ∧ Aside0 (wc.heap[gb288]? = some (.cells #[.int .i64 t284, .int .i64 t285, .int .i64 t286, .int .i64 t287] 73 (0, 0))) ∧ Aside0 (Below w.heap.size w wc))
          case first =>
            have H := HC45.out
            clear HC45
            by_cases c46 : t271 ≥ 0
            · rw [if_pos c46] at H
              have c46b0 : decide (0 ≤ t271) = true := decide_eq_true c46
              clear c46
              (first | rw [c46b0] | (simp only [i64_w, i32_w]; rw [c46b0]) | skip)
              replace H := Option.bind_eq_some_iff.mp H
              obtain ⟨⟨t296, t297⟩, A470, H⟩ := H
              replace H : (if t296 = t269 then (if t297 = t270 then (laws_FnCurves.j1 kj12 t269 t270 t271 t272 t273 t274 t277 t289 t290 t279 t280 t281 t282) else (some false)) else (some false)) = some true := H
              have A47 := Aside0.mk A470
              clear A470
              by_cases c48 : t296 = t269
              · rw [if_pos c48] at H
                have c48b0 : (t296 == t269) = true := beq_iff_eq.mpr c48
                have c48b1 : (t296 != t269) = false := bne_eq_false_iff_eq.mpr c48
                clear c48
                by_cases c49 : t297 = t270
                · rw [if_pos c49] at H
                  have c49b0 : (t297 == t270) = true := beq_iff_eq.mpr c49
                  have c49b1 : (t297 != t270) = false := bne_eq_false_iff_eq.mpr c49
                  clear c49
                  have H' := Aside0.mk H
                  clear H
                  go_wp2_with (first | ((with_reducible refine gate_callee (f := 84) rfl ?_); refine goesL_ (some 91) rfl rfl Try.func84 (by kernel_rfl) rfl #[.int .i64 t271] rfl (by (try simp only [List.map_toArray, List.map_cons, List.map_nil]); first | done | rfl | (simp only [List.length_drop, List.length_take]; rfl)) ?_; (with_reducible refine (impl_PointAt.calls kj12 t271 t296 t297 _ A47.out).mono ?_); rintro e w' ⟨rfl, ⟨nd, rfl⟩⟩; refine ⟨_, rfl, ?_⟩))
                  go_meet
                  case rel => exact ⟨_, H', ⟨by have := HJ12.out; first | omega | exact Nat.le_refl _⟩, ⟨by (with_reducible repeat (first | refine blk_drewN ?_ _ | refine blk_drew ?_ | refine blk_alloc ?_ _)); exact BK283.out⟩, ⟨by (with_reducible repeat (first | refine blk_drewN ?_ _ | refine blk_drew ?_ | refine blk_alloc ?_ _)); exact BK288.out⟩, ⟨by repeat (first | (with_reducible first | exact HB.out | apply below_alloc | apply pw_below_drewN | apply below_drew1 | refine below_set ?_ GE283.out | refine below_set ?_ GE288.out) | exact HB.out)⟩⟩
                · rw [if_neg c49] at H
                  have c49b0 : (t297 == t270) = false := beq_eq_false_iff_ne.mpr c49
                  have c49b1 : (t297 != t270) = true := bne_iff_ne.mpr c49
                  exact absurd H (by simp)
              · rw [if_neg c48] at H
                have c48b0 : (t296 == t269) = false := beq_eq_false_iff_ne.mpr c48
                have c48b1 : (t296 != t269) = true := bne_iff_ne.mpr c48
                exact absurd H (by simp)
            · rw [if_neg c46] at H
              have c46b0 : decide (0 ≤ t271) = false := decide_eq_false c46
              clear c46
              (first | rw [c46b0] | (simp only [i64_w, i32_w]; rw [c46b0]) | skip)
              have H' := Aside0.mk H
              clear H
              go_wp2
              go_meet
              case rel => exact ⟨_, H', ⟨by have := HJ12.out; first | omega | exact Nat.le_refl _⟩, ⟨by (with_reducible repeat (first | refine blk_drewN ?_ _ | refine blk_drew ?_ | refine blk_alloc ?_ _)); exact BK283.out⟩, ⟨by (with_reducible repeat (first | refine blk_drewN ?_ _ | refine blk_drew ?_ | refine blk_alloc ?_ _)); exact BK288.out⟩, ⟨by repeat (first | (with_reducible first | exact HB.out | apply below_alloc | apply pw_below_drewN | apply below_drew1 | refine below_set ?_ GE283.out | refine below_set ?_ GE288.out) | exact HB.out)⟩⟩
          case rest =>
            clear HC45
            try clear c2
            try clear p2
            try clear c4
            try clear c8
            try clear c9
            try clear c27
            try clear c27b0
            try clear c27b1
            try clear c28
            try clear c28b0
            try clear c28b1
            try clear c44
            try clear c46
            try clear c46b0
            try clear c48
            try clear c48b0
            try clear c48b1
            try clear c49
            try clear c49b0
            try clear c49b1
            try clear p2
            obtain ⟨kq, HA, HJ44, BK283, BK288, HB⟩ := hcut
            cases kq with
            | zero => exact absurd HA.out (by simp [laws_FnCurves.j1])
            | succ kj44 =>
              have H := HA.out
              clear HA
              simp only [laws_FnCurves.j1] at H
              by_cases c50 : t272 ≥ 0
              · rw [if_pos c50] at H
                have c50b0 : decide (0 ≤ t272) = true := decide_eq_true c50
                clear c50
                by_cases c51 : t272 < 65536
                · rw [if_pos c51] at H
                  have c51b0 : decide (t272 < 65536) = true := decide_eq_true c51
                  clear c51
                  replace H := Option.bind_eq_some_iff.mp H
                  obtain ⟨t298, A520, H⟩ := H
                  replace H : (if t298 = t272 then (if t269 < 0 then (if ((t271 == (-1)) == true) = true then ((impl_Apart.f kj44 (Int.tmod (wrap64 ((Int.tmod t277 65535) + 65535)) 65535) (wrap64 ((Int.tmod (wrap64 ((Int.tmod t277 65535) + 65535)) 65535) + 1))).bind fun t299 => (if t299 = 1 then (if t289 ≥ t279 then (if t289 ≤ t281 then (if t290 ≥ t280 then (some (decide (t290 ≤ t282))) else (some false)) else (some false)) else (some false)) else (some false))) else (some false)) else (if t269 > 255 then (if ((t271 == (-1)) == true) = true then ((impl_Apart.f kj44 (Int.tmod (wrap64 ((Int.tmod t277 65535) + 65535)) 65535) (wrap64 ((Int.tmod (wrap64 ((Int.tmod t277 65535) + 65535)) 65535) + 1))).bind fun t300 => (if t300 = 1 then (if t289 ≥ t279 then (if t289 ≤ t281 then (if t290 ≥ t280 then (some (decide (t290 ≤ t282))) else (some false)) else (some false)) else (some false)) else (some false))) else (some false)) else (if t270 < 0 then (if ((t271 == (-1)) == true) = true then ((impl_Apart.f kj44 (Int.tmod (wrap64 ((Int.tmod t277 65535) + 65535)) 65535) (wrap64 ((Int.tmod (wrap64 ((Int.tmod t277 65535) + 65535)) 65535) + 1))).bind fun t301 => (if t301 = 1 then (if t289 ≥ t279 then (if t289 ≤ t281 then (if t290 ≥ t280 then (some (decide (t290 ≤ t282))) else (some false)) else (some false)) else (some false)) else (some false))) else (some false)) else (if ((t271 == (-1)) == (decide (t270 > 255))) = true then ((impl_Apart.f kj44 (Int.tmod (wrap64 ((Int.tmod t277 65535) + 65535)) 65535) (wrap64 ((Int.tmod (wrap64 ((Int.tmod t277 65535) + 65535)) 65535) + 1))).bind fun t302 => (if t302 = 1 then (if t289 ≥ t279 then (if t289 ≤ t281 then (if t290 ≥ t280 then (some (decide (t290 ≤ t282))) else (some false)) else (some false)) else (some false)) else (some false))) else (some false))))) else (some false)) = some true := H
                  have A52 := Aside0.mk A520
                  clear A520
                  by_cases c53 : t298 = t272
                  · rw [if_pos c53] at H
                    have c53b0 : (t298 == t272) = true := beq_iff_eq.mpr c53
                    have c53b1 : (t298 != t272) = false := bne_eq_false_iff_eq.mpr c53
                    clear c53
                    by_cases c54 : t269 < 0
                    · rw [if_pos c54] at H
                      have c54b0 : decide (t269 < 0) = true := decide_eq_true c54
                      clear c54
                      by_cases c55 : ((t271 == (-1)) == true) = true
                      · rw [if_pos c55] at H
                        have c55b0 : ((t271 == (-1)) == true) = true := c55
                        (try (have c55b1 : decide ((t271 == (-1)) = true) = true := by simpa using c55))
                        (try (have c55b2 : ((t271 == (-1)) == true) = true := by simpa using c55))
                        clear c55
                        replace H := Option.bind_eq_some_iff.mp H
                        obtain ⟨t299, A560, H⟩ := H
                        replace H : (if t299 = 1 then (if t289 ≥ t279 then (if t289 ≤ t281 then (if t290 ≥ t280 then (some (decide (t290 ≤ t282))) else (some false)) else (some false)) else (some false)) else (some false)) = some true := H
                        have A56 := Aside0.mk A560
                        clear A560
                        by_cases c57 : t299 = 1
                        · rw [if_pos c57] at H
                          have c57b0 : (t299 == 1) = true := beq_iff_eq.mpr c57
                          have c57b1 : (t299 != 1) = false := bne_eq_false_iff_eq.mpr c57
                          clear c57
                          by_cases c58 : t289 ≥ t279
                          · rw [if_pos c58] at H
                            have c58b0 : decide (t279 ≤ t289) = true := decide_eq_true c58
                            clear c58
                            by_cases c59 : t289 ≤ t281
                            · rw [if_pos c59] at H
                              have c59b0 : decide (t289 ≤ t281) = true := decide_eq_true c59
                              clear c59
                              by_cases c60 : t290 ≥ t280
                              · rw [if_pos c60] at H
                                have c60b0 : decide (t280 ≤ t290) = true := decide_eq_true c60
                                clear c60
                                have hrv_ : (decide (t290 ≤ t282)) = true := Option.some.inj H
                                go_wp2_with (first | (go_at_call 82; (with_reducible refine (impl_Along.calls kj44 t273 t274 t298 _ A52.out).mono ?_); rintro e w' ⟨rfl, ⟨nd, rfl⟩⟩) | (go_at_call 91; (with_reducible refine (impl_Apart.calls kj44 (Int.tmod (wrap64 ((Int.tmod t277 65535) + 65535)) 65535) (wrap64 ((Int.tmod (wrap64 ((Int.tmod t277 65535) + 65535)) 65535) + 1)) t299 _ A56.out).mono ?_); rintro e w61 ⟨rfl, hb⟩; have n0_ := Aside0.mk (blk_below (g := gb283) (o := .cells #[.int .i64 t279, .int .i64 t280, .int .i64 t281, .int .i64 t282] 73 (0, 0)) (by (with_reducible repeat (first | refine blk_drewN ?_ _ | refine blk_drew ?_ | refine blk_alloc ?_ _)); exact BK283.out) hb); have n1_ := Aside0.mk (blk_below (g := gb288) (o := .cells #[.int .i64 t284, .int .i64 t285, .int .i64 t286, .int .i64 t287] 73 (0, 0)) (by (with_reducible repeat (first | refine blk_drewN ?_ _ | refine blk_drew ?_ | refine blk_alloc ?_ _)); exact BK288.out) hb); have n2_ := Aside0.mk (below_step (by repeat (first | (with_reducible first | exact HB.out | apply below_alloc | apply pw_below_drewN | apply below_drew1 | refine below_set ?_ GE283.out | refine below_set ?_ GE288.out) | exact HB.out)) hb); clear BK283; clear BK288; clear HB; have BK283 := n0_; have BK288 := n1_; have HB := n2_; clear n0_ n1_ n2_; (try clear hb); (try clear hb2); (try clear hk); (try clear hi); have hnb62 := NB283_288.out; have hnc62 := NB288_283.out; have hcz63_0 : w61.cell? ⟨gb283, 0, none⟩ = some (.int .i64 t279) := (blk_cell BK283.out 0).trans rfl; have hcz63_1 : w61.cell? ⟨gb283, 1, none⟩ = some (.int .i64 t280) := (blk_cell BK283.out 1).trans rfl; have hcz63_2 : w61.cell? ⟨gb283, 2, none⟩ = some (.int .i64 t281) := (blk_cell BK283.out 2).trans rfl; have hcz63_3 : w61.cell? ⟨gb283, 3, none⟩ = some (.int .i64 t282) := (blk_cell BK283.out 3).trans rfl; have hfz63_0 := blk_frozen BK283.out 0; have hfz63_1 := blk_frozen BK283.out 1; have hfz63_2 := blk_frozen BK283.out 2; have hfz63_3 := blk_frozen BK283.out 3))
                                go_ret
                                exact ⟨by first | rfl | (simp [errW_none, errW_some] <;> rfl) | (simp [*, errW_none, errW_some] <;> rfl), by repeat (first | (with_reducible first | exact HB.out | apply below_alloc | apply pw_below_drewN | apply below_drew1 | refine below_set ?_ GE283.out | refine below_set ?_ GE288.out) | exact HB.out)⟩
                              · rw [if_neg c60] at H
                                have c60b0 : decide (t280 ≤ t290) = false := decide_eq_false c60
                                clear c60
                                exact absurd H (by simp)
                            · rw [if_neg c59] at H
                              have c59b0 : decide (t289 ≤ t281) = false := decide_eq_false c59
                              clear c59
                              exact absurd H (by simp)
                          · rw [if_neg c58] at H
                            have c58b0 : decide (t279 ≤ t289) = false := decide_eq_false c58
                            clear c58
                            exact absurd H (by simp)
                        · rw [if_neg c57] at H
                          have c57b0 : (t299 == 1) = false := beq_eq_false_iff_ne.mpr c57
                          have c57b1 : (t299 != 1) = true := bne_iff_ne.mpr c57
                          exact absurd H (by simp)
                      · rw [if_neg c55] at H
                        have c55b0 : ((t271 == (-1)) == true) = false := by simpa using c55
                        (try (have c55b1 : decide ((t271 == (-1)) = true) = false := by simpa using c55))
                        (try (have c55b2 : ((t271 == (-1)) == true) = false := by simpa using c55))
                        (try (have c55b3 : ¬ ((t271 == (-1)) = true) := by simpa using c55))
                        clear c55
                        exact absurd H (by simp)
                    · rw [if_neg c54] at H
                      have c54b0 : decide (t269 < 0) = false := decide_eq_false c54
                      clear c54
                      by_cases c64 : t269 > 255
                      · rw [if_pos c64] at H
                        have c64b0 : decide (255 < t269) = true := decide_eq_true c64
                        clear c64
                        by_cases c65 : ((t271 == (-1)) == true) = true
                        · rw [if_pos c65] at H
                          have c65b0 : ((t271 == (-1)) == true) = true := c65
                          (try (have c65b1 : decide ((t271 == (-1)) = true) = true := by simpa using c65))
                          (try (have c65b2 : ((t271 == (-1)) == true) = true := by simpa using c65))
                          clear c65
                          replace H := Option.bind_eq_some_iff.mp H
                          obtain ⟨t300, A660, H⟩ := H
                          replace H : (if t300 = 1 then (if t289 ≥ t279 then (if t289 ≤ t281 then (if t290 ≥ t280 then (some (decide (t290 ≤ t282))) else (some false)) else (some false)) else (some false)) else (some false)) = some true := H
                          have A66 := Aside0.mk A660
                          clear A660
                          by_cases c67 : t300 = 1
                          · rw [if_pos c67] at H
                            have c67b0 : (t300 == 1) = true := beq_iff_eq.mpr c67
                            have c67b1 : (t300 != 1) = false := bne_eq_false_iff_eq.mpr c67
                            clear c67
                            by_cases c68 : t289 ≥ t279
                            · rw [if_pos c68] at H
                              have c68b0 : decide (t279 ≤ t289) = true := decide_eq_true c68
                              clear c68
                              by_cases c69 : t289 ≤ t281
                              · rw [if_pos c69] at H
                                have c69b0 : decide (t289 ≤ t281) = true := decide_eq_true c69
                                clear c69
                                by_cases c70 : t290 ≥ t280
                                · rw [if_pos c70] at H
                                  have c70b0 : decide (t280 ≤ t290) = true := decide_eq_true c70
                                  clear c70
                                  have hrv_ : (decide (t290 ≤ t282)) = true := Option.some.inj H
                                  go_wp2_with (first | (go_at_call 82; (with_reducible refine (impl_Along.calls kj44 t273 t274 t298 _ A52.out).mono ?_); rintro e w' ⟨rfl, ⟨nd, rfl⟩⟩) | (go_at_call 91; (with_reducible refine (impl_Apart.calls kj44 (Int.tmod (wrap64 ((Int.tmod t277 65535) + 65535)) 65535) (wrap64 ((Int.tmod (wrap64 ((Int.tmod t277 65535) + 65535)) 65535) + 1)) t300 _ A66.out).mono ?_); rintro e w71 ⟨rfl, hb⟩; have n0_ := Aside0.mk (blk_below (g := gb283) (o := .cells #[.int .i64 t279, .int .i64 t280, .int .i64 t281, .int .i64 t282] 73 (0, 0)) (by (with_reducible repeat (first | refine blk_drewN ?_ _ | refine blk_drew ?_ | refine blk_alloc ?_ _)); exact BK283.out) hb); have n1_ := Aside0.mk (blk_below (g := gb288) (o := .cells #[.int .i64 t284, .int .i64 t285, .int .i64 t286, .int .i64 t287] 73 (0, 0)) (by (with_reducible repeat (first | refine blk_drewN ?_ _ | refine blk_drew ?_ | refine blk_alloc ?_ _)); exact BK288.out) hb); have n2_ := Aside0.mk (below_step (by repeat (first | (with_reducible first | exact HB.out | apply below_alloc | apply pw_below_drewN | apply below_drew1 | refine below_set ?_ GE283.out | refine below_set ?_ GE288.out) | exact HB.out)) hb); clear BK283; clear BK288; clear HB; have BK283 := n0_; have BK288 := n1_; have HB := n2_; clear n0_ n1_ n2_; (try clear hb); (try clear hb2); (try clear hk); (try clear hi); have hnb72 := NB283_288.out; have hnc72 := NB288_283.out; have hcz73_0 : w71.cell? ⟨gb283, 0, none⟩ = some (.int .i64 t279) := (blk_cell BK283.out 0).trans rfl; have hcz73_1 : w71.cell? ⟨gb283, 1, none⟩ = some (.int .i64 t280) := (blk_cell BK283.out 1).trans rfl; have hcz73_2 : w71.cell? ⟨gb283, 2, none⟩ = some (.int .i64 t281) := (blk_cell BK283.out 2).trans rfl; have hcz73_3 : w71.cell? ⟨gb283, 3, none⟩ = some (.int .i64 t282) := (blk_cell BK283.out 3).trans rfl; have hfz73_0 := blk_frozen BK283.out 0; have hfz73_1 := blk_frozen BK283.out 1; have hfz73_2 := blk_frozen BK283.out 2; have hfz73_3 := blk_frozen BK283.out 3))
                                  go_ret
                                  exact ⟨by first | rfl | (simp [errW_none, errW_some] <;> rfl) | (simp [*, errW_none, errW_some] <;> rfl), by repeat (first | (with_reducible first | exact HB.out | apply below_alloc | apply pw_below_drewN | apply below_drew1 | refine below_set ?_ GE283.out | refine below_set ?_ GE288.out) | exact HB.out)⟩
                                · rw [if_neg c70] at H
                                  have c70b0 : decide (t280 ≤ t290) = false := decide_eq_false c70
                                  clear c70
                                  exact absurd H (by simp)
                              · rw [if_neg c69] at H
                                have c69b0 : decide (t289 ≤ t281) = false := decide_eq_false c69
                                clear c69
                                exact absurd H (by simp)
                            · rw [if_neg c68] at H
                              have c68b0 : decide (t279 ≤ t289) = false := decide_eq_false c68
                              clear c68
                              exact absurd H (by simp)
                          · rw [if_neg c67] at H
                            have c67b0 : (t300 == 1) = false := beq_eq_false_iff_ne.mpr c67
                            have c67b1 : (t300 != 1) = true := bne_iff_ne.mpr c67
                            exact absurd H (by simp)
                        · rw [if_neg c65] at H
                          have c65b0 : ((t271 == (-1)) == true) = false := by simpa using c65
                          (try (have c65b1 : decide ((t271 == (-1)) = true) = false := by simpa using c65))
                          (try (have c65b2 : ((t271 == (-1)) == true) = false := by simpa using c65))
                          (try (have c65b3 : ¬ ((t271 == (-1)) = true) := by simpa using c65))
                          clear c65
                          exact absurd H (by simp)
                      · rw [if_neg c64] at H
                        have c64b0 : decide (255 < t269) = false := decide_eq_false c64
                        clear c64
                        by_cases c74 : t270 < 0
                        · rw [if_pos c74] at H
                          have c74b0 : decide (t270 < 0) = true := decide_eq_true c74
                          clear c74
                          by_cases c75 : ((t271 == (-1)) == true) = true
                          · rw [if_pos c75] at H
                            have c75b0 : ((t271 == (-1)) == true) = true := c75
                            (try (have c75b1 : decide ((t271 == (-1)) = true) = true := by simpa using c75))
                            (try (have c75b2 : ((t271 == (-1)) == true) = true := by simpa using c75))
                            clear c75
                            replace H := Option.bind_eq_some_iff.mp H
                            obtain ⟨t301, A760, H⟩ := H
                            replace H : (if t301 = 1 then (if t289 ≥ t279 then (if t289 ≤ t281 then (if t290 ≥ t280 then (some (decide (t290 ≤ t282))) else (some false)) else (some false)) else (some false)) else (some false)) = some true := H
                            have A76 := Aside0.mk A760
                            clear A760
                            by_cases c77 : t301 = 1
                            · rw [if_pos c77] at H
                              have c77b0 : (t301 == 1) = true := beq_iff_eq.mpr c77
                              have c77b1 : (t301 != 1) = false := bne_eq_false_iff_eq.mpr c77
                              clear c77
                              by_cases c78 : t289 ≥ t279
                              · rw [if_pos c78] at H
                                have c78b0 : decide (t279 ≤ t289) = true := decide_eq_true c78
                                clear c78
                                by_cases c79 : t289 ≤ t281
                                · rw [if_pos c79] at H
                                  have c79b0 : decide (t289 ≤ t281) = true := decide_eq_true c79
                                  clear c79
                                  by_cases c80 : t290 ≥ t280
                                  · rw [if_pos c80] at H
                                    have c80b0 : decide (t280 ≤ t290) = true := decide_eq_true c80
                                    clear c80
                                    have hrv_ : (decide (t290 ≤ t282)) = true := Option.some.inj H
                                    go_wp2_with (first | (go_at_call 82; (with_reducible refine (impl_Along.calls kj44 t273 t274 t298 _ A52.out).mono ?_); rintro e w' ⟨rfl, ⟨nd, rfl⟩⟩) | (go_at_call 91; (with_reducible refine (impl_Apart.calls kj44 (Int.tmod (wrap64 ((Int.tmod t277 65535) + 65535)) 65535) (wrap64 ((Int.tmod (wrap64 ((Int.tmod t277 65535) + 65535)) 65535) + 1)) t301 _ A76.out).mono ?_); rintro e w81 ⟨rfl, hb⟩; have n0_ := Aside0.mk (blk_below (g := gb283) (o := .cells #[.int .i64 t279, .int .i64 t280, .int .i64 t281, .int .i64 t282] 73 (0, 0)) (by (with_reducible repeat (first | refine blk_drewN ?_ _ | refine blk_drew ?_ | refine blk_alloc ?_ _)); exact BK283.out) hb); have n1_ := Aside0.mk (blk_below (g := gb288) (o := .cells #[.int .i64 t284, .int .i64 t285, .int .i64 t286, .int .i64 t287] 73 (0, 0)) (by (with_reducible repeat (first | refine blk_drewN ?_ _ | refine blk_drew ?_ | refine blk_alloc ?_ _)); exact BK288.out) hb); have n2_ := Aside0.mk (below_step (by repeat (first | (with_reducible first | exact HB.out | apply below_alloc | apply pw_below_drewN | apply below_drew1 | refine below_set ?_ GE283.out | refine below_set ?_ GE288.out) | exact HB.out)) hb); clear BK283; clear BK288; clear HB; have BK283 := n0_; have BK288 := n1_; have HB := n2_; clear n0_ n1_ n2_; (try clear hb); (try clear hb2); (try clear hk); (try clear hi); have hnb82 := NB283_288.out; have hnc82 := NB288_283.out; have hcz83_0 : w81.cell? ⟨gb283, 0, none⟩ = some (.int .i64 t279) := (blk_cell BK283.out 0).trans rfl; have hcz83_1 : w81.cell? ⟨gb283, 1, none⟩ = some (.int .i64 t280) := (blk_cell BK283.out 1).trans rfl; have hcz83_2 : w81.cell? ⟨gb283, 2, none⟩ = some (.int .i64 t281) := (blk_cell BK283.out 2).trans rfl; have hcz83_3 : w81.cell? ⟨gb283, 3, none⟩ = some (.int .i64 t282) := (blk_cell BK283.out 3).trans rfl; have hfz83_0 := blk_frozen BK283.out 0; have hfz83_1 := blk_frozen BK283.out 1; have hfz83_2 := blk_frozen BK283.out 2; have hfz83_3 := blk_frozen BK283.out 3))
                                    go_ret
                                    exact ⟨by first | rfl | (simp [errW_none, errW_some] <;> rfl) | (simp [*, errW_none, errW_some] <;> rfl), by repeat (first | (with_reducible first | exact HB.out | apply below_alloc | apply pw_below_drewN | apply below_drew1 | refine below_set ?_ GE283.out | refine below_set ?_ GE288.out) | exact HB.out)⟩
                                  · rw [if_neg c80] at H
                                    have c80b0 : decide (t280 ≤ t290) = false := decide_eq_false c80
                                    clear c80
                                    exact absurd H (by simp)
                                · rw [if_neg c79] at H
                                  have c79b0 : decide (t289 ≤ t281) = false := decide_eq_false c79
                                  clear c79
                                  exact absurd H (by simp)
                              · rw [if_neg c78] at H
                                have c78b0 : decide (t279 ≤ t289) = false := decide_eq_false c78
                                clear c78
                                exact absurd H (by simp)
                            · rw [if_neg c77] at H
                              have c77b0 : (t301 == 1) = false := beq_eq_false_iff_ne.mpr c77
                              have c77b1 : (t301 != 1) = true := bne_iff_ne.mpr c77
                              exact absurd H (by simp)
                          · rw [if_neg c75] at H
                            have c75b0 : ((t271 == (-1)) == true) = false := by simpa using c75
                            (try (have c75b1 : decide ((t271 == (-1)) = true) = false := by simpa using c75))
                            (try (have c75b2 : ((t271 == (-1)) == true) = false := by simpa using c75))
                            (try (have c75b3 : ¬ ((t271 == (-1)) = true) := by simpa using c75))
                            clear c75
                            exact absurd H (by simp)
                        · rw [if_neg c74] at H
                          have c74b0 : decide (t270 < 0) = false := decide_eq_false c74
                          clear c74
                          by_cases c84 : ((t271 == (-1)) == (decide (t270 > 255))) = true
                          · rw [if_pos c84] at H
                            have c84b0 : ((t271 == (-1)) == (decide (t270 > 255))) = true := c84
                            (try (have c84b1 : decide ((t271 == (-1)) = (decide (t270 > 255))) = true := by simpa using c84))
                            (try (have c84b2 : ((t271 == (-1)) == (decide (t270 > 255))) = true := by simpa using c84))
                            clear c84
                            replace H := Option.bind_eq_some_iff.mp H
                            obtain ⟨t302, A850, H⟩ := H
                            replace H : (if t302 = 1 then (if t289 ≥ t279 then (if t289 ≤ t281 then (if t290 ≥ t280 then (some (decide (t290 ≤ t282))) else (some false)) else (some false)) else (some false)) else (some false)) = some true := H
                            have A85 := Aside0.mk A850
                            clear A850
                            by_cases c86 : t302 = 1
                            · rw [if_pos c86] at H
                              have c86b0 : (t302 == 1) = true := beq_iff_eq.mpr c86
                              have c86b1 : (t302 != 1) = false := bne_eq_false_iff_eq.mpr c86
                              clear c86
                              by_cases c87 : t289 ≥ t279
                              · rw [if_pos c87] at H
                                have c87b0 : decide (t279 ≤ t289) = true := decide_eq_true c87
                                clear c87
                                by_cases c88 : t289 ≤ t281
                                · rw [if_pos c88] at H
                                  have c88b0 : decide (t289 ≤ t281) = true := decide_eq_true c88
                                  clear c88
                                  by_cases c89 : t290 ≥ t280
                                  · rw [if_pos c89] at H
                                    have c89b0 : decide (t280 ≤ t290) = true := decide_eq_true c89
                                    clear c89
                                    have hrv_ : (decide (t290 ≤ t282)) = true := Option.some.inj H
                                    go_wp2_with (first | (go_at_call 82; (with_reducible refine (impl_Along.calls kj44 t273 t274 t298 _ A52.out).mono ?_); rintro e w' ⟨rfl, ⟨nd, rfl⟩⟩) | (go_at_call 91; (with_reducible refine (impl_Apart.calls kj44 (Int.tmod (wrap64 ((Int.tmod t277 65535) + 65535)) 65535) (wrap64 ((Int.tmod (wrap64 ((Int.tmod t277 65535) + 65535)) 65535) + 1)) t302 _ A85.out).mono ?_); rintro e w90 ⟨rfl, hb⟩; have n0_ := Aside0.mk (blk_below (g := gb283) (o := .cells #[.int .i64 t279, .int .i64 t280, .int .i64 t281, .int .i64 t282] 73 (0, 0)) (by (with_reducible repeat (first | refine blk_drewN ?_ _ | refine blk_drew ?_ | refine blk_alloc ?_ _)); exact BK283.out) hb); have n1_ := Aside0.mk (blk_below (g := gb288) (o := .cells #[.int .i64 t284, .int .i64 t285, .int .i64 t286, .int .i64 t287] 73 (0, 0)) (by (with_reducible repeat (first | refine blk_drewN ?_ _ | refine blk_drew ?_ | refine blk_alloc ?_ _)); exact BK288.out) hb); have n2_ := Aside0.mk (below_step (by repeat (first | (with_reducible first | exact HB.out | apply below_alloc | apply pw_below_drewN | apply below_drew1 | refine below_set ?_ GE283.out | refine below_set ?_ GE288.out) | exact HB.out)) hb); clear BK283; clear BK288; clear HB; have BK283 := n0_; have BK288 := n1_; have HB := n2_; clear n0_ n1_ n2_; (try clear hb); (try clear hb2); (try clear hk); (try clear hi); have hnb91 := NB283_288.out; have hnc91 := NB288_283.out; have hcz92_0 : w90.cell? ⟨gb283, 0, none⟩ = some (.int .i64 t279) := (blk_cell BK283.out 0).trans rfl; have hcz92_1 : w90.cell? ⟨gb283, 1, none⟩ = some (.int .i64 t280) := (blk_cell BK283.out 1).trans rfl; have hcz92_2 : w90.cell? ⟨gb283, 2, none⟩ = some (.int .i64 t281) := (blk_cell BK283.out 2).trans rfl; have hcz92_3 : w90.cell? ⟨gb283, 3, none⟩ = some (.int .i64 t282) := (blk_cell BK283.out 3).trans rfl; have hfz92_0 := blk_frozen BK283.out 0; have hfz92_1 := blk_frozen BK283.out 1; have hfz92_2 := blk_frozen BK283.out 2; have hfz92_3 := blk_frozen BK283.out 3))
                                    go_ret
                                    exact ⟨by first | rfl | (simp [errW_none, errW_some] <;> rfl) | (simp [*, errW_none, errW_some] <;> rfl), by repeat (first | (with_reducible first | exact HB.out | apply below_alloc | apply pw_below_drewN | apply below_drew1 | refine below_set ?_ GE283.out | refine below_set ?_ GE288.out) | exact HB.out)⟩
                                  · rw [if_neg c89] at H
                                    have c89b0 : decide (t280 ≤ t290) = false := decide_eq_false c89
                                    clear c89
                                    exact absurd H (by simp)
                                · rw [if_neg c88] at H
                                  have c88b0 : decide (t289 ≤ t281) = false := decide_eq_false c88
                                  clear c88
                                  exact absurd H (by simp)
                              · rw [if_neg c87] at H
                                have c87b0 : decide (t279 ≤ t289) = false := decide_eq_false c87
                                clear c87
                                exact absurd H (by simp)
                            · rw [if_neg c86] at H
                              have c86b0 : (t302 == 1) = false := beq_eq_false_iff_ne.mpr c86
                              have c86b1 : (t302 != 1) = true := bne_iff_ne.mpr c86
                              exact absurd H (by simp)
                          · rw [if_neg c84] at H
                            have c84b0 : ((t271 == (-1)) == (decide (t270 > 255))) = false := by simpa using c84
                            (try (have c84b1 : decide ((t271 == (-1)) = (decide (t270 > 255))) = false := by simpa using c84))
                            (try (have c84b2 : ((t271 == (-1)) == (decide (t270 > 255))) = false := by simpa using c84))
                            (try (have c84b3 : ¬ ((t271 == (-1)) = (decide (t270 > 255))) := by simpa using c84))
                            clear c84
                            exact absurd H (by simp)
                  · rw [if_neg c53] at H
                    have c53b0 : (t298 == t272) = false := beq_eq_false_iff_ne.mpr c53
                    have c53b1 : (t298 != t272) = true := bne_iff_ne.mpr c53
                    exact absurd H (by simp)
                · rw [if_neg c51] at H
                  have c51b0 : decide (t272 < 65536) = false := decide_eq_false c51
                  clear c51
                  by_cases c93 : t269 < 0
                  · rw [if_pos c93] at H
                    have c93b0 : decide (t269 < 0) = true := decide_eq_true c93
                    clear c93
                    by_cases c94 : ((t271 == (-1)) == true) = true
                    · rw [if_pos c94] at H
                      have c94b0 : ((t271 == (-1)) == true) = true := c94
                      (try (have c94b1 : decide ((t271 == (-1)) = true) = true := by simpa using c94))
                      (try (have c94b2 : ((t271 == (-1)) == true) = true := by simpa using c94))
                      clear c94
                      replace H := Option.bind_eq_some_iff.mp H
                      obtain ⟨t303, A950, H⟩ := H
                      replace H : (if t303 = 1 then (if t289 ≥ t279 then (if t289 ≤ t281 then (if t290 ≥ t280 then (some (decide (t290 ≤ t282))) else (some false)) else (some false)) else (some false)) else (some false)) = some true := H
                      have A95 := Aside0.mk A950
                      clear A950
                      by_cases c96 : t303 = 1
                      · rw [if_pos c96] at H
                        have c96b0 : (t303 == 1) = true := beq_iff_eq.mpr c96
                        have c96b1 : (t303 != 1) = false := bne_eq_false_iff_eq.mpr c96
                        clear c96
                        by_cases c97 : t289 ≥ t279
                        · rw [if_pos c97] at H
                          have c97b0 : decide (t279 ≤ t289) = true := decide_eq_true c97
                          clear c97
                          by_cases c98 : t289 ≤ t281
                          · rw [if_pos c98] at H
                            have c98b0 : decide (t289 ≤ t281) = true := decide_eq_true c98
                            clear c98
                            by_cases c99 : t290 ≥ t280
                            · rw [if_pos c99] at H
                              have c99b0 : decide (t280 ≤ t290) = true := decide_eq_true c99
                              clear c99
                              have hrv_ : (decide (t290 ≤ t282)) = true := Option.some.inj H
                              go_wp2_with (first | (go_at_call 91; (with_reducible refine (impl_Apart.calls kj44 (Int.tmod (wrap64 ((Int.tmod t277 65535) + 65535)) 65535) (wrap64 ((Int.tmod (wrap64 ((Int.tmod t277 65535) + 65535)) 65535) + 1)) t303 _ A95.out).mono ?_); rintro e w100 ⟨rfl, hb⟩; have n0_ := Aside0.mk (blk_below (g := gb283) (o := .cells #[.int .i64 t279, .int .i64 t280, .int .i64 t281, .int .i64 t282] 73 (0, 0)) (by (with_reducible repeat (first | refine blk_drewN ?_ _ | refine blk_drew ?_ | refine blk_alloc ?_ _)); exact BK283.out) hb); have n1_ := Aside0.mk (blk_below (g := gb288) (o := .cells #[.int .i64 t284, .int .i64 t285, .int .i64 t286, .int .i64 t287] 73 (0, 0)) (by (with_reducible repeat (first | refine blk_drewN ?_ _ | refine blk_drew ?_ | refine blk_alloc ?_ _)); exact BK288.out) hb); have n2_ := Aside0.mk (below_step (by repeat (first | (with_reducible first | exact HB.out | apply below_alloc | apply pw_below_drewN | apply below_drew1 | refine below_set ?_ GE283.out | refine below_set ?_ GE288.out) | exact HB.out)) hb); clear BK283; clear BK288; clear HB; have BK283 := n0_; have BK288 := n1_; have HB := n2_; clear n0_ n1_ n2_; (try clear hb); (try clear hb2); (try clear hk); (try clear hi); have hnb101 := NB283_288.out; have hnc101 := NB288_283.out; have hcz102_0 : w100.cell? ⟨gb283, 0, none⟩ = some (.int .i64 t279) := (blk_cell BK283.out 0).trans rfl; have hcz102_1 : w100.cell? ⟨gb283, 1, none⟩ = some (.int .i64 t280) := (blk_cell BK283.out 1).trans rfl; have hcz102_2 : w100.cell? ⟨gb283, 2, none⟩ = some (.int .i64 t281) := (blk_cell BK283.out 2).trans rfl; have hcz102_3 : w100.cell? ⟨gb283, 3, none⟩ = some (.int .i64 t282) := (blk_cell BK283.out 3).trans rfl; have hfz102_0 := blk_frozen BK283.out 0; have hfz102_1 := blk_frozen BK283.out 1; have hfz102_2 := blk_frozen BK283.out 2; have hfz102_3 := blk_frozen BK283.out 3))
                              go_ret
                              exact ⟨by first | rfl | (simp [errW_none, errW_some] <;> rfl) | (simp [*, errW_none, errW_some] <;> rfl), by repeat (first | (with_reducible first | exact HB.out | apply below_alloc | apply pw_below_drewN | apply below_drew1 | refine below_set ?_ GE283.out | refine below_set ?_ GE288.out) | exact HB.out)⟩
                            · rw [if_neg c99] at H
                              have c99b0 : decide (t280 ≤ t290) = false := decide_eq_false c99
                              clear c99
                              exact absurd H (by simp)
                          · rw [if_neg c98] at H
                            have c98b0 : decide (t289 ≤ t281) = false := decide_eq_false c98
                            clear c98
                            exact absurd H (by simp)
                        · rw [if_neg c97] at H
                          have c97b0 : decide (t279 ≤ t289) = false := decide_eq_false c97
                          clear c97
                          exact absurd H (by simp)
                      · rw [if_neg c96] at H
                        have c96b0 : (t303 == 1) = false := beq_eq_false_iff_ne.mpr c96
                        have c96b1 : (t303 != 1) = true := bne_iff_ne.mpr c96
                        exact absurd H (by simp)
                    · rw [if_neg c94] at H
                      have c94b0 : ((t271 == (-1)) == true) = false := by simpa using c94
                      (try (have c94b1 : decide ((t271 == (-1)) = true) = false := by simpa using c94))
                      (try (have c94b2 : ((t271 == (-1)) == true) = false := by simpa using c94))
                      (try (have c94b3 : ¬ ((t271 == (-1)) = true) := by simpa using c94))
                      clear c94
                      exact absurd H (by simp)
                  · rw [if_neg c93] at H
                    have c93b0 : decide (t269 < 0) = false := decide_eq_false c93
                    clear c93
                    by_cases c103 : t269 > 255
                    · rw [if_pos c103] at H
                      have c103b0 : decide (255 < t269) = true := decide_eq_true c103
                      clear c103
                      by_cases c104 : ((t271 == (-1)) == true) = true
                      · rw [if_pos c104] at H
                        have c104b0 : ((t271 == (-1)) == true) = true := c104
                        (try (have c104b1 : decide ((t271 == (-1)) = true) = true := by simpa using c104))
                        (try (have c104b2 : ((t271 == (-1)) == true) = true := by simpa using c104))
                        clear c104
                        replace H := Option.bind_eq_some_iff.mp H
                        obtain ⟨t304, A1050, H⟩ := H
                        replace H : (if t304 = 1 then (if t289 ≥ t279 then (if t289 ≤ t281 then (if t290 ≥ t280 then (some (decide (t290 ≤ t282))) else (some false)) else (some false)) else (some false)) else (some false)) = some true := H
                        have A105 := Aside0.mk A1050
                        clear A1050
                        by_cases c106 : t304 = 1
                        · rw [if_pos c106] at H
                          have c106b0 : (t304 == 1) = true := beq_iff_eq.mpr c106
                          have c106b1 : (t304 != 1) = false := bne_eq_false_iff_eq.mpr c106
                          clear c106
                          by_cases c107 : t289 ≥ t279
                          · rw [if_pos c107] at H
                            have c107b0 : decide (t279 ≤ t289) = true := decide_eq_true c107
                            clear c107
                            by_cases c108 : t289 ≤ t281
                            · rw [if_pos c108] at H
                              have c108b0 : decide (t289 ≤ t281) = true := decide_eq_true c108
                              clear c108
                              by_cases c109 : t290 ≥ t280
                              · rw [if_pos c109] at H
                                have c109b0 : decide (t280 ≤ t290) = true := decide_eq_true c109
                                clear c109
                                have hrv_ : (decide (t290 ≤ t282)) = true := Option.some.inj H
                                go_wp2_with (first | (go_at_call 91; (with_reducible refine (impl_Apart.calls kj44 (Int.tmod (wrap64 ((Int.tmod t277 65535) + 65535)) 65535) (wrap64 ((Int.tmod (wrap64 ((Int.tmod t277 65535) + 65535)) 65535) + 1)) t304 _ A105.out).mono ?_); rintro e w110 ⟨rfl, hb⟩; have n0_ := Aside0.mk (blk_below (g := gb283) (o := .cells #[.int .i64 t279, .int .i64 t280, .int .i64 t281, .int .i64 t282] 73 (0, 0)) (by (with_reducible repeat (first | refine blk_drewN ?_ _ | refine blk_drew ?_ | refine blk_alloc ?_ _)); exact BK283.out) hb); have n1_ := Aside0.mk (blk_below (g := gb288) (o := .cells #[.int .i64 t284, .int .i64 t285, .int .i64 t286, .int .i64 t287] 73 (0, 0)) (by (with_reducible repeat (first | refine blk_drewN ?_ _ | refine blk_drew ?_ | refine blk_alloc ?_ _)); exact BK288.out) hb); have n2_ := Aside0.mk (below_step (by repeat (first | (with_reducible first | exact HB.out | apply below_alloc | apply pw_below_drewN | apply below_drew1 | refine below_set ?_ GE283.out | refine below_set ?_ GE288.out) | exact HB.out)) hb); clear BK283; clear BK288; clear HB; have BK283 := n0_; have BK288 := n1_; have HB := n2_; clear n0_ n1_ n2_; (try clear hb); (try clear hb2); (try clear hk); (try clear hi); have hnb111 := NB283_288.out; have hnc111 := NB288_283.out; have hcz112_0 : w110.cell? ⟨gb283, 0, none⟩ = some (.int .i64 t279) := (blk_cell BK283.out 0).trans rfl; have hcz112_1 : w110.cell? ⟨gb283, 1, none⟩ = some (.int .i64 t280) := (blk_cell BK283.out 1).trans rfl; have hcz112_2 : w110.cell? ⟨gb283, 2, none⟩ = some (.int .i64 t281) := (blk_cell BK283.out 2).trans rfl; have hcz112_3 : w110.cell? ⟨gb283, 3, none⟩ = some (.int .i64 t282) := (blk_cell BK283.out 3).trans rfl; have hfz112_0 := blk_frozen BK283.out 0; have hfz112_1 := blk_frozen BK283.out 1; have hfz112_2 := blk_frozen BK283.out 2; have hfz112_3 := blk_frozen BK283.out 3))
                                go_ret
                                exact ⟨by first | rfl | (simp [errW_none, errW_some] <;> rfl) | (simp [*, errW_none, errW_some] <;> rfl), by repeat (first | (with_reducible first | exact HB.out | apply below_alloc | apply pw_below_drewN | apply below_drew1 | refine below_set ?_ GE283.out | refine below_set ?_ GE288.out) | exact HB.out)⟩
                              · rw [if_neg c109] at H
                                have c109b0 : decide (t280 ≤ t290) = false := decide_eq_false c109
                                clear c109
                                exact absurd H (by simp)
                            · rw [if_neg c108] at H
                              have c108b0 : decide (t289 ≤ t281) = false := decide_eq_false c108
                              clear c108
                              exact absurd H (by simp)
                          · rw [if_neg c107] at H
                            have c107b0 : decide (t279 ≤ t289) = false := decide_eq_false c107
                            clear c107
                            exact absurd H (by simp)
                        · rw [if_neg c106] at H
                          have c106b0 : (t304 == 1) = false := beq_eq_false_iff_ne.mpr c106
                          have c106b1 : (t304 != 1) = true := bne_iff_ne.mpr c106
                          exact absurd H (by simp)
                      · rw [if_neg c104] at H
                        have c104b0 : ((t271 == (-1)) == true) = false := by simpa using c104
                        (try (have c104b1 : decide ((t271 == (-1)) = true) = false := by simpa using c104))
                        (try (have c104b2 : ((t271 == (-1)) == true) = false := by simpa using c104))
                        (try (have c104b3 : ¬ ((t271 == (-1)) = true) := by simpa using c104))
                        clear c104
                        exact absurd H (by simp)
                    · rw [if_neg c103] at H
                      have c103b0 : decide (255 < t269) = false := decide_eq_false c103
                      clear c103
                      by_cases c113 : t270 < 0
                      · rw [if_pos c113] at H
                        have c113b0 : decide (t270 < 0) = true := decide_eq_true c113
                        clear c113
                        by_cases c114 : ((t271 == (-1)) == true) = true
                        · rw [if_pos c114] at H
                          have c114b0 : ((t271 == (-1)) == true) = true := c114
                          (try (have c114b1 : decide ((t271 == (-1)) = true) = true := by simpa using c114))
                          (try (have c114b2 : ((t271 == (-1)) == true) = true := by simpa using c114))
                          clear c114
                          replace H := Option.bind_eq_some_iff.mp H
                          obtain ⟨t305, A1150, H⟩ := H
                          replace H : (if t305 = 1 then (if t289 ≥ t279 then (if t289 ≤ t281 then (if t290 ≥ t280 then (some (decide (t290 ≤ t282))) else (some false)) else (some false)) else (some false)) else (some false)) = some true := H
                          have A115 := Aside0.mk A1150
                          clear A1150
                          by_cases c116 : t305 = 1
                          · rw [if_pos c116] at H
                            have c116b0 : (t305 == 1) = true := beq_iff_eq.mpr c116
                            have c116b1 : (t305 != 1) = false := bne_eq_false_iff_eq.mpr c116
                            clear c116
                            by_cases c117 : t289 ≥ t279
                            · rw [if_pos c117] at H
                              have c117b0 : decide (t279 ≤ t289) = true := decide_eq_true c117
                              clear c117
                              by_cases c118 : t289 ≤ t281
                              · rw [if_pos c118] at H
                                have c118b0 : decide (t289 ≤ t281) = true := decide_eq_true c118
                                clear c118
                                by_cases c119 : t290 ≥ t280
                                · rw [if_pos c119] at H
                                  have c119b0 : decide (t280 ≤ t290) = true := decide_eq_true c119
                                  clear c119
                                  have hrv_ : (decide (t290 ≤ t282)) = true := Option.some.inj H
                                  go_wp2_with (first | (go_at_call 91; (with_reducible refine (impl_Apart.calls kj44 (Int.tmod (wrap64 ((Int.tmod t277 65535) + 65535)) 65535) (wrap64 ((Int.tmod (wrap64 ((Int.tmod t277 65535) + 65535)) 65535) + 1)) t305 _ A115.out).mono ?_); rintro e w120 ⟨rfl, hb⟩; have n0_ := Aside0.mk (blk_below (g := gb283) (o := .cells #[.int .i64 t279, .int .i64 t280, .int .i64 t281, .int .i64 t282] 73 (0, 0)) (by (with_reducible repeat (first | refine blk_drewN ?_ _ | refine blk_drew ?_ | refine blk_alloc ?_ _)); exact BK283.out) hb); have n1_ := Aside0.mk (blk_below (g := gb288) (o := .cells #[.int .i64 t284, .int .i64 t285, .int .i64 t286, .int .i64 t287] 73 (0, 0)) (by (with_reducible repeat (first | refine blk_drewN ?_ _ | refine blk_drew ?_ | refine blk_alloc ?_ _)); exact BK288.out) hb); have n2_ := Aside0.mk (below_step (by repeat (first | (with_reducible first | exact HB.out | apply below_alloc | apply pw_below_drewN | apply below_drew1 | refine below_set ?_ GE283.out | refine below_set ?_ GE288.out) | exact HB.out)) hb); clear BK283; clear BK288; clear HB; have BK283 := n0_; have BK288 := n1_; have HB := n2_; clear n0_ n1_ n2_; (try clear hb); (try clear hb2); (try clear hk); (try clear hi); have hnb121 := NB283_288.out; have hnc121 := NB288_283.out; have hcz122_0 : w120.cell? ⟨gb283, 0, none⟩ = some (.int .i64 t279) := (blk_cell BK283.out 0).trans rfl; have hcz122_1 : w120.cell? ⟨gb283, 1, none⟩ = some (.int .i64 t280) := (blk_cell BK283.out 1).trans rfl; have hcz122_2 : w120.cell? ⟨gb283, 2, none⟩ = some (.int .i64 t281) := (blk_cell BK283.out 2).trans rfl; have hcz122_3 : w120.cell? ⟨gb283, 3, none⟩ = some (.int .i64 t282) := (blk_cell BK283.out 3).trans rfl; have hfz122_0 := blk_frozen BK283.out 0; have hfz122_1 := blk_frozen BK283.out 1; have hfz122_2 := blk_frozen BK283.out 2; have hfz122_3 := blk_frozen BK283.out 3))
                                  go_ret
                                  exact ⟨by first | rfl | (simp [errW_none, errW_some] <;> rfl) | (simp [*, errW_none, errW_some] <;> rfl), by repeat (first | (with_reducible first | exact HB.out | apply below_alloc | apply pw_below_drewN | apply below_drew1 | refine below_set ?_ GE283.out | refine below_set ?_ GE288.out) | exact HB.out)⟩
                                · rw [if_neg c119] at H
                                  have c119b0 : decide (t280 ≤ t290) = false := decide_eq_false c119
                                  clear c119
                                  exact absurd H (by simp)
                              · rw [if_neg c118] at H
                                have c118b0 : decide (t289 ≤ t281) = false := decide_eq_false c118
                                clear c118
                                exact absurd H (by simp)
                            · rw [if_neg c117] at H
                              have c117b0 : decide (t279 ≤ t289) = false := decide_eq_false c117
                              clear c117
                              exact absurd H (by simp)
                          · rw [if_neg c116] at H
                            have c116b0 : (t305 == 1) = false := beq_eq_false_iff_ne.mpr c116
                            have c116b1 : (t305 != 1) = true := bne_iff_ne.mpr c116
                            exact absurd H (by simp)
                        · rw [if_neg c114] at H
                          have c114b0 : ((t271 == (-1)) == true) = false := by simpa using c114
                          (try (have c114b1 : decide ((t271 == (-1)) = true) = false := by simpa using c114))
                          (try (have c114b2 : ((t271 == (-1)) == true) = false := by simpa using c114))
                          (try (have c114b3 : ¬ ((t271 == (-1)) = true) := by simpa using c114))
                          clear c114
                          exact absurd H (by simp)
                      · rw [if_neg c113] at H
                        have c113b0 : decide (t270 < 0) = false := decide_eq_false c113
                        clear c113
                        by_cases c123 : ((t271 == (-1)) == (decide (t270 > 255))) = true
                        · rw [if_pos c123] at H
                          have c123b0 : ((t271 == (-1)) == (decide (t270 > 255))) = true := c123
                          (try (have c123b1 : decide ((t271 == (-1)) = (decide (t270 > 255))) = true := by simpa using c123))
                          (try (have c123b2 : ((t271 == (-1)) == (decide (t270 > 255))) = true := by simpa using c123))
                          clear c123
                          replace H := Option.bind_eq_some_iff.mp H
                          obtain ⟨t306, A1240, H⟩ := H
                          replace H : (if t306 = 1 then (if t289 ≥ t279 then (if t289 ≤ t281 then (if t290 ≥ t280 then (some (decide (t290 ≤ t282))) else (some false)) else (some false)) else (some false)) else (some false)) = some true := H
                          have A124 := Aside0.mk A1240
                          clear A1240
                          by_cases c125 : t306 = 1
                          · rw [if_pos c125] at H
                            have c125b0 : (t306 == 1) = true := beq_iff_eq.mpr c125
                            have c125b1 : (t306 != 1) = false := bne_eq_false_iff_eq.mpr c125
                            clear c125
                            by_cases c126 : t289 ≥ t279
                            · rw [if_pos c126] at H
                              have c126b0 : decide (t279 ≤ t289) = true := decide_eq_true c126
                              clear c126
                              by_cases c127 : t289 ≤ t281
                              · rw [if_pos c127] at H
                                have c127b0 : decide (t289 ≤ t281) = true := decide_eq_true c127
                                clear c127
                                by_cases c128 : t290 ≥ t280
                                · rw [if_pos c128] at H
                                  have c128b0 : decide (t280 ≤ t290) = true := decide_eq_true c128
                                  clear c128
                                  have hrv_ : (decide (t290 ≤ t282)) = true := Option.some.inj H
                                  go_wp2_with (first | (go_at_call 91; (with_reducible refine (impl_Apart.calls kj44 (Int.tmod (wrap64 ((Int.tmod t277 65535) + 65535)) 65535) (wrap64 ((Int.tmod (wrap64 ((Int.tmod t277 65535) + 65535)) 65535) + 1)) t306 _ A124.out).mono ?_); rintro e w129 ⟨rfl, hb⟩; have n0_ := Aside0.mk (blk_below (g := gb283) (o := .cells #[.int .i64 t279, .int .i64 t280, .int .i64 t281, .int .i64 t282] 73 (0, 0)) (by (with_reducible repeat (first | refine blk_drewN ?_ _ | refine blk_drew ?_ | refine blk_alloc ?_ _)); exact BK283.out) hb); have n1_ := Aside0.mk (blk_below (g := gb288) (o := .cells #[.int .i64 t284, .int .i64 t285, .int .i64 t286, .int .i64 t287] 73 (0, 0)) (by (with_reducible repeat (first | refine blk_drewN ?_ _ | refine blk_drew ?_ | refine blk_alloc ?_ _)); exact BK288.out) hb); have n2_ := Aside0.mk (below_step (by repeat (first | (with_reducible first | exact HB.out | apply below_alloc | apply pw_below_drewN | apply below_drew1 | refine below_set ?_ GE283.out | refine below_set ?_ GE288.out) | exact HB.out)) hb); clear BK283; clear BK288; clear HB; have BK283 := n0_; have BK288 := n1_; have HB := n2_; clear n0_ n1_ n2_; (try clear hb); (try clear hb2); (try clear hk); (try clear hi); have hnb130 := NB283_288.out; have hnc130 := NB288_283.out; have hcz131_0 : w129.cell? ⟨gb283, 0, none⟩ = some (.int .i64 t279) := (blk_cell BK283.out 0).trans rfl; have hcz131_1 : w129.cell? ⟨gb283, 1, none⟩ = some (.int .i64 t280) := (blk_cell BK283.out 1).trans rfl; have hcz131_2 : w129.cell? ⟨gb283, 2, none⟩ = some (.int .i64 t281) := (blk_cell BK283.out 2).trans rfl; have hcz131_3 : w129.cell? ⟨gb283, 3, none⟩ = some (.int .i64 t282) := (blk_cell BK283.out 3).trans rfl; have hfz131_0 := blk_frozen BK283.out 0; have hfz131_1 := blk_frozen BK283.out 1; have hfz131_2 := blk_frozen BK283.out 2; have hfz131_3 := blk_frozen BK283.out 3))
                                  go_ret
                                  exact ⟨by first | rfl | (simp [errW_none, errW_some] <;> rfl) | (simp [*, errW_none, errW_some] <;> rfl), by repeat (first | (with_reducible first | exact HB.out | apply below_alloc | apply pw_below_drewN | apply below_drew1 | refine below_set ?_ GE283.out | refine below_set ?_ GE288.out) | exact HB.out)⟩
                                · rw [if_neg c128] at H
                                  have c128b0 : decide (t280 ≤ t290) = false := decide_eq_false c128
                                  clear c128
                                  exact absurd H (by simp)
                              · rw [if_neg c127] at H
                                have c127b0 : decide (t289 ≤ t281) = false := decide_eq_false c127
                                clear c127
                                exact absurd H (by simp)
                            · rw [if_neg c126] at H
                              have c126b0 : decide (t279 ≤ t289) = false := decide_eq_false c126
                              clear c126
                              exact absurd H (by simp)
                          · rw [if_neg c125] at H
                            have c125b0 : (t306 == 1) = false := beq_eq_false_iff_ne.mpr c125
                            have c125b1 : (t306 != 1) = true := bne_iff_ne.mpr c125
                            exact absurd H (by simp)
                        · rw [if_neg c123] at H
                          have c123b0 : ((t271 == (-1)) == (decide (t270 > 255))) = false := by simpa using c123
                          (try (have c123b1 : decide ((t271 == (-1)) = (decide (t270 > 255))) = false := by simpa using c123))
                          (try (have c123b2 : ((t271 == (-1)) == (decide (t270 > 255))) = false := by simpa using c123))
                          (try (have c123b3 : ¬ ((t271 == (-1)) = (decide (t270 > 255))) := by simpa using c123))
                          clear c123
                          exact absurd H (by simp)
              · rw [if_neg c50] at H
                have c50b0 : decide (0 ≤ t272) = false := decide_eq_false c50
                clear c50
                by_cases c132 : t269 < 0
                · rw [if_pos c132] at H
                  have c132b0 : decide (t269 < 0) = true := decide_eq_true c132
                  clear c132
                  by_cases c133 : ((t271 == (-1)) == true) = true
                  · rw [if_pos c133] at H
                    have c133b0 : ((t271 == (-1)) == true) = true := c133
                    (try (have c133b1 : decide ((t271 == (-1)) = true) = true := by simpa using c133))
                    (try (have c133b2 : ((t271 == (-1)) == true) = true := by simpa using c133))
                    clear c133
                    replace H := Option.bind_eq_some_iff.mp H
                    obtain ⟨t307, A1340, H⟩ := H
                    replace H : (if t307 = 1 then (if t289 ≥ t279 then (if t289 ≤ t281 then (if t290 ≥ t280 then (some (decide (t290 ≤ t282))) else (some false)) else (some false)) else (some false)) else (some false)) = some true := H
                    have A134 := Aside0.mk A1340
                    clear A1340
                    by_cases c135 : t307 = 1
                    · rw [if_pos c135] at H
                      have c135b0 : (t307 == 1) = true := beq_iff_eq.mpr c135
                      have c135b1 : (t307 != 1) = false := bne_eq_false_iff_eq.mpr c135
                      clear c135
                      by_cases c136 : t289 ≥ t279
                      · rw [if_pos c136] at H
                        have c136b0 : decide (t279 ≤ t289) = true := decide_eq_true c136
                        clear c136
                        by_cases c137 : t289 ≤ t281
                        · rw [if_pos c137] at H
                          have c137b0 : decide (t289 ≤ t281) = true := decide_eq_true c137
                          clear c137
                          by_cases c138 : t290 ≥ t280
                          · rw [if_pos c138] at H
                            have c138b0 : decide (t280 ≤ t290) = true := decide_eq_true c138
                            clear c138
                            have hrv_ : (decide (t290 ≤ t282)) = true := Option.some.inj H
                            go_wp2_with (first | (go_at_call 91; (with_reducible refine (impl_Apart.calls kj44 (Int.tmod (wrap64 ((Int.tmod t277 65535) + 65535)) 65535) (wrap64 ((Int.tmod (wrap64 ((Int.tmod t277 65535) + 65535)) 65535) + 1)) t307 _ A134.out).mono ?_); rintro e w139 ⟨rfl, hb⟩; have n0_ := Aside0.mk (blk_below (g := gb283) (o := .cells #[.int .i64 t279, .int .i64 t280, .int .i64 t281, .int .i64 t282] 73 (0, 0)) (by (with_reducible repeat (first | refine blk_drewN ?_ _ | refine blk_drew ?_ | refine blk_alloc ?_ _)); exact BK283.out) hb); have n1_ := Aside0.mk (blk_below (g := gb288) (o := .cells #[.int .i64 t284, .int .i64 t285, .int .i64 t286, .int .i64 t287] 73 (0, 0)) (by (with_reducible repeat (first | refine blk_drewN ?_ _ | refine blk_drew ?_ | refine blk_alloc ?_ _)); exact BK288.out) hb); have n2_ := Aside0.mk (below_step (by repeat (first | (with_reducible first | exact HB.out | apply below_alloc | apply pw_below_drewN | apply below_drew1 | refine below_set ?_ GE283.out | refine below_set ?_ GE288.out) | exact HB.out)) hb); clear BK283; clear BK288; clear HB; have BK283 := n0_; have BK288 := n1_; have HB := n2_; clear n0_ n1_ n2_; (try clear hb); (try clear hb2); (try clear hk); (try clear hi); have hnb140 := NB283_288.out; have hnc140 := NB288_283.out; have hcz141_0 : w139.cell? ⟨gb283, 0, none⟩ = some (.int .i64 t279) := (blk_cell BK283.out 0).trans rfl; have hcz141_1 : w139.cell? ⟨gb283, 1, none⟩ = some (.int .i64 t280) := (blk_cell BK283.out 1).trans rfl; have hcz141_2 : w139.cell? ⟨gb283, 2, none⟩ = some (.int .i64 t281) := (blk_cell BK283.out 2).trans rfl; have hcz141_3 : w139.cell? ⟨gb283, 3, none⟩ = some (.int .i64 t282) := (blk_cell BK283.out 3).trans rfl; have hfz141_0 := blk_frozen BK283.out 0; have hfz141_1 := blk_frozen BK283.out 1; have hfz141_2 := blk_frozen BK283.out 2; have hfz141_3 := blk_frozen BK283.out 3))
                            go_ret
                            exact ⟨by first | rfl | (simp [errW_none, errW_some] <;> rfl) | (simp [*, errW_none, errW_some] <;> rfl), by repeat (first | (with_reducible first | exact HB.out | apply below_alloc | apply pw_below_drewN | apply below_drew1 | refine below_set ?_ GE283.out | refine below_set ?_ GE288.out) | exact HB.out)⟩
                          · rw [if_neg c138] at H
                            have c138b0 : decide (t280 ≤ t290) = false := decide_eq_false c138
                            clear c138
                            exact absurd H (by simp)
                        · rw [if_neg c137] at H
                          have c137b0 : decide (t289 ≤ t281) = false := decide_eq_false c137
                          clear c137
                          exact absurd H (by simp)
                      · rw [if_neg c136] at H
                        have c136b0 : decide (t279 ≤ t289) = false := decide_eq_false c136
                        clear c136
                        exact absurd H (by simp)
                    · rw [if_neg c135] at H
                      have c135b0 : (t307 == 1) = false := beq_eq_false_iff_ne.mpr c135
                      have c135b1 : (t307 != 1) = true := bne_iff_ne.mpr c135
                      exact absurd H (by simp)
                  · rw [if_neg c133] at H
                    have c133b0 : ((t271 == (-1)) == true) = false := by simpa using c133
                    (try (have c133b1 : decide ((t271 == (-1)) = true) = false := by simpa using c133))
                    (try (have c133b2 : ((t271 == (-1)) == true) = false := by simpa using c133))
                    (try (have c133b3 : ¬ ((t271 == (-1)) = true) := by simpa using c133))
                    clear c133
                    exact absurd H (by simp)
                · rw [if_neg c132] at H
                  have c132b0 : decide (t269 < 0) = false := decide_eq_false c132
                  clear c132
                  by_cases c142 : t269 > 255
                  · rw [if_pos c142] at H
                    have c142b0 : decide (255 < t269) = true := decide_eq_true c142
                    clear c142
                    by_cases c143 : ((t271 == (-1)) == true) = true
                    · rw [if_pos c143] at H
                      have c143b0 : ((t271 == (-1)) == true) = true := c143
                      (try (have c143b1 : decide ((t271 == (-1)) = true) = true := by simpa using c143))
                      (try (have c143b2 : ((t271 == (-1)) == true) = true := by simpa using c143))
                      clear c143
                      replace H := Option.bind_eq_some_iff.mp H
                      obtain ⟨t308, A1440, H⟩ := H
                      replace H : (if t308 = 1 then (if t289 ≥ t279 then (if t289 ≤ t281 then (if t290 ≥ t280 then (some (decide (t290 ≤ t282))) else (some false)) else (some false)) else (some false)) else (some false)) = some true := H
                      have A144 := Aside0.mk A1440
                      clear A1440
                      by_cases c145 : t308 = 1
                      · rw [if_pos c145] at H
                        have c145b0 : (t308 == 1) = true := beq_iff_eq.mpr c145
                        have c145b1 : (t308 != 1) = false := bne_eq_false_iff_eq.mpr c145
                        clear c145
                        by_cases c146 : t289 ≥ t279
                        · rw [if_pos c146] at H
                          have c146b0 : decide (t279 ≤ t289) = true := decide_eq_true c146
                          clear c146
                          by_cases c147 : t289 ≤ t281
                          · rw [if_pos c147] at H
                            have c147b0 : decide (t289 ≤ t281) = true := decide_eq_true c147
                            clear c147
                            by_cases c148 : t290 ≥ t280
                            · rw [if_pos c148] at H
                              have c148b0 : decide (t280 ≤ t290) = true := decide_eq_true c148
                              clear c148
                              have hrv_ : (decide (t290 ≤ t282)) = true := Option.some.inj H
                              go_wp2_with (first | (go_at_call 91; (with_reducible refine (impl_Apart.calls kj44 (Int.tmod (wrap64 ((Int.tmod t277 65535) + 65535)) 65535) (wrap64 ((Int.tmod (wrap64 ((Int.tmod t277 65535) + 65535)) 65535) + 1)) t308 _ A144.out).mono ?_); rintro e w149 ⟨rfl, hb⟩; have n0_ := Aside0.mk (blk_below (g := gb283) (o := .cells #[.int .i64 t279, .int .i64 t280, .int .i64 t281, .int .i64 t282] 73 (0, 0)) (by (with_reducible repeat (first | refine blk_drewN ?_ _ | refine blk_drew ?_ | refine blk_alloc ?_ _)); exact BK283.out) hb); have n1_ := Aside0.mk (blk_below (g := gb288) (o := .cells #[.int .i64 t284, .int .i64 t285, .int .i64 t286, .int .i64 t287] 73 (0, 0)) (by (with_reducible repeat (first | refine blk_drewN ?_ _ | refine blk_drew ?_ | refine blk_alloc ?_ _)); exact BK288.out) hb); have n2_ := Aside0.mk (below_step (by repeat (first | (with_reducible first | exact HB.out | apply below_alloc | apply pw_below_drewN | apply below_drew1 | refine below_set ?_ GE283.out | refine below_set ?_ GE288.out) | exact HB.out)) hb); clear BK283; clear BK288; clear HB; have BK283 := n0_; have BK288 := n1_; have HB := n2_; clear n0_ n1_ n2_; (try clear hb); (try clear hb2); (try clear hk); (try clear hi); have hnb150 := NB283_288.out; have hnc150 := NB288_283.out; have hcz151_0 : w149.cell? ⟨gb283, 0, none⟩ = some (.int .i64 t279) := (blk_cell BK283.out 0).trans rfl; have hcz151_1 : w149.cell? ⟨gb283, 1, none⟩ = some (.int .i64 t280) := (blk_cell BK283.out 1).trans rfl; have hcz151_2 : w149.cell? ⟨gb283, 2, none⟩ = some (.int .i64 t281) := (blk_cell BK283.out 2).trans rfl; have hcz151_3 : w149.cell? ⟨gb283, 3, none⟩ = some (.int .i64 t282) := (blk_cell BK283.out 3).trans rfl; have hfz151_0 := blk_frozen BK283.out 0; have hfz151_1 := blk_frozen BK283.out 1; have hfz151_2 := blk_frozen BK283.out 2; have hfz151_3 := blk_frozen BK283.out 3))
                              go_ret
                              exact ⟨by first | rfl | (simp [errW_none, errW_some] <;> rfl) | (simp [*, errW_none, errW_some] <;> rfl), by repeat (first | (with_reducible first | exact HB.out | apply below_alloc | apply pw_below_drewN | apply below_drew1 | refine below_set ?_ GE283.out | refine below_set ?_ GE288.out) | exact HB.out)⟩
                            · rw [if_neg c148] at H
                              have c148b0 : decide (t280 ≤ t290) = false := decide_eq_false c148
                              clear c148
                              exact absurd H (by simp)
                          · rw [if_neg c147] at H
                            have c147b0 : decide (t289 ≤ t281) = false := decide_eq_false c147
                            clear c147
                            exact absurd H (by simp)
                        · rw [if_neg c146] at H
                          have c146b0 : decide (t279 ≤ t289) = false := decide_eq_false c146
                          clear c146
                          exact absurd H (by simp)
                      · rw [if_neg c145] at H
                        have c145b0 : (t308 == 1) = false := beq_eq_false_iff_ne.mpr c145
                        have c145b1 : (t308 != 1) = true := bne_iff_ne.mpr c145
                        exact absurd H (by simp)
                    · rw [if_neg c143] at H
                      have c143b0 : ((t271 == (-1)) == true) = false := by simpa using c143
                      (try (have c143b1 : decide ((t271 == (-1)) = true) = false := by simpa using c143))
                      (try (have c143b2 : ((t271 == (-1)) == true) = false := by simpa using c143))
                      (try (have c143b3 : ¬ ((t271 == (-1)) = true) := by simpa using c143))
                      clear c143
                      exact absurd H (by simp)
                  · rw [if_neg c142] at H
                    have c142b0 : decide (255 < t269) = false := decide_eq_false c142
                    clear c142
                    by_cases c152 : t270 < 0
                    · rw [if_pos c152] at H
                      have c152b0 : decide (t270 < 0) = true := decide_eq_true c152
                      clear c152
                      by_cases c153 : ((t271 == (-1)) == true) = true
                      · rw [if_pos c153] at H
                        have c153b0 : ((t271 == (-1)) == true) = true := c153
                        (try (have c153b1 : decide ((t271 == (-1)) = true) = true := by simpa using c153))
                        (try (have c153b2 : ((t271 == (-1)) == true) = true := by simpa using c153))
                        clear c153
                        replace H := Option.bind_eq_some_iff.mp H
                        obtain ⟨t309, A1540, H⟩ := H
                        replace H : (if t309 = 1 then (if t289 ≥ t279 then (if t289 ≤ t281 then (if t290 ≥ t280 then (some (decide (t290 ≤ t282))) else (some false)) else (some false)) else (some false)) else (some false)) = some true := H
                        have A154 := Aside0.mk A1540
                        clear A1540
                        by_cases c155 : t309 = 1
                        · rw [if_pos c155] at H
                          have c155b0 : (t309 == 1) = true := beq_iff_eq.mpr c155
                          have c155b1 : (t309 != 1) = false := bne_eq_false_iff_eq.mpr c155
                          clear c155
                          by_cases c156 : t289 ≥ t279
                          · rw [if_pos c156] at H
                            have c156b0 : decide (t279 ≤ t289) = true := decide_eq_true c156
                            clear c156
                            by_cases c157 : t289 ≤ t281
                            · rw [if_pos c157] at H
                              have c157b0 : decide (t289 ≤ t281) = true := decide_eq_true c157
                              clear c157
                              by_cases c158 : t290 ≥ t280
                              · rw [if_pos c158] at H
                                have c158b0 : decide (t280 ≤ t290) = true := decide_eq_true c158
                                clear c158
                                have hrv_ : (decide (t290 ≤ t282)) = true := Option.some.inj H
                                go_wp2_with (first | (go_at_call 91; (with_reducible refine (impl_Apart.calls kj44 (Int.tmod (wrap64 ((Int.tmod t277 65535) + 65535)) 65535) (wrap64 ((Int.tmod (wrap64 ((Int.tmod t277 65535) + 65535)) 65535) + 1)) t309 _ A154.out).mono ?_); rintro e w159 ⟨rfl, hb⟩; have n0_ := Aside0.mk (blk_below (g := gb283) (o := .cells #[.int .i64 t279, .int .i64 t280, .int .i64 t281, .int .i64 t282] 73 (0, 0)) (by (with_reducible repeat (first | refine blk_drewN ?_ _ | refine blk_drew ?_ | refine blk_alloc ?_ _)); exact BK283.out) hb); have n1_ := Aside0.mk (blk_below (g := gb288) (o := .cells #[.int .i64 t284, .int .i64 t285, .int .i64 t286, .int .i64 t287] 73 (0, 0)) (by (with_reducible repeat (first | refine blk_drewN ?_ _ | refine blk_drew ?_ | refine blk_alloc ?_ _)); exact BK288.out) hb); have n2_ := Aside0.mk (below_step (by repeat (first | (with_reducible first | exact HB.out | apply below_alloc | apply pw_below_drewN | apply below_drew1 | refine below_set ?_ GE283.out | refine below_set ?_ GE288.out) | exact HB.out)) hb); clear BK283; clear BK288; clear HB; have BK283 := n0_; have BK288 := n1_; have HB := n2_; clear n0_ n1_ n2_; (try clear hb); (try clear hb2); (try clear hk); (try clear hi); have hnb160 := NB283_288.out; have hnc160 := NB288_283.out; have hcz161_0 : w159.cell? ⟨gb283, 0, none⟩ = some (.int .i64 t279) := (blk_cell BK283.out 0).trans rfl; have hcz161_1 : w159.cell? ⟨gb283, 1, none⟩ = some (.int .i64 t280) := (blk_cell BK283.out 1).trans rfl; have hcz161_2 : w159.cell? ⟨gb283, 2, none⟩ = some (.int .i64 t281) := (blk_cell BK283.out 2).trans rfl; have hcz161_3 : w159.cell? ⟨gb283, 3, none⟩ = some (.int .i64 t282) := (blk_cell BK283.out 3).trans rfl; have hfz161_0 := blk_frozen BK283.out 0; have hfz161_1 := blk_frozen BK283.out 1; have hfz161_2 := blk_frozen BK283.out 2; have hfz161_3 := blk_frozen BK283.out 3))
                                go_ret
                                exact ⟨by first | rfl | (simp [errW_none, errW_some] <;> rfl) | (simp [*, errW_none, errW_some] <;> rfl), by repeat (first | (with_reducible first | exact HB.out | apply below_alloc | apply pw_below_drewN | apply below_drew1 | refine below_set ?_ GE283.out | refine below_set ?_ GE288.out) | exact HB.out)⟩
                              · rw [if_neg c158] at H
                                have c158b0 : decide (t280 ≤ t290) = false := decide_eq_false c158
                                clear c158
                                exact absurd H (by simp)
                            · rw [if_neg c157] at H
                              have c157b0 : decide (t289 ≤ t281) = false := decide_eq_false c157
                              clear c157
                              exact absurd H (by simp)
                          · rw [if_neg c156] at H
                            have c156b0 : decide (t279 ≤ t289) = false := decide_eq_false c156
                            clear c156
                            exact absurd H (by simp)
                        · rw [if_neg c155] at H
                          have c155b0 : (t309 == 1) = false := beq_eq_false_iff_ne.mpr c155
                          have c155b1 : (t309 != 1) = true := bne_iff_ne.mpr c155
                          exact absurd H (by simp)
                      · rw [if_neg c153] at H
                        have c153b0 : ((t271 == (-1)) == true) = false := by simpa using c153
                        (try (have c153b1 : decide ((t271 == (-1)) = true) = false := by simpa using c153))
                        (try (have c153b2 : ((t271 == (-1)) == true) = false := by simpa using c153))
                        (try (have c153b3 : ¬ ((t271 == (-1)) = true) := by simpa using c153))
                        clear c153
                        exact absurd H (by simp)
                    · rw [if_neg c152] at H
                      have c152b0 : decide (t270 < 0) = false := decide_eq_false c152
                      clear c152
                      by_cases c162 : ((t271 == (-1)) == (decide (t270 > 255))) = true
                      · rw [if_pos c162] at H
                        have c162b0 : ((t271 == (-1)) == (decide (t270 > 255))) = true := c162
                        (try (have c162b1 : decide ((t271 == (-1)) = (decide (t270 > 255))) = true := by simpa using c162))
                        (try (have c162b2 : ((t271 == (-1)) == (decide (t270 > 255))) = true := by simpa using c162))
                        clear c162
                        replace H := Option.bind_eq_some_iff.mp H
                        obtain ⟨t310, A1630, H⟩ := H
                        replace H : (if t310 = 1 then (if t289 ≥ t279 then (if t289 ≤ t281 then (if t290 ≥ t280 then (some (decide (t290 ≤ t282))) else (some false)) else (some false)) else (some false)) else (some false)) = some true := H
                        have A163 := Aside0.mk A1630
                        clear A1630
                        by_cases c164 : t310 = 1
                        · rw [if_pos c164] at H
                          have c164b0 : (t310 == 1) = true := beq_iff_eq.mpr c164
                          have c164b1 : (t310 != 1) = false := bne_eq_false_iff_eq.mpr c164
                          clear c164
                          by_cases c165 : t289 ≥ t279
                          · rw [if_pos c165] at H
                            have c165b0 : decide (t279 ≤ t289) = true := decide_eq_true c165
                            clear c165
                            by_cases c166 : t289 ≤ t281
                            · rw [if_pos c166] at H
                              have c166b0 : decide (t289 ≤ t281) = true := decide_eq_true c166
                              clear c166
                              by_cases c167 : t290 ≥ t280
                              · rw [if_pos c167] at H
                                have c167b0 : decide (t280 ≤ t290) = true := decide_eq_true c167
                                clear c167
                                have hrv_ : (decide (t290 ≤ t282)) = true := Option.some.inj H
                                go_wp2_with (first | (go_at_call 91; (with_reducible refine (impl_Apart.calls kj44 (Int.tmod (wrap64 ((Int.tmod t277 65535) + 65535)) 65535) (wrap64 ((Int.tmod (wrap64 ((Int.tmod t277 65535) + 65535)) 65535) + 1)) t310 _ A163.out).mono ?_); rintro e w168 ⟨rfl, hb⟩; have n0_ := Aside0.mk (blk_below (g := gb283) (o := .cells #[.int .i64 t279, .int .i64 t280, .int .i64 t281, .int .i64 t282] 73 (0, 0)) (by (with_reducible repeat (first | refine blk_drewN ?_ _ | refine blk_drew ?_ | refine blk_alloc ?_ _)); exact BK283.out) hb); have n1_ := Aside0.mk (blk_below (g := gb288) (o := .cells #[.int .i64 t284, .int .i64 t285, .int .i64 t286, .int .i64 t287] 73 (0, 0)) (by (with_reducible repeat (first | refine blk_drewN ?_ _ | refine blk_drew ?_ | refine blk_alloc ?_ _)); exact BK288.out) hb); have n2_ := Aside0.mk (below_step (by repeat (first | (with_reducible first | exact HB.out | apply below_alloc | apply pw_below_drewN | apply below_drew1 | refine below_set ?_ GE283.out | refine below_set ?_ GE288.out) | exact HB.out)) hb); clear BK283; clear BK288; clear HB; have BK283 := n0_; have BK288 := n1_; have HB := n2_; clear n0_ n1_ n2_; (try clear hb); (try clear hb2); (try clear hk); (try clear hi); have hnb169 := NB283_288.out; have hnc169 := NB288_283.out; have hcz170_0 : w168.cell? ⟨gb283, 0, none⟩ = some (.int .i64 t279) := (blk_cell BK283.out 0).trans rfl; have hcz170_1 : w168.cell? ⟨gb283, 1, none⟩ = some (.int .i64 t280) := (blk_cell BK283.out 1).trans rfl; have hcz170_2 : w168.cell? ⟨gb283, 2, none⟩ = some (.int .i64 t281) := (blk_cell BK283.out 2).trans rfl; have hcz170_3 : w168.cell? ⟨gb283, 3, none⟩ = some (.int .i64 t282) := (blk_cell BK283.out 3).trans rfl; have hfz170_0 := blk_frozen BK283.out 0; have hfz170_1 := blk_frozen BK283.out 1; have hfz170_2 := blk_frozen BK283.out 2; have hfz170_3 := blk_frozen BK283.out 3))
                                go_ret
                                exact ⟨by first | rfl | (simp [errW_none, errW_some] <;> rfl) | (simp [*, errW_none, errW_some] <;> rfl), by repeat (first | (with_reducible first | exact HB.out | apply below_alloc | apply pw_below_drewN | apply below_drew1 | refine below_set ?_ GE283.out | refine below_set ?_ GE288.out) | exact HB.out)⟩
                              · rw [if_neg c167] at H
                                have c167b0 : decide (t280 ≤ t290) = false := decide_eq_false c167
                                clear c167
                                exact absurd H (by simp)
                            · rw [if_neg c166] at H
                              have c166b0 : decide (t289 ≤ t281) = false := decide_eq_false c166
                              clear c166
                              exact absurd H (by simp)
                          · rw [if_neg c165] at H
                            have c165b0 : decide (t279 ≤ t289) = false := decide_eq_false c165
                            clear c165
                            exact absurd H (by simp)
                        · rw [if_neg c164] at H
                          have c164b0 : (t310 == 1) = false := beq_eq_false_iff_ne.mpr c164
                          have c164b1 : (t310 != 1) = true := bne_iff_ne.mpr c164
                          exact absurd H (by simp)
                      · rw [if_neg c162] at H
                        have c162b0 : ((t271 == (-1)) == (decide (t270 > 255))) = false := by simpa using c162
                        (try (have c162b1 : decide ((t271 == (-1)) = (decide (t270 > 255))) = false := by simpa using c162))
                        (try (have c162b2 : ((t271 == (-1)) == (decide (t270 > 255))) = false := by simpa using c162))
                        (try (have c162b3 : ¬ ((t271 == (-1)) = (decide (t270 > 255))) := by simpa using c162))
                        clear c162
                        exact absurd H (by simp)

/-- THE ONE PURE STATEMENT of laws_FnCurves: yours. -/
def laws_FnCurves.Pure : Prop := ∀ (l0 : List Int), l0.length ≤ maxLen → l0.length * 1 ≤ 140737488351232 → (∀ x ∈ l0, (Lit.int .u8 x).wf = true) → ∃ k, laws_FnCurves.f k l0 = some true
theorem laws_FnCurves.walk (P : laws_FnCurves.Pure) (a0 : Option Addr) (len0 cap0 : Nat) (z0 : List Int) (w : World) (w0 : (a0 = none ∧ len0 = 0 ∧ cap0 = 0 ∧ z0 = []) ∨ ∃ x, a0 = some x ∧ len0 ≤ cap0 ∧ cap0 ≤ maxLen ∧ z0.length = cap0 ∧ (∀ i, i < z0.length → w.cell? (x.add i) = some (.int .u8 (z0.getD i 0))) ∧ ∀ n ∈ z0, (Lit.int .u8 n).wf = true) (y0 : len0 * 1 ≤ 140737488351232) :
    Calls Try.prog 14 #[.slice a0 len0 cap0] w fun e w' => e = .returned (.bool true) ∧ Below w.heap.size w w' := by
  obtain ⟨l0, rfl, hr0, hm0, hw0, hc0⟩ := ReadsInt.ofRowC w0
  obtain ⟨k, h⟩ := P l0 hm0 y0 hw0
  refine (laws_FnCurves.calls k _ _ l0 true w (Kd.C_of_reads (d := (0 : Int)) (h1 := fun _ => rfl) hr0) hc0 h).mono ?_
  rintro e w' ⟨rfl, hd⟩
  exact ⟨rfl, hd⟩

end Go.Proofs.Ytjmgomailgplcaa.PFnCurves
