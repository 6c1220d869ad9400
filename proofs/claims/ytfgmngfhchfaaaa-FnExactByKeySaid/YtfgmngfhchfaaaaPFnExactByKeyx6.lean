-- Written by a program of this session; Lean checks it.
import Derived.Test.YtfgmngfhchfaaaaPFnExactByKeyx0
import Derived.Test.YtfgmngfhchfaaaaPFnExactByKeyx3
import Derived.Test.YtfgmngfhchfaaaaPFnExactByKeyx4
import Derived.Test.YtfgmngfhchfaaaaPFnExactByKeyx5
namespace Go.Proofs.Ytfgmngfhchfaaaa.PFnExactByKey
open Go.RowKit Go.Proofs.YtfgmngfhchfaaaaW.PrintWords Go.Proofs.YtfgmngfhchfaaaaW.PrintLast Go.Proofs.YtfgmngfhchfaaaaW.PrintMore
attribute [local go_sem] max2_int min2_int max_two min_two max_three min_three max_four min_four   -- for this text's walks alone
set_option linter.unusedVariables false
set_option linter.unusedSimpArgs false

/-! ### impl_Item_80: function 80 -/
mutual
def impl_Item_80.l0 : Nat → List (S55) → Int → Int → Int → Option ((List (S55)))
 | 0, _, _, _, _ => none
 | k + 1, x0, x1, x10, x11 => if x10 < x11 then (if 0 ≤ (wrap64 ((IntKind.u64.wrap (wrap64 (x10 + x11))) / 2)) then (if (wrap64 ((IntKind.u64.wrap (wrap64 (x10 + x11))) / 2)) < (x0.length : Int) then (if 0 ≤ x1 then (if x1 < (x0.length : Int) then ((impl_order.f k ((rd_T55 x0 (wrap64 ((IntKind.u64.wrap (wrap64 (x10 + x11))) / 2))).f0) ((rd_T55 x0 (wrap64 ((IntKind.u64.wrap (wrap64 (x10 + x11))) / 2))).f1.f0) ((rd_T55 x0 (wrap64 ((IntKind.u64.wrap (wrap64 (x10 + x11))) / 2))).f1.f1) ((rd_T55 x0 (wrap64 ((IntKind.u64.wrap (wrap64 (x10 + x11))) / 2))).f1.f2) ((rd_T55 x0 (wrap64 ((IntKind.u64.wrap (wrap64 (x10 + x11))) / 2))).f1.f3) ((rd_T55 x0 x1).f0) ((rd_T55 x0 x1).f1.f0) ((rd_T55 x0 x1).f1.f1) ((rd_T55 x0 x1).f1.f2) ((rd_T55 x0 x1).f1.f3)).bind fun t212 => (if t212 < 0 then (impl_Item_80.l0 k x0 x1 (wrap64 ((wrap64 ((IntKind.u64.wrap (wrap64 (x10 + x11))) / 2)) + 1)) x11) else (impl_Item_80.l0 k x0 x1 x10 (wrap64 ((IntKind.u64.wrap (wrap64 (x10 + x11))) / 2))))) else (none)) else (none)) else (none)) else (none)) else (impl_Item_80.l1 k x0 x10 x1)
def impl_Item_80.l1 : Nat → List (S55) → Int → Int → Option ((List (S55)))
 | 0, _, _, _ => none
 | k + 1, x0, x10, x13 => if x13 < (wrap64 (x10 - 1)) then (if 0 ≤ (wrap64 (x13 + 1)) then (if (wrap64 (x13 + 1)) < (x0.length : Int) then (if 0 ≤ x13 then (if x13 < (x0.length : Int) then (if x13 = (wrap64 (x13 + 1)) then none else (impl_Item_80.l1 k ((x0.set (x13 : Int).toNat (⟨(rd_T55 x0 (wrap64 (x13 + 1))).f0, (⟨(rd_T55 x0 (wrap64 (x13 + 1))).f1.f0, (rd_T55 x0 (wrap64 (x13 + 1))).f1.f1, (rd_T55 x0 (wrap64 (x13 + 1))).f1.f2, (rd_T55 x0 (wrap64 (x13 + 1))).f1.f3⟩ : S41)⟩ : S55)).set ((wrap64 (x13 + 1)) : Int).toNat (⟨(rd_T55 x0 x13).f0, (⟨(rd_T55 x0 x13).f1.f0, (rd_T55 x0 x13).f1.f1, (rd_T55 x0 x13).f1.f2, (rd_T55 x0 x13).f1.f3⟩ : S41)⟩ : S55)) x10 (wrap64 (x13 + 1)))) else (none)) else (none)) else (none)) else (none)) else (some x0)
def impl_Item_80.l2 : Nat → List (S55) → Int → Int → Int → Option ((List (S55)))
 | 0, _, _, _, _ => none
 | k + 1, x0, x2, x14, x15 => if x14 < x15 then (if 0 ≤ x2 then (if x2 < (x0.length : Int) then (if 0 ≤ (wrap64 ((IntKind.u64.wrap (wrap64 (x14 + x15))) / 2)) then (if (wrap64 ((IntKind.u64.wrap (wrap64 (x14 + x15))) / 2)) < (x0.length : Int) then ((impl_order.f k ((rd_T55 x0 x2).f0) ((rd_T55 x0 x2).f1.f0) ((rd_T55 x0 x2).f1.f1) ((rd_T55 x0 x2).f1.f2) ((rd_T55 x0 x2).f1.f3) ((rd_T55 x0 (wrap64 ((IntKind.u64.wrap (wrap64 (x14 + x15))) / 2))).f0) ((rd_T55 x0 (wrap64 ((IntKind.u64.wrap (wrap64 (x14 + x15))) / 2))).f1.f0) ((rd_T55 x0 (wrap64 ((IntKind.u64.wrap (wrap64 (x14 + x15))) / 2))).f1.f1) ((rd_T55 x0 (wrap64 ((IntKind.u64.wrap (wrap64 (x14 + x15))) / 2))).f1.f2) ((rd_T55 x0 (wrap64 ((IntKind.u64.wrap (wrap64 (x14 + x15))) / 2))).f1.f3)).bind fun t219 => (if t219 < 0 then (impl_Item_80.l2 k x0 x2 x14 (wrap64 ((IntKind.u64.wrap (wrap64 (x14 + x15))) / 2))) else (impl_Item_80.l2 k x0 x2 (wrap64 ((wrap64 ((IntKind.u64.wrap (wrap64 (x14 + x15))) / 2)) + 1)) x15))) else (none)) else (none)) else (none)) else (none)) else (impl_Item_80.l3 k x0 x14 x2)
def impl_Item_80.l3 : Nat → List (S55) → Int → Int → Option ((List (S55)))
 | 0, _, _, _ => none
 | k + 1, x0, x14, x17 => if x17 > x14 then (if 0 ≤ (wrap64 (x17 - 1)) then (if (wrap64 (x17 - 1)) < (x0.length : Int) then (if 0 ≤ x17 then (if x17 < (x0.length : Int) then (if x17 = (wrap64 (x17 - 1)) then none else (impl_Item_80.l3 k ((x0.set (x17 : Int).toNat (⟨(rd_T55 x0 (wrap64 (x17 - 1))).f0, (⟨(rd_T55 x0 (wrap64 (x17 - 1))).f1.f0, (rd_T55 x0 (wrap64 (x17 - 1))).f1.f1, (rd_T55 x0 (wrap64 (x17 - 1))).f1.f2, (rd_T55 x0 (wrap64 (x17 - 1))).f1.f3⟩ : S41)⟩ : S55)).set ((wrap64 (x17 - 1)) : Int).toNat (⟨(rd_T55 x0 x17).f0, (⟨(rd_T55 x0 x17).f1.f0, (rd_T55 x0 x17).f1.f1, (rd_T55 x0 x17).f1.f2, (rd_T55 x0 x17).f1.f3⟩ : S41)⟩ : S55)) x14 (wrap64 (x17 - 1)))) else (none)) else (none)) else (none)) else (none)) else (some x0)
def impl_Item_80.j4 : Nat → List (S55) → Int → Int → Int → Int → Int → Int → Int → Option ((List (S55)))
 | 0, _, _, _, _, _, _, _, _ => none
 | k + 1, x0, x1, x2, x3, x18, x19, x20, x21 => impl_Item_80.l4 k x0 x1 x2 x3 x18 x19 x20 x21 (wrap64 (x19 - 1))
def impl_Item_80.l4 : Nat → List (S55) → Int → Int → Int → Int → Int → Int → Int → Int → Option ((List (S55)))
 | 0, _, _, _, _, _, _, _, _, _ => none
 | k + 1, x0, x1, x2, x3, x18, x19, x20, x21, x22 => if x20 < x21 then (if 0 ≤ (wrap64 (x22 - (wrap64 ((IntKind.u64.wrap (wrap64 (x20 + x21))) / 2)))) then (if (wrap64 (x22 - (wrap64 ((IntKind.u64.wrap (wrap64 (x20 + x21))) / 2)))) < (x0.length : Int) then (if 0 ≤ (wrap64 ((IntKind.u64.wrap (wrap64 (x20 + x21))) / 2)) then (if (wrap64 ((IntKind.u64.wrap (wrap64 (x20 + x21))) / 2)) < (x0.length : Int) then ((impl_order.f k ((rd_T55 x0 (wrap64 (x22 - (wrap64 ((IntKind.u64.wrap (wrap64 (x20 + x21))) / 2))))).f0) ((rd_T55 x0 (wrap64 (x22 - (wrap64 ((IntKind.u64.wrap (wrap64 (x20 + x21))) / 2))))).f1.f0) ((rd_T55 x0 (wrap64 (x22 - (wrap64 ((IntKind.u64.wrap (wrap64 (x20 + x21))) / 2))))).f1.f1) ((rd_T55 x0 (wrap64 (x22 - (wrap64 ((IntKind.u64.wrap (wrap64 (x20 + x21))) / 2))))).f1.f2) ((rd_T55 x0 (wrap64 (x22 - (wrap64 ((IntKind.u64.wrap (wrap64 (x20 + x21))) / 2))))).f1.f3) ((rd_T55 x0 (wrap64 ((IntKind.u64.wrap (wrap64 (x20 + x21))) / 2))).f0) ((rd_T55 x0 (wrap64 ((IntKind.u64.wrap (wrap64 (x20 + x21))) / 2))).f1.f0) ((rd_T55 x0 (wrap64 ((IntKind.u64.wrap (wrap64 (x20 + x21))) / 2))).f1.f1) ((rd_T55 x0 (wrap64 ((IntKind.u64.wrap (wrap64 (x20 + x21))) / 2))).f1.f2) ((rd_T55 x0 (wrap64 ((IntKind.u64.wrap (wrap64 (x20 + x21))) / 2))).f1.f3)).bind fun t226 => (if t226 < 0 then (impl_Item_80.l4 k x0 x1 x2 x3 x18 x19 x20 (wrap64 ((IntKind.u64.wrap (wrap64 (x20 + x21))) / 2)) x22) else (impl_Item_80.l4 k x0 x1 x2 x3 x18 x19 (wrap64 ((wrap64 ((IntKind.u64.wrap (wrap64 (x20 + x21))) / 2)) + 1)) x21 x22))) else (none)) else (none)) else (none)) else (none)) else (if x20 < x2 then (impl_Item_80.j6 k x0 x1 x2 x3 x18 x20 (wrap64 (x19 - x20)) (decide (x2 < (wrap64 (x19 - x20))))) else (impl_Item_80.j6 k x0 x1 x2 x3 x18 x20 (wrap64 (x19 - x20)) false))
def impl_Item_80.j6 : Nat → List (S55) → Int → Int → Int → Int → Int → Int → Bool → Option ((List (S55)))
 | 0, _, _, _, _, _, _, _, _ => none
 | k + 1, x0, x1, x2, x3, x18, x20, x24, x185 => if x185 = true then ((impl_Item_86.f k x0 x20 x2 x24).bind fun t227 => (impl_Item_80.j7 k t227 x1 x3 x18 x20 x24)) else (impl_Item_80.j7 k x0 x1 x3 x18 x20 x24)
def impl_Item_80.j7 : Nat → List (S55) → Int → Int → Int → Int → Int → Option ((List (S55)))
 | 0, _, _, _, _, _, _ => none
 | k + 1, x0, x1, x3, x18, x20, x24 => if x1 < x20 then (impl_Item_80.j8 k x0 x1 x3 x18 x20 x24 (decide (x20 < x18))) else (impl_Item_80.j8 k x0 x1 x3 x18 x20 x24 false)
def impl_Item_80.j8 : Nat → List (S55) → Int → Int → Int → Int → Int → Bool → Option ((List (S55)))
 | 0, _, _, _, _, _, _, _ => none
 | k + 1, x0, x1, x3, x18, x20, x24, x199 => if x199 = true then ((impl_Item_80.f k x0 x1 x20 x18).bind fun t228 => (if x18 < x24 then (if x24 < x3 then ((impl_Item_80.f k t228 x18 x24 x3).bind fun t229 => (some t229)) else (some t228)) else (some t228))) else (if x18 < x24 then (if x24 < x3 then ((impl_Item_80.f k x0 x18 x24 x3).bind fun t230 => (some t230)) else (some x0)) else (some x0))
def impl_Item_80.f : Nat → List (S55) → Int → Int → Int → Option ((List (S55)))
 | 0, _, _, _, _ => none
 | k + 1, l0, a1, a2, a3 => if (wrap64 (a2 - a1)) = 1 then (impl_Item_80.l0 k l0 a1 a2 a3) else (if (wrap64 (a3 - a2)) = 1 then (impl_Item_80.l2 k l0 a2 a1 a2) else (if a2 > (wrap64 ((IntKind.u64.wrap (wrap64 (a1 + a3))) / 2)) then (impl_Item_80.j4 k l0 a1 a2 a3 (wrap64 ((IntKind.u64.wrap (wrap64 (a1 + a3))) / 2)) (wrap64 ((wrap64 ((IntKind.u64.wrap (wrap64 (a1 + a3))) / 2)) + a2)) (wrap64 ((wrap64 ((wrap64 ((IntKind.u64.wrap (wrap64 (a1 + a3))) / 2)) + a2)) - a3)) (wrap64 ((IntKind.u64.wrap (wrap64 (a1 + a3))) / 2))) else (impl_Item_80.j4 k l0 a1 a2 a3 (wrap64 ((IntKind.u64.wrap (wrap64 (a1 + a3))) / 2)) (wrap64 ((wrap64 ((IntKind.u64.wrap (wrap64 (a1 + a3))) / 2)) + a2)) a1 a2)))
end
theorem impl_Item_80.mono_l : ∀ k, (∀ y0 y1 y2 y3, LeO (impl_Item_80.f k y0 y1 y2 y3) (impl_Item_80.f (k + 1) y0 y1 y2 y3)) ∧ (∀ y0 y1 y2 y3, LeO (impl_Item_80.l0 k y0 y1 y2 y3) (impl_Item_80.l0 (k + 1) y0 y1 y2 y3)) ∧ (∀ y0 y1 y2, LeO (impl_Item_80.l1 k y0 y1 y2) (impl_Item_80.l1 (k + 1) y0 y1 y2)) ∧ (∀ y0 y1 y2 y3, LeO (impl_Item_80.l2 k y0 y1 y2 y3) (impl_Item_80.l2 (k + 1) y0 y1 y2 y3)) ∧ (∀ y0 y1 y2, LeO (impl_Item_80.l3 k y0 y1 y2) (impl_Item_80.l3 (k + 1) y0 y1 y2)) ∧ (∀ y0 y1 y2 y3 y4 y5 y6 y7, LeO (impl_Item_80.j4 k y0 y1 y2 y3 y4 y5 y6 y7) (impl_Item_80.j4 (k + 1) y0 y1 y2 y3 y4 y5 y6 y7)) ∧ (∀ y0 y1 y2 y3 y4 y5 y6 y7 y8, LeO (impl_Item_80.l4 k y0 y1 y2 y3 y4 y5 y6 y7 y8) (impl_Item_80.l4 (k + 1) y0 y1 y2 y3 y4 y5 y6 y7 y8)) ∧ (∀ y0 y1 y2 y3 y4 y5 y6 y7, LeO (impl_Item_80.j6 k y0 y1 y2 y3 y4 y5 y6 y7) (impl_Item_80.j6 (k + 1) y0 y1 y2 y3 y4 y5 y6 y7)) ∧ (∀ y0 y1 y2 y3 y4 y5, LeO (impl_Item_80.j7 k y0 y1 y2 y3 y4 y5) (impl_Item_80.j7 (k + 1) y0 y1 y2 y3 y4 y5)) ∧ (∀ y0 y1 y2 y3 y4 y5 y6, LeO (impl_Item_80.j8 k y0 y1 y2 y3 y4 y5 y6) (impl_Item_80.j8 (k + 1) y0 y1 y2 y3 y4 y5 y6))
 | 0 => ⟨fun _ _ _ _ r h => by simp [impl_Item_80.f] at h, fun _ _ _ _ r h => by simp [impl_Item_80.l0] at h, fun _ _ _ r h => by simp [impl_Item_80.l1] at h, fun _ _ _ _ r h => by simp [impl_Item_80.l2] at h, fun _ _ _ r h => by simp [impl_Item_80.l3] at h, fun _ _ _ _ _ _ _ _ r h => by simp [impl_Item_80.j4] at h, fun _ _ _ _ _ _ _ _ _ r h => by simp [impl_Item_80.l4] at h, fun _ _ _ _ _ _ _ _ r h => by simp [impl_Item_80.j6] at h, fun _ _ _ _ _ _ r h => by simp [impl_Item_80.j7] at h, fun _ _ _ _ _ _ _ r h => by simp [impl_Item_80.j8] at h⟩
 | k + 1 => by
  obtain ⟨ih0, ih1, ih2, ih3, ih4, ih5, ih6, ih7, ih8, ih9⟩ := impl_Item_80.mono_l k
  refine ⟨?_, ?_, ?_, ?_, ?_, ?_, ?_, ?_, ?_, ?_⟩
  ·intro y0 y1 y2 y3
   unfold impl_Item_80.f
   repeat' first
   | (with_reducible exact ih0 _ _ _ _)
   | (with_reducible exact ih1 _ _ _ _)
   | (with_reducible exact ih2 _ _ _)
   | (with_reducible exact ih3 _ _ _ _)
   | (with_reducible exact ih4 _ _ _)
   | (with_reducible exact ih5 _ _ _ _ _ _ _ _)
   | (with_reducible exact ih6 _ _ _ _ _ _ _ _ _)
   | (with_reducible exact ih7 _ _ _ _ _ _ _ _)
   | (with_reducible exact ih8 _ _ _ _ _ _)
   | (with_reducible exact ih9 _ _ _ _ _ _ _)
   | (with_reducible exact impl_Item_86.mono _ _ _ _ _)
   | (with_reducible exact impl_order.mono _ _ _ _ _ _ _ _ _ _ _)
   | (with_reducible exact LeO.refl _)
   | (with_reducible exact LeO.none _)
   | (with_reducible refine LeO.ite ?_ ?_)
   | (with_reducible refine LeO.bind ?_ (fun _ => ?_))
   | exact ih0 _ _ _ _
   | exact ih1 _ _ _ _
   | exact ih2 _ _ _
   | exact ih3 _ _ _ _
   | exact ih4 _ _ _
   | exact ih5 _ _ _ _ _ _ _ _
   | exact ih6 _ _ _ _ _ _ _ _ _
   | exact ih7 _ _ _ _ _ _ _ _
   | exact ih8 _ _ _ _ _ _
   | exact ih9 _ _ _ _ _ _ _
   | exact impl_Item_86.mono _ _ _ _ _
   | exact impl_order.mono _ _ _ _ _ _ _ _ _ _ _
   | exact LeO.none _
   | refine LeO.ite ?_ ?_
   | refine LeO.bind ?_ (fun _ => ?_)
  ·intro y0 y1 y2 y3
   unfold impl_Item_80.l0
   repeat' first
   | (with_reducible exact ih0 _ _ _ _)
   | (with_reducible exact ih1 _ _ _ _)
   | (with_reducible exact ih2 _ _ _)
   | (with_reducible exact ih3 _ _ _ _)
   | (with_reducible exact ih4 _ _ _)
   | (with_reducible exact ih5 _ _ _ _ _ _ _ _)
   | (with_reducible exact ih6 _ _ _ _ _ _ _ _ _)
   | (with_reducible exact ih7 _ _ _ _ _ _ _ _)
   | (with_reducible exact ih8 _ _ _ _ _ _)
   | (with_reducible exact ih9 _ _ _ _ _ _ _)
   | (with_reducible exact impl_Item_86.mono _ _ _ _ _)
   | (with_reducible exact impl_order.mono _ _ _ _ _ _ _ _ _ _ _)
   | (with_reducible exact LeO.refl _)
   | (with_reducible exact LeO.none _)
   | (with_reducible refine LeO.ite ?_ ?_)
   | (with_reducible refine LeO.bind ?_ (fun _ => ?_))
   | exact ih0 _ _ _ _
   | exact ih1 _ _ _ _
   | exact ih2 _ _ _
   | exact ih3 _ _ _ _
   | exact ih4 _ _ _
   | exact ih5 _ _ _ _ _ _ _ _
   | exact ih6 _ _ _ _ _ _ _ _ _
   | exact ih7 _ _ _ _ _ _ _ _
   | exact ih8 _ _ _ _ _ _
   | exact ih9 _ _ _ _ _ _ _
   | exact impl_Item_86.mono _ _ _ _ _
   | exact impl_order.mono _ _ _ _ _ _ _ _ _ _ _
   | exact LeO.none _
   | refine LeO.ite ?_ ?_
   | refine LeO.bind ?_ (fun _ => ?_)
  ·intro y0 y1 y2
   unfold impl_Item_80.l1
   repeat' first
   | (with_reducible exact ih0 _ _ _ _)
   | (with_reducible exact ih1 _ _ _ _)
   | (with_reducible exact ih2 _ _ _)
   | (with_reducible exact ih3 _ _ _ _)
   | (with_reducible exact ih4 _ _ _)
   | (with_reducible exact ih5 _ _ _ _ _ _ _ _)
   | (with_reducible exact ih6 _ _ _ _ _ _ _ _ _)
   | (with_reducible exact ih7 _ _ _ _ _ _ _ _)
   | (with_reducible exact ih8 _ _ _ _ _ _)
   | (with_reducible exact ih9 _ _ _ _ _ _ _)
   | (with_reducible exact impl_Item_86.mono _ _ _ _ _)
   | (with_reducible exact impl_order.mono _ _ _ _ _ _ _ _ _ _ _)
   | (with_reducible exact LeO.refl _)
   | (with_reducible exact LeO.none _)
   | (with_reducible refine LeO.ite ?_ ?_)
   | (with_reducible refine LeO.bind ?_ (fun _ => ?_))
   | exact ih0 _ _ _ _
   | exact ih1 _ _ _ _
   | exact ih2 _ _ _
   | exact ih3 _ _ _ _
   | exact ih4 _ _ _
   | exact ih5 _ _ _ _ _ _ _ _
   | exact ih6 _ _ _ _ _ _ _ _ _
   | exact ih7 _ _ _ _ _ _ _ _
   | exact ih8 _ _ _ _ _ _
   | exact ih9 _ _ _ _ _ _ _
   | exact impl_Item_86.mono _ _ _ _ _
   | exact impl_order.mono _ _ _ _ _ _ _ _ _ _ _
   | exact LeO.none _
   | refine LeO.ite ?_ ?_
   | refine LeO.bind ?_ (fun _ => ?_)
  ·intro y0 y1 y2 y3
   unfold impl_Item_80.l2
   repeat' first
   | (with_reducible exact ih0 _ _ _ _)
   | (with_reducible exact ih1 _ _ _ _)
   | (with_reducible exact ih2 _ _ _)
   | (with_reducible exact ih3 _ _ _ _)
   | (with_reducible exact ih4 _ _ _)
   | (with_reducible exact ih5 _ _ _ _ _ _ _ _)
   | (with_reducible exact ih6 _ _ _ _ _ _ _ _ _)
   | (with_reducible exact ih7 _ _ _ _ _ _ _ _)
   | (with_reducible exact ih8 _ _ _ _ _ _)
   | (with_reducible exact ih9 _ _ _ _ _ _ _)
   | (with_reducible exact impl_Item_86.mono _ _ _ _ _)
   | (with_reducible exact impl_order.mono _ _ _ _ _ _ _ _ _ _ _)
   | (with_reducible exact LeO.refl _)
   | (with_reducible exact LeO.none _)
   | (with_reducible refine LeO.ite ?_ ?_)
   | (with_reducible refine LeO.bind ?_ (fun _ => ?_))
   | exact ih0 _ _ _ _
   | exact ih1 _ _ _ _
   | exact ih2 _ _ _
   | exact ih3 _ _ _ _
   | exact ih4 _ _ _
   | exact ih5 _ _ _ _ _ _ _ _
   | exact ih6 _ _ _ _ _ _ _ _ _
   | exact ih7 _ _ _ _ _ _ _ _
   | exact ih8 _ _ _ _ _ _
   | exact ih9 _ _ _ _ _ _ _
   | exact impl_Item_86.mono _ _ _ _ _
   | exact impl_order.mono _ _ _ _ _ _ _ _ _ _ _
   | exact LeO.none _
   | refine LeO.ite ?_ ?_
   | refine LeO.bind ?_ (fun _ => ?_)
  ·intro y0 y1 y2
   unfold impl_Item_80.l3
   repeat' first
   | (with_reducible exact ih0 _ _ _ _)
   | (with_reducible exact ih1 _ _ _ _)
   | (with_reducible exact ih2 _ _ _)
   | (with_reducible exact ih3 _ _ _ _)
   | (with_reducible exact ih4 _ _ _)
   | (with_reducible exact ih5 _ _ _ _ _ _ _ _)
   | (with_reducible exact ih6 _ _ _ _ _ _ _ _ _)
   | (with_reducible exact ih7 _ _ _ _ _ _ _ _)
   | (with_reducible exact ih8 _ _ _ _ _ _)
   | (with_reducible exact ih9 _ _ _ _ _ _ _)
   | (with_reducible exact impl_Item_86.mono _ _ _ _ _)
   | (with_reducible exact impl_order.mono _ _ _ _ _ _ _ _ _ _ _)
   | (with_reducible exact LeO.refl _)
   | (with_reducible exact LeO.none _)
   | (with_reducible refine LeO.ite ?_ ?_)
   | (with_reducible refine LeO.bind ?_ (fun _ => ?_))
   | exact ih0 _ _ _ _
   | exact ih1 _ _ _ _
   | exact ih2 _ _ _
   | exact ih3 _ _ _ _
   | exact ih4 _ _ _
   | exact ih5 _ _ _ _ _ _ _ _
   | exact ih6 _ _ _ _ _ _ _ _ _
   | exact ih7 _ _ _ _ _ _ _ _
   | exact ih8 _ _ _ _ _ _
   | exact ih9 _ _ _ _ _ _ _
   | exact impl_Item_86.mono _ _ _ _ _
   | exact impl_order.mono _ _ _ _ _ _ _ _ _ _ _
   | exact LeO.none _
   | refine LeO.ite ?_ ?_
   | refine LeO.bind ?_ (fun _ => ?_)
  ·intro y0 y1 y2 y3 y4 y5 y6 y7
   unfold impl_Item_80.j4
   repeat' first
   | (with_reducible exact ih0 _ _ _ _)
   | (with_reducible exact ih1 _ _ _ _)
   | (with_reducible exact ih2 _ _ _)
   | (with_reducible exact ih3 _ _ _ _)
   | (with_reducible exact ih4 _ _ _)
   | (with_reducible exact ih5 _ _ _ _ _ _ _ _)
   | (with_reducible exact ih6 _ _ _ _ _ _ _ _ _)
   | (with_reducible exact ih7 _ _ _ _ _ _ _ _)
   | (with_reducible exact ih8 _ _ _ _ _ _)
   | (with_reducible exact ih9 _ _ _ _ _ _ _)
   | (with_reducible exact impl_Item_86.mono _ _ _ _ _)
   | (with_reducible exact impl_order.mono _ _ _ _ _ _ _ _ _ _ _)
   | (with_reducible exact LeO.refl _)
   | (with_reducible exact LeO.none _)
   | (with_reducible refine LeO.ite ?_ ?_)
   | (with_reducible refine LeO.bind ?_ (fun _ => ?_))
   | exact ih0 _ _ _ _
   | exact ih1 _ _ _ _
   | exact ih2 _ _ _
   | exact ih3 _ _ _ _
   | exact ih4 _ _ _
   | exact ih5 _ _ _ _ _ _ _ _
   | exact ih6 _ _ _ _ _ _ _ _ _
   | exact ih7 _ _ _ _ _ _ _ _
   | exact ih8 _ _ _ _ _ _
   | exact ih9 _ _ _ _ _ _ _
   | exact impl_Item_86.mono _ _ _ _ _
   | exact impl_order.mono _ _ _ _ _ _ _ _ _ _ _
   | exact LeO.none _
   | refine LeO.ite ?_ ?_
   | refine LeO.bind ?_ (fun _ => ?_)
  ·intro y0 y1 y2 y3 y4 y5 y6 y7 y8
   unfold impl_Item_80.l4
   repeat' first
   | (with_reducible exact ih0 _ _ _ _)
   | (with_reducible exact ih1 _ _ _ _)
   | (with_reducible exact ih2 _ _ _)
   | (with_reducible exact ih3 _ _ _ _)
   | (with_reducible exact ih4 _ _ _)
   | (with_reducible exact ih5 _ _ _ _ _ _ _ _)
   | (with_reducible exact ih6 _ _ _ _ _ _ _ _ _)
   | (with_reducible exact ih7 _ _ _ _ _ _ _ _)
   | (with_reducible exact ih8 _ _ _ _ _ _)
   | (with_reducible exact ih9 _ _ _ _ _ _ _)
   | (with_reducible exact impl_Item_86.mono _ _ _ _ _)
   | (with_reducible exact impl_order.mono _ _ _ _ _ _ _ _ _ _ _)
   | (with_reducible exact LeO.refl _)
   | (with_reducible exact LeO.none _)
   | (with_reducible refine LeO.ite ?_ ?_)
   | (with_reducible refine LeO.bind ?_ (fun _ => ?_))
   | exact ih0 _ _ _ _
   | exact ih1 _ _ _ _
   | exact ih2 _ _ _
   | exact ih3 _ _ _ _
   | exact ih4 _ _ _
   | exact ih5 _ _ _ _ _ _ _ _
   | exact ih6 _ _ _ _ _ _ _ _ _
   | exact ih7 _ _ _ _ _ _ _ _
   | exact ih8 _ _ _ _ _ _
   | exact ih9 _ _ _ _ _ _ _
   | exact impl_Item_86.mono _ _ _ _ _
   | exact impl_order.mono _ _ _ _ _ _ _ _ _ _ _
   | exact LeO.none _
   | refine LeO.ite ?_ ?_
   | refine LeO.bind ?_ (fun _ => ?_)
  ·intro y0 y1 y2 y3 y4 y5 y6 y7
   unfold impl_Item_80.j6
   repeat' first
   | (with_reducible exact ih0 _ _ _ _)
   | (with_reducible exact ih1 _ _ _ _)
   | (with_reducible exact ih2 _ _ _)
   | (with_reducible exact ih3 _ _ _ _)
   | (with_reducible exact ih4 _ _ _)
   | (with_reducible exact ih5 _ _ _ _ _ _ _ _)
   | (with_reducible exact ih6 _ _ _ _ _ _ _ _ _)
   | (with_reducible exact ih7 _ _ _ _ _ _ _ _)
   | (with_reducible exact ih8 _ _ _ _ _ _)
   | (with_reducible exact ih9 _ _ _ _ _ _ _)
   | (with_reducible exact impl_Item_86.mono _ _ _ _ _)
   | (with_reducible exact impl_order.mono _ _ _ _ _ _ _ _ _ _ _)
   | (with_reducible exact LeO.refl _)
   | (with_reducible exact LeO.none _)
   | (with_reducible refine LeO.ite ?_ ?_)
   | (with_reducible refine LeO.bind ?_ (fun _ => ?_))
   | exact ih0 _ _ _ _
   | exact ih1 _ _ _ _
   | exact ih2 _ _ _
   | exact ih3 _ _ _ _
   | exact ih4 _ _ _
   | exact ih5 _ _ _ _ _ _ _ _
   | exact ih6 _ _ _ _ _ _ _ _ _
   | exact ih7 _ _ _ _ _ _ _ _
   | exact ih8 _ _ _ _ _ _
   | exact ih9 _ _ _ _ _ _ _
   | exact impl_Item_86.mono _ _ _ _ _
   | exact impl_order.mono _ _ _ _ _ _ _ _ _ _ _
   | exact LeO.none _
   | refine LeO.ite ?_ ?_
   | refine LeO.bind ?_ (fun _ => ?_)
  ·intro y0 y1 y2 y3 y4 y5
   unfold impl_Item_80.j7
   repeat' first
   | (with_reducible exact ih0 _ _ _ _)
   | (with_reducible exact ih1 _ _ _ _)
   | (with_reducible exact ih2 _ _ _)
   | (with_reducible exact ih3 _ _ _ _)
   | (with_reducible exact ih4 _ _ _)
   | (with_reducible exact ih5 _ _ _ _ _ _ _ _)
   | (with_reducible exact ih6 _ _ _ _ _ _ _ _ _)
   | (with_reducible exact ih7 _ _ _ _ _ _ _ _)
   | (with_reducible exact ih8 _ _ _ _ _ _)
   | (with_reducible exact ih9 _ _ _ _ _ _ _)
   | (with_reducible exact impl_Item_86.mono _ _ _ _ _)
   | (with_reducible exact impl_order.mono _ _ _ _ _ _ _ _ _ _ _)
   | (with_reducible exact LeO.refl _)
   | (with_reducible exact LeO.none _)
   | (with_reducible refine LeO.ite ?_ ?_)
   | (with_reducible refine LeO.bind ?_ (fun _ => ?_))
   | exact ih0 _ _ _ _
   | exact ih1 _ _ _ _
   | exact ih2 _ _ _
   | exact ih3 _ _ _ _
   | exact ih4 _ _ _
   | exact ih5 _ _ _ _ _ _ _ _
   | exact ih6 _ _ _ _ _ _ _ _ _
   | exact ih7 _ _ _ _ _ _ _ _
   | exact ih8 _ _ _ _ _ _
   | exact ih9 _ _ _ _ _ _ _
   | exact impl_Item_86.mono _ _ _ _ _
   | exact impl_order.mono _ _ _ _ _ _ _ _ _ _ _
   | exact LeO.none _
   | refine LeO.ite ?_ ?_
   | refine LeO.bind ?_ (fun _ => ?_)
  ·intro y0 y1 y2 y3 y4 y5 y6
   unfold impl_Item_80.j8
   repeat' first
   | (with_reducible exact ih0 _ _ _ _)
   | (with_reducible exact ih1 _ _ _ _)
   | (with_reducible exact ih2 _ _ _)
   | (with_reducible exact ih3 _ _ _ _)
   | (with_reducible exact ih4 _ _ _)
   | (with_reducible exact ih5 _ _ _ _ _ _ _ _)
   | (with_reducible exact ih6 _ _ _ _ _ _ _ _ _)
   | (with_reducible exact ih7 _ _ _ _ _ _ _ _)
   | (with_reducible exact ih8 _ _ _ _ _ _)
   | (with_reducible exact ih9 _ _ _ _ _ _ _)
   | (with_reducible exact impl_Item_86.mono _ _ _ _ _)
   | (with_reducible exact impl_order.mono _ _ _ _ _ _ _ _ _ _ _)
   | (with_reducible exact LeO.refl _)
   | (with_reducible exact LeO.none _)
   | (with_reducible refine LeO.ite ?_ ?_)
   | (with_reducible refine LeO.bind ?_ (fun _ => ?_))
   | exact ih0 _ _ _ _
   | exact ih1 _ _ _ _
   | exact ih2 _ _ _
   | exact ih3 _ _ _ _
   | exact ih4 _ _ _
   | exact ih5 _ _ _ _ _ _ _ _
   | exact ih6 _ _ _ _ _ _ _ _ _
   | exact ih7 _ _ _ _ _ _ _ _
   | exact ih8 _ _ _ _ _ _
   | exact ih9 _ _ _ _ _ _ _
   | exact impl_Item_86.mono _ _ _ _ _
   | exact impl_order.mono _ _ _ _ _ _ _ _ _ _ _
   | exact LeO.none _
   | refine LeO.ite ?_ ?_
   | refine LeO.bind ?_ (fun _ => ?_)
theorem impl_Item_80.mono : ∀ a0 a1 a2 a3 k, LeO (impl_Item_80.f k a0 a1 a2 a3) (impl_Item_80.f (k + 1) a0 a1 a2 a3) := by
 intro a0 a1 a2 a3 k
 obtain ⟨ih0, ih1, ih2, ih3, ih4, ih5, ih6, ih7, ih8, ih9⟩ := impl_Item_80.mono_l k
 exact ih0 a0 a1 a2 a3
def impl_Item_80.T5 : Bool × List (List Nat × List Nat) := (true, [([], []), ([], []), ([], []), ([1, 2], [1, 2]), ([3], [3]), ([], []), ([], []), ([5, 6], [5, 6]), ([7], [7]), ([0, 4, 8], [0, 4, 8]), ([9], [9])])
def impl_Item_80.B5 : List Nat := [0, 0, 0, 6, 14, 0, 0, 96, 224, 511, 1023]
theorem impl_Item_80.tab5 : rtab .any (opsOf Try.f80 5) = impl_Item_80.T5 := by kernel_rfl
theorem impl_Item_80.bits5 : waitsOk impl_Item_80.T5.2 impl_Item_80.B5 = true := by kernel_rfl
def impl_Item_80.T11 : Bool × List (List Nat × List Nat) := (true, [([], []), ([], []), ([], []), ([], []), ([3], [3]), ([], []), ([], []), ([6], [6]), ([5, 7], [5, 7]), ([8], [8]), ([], []), ([], []), ([10, 11], [10, 11]), ([12], [12]), ([0, 1, 0, 1, 5, 6, 7, 8, 9, 13], [0, 1]), ([14, 9, 0, 1, 5, 6, 7, 8, 9, 13], [9, 14]), ([2, 4, 0, 1, 2, 3, 4, 5, 6, 7, 8, 9, 10, 11, 12, 13, 14, 15], [2, 4]), ([16, 13, 15, 0, 1, 2, 3, 4, 5, 6, 7, 8, 9, 10, 11, 12, 13, 14, 15], [13, 16])])
def impl_Item_80.B11 : List Nat := [0, 0, 0, 0, 8, 0, 0, 64, 224, 480, 0, 0, 3072, 7168, 16355, 32739, 65535, 131071]
theorem impl_Item_80.tab11 : rtab .any (opsOf Try.f80 11) = impl_Item_80.T11 := by kernel_rfl
theorem impl_Item_80.bits11 : waitsOk impl_Item_80.T11.2 impl_Item_80.B11 = true := by kernel_rfl
def impl_Item_80.T17 : Bool × List (List Nat × List Nat) := (true, [([], []), ([], []), ([], []), ([1, 2], [1, 2]), ([3], [3]), ([], []), ([], []), ([5, 6], [5, 6]), ([7], [7]), ([0, 4, 8], [0, 4, 8]), ([9], [9]), ([10], [10])])
def impl_Item_80.B17 : List Nat := [0, 0, 0, 6, 14, 0, 0, 96, 224, 511, 1023, 2047]
theorem impl_Item_80.tab17 : rtab .any (opsOf Try.f80 17) = impl_Item_80.T17 := by kernel_rfl
theorem impl_Item_80.bits17 : waitsOk impl_Item_80.T17.2 impl_Item_80.B17 = true := by kernel_rfl
def impl_Item_80.T23 : Bool × List (List Nat × List Nat) := (true, [([], []), ([], []), ([], []), ([], []), ([3], [3]), ([], []), ([], []), ([6], [6]), ([5, 7], [5, 7]), ([8], [8]), ([], []), ([], []), ([10, 11], [10, 11]), ([12], [12]), ([0, 1, 0, 1, 5, 6, 7, 8, 9, 13], [0, 1]), ([14, 9, 0, 1, 5, 6, 7, 8, 9, 13], [9, 14]), ([2, 4, 0, 1, 2, 3, 4, 5, 6, 7, 8, 9, 10, 11, 12, 13, 14, 15], [2, 4]), ([16, 13, 15, 0, 1, 2, 3, 4, 5, 6, 7, 8, 9, 10, 11, 12, 13, 14, 15], [13, 16])])
def impl_Item_80.B23 : List Nat := [0, 0, 0, 0, 8, 0, 0, 64, 224, 480, 0, 0, 3072, 7168, 16355, 32739, 65535, 131071]
theorem impl_Item_80.tab23 : rtab .any (opsOf Try.f80 23) = impl_Item_80.T23 := by kernel_rfl
theorem impl_Item_80.bits23 : waitsOk impl_Item_80.T23.2 impl_Item_80.B23 = true := by kernel_rfl
def impl_Item_80.T35 : Bool × List (List Nat × List Nat) := (true, [([], []), ([], []), ([], []), ([], []), ([2, 3], [2, 3]), ([1, 4], [1, 4]), ([5], [5]), ([], []), ([], []), ([7, 8], [7, 8]), ([9], [9]), ([0, 6, 10], [0, 6, 10]), ([11], [11]), ([12], [12])])
def impl_Item_80.B35 : List Nat := [0, 0, 0, 0, 12, 30, 62, 0, 0, 384, 896, 2047, 4095, 8191]
theorem impl_Item_80.tab35 : rtab .any (opsOf Try.f80 35) = impl_Item_80.T35 := by kernel_rfl
theorem impl_Item_80.bits35 : waitsOk impl_Item_80.T35.2 impl_Item_80.B35 = true := by kernel_rfl
set_option maxHeartbeats 8000000 in
set_option maxRecDepth 100000 in
theorem impl_Item_80.calls_a (k : Nat) : ∀ (P0_ : Nat → Prop) (u9000_ : Value) (l0 : List (S55)) (a1 : Int) (a2 : Int) (a3 : Int) (r : List (S55)) (w0 w : World) (hB : Below w0.heap.size w0 w) (ho0 : Kd.R k55 55 w w0.heap.size P0_ u9000_ l0) (h : impl_Item_80.f (k + 1) l0 a1 a2 a3 = some r) (c5 : (wrap64 (a2 - a1)) = 1),
  Calls Try.prog 80 #[u9000_, .int .i64 a1, .int .i64 a2, .int .i64 a3, .func (.func 33) #[] #[]] w fun e w' => e = .returned (.tuple #[]) ∧ Kd.R k55 55 w' w0.heap.size (fun k_ => (P0_ k_ ∨ w.heap.size ≤ k_)) u9000_ r ∧ Below w0.heap.size w0 w' ∧ Kept w w' (fun k_ => P0_ k_) := by
 intro P0_ u9000_ l0 a1 a2 a3 r w0 w hB ho0 h c5
 simp only [impl_Item_80.f] at h
 have hu55 := Try.underlying55
 have HO0 := Aside0.mk (show Kd.R k55 55 w w0.heap.size (fun k_ => (P0_ k_ ∨ w.heap.size ≤ k_)) u9000_ l0 from Kd.R_mono ho0 (fun k_ hk => (.inl hk)))
 have HK := Aside0.mk (Kept.refl w (fun k_ => P0_ k_))
 have HW0 := Aside0.mk hB.size
 have HB := Aside0.mk hB
 clear hB
 have H : (if (wrap64 (a2 - a1)) = 1 then (impl_Item_80.l0 k l0 a1 a2 a3) else (if (wrap64 (a3 - a2)) = 1 then (impl_Item_80.l2 k l0 a2 a1 a2) else (if a2 > (wrap64 ((IntKind.u64.wrap (wrap64 (a1 + a3))) / 2)) then (impl_Item_80.j4 k l0 a1 a2 a3 (wrap64 ((IntKind.u64.wrap (wrap64 (a1 + a3))) / 2)) (wrap64 ((wrap64 ((IntKind.u64.wrap (wrap64 (a1 + a3))) / 2)) + a2)) (wrap64 ((wrap64 ((wrap64 ((IntKind.u64.wrap (wrap64 (a1 + a3))) / 2)) + a2)) - a3)) (wrap64 ((IntKind.u64.wrap (wrap64 (a1 + a3))) / 2))) else (impl_Item_80.j4 k l0 a1 a2 a3 (wrap64 ((IntKind.u64.wrap (wrap64 (a1 + a3))) / 2)) (wrap64 ((wrap64 ((IntKind.u64.wrap (wrap64 (a1 + a3))) / 2)) + a2)) a1 a2)))) = some r := h
 clear h
 ·rw [if_pos c5] at H
  have c5b0 : ((wrap64 (a2 - a1)) == 1) = true := beq_iff_eq.mpr c5
  have c5b1 : ((wrap64 (a2 - a1)) != 1) = false := bne_eq_false_iff_eq.mpr c5
  clear c5
  have H' := Aside0.mk H
  clear H
  go_enter Try.func80, Try.ntmps80
  go_wp2
  go_loopg [10, 11] k (fun kq v10 v11 w' => ∃ (x10_1 : Int) (x11_1 : Int), v10 = .int .i64 x10_1 ∧ v11 = .int .i64 x11_1 ∧ Aside0 (impl_Item_80.l0 kq l0 a1 x10_1 x11_1 = some r) ∧ Aside0 (kq ≤ k) ∧ Aside0 (Kd.R k55 55 w' w0.heap.size (fun k_ => (P0_ k_ ∨ w.heap.size ≤ k_)) u9000_ l0) ∧ Aside0 (Kept w w' (fun k_ => P0_ k_)) ∧ Aside0 (Below w0.heap.size w0 w'))
  case atStart => exact ⟨(a2), (a3), (by first | rfl | (simp; done) | (simp [*]; done)), (by first | rfl | (simp; done) | (simp [*]; done)), H', ⟨Nat.le_refl _⟩, ⟨by (with_reducible repeat (first | apply Kd.R_alloc | apply Kd.R_drewN | apply Kd.R_drew)); exact HO0.out⟩, ⟨by repeat (first | (with_reducible first | exact HK.out | apply Kept.alloc | apply Kept.drewN | apply Kept.drew) | exact HK.out)⟩, ⟨by repeat (first | (with_reducible first | exact HB.out | apply below_alloc | apply pw_below_drewN | apply below_drew1) | exact HB.out)⟩⟩
  case round =>
   clear H'
   try clear p2
   try clear c5
   try clear c5b0
   try clear c5b1
   obtain ⟨x10_1, x11_1, rfl, rfl, HA, HK1, HO_0, HK, HB⟩ := hrel
   cases gk with
   | zero => exact absurd HA.out (by simp [impl_Item_80.l0])
   | succ k1 =>
    have H := HA.out
    clear HA
    simp only [impl_Item_80.l0] at H
    by_cases c6 : x10_1 < x11_1
    ·rw [if_pos c6] at H
     have c6b0 : decide (x10_1 < x11_1) = true := decide_eq_true c6
     clear c6
     obtain ⟨ji7, hji7⟩ : ∃ j_ : Int, (wrap64 ((IntKind.u64.wrap (wrap64 (x10_1 + x11_1))) / 2)) = j_ := ⟨_, rfl⟩
     replace H : (if 0 ≤ (ji7) then (if (ji7) < (l0.length : Int) then (if 0 ≤ a1 then (if a1 < (l0.length : Int) then ((impl_order.f k1 ((rd_T55 l0 (ji7)).f0) ((rd_T55 l0 (ji7)).f1.f0) ((rd_T55 l0 (ji7)).f1.f1) ((rd_T55 l0 (ji7)).f1.f2) ((rd_T55 l0 (ji7)).f1.f3) ((rd_T55 l0 a1).f0) ((rd_T55 l0 a1).f1.f0) ((rd_T55 l0 a1).f1.f1) ((rd_T55 l0 a1).f1.f2) ((rd_T55 l0 a1).f1.f3)).bind fun t212 => (if t212 < 0 then (impl_Item_80.l0 k1 l0 a1 (wrap64 ((ji7) + 1)) x11_1) else (impl_Item_80.l0 k1 l0 a1 x10_1 ji7))) else (none)) else (none)) else (none)) else (none)) = some r := by first | (rw [hji7] at H; exact H) | (simp only [hji7] at H ⊢; exact H)
     have hji7w : (IntKind.i64.wrap ((IntKind.u64.wrap (wrap64 (x10_1 + x11_1))) / 2)) = ji7 := (i64_w _).trans hji7
     by_cases c8 : 0 ≤ (ji7)
     ·rw [if_pos c8] at H
      have c8b0 : decide (0 ≤ (ji7)) = true := decide_eq_true c8
      clear c8
      by_cases c9 : (ji7) < (l0.length : Int)
      ·rw [if_pos c9] at H
       have c9b0 : decide ((ji7) < (l0.length : Int)) = true := decide_eq_true c9
       clear c9
       by_cases c10 : 0 ≤ a1
       ·rw [if_pos c10] at H
        have c10b0 : decide (0 ≤ a1) = true := decide_eq_true c10
        clear c10
        by_cases c11 : a1 < (l0.length : Int)
        ·rw [if_pos c11] at H
         have c11b0 : decide (a1 < (l0.length : Int)) = true := decide_eq_true c11
         clear c11
         replace H := Option.bind_eq_some_iff.mp H
         obtain ⟨t212, A120, H⟩ := H
         replace H : (if t212 < 0 then (impl_Item_80.l0 k1 l0 a1 (wrap64 ((ji7) + 1)) x11_1) else (impl_Item_80.l0 k1 l0 a1 x10_1 ji7)) = some r := H
         have A12 := Aside0.mk A120
         clear A120
         by_cases c13 : t212 < 0
         ·rw [if_pos c13] at H
          have c13b0 : decide (t212 < 0) = true := decide_eq_true c13
          clear c13
          have H' := Aside0.mk H
          clear H
          try go_wp2
          have n0_ := Aside0.mk (Kd.R_drew HO_0.out)
          have n1_ := Aside0.mk (Kept.drew HK.out)
          have n2_ := Aside0.mk (below_drew1 HB.out)
          clear HO_0
          clear HK
          clear HB
          have HO_0 := n0_
          have HK := n1_
          have HB := n2_
          clear n0_ n1_ n2_
          obtain ⟨Ao15, co15, eo15⟩ := Kd.R_slice HO_0.out
          (first | subst eo15 | (injection eo15 with f1_ f2_ f3_; have f4_ := f1_.symm; have f5_ := f3_.symm; clear f1_ f2_ f3_; subst f4_; subst f5_))
          have p210 : 0 ≤ ((ji7) : Int) := of_decide_eq_true (by first | (with_reducible assumption) | assumption)
          have q210 : (ji7) < (l0.length : Int) := of_decide_eq_true (by first | (with_reducible assumption) | assumption)
          obtain ⟨ad210, e210, hx210_0, hx210_1, hx210_2, hx210_3, hx210_4⟩ := at_T55 (Kd.R_reads' HO_0.out).2.2 (ji7) p210 q210
          cases e210
          replace p210 := eq_true p210
          replace q210 := eq_true q210
          have p211 : 0 ≤ (a1 : Int) := of_decide_eq_true (by first | (with_reducible assumption) | assumption)
          have q211 : a1 < (l0.length : Int) := of_decide_eq_true (by first | (with_reducible assumption) | assumption)
          obtain ⟨ad211, e211, hx211_0, hx211_1, hx211_2, hx211_3, hx211_4⟩ := at_T55 (Kd.R_reads' HO_0.out).2.2 a1 p211 q211
          obtain rfl : ad210 = ad211 := (by injection e211)
          replace p211 := eq_true p211
          replace q211 := eq_true q211
          refine start_ (n := 11) (S := fun w' => w'.cell? (ad210.add (((ji7)).toNat * 5)) = some (.int .i64 ((rd_T55 l0 (ji7)).f0)) ∧ w'.cell? ⟨(ad210.add (((ji7)).toNat * 5)).block, (ad210.add (((ji7)).toNat * 5)).off + 1, none⟩ = some (.int .i64 ((rd_T55 l0 (ji7)).f1.f0)) ∧ w'.cell? ⟨(ad210.add (((ji7)).toNat * 5)).block, (ad210.add (((ji7)).toNat * 5)).off + 2, none⟩ = some (.int .i64 ((rd_T55 l0 (ji7)).f1.f1)) ∧ w'.cell? ⟨(ad210.add (((ji7)).toNat * 5)).block, (ad210.add (((ji7)).toNat * 5)).off + 3, none⟩ = some (.int .i64 ((rd_T55 l0 (ji7)).f1.f2)) ∧ w'.cell? ⟨(ad210.add (((ji7)).toNat * 5)).block, (ad210.add (((ji7)).toNat * 5)).off + 4, none⟩ = some (.int .i64 ((rd_T55 l0 (ji7)).f1.f3)) ∧ w'.cell? (ad210.add ((a1).toNat * 5)) = some (.int .i64 ((rd_T55 l0 a1).f0)) ∧ w'.cell? ⟨(ad210.add ((a1).toNat * 5)).block, (ad210.add ((a1).toNat * 5)).off + 1, none⟩ = some (.int .i64 ((rd_T55 l0 a1).f1.f0)) ∧ w'.cell? ⟨(ad210.add ((a1).toNat * 5)).block, (ad210.add ((a1).toNat * 5)).off + 2, none⟩ = some (.int .i64 ((rd_T55 l0 a1).f1.f1)) ∧ w'.cell? ⟨(ad210.add ((a1).toNat * 5)).block, (ad210.add ((a1).toNat * 5)).off + 3, none⟩ = some (.int .i64 ((rd_T55 l0 a1).f1.f2)) ∧ w'.cell? ⟨(ad210.add ((a1).toNat * 5)).block, (ad210.add ((a1).toNat * 5)).off + 4, none⟩ = some (.int .i64 ((rd_T55 l0 a1).f1.f3))) (ds := []) #[false, false, false, false, false, false, false, false, false, false, false] (by kernel_rfl) rfl rfl ⟨hx210_0, hx210_1, hx210_2, hx210_3, hx210_4, hx211_0, hx211_1, hx211_2, hx211_3, hx211_4⟩ (fun hHeld => ?_); refine with_tabW impl_Item_80.tab5 impl_Item_80.bits5 (fun HT_ HW_ => ?_)
          generalize wr.drew = w14 at HO_0 HK HB hx210_0 hx210_1 hx210_2 hx210_3 hx210_4 hx211_0 hx211_1 hx211_2 hx211_3 hx211_4 hHeld ⊢
          refine pure_ (i := 0) (N := some 40) (v := ?_) (a' := ?_) #[true, false, false, false, false, false, false, false, false, false, false] rfl rfl (any_of HT_.out (by kernel_rfl)) (fun _ _ _ h => h) (Or.inl ⟨by rfl, ?_⟩) ?_ ?_
          rotate_left
          ·intro w'
           go_simp
           with_reducible rfl
          rotate_left
          ·simp only [Act.put, List.setIfInBounds_toArray, List.set_cons_zero, List.set_cons_succ, i64_w, i32_w]
           rfl
          refine pure_ (i := 1) (N := some 41) (v := ?_) (a' := ?_) #[true, true, false, false, false, false, false, false, false, false, false] rfl rfl (any_of HT_.out (by kernel_rfl)) (fun _ _ _ h => h) (Or.inl ⟨by rfl, ?_⟩) ?_ ?_
          rotate_left
          ·intro w'
           go_simp
           with_reducible rfl
          rotate_left
          ·simp only [Act.put, List.setIfInBounds_toArray, List.set_cons_zero, List.set_cons_succ, i64_w, i32_w]
           rfl
          refine pure_ (i := 2) (N := some 42) (v := ?_) (a' := ?_) #[true, true, true, false, false, false, false, false, false, false, false] rfl rfl (any_of HT_.out (by kernel_rfl)) (fun _ _ _ h => h) (Or.inl ⟨by rfl, ?_⟩) ?_ ?_
          rotate_left
          ·intro w'
           go_simp
           with_reducible rfl
          rotate_left
          ·simp only [Act.put, List.setIfInBounds_toArray, List.set_cons_zero, List.set_cons_succ, i64_w, i32_w]
           rfl
          refine pure_ (i := 3) (N := some 43) (v := ?_) (a' := ?_) #[true, true, true, true, false, false, false, false, false, false, false] rfl rfl (any_of HT_.out (by kernel_rfl)) (fun _ _ _ h => h) (Or.inl ⟨by rfl, ?_⟩) ?_ ?_
          rotate_left
          ·intro w'
           go_simp
           with_reducible rfl
          rotate_left
          ·simp only [Act.put, List.setIfInBounds_toArray, List.set_cons_zero, List.set_cons_succ, i64_w, i32_w]
           rfl
          refine pure_ (i := 5) (N := some 45) (v := ?_) (a' := ?_) #[true, true, true, true, false, true, false, false, false, false, false] rfl rfl (any_of HT_.out (by kernel_rfl)) (fun _ _ _ h => h) (Or.inl ⟨by rfl, ?_⟩) ?_ ?_
          rotate_left
          ·intro w'
           go_simp
           with_reducible rfl
          rotate_left
          ·simp only [Act.put, List.setIfInBounds_toArray, List.set_cons_zero, List.set_cons_succ, i64_w, i32_w]
           rfl
          refine pure_ (i := 6) (N := some 46) (v := ?_) (a' := ?_) #[true, true, true, true, false, true, true, false, false, false, false] rfl rfl (any_of HT_.out (by kernel_rfl)) (fun _ _ _ h => h) (Or.inl ⟨by rfl, ?_⟩) ?_ ?_
          rotate_left
          ·intro w'
           go_simp
           with_reducible rfl
          rotate_left
          ·simp only [Act.put, List.setIfInBounds_toArray, List.set_cons_zero, List.set_cons_succ, i64_w, i32_w]
           rfl
          refine pure_ (i := 7) (N := some 47) (v := ?_) (a' := ?_) #[true, true, true, true, false, true, true, true, false, false, false] rfl rfl (any_of HT_.out (by kernel_rfl)) (fun _ _ _ h => h) (Or.inl ⟨by rfl, ?_⟩) ?_ ?_
          rotate_left
          ·intro w'
           go_simp
           with_reducible rfl
          rotate_left
          ·simp only [Act.put, List.setIfInBounds_toArray, List.set_cons_zero, List.set_cons_succ, i64_w, i32_w]
           rfl
          refine take_ (i := 4) (N := some 44) (v := ?_) (a' := ?_) #[true, true, true, true, true, true, true, true, false, false, false] rfl rfl (take_ofW HT_.out HW_.out (by kernel_rfl)) (fun _ _ _ h => h) (Or.inl ⟨by rfl, ?_⟩) hHeld ?_ ?_
          rotate_left
          ·rintro w' ⟨s0, s1, s2, s3, s4, s5, s6, s7, s8, s9⟩
           go_simp
           with_reducible rfl
          rotate_left
          ·simp only [Act.put, List.setIfInBounds_toArray, List.set_cons_zero, List.set_cons_succ, i64_w, i32_w]
           rfl
          refine take_ (i := 8) (N := some 48) (v := ?_) (a' := ?_) #[true, true, true, true, true, true, true, true, true, false, false] rfl rfl (take_ofW HT_.out HW_.out (by kernel_rfl)) (fun _ _ _ h => h) (Or.inl ⟨by rfl, ?_⟩) hHeld ?_ ?_
          rotate_left
          ·rintro w' ⟨s0, s1, s2, s3, s4, s5, s6, s7, s8, s9⟩
           go_simp
           with_reducible rfl
          rotate_left
          ·simp only [Act.put, List.setIfInBounds_toArray, List.set_cons_zero, List.set_cons_succ, i64_w, i32_w]
           rfl
          refine one_ (i := 9) (N := some 49) #[true, true, true, true, true, true, true, true, true, true, false] rfl rfl (one_of HT_.out (by kernel_rfl)) (by decide) (fun K hK => ?_)
          refine goesV_ Try.func33 (by kernel_rfl) rfl #[.agg #[.int .i64 ((rd_T55 l0 (ji7)).f0), .int .i64 ((rd_T55 l0 (ji7)).f1.f0), .int .i64 ((rd_T55 l0 (ji7)).f1.f1), .int .i64 ((rd_T55 l0 (ji7)).f1.f2), .int .i64 ((rd_T55 l0 (ji7)).f1.f3)], .agg #[.int .i64 ((rd_T55 l0 a1).f0), .int .i64 ((rd_T55 l0 a1).f1.f0), .int .i64 ((rd_T55 l0 a1).f1.f1), .int .i64 ((rd_T55 l0 a1).f1.f2), .int .i64 ((rd_T55 l0 a1).f1.f3)]] (by rfl) rfl rfl (by (try simp only [List.map_toArray, List.map_cons, List.map_nil]); first | done | (simp only [hji7]; rfl) | rfl | (simp only [List.length_drop, List.length_take]; rfl)) ?_
          with_reducible refine (impl_order.calls k1 ((rd_T55 l0 (ji7)).f0) ((rd_T55 l0 (ji7)).f1.f0) ((rd_T55 l0 (ji7)).f1.f1) ((rd_T55 l0 (ji7)).f1.f2) ((rd_T55 l0 (ji7)).f1.f3) ((rd_T55 l0 a1).f0) ((rd_T55 l0 a1).f1.f0) ((rd_T55 l0 a1).f1.f1) ((rd_T55 l0 a1).f1.f2) ((rd_T55 l0 a1).f1.f3) t212 _ A12.out).mono ?_
          rintro e w16 ⟨rfl, hb⟩
          have HS0_ := (hb.cell (World.block_lt_of_cell? _ _ (hHeld.1))).trans (hHeld.1)
          have HS1_ := (hb.cell (World.block_lt_of_cell? _ _ (hHeld.2.1))).trans (hHeld.2.1)
          have HS2_ := (hb.cell (World.block_lt_of_cell? _ _ (hHeld.2.2.1))).trans (hHeld.2.2.1)
          have HS3_ := (hb.cell (World.block_lt_of_cell? _ _ (hHeld.2.2.2.1))).trans (hHeld.2.2.2.1)
          have HS4_ := (hb.cell (World.block_lt_of_cell? _ _ (hHeld.2.2.2.2.1))).trans (hHeld.2.2.2.2.1)
          have HS5_ := (hb.cell (World.block_lt_of_cell? _ _ (hHeld.2.2.2.2.2.1))).trans (hHeld.2.2.2.2.2.1)
          have HS6_ := (hb.cell (World.block_lt_of_cell? _ _ (hHeld.2.2.2.2.2.2.1))).trans (hHeld.2.2.2.2.2.2.1)
          have HS7_ := (hb.cell (World.block_lt_of_cell? _ _ (hHeld.2.2.2.2.2.2.2.1))).trans (hHeld.2.2.2.2.2.2.2.1)
          have HS8_ := (hb.cell (World.block_lt_of_cell? _ _ (hHeld.2.2.2.2.2.2.2.2.1))).trans (hHeld.2.2.2.2.2.2.2.2.1)
          have HS9_ := (hb.cell (World.block_lt_of_cell? _ _ (hHeld.2.2.2.2.2.2.2.2.2))).trans (hHeld.2.2.2.2.2.2.2.2.2)
          refine ⟨_, rfl, ?_⟩
          have n0_ := Aside0.mk (Kd.R_below (by (with_reducible repeat (first | apply Kd.R_alloc | apply Kd.R_drewN | apply Kd.R_drew)); exact HO_0.out) hb)
          have n1_ := Aside0.mk (Kept.below (S := (fun k_ => P0_ k_)) (by repeat (first | (with_reducible first | exact HK.out | apply Kept.alloc | apply Kept.drewN | apply Kept.drew) | exact HK.out)) hb)
          have n2_ := Aside0.mk (below_step (by repeat (first | (with_reducible first | exact HB.out | apply below_alloc | apply pw_below_drewN | apply below_drew1) | exact HB.out)) hb)
          clear HO_0
          clear HK
          clear HB
          have HO_0 := n0_
          have HK := n1_
          have HB := n2_
          clear n0_ n1_ n2_
          (try clear hb)
          (try clear hb2)
          (try clear hk)
          (try clear hi)
          refine hK.out _ _ ⟨HS0_, HS1_, HS2_, HS3_, HS4_, HS5_, HS6_, HS7_, HS8_, HS9_⟩ (fun hHeld => ?_)
          clear hK K
          refine norm_ (a' := ?_) ?_ ?_
          rotate_left
          ·show Act.put _ (some 49) _ = _
           simp only [Act.put, List.setIfInBounds_toArray, List.set_cons_zero, List.set_cons_succ, i64_w, i32_w]
           rfl
          refine pure_ (i := 10) (N := some 50) (v := ?_) (a' := ?_) #[true, true, true, true, true, true, true, true, true, true, true] rfl rfl (any_of HT_.out (by kernel_rfl)) (fun _ _ _ h => h) (Or.inl ⟨by rfl, ?_⟩) ?_ ?_
          rotate_left
          ·intro w'
           go_simp
           with_reducible rfl
          rotate_left
          ·simp only [Act.put, List.setIfInBounds_toArray, List.set_cons_zero, List.set_cons_succ, i64_w, i32_w]
           rfl
          refine done_ (done_of HT_.out (by kernel_rfl)) ?_
          try go_wp2
          go_roundg k1
          case measure => have := HK1.out; omega
          case rel => exact ⟨(wrap64 ((ji7) + 1)), (x11_1), (by first | rfl | (simp; done) | (simp only [← hji7] <;> (first | rfl | simp)) | (simp [*]; done)), (by first | rfl | (simp; done) | (simp [*]; done)), H', ⟨by have := HK1.out; omega⟩, ⟨by (with_reducible repeat (first | apply Kd.R_alloc | apply Kd.R_drewN | apply Kd.R_drew)); exact HO_0.out⟩, ⟨by repeat (first | (with_reducible first | exact HK.out | apply Kept.alloc | apply Kept.drewN | apply Kept.drew) | exact HK.out)⟩, ⟨by repeat (first | (with_reducible first | exact HB.out | apply below_alloc | apply pw_below_drewN | apply below_drew1) | exact HB.out)⟩⟩
         ·rw [if_neg c13] at H
          have c13b0 : decide (t212 < 0) = false := decide_eq_false c13
          clear c13
          have H' := Aside0.mk H
          clear H
          try go_wp2
          have n0_ := Aside0.mk (Kd.R_drew HO_0.out)
          have n1_ := Aside0.mk (Kept.drew HK.out)
          have n2_ := Aside0.mk (below_drew1 HB.out)
          clear HO_0
          clear HK
          clear HB
          have HO_0 := n0_
          have HK := n1_
          have HB := n2_
          clear n0_ n1_ n2_
          obtain ⟨Ao18, co18, eo18⟩ := Kd.R_slice HO_0.out
          (first | subst eo18 | (injection eo18 with f1_ f2_ f3_; have f4_ := f1_.symm; have f5_ := f3_.symm; clear f1_ f2_ f3_; subst f4_; subst f5_))
          have p210 : 0 ≤ ((ji7) : Int) := of_decide_eq_true (by first | (with_reducible assumption) | assumption)
          have q210 : (ji7) < (l0.length : Int) := of_decide_eq_true (by first | (with_reducible assumption) | assumption)
          obtain ⟨ad210, e210, hx210_0, hx210_1, hx210_2, hx210_3, hx210_4⟩ := at_T55 (Kd.R_reads' HO_0.out).2.2 (ji7) p210 q210
          cases e210
          replace p210 := eq_true p210
          replace q210 := eq_true q210
          have p211 : 0 ≤ (a1 : Int) := of_decide_eq_true (by first | (with_reducible assumption) | assumption)
          have q211 : a1 < (l0.length : Int) := of_decide_eq_true (by first | (with_reducible assumption) | assumption)
          obtain ⟨ad211, e211, hx211_0, hx211_1, hx211_2, hx211_3, hx211_4⟩ := at_T55 (Kd.R_reads' HO_0.out).2.2 a1 p211 q211
          obtain rfl : ad210 = ad211 := (by injection e211)
          replace p211 := eq_true p211
          replace q211 := eq_true q211
          refine start_ (n := 11) (S := fun w' => w'.cell? (ad210.add (((ji7)).toNat * 5)) = some (.int .i64 ((rd_T55 l0 (ji7)).f0)) ∧ w'.cell? ⟨(ad210.add (((ji7)).toNat * 5)).block, (ad210.add (((ji7)).toNat * 5)).off + 1, none⟩ = some (.int .i64 ((rd_T55 l0 (ji7)).f1.f0)) ∧ w'.cell? ⟨(ad210.add (((ji7)).toNat * 5)).block, (ad210.add (((ji7)).toNat * 5)).off + 2, none⟩ = some (.int .i64 ((rd_T55 l0 (ji7)).f1.f1)) ∧ w'.cell? ⟨(ad210.add (((ji7)).toNat * 5)).block, (ad210.add (((ji7)).toNat * 5)).off + 3, none⟩ = some (.int .i64 ((rd_T55 l0 (ji7)).f1.f2)) ∧ w'.cell? ⟨(ad210.add (((ji7)).toNat * 5)).block, (ad210.add (((ji7)).toNat * 5)).off + 4, none⟩ = some (.int .i64 ((rd_T55 l0 (ji7)).f1.f3)) ∧ w'.cell? (ad210.add ((a1).toNat * 5)) = some (.int .i64 ((rd_T55 l0 a1).f0)) ∧ w'.cell? ⟨(ad210.add ((a1).toNat * 5)).block, (ad210.add ((a1).toNat * 5)).off + 1, none⟩ = some (.int .i64 ((rd_T55 l0 a1).f1.f0)) ∧ w'.cell? ⟨(ad210.add ((a1).toNat * 5)).block, (ad210.add ((a1).toNat * 5)).off + 2, none⟩ = some (.int .i64 ((rd_T55 l0 a1).f1.f1)) ∧ w'.cell? ⟨(ad210.add ((a1).toNat * 5)).block, (ad210.add ((a1).toNat * 5)).off + 3, none⟩ = some (.int .i64 ((rd_T55 l0 a1).f1.f2)) ∧ w'.cell? ⟨(ad210.add ((a1).toNat * 5)).block, (ad210.add ((a1).toNat * 5)).off + 4, none⟩ = some (.int .i64 ((rd_T55 l0 a1).f1.f3))) (ds := []) #[false, false, false, false, false, false, false, false, false, false, false] (by kernel_rfl) rfl rfl ⟨hx210_0, hx210_1, hx210_2, hx210_3, hx210_4, hx211_0, hx211_1, hx211_2, hx211_3, hx211_4⟩ (fun hHeld => ?_); refine with_tabW impl_Item_80.tab5 impl_Item_80.bits5 (fun HT_ HW_ => ?_)
          generalize wr.drew = w17 at HO_0 HK HB hx210_0 hx210_1 hx210_2 hx210_3 hx210_4 hx211_0 hx211_1 hx211_2 hx211_3 hx211_4 hHeld ⊢
          refine pure_ (i := 0) (N := some 40) (v := ?_) (a' := ?_) #[true, false, false, false, false, false, false, false, false, false, false] rfl rfl (any_of HT_.out (by kernel_rfl)) (fun _ _ _ h => h) (Or.inl ⟨by rfl, ?_⟩) ?_ ?_
          rotate_left
          ·intro w'
           go_simp
           with_reducible rfl
          rotate_left
          ·simp only [Act.put, List.setIfInBounds_toArray, List.set_cons_zero, List.set_cons_succ, i64_w, i32_w]
           rfl
          refine pure_ (i := 1) (N := some 41) (v := ?_) (a' := ?_) #[true, true, false, false, false, false, false, false, false, false, false] rfl rfl (any_of HT_.out (by kernel_rfl)) (fun _ _ _ h => h) (Or.inl ⟨by rfl, ?_⟩) ?_ ?_
          rotate_left
          ·intro w'
           go_simp
           with_reducible rfl
          rotate_left
          ·simp only [Act.put, List.setIfInBounds_toArray, List.set_cons_zero, List.set_cons_succ, i64_w, i32_w]
           rfl
          refine pure_ (i := 2) (N := some 42) (v := ?_) (a' := ?_) #[true, true, true, false, false, false, false, false, false, false, false] rfl rfl (any_of HT_.out (by kernel_rfl)) (fun _ _ _ h => h) (Or.inl ⟨by rfl, ?_⟩) ?_ ?_
          rotate_left
          ·intro w'
           go_simp
           with_reducible rfl
          rotate_left
          ·simp only [Act.put, List.setIfInBounds_toArray, List.set_cons_zero, List.set_cons_succ, i64_w, i32_w]
           rfl
          refine pure_ (i := 3) (N := some 43) (v := ?_) (a' := ?_) #[true, true, true, true, false, false, false, false, false, false, false] rfl rfl (any_of HT_.out (by kernel_rfl)) (fun _ _ _ h => h) (Or.inl ⟨by rfl, ?_⟩) ?_ ?_
          rotate_left
          ·intro w'
           go_simp
           with_reducible rfl
          rotate_left
          ·simp only [Act.put, List.setIfInBounds_toArray, List.set_cons_zero, List.set_cons_succ, i64_w, i32_w]
           rfl
          refine pure_ (i := 5) (N := some 45) (v := ?_) (a' := ?_) #[true, true, true, true, false, true, false, false, false, false, false] rfl rfl (any_of HT_.out (by kernel_rfl)) (fun _ _ _ h => h) (Or.inl ⟨by rfl, ?_⟩) ?_ ?_
          rotate_left
          ·intro w'
           go_simp
           with_reducible rfl
          rotate_left
          ·simp only [Act.put, List.setIfInBounds_toArray, List.set_cons_zero, List.set_cons_succ, i64_w, i32_w]
           rfl
          refine pure_ (i := 6) (N := some 46) (v := ?_) (a' := ?_) #[true, true, true, true, false, true, true, false, false, false, false] rfl rfl (any_of HT_.out (by kernel_rfl)) (fun _ _ _ h => h) (Or.inl ⟨by rfl, ?_⟩) ?_ ?_
          rotate_left
          ·intro w'
           go_simp
           with_reducible rfl
          rotate_left
          ·simp only [Act.put, List.setIfInBounds_toArray, List.set_cons_zero, List.set_cons_succ, i64_w, i32_w]
           rfl
          refine pure_ (i := 7) (N := some 47) (v := ?_) (a' := ?_) #[true, true, true, true, false, true, true, true, false, false, false] rfl rfl (any_of HT_.out (by kernel_rfl)) (fun _ _ _ h => h) (Or.inl ⟨by rfl, ?_⟩) ?_ ?_
          rotate_left
          ·intro w'
           go_simp
           with_reducible rfl
          rotate_left
          ·simp only [Act.put, List.setIfInBounds_toArray, List.set_cons_zero, List.set_cons_succ, i64_w, i32_w]
           rfl
          refine take_ (i := 4) (N := some 44) (v := ?_) (a' := ?_) #[true, true, true, true, true, true, true, true, false, false, false] rfl rfl (take_ofW HT_.out HW_.out (by kernel_rfl)) (fun _ _ _ h => h) (Or.inl ⟨by rfl, ?_⟩) hHeld ?_ ?_
          rotate_left
          ·rintro w' ⟨s0, s1, s2, s3, s4, s5, s6, s7, s8, s9⟩
           go_simp
           with_reducible rfl
          rotate_left
          ·simp only [Act.put, List.setIfInBounds_toArray, List.set_cons_zero, List.set_cons_succ, i64_w, i32_w]
           rfl
          refine take_ (i := 8) (N := some 48) (v := ?_) (a' := ?_) #[true, true, true, true, true, true, true, true, true, false, false] rfl rfl (take_ofW HT_.out HW_.out (by kernel_rfl)) (fun _ _ _ h => h) (Or.inl ⟨by rfl, ?_⟩) hHeld ?_ ?_
          rotate_left
          ·rintro w' ⟨s0, s1, s2, s3, s4, s5, s6, s7, s8, s9⟩
           go_simp
           with_reducible rfl
          rotate_left
          ·simp only [Act.put, List.setIfInBounds_toArray, List.set_cons_zero, List.set_cons_succ, i64_w, i32_w]
           rfl
          refine one_ (i := 9) (N := some 49) #[true, true, true, true, true, true, true, true, true, true, false] rfl rfl (one_of HT_.out (by kernel_rfl)) (by decide) (fun K hK => ?_)
          refine goesV_ Try.func33 (by kernel_rfl) rfl #[.agg #[.int .i64 ((rd_T55 l0 (ji7)).f0), .int .i64 ((rd_T55 l0 (ji7)).f1.f0), .int .i64 ((rd_T55 l0 (ji7)).f1.f1), .int .i64 ((rd_T55 l0 (ji7)).f1.f2), .int .i64 ((rd_T55 l0 (ji7)).f1.f3)], .agg #[.int .i64 ((rd_T55 l0 a1).f0), .int .i64 ((rd_T55 l0 a1).f1.f0), .int .i64 ((rd_T55 l0 a1).f1.f1), .int .i64 ((rd_T55 l0 a1).f1.f2), .int .i64 ((rd_T55 l0 a1).f1.f3)]] (by rfl) rfl rfl (by (try simp only [List.map_toArray, List.map_cons, List.map_nil]); first | done | (simp only [hji7]; rfl) | rfl | (simp only [List.length_drop, List.length_take]; rfl)) ?_
          with_reducible refine (impl_order.calls k1 ((rd_T55 l0 (ji7)).f0) ((rd_T55 l0 (ji7)).f1.f0) ((rd_T55 l0 (ji7)).f1.f1) ((rd_T55 l0 (ji7)).f1.f2) ((rd_T55 l0 (ji7)).f1.f3) ((rd_T55 l0 a1).f0) ((rd_T55 l0 a1).f1.f0) ((rd_T55 l0 a1).f1.f1) ((rd_T55 l0 a1).f1.f2) ((rd_T55 l0 a1).f1.f3) t212 _ A12.out).mono ?_
          rintro e w19 ⟨rfl, hb⟩
          have HS0_ := (hb.cell (World.block_lt_of_cell? _ _ (hHeld.1))).trans (hHeld.1)
          have HS1_ := (hb.cell (World.block_lt_of_cell? _ _ (hHeld.2.1))).trans (hHeld.2.1)
          have HS2_ := (hb.cell (World.block_lt_of_cell? _ _ (hHeld.2.2.1))).trans (hHeld.2.2.1)
          have HS3_ := (hb.cell (World.block_lt_of_cell? _ _ (hHeld.2.2.2.1))).trans (hHeld.2.2.2.1)
          have HS4_ := (hb.cell (World.block_lt_of_cell? _ _ (hHeld.2.2.2.2.1))).trans (hHeld.2.2.2.2.1)
          have HS5_ := (hb.cell (World.block_lt_of_cell? _ _ (hHeld.2.2.2.2.2.1))).trans (hHeld.2.2.2.2.2.1)
          have HS6_ := (hb.cell (World.block_lt_of_cell? _ _ (hHeld.2.2.2.2.2.2.1))).trans (hHeld.2.2.2.2.2.2.1)
          have HS7_ := (hb.cell (World.block_lt_of_cell? _ _ (hHeld.2.2.2.2.2.2.2.1))).trans (hHeld.2.2.2.2.2.2.2.1)
          have HS8_ := (hb.cell (World.block_lt_of_cell? _ _ (hHeld.2.2.2.2.2.2.2.2.1))).trans (hHeld.2.2.2.2.2.2.2.2.1)
          have HS9_ := (hb.cell (World.block_lt_of_cell? _ _ (hHeld.2.2.2.2.2.2.2.2.2))).trans (hHeld.2.2.2.2.2.2.2.2.2)
          refine ⟨_, rfl, ?_⟩
          have n0_ := Aside0.mk (Kd.R_below (by (with_reducible repeat (first | apply Kd.R_alloc | apply Kd.R_drewN | apply Kd.R_drew)); exact HO_0.out) hb)
          have n1_ := Aside0.mk (Kept.below (S := (fun k_ => P0_ k_)) (by repeat (first | (with_reducible first | exact HK.out | apply Kept.alloc | apply Kept.drewN | apply Kept.drew) | exact HK.out)) hb)
          have n2_ := Aside0.mk (below_step (by repeat (first | (with_reducible first | exact HB.out | apply below_alloc | apply pw_below_drewN | apply below_drew1) | exact HB.out)) hb)
          clear HO_0
          clear HK
          clear HB
          have HO_0 := n0_
          have HK := n1_
          have HB := n2_
          clear n0_ n1_ n2_
          (try clear hb)
          (try clear hb2)
          (try clear hk)
          (try clear hi)
          refine hK.out _ _ ⟨HS0_, HS1_, HS2_, HS3_, HS4_, HS5_, HS6_, HS7_, HS8_, HS9_⟩ (fun hHeld => ?_)
          clear hK K
          refine norm_ (a' := ?_) ?_ ?_
          rotate_left
          ·show Act.put _ (some 49) _ = _
           simp only [Act.put, List.setIfInBounds_toArray, List.set_cons_zero, List.set_cons_succ, i64_w, i32_w]
           rfl
          refine pure_ (i := 10) (N := some 50) (v := ?_) (a' := ?_) #[true, true, true, true, true, true, true, true, true, true, true] rfl rfl (any_of HT_.out (by kernel_rfl)) (fun _ _ _ h => h) (Or.inl ⟨by rfl, ?_⟩) ?_ ?_
          rotate_left
          ·intro w'
           go_simp
           with_reducible rfl
          rotate_left
          ·simp only [Act.put, List.setIfInBounds_toArray, List.set_cons_zero, List.set_cons_succ, i64_w, i32_w]
           rfl
          refine done_ (done_of HT_.out (by kernel_rfl)) ?_
          try go_wp2
          go_roundg k1
          case measure => have := HK1.out; omega
          case rel => exact ⟨(x10_1), (ji7), (by first | rfl | (simp; done) | (simp [*]; done)), (by first | rfl | (simp; done) | (simp only [← hji7] <;> (first | rfl | simp)) | (simp [*]; done)), H', ⟨by have := HK1.out; omega⟩, ⟨by (with_reducible repeat (first | apply Kd.R_alloc | apply Kd.R_drewN | apply Kd.R_drew)); exact HO_0.out⟩, ⟨by repeat (first | (with_reducible first | exact HK.out | apply Kept.alloc | apply Kept.drewN | apply Kept.drew) | exact HK.out)⟩, ⟨by repeat (first | (with_reducible first | exact HB.out | apply below_alloc | apply pw_below_drewN | apply below_drew1) | exact HB.out)⟩⟩
        ·rw [if_neg c11] at H
         exact absurd H (by simp)
       ·rw [if_neg c10] at H
        exact absurd H (by simp)
      ·rw [if_neg c9] at H
       exact absurd H (by simp)
     ·rw [if_neg c8] at H
      exact absurd H (by simp)
    ·rw [if_neg c6] at H
     have c6b0 : decide (x10_1 < x11_1) = false := decide_eq_false c6
     clear c6
     have H' := Aside0.mk H
     clear H
     go_wp2
     go_loopg [13] k1 (fun kq v13 w' => ∃ (x0_2 : List (S55)) (x13_2 : Int), v13 = .int .i64 x13_2 ∧ Aside0 (impl_Item_80.l1 kq x0_2 x10_1 x13_2 = some r) ∧ Aside0 (kq ≤ k1) ∧ Aside0 (Kd.R k55 55 w' w0.heap.size (fun k_ => (P0_ k_ ∨ w.heap.size ≤ k_)) u9000_ x0_2) ∧ Aside0 (Kept w w' (fun k_ => P0_ k_)) ∧ Aside0 (Below w0.heap.size w0 w'))
     case atStart => exact ⟨(l0), (a1), (by first | rfl | (simp; done) | (simp [*]; done)), H', ⟨Nat.le_refl _⟩, ⟨by (with_reducible repeat (first | apply Kd.R_alloc | apply Kd.R_drewN | apply Kd.R_drew)); exact HO_0.out⟩, ⟨by repeat (first | (with_reducible first | exact HK.out | apply Kept.alloc | apply Kept.drewN | apply Kept.drew) | exact HK.out)⟩, ⟨by repeat (first | (with_reducible first | exact HB.out | apply below_alloc | apply pw_below_drewN | apply below_drew1) | exact HB.out)⟩⟩
     case round =>
      clear H'
      try clear c1
      try clear p2
      try clear q2
      try clear hx2
      try clear c3
      try clear c5
      try clear c5b0
      try clear c5b1
      try clear c6
      try clear c6b0
      try clear p6
      try clear c8
      try clear c8b0
      try clear c9
      try clear c9b0
      try clear c10
      try clear c10b0
      try clear c11
      try clear c11b0
      try clear c13
      try clear c13b0
      try clear hx210_0
      try clear hx210_1
      try clear hx210_2
      try clear hx210_3
      try clear hx210_4
      try clear hx211_0
      try clear hx211_1
      try clear hx211_2
      try clear hx211_3
      try clear hx211_4
      try clear p2
      try clear p210
      try clear p211
      try clear q210
      try clear q211
      obtain ⟨x0_2, x13_2, rfl, HA, HK2, HO_0, HK, HB⟩ := hrel
      cases gk with
      | zero => exact absurd HA.out (by simp [impl_Item_80.l1])
      | succ k2 =>
       have H := HA.out
       clear HA
       simp only [impl_Item_80.l1] at H
       by_cases c20 : x13_2 < (wrap64 (x10_1 - 1))
       ·rw [if_pos c20] at H
        have c20b0 : decide (x13_2 < (wrap64 (x10_1 - 1))) = true := decide_eq_true c20
        clear c20
        obtain ⟨ji21, hji21⟩ : ∃ j_ : Int, (wrap64 (x13_2 + 1)) = j_ := ⟨_, rfl⟩
        replace H : (if 0 ≤ (ji21) then (if (ji21) < (x0_2.length : Int) then (if 0 ≤ x13_2 then (if x13_2 < (x0_2.length : Int) then (if x13_2 = (ji21) then none else (impl_Item_80.l1 k2 ((x0_2.set (x13_2 : Int).toNat (⟨(rd_T55 x0_2 (ji21)).f0, (⟨(rd_T55 x0_2 (ji21)).f1.f0, (rd_T55 x0_2 (ji21)).f1.f1, (rd_T55 x0_2 (ji21)).f1.f2, (rd_T55 x0_2 (ji21)).f1.f3⟩ : S41)⟩ : S55)).set ((ji21) : Int).toNat (⟨(rd_T55 x0_2 x13_2).f0, (⟨(rd_T55 x0_2 x13_2).f1.f0, (rd_T55 x0_2 x13_2).f1.f1, (rd_T55 x0_2 x13_2).f1.f2, (rd_T55 x0_2 x13_2).f1.f3⟩ : S41)⟩ : S55)) x10_1 ji21)) else (none)) else (none)) else (none)) else (none)) = some r := by first | (rw [hji21] at H; exact H) | (simp only [hji21] at H ⊢; exact H)
        have hji21w : (IntKind.i64.wrap (x13_2 + 1)) = ji21 := (i64_w _).trans hji21
        by_cases c22 : 0 ≤ (ji21)
        ·rw [if_pos c22] at H
         have c22b0 : decide (0 ≤ (ji21)) = true := decide_eq_true c22
         clear c22
         by_cases c23 : (ji21) < (x0_2.length : Int)
         ·rw [if_pos c23] at H
          have c23b0 : decide ((ji21) < (x0_2.length : Int)) = true := decide_eq_true c23
          clear c23
          by_cases c24 : 0 ≤ x13_2
          ·rw [if_pos c24] at H
           have c24b0 : decide (0 ≤ x13_2) = true := decide_eq_true c24
           clear c24
           by_cases c25 : x13_2 < (x0_2.length : Int)
           ·rw [if_pos c25] at H
            have c25b0 : decide (x13_2 < (x0_2.length : Int)) = true := decide_eq_true c25
            clear c25
            by_cases hne_ : x13_2 = (ji21)
            ·rw [if_pos hne_] at H; exact absurd H (by simp)
            rw [if_neg hne_] at H
            have hn0_ : 0 ≤ (x13_2 : Int) := of_decide_eq_true (by first | (with_reducible assumption) | assumption)
            have hn1_ : 0 ≤ ((ji21) : Int) := of_decide_eq_true (by first | (with_reducible assumption) | assumption)
            have hnA_ : ((x13_2 : Int).toNat = ((ji21) : Int).toNat) = False := eq_false (by omega)
            have hnB_ : (((ji21) : Int).toNat = (x13_2 : Int).toNat) = False := eq_false (by omega)
            have hnA0_ : ((x13_2 : Int).toNat * 5 = ((ji21) : Int).toNat * 5) = False := eq_false (by omega)
            have hnB0_ : (((ji21) : Int).toNat * 5 = (x13_2 : Int).toNat * 5) = False := eq_false (by omega)
            have hnA1_ : ((x13_2 : Int).toNat * 5 + 1 = ((ji21) : Int).toNat * 5 + 1) = False := eq_false (by omega)
            have hnB1_ : (((ji21) : Int).toNat * 5 + 1 = (x13_2 : Int).toNat * 5 + 1) = False := eq_false (by omega)
            have hnA2_ : ((x13_2 : Int).toNat * 5 + 2 = ((ji21) : Int).toNat * 5 + 2) = False := eq_false (by omega)
            have hnB2_ : (((ji21) : Int).toNat * 5 + 2 = (x13_2 : Int).toNat * 5 + 2) = False := eq_false (by omega)
            have hnA3_ : ((x13_2 : Int).toNat * 5 + 3 = ((ji21) : Int).toNat * 5 + 3) = False := eq_false (by omega)
            have hnB3_ : (((ji21) : Int).toNat * 5 + 3 = (x13_2 : Int).toNat * 5 + 3) = False := eq_false (by omega)
            have hnA4_ : ((x13_2 : Int).toNat * 5 + 4 = ((ji21) : Int).toNat * 5 + 4) = False := eq_false (by omega)
            have hnB4_ : (((ji21) : Int).toNat * 5 + 4 = (x13_2 : Int).toNat * 5 + 4) = False := eq_false (by omega)
            clear hn0_ hn1_ hne_
            obtain ⟨y215, hy215⟩ : ∃ y_ : List (S55), y_ = (x0_2.set (x13_2 : Int).toNat (⟨(rd_T55 x0_2 (ji21)).f0, (⟨(rd_T55 x0_2 (ji21)).f1.f0, (rd_T55 x0_2 (ji21)).f1.f1, (rd_T55 x0_2 (ji21)).f1.f2, (rd_T55 x0_2 (ji21)).f1.f3⟩ : S41)⟩ : S55)) := ⟨_, rfl⟩
            replace H : (impl_Item_80.l1 k2 (y215.set ((ji21) : Int).toNat (⟨(rd_T55 x0_2 x13_2).f0, (⟨(rd_T55 x0_2 x13_2).f1.f0, (rd_T55 x0_2 x13_2).f1.f1, (rd_T55 x0_2 x13_2).f1.f2, (rd_T55 x0_2 x13_2).f1.f3⟩ : S41)⟩ : S55)) x10_1 ji21) = some r := by first | (rw [hy215]; with_reducible exact H) | (have H2_ := (Option.bind_some _ _).symm.trans H; rw [hy215]; with_reducible exact H2_) | (have H2_ := (Option.bind_some _ _).symm.trans H; with_reducible exact H2_) | with_reducible exact H | (rw [hy215]; exact H) | exact H
            have Ny215 := Aside0.mk hy215
            clear hy215
            obtain ⟨y216, hy216⟩ : ∃ y_ : List (S55), y_ = (y215.set ((ji21) : Int).toNat (⟨(rd_T55 x0_2 x13_2).f0, (⟨(rd_T55 x0_2 x13_2).f1.f0, (rd_T55 x0_2 x13_2).f1.f1, (rd_T55 x0_2 x13_2).f1.f2, (rd_T55 x0_2 x13_2).f1.f3⟩ : S41)⟩ : S55)) := ⟨_, rfl⟩
            replace H : (impl_Item_80.l1 k2 y216 x10_1 ji21) = some r := by first | (rw [hy216]; with_reducible exact H) | (have H2_ := (Option.bind_some _ _).symm.trans H; rw [hy216]; with_reducible exact H2_) | (have H2_ := (Option.bind_some _ _).symm.trans H; with_reducible exact H2_) | with_reducible exact H | (rw [hy216]; exact H) | exact H
            have Ny216 := Aside0.mk hy216
            clear hy216
            have H' := Aside0.mk H
            clear H
            try go_wp2
            have n0_ := Aside0.mk (Kd.R_drew HO_0.out)
            have n1_ := Aside0.mk (Kept.drew HK.out)
            have n2_ := Aside0.mk (below_drew1 HB.out)
            clear HO_0
            clear HK
            clear HB
            have HO_0 := n0_
            have HK := n1_
            have HB := n2_
            clear n0_ n1_ n2_
            obtain ⟨Ao29, co29, eo29⟩ := Kd.R_slice HO_0.out
            (first | subst eo29 | (injection eo29 with f1_ f2_ f3_; have f4_ := f1_.symm; have f5_ := f3_.symm; clear f1_ f2_ f3_; subst f4_; subst f5_))
            have p213 : 0 ≤ ((ji21) : Int) := of_decide_eq_true (by first | (with_reducible assumption) | assumption)
            have q213 : (ji21) < (x0_2.length : Int) := of_decide_eq_true (by first | (with_reducible assumption) | assumption)
            obtain ⟨ad213, e213, hx213_0, hx213_1, hx213_2, hx213_3, hx213_4⟩ := at_T55 (Kd.R_reads' HO_0.out).2.2 (ji21) p213 q213
            cases e213
            replace p213 := eq_true p213
            replace q213 := eq_true q213
            have p214 : 0 ≤ (x13_2 : Int) := of_decide_eq_true (by first | (with_reducible assumption) | assumption)
            have q214 : x13_2 < (x0_2.length : Int) := of_decide_eq_true (by first | (with_reducible assumption) | assumption)
            obtain ⟨ad214, e214, hx214_0, hx214_1, hx214_2, hx214_3, hx214_4⟩ := at_T55 (Kd.R_reads' HO_0.out).2.2 x13_2 p214 q214
            obtain rfl : ad213 = ad214 := (by injection e214)
            replace p214 := eq_true p214
            replace q214 := eq_true q214
            have p26 : 0 ≤ (x13_2 : Int) := of_decide_eq_true (by first | (with_reducible assumption) | assumption)
            have q26 : (x13_2 : Int) < ((x0_2.length : Int) : Int) := of_decide_eq_true (by first | (with_reducible assumption) | assumption)
            obtain ⟨go26, co26, eo26, gb26, gl26, cl26, HG26⟩ := Kd.R_form HO_0.out (by omega)
            (first | cases eo26 | (injection eo26 with ea_ en_ ec_; (first | subst ea_ | (injection ea_ with ea_; subst ea_)); subst ec_; clear en_))
            have GB26 := Aside0.mk gb26
            have GG26 := Aside0.mk HG26
            clear gb26 gl26 HG26
            have HMgo26 := Aside0.mk (show (P0_ go26 ∨ w.heap.size ≤ go26) from (HO_0.out.1 _ rfl))
            (first | simp only [add_plain] at hx213_0 | skip)
            (first | simp only [add_plain] at hx213_1 | skip)
            (first | simp only [add_plain] at hx213_2 | skip)
            (first | simp only [add_plain] at hx213_3 | skip)
            (first | simp only [add_plain] at hx213_4 | skip)
            (first | simp only [add_plain] at hx214_0 | skip)
            (first | simp only [add_plain] at hx214_1 | skip)
            (first | simp only [add_plain] at hx214_2 | skip)
            (first | simp only [add_plain] at hx214_3 | skip)
            (first | simp only [add_plain] at hx214_4 | skip)
            obtain ⟨ce26, hcl26, hM26, hcc26, hfr26⟩ := Kd.R_elem HO_0.out z55 (x13_2 : Int) p26 q26
            obtain rfl := k55_openM hM26
            have hx26_0 : World.cell? _ ⟨go26, (x13_2 : Int).toNat * 5, none⟩ = some (.int .i64 ((rd_T55 x0_2 x13_2).f0)) := hcc26 0 _ rfl
            have hx26_1 : World.cell? _ ⟨go26, (x13_2 : Int).toNat * 5 + 1, none⟩ = some (.int .i64 ((rd_T55 x0_2 x13_2).f1.f0)) := hcc26 1 _ rfl
            have hx26_2 : World.cell? _ ⟨go26, (x13_2 : Int).toNat * 5 + 2, none⟩ = some (.int .i64 ((rd_T55 x0_2 x13_2).f1.f1)) := hcc26 2 _ rfl
            have hx26_3 : World.cell? _ ⟨go26, (x13_2 : Int).toNat * 5 + 3, none⟩ = some (.int .i64 ((rd_T55 x0_2 x13_2).f1.f2)) := hcc26 3 _ rfl
            have hx26_4 : World.cell? _ ⟨go26, (x13_2 : Int).toNat * 5 + 4, none⟩ = some (.int .i64 ((rd_T55 x0_2 x13_2).f1.f3)) := hcc26 4 _ rfl
            have hf26_0 : World.frozen? _ ⟨go26, (x13_2 : Int).toNat * 5, none⟩ = false := hfr26 0
            have hf26_1 : World.frozen? _ ⟨go26, (x13_2 : Int).toNat * 5 + 1, none⟩ = false := hfr26 1
            have hf26_2 : World.frozen? _ ⟨go26, (x13_2 : Int).toNat * 5 + 2, none⟩ = false := hfr26 2
            have hf26_3 : World.frozen? _ ⟨go26, (x13_2 : Int).toNat * 5 + 3, none⟩ = false := hfr26 3
            have hf26_4 : World.frozen? _ ⟨go26, (x13_2 : Int).toNat * 5 + 4, none⟩ = false := hfr26 4
            clear hcl26 hcc26 hfr26 hM26
            replace p26 := eq_true p26
            replace q26 := eq_true q26
            obtain ⟨ce30, hcl30, hM30, hcc30, hfr30⟩ := Kd.R_elem HO_0.out z55 (x13_2 : Int) (of_decide_eq_true (by first | (with_reducible assumption) | assumption)) (by have h_ : (x13_2 : Int) < ((x0_2.length : Int) : Int) := of_decide_eq_true (by first | (with_reducible assumption) | assumption); first | exact h_ | (have e_ := (Kd.R_reads' HO_0.out).1; omega) | simpa using h_)
            obtain rfl := k55_openM hM30
            have HP30 := (Kd.R_seg HO_0.out (x13_2 : Int) (of_decide_eq_true (by first | (with_reducible assumption) | assumption)) (by have h_ : (x13_2 : Int) < ((x0_2.length : Int) : Int) := of_decide_eq_true (by first | (with_reducible assumption) | assumption); first | exact h_ | (have e_ := (Kd.R_reads' HO_0.out).1; omega) | simpa using h_) (seg := [.int .i64 ((rd_T55 x0_2 (ji21)).f0), .int .i64 ((rd_T55 x0_2 (ji21)).f1.f0), .int .i64 ((rd_T55 x0_2 (ji21)).f1.f1), .int .i64 ((rd_T55 x0_2 (ji21)).f1.f2), .int .i64 ((rd_T55 x0_2 (ji21)).f1.f3)]) (j := 0) hcl30 hcc30 (show 5 ≤ 5 from by decide) (x' := (⟨(rd_T55 x0_2 (ji21)).f0, (⟨(rd_T55 x0_2 (ji21)).f1.f0, (rd_T55 x0_2 (ji21)).f1.f1, (rd_T55 x0_2 (ji21)).f1.f2, (rd_T55 x0_2 (ji21)).f1.f3⟩ : S41)⟩ : S55)) (k55_mkM _ _ _ (⟨(rd_T55 x0_2 (ji21)).f0, (⟨(rd_T55 x0_2 (ji21)).f1.f0, (rd_T55 x0_2 (ji21)).f1.f1, (rd_T55 x0_2 (ji21)).f1.f2, (rd_T55 x0_2 (ji21)).f1.f3⟩ : S41)⟩ : S55) ) (fun _ hk => hk)).1
            rw [← Ny215.out] at HP30
            have HQ30 := Aside0.mk HP30
            clear hcl30 hcc30 hfr30 hM30 HP30
            have p27 : 0 ≤ ((ji21) : Int) := of_decide_eq_true (by first | (with_reducible assumption) | assumption)
            have q27 : ((ji21) : Int) < ((x0_2.length : Int) : Int) := of_decide_eq_true (by first | (with_reducible assumption) | assumption)
            obtain ⟨ce27, hcl27, hM27, hcc27, hfr27⟩ := Kd.R_elem HQ30.out z55 ((ji21) : Int) p27 q27
            obtain rfl := k55_openM hM27
            have hx27_0 : World.cell? _ ⟨go26, ((ji21) : Int).toNat * 5, none⟩ = some (.int .i64 ((rd_T55 y215 (ji21)).f0)) := hcc27 0 _ rfl
            have hx27_1 : World.cell? _ ⟨go26, ((ji21) : Int).toNat * 5 + 1, none⟩ = some (.int .i64 ((rd_T55 y215 (ji21)).f1.f0)) := hcc27 1 _ rfl
            have hx27_2 : World.cell? _ ⟨go26, ((ji21) : Int).toNat * 5 + 2, none⟩ = some (.int .i64 ((rd_T55 y215 (ji21)).f1.f1)) := hcc27 2 _ rfl
            have hx27_3 : World.cell? _ ⟨go26, ((ji21) : Int).toNat * 5 + 3, none⟩ = some (.int .i64 ((rd_T55 y215 (ji21)).f1.f2)) := hcc27 3 _ rfl
            have hx27_4 : World.cell? _ ⟨go26, ((ji21) : Int).toNat * 5 + 4, none⟩ = some (.int .i64 ((rd_T55 y215 (ji21)).f1.f3)) := hcc27 4 _ rfl
            have hf27_0 : World.frozen? _ ⟨go26, ((ji21) : Int).toNat * 5, none⟩ = false := hfr27 0
            have hf27_1 : World.frozen? _ ⟨go26, ((ji21) : Int).toNat * 5 + 1, none⟩ = false := hfr27 1
            have hf27_2 : World.frozen? _ ⟨go26, ((ji21) : Int).toNat * 5 + 2, none⟩ = false := hfr27 2
            have hf27_3 : World.frozen? _ ⟨go26, ((ji21) : Int).toNat * 5 + 3, none⟩ = false := hfr27 3
            have hf27_4 : World.frozen? _ ⟨go26, ((ji21) : Int).toNat * 5 + 4, none⟩ = false := hfr27 4
            clear hcl27 hcc27 hfr27 hM27
            replace p27 := eq_true p27
            replace q27 := eq_true q27
            obtain ⟨ce31, hcl31, hM31, hcc31, hfr31⟩ := Kd.R_elem HQ30.out z55 ((ji21) : Int) (of_decide_eq_true (by first | (with_reducible assumption) | assumption)) (by have h_ : ((ji21) : Int) < ((x0_2.length : Int) : Int) := of_decide_eq_true (by first | (with_reducible assumption) | assumption); first | exact h_ | (have e_ := (Kd.R_reads' HO_0.out).1; omega) | simpa using h_)
            obtain rfl := k55_openM hM31
            have HP31 := (Kd.R_seg HQ30.out ((ji21) : Int) (of_decide_eq_true (by first | (with_reducible assumption) | assumption)) (by have h_ : ((ji21) : Int) < ((x0_2.length : Int) : Int) := of_decide_eq_true (by first | (with_reducible assumption) | assumption); first | exact h_ | (have e_ := (Kd.R_reads' HO_0.out).1; omega) | simpa using h_) (seg := [.int .i64 ((rd_T55 x0_2 x13_2).f0), .int .i64 ((rd_T55 x0_2 x13_2).f1.f0), .int .i64 ((rd_T55 x0_2 x13_2).f1.f1), .int .i64 ((rd_T55 x0_2 x13_2).f1.f2), .int .i64 ((rd_T55 x0_2 x13_2).f1.f3)]) (j := 0) hcl31 hcc31 (show 5 ≤ 5 from by decide) (x' := (⟨(rd_T55 x0_2 x13_2).f0, (⟨(rd_T55 x0_2 x13_2).f1.f0, (rd_T55 x0_2 x13_2).f1.f1, (rd_T55 x0_2 x13_2).f1.f2, (rd_T55 x0_2 x13_2).f1.f3⟩ : S41)⟩ : S55)) (k55_mkM _ _ _ (⟨(rd_T55 x0_2 x13_2).f0, (⟨(rd_T55 x0_2 x13_2).f1.f0, (rd_T55 x0_2 x13_2).f1.f1, (rd_T55 x0_2 x13_2).f1.f2, (rd_T55 x0_2 x13_2).f1.f3⟩ : S41)⟩ : S55) ) (fun _ hk => hk)).1
            rw [← Ny216.out] at HP31
            have HQ31 := Aside0.mk HP31
            clear hcl31 hcc31 hfr31 hM31 HP31
            obtain ⟨ceZ_, hclZ_, hMZ_, hccZ_, hfrZ_⟩ := Kd.R_elem HO_0.out z55 ((ji21) : Int) (of_eq_true p27) (of_eq_true q27)
            have hfZ0_ : World.frozen? _ ⟨go26, ((ji21) : Int).toNat * 5, none⟩ = false := hfrZ_ 0
            have hfZ1_ : World.frozen? _ ⟨go26, ((ji21) : Int).toNat * 5 + 1, none⟩ = false := hfrZ_ 1
            have hfZ2_ : World.frozen? _ ⟨go26, ((ji21) : Int).toNat * 5 + 2, none⟩ = false := hfrZ_ 2
            have hfZ3_ : World.frozen? _ ⟨go26, ((ji21) : Int).toNat * 5 + 3, none⟩ = false := hfrZ_ 3
            have hfZ4_ : World.frozen? _ ⟨go26, ((ji21) : Int).toNat * 5 + 4, none⟩ = false := hfrZ_ 4
            clear hclZ_ hccZ_ hfrZ_ hMZ_
            refine start_ (n := 18) (S := fun w' => w'.cell? ⟨go26, (((ji21)).toNat * 5), none⟩ = some (.int .i64 ((rd_T55 x0_2 (ji21)).f0)) ∧ w'.cell? ⟨go26, (((ji21)).toNat * 5) + 1, none⟩ = some (.int .i64 ((rd_T55 x0_2 (ji21)).f1.f0)) ∧ w'.cell? ⟨go26, (((ji21)).toNat * 5) + 2, none⟩ = some (.int .i64 ((rd_T55 x0_2 (ji21)).f1.f1)) ∧ w'.cell? ⟨go26, (((ji21)).toNat * 5) + 3, none⟩ = some (.int .i64 ((rd_T55 x0_2 (ji21)).f1.f2)) ∧ w'.cell? ⟨go26, (((ji21)).toNat * 5) + 4, none⟩ = some (.int .i64 ((rd_T55 x0_2 (ji21)).f1.f3)) ∧ w'.cell? ⟨go26, ((x13_2).toNat * 5), none⟩ = some (.int .i64 ((rd_T55 x0_2 x13_2).f0)) ∧ w'.cell? ⟨go26, ((x13_2).toNat * 5) + 1, none⟩ = some (.int .i64 ((rd_T55 x0_2 x13_2).f1.f0)) ∧ w'.cell? ⟨go26, ((x13_2).toNat * 5) + 2, none⟩ = some (.int .i64 ((rd_T55 x0_2 x13_2).f1.f1)) ∧ w'.cell? ⟨go26, ((x13_2).toNat * 5) + 3, none⟩ = some (.int .i64 ((rd_T55 x0_2 x13_2).f1.f2)) ∧ w'.cell? ⟨go26, ((x13_2).toNat * 5) + 4, none⟩ = some (.int .i64 ((rd_T55 x0_2 x13_2).f1.f3))) (ds := [15, 17]) #[false, false, false, false, false, false, false, false, false, false, false, false, false, false, false, false, false, false] (by kernel_rfl) rfl rfl ⟨hx213_0, hx213_1, hx213_2, hx213_3, hx213_4, hx214_0, hx214_1, hx214_2, hx214_3, hx214_4⟩ (fun hHeld => ?_); refine with_tabW impl_Item_80.tab11 impl_Item_80.bits11 (fun HT_ HW_ => ?_)
            generalize wr.drew = w28 at HO_0 HK HB GG26 HQ30 HQ31 hf26_0 hf26_1 hf26_2 hf26_3 hf26_4 hf27_0 hf27_1 hf27_2 hf27_3 hf27_4 hx213_0 hx213_1 hx213_2 hx213_3 hx213_4 hx214_0 hx214_1 hx214_2 hx214_3 hx214_4 hx26_0 hx26_1 hx26_2 hx26_3 hx26_4 hx27_0 hx27_1 hx27_2 hx27_3 hx27_4 hfZ0_ hfZ1_ hfZ2_ hfZ3_ hfZ4_ hHeld ⊢
            refine pure_ (i := 0) (N := some 61) (v := ?_) (a' := ?_) #[true, false, false, false, false, false, false, false, false, false, false, false, false, false, false, false, false, false] rfl rfl (any_of HT_.out (by kernel_rfl)) (fun _ _ _ h => h) (Or.inl ⟨by rfl, ?_⟩) ?_ ?_
            rotate_left
            ·intro w'
             go_simp
             with_reducible rfl
            rotate_left
            ·simp only [Act.put, List.setIfInBounds_toArray, List.set_cons_zero, List.set_cons_succ, i64_w, i32_w]
             rfl
            refine pure_ (i := 1) (N := some 62) (v := ?_) (a' := ?_) #[true, true, false, false, false, false, false, false, false, false, false, false, false, false, false, false, false, false] rfl rfl (any_of HT_.out (by kernel_rfl)) (fun _ _ _ h => h) (Or.inl ⟨by rfl, ?_⟩) ?_ ?_
            rotate_left
            ·intro w'
             go_simp
             with_reducible rfl
            rotate_left
            ·simp only [Act.put, List.setIfInBounds_toArray, List.set_cons_zero, List.set_cons_succ, i64_w, i32_w]
             rfl
            refine pure_ (i := 2) (N := some 63) (v := ?_) (a' := ?_) #[true, true, true, false, false, false, false, false, false, false, false, false, false, false, false, false, false, false] rfl rfl (any_of HT_.out (by kernel_rfl)) (fun _ _ _ h => h) (Or.inl ⟨by rfl, ?_⟩) ?_ ?_
            rotate_left
            ·intro w'
             go_simp
             with_reducible rfl
            rotate_left
            ·simp only [Act.put, List.setIfInBounds_toArray, List.set_cons_zero, List.set_cons_succ, i64_w, i32_w]
             rfl
            refine pure_ (i := 3) (N := some 64) (v := ?_) (a' := ?_) #[true, true, true, true, false, false, false, false, false, false, false, false, false, false, false, false, false, false] rfl rfl (any_of HT_.out (by kernel_rfl)) (fun _ _ _ h => h) (Or.inl ⟨by rfl, ?_⟩) ?_ ?_
            rotate_left
            ·intro w'
             go_simp
             with_reducible rfl
            rotate_left
            ·simp only [Act.put, List.setIfInBounds_toArray, List.set_cons_zero, List.set_cons_succ, i64_w, i32_w]
             rfl
            refine pure_ (i := 4) (N := some 65) (v := ?_) (a' := ?_) #[true, true, true, true, true, false, false, false, false, false, false, false, false, false, false, false, false, false] rfl rfl (any_of HT_.out (by kernel_rfl)) (fun _ _ _ h => h) (Or.inl ⟨by rfl, ?_⟩) ?_ ?_
            rotate_left
            ·intro w'
             go_simp
             with_reducible rfl
            rotate_left
            ·simp only [Act.put, List.setIfInBounds_toArray, List.set_cons_zero, List.set_cons_succ, i64_w, i32_w]
             rfl
            refine pure_ (i := 5) (N := some 66) (v := ?_) (a' := ?_) #[true, true, true, true, true, true, false, false, false, false, false, false, false, false, false, false, false, false] rfl rfl (any_of HT_.out (by kernel_rfl)) (fun _ _ _ h => h) (Or.inl ⟨by rfl, ?_⟩) ?_ ?_
            rotate_left
            ·intro w'
             go_simp
             with_reducible rfl
            rotate_left
            ·simp only [Act.put, List.setIfInBounds_toArray, List.set_cons_zero, List.set_cons_succ, i64_w, i32_w]
             rfl
            refine pure_ (i := 6) (N := some 67) (v := ?_) (a' := ?_) #[true, true, true, true, true, true, true, false, false, false, false, false, false, false, false, false, false, false] rfl rfl (any_of HT_.out (by kernel_rfl)) (fun _ _ _ h => h) (Or.inl ⟨by rfl, ?_⟩) ?_ ?_
            rotate_left
            ·intro w'
             go_simp
             with_reducible rfl
            rotate_left
            ·simp only [Act.put, List.setIfInBounds_toArray, List.set_cons_zero, List.set_cons_succ, i64_w, i32_w]
             rfl
            refine pure_ (i := 7) (N := some 68) (v := ?_) (a' := ?_) #[true, true, true, true, true, true, true, true, false, false, false, false, false, false, false, false, false, false] rfl rfl (any_of HT_.out (by kernel_rfl)) (fun _ _ _ h => h) (Or.inl ⟨by rfl, ?_⟩) ?_ ?_
            rotate_left
            ·intro w'
             go_simp
             with_reducible rfl
            rotate_left
            ·simp only [Act.put, List.setIfInBounds_toArray, List.set_cons_zero, List.set_cons_succ, i64_w, i32_w]
             rfl
            refine pure_ (i := 8) (N := some 69) (v := ?_) (a' := ?_) #[true, true, true, true, true, true, true, true, true, false, false, false, false, false, false, false, false, false] rfl rfl (any_of HT_.out (by kernel_rfl)) (fun _ _ _ h => h) (Or.inl ⟨by rfl, ?_⟩) ?_ ?_
            rotate_left
            ·intro w'
             go_simp
             with_reducible rfl
            rotate_left
            ·simp only [Act.put, List.setIfInBounds_toArray, List.set_cons_zero, List.set_cons_succ, i64_w, i32_w]
             rfl
            refine pure_ (i := 10) (N := some 71) (v := ?_) (a' := ?_) #[true, true, true, true, true, true, true, true, true, false, true, false, false, false, false, false, false, false] rfl rfl (any_of HT_.out (by kernel_rfl)) (fun _ _ _ h => h) (Or.inl ⟨by rfl, ?_⟩) ?_ ?_
            rotate_left
            ·intro w'
             go_simp
             with_reducible rfl
            rotate_left
            ·simp only [Act.put, List.setIfInBounds_toArray, List.set_cons_zero, List.set_cons_succ, i64_w, i32_w]
             rfl
            refine pure_ (i := 11) (N := some 72) (v := ?_) (a' := ?_) #[true, true, true, true, true, true, true, true, true, false, true, true, false, false, false, false, false, false] rfl rfl (any_of HT_.out (by kernel_rfl)) (fun _ _ _ h => h) (Or.inl ⟨by rfl, ?_⟩) ?_ ?_
            rotate_left
            ·intro w'
             go_simp
             with_reducible rfl
            rotate_left
            ·simp only [Act.put, List.setIfInBounds_toArray, List.set_cons_zero, List.set_cons_succ, i64_w, i32_w]
             rfl
            refine pure_ (i := 12) (N := some 73) (v := ?_) (a' := ?_) #[true, true, true, true, true, true, true, true, true, false, true, true, true, false, false, false, false, false] rfl rfl (any_of HT_.out (by kernel_rfl)) (fun _ _ _ h => h) (Or.inl ⟨by rfl, ?_⟩) ?_ ?_
            rotate_left
            ·intro w'
             go_simp
             with_reducible rfl
            rotate_left
            ·simp only [Act.put, List.setIfInBounds_toArray, List.set_cons_zero, List.set_cons_succ, i64_w, i32_w]
             rfl
            refine take_ (i := 9) (N := some 70) (v := ?_) (a' := ?_) #[true, true, true, true, true, true, true, true, true, true, true, true, true, false, false, false, false, false] rfl rfl (take_ofW HT_.out HW_.out (by kernel_rfl)) (fun _ _ _ h => h) (Or.inl ⟨by rfl, ?_⟩) hHeld ?_ ?_
            rotate_left
            ·rintro w' ⟨s0, s1, s2, s3, s4, s5, s6, s7, s8, s9⟩
             go_simp
             with_reducible rfl
            rotate_left
            ·simp only [Act.put, List.setIfInBounds_toArray, List.set_cons_zero, List.set_cons_succ, i64_w, i32_w]
             rfl
            refine take_ (i := 13) (N := some 74) (v := ?_) (a' := ?_) #[true, true, true, true, true, true, true, true, true, true, true, true, true, true, false, false, false, false] rfl rfl (take_ofW HT_.out HW_.out (by kernel_rfl)) (fun _ _ _ h => h) (Or.inl ⟨by rfl, ?_⟩) hHeld ?_ ?_
            rotate_left
            ·rintro w' ⟨s0, s1, s2, s3, s4, s5, s6, s7, s8, s9⟩
             go_simp
             with_reducible rfl
            rotate_left
            ·simp only [Act.put, List.setIfInBounds_toArray, List.set_cons_zero, List.set_cons_succ, i64_w, i32_w]
             rfl
            refine pure_ (i := 14) (N := some 75) (v := ?_) (a' := ?_) #[true, true, true, true, true, true, true, true, true, true, true, true, true, true, true, false, false, false] rfl rfl (any_of HT_.out (by kernel_rfl)) (fun _ _ _ h => h) (Or.inl ⟨by rfl, ?_⟩) ?_ ?_
            rotate_left
            ·intro w'
             go_simp
             with_reducible rfl
            rotate_left
            ·simp only [Act.put, List.setIfInBounds_toArray, List.set_cons_zero, List.set_cons_succ, i64_w, i32_w]
             rfl
            refine last_ (i := 15) (N := none) #[true, true, true, true, true, true, true, true, true, true, true, true, true, true, true, true, false, false] rfl rfl (one_of HT_.out (by kernel_rfl)) (by decide) (fun K hK => ?_)
            refine skip_ (w1 := ?_) (by rfl) rfl ?_ ?_
            rotate_left
            ·go_simp
             rfl
            refine hK.out _ _ ?_
            clear hK K
            refine pure_ (i := 16) (N := some 76) (v := ?_) (a' := ?_) #[true, true, true, true, true, true, true, true, true, true, true, true, true, true, true, true, true, false] rfl rfl (any_of HT_.out (by kernel_rfl)) (fun _ _ _ h => h) (Or.inl ⟨by rfl, ?_⟩) ?_ ?_
            rotate_left
            ·intro w'
             go_simp
             with_reducible rfl
            rotate_left
            ·simp only [Act.put, List.setIfInBounds_toArray, List.set_cons_zero, List.set_cons_succ, i64_w, i32_w]
             rfl
            refine last_ (i := 17) (N := none) #[true, true, true, true, true, true, true, true, true, true, true, true, true, true, true, true, true, true] rfl rfl (one_of HT_.out (by kernel_rfl)) (by decide) (fun K hK => ?_)
            refine skip_ (w1 := ?_) (by rfl) rfl ?_ ?_
            rotate_left
            ·go_simp
             rfl
            refine hK.out _ _ ?_
            clear hK K
            refine done_ (done_of HT_.out (by kernel_rfl)) ?_
            try go_wp2
            go_roundg k2
            case measure => have := HK1.out; have := HK2.out; omega
            case rel => exact ⟨(y216), (ji21), (by first | rfl | (simp; done) | (simp only [← hji21] <;> (first | rfl | simp)) | (simp [*]; done)), H', ⟨by have := HK1.out; have := HK2.out; omega⟩, ⟨by (with_reducible repeat (first | apply Kd.R_alloc | apply Kd.R_drewN | apply Kd.R_drew)); exact HQ31.out⟩, ⟨by repeat (first | (with_reducible first | exact HK.out | apply Kept.alloc | apply Kept.drewN | apply Kept.drew | refine Kept.setCell ?_ HMgo26.out _ | refine Kept.setCell ?_ HMgo26.out _ | refine Kept.setCell ?_ HMgo26.out _ | refine Kept.setCell ?_ HMgo26.out _ | refine Kept.setCell ?_ HMgo26.out _ | refine Kept.setCell ?_ HMgo26.out _ | refine Kept.setCell ?_ HMgo26.out _ | refine Kept.setCell ?_ HMgo26.out _ | refine Kept.setCell ?_ HMgo26.out _ | refine Kept.setCell ?_ HMgo26.out _) | exact HK.out)⟩, ⟨by repeat (first | (with_reducible first | exact HB.out | apply below_alloc | apply pw_below_drewN | apply below_drew1 | refine below_set ?_ GB26.out | refine below_set ?_ GB26.out | refine below_set ?_ GB26.out | refine below_set ?_ GB26.out | refine below_set ?_ GB26.out | refine below_set ?_ GB26.out | refine below_set ?_ GB26.out | refine below_set ?_ GB26.out | refine below_set ?_ GB26.out | refine below_set ?_ GB26.out) | exact HB.out)⟩⟩
           ·rw [if_neg c25] at H
            exact absurd H (by simp)
          ·rw [if_neg c24] at H
           exact absurd H (by simp)
         ·rw [if_neg c23] at H
          exact absurd H (by simp)
        ·rw [if_neg c22] at H
         exact absurd H (by simp)
       ·rw [if_neg c20] at H
        have c20b0 : decide (x13_2 < (wrap64 (x10_1 - 1))) = false := decide_eq_false c20
        clear c20
        obtain rfl := Option.some.inj H
        go_wp2
        first | go_end0 | ((try simp only [Exit.inBlock, Exit.then]); refine bodyPost_ret (results_none rfl _ _ _) rfl ?_)
        exact ⟨by first | rfl | (simp [errW_none, errW_some] <;> rfl) | (simp [*, errW_none, errW_some] <;> rfl), by (with_reducible repeat (first | apply Kd.R_alloc | apply Kd.R_drewN | apply Kd.R_drew)); exact HO_0.out, by repeat (first | (with_reducible first | exact HB.out | apply below_alloc | apply pw_below_drewN | apply below_drew1) | exact HB.out), by repeat (first | (with_reducible first | exact HK.out | apply Kept.alloc | apply Kept.drewN | apply Kept.drew) | exact HK.out)⟩

set_option maxHeartbeats 8000000 in
set_option maxRecDepth 100000 in
theorem impl_Item_80.calls_b (k : Nat) : ∀ (P0_ : Nat → Prop) (u9000_ : Value) (l0 : List (S55)) (a1 : Int) (a2 : Int) (a3 : Int) (r : List (S55)) (w0 w : World) (hB : Below w0.heap.size w0 w) (ho0 : Kd.R k55 55 w w0.heap.size P0_ u9000_ l0) (h : impl_Item_80.f (k + 1) l0 a1 a2 a3 = some r) (c5 : ¬ ((wrap64 (a2 - a1)) = 1)) (c32 : (wrap64 (a3 - a2)) = 1),
  Calls Try.prog 80 #[u9000_, .int .i64 a1, .int .i64 a2, .int .i64 a3, .func (.func 33) #[] #[]] w fun e w' => e = .returned (.tuple #[]) ∧ Kd.R k55 55 w' w0.heap.size (fun k_ => (P0_ k_ ∨ w.heap.size ≤ k_)) u9000_ r ∧ Below w0.heap.size w0 w' ∧ Kept w w' (fun k_ => P0_ k_) := by
 intro P0_ u9000_ l0 a1 a2 a3 r w0 w hB ho0 h c5 c32
 simp only [impl_Item_80.f] at h
 have hu55 := Try.underlying55
 have HO0 := Aside0.mk (show Kd.R k55 55 w w0.heap.size (fun k_ => (P0_ k_ ∨ w.heap.size ≤ k_)) u9000_ l0 from Kd.R_mono ho0 (fun k_ hk => (.inl hk)))
 have HK := Aside0.mk (Kept.refl w (fun k_ => P0_ k_))
 have HW0 := Aside0.mk hB.size
 have HB := Aside0.mk hB
 clear hB
 have H : (if (wrap64 (a2 - a1)) = 1 then (impl_Item_80.l0 k l0 a1 a2 a3) else (if (wrap64 (a3 - a2)) = 1 then (impl_Item_80.l2 k l0 a2 a1 a2) else (if a2 > (wrap64 ((IntKind.u64.wrap (wrap64 (a1 + a3))) / 2)) then (impl_Item_80.j4 k l0 a1 a2 a3 (wrap64 ((IntKind.u64.wrap (wrap64 (a1 + a3))) / 2)) (wrap64 ((wrap64 ((IntKind.u64.wrap (wrap64 (a1 + a3))) / 2)) + a2)) (wrap64 ((wrap64 ((wrap64 ((IntKind.u64.wrap (wrap64 (a1 + a3))) / 2)) + a2)) - a3)) (wrap64 ((IntKind.u64.wrap (wrap64 (a1 + a3))) / 2))) else (impl_Item_80.j4 k l0 a1 a2 a3 (wrap64 ((IntKind.u64.wrap (wrap64 (a1 + a3))) / 2)) (wrap64 ((wrap64 ((IntKind.u64.wrap (wrap64 (a1 + a3))) / 2)) + a2)) a1 a2)))) = some r := h
 clear h
 ·rw [if_neg c5] at H
  have c5b0 : ((wrap64 (a2 - a1)) == 1) = false := beq_eq_false_iff_ne.mpr c5
  have c5b1 : ((wrap64 (a2 - a1)) != 1) = true := bne_iff_ne.mpr c5
  ·rw [if_pos c32] at H
   have c32b0 : ((wrap64 (a3 - a2)) == 1) = true := beq_iff_eq.mpr c32
   have c32b1 : ((wrap64 (a3 - a2)) != 1) = false := bne_eq_false_iff_eq.mpr c32
   clear c32
   have H' := Aside0.mk H
   clear H
   go_enter Try.func80, Try.ntmps80
   go_wp2
   go_loopg [14, 15] k (fun kq v14 v15 w' => ∃ (x14_1 : Int) (x15_1 : Int), v14 = .int .i64 x14_1 ∧ v15 = .int .i64 x15_1 ∧ Aside0 (impl_Item_80.l2 kq l0 a2 x14_1 x15_1 = some r) ∧ Aside0 (kq ≤ k) ∧ Aside0 (Kd.R k55 55 w' w0.heap.size (fun k_ => (P0_ k_ ∨ w.heap.size ≤ k_)) u9000_ l0) ∧ Aside0 (Kept w w' (fun k_ => P0_ k_)) ∧ Aside0 (Below w0.heap.size w0 w'))
   case atStart => exact ⟨(a1), (a2), (by first | rfl | (simp; done) | (simp [*]; done)), (by first | rfl | (simp; done) | (simp [*]; done)), H', ⟨Nat.le_refl _⟩, ⟨by (with_reducible repeat (first | apply Kd.R_alloc | apply Kd.R_drewN | apply Kd.R_drew)); exact HO0.out⟩, ⟨by repeat (first | (with_reducible first | exact HK.out | apply Kept.alloc | apply Kept.drewN | apply Kept.drew) | exact HK.out)⟩, ⟨by repeat (first | (with_reducible first | exact HB.out | apply below_alloc | apply pw_below_drewN | apply below_drew1) | exact HB.out)⟩⟩
   case round =>
    clear H'
    try clear c1
    try clear c2
    try clear p2
    try clear q2
    try clear hx2
    try clear c3
    try clear c5
    try clear c5b0
    try clear c5b1
    try clear c6
    try clear c6b0
    try clear p6
    try clear c8
    try clear c8b0
    try clear c9
    try clear c9b0
    try clear c10
    try clear c10b0
    try clear c11
    try clear c11b0
    try clear c13
    try clear c13b0
    try clear c20
    try clear c20b0
    try clear p21
    try clear q21
    try clear hx21
    try clear c22
    try clear c22b0
    try clear c23
    try clear c23b0
    try clear c24
    try clear c24b0
    try clear c25
    try clear c25b0
    try clear c26
    try clear p26
    try clear q26
    try clear hx26
    try clear hf26
    try clear c27
    try clear p27
    try clear q27
    try clear hx27
    try clear hf27
    try clear c30
    try clear c31
    try clear c32
    try clear c32b0
    try clear c32b1
    try clear hx210_0
    try clear hx210_1
    try clear hx210_2
    try clear hx210_3
    try clear hx210_4
    try clear hx211_0
    try clear hx211_1
    try clear hx211_2
    try clear hx211_3
    try clear hx211_4
    try clear hx213_0
    try clear hx213_1
    try clear hx213_2
    try clear hx213_3
    try clear hx213_4
    try clear hx214_0
    try clear hx214_1
    try clear hx214_2
    try clear hx214_3
    try clear hx214_4
    try clear hx26_0
    try clear hx26_1
    try clear hx26_2
    try clear hx26_3
    try clear hx26_4
    try clear hx27_0
    try clear hx27_1
    try clear hx27_2
    try clear hx27_3
    try clear hx27_4
    try clear p2
    try clear p210
    try clear p211
    try clear p213
    try clear p214
    try clear p26
    try clear p27
    try clear p6
    try clear q2
    try clear q210
    try clear q211
    try clear q213
    try clear q214
    try clear q26
    try clear q27
    obtain ⟨x14_1, x15_1, rfl, rfl, HA, HK1, HO_0, HK, HB⟩ := hrel
    cases gk with
    | zero => exact absurd HA.out (by simp [impl_Item_80.l2])
    | succ k1 =>
     have H := HA.out
     clear HA
     simp only [impl_Item_80.l2] at H
     by_cases c33 : x14_1 < x15_1
     ·rw [if_pos c33] at H
      have c33b0 : decide (x14_1 < x15_1) = true := decide_eq_true c33
      clear c33
      by_cases c34 : 0 ≤ a2
      ·rw [if_pos c34] at H
       have c34b0 : decide (0 ≤ a2) = true := decide_eq_true c34
       clear c34
       by_cases c35 : a2 < (l0.length : Int)
       ·rw [if_pos c35] at H
        have c35b0 : decide (a2 < (l0.length : Int)) = true := decide_eq_true c35
        clear c35
        obtain ⟨ji36, hji36⟩ : ∃ j_ : Int, (wrap64 ((IntKind.u64.wrap (wrap64 (x14_1 + x15_1))) / 2)) = j_ := ⟨_, rfl⟩
        replace H : (if 0 ≤ (ji36) then (if (ji36) < (l0.length : Int) then ((impl_order.f k1 ((rd_T55 l0 a2).f0) ((rd_T55 l0 a2).f1.f0) ((rd_T55 l0 a2).f1.f1) ((rd_T55 l0 a2).f1.f2) ((rd_T55 l0 a2).f1.f3) ((rd_T55 l0 (ji36)).f0) ((rd_T55 l0 (ji36)).f1.f0) ((rd_T55 l0 (ji36)).f1.f1) ((rd_T55 l0 (ji36)).f1.f2) ((rd_T55 l0 (ji36)).f1.f3)).bind fun t219 => (if t219 < 0 then (impl_Item_80.l2 k1 l0 a2 x14_1 ji36) else (impl_Item_80.l2 k1 l0 a2 (wrap64 ((ji36) + 1)) x15_1))) else (none)) else (none)) = some r := by first | (rw [hji36] at H; exact H) | (simp only [hji36] at H ⊢; exact H)
        have hji36w : (IntKind.i64.wrap ((IntKind.u64.wrap (wrap64 (x14_1 + x15_1))) / 2)) = ji36 := (i64_w _).trans hji36
        by_cases c37 : 0 ≤ (ji36)
        ·rw [if_pos c37] at H
         have c37b0 : decide (0 ≤ (ji36)) = true := decide_eq_true c37
         clear c37
         by_cases c38 : (ji36) < (l0.length : Int)
         ·rw [if_pos c38] at H
          have c38b0 : decide ((ji36) < (l0.length : Int)) = true := decide_eq_true c38
          clear c38
          replace H := Option.bind_eq_some_iff.mp H
          obtain ⟨t219, A390, H⟩ := H
          replace H : (if t219 < 0 then (impl_Item_80.l2 k1 l0 a2 x14_1 ji36) else (impl_Item_80.l2 k1 l0 a2 (wrap64 ((ji36) + 1)) x15_1)) = some r := H
          have A39 := Aside0.mk A390
          clear A390
          by_cases c40 : t219 < 0
          ·rw [if_pos c40] at H
           have c40b0 : decide (t219 < 0) = true := decide_eq_true c40
           clear c40
           have H' := Aside0.mk H
           clear H
           try go_wp2
           have n0_ := Aside0.mk (Kd.R_drew HO_0.out)
           have n1_ := Aside0.mk (Kept.drew HK.out)
           have n2_ := Aside0.mk (below_drew1 HB.out)
           clear HO_0
           clear HK
           clear HB
           have HO_0 := n0_
           have HK := n1_
           have HB := n2_
           clear n0_ n1_ n2_
           obtain ⟨Ao42, co42, eo42⟩ := Kd.R_slice HO_0.out
           (first | subst eo42 | (injection eo42 with f1_ f2_ f3_; have f4_ := f1_.symm; have f5_ := f3_.symm; clear f1_ f2_ f3_; subst f4_; subst f5_))
           have p217 : 0 ≤ (a2 : Int) := of_decide_eq_true (by first | (with_reducible assumption) | assumption)
           have q217 : a2 < (l0.length : Int) := of_decide_eq_true (by first | (with_reducible assumption) | assumption)
           obtain ⟨ad217, e217, hx217_0, hx217_1, hx217_2, hx217_3, hx217_4⟩ := at_T55 (Kd.R_reads' HO_0.out).2.2 a2 p217 q217
           cases e217
           replace p217 := eq_true p217
           replace q217 := eq_true q217
           have p218 : 0 ≤ ((ji36) : Int) := of_decide_eq_true (by first | (with_reducible assumption) | assumption)
           have q218 : (ji36) < (l0.length : Int) := of_decide_eq_true (by first | (with_reducible assumption) | assumption)
           obtain ⟨ad218, e218, hx218_0, hx218_1, hx218_2, hx218_3, hx218_4⟩ := at_T55 (Kd.R_reads' HO_0.out).2.2 (ji36) p218 q218
           obtain rfl : ad217 = ad218 := (by injection e218)
           replace p218 := eq_true p218
           replace q218 := eq_true q218
           refine start_ (n := 12) (S := fun w' => w'.cell? (ad217.add ((a2).toNat * 5)) = some (.int .i64 ((rd_T55 l0 a2).f0)) ∧ w'.cell? ⟨(ad217.add ((a2).toNat * 5)).block, (ad217.add ((a2).toNat * 5)).off + 1, none⟩ = some (.int .i64 ((rd_T55 l0 a2).f1.f0)) ∧ w'.cell? ⟨(ad217.add ((a2).toNat * 5)).block, (ad217.add ((a2).toNat * 5)).off + 2, none⟩ = some (.int .i64 ((rd_T55 l0 a2).f1.f1)) ∧ w'.cell? ⟨(ad217.add ((a2).toNat * 5)).block, (ad217.add ((a2).toNat * 5)).off + 3, none⟩ = some (.int .i64 ((rd_T55 l0 a2).f1.f2)) ∧ w'.cell? ⟨(ad217.add ((a2).toNat * 5)).block, (ad217.add ((a2).toNat * 5)).off + 4, none⟩ = some (.int .i64 ((rd_T55 l0 a2).f1.f3)) ∧ w'.cell? (ad217.add (((ji36)).toNat * 5)) = some (.int .i64 ((rd_T55 l0 (ji36)).f0)) ∧ w'.cell? ⟨(ad217.add (((ji36)).toNat * 5)).block, (ad217.add (((ji36)).toNat * 5)).off + 1, none⟩ = some (.int .i64 ((rd_T55 l0 (ji36)).f1.f0)) ∧ w'.cell? ⟨(ad217.add (((ji36)).toNat * 5)).block, (ad217.add (((ji36)).toNat * 5)).off + 2, none⟩ = some (.int .i64 ((rd_T55 l0 (ji36)).f1.f1)) ∧ w'.cell? ⟨(ad217.add (((ji36)).toNat * 5)).block, (ad217.add (((ji36)).toNat * 5)).off + 3, none⟩ = some (.int .i64 ((rd_T55 l0 (ji36)).f1.f2)) ∧ w'.cell? ⟨(ad217.add (((ji36)).toNat * 5)).block, (ad217.add (((ji36)).toNat * 5)).off + 4, none⟩ = some (.int .i64 ((rd_T55 l0 (ji36)).f1.f3))) (ds := []) #[false, false, false, false, false, false, false, false, false, false, false, false] (by kernel_rfl) rfl rfl ⟨hx217_0, hx217_1, hx217_2, hx217_3, hx217_4, hx218_0, hx218_1, hx218_2, hx218_3, hx218_4⟩ (fun hHeld => ?_); refine with_tabW impl_Item_80.tab17 impl_Item_80.bits17 (fun HT_ HW_ => ?_)
           generalize wr.drew = w41 at HO_0 HK HB hx217_0 hx217_1 hx217_2 hx217_3 hx217_4 hx218_0 hx218_1 hx218_2 hx218_3 hx218_4 hHeld ⊢
           refine pure_ (i := 0) (N := some 92) (v := ?_) (a' := ?_) #[true, false, false, false, false, false, false, false, false, false, false, false] rfl rfl (any_of HT_.out (by kernel_rfl)) (fun _ _ _ h => h) (Or.inl ⟨by rfl, ?_⟩) ?_ ?_
           rotate_left
           ·intro w'
            go_simp
            with_reducible rfl
           rotate_left
           ·simp only [Act.put, List.setIfInBounds_toArray, List.set_cons_zero, List.set_cons_succ, i64_w, i32_w]
            rfl
           refine pure_ (i := 1) (N := some 93) (v := ?_) (a' := ?_) #[true, true, false, false, false, false, false, false, false, false, false, false] rfl rfl (any_of HT_.out (by kernel_rfl)) (fun _ _ _ h => h) (Or.inl ⟨by rfl, ?_⟩) ?_ ?_
           rotate_left
           ·intro w'
            go_simp
            with_reducible rfl
           rotate_left
           ·simp only [Act.put, List.setIfInBounds_toArray, List.set_cons_zero, List.set_cons_succ, i64_w, i32_w]
            rfl
           refine pure_ (i := 2) (N := some 94) (v := ?_) (a' := ?_) #[true, true, true, false, false, false, false, false, false, false, false, false] rfl rfl (any_of HT_.out (by kernel_rfl)) (fun _ _ _ h => h) (Or.inl ⟨by rfl, ?_⟩) ?_ ?_
           rotate_left
           ·intro w'
            go_simp
            with_reducible rfl
           rotate_left
           ·simp only [Act.put, List.setIfInBounds_toArray, List.set_cons_zero, List.set_cons_succ, i64_w, i32_w]
            rfl
           refine pure_ (i := 3) (N := some 95) (v := ?_) (a' := ?_) #[true, true, true, true, false, false, false, false, false, false, false, false] rfl rfl (any_of HT_.out (by kernel_rfl)) (fun _ _ _ h => h) (Or.inl ⟨by rfl, ?_⟩) ?_ ?_
           rotate_left
           ·intro w'
            go_simp
            with_reducible rfl
           rotate_left
           ·simp only [Act.put, List.setIfInBounds_toArray, List.set_cons_zero, List.set_cons_succ, i64_w, i32_w]
            rfl
           refine pure_ (i := 5) (N := some 97) (v := ?_) (a' := ?_) #[true, true, true, true, false, true, false, false, false, false, false, false] rfl rfl (any_of HT_.out (by kernel_rfl)) (fun _ _ _ h => h) (Or.inl ⟨by rfl, ?_⟩) ?_ ?_
           rotate_left
           ·intro w'
            go_simp
            with_reducible rfl
           rotate_left
           ·simp only [Act.put, List.setIfInBounds_toArray, List.set_cons_zero, List.set_cons_succ, i64_w, i32_w]
            rfl
           refine pure_ (i := 6) (N := some 98) (v := ?_) (a' := ?_) #[true, true, true, true, false, true, true, false, false, false, false, false] rfl rfl (any_of HT_.out (by kernel_rfl)) (fun _ _ _ h => h) (Or.inl ⟨by rfl, ?_⟩) ?_ ?_
           rotate_left
           ·intro w'
            go_simp
            with_reducible rfl
           rotate_left
           ·simp only [Act.put, List.setIfInBounds_toArray, List.set_cons_zero, List.set_cons_succ, i64_w, i32_w]
            rfl
           refine pure_ (i := 7) (N := some 99) (v := ?_) (a' := ?_) #[true, true, true, true, false, true, true, true, false, false, false, false] rfl rfl (any_of HT_.out (by kernel_rfl)) (fun _ _ _ h => h) (Or.inl ⟨by rfl, ?_⟩) ?_ ?_
           rotate_left
           ·intro w'
            go_simp
            with_reducible rfl
           rotate_left
           ·simp only [Act.put, List.setIfInBounds_toArray, List.set_cons_zero, List.set_cons_succ, i64_w, i32_w]
            rfl
           refine take_ (i := 4) (N := some 96) (v := ?_) (a' := ?_) #[true, true, true, true, true, true, true, true, false, false, false, false] rfl rfl (take_ofW HT_.out HW_.out (by kernel_rfl)) (fun _ _ _ h => h) (Or.inl ⟨by rfl, ?_⟩) hHeld ?_ ?_
           rotate_left
           ·rintro w' ⟨s0, s1, s2, s3, s4, s5, s6, s7, s8, s9⟩
            go_simp
            with_reducible rfl
           rotate_left
           ·simp only [Act.put, List.setIfInBounds_toArray, List.set_cons_zero, List.set_cons_succ, i64_w, i32_w]
            rfl
           refine take_ (i := 8) (N := some 100) (v := ?_) (a' := ?_) #[true, true, true, true, true, true, true, true, true, false, false, false] rfl rfl (take_ofW HT_.out HW_.out (by kernel_rfl)) (fun _ _ _ h => h) (Or.inl ⟨by rfl, ?_⟩) hHeld ?_ ?_
           rotate_left
           ·rintro w' ⟨s0, s1, s2, s3, s4, s5, s6, s7, s8, s9⟩
            go_simp
            with_reducible rfl
           rotate_left
           ·simp only [Act.put, List.setIfInBounds_toArray, List.set_cons_zero, List.set_cons_succ, i64_w, i32_w]
            rfl
           refine one_ (i := 9) (N := some 101) #[true, true, true, true, true, true, true, true, true, true, false, false] rfl rfl (one_of HT_.out (by kernel_rfl)) (by decide) (fun K hK => ?_)
           refine goesV_ Try.func33 (by kernel_rfl) rfl #[.agg #[.int .i64 ((rd_T55 l0 a2).f0), .int .i64 ((rd_T55 l0 a2).f1.f0), .int .i64 ((rd_T55 l0 a2).f1.f1), .int .i64 ((rd_T55 l0 a2).f1.f2), .int .i64 ((rd_T55 l0 a2).f1.f3)], .agg #[.int .i64 ((rd_T55 l0 (ji36)).f0), .int .i64 ((rd_T55 l0 (ji36)).f1.f0), .int .i64 ((rd_T55 l0 (ji36)).f1.f1), .int .i64 ((rd_T55 l0 (ji36)).f1.f2), .int .i64 ((rd_T55 l0 (ji36)).f1.f3)]] (by rfl) rfl rfl (by (try simp only [List.map_toArray, List.map_cons, List.map_nil]); first | done | (simp only [hji36]; rfl) | rfl | (simp only [List.length_drop, List.length_take]; rfl)) ?_
           with_reducible refine (impl_order.calls k1 ((rd_T55 l0 a2).f0) ((rd_T55 l0 a2).f1.f0) ((rd_T55 l0 a2).f1.f1) ((rd_T55 l0 a2).f1.f2) ((rd_T55 l0 a2).f1.f3) ((rd_T55 l0 (ji36)).f0) ((rd_T55 l0 (ji36)).f1.f0) ((rd_T55 l0 (ji36)).f1.f1) ((rd_T55 l0 (ji36)).f1.f2) ((rd_T55 l0 (ji36)).f1.f3) t219 _ A39.out).mono ?_
           rintro e w43 ⟨rfl, hb⟩
           have HS0_ := (hb.cell (World.block_lt_of_cell? _ _ (hHeld.1))).trans (hHeld.1)
           have HS1_ := (hb.cell (World.block_lt_of_cell? _ _ (hHeld.2.1))).trans (hHeld.2.1)
           have HS2_ := (hb.cell (World.block_lt_of_cell? _ _ (hHeld.2.2.1))).trans (hHeld.2.2.1)
           have HS3_ := (hb.cell (World.block_lt_of_cell? _ _ (hHeld.2.2.2.1))).trans (hHeld.2.2.2.1)
           have HS4_ := (hb.cell (World.block_lt_of_cell? _ _ (hHeld.2.2.2.2.1))).trans (hHeld.2.2.2.2.1)
           have HS5_ := (hb.cell (World.block_lt_of_cell? _ _ (hHeld.2.2.2.2.2.1))).trans (hHeld.2.2.2.2.2.1)
           have HS6_ := (hb.cell (World.block_lt_of_cell? _ _ (hHeld.2.2.2.2.2.2.1))).trans (hHeld.2.2.2.2.2.2.1)
           have HS7_ := (hb.cell (World.block_lt_of_cell? _ _ (hHeld.2.2.2.2.2.2.2.1))).trans (hHeld.2.2.2.2.2.2.2.1)
           have HS8_ := (hb.cell (World.block_lt_of_cell? _ _ (hHeld.2.2.2.2.2.2.2.2.1))).trans (hHeld.2.2.2.2.2.2.2.2.1)
           have HS9_ := (hb.cell (World.block_lt_of_cell? _ _ (hHeld.2.2.2.2.2.2.2.2.2))).trans (hHeld.2.2.2.2.2.2.2.2.2)
           refine ⟨_, rfl, ?_⟩
           have n0_ := Aside0.mk (Kd.R_below (by (with_reducible repeat (first | apply Kd.R_alloc | apply Kd.R_drewN | apply Kd.R_drew)); exact HO_0.out) hb)
           have n1_ := Aside0.mk (Kept.below (S := (fun k_ => P0_ k_)) (by repeat (first | (with_reducible first | exact HK.out | apply Kept.alloc | apply Kept.drewN | apply Kept.drew) | exact HK.out)) hb)
           have n2_ := Aside0.mk (below_step (by repeat (first | (with_reducible first | exact HB.out | apply below_alloc | apply pw_below_drewN | apply below_drew1) | exact HB.out)) hb)
           clear HO_0
           clear HK
           clear HB
           have HO_0 := n0_
           have HK := n1_
           have HB := n2_
           clear n0_ n1_ n2_
           (try clear hb)
           (try clear hb2)
           (try clear hk)
           (try clear hi)
           refine hK.out _ _ ⟨HS0_, HS1_, HS2_, HS3_, HS4_, HS5_, HS6_, HS7_, HS8_, HS9_⟩ (fun hHeld => ?_)
           clear hK K
           refine norm_ (a' := ?_) ?_ ?_
           rotate_left
           ·show Act.put _ (some 101) _ = _
            simp only [Act.put, List.setIfInBounds_toArray, List.set_cons_zero, List.set_cons_succ, i64_w, i32_w]
            rfl
           refine pure_ (i := 10) (N := some 102) (v := ?_) (a' := ?_) #[true, true, true, true, true, true, true, true, true, true, true, false] rfl rfl (any_of HT_.out (by kernel_rfl)) (fun _ _ _ h => h) (Or.inl ⟨by rfl, ?_⟩) ?_ ?_
           rotate_left
           ·intro w'
            go_simp
            with_reducible rfl
           rotate_left
           ·simp only [Act.put, List.setIfInBounds_toArray, List.set_cons_zero, List.set_cons_succ, i64_w, i32_w]
            rfl
           refine pure_ (i := 11) (N := some 103) (v := ?_) (a' := ?_) #[true, true, true, true, true, true, true, true, true, true, true, true] rfl rfl (any_of HT_.out (by kernel_rfl)) (fun _ _ _ h => h) (Or.inl ⟨by rfl, ?_⟩) ?_ ?_
           rotate_left
           ·intro w'
            go_simp
            with_reducible rfl
           rotate_left
           ·simp only [Act.put, List.setIfInBounds_toArray, List.set_cons_zero, List.set_cons_succ, i64_w, i32_w]
            rfl
           refine done_ (done_of HT_.out (by kernel_rfl)) ?_
           try go_wp2
           go_roundg k1
           case measure => have := HK1.out; omega
           case rel => exact ⟨(x14_1), (ji36), (by first | rfl | (simp; done) | (simp [*]; done)), (by first | rfl | (simp; done) | (simp only [← hji36] <;> (first | rfl | simp)) | (simp [*]; done)), H', ⟨by have := HK1.out; omega⟩, ⟨by (with_reducible repeat (first | apply Kd.R_alloc | apply Kd.R_drewN | apply Kd.R_drew)); exact HO_0.out⟩, ⟨by repeat (first | (with_reducible first | exact HK.out | apply Kept.alloc | apply Kept.drewN | apply Kept.drew) | exact HK.out)⟩, ⟨by repeat (first | (with_reducible first | exact HB.out | apply below_alloc | apply pw_below_drewN | apply below_drew1) | exact HB.out)⟩⟩
          ·rw [if_neg c40] at H
           have c40b0 : decide (t219 < 0) = false := decide_eq_false c40
           clear c40
           have H' := Aside0.mk H
           clear H
           try go_wp2
           have n0_ := Aside0.mk (Kd.R_drew HO_0.out)
           have n1_ := Aside0.mk (Kept.drew HK.out)
           have n2_ := Aside0.mk (below_drew1 HB.out)
           clear HO_0
           clear HK
           clear HB
           have HO_0 := n0_
           have HK := n1_
           have HB := n2_
           clear n0_ n1_ n2_
           obtain ⟨Ao45, co45, eo45⟩ := Kd.R_slice HO_0.out
           (first | subst eo45 | (injection eo45 with f1_ f2_ f3_; have f4_ := f1_.symm; have f5_ := f3_.symm; clear f1_ f2_ f3_; subst f4_; subst f5_))
           have p217 : 0 ≤ (a2 : Int) := of_decide_eq_true (by first | (with_reducible assumption) | assumption)
           have q217 : a2 < (l0.length : Int) := of_decide_eq_true (by first | (with_reducible assumption) | assumption)
           obtain ⟨ad217, e217, hx217_0, hx217_1, hx217_2, hx217_3, hx217_4⟩ := at_T55 (Kd.R_reads' HO_0.out).2.2 a2 p217 q217
           cases e217
           replace p217 := eq_true p217
           replace q217 := eq_true q217
           have p218 : 0 ≤ ((ji36) : Int) := of_decide_eq_true (by first | (with_reducible assumption) | assumption)
           have q218 : (ji36) < (l0.length : Int) := of_decide_eq_true (by first | (with_reducible assumption) | assumption)
           obtain ⟨ad218, e218, hx218_0, hx218_1, hx218_2, hx218_3, hx218_4⟩ := at_T55 (Kd.R_reads' HO_0.out).2.2 (ji36) p218 q218
           obtain rfl : ad217 = ad218 := (by injection e218)
           replace p218 := eq_true p218
           replace q218 := eq_true q218
           refine start_ (n := 12) (S := fun w' => w'.cell? (ad217.add ((a2).toNat * 5)) = some (.int .i64 ((rd_T55 l0 a2).f0)) ∧ w'.cell? ⟨(ad217.add ((a2).toNat * 5)).block, (ad217.add ((a2).toNat * 5)).off + 1, none⟩ = some (.int .i64 ((rd_T55 l0 a2).f1.f0)) ∧ w'.cell? ⟨(ad217.add ((a2).toNat * 5)).block, (ad217.add ((a2).toNat * 5)).off + 2, none⟩ = some (.int .i64 ((rd_T55 l0 a2).f1.f1)) ∧ w'.cell? ⟨(ad217.add ((a2).toNat * 5)).block, (ad217.add ((a2).toNat * 5)).off + 3, none⟩ = some (.int .i64 ((rd_T55 l0 a2).f1.f2)) ∧ w'.cell? ⟨(ad217.add ((a2).toNat * 5)).block, (ad217.add ((a2).toNat * 5)).off + 4, none⟩ = some (.int .i64 ((rd_T55 l0 a2).f1.f3)) ∧ w'.cell? (ad217.add (((ji36)).toNat * 5)) = some (.int .i64 ((rd_T55 l0 (ji36)).f0)) ∧ w'.cell? ⟨(ad217.add (((ji36)).toNat * 5)).block, (ad217.add (((ji36)).toNat * 5)).off + 1, none⟩ = some (.int .i64 ((rd_T55 l0 (ji36)).f1.f0)) ∧ w'.cell? ⟨(ad217.add (((ji36)).toNat * 5)).block, (ad217.add (((ji36)).toNat * 5)).off + 2, none⟩ = some (.int .i64 ((rd_T55 l0 (ji36)).f1.f1)) ∧ w'.cell? ⟨(ad217.add (((ji36)).toNat * 5)).block, (ad217.add (((ji36)).toNat * 5)).off + 3, none⟩ = some (.int .i64 ((rd_T55 l0 (ji36)).f1.f2)) ∧ w'.cell? ⟨(ad217.add (((ji36)).toNat * 5)).block, (ad217.add (((ji36)).toNat * 5)).off + 4, none⟩ = some (.int .i64 ((rd_T55 l0 (ji36)).f1.f3))) (ds := []) #[false, false, false, false, false, false, false, false, false, false, false, false] (by kernel_rfl) rfl rfl ⟨hx217_0, hx217_1, hx217_2, hx217_3, hx217_4, hx218_0, hx218_1, hx218_2, hx218_3, hx218_4⟩ (fun hHeld => ?_); refine with_tabW impl_Item_80.tab17 impl_Item_80.bits17 (fun HT_ HW_ => ?_)
           generalize wr.drew = w44 at HO_0 HK HB hx217_0 hx217_1 hx217_2 hx217_3 hx217_4 hx218_0 hx218_1 hx218_2 hx218_3 hx218_4 hHeld ⊢
           refine pure_ (i := 0) (N := some 92) (v := ?_) (a' := ?_) #[true, false, false, false, false, false, false, false, false, false, false, false] rfl rfl (any_of HT_.out (by kernel_rfl)) (fun _ _ _ h => h) (Or.inl ⟨by rfl, ?_⟩) ?_ ?_
           rotate_left
           ·intro w'
            go_simp
            with_reducible rfl
           rotate_left
           ·simp only [Act.put, List.setIfInBounds_toArray, List.set_cons_zero, List.set_cons_succ, i64_w, i32_w]
            rfl
           refine pure_ (i := 1) (N := some 93) (v := ?_) (a' := ?_) #[true, true, false, false, false, false, false, false, false, false, false, false] rfl rfl (any_of HT_.out (by kernel_rfl)) (fun _ _ _ h => h) (Or.inl ⟨by rfl, ?_⟩) ?_ ?_
           rotate_left
           ·intro w'
            go_simp
            with_reducible rfl
           rotate_left
           ·simp only [Act.put, List.setIfInBounds_toArray, List.set_cons_zero, List.set_cons_succ, i64_w, i32_w]
            rfl
           refine pure_ (i := 2) (N := some 94) (v := ?_) (a' := ?_) #[true, true, true, false, false, false, false, false, false, false, false, false] rfl rfl (any_of HT_.out (by kernel_rfl)) (fun _ _ _ h => h) (Or.inl ⟨by rfl, ?_⟩) ?_ ?_
           rotate_left
           ·intro w'
            go_simp
            with_reducible rfl
           rotate_left
           ·simp only [Act.put, List.setIfInBounds_toArray, List.set_cons_zero, List.set_cons_succ, i64_w, i32_w]
            rfl
           refine pure_ (i := 3) (N := some 95) (v := ?_) (a' := ?_) #[true, true, true, true, false, false, false, false, false, false, false, false] rfl rfl (any_of HT_.out (by kernel_rfl)) (fun _ _ _ h => h) (Or.inl ⟨by rfl, ?_⟩) ?_ ?_
           rotate_left
           ·intro w'
            go_simp
            with_reducible rfl
           rotate_left
           ·simp only [Act.put, List.setIfInBounds_toArray, List.set_cons_zero, List.set_cons_succ, i64_w, i32_w]
            rfl
           refine pure_ (i := 5) (N := some 97) (v := ?_) (a' := ?_) #[true, true, true, true, false, true, false, false, false, false, false, false] rfl rfl (any_of HT_.out (by kernel_rfl)) (fun _ _ _ h => h) (Or.inl ⟨by rfl, ?_⟩) ?_ ?_
           rotate_left
           ·intro w'
            go_simp
            with_reducible rfl
           rotate_left
           ·simp only [Act.put, List.setIfInBounds_toArray, List.set_cons_zero, List.set_cons_succ, i64_w, i32_w]
            rfl
           refine pure_ (i := 6) (N := some 98) (v := ?_) (a' := ?_) #[true, true, true, true, false, true, true, false, false, false, false, false] rfl rfl (any_of HT_.out (by kernel_rfl)) (fun _ _ _ h => h) (Or.inl ⟨by rfl, ?_⟩) ?_ ?_
           rotate_left
           ·intro w'
            go_simp
            with_reducible rfl
           rotate_left
           ·simp only [Act.put, List.setIfInBounds_toArray, List.set_cons_zero, List.set_cons_succ, i64_w, i32_w]
            rfl
           refine pure_ (i := 7) (N := some 99) (v := ?_) (a' := ?_) #[true, true, true, true, false, true, true, true, false, false, false, false] rfl rfl (any_of HT_.out (by kernel_rfl)) (fun _ _ _ h => h) (Or.inl ⟨by rfl, ?_⟩) ?_ ?_
           rotate_left
           ·intro w'
            go_simp
            with_reducible rfl
           rotate_left
           ·simp only [Act.put, List.setIfInBounds_toArray, List.set_cons_zero, List.set_cons_succ, i64_w, i32_w]
            rfl
           refine take_ (i := 4) (N := some 96) (v := ?_) (a' := ?_) #[true, true, true, true, true, true, true, true, false, false, false, false] rfl rfl (take_ofW HT_.out HW_.out (by kernel_rfl)) (fun _ _ _ h => h) (Or.inl ⟨by rfl, ?_⟩) hHeld ?_ ?_
           rotate_left
           ·rintro w' ⟨s0, s1, s2, s3, s4, s5, s6, s7, s8, s9⟩
            go_simp
            with_reducible rfl
           rotate_left
           ·simp only [Act.put, List.setIfInBounds_toArray, List.set_cons_zero, List.set_cons_succ, i64_w, i32_w]
            rfl
           refine take_ (i := 8) (N := some 100) (v := ?_) (a' := ?_) #[true, true, true, true, true, true, true, true, true, false, false, false] rfl rfl (take_ofW HT_.out HW_.out (by kernel_rfl)) (fun _ _ _ h => h) (Or.inl ⟨by rfl, ?_⟩) hHeld ?_ ?_
           rotate_left
           ·rintro w' ⟨s0, s1, s2, s3, s4, s5, s6, s7, s8, s9⟩
            go_simp
            with_reducible rfl
           rotate_left
           ·simp only [Act.put, List.setIfInBounds_toArray, List.set_cons_zero, List.set_cons_succ, i64_w, i32_w]
            rfl
           refine one_ (i := 9) (N := some 101) #[true, true, true, true, true, true, true, true, true, true, false, false] rfl rfl (one_of HT_.out (by kernel_rfl)) (by decide) (fun K hK => ?_)
           refine goesV_ Try.func33 (by kernel_rfl) rfl #[.agg #[.int .i64 ((rd_T55 l0 a2).f0), .int .i64 ((rd_T55 l0 a2).f1.f0), .int .i64 ((rd_T55 l0 a2).f1.f1), .int .i64 ((rd_T55 l0 a2).f1.f2), .int .i64 ((rd_T55 l0 a2).f1.f3)], .agg #[.int .i64 ((rd_T55 l0 (ji36)).f0), .int .i64 ((rd_T55 l0 (ji36)).f1.f0), .int .i64 ((rd_T55 l0 (ji36)).f1.f1), .int .i64 ((rd_T55 l0 (ji36)).f1.f2), .int .i64 ((rd_T55 l0 (ji36)).f1.f3)]] (by rfl) rfl rfl (by (try simp only [List.map_toArray, List.map_cons, List.map_nil]); first | done | (simp only [hji36]; rfl) | rfl | (simp only [List.length_drop, List.length_take]; rfl)) ?_
           with_reducible refine (impl_order.calls k1 ((rd_T55 l0 a2).f0) ((rd_T55 l0 a2).f1.f0) ((rd_T55 l0 a2).f1.f1) ((rd_T55 l0 a2).f1.f2) ((rd_T55 l0 a2).f1.f3) ((rd_T55 l0 (ji36)).f0) ((rd_T55 l0 (ji36)).f1.f0) ((rd_T55 l0 (ji36)).f1.f1) ((rd_T55 l0 (ji36)).f1.f2) ((rd_T55 l0 (ji36)).f1.f3) t219 _ A39.out).mono ?_
           rintro e w46 ⟨rfl, hb⟩
           have HS0_ := (hb.cell (World.block_lt_of_cell? _ _ (hHeld.1))).trans (hHeld.1)
           have HS1_ := (hb.cell (World.block_lt_of_cell? _ _ (hHeld.2.1))).trans (hHeld.2.1)
           have HS2_ := (hb.cell (World.block_lt_of_cell? _ _ (hHeld.2.2.1))).trans (hHeld.2.2.1)
           have HS3_ := (hb.cell (World.block_lt_of_cell? _ _ (hHeld.2.2.2.1))).trans (hHeld.2.2.2.1)
           have HS4_ := (hb.cell (World.block_lt_of_cell? _ _ (hHeld.2.2.2.2.1))).trans (hHeld.2.2.2.2.1)
           have HS5_ := (hb.cell (World.block_lt_of_cell? _ _ (hHeld.2.2.2.2.2.1))).trans (hHeld.2.2.2.2.2.1)
           have HS6_ := (hb.cell (World.block_lt_of_cell? _ _ (hHeld.2.2.2.2.2.2.1))).trans (hHeld.2.2.2.2.2.2.1)
           have HS7_ := (hb.cell (World.block_lt_of_cell? _ _ (hHeld.2.2.2.2.2.2.2.1))).trans (hHeld.2.2.2.2.2.2.2.1)
           have HS8_ := (hb.cell (World.block_lt_of_cell? _ _ (hHeld.2.2.2.2.2.2.2.2.1))).trans (hHeld.2.2.2.2.2.2.2.2.1)
           have HS9_ := (hb.cell (World.block_lt_of_cell? _ _ (hHeld.2.2.2.2.2.2.2.2.2))).trans (hHeld.2.2.2.2.2.2.2.2.2)
           refine ⟨_, rfl, ?_⟩
           have n0_ := Aside0.mk (Kd.R_below (by (with_reducible repeat (first | apply Kd.R_alloc | apply Kd.R_drewN | apply Kd.R_drew)); exact HO_0.out) hb)
           have n1_ := Aside0.mk (Kept.below (S := (fun k_ => P0_ k_)) (by repeat (first | (with_reducible first | exact HK.out | apply Kept.alloc | apply Kept.drewN | apply Kept.drew) | exact HK.out)) hb)
           have n2_ := Aside0.mk (below_step (by repeat (first | (with_reducible first | exact HB.out | apply below_alloc | apply pw_below_drewN | apply below_drew1) | exact HB.out)) hb)
           clear HO_0
           clear HK
           clear HB
           have HO_0 := n0_
           have HK := n1_
           have HB := n2_
           clear n0_ n1_ n2_
           (try clear hb)
           (try clear hb2)
           (try clear hk)
           (try clear hi)
           refine hK.out _ _ ⟨HS0_, HS1_, HS2_, HS3_, HS4_, HS5_, HS6_, HS7_, HS8_, HS9_⟩ (fun hHeld => ?_)
           clear hK K
           refine norm_ (a' := ?_) ?_ ?_
           rotate_left
           ·show Act.put _ (some 101) _ = _
            simp only [Act.put, List.setIfInBounds_toArray, List.set_cons_zero, List.set_cons_succ, i64_w, i32_w]
            rfl
           refine pure_ (i := 10) (N := some 102) (v := ?_) (a' := ?_) #[true, true, true, true, true, true, true, true, true, true, true, false] rfl rfl (any_of HT_.out (by kernel_rfl)) (fun _ _ _ h => h) (Or.inl ⟨by rfl, ?_⟩) ?_ ?_
           rotate_left
           ·intro w'
            go_simp
            with_reducible rfl
           rotate_left
           ·simp only [Act.put, List.setIfInBounds_toArray, List.set_cons_zero, List.set_cons_succ, i64_w, i32_w]
            rfl
           refine pure_ (i := 11) (N := some 103) (v := ?_) (a' := ?_) #[true, true, true, true, true, true, true, true, true, true, true, true] rfl rfl (any_of HT_.out (by kernel_rfl)) (fun _ _ _ h => h) (Or.inl ⟨by rfl, ?_⟩) ?_ ?_
           rotate_left
           ·intro w'
            go_simp
            with_reducible rfl
           rotate_left
           ·simp only [Act.put, List.setIfInBounds_toArray, List.set_cons_zero, List.set_cons_succ, i64_w, i32_w]
            rfl
           refine done_ (done_of HT_.out (by kernel_rfl)) ?_
           try go_wp2
           go_roundg k1
           case measure => have := HK1.out; omega
           case rel => exact ⟨(wrap64 ((ji36) + 1)), (x15_1), (by first | rfl | (simp; done) | (simp only [← hji36] <;> (first | rfl | simp)) | (simp [*]; done)), (by first | rfl | (simp; done) | (simp [*]; done)), H', ⟨by have := HK1.out; omega⟩, ⟨by (with_reducible repeat (first | apply Kd.R_alloc | apply Kd.R_drewN | apply Kd.R_drew)); exact HO_0.out⟩, ⟨by repeat (first | (with_reducible first | exact HK.out | apply Kept.alloc | apply Kept.drewN | apply Kept.drew) | exact HK.out)⟩, ⟨by repeat (first | (with_reducible first | exact HB.out | apply below_alloc | apply pw_below_drewN | apply below_drew1) | exact HB.out)⟩⟩
         ·rw [if_neg c38] at H
          exact absurd H (by simp)
        ·rw [if_neg c37] at H
         exact absurd H (by simp)
       ·rw [if_neg c35] at H
        exact absurd H (by simp)
      ·rw [if_neg c34] at H
       exact absurd H (by simp)
     ·rw [if_neg c33] at H
      have c33b0 : decide (x14_1 < x15_1) = false := decide_eq_false c33
      clear c33
      have H' := Aside0.mk H
      clear H
      go_wp2
      go_loopg [17] k1 (fun kq v17 w' => ∃ (x0_2 : List (S55)) (x17_2 : Int), v17 = .int .i64 x17_2 ∧ Aside0 (impl_Item_80.l3 kq x0_2 x14_1 x17_2 = some r) ∧ Aside0 (kq ≤ k1) ∧ Aside0 (Kd.R k55 55 w' w0.heap.size (fun k_ => (P0_ k_ ∨ w.heap.size ≤ k_)) u9000_ x0_2) ∧ Aside0 (Kept w w' (fun k_ => P0_ k_)) ∧ Aside0 (Below w0.heap.size w0 w'))
      case atStart => exact ⟨(l0), (a2), (by first | rfl | (simp; done) | (simp [*]; done)), H', ⟨Nat.le_refl _⟩, ⟨by (with_reducible repeat (first | apply Kd.R_alloc | apply Kd.R_drewN | apply Kd.R_drew)); exact HO_0.out⟩, ⟨by repeat (first | (with_reducible first | exact HK.out | apply Kept.alloc | apply Kept.drewN | apply Kept.drew) | exact HK.out)⟩, ⟨by repeat (first | (with_reducible first | exact HB.out | apply below_alloc | apply pw_below_drewN | apply below_drew1) | exact HB.out)⟩⟩
      case round =>
       clear H'
       try clear c1
       try clear c2
       try clear p2
       try clear q2
       try clear hx2
       try clear c3
       try clear c4
       try clear c5
       try clear c5b0
       try clear c5b1
       try clear c6
       try clear c6b0
       try clear p6
       try clear c8
       try clear c8b0
       try clear c9
       try clear c9b0
       try clear c10
       try clear c10b0
       try clear c11
       try clear c11b0
       try clear c13
       try clear c13b0
       try clear c20
       try clear c20b0
       try clear p21
       try clear q21
       try clear hx21
       try clear c22
       try clear c22b0
       try clear c23
       try clear c23b0
       try clear c24
       try clear c24b0
       try clear c25
       try clear c25b0
       try clear c26
       try clear p26
       try clear q26
       try clear hx26
       try clear hf26
       try clear c27
       try clear p27
       try clear q27
       try clear hx27
       try clear hf27
       try clear c30
       try clear c31
       try clear c32
       try clear c32b0
       try clear c32b1
       try clear c33
       try clear c33b0
       try clear c34
       try clear c34b0
       try clear c35
       try clear c35b0
       try clear c37
       try clear c37b0
       try clear c38
       try clear c38b0
       try clear c40
       try clear c40b0
       try clear hx210_0
       try clear hx210_1
       try clear hx210_2
       try clear hx210_3
       try clear hx210_4
       try clear hx211_0
       try clear hx211_1
       try clear hx211_2
       try clear hx211_3
       try clear hx211_4
       try clear hx213_0
       try clear hx213_1
       try clear hx213_2
       try clear hx213_3
       try clear hx213_4
       try clear hx214_0
       try clear hx214_1
       try clear hx214_2
       try clear hx214_3
       try clear hx214_4
       try clear hx217_0
       try clear hx217_1
       try clear hx217_2
       try clear hx217_3
       try clear hx217_4
       try clear hx218_0
       try clear hx218_1
       try clear hx218_2
       try clear hx218_3
       try clear hx218_4
       try clear hx26_0
       try clear hx26_1
       try clear hx26_2
       try clear hx26_3
       try clear hx26_4
       try clear hx27_0
       try clear hx27_1
       try clear hx27_2
       try clear hx27_3
       try clear hx27_4
       try clear p2
       try clear p21
       try clear p210
       try clear p211
       try clear p213
       try clear p214
       try clear p217
       try clear p218
       try clear p26
       try clear p27
       try clear p6
       try clear q2
       try clear q21
       try clear q210
       try clear q211
       try clear q213
       try clear q214
       try clear q217
       try clear q218
       try clear q26
       try clear q27
       obtain ⟨x0_2, x17_2, rfl, HA, HK2, HO_0, HK, HB⟩ := hrel
       cases gk with
       | zero => exact absurd HA.out (by simp [impl_Item_80.l3])
       | succ k2 =>
        have H := HA.out
        clear HA
        simp only [impl_Item_80.l3] at H
        by_cases c47 : x17_2 > x14_1
        ·rw [if_pos c47] at H
         have c47b0 : decide (x14_1 < x17_2) = true := decide_eq_true c47
         clear c47
         obtain ⟨ji48, hji48⟩ : ∃ j_ : Int, (wrap64 (x17_2 - 1)) = j_ := ⟨_, rfl⟩
         replace H : (if 0 ≤ (ji48) then (if (ji48) < (x0_2.length : Int) then (if 0 ≤ x17_2 then (if x17_2 < (x0_2.length : Int) then (if x17_2 = (ji48) then none else (impl_Item_80.l3 k2 ((x0_2.set (x17_2 : Int).toNat (⟨(rd_T55 x0_2 (ji48)).f0, (⟨(rd_T55 x0_2 (ji48)).f1.f0, (rd_T55 x0_2 (ji48)).f1.f1, (rd_T55 x0_2 (ji48)).f1.f2, (rd_T55 x0_2 (ji48)).f1.f3⟩ : S41)⟩ : S55)).set ((ji48) : Int).toNat (⟨(rd_T55 x0_2 x17_2).f0, (⟨(rd_T55 x0_2 x17_2).f1.f0, (rd_T55 x0_2 x17_2).f1.f1, (rd_T55 x0_2 x17_2).f1.f2, (rd_T55 x0_2 x17_2).f1.f3⟩ : S41)⟩ : S55)) x14_1 ji48)) else (none)) else (none)) else (none)) else (none)) = some r := by first | (rw [hji48] at H; exact H) | (simp only [hji48] at H ⊢; exact H)
         have hji48w : (IntKind.i64.wrap (x17_2 - 1)) = ji48 := (i64_w _).trans hji48
         by_cases c49 : 0 ≤ (ji48)
         ·rw [if_pos c49] at H
          have c49b0 : decide (0 ≤ (ji48)) = true := decide_eq_true c49
          clear c49
          by_cases c50 : (ji48) < (x0_2.length : Int)
          ·rw [if_pos c50] at H
           have c50b0 : decide ((ji48) < (x0_2.length : Int)) = true := decide_eq_true c50
           clear c50
           by_cases c51 : 0 ≤ x17_2
           ·rw [if_pos c51] at H
            have c51b0 : decide (0 ≤ x17_2) = true := decide_eq_true c51
            clear c51
            by_cases c52 : x17_2 < (x0_2.length : Int)
            ·rw [if_pos c52] at H
             have c52b0 : decide (x17_2 < (x0_2.length : Int)) = true := decide_eq_true c52
             clear c52
             by_cases hne_ : x17_2 = (ji48)
             ·rw [if_pos hne_] at H; exact absurd H (by simp)
             rw [if_neg hne_] at H
             have hn0_ : 0 ≤ (x17_2 : Int) := of_decide_eq_true (by first | (with_reducible assumption) | assumption)
             have hn1_ : 0 ≤ ((ji48) : Int) := of_decide_eq_true (by first | (with_reducible assumption) | assumption)
             have hnA_ : ((x17_2 : Int).toNat = ((ji48) : Int).toNat) = False := eq_false (by omega)
             have hnB_ : (((ji48) : Int).toNat = (x17_2 : Int).toNat) = False := eq_false (by omega)
             have hnA0_ : ((x17_2 : Int).toNat * 5 = ((ji48) : Int).toNat * 5) = False := eq_false (by omega)
             have hnB0_ : (((ji48) : Int).toNat * 5 = (x17_2 : Int).toNat * 5) = False := eq_false (by omega)
             have hnA1_ : ((x17_2 : Int).toNat * 5 + 1 = ((ji48) : Int).toNat * 5 + 1) = False := eq_false (by omega)
             have hnB1_ : (((ji48) : Int).toNat * 5 + 1 = (x17_2 : Int).toNat * 5 + 1) = False := eq_false (by omega)
             have hnA2_ : ((x17_2 : Int).toNat * 5 + 2 = ((ji48) : Int).toNat * 5 + 2) = False := eq_false (by omega)
             have hnB2_ : (((ji48) : Int).toNat * 5 + 2 = (x17_2 : Int).toNat * 5 + 2) = False := eq_false (by omega)
             have hnA3_ : ((x17_2 : Int).toNat * 5 + 3 = ((ji48) : Int).toNat * 5 + 3) = False := eq_false (by omega)
             have hnB3_ : (((ji48) : Int).toNat * 5 + 3 = (x17_2 : Int).toNat * 5 + 3) = False := eq_false (by omega)
             have hnA4_ : ((x17_2 : Int).toNat * 5 + 4 = ((ji48) : Int).toNat * 5 + 4) = False := eq_false (by omega)
             have hnB4_ : (((ji48) : Int).toNat * 5 + 4 = (x17_2 : Int).toNat * 5 + 4) = False := eq_false (by omega)
             clear hn0_ hn1_ hne_
             obtain ⟨y222, hy222⟩ : ∃ y_ : List (S55), y_ = (x0_2.set (x17_2 : Int).toNat (⟨(rd_T55 x0_2 (ji48)).f0, (⟨(rd_T55 x0_2 (ji48)).f1.f0, (rd_T55 x0_2 (ji48)).f1.f1, (rd_T55 x0_2 (ji48)).f1.f2, (rd_T55 x0_2 (ji48)).f1.f3⟩ : S41)⟩ : S55)) := ⟨_, rfl⟩
             replace H : (impl_Item_80.l3 k2 (y222.set ((ji48) : Int).toNat (⟨(rd_T55 x0_2 x17_2).f0, (⟨(rd_T55 x0_2 x17_2).f1.f0, (rd_T55 x0_2 x17_2).f1.f1, (rd_T55 x0_2 x17_2).f1.f2, (rd_T55 x0_2 x17_2).f1.f3⟩ : S41)⟩ : S55)) x14_1 ji48) = some r := by first | (rw [hy222]; with_reducible exact H) | (have H2_ := (Option.bind_some _ _).symm.trans H; rw [hy222]; with_reducible exact H2_) | (have H2_ := (Option.bind_some _ _).symm.trans H; with_reducible exact H2_) | with_reducible exact H | (rw [hy222]; exact H) | exact H
             have Ny222 := Aside0.mk hy222
             clear hy222
             obtain ⟨y223, hy223⟩ : ∃ y_ : List (S55), y_ = (y222.set ((ji48) : Int).toNat (⟨(rd_T55 x0_2 x17_2).f0, (⟨(rd_T55 x0_2 x17_2).f1.f0, (rd_T55 x0_2 x17_2).f1.f1, (rd_T55 x0_2 x17_2).f1.f2, (rd_T55 x0_2 x17_2).f1.f3⟩ : S41)⟩ : S55)) := ⟨_, rfl⟩
             replace H : (impl_Item_80.l3 k2 y223 x14_1 ji48) = some r := by first | (rw [hy223]; with_reducible exact H) | (have H2_ := (Option.bind_some _ _).symm.trans H; rw [hy223]; with_reducible exact H2_) | (have H2_ := (Option.bind_some _ _).symm.trans H; with_reducible exact H2_) | with_reducible exact H | (rw [hy223]; exact H) | exact H
             have Ny223 := Aside0.mk hy223
             clear hy223
             have H' := Aside0.mk H
             clear H
             try go_wp2
             have n0_ := Aside0.mk (Kd.R_drew HO_0.out)
             have n1_ := Aside0.mk (Kept.drew HK.out)
             have n2_ := Aside0.mk (below_drew1 HB.out)
             clear HO_0
             clear HK
             clear HB
             have HO_0 := n0_
             have HK := n1_
             have HB := n2_
             clear n0_ n1_ n2_
             obtain ⟨Ao56, co56, eo56⟩ := Kd.R_slice HO_0.out
             (first | subst eo56 | (injection eo56 with f1_ f2_ f3_; have f4_ := f1_.symm; have f5_ := f3_.symm; clear f1_ f2_ f3_; subst f4_; subst f5_))
             have p220 : 0 ≤ ((ji48) : Int) := of_decide_eq_true (by first | (with_reducible assumption) | assumption)
             have q220 : (ji48) < (x0_2.length : Int) := of_decide_eq_true (by first | (with_reducible assumption) | assumption)
             obtain ⟨ad220, e220, hx220_0, hx220_1, hx220_2, hx220_3, hx220_4⟩ := at_T55 (Kd.R_reads' HO_0.out).2.2 (ji48) p220 q220
             cases e220
             replace p220 := eq_true p220
             replace q220 := eq_true q220
             have p221 : 0 ≤ (x17_2 : Int) := of_decide_eq_true (by first | (with_reducible assumption) | assumption)
             have q221 : x17_2 < (x0_2.length : Int) := of_decide_eq_true (by first | (with_reducible assumption) | assumption)
             obtain ⟨ad221, e221, hx221_0, hx221_1, hx221_2, hx221_3, hx221_4⟩ := at_T55 (Kd.R_reads' HO_0.out).2.2 x17_2 p221 q221
             obtain rfl : ad220 = ad221 := (by injection e221)
             replace p221 := eq_true p221
             replace q221 := eq_true q221
             have p53 : 0 ≤ (x17_2 : Int) := of_decide_eq_true (by first | (with_reducible assumption) | assumption)
             have q53 : (x17_2 : Int) < ((x0_2.length : Int) : Int) := of_decide_eq_true (by first | (with_reducible assumption) | assumption)
             obtain ⟨go53, co53, eo53, gb53, gl53, cl53, HG53⟩ := Kd.R_form HO_0.out (by omega)
             (first | cases eo53 | (injection eo53 with ea_ en_ ec_; (first | subst ea_ | (injection ea_ with ea_; subst ea_)); subst ec_; clear en_))
             have GB53 := Aside0.mk gb53
             have GG53 := Aside0.mk HG53
             clear gb53 gl53 HG53
             have HMgo53 := Aside0.mk (show (P0_ go53 ∨ w.heap.size ≤ go53) from (HO_0.out.1 _ rfl))
             (first | simp only [add_plain] at hx220_0 | skip)
             (first | simp only [add_plain] at hx220_1 | skip)
             (first | simp only [add_plain] at hx220_2 | skip)
             (first | simp only [add_plain] at hx220_3 | skip)
             (first | simp only [add_plain] at hx220_4 | skip)
             (first | simp only [add_plain] at hx221_0 | skip)
             (first | simp only [add_plain] at hx221_1 | skip)
             (first | simp only [add_plain] at hx221_2 | skip)
             (first | simp only [add_plain] at hx221_3 | skip)
             (first | simp only [add_plain] at hx221_4 | skip)
             obtain ⟨ce53, hcl53, hM53, hcc53, hfr53⟩ := Kd.R_elem HO_0.out z55 (x17_2 : Int) p53 q53
             obtain rfl := k55_openM hM53
             have hx53_0 : World.cell? _ ⟨go53, (x17_2 : Int).toNat * 5, none⟩ = some (.int .i64 ((rd_T55 x0_2 x17_2).f0)) := hcc53 0 _ rfl
             have hx53_1 : World.cell? _ ⟨go53, (x17_2 : Int).toNat * 5 + 1, none⟩ = some (.int .i64 ((rd_T55 x0_2 x17_2).f1.f0)) := hcc53 1 _ rfl
             have hx53_2 : World.cell? _ ⟨go53, (x17_2 : Int).toNat * 5 + 2, none⟩ = some (.int .i64 ((rd_T55 x0_2 x17_2).f1.f1)) := hcc53 2 _ rfl
             have hx53_3 : World.cell? _ ⟨go53, (x17_2 : Int).toNat * 5 + 3, none⟩ = some (.int .i64 ((rd_T55 x0_2 x17_2).f1.f2)) := hcc53 3 _ rfl
             have hx53_4 : World.cell? _ ⟨go53, (x17_2 : Int).toNat * 5 + 4, none⟩ = some (.int .i64 ((rd_T55 x0_2 x17_2).f1.f3)) := hcc53 4 _ rfl
             have hf53_0 : World.frozen? _ ⟨go53, (x17_2 : Int).toNat * 5, none⟩ = false := hfr53 0
             have hf53_1 : World.frozen? _ ⟨go53, (x17_2 : Int).toNat * 5 + 1, none⟩ = false := hfr53 1
             have hf53_2 : World.frozen? _ ⟨go53, (x17_2 : Int).toNat * 5 + 2, none⟩ = false := hfr53 2
             have hf53_3 : World.frozen? _ ⟨go53, (x17_2 : Int).toNat * 5 + 3, none⟩ = false := hfr53 3
             have hf53_4 : World.frozen? _ ⟨go53, (x17_2 : Int).toNat * 5 + 4, none⟩ = false := hfr53 4
             clear hcl53 hcc53 hfr53 hM53
             replace p53 := eq_true p53
             replace q53 := eq_true q53
             obtain ⟨ce57, hcl57, hM57, hcc57, hfr57⟩ := Kd.R_elem HO_0.out z55 (x17_2 : Int) (of_decide_eq_true (by first | (with_reducible assumption) | assumption)) (by have h_ : (x17_2 : Int) < ((x0_2.length : Int) : Int) := of_decide_eq_true (by first | (with_reducible assumption) | assumption); first | exact h_ | (have e_ := (Kd.R_reads' HO_0.out).1; omega) | simpa using h_)
             obtain rfl := k55_openM hM57
             have HP57 := (Kd.R_seg HO_0.out (x17_2 : Int) (of_decide_eq_true (by first | (with_reducible assumption) | assumption)) (by have h_ : (x17_2 : Int) < ((x0_2.length : Int) : Int) := of_decide_eq_true (by first | (with_reducible assumption) | assumption); first | exact h_ | (have e_ := (Kd.R_reads' HO_0.out).1; omega) | simpa using h_) (seg := [.int .i64 ((rd_T55 x0_2 (ji48)).f0), .int .i64 ((rd_T55 x0_2 (ji48)).f1.f0), .int .i64 ((rd_T55 x0_2 (ji48)).f1.f1), .int .i64 ((rd_T55 x0_2 (ji48)).f1.f2), .int .i64 ((rd_T55 x0_2 (ji48)).f1.f3)]) (j := 0) hcl57 hcc57 (show 5 ≤ 5 from by decide) (x' := (⟨(rd_T55 x0_2 (ji48)).f0, (⟨(rd_T55 x0_2 (ji48)).f1.f0, (rd_T55 x0_2 (ji48)).f1.f1, (rd_T55 x0_2 (ji48)).f1.f2, (rd_T55 x0_2 (ji48)).f1.f3⟩ : S41)⟩ : S55)) (k55_mkM _ _ _ (⟨(rd_T55 x0_2 (ji48)).f0, (⟨(rd_T55 x0_2 (ji48)).f1.f0, (rd_T55 x0_2 (ji48)).f1.f1, (rd_T55 x0_2 (ji48)).f1.f2, (rd_T55 x0_2 (ji48)).f1.f3⟩ : S41)⟩ : S55) ) (fun _ hk => hk)).1
             rw [← Ny222.out] at HP57
             have HQ57 := Aside0.mk HP57
             clear hcl57 hcc57 hfr57 hM57 HP57
             have p54 : 0 ≤ ((ji48) : Int) := of_decide_eq_true (by first | (with_reducible assumption) | assumption)
             have q54 : ((ji48) : Int) < ((x0_2.length : Int) : Int) := of_decide_eq_true (by first | (with_reducible assumption) | assumption)
             obtain ⟨ce54, hcl54, hM54, hcc54, hfr54⟩ := Kd.R_elem HQ57.out z55 ((ji48) : Int) p54 q54
             obtain rfl := k55_openM hM54
             have hx54_0 : World.cell? _ ⟨go53, ((ji48) : Int).toNat * 5, none⟩ = some (.int .i64 ((rd_T55 y222 (ji48)).f0)) := hcc54 0 _ rfl
             have hx54_1 : World.cell? _ ⟨go53, ((ji48) : Int).toNat * 5 + 1, none⟩ = some (.int .i64 ((rd_T55 y222 (ji48)).f1.f0)) := hcc54 1 _ rfl
             have hx54_2 : World.cell? _ ⟨go53, ((ji48) : Int).toNat * 5 + 2, none⟩ = some (.int .i64 ((rd_T55 y222 (ji48)).f1.f1)) := hcc54 2 _ rfl
             have hx54_3 : World.cell? _ ⟨go53, ((ji48) : Int).toNat * 5 + 3, none⟩ = some (.int .i64 ((rd_T55 y222 (ji48)).f1.f2)) := hcc54 3 _ rfl
             have hx54_4 : World.cell? _ ⟨go53, ((ji48) : Int).toNat * 5 + 4, none⟩ = some (.int .i64 ((rd_T55 y222 (ji48)).f1.f3)) := hcc54 4 _ rfl
             have hf54_0 : World.frozen? _ ⟨go53, ((ji48) : Int).toNat * 5, none⟩ = false := hfr54 0
             have hf54_1 : World.frozen? _ ⟨go53, ((ji48) : Int).toNat * 5 + 1, none⟩ = false := hfr54 1
             have hf54_2 : World.frozen? _ ⟨go53, ((ji48) : Int).toNat * 5 + 2, none⟩ = false := hfr54 2
             have hf54_3 : World.frozen? _ ⟨go53, ((ji48) : Int).toNat * 5 + 3, none⟩ = false := hfr54 3
             have hf54_4 : World.frozen? _ ⟨go53, ((ji48) : Int).toNat * 5 + 4, none⟩ = false := hfr54 4
             clear hcl54 hcc54 hfr54 hM54
             replace p54 := eq_true p54
             replace q54 := eq_true q54
             obtain ⟨ce58, hcl58, hM58, hcc58, hfr58⟩ := Kd.R_elem HQ57.out z55 ((ji48) : Int) (of_decide_eq_true (by first | (with_reducible assumption) | assumption)) (by have h_ : ((ji48) : Int) < ((x0_2.length : Int) : Int) := of_decide_eq_true (by first | (with_reducible assumption) | assumption); first | exact h_ | (have e_ := (Kd.R_reads' HO_0.out).1; omega) | simpa using h_)
             obtain rfl := k55_openM hM58
             have HP58 := (Kd.R_seg HQ57.out ((ji48) : Int) (of_decide_eq_true (by first | (with_reducible assumption) | assumption)) (by have h_ : ((ji48) : Int) < ((x0_2.length : Int) : Int) := of_decide_eq_true (by first | (with_reducible assumption) | assumption); first | exact h_ | (have e_ := (Kd.R_reads' HO_0.out).1; omega) | simpa using h_) (seg := [.int .i64 ((rd_T55 x0_2 x17_2).f0), .int .i64 ((rd_T55 x0_2 x17_2).f1.f0), .int .i64 ((rd_T55 x0_2 x17_2).f1.f1), .int .i64 ((rd_T55 x0_2 x17_2).f1.f2), .int .i64 ((rd_T55 x0_2 x17_2).f1.f3)]) (j := 0) hcl58 hcc58 (show 5 ≤ 5 from by decide) (x' := (⟨(rd_T55 x0_2 x17_2).f0, (⟨(rd_T55 x0_2 x17_2).f1.f0, (rd_T55 x0_2 x17_2).f1.f1, (rd_T55 x0_2 x17_2).f1.f2, (rd_T55 x0_2 x17_2).f1.f3⟩ : S41)⟩ : S55)) (k55_mkM _ _ _ (⟨(rd_T55 x0_2 x17_2).f0, (⟨(rd_T55 x0_2 x17_2).f1.f0, (rd_T55 x0_2 x17_2).f1.f1, (rd_T55 x0_2 x17_2).f1.f2, (rd_T55 x0_2 x17_2).f1.f3⟩ : S41)⟩ : S55) ) (fun _ hk => hk)).1
             rw [← Ny223.out] at HP58
             have HQ58 := Aside0.mk HP58
             clear hcl58 hcc58 hfr58 hM58 HP58
             obtain ⟨ceZ_, hclZ_, hMZ_, hccZ_, hfrZ_⟩ := Kd.R_elem HO_0.out z55 ((ji48) : Int) (of_eq_true p54) (of_eq_true q54)
             have hfZ0_ : World.frozen? _ ⟨go53, ((ji48) : Int).toNat * 5, none⟩ = false := hfrZ_ 0
             have hfZ1_ : World.frozen? _ ⟨go53, ((ji48) : Int).toNat * 5 + 1, none⟩ = false := hfrZ_ 1
             have hfZ2_ : World.frozen? _ ⟨go53, ((ji48) : Int).toNat * 5 + 2, none⟩ = false := hfrZ_ 2
             have hfZ3_ : World.frozen? _ ⟨go53, ((ji48) : Int).toNat * 5 + 3, none⟩ = false := hfrZ_ 3
             have hfZ4_ : World.frozen? _ ⟨go53, ((ji48) : Int).toNat * 5 + 4, none⟩ = false := hfrZ_ 4
             clear hclZ_ hccZ_ hfrZ_ hMZ_
             refine start_ (n := 18) (S := fun w' => w'.cell? ⟨go53, (((ji48)).toNat * 5), none⟩ = some (.int .i64 ((rd_T55 x0_2 (ji48)).f0)) ∧ w'.cell? ⟨go53, (((ji48)).toNat * 5) + 1, none⟩ = some (.int .i64 ((rd_T55 x0_2 (ji48)).f1.f0)) ∧ w'.cell? ⟨go53, (((ji48)).toNat * 5) + 2, none⟩ = some (.int .i64 ((rd_T55 x0_2 (ji48)).f1.f1)) ∧ w'.cell? ⟨go53, (((ji48)).toNat * 5) + 3, none⟩ = some (.int .i64 ((rd_T55 x0_2 (ji48)).f1.f2)) ∧ w'.cell? ⟨go53, (((ji48)).toNat * 5) + 4, none⟩ = some (.int .i64 ((rd_T55 x0_2 (ji48)).f1.f3)) ∧ w'.cell? ⟨go53, ((x17_2).toNat * 5), none⟩ = some (.int .i64 ((rd_T55 x0_2 x17_2).f0)) ∧ w'.cell? ⟨go53, ((x17_2).toNat * 5) + 1, none⟩ = some (.int .i64 ((rd_T55 x0_2 x17_2).f1.f0)) ∧ w'.cell? ⟨go53, ((x17_2).toNat * 5) + 2, none⟩ = some (.int .i64 ((rd_T55 x0_2 x17_2).f1.f1)) ∧ w'.cell? ⟨go53, ((x17_2).toNat * 5) + 3, none⟩ = some (.int .i64 ((rd_T55 x0_2 x17_2).f1.f2)) ∧ w'.cell? ⟨go53, ((x17_2).toNat * 5) + 4, none⟩ = some (.int .i64 ((rd_T55 x0_2 x17_2).f1.f3))) (ds := [15, 17]) #[false, false, false, false, false, false, false, false, false, false, false, false, false, false, false, false, false, false] (by kernel_rfl) rfl rfl ⟨hx220_0, hx220_1, hx220_2, hx220_3, hx220_4, hx221_0, hx221_1, hx221_2, hx221_3, hx221_4⟩ (fun hHeld => ?_); refine with_tabW impl_Item_80.tab23 impl_Item_80.bits23 (fun HT_ HW_ => ?_)
             generalize wr.drew = w55 at HO_0 HK HB GG53 HQ57 HQ58 hf53_0 hf53_1 hf53_2 hf53_3 hf53_4 hf54_0 hf54_1 hf54_2 hf54_3 hf54_4 hx220_0 hx220_1 hx220_2 hx220_3 hx220_4 hx221_0 hx221_1 hx221_2 hx221_3 hx221_4 hx53_0 hx53_1 hx53_2 hx53_3 hx53_4 hx54_0 hx54_1 hx54_2 hx54_3 hx54_4 hfZ0_ hfZ1_ hfZ2_ hfZ3_ hfZ4_ hHeld ⊢
             refine pure_ (i := 0) (N := some 113) (v := ?_) (a' := ?_) #[true, false, false, false, false, false, false, false, false, false, false, false, false, false, false, false, false, false] rfl rfl (any_of HT_.out (by kernel_rfl)) (fun _ _ _ h => h) (Or.inl ⟨by rfl, ?_⟩) ?_ ?_
             rotate_left
             ·intro w'
              go_simp
              with_reducible rfl
             rotate_left
             ·simp only [Act.put, List.setIfInBounds_toArray, List.set_cons_zero, List.set_cons_succ, i64_w, i32_w]
              rfl
             refine pure_ (i := 1) (N := some 114) (v := ?_) (a' := ?_) #[true, true, false, false, false, false, false, false, false, false, false, false, false, false, false, false, false, false] rfl rfl (any_of HT_.out (by kernel_rfl)) (fun _ _ _ h => h) (Or.inl ⟨by rfl, ?_⟩) ?_ ?_
             rotate_left
             ·intro w'
              go_simp
              with_reducible rfl
             rotate_left
             ·simp only [Act.put, List.setIfInBounds_toArray, List.set_cons_zero, List.set_cons_succ, i64_w, i32_w]
              rfl
             refine pure_ (i := 2) (N := some 115) (v := ?_) (a' := ?_) #[true, true, true, false, false, false, false, false, false, false, false, false, false, false, false, false, false, false] rfl rfl (any_of HT_.out (by kernel_rfl)) (fun _ _ _ h => h) (Or.inl ⟨by rfl, ?_⟩) ?_ ?_
             rotate_left
             ·intro w'
              go_simp
              with_reducible rfl
             rotate_left
             ·simp only [Act.put, List.setIfInBounds_toArray, List.set_cons_zero, List.set_cons_succ, i64_w, i32_w]
              rfl
             refine pure_ (i := 3) (N := some 116) (v := ?_) (a' := ?_) #[true, true, true, true, false, false, false, false, false, false, false, false, false, false, false, false, false, false] rfl rfl (any_of HT_.out (by kernel_rfl)) (fun _ _ _ h => h) (Or.inl ⟨by rfl, ?_⟩) ?_ ?_
             rotate_left
             ·intro w'
              go_simp
              with_reducible rfl
             rotate_left
             ·simp only [Act.put, List.setIfInBounds_toArray, List.set_cons_zero, List.set_cons_succ, i64_w, i32_w]
              rfl
             refine pure_ (i := 4) (N := some 117) (v := ?_) (a' := ?_) #[true, true, true, true, true, false, false, false, false, false, false, false, false, false, false, false, false, false] rfl rfl (any_of HT_.out (by kernel_rfl)) (fun _ _ _ h => h) (Or.inl ⟨by rfl, ?_⟩) ?_ ?_
             rotate_left
             ·intro w'
              go_simp
              with_reducible rfl
             rotate_left
             ·simp only [Act.put, List.setIfInBounds_toArray, List.set_cons_zero, List.set_cons_succ, i64_w, i32_w]
              rfl
             refine pure_ (i := 5) (N := some 118) (v := ?_) (a' := ?_) #[true, true, true, true, true, true, false, false, false, false, false, false, false, false, false, false, false, false] rfl rfl (any_of HT_.out (by kernel_rfl)) (fun _ _ _ h => h) (Or.inl ⟨by rfl, ?_⟩) ?_ ?_
             rotate_left
             ·intro w'
              go_simp
              with_reducible rfl
             rotate_left
             ·simp only [Act.put, List.setIfInBounds_toArray, List.set_cons_zero, List.set_cons_succ, i64_w, i32_w]
              rfl
             refine pure_ (i := 6) (N := some 119) (v := ?_) (a' := ?_) #[true, true, true, true, true, true, true, false, false, false, false, false, false, false, false, false, false, false] rfl rfl (any_of HT_.out (by kernel_rfl)) (fun _ _ _ h => h) (Or.inl ⟨by rfl, ?_⟩) ?_ ?_
             rotate_left
             ·intro w'
              go_simp
              with_reducible rfl
             rotate_left
             ·simp only [Act.put, List.setIfInBounds_toArray, List.set_cons_zero, List.set_cons_succ, i64_w, i32_w]
              rfl
             refine pure_ (i := 7) (N := some 120) (v := ?_) (a' := ?_) #[true, true, true, true, true, true, true, true, false, false, false, false, false, false, false, false, false, false] rfl rfl (any_of HT_.out (by kernel_rfl)) (fun _ _ _ h => h) (Or.inl ⟨by rfl, ?_⟩) ?_ ?_
             rotate_left
             ·intro w'
              go_simp
              with_reducible rfl
             rotate_left
             ·simp only [Act.put, List.setIfInBounds_toArray, List.set_cons_zero, List.set_cons_succ, i64_w, i32_w]
              rfl
             refine pure_ (i := 8) (N := some 121) (v := ?_) (a' := ?_) #[true, true, true, true, true, true, true, true, true, false, false, false, false, false, false, false, false, false] rfl rfl (any_of HT_.out (by kernel_rfl)) (fun _ _ _ h => h) (Or.inl ⟨by rfl, ?_⟩) ?_ ?_
             rotate_left
             ·intro w'
              go_simp
              with_reducible rfl
             rotate_left
             ·simp only [Act.put, List.setIfInBounds_toArray, List.set_cons_zero, List.set_cons_succ, i64_w, i32_w]
              rfl
             refine pure_ (i := 10) (N := some 123) (v := ?_) (a' := ?_) #[true, true, true, true, true, true, true, true, true, false, true, false, false, false, false, false, false, false] rfl rfl (any_of HT_.out (by kernel_rfl)) (fun _ _ _ h => h) (Or.inl ⟨by rfl, ?_⟩) ?_ ?_
             rotate_left
             ·intro w'
              go_simp
              with_reducible rfl
             rotate_left
             ·simp only [Act.put, List.setIfInBounds_toArray, List.set_cons_zero, List.set_cons_succ, i64_w, i32_w]
              rfl
             refine pure_ (i := 11) (N := some 124) (v := ?_) (a' := ?_) #[true, true, true, true, true, true, true, true, true, false, true, true, false, false, false, false, false, false] rfl rfl (any_of HT_.out (by kernel_rfl)) (fun _ _ _ h => h) (Or.inl ⟨by rfl, ?_⟩) ?_ ?_
             rotate_left
             ·intro w'
              go_simp
              with_reducible rfl
             rotate_left
             ·simp only [Act.put, List.setIfInBounds_toArray, List.set_cons_zero, List.set_cons_succ, i64_w, i32_w]
              rfl
             refine pure_ (i := 12) (N := some 125) (v := ?_) (a' := ?_) #[true, true, true, true, true, true, true, true, true, false, true, true, true, false, false, false, false, false] rfl rfl (any_of HT_.out (by kernel_rfl)) (fun _ _ _ h => h) (Or.inl ⟨by rfl, ?_⟩) ?_ ?_
             rotate_left
             ·intro w'
              go_simp
              with_reducible rfl
             rotate_left
             ·simp only [Act.put, List.setIfInBounds_toArray, List.set_cons_zero, List.set_cons_succ, i64_w, i32_w]
              rfl
             refine take_ (i := 9) (N := some 122) (v := ?_) (a' := ?_) #[true, true, true, true, true, true, true, true, true, true, true, true, true, false, false, false, false, false] rfl rfl (take_ofW HT_.out HW_.out (by kernel_rfl)) (fun _ _ _ h => h) (Or.inl ⟨by rfl, ?_⟩) hHeld ?_ ?_
             rotate_left
             ·rintro w' ⟨s0, s1, s2, s3, s4, s5, s6, s7, s8, s9⟩
              go_simp
              with_reducible rfl
             rotate_left
             ·simp only [Act.put, List.setIfInBounds_toArray, List.set_cons_zero, List.set_cons_succ, i64_w, i32_w]
              rfl
             refine take_ (i := 13) (N := some 126) (v := ?_) (a' := ?_) #[true, true, true, true, true, true, true, true, true, true, true, true, true, true, false, false, false, false] rfl rfl (take_ofW HT_.out HW_.out (by kernel_rfl)) (fun _ _ _ h => h) (Or.inl ⟨by rfl, ?_⟩) hHeld ?_ ?_
             rotate_left
             ·rintro w' ⟨s0, s1, s2, s3, s4, s5, s6, s7, s8, s9⟩
              go_simp
              with_reducible rfl
             rotate_left
             ·simp only [Act.put, List.setIfInBounds_toArray, List.set_cons_zero, List.set_cons_succ, i64_w, i32_w]
              rfl
             refine pure_ (i := 14) (N := some 127) (v := ?_) (a' := ?_) #[true, true, true, true, true, true, true, true, true, true, true, true, true, true, true, false, false, false] rfl rfl (any_of HT_.out (by kernel_rfl)) (fun _ _ _ h => h) (Or.inl ⟨by rfl, ?_⟩) ?_ ?_
             rotate_left
             ·intro w'
              go_simp
              with_reducible rfl
             rotate_left
             ·simp only [Act.put, List.setIfInBounds_toArray, List.set_cons_zero, List.set_cons_succ, i64_w, i32_w]
              rfl
             refine last_ (i := 15) (N := none) #[true, true, true, true, true, true, true, true, true, true, true, true, true, true, true, true, false, false] rfl rfl (one_of HT_.out (by kernel_rfl)) (by decide) (fun K hK => ?_)
             refine skip_ (w1 := ?_) (by rfl) rfl ?_ ?_
             rotate_left
             ·go_simp
              rfl
             refine hK.out _ _ ?_
             clear hK K
             refine pure_ (i := 16) (N := some 128) (v := ?_) (a' := ?_) #[true, true, true, true, true, true, true, true, true, true, true, true, true, true, true, true, true, false] rfl rfl (any_of HT_.out (by kernel_rfl)) (fun _ _ _ h => h) (Or.inl ⟨by rfl, ?_⟩) ?_ ?_
             rotate_left
             ·intro w'
              go_simp
              with_reducible rfl
             rotate_left
             ·simp only [Act.put, List.setIfInBounds_toArray, List.set_cons_zero, List.set_cons_succ, i64_w, i32_w]
              rfl
             refine last_ (i := 17) (N := none) #[true, true, true, true, true, true, true, true, true, true, true, true, true, true, true, true, true, true] rfl rfl (one_of HT_.out (by kernel_rfl)) (by decide) (fun K hK => ?_)
             refine skip_ (w1 := ?_) (by rfl) rfl ?_ ?_
             rotate_left
             ·go_simp
              rfl
             refine hK.out _ _ ?_
             clear hK K
             refine done_ (done_of HT_.out (by kernel_rfl)) ?_
             try go_wp2
             go_roundg k2
             case measure => have := HK1.out; have := HK2.out; omega
             case rel => exact ⟨(y223), (ji48), (by first | rfl | (simp; done) | (simp only [← hji48] <;> (first | rfl | simp)) | (simp [*]; done)), H', ⟨by have := HK1.out; have := HK2.out; omega⟩, ⟨by (with_reducible repeat (first | apply Kd.R_alloc | apply Kd.R_drewN | apply Kd.R_drew)); exact HQ58.out⟩, ⟨by repeat (first | (with_reducible first | exact HK.out | apply Kept.alloc | apply Kept.drewN | apply Kept.drew | refine Kept.setCell ?_ HMgo53.out _ | refine Kept.setCell ?_ HMgo53.out _ | refine Kept.setCell ?_ HMgo53.out _ | refine Kept.setCell ?_ HMgo53.out _ | refine Kept.setCell ?_ HMgo53.out _ | refine Kept.setCell ?_ HMgo53.out _ | refine Kept.setCell ?_ HMgo53.out _ | refine Kept.setCell ?_ HMgo53.out _ | refine Kept.setCell ?_ HMgo53.out _ | refine Kept.setCell ?_ HMgo53.out _) | exact HK.out)⟩, ⟨by repeat (first | (with_reducible first | exact HB.out | apply below_alloc | apply pw_below_drewN | apply below_drew1 | refine below_set ?_ GB53.out | refine below_set ?_ GB53.out | refine below_set ?_ GB53.out | refine below_set ?_ GB53.out | refine below_set ?_ GB53.out | refine below_set ?_ GB53.out | refine below_set ?_ GB53.out | refine below_set ?_ GB53.out | refine below_set ?_ GB53.out | refine below_set ?_ GB53.out) | exact HB.out)⟩⟩
            ·rw [if_neg c52] at H
             exact absurd H (by simp)
           ·rw [if_neg c51] at H
            exact absurd H (by simp)
          ·rw [if_neg c50] at H
           exact absurd H (by simp)
         ·rw [if_neg c49] at H
          exact absurd H (by simp)
        ·rw [if_neg c47] at H
         have c47b0 : decide (x14_1 < x17_2) = false := decide_eq_false c47
         clear c47
         obtain rfl := Option.some.inj H
         go_wp2
         first | go_end0 | ((try simp only [Exit.inBlock, Exit.then]); refine bodyPost_ret (results_none rfl _ _ _) rfl ?_)
         exact ⟨by first | rfl | (simp [errW_none, errW_some] <;> rfl) | (simp [*, errW_none, errW_some] <;> rfl), by (with_reducible repeat (first | apply Kd.R_alloc | apply Kd.R_drewN | apply Kd.R_drew)); exact HO_0.out, by repeat (first | (with_reducible first | exact HB.out | apply below_alloc | apply pw_below_drewN | apply below_drew1) | exact HB.out), by repeat (first | (with_reducible first | exact HK.out | apply Kept.alloc | apply Kept.drewN | apply Kept.drew) | exact HK.out)⟩

set_option maxHeartbeats 8000000 in
set_option maxRecDepth 100000 in
theorem impl_Item_80.calls_c (k : Nat) (ih : ∀ m, m < k + 1 → ∀ (P0_ : Nat → Prop) (u9000_ : Value) (l0 : List (S55)) (a1 : Int) (a2 : Int) (a3 : Int) (r : List (S55)) (w0 w : World) (hB : Below w0.heap.size w0 w) (ho0 : Kd.R k55 55 w w0.heap.size P0_ u9000_ l0) (h : impl_Item_80.f m l0 a1 a2 a3 = some r),
  Calls Try.prog 80 #[u9000_, .int .i64 a1, .int .i64 a2, .int .i64 a3, .func (.func 33) #[] #[]] w fun e w' => e = .returned (.tuple #[]) ∧ Kd.R k55 55 w' w0.heap.size (fun k_ => (P0_ k_ ∨ w.heap.size ≤ k_)) u9000_ r ∧ Below w0.heap.size w0 w' ∧ Kept w w' (fun k_ => P0_ k_)) : ∀ (P0_ : Nat → Prop) (u9000_ : Value) (l0 : List (S55)) (a1 : Int) (a2 : Int) (a3 : Int) (r : List (S55)) (w0 w : World) (hB : Below w0.heap.size w0 w) (ho0 : Kd.R k55 55 w w0.heap.size P0_ u9000_ l0) (h : impl_Item_80.f (k + 1) l0 a1 a2 a3 = some r) (c5 : ¬ ((wrap64 (a2 - a1)) = 1)) (c32 : ¬ ((wrap64 (a3 - a2)) = 1)),
  Calls Try.prog 80 #[u9000_, .int .i64 a1, .int .i64 a2, .int .i64 a3, .func (.func 33) #[] #[]] w fun e w' => e = .returned (.tuple #[]) ∧ Kd.R k55 55 w' w0.heap.size (fun k_ => (P0_ k_ ∨ w.heap.size ≤ k_)) u9000_ r ∧ Below w0.heap.size w0 w' ∧ Kept w w' (fun k_ => P0_ k_) := by
 intro P0_ u9000_ l0 a1 a2 a3 r w0 w hB ho0 h c5 c32
 simp only [impl_Item_80.f] at h
 have hu55 := Try.underlying55
 have HO0 := Aside0.mk (show Kd.R k55 55 w w0.heap.size (fun k_ => (P0_ k_ ∨ w.heap.size ≤ k_)) u9000_ l0 from Kd.R_mono ho0 (fun k_ hk => (.inl hk)))
 have HK := Aside0.mk (Kept.refl w (fun k_ => P0_ k_))
 have HW0 := Aside0.mk hB.size
 have HB := Aside0.mk hB
 clear hB
 have H : (if (wrap64 (a2 - a1)) = 1 then (impl_Item_80.l0 k l0 a1 a2 a3) else (if (wrap64 (a3 - a2)) = 1 then (impl_Item_80.l2 k l0 a2 a1 a2) else (if a2 > (wrap64 ((IntKind.u64.wrap (wrap64 (a1 + a3))) / 2)) then (impl_Item_80.j4 k l0 a1 a2 a3 (wrap64 ((IntKind.u64.wrap (wrap64 (a1 + a3))) / 2)) (wrap64 ((wrap64 ((IntKind.u64.wrap (wrap64 (a1 + a3))) / 2)) + a2)) (wrap64 ((wrap64 ((wrap64 ((IntKind.u64.wrap (wrap64 (a1 + a3))) / 2)) + a2)) - a3)) (wrap64 ((IntKind.u64.wrap (wrap64 (a1 + a3))) / 2))) else (impl_Item_80.j4 k l0 a1 a2 a3 (wrap64 ((IntKind.u64.wrap (wrap64 (a1 + a3))) / 2)) (wrap64 ((wrap64 ((IntKind.u64.wrap (wrap64 (a1 + a3))) / 2)) + a2)) a1 a2)))) = some r := h
 clear h
 ·rw [if_neg c5] at H
  have c5b0 : ((wrap64 (a2 - a1)) == 1) = false := beq_eq_false_iff_ne.mpr c5
  have c5b1 : ((wrap64 (a2 - a1)) != 1) = true := bne_iff_ne.mpr c5
  ·rw [if_neg c32] at H
   have c32b0 : ((wrap64 (a3 - a2)) == 1) = false := beq_eq_false_iff_ne.mpr c32
   have c32b1 : ((wrap64 (a3 - a2)) != 1) = true := bne_iff_ne.mpr c32
   have HC59 := Aside0.mk H
   clear H
   go_enter Try.func80, Try.ntmps80
   go_upto_if 140 with (fail)
   go_cut [20, 21] (fun v20 v21 wc => ∃ (kq : Nat) (x20_58 : Int) (x21_58 : Int), v20 = .int .i64 x20_58 ∧ v21 = .int .i64 x21_58 ∧ Aside0 (impl_Item_80.j4 kq l0 a1 a2 a3 (wrap64 ((IntKind.u64.wrap (wrap64 (a1 + a3))) / 2)) (wrap64 ((wrap64 ((IntKind.u64.wrap (wrap64 (a1 + a3))) / 2)) + a2)) x20_58 x21_58 = some r) ∧ Aside0 (kq ≤ k) ∧ Aside0 (Kd.R k55 55 wc w0.heap.size (fun k_ => (P0_ k_ ∨ w.heap.size ≤ k_)) u9000_ l0) ∧ Aside0 (Kept w wc (fun k_ => P0_ k_)) ∧ Aside0 (Below w0.heap.size w0 wc))
   case first =>
    have H := HC59.out
    clear HC59
    by_cases c60 : a2 > (wrap64 ((IntKind.u64.wrap (wrap64 (a1 + a3))) / 2))
    ·rw [if_pos c60] at H
     have c60b0 : decide ((wrap64 ((IntKind.u64.wrap (wrap64 (a1 + a3))) / 2)) < a2) = true := decide_eq_true c60
     clear c60
     (first | rw [c60b0] | (simp only [i64_w, i32_w]; rw [c60b0]) | skip)
     have H' := Aside0.mk H
     clear H
     go_wp2
     go_meet
     case rel => exact ⟨_, (wrap64 ((wrap64 ((wrap64 ((IntKind.u64.wrap (wrap64 (a1 + a3))) / 2)) + a2)) - a3)), (wrap64 ((IntKind.u64.wrap (wrap64 (a1 + a3))) / 2)), (by first | rfl | (simp; done) | (simp [*]; done)), (by first | rfl | (simp; done) | (simp [*]; done)), H', ⟨by first | omega | exact Nat.le_refl _⟩, ⟨by (with_reducible repeat (first | apply Kd.R_alloc | apply Kd.R_drewN | apply Kd.R_drew)); exact HO0.out⟩, ⟨by repeat (first | (with_reducible first | exact HK.out | apply Kept.alloc | apply Kept.drewN | apply Kept.drew) | exact HK.out)⟩, ⟨by repeat (first | (with_reducible first | exact HB.out | apply below_alloc | apply pw_below_drewN | apply below_drew1) | exact HB.out)⟩⟩
    ·rw [if_neg c60] at H
     have c60b0 : decide ((wrap64 ((IntKind.u64.wrap (wrap64 (a1 + a3))) / 2)) < a2) = false := decide_eq_false c60
     clear c60
     (first | rw [c60b0] | (simp only [i64_w, i32_w]; rw [c60b0]) | skip)
     have H' := Aside0.mk H
     clear H
     go_wp2
     go_meet
     case rel => exact ⟨_, (a1), (a2), (by first | rfl | (simp; done) | (simp [*]; done)), (by first | rfl | (simp; done) | (simp [*]; done)), H', ⟨by first | omega | exact Nat.le_refl _⟩, ⟨by (with_reducible repeat (first | apply Kd.R_alloc | apply Kd.R_drewN | apply Kd.R_drew)); exact HO0.out⟩, ⟨by repeat (first | (with_reducible first | exact HK.out | apply Kept.alloc | apply Kept.drewN | apply Kept.drew) | exact HK.out)⟩, ⟨by repeat (first | (with_reducible first | exact HB.out | apply below_alloc | apply pw_below_drewN | apply below_drew1) | exact HB.out)⟩⟩
   case rest =>
    clear HC59
    try clear c1
    try clear c2
    try clear p2
    try clear q2
    try clear hx2
    try clear c3
    try clear c4
    try clear c5
    try clear c5b0
    try clear c5b1
    try clear p5
    try clear q5
    try clear hx5
    try clear hf5
    try clear c6
    try clear c6b0
    try clear p6
    try clear c8
    try clear c8b0
    try clear c9
    try clear c9b0
    try clear c10
    try clear c10b0
    try clear c11
    try clear c11b0
    try clear c13
    try clear c13b0
    try clear c20
    try clear c20b0
    try clear p21
    try clear q21
    try clear hx21
    try clear c22
    try clear c22b0
    try clear p22
    try clear q22
    try clear hx22
    try clear c23
    try clear c23b0
    try clear c24
    try clear c24b0
    try clear c25
    try clear c25b0
    try clear c26
    try clear p26
    try clear q26
    try clear hx26
    try clear hf26
    try clear c27
    try clear p27
    try clear q27
    try clear hx27
    try clear hf27
    try clear c30
    try clear c31
    try clear c32
    try clear c32b0
    try clear c32b1
    try clear c33
    try clear c33b0
    try clear c34
    try clear c34b0
    try clear c35
    try clear c35b0
    try clear c37
    try clear c37b0
    try clear c38
    try clear c38b0
    try clear c40
    try clear c40b0
    try clear c47
    try clear c47b0
    try clear c49
    try clear c49b0
    try clear c50
    try clear c50b0
    try clear c51
    try clear c51b0
    try clear c52
    try clear c52b0
    try clear c53
    try clear p53
    try clear q53
    try clear hx53
    try clear hf53
    try clear c54
    try clear p54
    try clear q54
    try clear hx54
    try clear hf54
    try clear c57
    try clear c58
    try clear c60
    try clear c60b0
    try clear hx210_0
    try clear hx210_1
    try clear hx210_2
    try clear hx210_3
    try clear hx210_4
    try clear hx211_0
    try clear hx211_1
    try clear hx211_2
    try clear hx211_3
    try clear hx211_4
    try clear hx213_0
    try clear hx213_1
    try clear hx213_2
    try clear hx213_3
    try clear hx213_4
    try clear hx214_0
    try clear hx214_1
    try clear hx214_2
    try clear hx214_3
    try clear hx214_4
    try clear hx217_0
    try clear hx217_1
    try clear hx217_2
    try clear hx217_3
    try clear hx217_4
    try clear hx218_0
    try clear hx218_1
    try clear hx218_2
    try clear hx218_3
    try clear hx218_4
    try clear hx220_0
    try clear hx220_1
    try clear hx220_2
    try clear hx220_3
    try clear hx220_4
    try clear hx221_0
    try clear hx221_1
    try clear hx221_2
    try clear hx221_3
    try clear hx221_4
    try clear hx26_0
    try clear hx26_1
    try clear hx26_2
    try clear hx26_3
    try clear hx26_4
    try clear hx27_0
    try clear hx27_1
    try clear hx27_2
    try clear hx27_3
    try clear hx27_4
    try clear hx53_0
    try clear hx53_1
    try clear hx53_2
    try clear hx53_3
    try clear hx53_4
    try clear hx54_0
    try clear hx54_1
    try clear hx54_2
    try clear hx54_3
    try clear hx54_4
    try clear p2
    try clear p21
    try clear p210
    try clear p211
    try clear p213
    try clear p214
    try clear p217
    try clear p218
    try clear p220
    try clear p221
    try clear p26
    try clear p27
    try clear p53
    try clear p54
    try clear p6
    try clear q2
    try clear q21
    try clear q210
    try clear q211
    try clear q213
    try clear q214
    try clear q217
    try clear q218
    try clear q220
    try clear q221
    try clear q26
    try clear q27
    try clear q53
    try clear q54
    obtain ⟨kq, x20_58, x21_58, rfl, rfl, HA, HJ58, HO_0, HK, HB⟩ := hcut
    cases kq with
    | zero => exact absurd HA.out (by simp [impl_Item_80.j4])
    | succ kj58 =>
     have H := HA.out
     clear HA
     simp only [impl_Item_80.j4] at H
     have H' := Aside0.mk H
     clear H
     go_wp2
     go_loopg [20, 21] kj58 (fun kq v20 v21 w' => ∃ (x20_2 : Int) (x21_2 : Int), v20 = .int .i64 x20_2 ∧ v21 = .int .i64 x21_2 ∧ Aside0 (impl_Item_80.l4 kq l0 a1 a2 a3 (wrap64 ((IntKind.u64.wrap (wrap64 (a1 + a3))) / 2)) (wrap64 ((wrap64 ((IntKind.u64.wrap (wrap64 (a1 + a3))) / 2)) + a2)) x20_2 x21_2 (wrap64 ((wrap64 ((wrap64 ((IntKind.u64.wrap (wrap64 (a1 + a3))) / 2)) + a2)) - 1)) = some r) ∧ Aside0 (kq ≤ kj58) ∧ Aside0 (Kd.R k55 55 w' w0.heap.size (fun k_ => (P0_ k_ ∨ w.heap.size ≤ k_)) u9000_ l0) ∧ Aside0 (Kept w w' (fun k_ => P0_ k_)) ∧ Aside0 (Below w0.heap.size w0 w'))
     case atStart => exact ⟨(x20_58), (x21_58), (by first | rfl | (simp; done) | (simp [*]; done)), (by first | rfl | (simp; done) | (simp [*]; done)), H', ⟨Nat.le_refl _⟩, ⟨by (with_reducible repeat (first | apply Kd.R_alloc | apply Kd.R_drewN | apply Kd.R_drew)); exact HO_0.out⟩, ⟨by repeat (first | (with_reducible first | exact HK.out | apply Kept.alloc | apply Kept.drewN | apply Kept.drew) | exact HK.out)⟩, ⟨by repeat (first | (with_reducible first | exact HB.out | apply below_alloc | apply pw_below_drewN | apply below_drew1) | exact HB.out)⟩⟩
     case round =>
      clear H'
      try clear c1
      try clear c2
      try clear p2
      try clear q2
      try clear hx2
      try clear c3
      try clear c4
      try clear c5
      try clear c5b0
      try clear c5b1
      try clear p5
      try clear q5
      try clear hx5
      try clear hf5
      try clear c6
      try clear c6b0
      try clear p6
      try clear c8
      try clear c8b0
      try clear c9
      try clear c9b0
      try clear c10
      try clear c10b0
      try clear c11
      try clear c11b0
      try clear c13
      try clear c13b0
      try clear c20
      try clear c20b0
      try clear p21
      try clear q21
      try clear hx21
      try clear c22
      try clear c22b0
      try clear p22
      try clear q22
      try clear hx22
      try clear c23
      try clear c23b0
      try clear c24
      try clear c24b0
      try clear c25
      try clear c25b0
      try clear c26
      try clear p26
      try clear q26
      try clear hx26
      try clear hf26
      try clear c27
      try clear p27
      try clear q27
      try clear hx27
      try clear hf27
      try clear c30
      try clear c31
      try clear c32
      try clear c32b0
      try clear c32b1
      try clear c33
      try clear c33b0
      try clear c34
      try clear c34b0
      try clear c35
      try clear c35b0
      try clear c37
      try clear c37b0
      try clear c38
      try clear c38b0
      try clear c40
      try clear c40b0
      try clear c47
      try clear c47b0
      try clear c49
      try clear c49b0
      try clear c50
      try clear c50b0
      try clear c51
      try clear c51b0
      try clear c52
      try clear c52b0
      try clear c53
      try clear p53
      try clear q53
      try clear hx53
      try clear hf53
      try clear c54
      try clear p54
      try clear q54
      try clear hx54
      try clear hf54
      try clear c57
      try clear c58
      try clear c60
      try clear c60b0
      try clear hx210_0
      try clear hx210_1
      try clear hx210_2
      try clear hx210_3
      try clear hx210_4
      try clear hx211_0
      try clear hx211_1
      try clear hx211_2
      try clear hx211_3
      try clear hx211_4
      try clear hx213_0
      try clear hx213_1
      try clear hx213_2
      try clear hx213_3
      try clear hx213_4
      try clear hx214_0
      try clear hx214_1
      try clear hx214_2
      try clear hx214_3
      try clear hx214_4
      try clear hx217_0
      try clear hx217_1
      try clear hx217_2
      try clear hx217_3
      try clear hx217_4
      try clear hx218_0
      try clear hx218_1
      try clear hx218_2
      try clear hx218_3
      try clear hx218_4
      try clear hx220_0
      try clear hx220_1
      try clear hx220_2
      try clear hx220_3
      try clear hx220_4
      try clear hx221_0
      try clear hx221_1
      try clear hx221_2
      try clear hx221_3
      try clear hx221_4
      try clear hx26_0
      try clear hx26_1
      try clear hx26_2
      try clear hx26_3
      try clear hx26_4
      try clear hx27_0
      try clear hx27_1
      try clear hx27_2
      try clear hx27_3
      try clear hx27_4
      try clear hx53_0
      try clear hx53_1
      try clear hx53_2
      try clear hx53_3
      try clear hx53_4
      try clear hx54_0
      try clear hx54_1
      try clear hx54_2
      try clear hx54_3
      try clear hx54_4
      try clear p2
      try clear p21
      try clear p210
      try clear p211
      try clear p213
      try clear p214
      try clear p217
      try clear p218
      try clear p22
      try clear p220
      try clear p221
      try clear p26
      try clear p27
      try clear p5
      try clear p53
      try clear p54
      try clear p6
      try clear q2
      try clear q21
      try clear q210
      try clear q211
      try clear q213
      try clear q214
      try clear q217
      try clear q218
      try clear q22
      try clear q220
      try clear q221
      try clear q26
      try clear q27
      try clear q5
      try clear q53
      try clear q54
      obtain ⟨x20_2, x21_2, rfl, rfl, HA, HK2, HO_0, HK, HB⟩ := hrel
      cases gk with
      | zero => exact absurd HA.out (by simp [impl_Item_80.l4])
      | succ k2 =>
       have H := HA.out
       clear HA
       simp only [impl_Item_80.l4] at H
       by_cases c61 : x20_2 < x21_2
       ·rw [if_pos c61] at H
        have c61b0 : decide (x20_2 < x21_2) = true := decide_eq_true c61
        clear c61
        obtain ⟨ji62, hji62⟩ : ∃ j_ : Int, (wrap64 ((wrap64 ((wrap64 ((wrap64 ((IntKind.u64.wrap (wrap64 (a1 + a3))) / 2)) + a2)) - 1)) - (wrap64 ((IntKind.u64.wrap (wrap64 (x20_2 + x21_2))) / 2)))) = j_ := ⟨_, rfl⟩
        replace H : (if 0 ≤ (ji62) then (if (ji62) < (l0.length : Int) then (if 0 ≤ (wrap64 ((IntKind.u64.wrap (wrap64 (x20_2 + x21_2))) / 2)) then (if (wrap64 ((IntKind.u64.wrap (wrap64 (x20_2 + x21_2))) / 2)) < (l0.length : Int) then ((impl_order.f k2 ((rd_T55 l0 (ji62)).f0) ((rd_T55 l0 (ji62)).f1.f0) ((rd_T55 l0 (ji62)).f1.f1) ((rd_T55 l0 (ji62)).f1.f2) ((rd_T55 l0 (ji62)).f1.f3) ((rd_T55 l0 (wrap64 ((IntKind.u64.wrap (wrap64 (x20_2 + x21_2))) / 2))).f0) ((rd_T55 l0 (wrap64 ((IntKind.u64.wrap (wrap64 (x20_2 + x21_2))) / 2))).f1.f0) ((rd_T55 l0 (wrap64 ((IntKind.u64.wrap (wrap64 (x20_2 + x21_2))) / 2))).f1.f1) ((rd_T55 l0 (wrap64 ((IntKind.u64.wrap (wrap64 (x20_2 + x21_2))) / 2))).f1.f2) ((rd_T55 l0 (wrap64 ((IntKind.u64.wrap (wrap64 (x20_2 + x21_2))) / 2))).f1.f3)).bind fun t226 => (if t226 < 0 then (impl_Item_80.l4 k2 l0 a1 a2 a3 (wrap64 ((IntKind.u64.wrap (wrap64 (a1 + a3))) / 2)) (wrap64 ((wrap64 ((IntKind.u64.wrap (wrap64 (a1 + a3))) / 2)) + a2)) x20_2 (wrap64 ((IntKind.u64.wrap (wrap64 (x20_2 + x21_2))) / 2)) (wrap64 ((wrap64 ((wrap64 ((IntKind.u64.wrap (wrap64 (a1 + a3))) / 2)) + a2)) - 1))) else (impl_Item_80.l4 k2 l0 a1 a2 a3 (wrap64 ((IntKind.u64.wrap (wrap64 (a1 + a3))) / 2)) (wrap64 ((wrap64 ((IntKind.u64.wrap (wrap64 (a1 + a3))) / 2)) + a2)) (wrap64 ((wrap64 ((IntKind.u64.wrap (wrap64 (x20_2 + x21_2))) / 2)) + 1)) x21_2 (wrap64 ((wrap64 ((wrap64 ((IntKind.u64.wrap (wrap64 (a1 + a3))) / 2)) + a2)) - 1))))) else (none)) else (none)) else (none)) else (none)) = some r := by first | (rw [hji62] at H; exact H) | (simp only [hji62] at H ⊢; exact H)
        have hji62w : (IntKind.i64.wrap ((wrap64 ((wrap64 ((wrap64 ((IntKind.u64.wrap (wrap64 (a1 + a3))) / 2)) + a2)) - 1)) - (wrap64 ((IntKind.u64.wrap (wrap64 (x20_2 + x21_2))) / 2)))) = ji62 := (i64_w _).trans hji62
        by_cases c63 : 0 ≤ (ji62)
        ·rw [if_pos c63] at H
         have c63b0 : decide (0 ≤ (ji62)) = true := decide_eq_true c63
         clear c63
         by_cases c64 : (ji62) < (l0.length : Int)
         ·rw [if_pos c64] at H
          have c64b0 : decide ((ji62) < (l0.length : Int)) = true := decide_eq_true c64
          clear c64
          obtain ⟨ji65, hji65⟩ : ∃ j_ : Int, (wrap64 ((IntKind.u64.wrap (wrap64 (x20_2 + x21_2))) / 2)) = j_ := ⟨_, rfl⟩
          replace H : (if 0 ≤ (ji65) then (if (ji65) < (l0.length : Int) then ((impl_order.f k2 ((rd_T55 l0 (ji62)).f0) ((rd_T55 l0 (ji62)).f1.f0) ((rd_T55 l0 (ji62)).f1.f1) ((rd_T55 l0 (ji62)).f1.f2) ((rd_T55 l0 (ji62)).f1.f3) ((rd_T55 l0 (ji65)).f0) ((rd_T55 l0 (ji65)).f1.f0) ((rd_T55 l0 (ji65)).f1.f1) ((rd_T55 l0 (ji65)).f1.f2) ((rd_T55 l0 (ji65)).f1.f3)).bind fun t226 => (if t226 < 0 then (impl_Item_80.l4 k2 l0 a1 a2 a3 (wrap64 ((IntKind.u64.wrap (wrap64 (a1 + a3))) / 2)) (wrap64 ((wrap64 ((IntKind.u64.wrap (wrap64 (a1 + a3))) / 2)) + a2)) x20_2 ji65 (wrap64 ((wrap64 ((wrap64 ((IntKind.u64.wrap (wrap64 (a1 + a3))) / 2)) + a2)) - 1))) else (impl_Item_80.l4 k2 l0 a1 a2 a3 (wrap64 ((IntKind.u64.wrap (wrap64 (a1 + a3))) / 2)) (wrap64 ((wrap64 ((IntKind.u64.wrap (wrap64 (a1 + a3))) / 2)) + a2)) (wrap64 ((ji65) + 1)) x21_2 (wrap64 ((wrap64 ((wrap64 ((IntKind.u64.wrap (wrap64 (a1 + a3))) / 2)) + a2)) - 1))))) else (none)) else (none)) = some r := by first | (rw [hji65] at H; exact H) | (simp only [hji65] at H ⊢; exact H)
          have hji65w : (IntKind.i64.wrap ((IntKind.u64.wrap (wrap64 (x20_2 + x21_2))) / 2)) = ji65 := (i64_w _).trans hji65
          (try (have hji62x_ := hji62; rw [hji65] at hji62x_; have hji62y_ := (i64_w _).trans hji62x_))
          by_cases c66 : 0 ≤ (ji65)
          ·rw [if_pos c66] at H
           have c66b0 : decide (0 ≤ (ji65)) = true := decide_eq_true c66
           clear c66
           by_cases c67 : (ji65) < (l0.length : Int)
           ·rw [if_pos c67] at H
            have c67b0 : decide ((ji65) < (l0.length : Int)) = true := decide_eq_true c67
            clear c67
            replace H := Option.bind_eq_some_iff.mp H
            obtain ⟨t226, A680, H⟩ := H
            replace H : (if t226 < 0 then (impl_Item_80.l4 k2 l0 a1 a2 a3 (wrap64 ((IntKind.u64.wrap (wrap64 (a1 + a3))) / 2)) (wrap64 ((wrap64 ((IntKind.u64.wrap (wrap64 (a1 + a3))) / 2)) + a2)) x20_2 ji65 (wrap64 ((wrap64 ((wrap64 ((IntKind.u64.wrap (wrap64 (a1 + a3))) / 2)) + a2)) - 1))) else (impl_Item_80.l4 k2 l0 a1 a2 a3 (wrap64 ((IntKind.u64.wrap (wrap64 (a1 + a3))) / 2)) (wrap64 ((wrap64 ((IntKind.u64.wrap (wrap64 (a1 + a3))) / 2)) + a2)) (wrap64 ((ji65) + 1)) x21_2 (wrap64 ((wrap64 ((wrap64 ((IntKind.u64.wrap (wrap64 (a1 + a3))) / 2)) + a2)) - 1)))) = some r := H
            have A68 := Aside0.mk A680
            clear A680
            by_cases c69 : t226 < 0
            ·rw [if_pos c69] at H
             have c69b0 : decide (t226 < 0) = true := decide_eq_true c69
             clear c69
             have H' := Aside0.mk H
             clear H
             try go_wp2
             have n0_ := Aside0.mk (Kd.R_drew HO_0.out)
             have n1_ := Aside0.mk (Kept.drew HK.out)
             have n2_ := Aside0.mk (below_drew1 HB.out)
             clear HO_0
             clear HK
             clear HB
             have HO_0 := n0_
             have HK := n1_
             have HB := n2_
             clear n0_ n1_ n2_
             obtain ⟨Ao71, co71, eo71⟩ := Kd.R_slice HO_0.out
             (first | subst eo71 | (injection eo71 with f1_ f2_ f3_; have f4_ := f1_.symm; have f5_ := f3_.symm; clear f1_ f2_ f3_; subst f4_; subst f5_))
             have p224 : 0 ≤ ((ji62) : Int) := of_decide_eq_true (by first | (with_reducible assumption) | assumption)
             have q224 : (ji62) < (l0.length : Int) := of_decide_eq_true (by first | (with_reducible assumption) | assumption)
             obtain ⟨ad224, e224, hx224_0, hx224_1, hx224_2, hx224_3, hx224_4⟩ := at_T55 (Kd.R_reads' HO_0.out).2.2 (ji62) p224 q224
             cases e224
             replace p224 := eq_true p224
             replace q224 := eq_true q224
             have p225 : 0 ≤ ((ji65) : Int) := of_decide_eq_true (by first | (with_reducible assumption) | assumption)
             have q225 : (ji65) < (l0.length : Int) := of_decide_eq_true (by first | (with_reducible assumption) | assumption)
             obtain ⟨ad225, e225, hx225_0, hx225_1, hx225_2, hx225_3, hx225_4⟩ := at_T55 (Kd.R_reads' HO_0.out).2.2 (ji65) p225 q225
             obtain rfl : ad224 = ad225 := (by injection e225)
             replace p225 := eq_true p225
             replace q225 := eq_true q225
             refine start_ (n := 14) (S := fun w' => w'.cell? (ad224.add (((ji62)).toNat * 5)) = some (.int .i64 ((rd_T55 l0 (ji62)).f0)) ∧ w'.cell? ⟨(ad224.add (((ji62)).toNat * 5)).block, (ad224.add (((ji62)).toNat * 5)).off + 1, none⟩ = some (.int .i64 ((rd_T55 l0 (ji62)).f1.f0)) ∧ w'.cell? ⟨(ad224.add (((ji62)).toNat * 5)).block, (ad224.add (((ji62)).toNat * 5)).off + 2, none⟩ = some (.int .i64 ((rd_T55 l0 (ji62)).f1.f1)) ∧ w'.cell? ⟨(ad224.add (((ji62)).toNat * 5)).block, (ad224.add (((ji62)).toNat * 5)).off + 3, none⟩ = some (.int .i64 ((rd_T55 l0 (ji62)).f1.f2)) ∧ w'.cell? ⟨(ad224.add (((ji62)).toNat * 5)).block, (ad224.add (((ji62)).toNat * 5)).off + 4, none⟩ = some (.int .i64 ((rd_T55 l0 (ji62)).f1.f3)) ∧ w'.cell? (ad224.add (((ji65)).toNat * 5)) = some (.int .i64 ((rd_T55 l0 (ji65)).f0)) ∧ w'.cell? ⟨(ad224.add (((ji65)).toNat * 5)).block, (ad224.add (((ji65)).toNat * 5)).off + 1, none⟩ = some (.int .i64 ((rd_T55 l0 (ji65)).f1.f0)) ∧ w'.cell? ⟨(ad224.add (((ji65)).toNat * 5)).block, (ad224.add (((ji65)).toNat * 5)).off + 2, none⟩ = some (.int .i64 ((rd_T55 l0 (ji65)).f1.f1)) ∧ w'.cell? ⟨(ad224.add (((ji65)).toNat * 5)).block, (ad224.add (((ji65)).toNat * 5)).off + 3, none⟩ = some (.int .i64 ((rd_T55 l0 (ji65)).f1.f2)) ∧ w'.cell? ⟨(ad224.add (((ji65)).toNat * 5)).block, (ad224.add (((ji65)).toNat * 5)).off + 4, none⟩ = some (.int .i64 ((rd_T55 l0 (ji65)).f1.f3))) (ds := []) #[false, false, false, false, false, false, false, false, false, false, false, false, false, false] (by kernel_rfl) rfl rfl ⟨hx224_0, hx224_1, hx224_2, hx224_3, hx224_4, hx225_0, hx225_1, hx225_2, hx225_3, hx225_4⟩ (fun hHeld => ?_); refine with_tabW impl_Item_80.tab35 impl_Item_80.bits35 (fun HT_ HW_ => ?_)
             generalize wr.drew = w70 at HO_0 HK HB hx224_0 hx224_1 hx224_2 hx224_3 hx224_4 hx225_0 hx225_1 hx225_2 hx225_3 hx225_4 hHeld ⊢
             refine pure_ (i := 0) (N := some 158) (v := ?_) (a' := ?_) #[true, false, false, false, false, false, false, false, false, false, false, false, false, false] rfl rfl (any_of HT_.out (by kernel_rfl)) (fun _ _ _ h => h) (Or.inl ⟨by rfl, ?_⟩) ?_ ?_
             rotate_left
             ·intro w'
              go_simp
              with_reducible rfl
             rotate_left
             ·simp only [Act.put, List.setIfInBounds_toArray, List.set_cons_zero, List.set_cons_succ, i64_w, i32_w]
              rfl
             refine pure_ (i := 1) (N := some 159) (v := ?_) (a' := ?_) #[true, true, false, false, false, false, false, false, false, false, false, false, false, false] rfl rfl (any_of HT_.out (by kernel_rfl)) (fun _ _ _ h => h) (Or.inl ⟨by rfl, ?_⟩) ?_ ?_
             rotate_left
             ·intro w'
              go_simp
              with_reducible rfl
             rotate_left
             ·simp only [Act.put, List.setIfInBounds_toArray, List.set_cons_zero, List.set_cons_succ, i64_w, i32_w]
              rfl
             refine pure_ (i := 2) (N := some 160) (v := ?_) (a' := ?_) #[true, true, true, false, false, false, false, false, false, false, false, false, false, false] rfl rfl (any_of HT_.out (by kernel_rfl)) (fun _ _ _ h => h) (Or.inl ⟨by rfl, ?_⟩) ?_ ?_
             rotate_left
             ·intro w'
              go_simp
              with_reducible rfl
             rotate_left
             ·simp only [Act.put, List.setIfInBounds_toArray, List.set_cons_zero, List.set_cons_succ, i64_w, i32_w]
              rfl
             refine pure_ (i := 3) (N := some 161) (v := ?_) (a' := ?_) #[true, true, true, true, false, false, false, false, false, false, false, false, false, false] rfl rfl (any_of HT_.out (by kernel_rfl)) (fun _ _ _ h => h) (Or.inl ⟨by rfl, ?_⟩) ?_ ?_
             rotate_left
             ·intro w'
              go_simp
              with_reducible rfl
             rotate_left
             ·simp only [Act.put, List.setIfInBounds_toArray, List.set_cons_zero, List.set_cons_succ, i64_w, i32_w]
              rfl
             refine pure_ (i := 4) (N := some 162) (v := ?_) (a' := ?_) #[true, true, true, true, true, false, false, false, false, false, false, false, false, false] rfl rfl (any_of HT_.out (by kernel_rfl)) (fun _ _ _ h => h) (Or.inl ⟨by rfl, ?_⟩) ?_ ?_
             rotate_left
             ·intro w'
              go_simp
              with_reducible rfl
             rotate_left
             ·simp only [Act.put, List.setIfInBounds_toArray, List.set_cons_zero, List.set_cons_succ, i64_w, i32_w]
              rfl
             refine pure_ (i := 5) (N := some 163) (v := ?_) (a' := ?_) #[true, true, true, true, true, true, false, false, false, false, false, false, false, false] rfl rfl (any_of HT_.out (by kernel_rfl)) (fun _ _ _ h => h) (Or.inl ⟨by rfl, ?_⟩) ?_ ?_
             rotate_left
             ·intro w'
              go_simp
              with_reducible rfl
             rotate_left
             ·simp only [Act.put, List.setIfInBounds_toArray, List.set_cons_zero, List.set_cons_succ, i64_w, i32_w]
              rfl
             refine pure_ (i := 7) (N := some 165) (v := ?_) (a' := ?_) #[true, true, true, true, true, true, false, true, false, false, false, false, false, false] rfl rfl (any_of HT_.out (by kernel_rfl)) (fun _ _ _ h => h) (Or.inl ⟨by rfl, ?_⟩) ?_ ?_
             rotate_left
             ·intro w'
              go_simp
              with_reducible rfl
             rotate_left
             ·simp only [Act.put, List.setIfInBounds_toArray, List.set_cons_zero, List.set_cons_succ, i64_w, i32_w]
              rfl
             refine pure_ (i := 8) (N := some 166) (v := ?_) (a' := ?_) #[true, true, true, true, true, true, false, true, true, false, false, false, false, false] rfl rfl (any_of HT_.out (by kernel_rfl)) (fun _ _ _ h => h) (Or.inl ⟨by rfl, ?_⟩) ?_ ?_
             rotate_left
             ·intro w'
              go_simp
              with_reducible rfl
             rotate_left
             ·simp only [Act.put, List.setIfInBounds_toArray, List.set_cons_zero, List.set_cons_succ, i64_w, i32_w]
              rfl
             refine pure_ (i := 9) (N := some 167) (v := ?_) (a' := ?_) #[true, true, true, true, true, true, false, true, true, true, false, false, false, false] rfl rfl (any_of HT_.out (by kernel_rfl)) (fun _ _ _ h => h) (Or.inl ⟨by rfl, ?_⟩) ?_ ?_
             rotate_left
             ·intro w'
              go_simp
              with_reducible rfl
             rotate_left
             ·simp only [Act.put, List.setIfInBounds_toArray, List.set_cons_zero, List.set_cons_succ, i64_w, i32_w]
              rfl
             refine take_ (i := 6) (N := some 164) (v := ?_) (a' := ?_) #[true, true, true, true, true, true, true, true, true, true, false, false, false, false] rfl rfl (take_ofW HT_.out HW_.out (by kernel_rfl)) (fun _ _ _ h => h) (Or.inl ⟨by rfl, ?_⟩) hHeld ?_ ?_
             rotate_left
             ·rintro w' ⟨s0, s1, s2, s3, s4, s5, s6, s7, s8, s9⟩
              go_simp
              with_reducible rfl
             rotate_left
             ·simp only [Act.put, List.setIfInBounds_toArray, List.set_cons_zero, List.set_cons_succ, i64_w, i32_w]
              rfl
             refine take_ (i := 10) (N := some 168) (v := ?_) (a' := ?_) #[true, true, true, true, true, true, true, true, true, true, true, false, false, false] rfl rfl (take_ofW HT_.out HW_.out (by kernel_rfl)) (fun _ _ _ h => h) (Or.inl ⟨by rfl, ?_⟩) hHeld ?_ ?_
             rotate_left
             ·rintro w' ⟨s0, s1, s2, s3, s4, s5, s6, s7, s8, s9⟩
              go_simp
              with_reducible rfl
             rotate_left
             ·simp only [Act.put, List.setIfInBounds_toArray, List.set_cons_zero, List.set_cons_succ, i64_w, i32_w]
              rfl
             refine one_ (i := 11) (N := some 169) #[true, true, true, true, true, true, true, true, true, true, true, true, false, false] rfl rfl (one_of HT_.out (by kernel_rfl)) (by decide) (fun K hK => ?_)
             refine goesV_ Try.func33 (by kernel_rfl) rfl #[.agg #[.int .i64 ((rd_T55 l0 (ji62)).f0), .int .i64 ((rd_T55 l0 (ji62)).f1.f0), .int .i64 ((rd_T55 l0 (ji62)).f1.f1), .int .i64 ((rd_T55 l0 (ji62)).f1.f2), .int .i64 ((rd_T55 l0 (ji62)).f1.f3)], .agg #[.int .i64 ((rd_T55 l0 (ji65)).f0), .int .i64 ((rd_T55 l0 (ji65)).f1.f0), .int .i64 ((rd_T55 l0 (ji65)).f1.f1), .int .i64 ((rd_T55 l0 (ji65)).f1.f2), .int .i64 ((rd_T55 l0 (ji65)).f1.f3)]] (by rfl) rfl rfl (by (try simp only [List.map_toArray, List.map_cons, List.map_nil]); first | done | (simp only [hji62, hji65]; rfl) | rfl | (simp only [List.length_drop, List.length_take]; rfl)) ?_
             with_reducible refine (impl_order.calls k2 ((rd_T55 l0 (ji62)).f0) ((rd_T55 l0 (ji62)).f1.f0) ((rd_T55 l0 (ji62)).f1.f1) ((rd_T55 l0 (ji62)).f1.f2) ((rd_T55 l0 (ji62)).f1.f3) ((rd_T55 l0 (ji65)).f0) ((rd_T55 l0 (ji65)).f1.f0) ((rd_T55 l0 (ji65)).f1.f1) ((rd_T55 l0 (ji65)).f1.f2) ((rd_T55 l0 (ji65)).f1.f3) t226 _ A68.out).mono ?_
             rintro e w72 ⟨rfl, hb⟩
             have HS0_ := (hb.cell (World.block_lt_of_cell? _ _ (hHeld.1))).trans (hHeld.1)
             have HS1_ := (hb.cell (World.block_lt_of_cell? _ _ (hHeld.2.1))).trans (hHeld.2.1)
             have HS2_ := (hb.cell (World.block_lt_of_cell? _ _ (hHeld.2.2.1))).trans (hHeld.2.2.1)
             have HS3_ := (hb.cell (World.block_lt_of_cell? _ _ (hHeld.2.2.2.1))).trans (hHeld.2.2.2.1)
             have HS4_ := (hb.cell (World.block_lt_of_cell? _ _ (hHeld.2.2.2.2.1))).trans (hHeld.2.2.2.2.1)
             have HS5_ := (hb.cell (World.block_lt_of_cell? _ _ (hHeld.2.2.2.2.2.1))).trans (hHeld.2.2.2.2.2.1)
             have HS6_ := (hb.cell (World.block_lt_of_cell? _ _ (hHeld.2.2.2.2.2.2.1))).trans (hHeld.2.2.2.2.2.2.1)
             have HS7_ := (hb.cell (World.block_lt_of_cell? _ _ (hHeld.2.2.2.2.2.2.2.1))).trans (hHeld.2.2.2.2.2.2.2.1)
             have HS8_ := (hb.cell (World.block_lt_of_cell? _ _ (hHeld.2.2.2.2.2.2.2.2.1))).trans (hHeld.2.2.2.2.2.2.2.2.1)
             have HS9_ := (hb.cell (World.block_lt_of_cell? _ _ (hHeld.2.2.2.2.2.2.2.2.2))).trans (hHeld.2.2.2.2.2.2.2.2.2)
             refine ⟨_, rfl, ?_⟩
             have n0_ := Aside0.mk (Kd.R_below (by (with_reducible repeat (first | apply Kd.R_alloc | apply Kd.R_drewN | apply Kd.R_drew)); exact HO_0.out) hb)
             have n1_ := Aside0.mk (Kept.below (S := (fun k_ => P0_ k_)) (by repeat (first | (with_reducible first | exact HK.out | apply Kept.alloc | apply Kept.drewN | apply Kept.drew) | exact HK.out)) hb)
             have n2_ := Aside0.mk (below_step (by repeat (first | (with_reducible first | exact HB.out | apply below_alloc | apply pw_below_drewN | apply below_drew1) | exact HB.out)) hb)
             clear HO_0
             clear HK
             clear HB
             have HO_0 := n0_
             have HK := n1_
             have HB := n2_
             clear n0_ n1_ n2_
             (try clear hb)
             (try clear hb2)
             (try clear hk)
             (try clear hi)
             refine hK.out _ _ ⟨HS0_, HS1_, HS2_, HS3_, HS4_, HS5_, HS6_, HS7_, HS8_, HS9_⟩ (fun hHeld => ?_)
             clear hK K
             refine norm_ (a' := ?_) ?_ ?_
             rotate_left
             ·show Act.put _ (some 169) _ = _
              simp only [Act.put, List.setIfInBounds_toArray, List.set_cons_zero, List.set_cons_succ, i64_w, i32_w]
              rfl
             refine pure_ (i := 12) (N := some 170) (v := ?_) (a' := ?_) #[true, true, true, true, true, true, true, true, true, true, true, true, true, false] rfl rfl (any_of HT_.out (by kernel_rfl)) (fun _ _ _ h => h) (Or.inl ⟨by rfl, ?_⟩) ?_ ?_
             rotate_left
             ·intro w'
              go_simp
              with_reducible rfl
             rotate_left
             ·simp only [Act.put, List.setIfInBounds_toArray, List.set_cons_zero, List.set_cons_succ, i64_w, i32_w]
              rfl
             refine pure_ (i := 13) (N := some 171) (v := ?_) (a' := ?_) #[true, true, true, true, true, true, true, true, true, true, true, true, true, true] rfl rfl (any_of HT_.out (by kernel_rfl)) (fun _ _ _ h => h) (Or.inl ⟨by rfl, ?_⟩) ?_ ?_
             rotate_left
             ·intro w'
              go_simp
              with_reducible rfl
             rotate_left
             ·simp only [Act.put, List.setIfInBounds_toArray, List.set_cons_zero, List.set_cons_succ, i64_w, i32_w]
              rfl
             refine done_ (done_of HT_.out (by kernel_rfl)) ?_
             try go_wp2
             go_roundg k2
             case measure => have := HJ58.out; have := HK2.out; omega
             case rel => exact ⟨(x20_2), (ji65), (by first | rfl | (simp; done) | (simp [*]; done)), (by first | rfl | (simp; done) | (simp only [← hji65] <;> (first | rfl | simp)) | (simp [*]; done)), H', ⟨by have := HJ58.out; have := HK2.out; omega⟩, ⟨by (with_reducible repeat (first | apply Kd.R_alloc | apply Kd.R_drewN | apply Kd.R_drew)); exact HO_0.out⟩, ⟨by repeat (first | (with_reducible first | exact HK.out | apply Kept.alloc | apply Kept.drewN | apply Kept.drew) | exact HK.out)⟩, ⟨by repeat (first | (with_reducible first | exact HB.out | apply below_alloc | apply pw_below_drewN | apply below_drew1) | exact HB.out)⟩⟩
            ·rw [if_neg c69] at H
             have c69b0 : decide (t226 < 0) = false := decide_eq_false c69
             clear c69
             have H' := Aside0.mk H
             clear H
             try go_wp2
             have n0_ := Aside0.mk (Kd.R_drew HO_0.out)
             have n1_ := Aside0.mk (Kept.drew HK.out)
             have n2_ := Aside0.mk (below_drew1 HB.out)
             clear HO_0
             clear HK
             clear HB
             have HO_0 := n0_
             have HK := n1_
             have HB := n2_
             clear n0_ n1_ n2_
             obtain ⟨Ao74, co74, eo74⟩ := Kd.R_slice HO_0.out
             (first | subst eo74 | (injection eo74 with f1_ f2_ f3_; have f4_ := f1_.symm; have f5_ := f3_.symm; clear f1_ f2_ f3_; subst f4_; subst f5_))
             have p224 : 0 ≤ ((ji62) : Int) := of_decide_eq_true (by first | (with_reducible assumption) | assumption)
             have q224 : (ji62) < (l0.length : Int) := of_decide_eq_true (by first | (with_reducible assumption) | assumption)
             obtain ⟨ad224, e224, hx224_0, hx224_1, hx224_2, hx224_3, hx224_4⟩ := at_T55 (Kd.R_reads' HO_0.out).2.2 (ji62) p224 q224
             cases e224
             replace p224 := eq_true p224
             replace q224 := eq_true q224
             have p225 : 0 ≤ ((ji65) : Int) := of_decide_eq_true (by first | (with_reducible assumption) | assumption)
             have q225 : (ji65) < (l0.length : Int) := of_decide_eq_true (by first | (with_reducible assumption) | assumption)
             obtain ⟨ad225, e225, hx225_0, hx225_1, hx225_2, hx225_3, hx225_4⟩ := at_T55 (Kd.R_reads' HO_0.out).2.2 (ji65) p225 q225
             obtain rfl : ad224 = ad225 := (by injection e225)
             replace p225 := eq_true p225
             replace q225 := eq_true q225
             refine start_ (n := 14) (S := fun w' => w'.cell? (ad224.add (((ji62)).toNat * 5)) = some (.int .i64 ((rd_T55 l0 (ji62)).f0)) ∧ w'.cell? ⟨(ad224.add (((ji62)).toNat * 5)).block, (ad224.add (((ji62)).toNat * 5)).off + 1, none⟩ = some (.int .i64 ((rd_T55 l0 (ji62)).f1.f0)) ∧ w'.cell? ⟨(ad224.add (((ji62)).toNat * 5)).block, (ad224.add (((ji62)).toNat * 5)).off + 2, none⟩ = some (.int .i64 ((rd_T55 l0 (ji62)).f1.f1)) ∧ w'.cell? ⟨(ad224.add (((ji62)).toNat * 5)).block, (ad224.add (((ji62)).toNat * 5)).off + 3, none⟩ = some (.int .i64 ((rd_T55 l0 (ji62)).f1.f2)) ∧ w'.cell? ⟨(ad224.add (((ji62)).toNat * 5)).block, (ad224.add (((ji62)).toNat * 5)).off + 4, none⟩ = some (.int .i64 ((rd_T55 l0 (ji62)).f1.f3)) ∧ w'.cell? (ad224.add (((ji65)).toNat * 5)) = some (.int .i64 ((rd_T55 l0 (ji65)).f0)) ∧ w'.cell? ⟨(ad224.add (((ji65)).toNat * 5)).block, (ad224.add (((ji65)).toNat * 5)).off + 1, none⟩ = some (.int .i64 ((rd_T55 l0 (ji65)).f1.f0)) ∧ w'.cell? ⟨(ad224.add (((ji65)).toNat * 5)).block, (ad224.add (((ji65)).toNat * 5)).off + 2, none⟩ = some (.int .i64 ((rd_T55 l0 (ji65)).f1.f1)) ∧ w'.cell? ⟨(ad224.add (((ji65)).toNat * 5)).block, (ad224.add (((ji65)).toNat * 5)).off + 3, none⟩ = some (.int .i64 ((rd_T55 l0 (ji65)).f1.f2)) ∧ w'.cell? ⟨(ad224.add (((ji65)).toNat * 5)).block, (ad224.add (((ji65)).toNat * 5)).off + 4, none⟩ = some (.int .i64 ((rd_T55 l0 (ji65)).f1.f3))) (ds := []) #[false, false, false, false, false, false, false, false, false, false, false, false, false, false] (by kernel_rfl) rfl rfl ⟨hx224_0, hx224_1, hx224_2, hx224_3, hx224_4, hx225_0, hx225_1, hx225_2, hx225_3, hx225_4⟩ (fun hHeld => ?_); refine with_tabW impl_Item_80.tab35 impl_Item_80.bits35 (fun HT_ HW_ => ?_)
             generalize wr.drew = w73 at HO_0 HK HB hx224_0 hx224_1 hx224_2 hx224_3 hx224_4 hx225_0 hx225_1 hx225_2 hx225_3 hx225_4 hHeld ⊢
             refine pure_ (i := 0) (N := some 158) (v := ?_) (a' := ?_) #[true, false, false, false, false, false, false, false, false, false, false, false, false, false] rfl rfl (any_of HT_.out (by kernel_rfl)) (fun _ _ _ h => h) (Or.inl ⟨by rfl, ?_⟩) ?_ ?_
             rotate_left
             ·intro w'
              go_simp
              with_reducible rfl
             rotate_left
             ·simp only [Act.put, List.setIfInBounds_toArray, List.set_cons_zero, List.set_cons_succ, i64_w, i32_w]
              rfl
             refine pure_ (i := 1) (N := some 159) (v := ?_) (a' := ?_) #[true, true, false, false, false, false, false, false, false, false, false, false, false, false] rfl rfl (any_of HT_.out (by kernel_rfl)) (fun _ _ _ h => h) (Or.inl ⟨by rfl, ?_⟩) ?_ ?_
             rotate_left
             ·intro w'
              go_simp
              with_reducible rfl
             rotate_left
             ·simp only [Act.put, List.setIfInBounds_toArray, List.set_cons_zero, List.set_cons_succ, i64_w, i32_w]
              rfl
             refine pure_ (i := 2) (N := some 160) (v := ?_) (a' := ?_) #[true, true, true, false, false, false, false, false, false, false, false, false, false, false] rfl rfl (any_of HT_.out (by kernel_rfl)) (fun _ _ _ h => h) (Or.inl ⟨by rfl, ?_⟩) ?_ ?_
             rotate_left
             ·intro w'
              go_simp
              with_reducible rfl
             rotate_left
             ·simp only [Act.put, List.setIfInBounds_toArray, List.set_cons_zero, List.set_cons_succ, i64_w, i32_w]
              rfl
             refine pure_ (i := 3) (N := some 161) (v := ?_) (a' := ?_) #[true, true, true, true, false, false, false, false, false, false, false, false, false, false] rfl rfl (any_of HT_.out (by kernel_rfl)) (fun _ _ _ h => h) (Or.inl ⟨by rfl, ?_⟩) ?_ ?_
             rotate_left
             ·intro w'
              go_simp
              with_reducible rfl
             rotate_left
             ·simp only [Act.put, List.setIfInBounds_toArray, List.set_cons_zero, List.set_cons_succ, i64_w, i32_w]
              rfl
             refine pure_ (i := 4) (N := some 162) (v := ?_) (a' := ?_) #[true, true, true, true, true, false, false, false, false, false, false, false, false, false] rfl rfl (any_of HT_.out (by kernel_rfl)) (fun _ _ _ h => h) (Or.inl ⟨by rfl, ?_⟩) ?_ ?_
             rotate_left
             ·intro w'
              go_simp
              with_reducible rfl
             rotate_left
             ·simp only [Act.put, List.setIfInBounds_toArray, List.set_cons_zero, List.set_cons_succ, i64_w, i32_w]
              rfl
             refine pure_ (i := 5) (N := some 163) (v := ?_) (a' := ?_) #[true, true, true, true, true, true, false, false, false, false, false, false, false, false] rfl rfl (any_of HT_.out (by kernel_rfl)) (fun _ _ _ h => h) (Or.inl ⟨by rfl, ?_⟩) ?_ ?_
             rotate_left
             ·intro w'
              go_simp
              with_reducible rfl
             rotate_left
             ·simp only [Act.put, List.setIfInBounds_toArray, List.set_cons_zero, List.set_cons_succ, i64_w, i32_w]
              rfl
             refine pure_ (i := 7) (N := some 165) (v := ?_) (a' := ?_) #[true, true, true, true, true, true, false, true, false, false, false, false, false, false] rfl rfl (any_of HT_.out (by kernel_rfl)) (fun _ _ _ h => h) (Or.inl ⟨by rfl, ?_⟩) ?_ ?_
             rotate_left
             ·intro w'
              go_simp
              with_reducible rfl
             rotate_left
             ·simp only [Act.put, List.setIfInBounds_toArray, List.set_cons_zero, List.set_cons_succ, i64_w, i32_w]
              rfl
             refine pure_ (i := 8) (N := some 166) (v := ?_) (a' := ?_) #[true, true, true, true, true, true, false, true, true, false, false, false, false, false] rfl rfl (any_of HT_.out (by kernel_rfl)) (fun _ _ _ h => h) (Or.inl ⟨by rfl, ?_⟩) ?_ ?_
             rotate_left
             ·intro w'
              go_simp
              with_reducible rfl
             rotate_left
             ·simp only [Act.put, List.setIfInBounds_toArray, List.set_cons_zero, List.set_cons_succ, i64_w, i32_w]
              rfl
             refine pure_ (i := 9) (N := some 167) (v := ?_) (a' := ?_) #[true, true, true, true, true, true, false, true, true, true, false, false, false, false] rfl rfl (any_of HT_.out (by kernel_rfl)) (fun _ _ _ h => h) (Or.inl ⟨by rfl, ?_⟩) ?_ ?_
             rotate_left
             ·intro w'
              go_simp
              with_reducible rfl
             rotate_left
             ·simp only [Act.put, List.setIfInBounds_toArray, List.set_cons_zero, List.set_cons_succ, i64_w, i32_w]
              rfl
             refine take_ (i := 6) (N := some 164) (v := ?_) (a' := ?_) #[true, true, true, true, true, true, true, true, true, true, false, false, false, false] rfl rfl (take_ofW HT_.out HW_.out (by kernel_rfl)) (fun _ _ _ h => h) (Or.inl ⟨by rfl, ?_⟩) hHeld ?_ ?_
             rotate_left
             ·rintro w' ⟨s0, s1, s2, s3, s4, s5, s6, s7, s8, s9⟩
              go_simp
              with_reducible rfl
             rotate_left
             ·simp only [Act.put, List.setIfInBounds_toArray, List.set_cons_zero, List.set_cons_succ, i64_w, i32_w]
              rfl
             refine take_ (i := 10) (N := some 168) (v := ?_) (a' := ?_) #[true, true, true, true, true, true, true, true, true, true, true, false, false, false] rfl rfl (take_ofW HT_.out HW_.out (by kernel_rfl)) (fun _ _ _ h => h) (Or.inl ⟨by rfl, ?_⟩) hHeld ?_ ?_
             rotate_left
             ·rintro w' ⟨s0, s1, s2, s3, s4, s5, s6, s7, s8, s9⟩
              go_simp
              with_reducible rfl
             rotate_left
             ·simp only [Act.put, List.setIfInBounds_toArray, List.set_cons_zero, List.set_cons_succ, i64_w, i32_w]
              rfl
             refine one_ (i := 11) (N := some 169) #[true, true, true, true, true, true, true, true, true, true, true, true, false, false] rfl rfl (one_of HT_.out (by kernel_rfl)) (by decide) (fun K hK => ?_)
             refine goesV_ Try.func33 (by kernel_rfl) rfl #[.agg #[.int .i64 ((rd_T55 l0 (ji62)).f0), .int .i64 ((rd_T55 l0 (ji62)).f1.f0), .int .i64 ((rd_T55 l0 (ji62)).f1.f1), .int .i64 ((rd_T55 l0 (ji62)).f1.f2), .int .i64 ((rd_T55 l0 (ji62)).f1.f3)], .agg #[.int .i64 ((rd_T55 l0 (ji65)).f0), .int .i64 ((rd_T55 l0 (ji65)).f1.f0), .int .i64 ((rd_T55 l0 (ji65)).f1.f1), .int .i64 ((rd_T55 l0 (ji65)).f1.f2), .int .i64 ((rd_T55 l0 (ji65)).f1.f3)]] (by rfl) rfl rfl (by (try simp only [List.map_toArray, List.map_cons, List.map_nil]); first | done | (simp only [hji62, hji65]; rfl) | rfl | (simp only [List.length_drop, List.length_take]; rfl)) ?_
             with_reducible refine (impl_order.calls k2 ((rd_T55 l0 (ji62)).f0) ((rd_T55 l0 (ji62)).f1.f0) ((rd_T55 l0 (ji62)).f1.f1) ((rd_T55 l0 (ji62)).f1.f2) ((rd_T55 l0 (ji62)).f1.f3) ((rd_T55 l0 (ji65)).f0) ((rd_T55 l0 (ji65)).f1.f0) ((rd_T55 l0 (ji65)).f1.f1) ((rd_T55 l0 (ji65)).f1.f2) ((rd_T55 l0 (ji65)).f1.f3) t226 _ A68.out).mono ?_
             rintro e w75 ⟨rfl, hb⟩
             have HS0_ := (hb.cell (World.block_lt_of_cell? _ _ (hHeld.1))).trans (hHeld.1)
             have HS1_ := (hb.cell (World.block_lt_of_cell? _ _ (hHeld.2.1))).trans (hHeld.2.1)
             have HS2_ := (hb.cell (World.block_lt_of_cell? _ _ (hHeld.2.2.1))).trans (hHeld.2.2.1)
             have HS3_ := (hb.cell (World.block_lt_of_cell? _ _ (hHeld.2.2.2.1))).trans (hHeld.2.2.2.1)
             have HS4_ := (hb.cell (World.block_lt_of_cell? _ _ (hHeld.2.2.2.2.1))).trans (hHeld.2.2.2.2.1)
             have HS5_ := (hb.cell (World.block_lt_of_cell? _ _ (hHeld.2.2.2.2.2.1))).trans (hHeld.2.2.2.2.2.1)
             have HS6_ := (hb.cell (World.block_lt_of_cell? _ _ (hHeld.2.2.2.2.2.2.1))).trans (hHeld.2.2.2.2.2.2.1)
             have HS7_ := (hb.cell (World.block_lt_of_cell? _ _ (hHeld.2.2.2.2.2.2.2.1))).trans (hHeld.2.2.2.2.2.2.2.1)
             have HS8_ := (hb.cell (World.block_lt_of_cell? _ _ (hHeld.2.2.2.2.2.2.2.2.1))).trans (hHeld.2.2.2.2.2.2.2.2.1)
             have HS9_ := (hb.cell (World.block_lt_of_cell? _ _ (hHeld.2.2.2.2.2.2.2.2.2))).trans (hHeld.2.2.2.2.2.2.2.2.2)
             refine ⟨_, rfl, ?_⟩
             have n0_ := Aside0.mk (Kd.R_below (by (with_reducible repeat (first | apply Kd.R_alloc | apply Kd.R_drewN | apply Kd.R_drew)); exact HO_0.out) hb)
             have n1_ := Aside0.mk (Kept.below (S := (fun k_ => P0_ k_)) (by repeat (first | (with_reducible first | exact HK.out | apply Kept.alloc | apply Kept.drewN | apply Kept.drew) | exact HK.out)) hb)
             have n2_ := Aside0.mk (below_step (by repeat (first | (with_reducible first | exact HB.out | apply below_alloc | apply pw_below_drewN | apply below_drew1) | exact HB.out)) hb)
             clear HO_0
             clear HK
             clear HB
             have HO_0 := n0_
             have HK := n1_
             have HB := n2_
             clear n0_ n1_ n2_
             (try clear hb)
             (try clear hb2)
             (try clear hk)
             (try clear hi)
             refine hK.out _ _ ⟨HS0_, HS1_, HS2_, HS3_, HS4_, HS5_, HS6_, HS7_, HS8_, HS9_⟩ (fun hHeld => ?_)
             clear hK K
             refine norm_ (a' := ?_) ?_ ?_
             rotate_left
             ·show Act.put _ (some 169) _ = _
              simp only [Act.put, List.setIfInBounds_toArray, List.set_cons_zero, List.set_cons_succ, i64_w, i32_w]
              rfl
             refine pure_ (i := 12) (N := some 170) (v := ?_) (a' := ?_) #[true, true, true, true, true, true, true, true, true, true, true, true, true, false] rfl rfl (any_of HT_.out (by kernel_rfl)) (fun _ _ _ h => h) (Or.inl ⟨by rfl, ?_⟩) ?_ ?_
             rotate_left
             ·intro w'
              go_simp
              with_reducible rfl
             rotate_left
             ·simp only [Act.put, List.setIfInBounds_toArray, List.set_cons_zero, List.set_cons_succ, i64_w, i32_w]
              rfl
             refine pure_ (i := 13) (N := some 171) (v := ?_) (a' := ?_) #[true, true, true, true, true, true, true, true, true, true, true, true, true, true] rfl rfl (any_of HT_.out (by kernel_rfl)) (fun _ _ _ h => h) (Or.inl ⟨by rfl, ?_⟩) ?_ ?_
             rotate_left
             ·intro w'
              go_simp
              with_reducible rfl
             rotate_left
             ·simp only [Act.put, List.setIfInBounds_toArray, List.set_cons_zero, List.set_cons_succ, i64_w, i32_w]
              rfl
             refine done_ (done_of HT_.out (by kernel_rfl)) ?_
             try go_wp2
             go_roundg k2
             case measure => have := HJ58.out; have := HK2.out; omega
             case rel => exact ⟨(wrap64 ((ji65) + 1)), (x21_2), (by first | rfl | (simp; done) | (simp only [← hji65] <;> (first | rfl | simp)) | (simp [*]; done)), (by first | rfl | (simp; done) | (simp [*]; done)), H', ⟨by have := HJ58.out; have := HK2.out; omega⟩, ⟨by (with_reducible repeat (first | apply Kd.R_alloc | apply Kd.R_drewN | apply Kd.R_drew)); exact HO_0.out⟩, ⟨by repeat (first | (with_reducible first | exact HK.out | apply Kept.alloc | apply Kept.drewN | apply Kept.drew) | exact HK.out)⟩, ⟨by repeat (first | (with_reducible first | exact HB.out | apply below_alloc | apply pw_below_drewN | apply below_drew1) | exact HB.out)⟩⟩
           ·rw [if_neg c67] at H
            exact absurd H (by simp)
          ·rw [if_neg c66] at H
           exact absurd H (by simp)
         ·rw [if_neg c64] at H
          exact absurd H (by simp)
        ·rw [if_neg c63] at H
         exact absurd H (by simp)
       ·rw [if_neg c61] at H
        have c61b0 : decide (x20_2 < x21_2) = false := decide_eq_false c61
        clear c61
        have HC76 := Aside0.mk H
        clear H
        go_upto_region 39 with (fail)
        go_cut [185] (fun v185 wc => ∃ (kq : Nat) (x185_75 : Bool), v185 = .bool x185_75 ∧ Aside0 (impl_Item_80.j6 kq l0 a1 a2 a3 (wrap64 ((IntKind.u64.wrap (wrap64 (a1 + a3))) / 2)) x20_2 (wrap64 ((wrap64 ((wrap64 ((IntKind.u64.wrap (wrap64 (a1 + a3))) / 2)) + a2)) - x20_2)) x185_75 = some r) ∧ Aside0 (kq ≤ k2) ∧ Aside0 (Kd.R k55 55 wc w0.heap.size (fun k_ => (P0_ k_ ∨ w.heap.size ≤ k_)) u9000_ l0) ∧ Aside0 (Kept w wc (fun k_ => P0_ k_)) ∧ Aside0 (Below w0.heap.size w0 wc))
        case first =>
         have H := HC76.out
         clear HC76
         by_cases c77 : x20_2 < a2
         ·rw [if_pos c77] at H
          have c77b0 : decide (x20_2 < a2) = true := decide_eq_true c77
          clear c77
          (first | rw [c77b0] | (simp only [i64_w, i32_w]; rw [c77b0]) | skip)
          have H' := Aside0.mk H
          clear H
          go_wp2
          go_meet
          case rel => exact ⟨_, (decide (a2 < (wrap64 ((wrap64 ((wrap64 ((IntKind.u64.wrap (wrap64 (a1 + a3))) / 2)) + a2)) - x20_2)))), (by first | rfl | (simp; done) | (simp [*]; done)), H', ⟨by have := HJ58.out; have := HK2.out; first | omega | exact Nat.le_refl _⟩, ⟨by (with_reducible repeat (first | apply Kd.R_alloc | apply Kd.R_drewN | apply Kd.R_drew)); exact HO_0.out⟩, ⟨by repeat (first | (with_reducible first | exact HK.out | apply Kept.alloc | apply Kept.drewN | apply Kept.drew) | exact HK.out)⟩, ⟨by repeat (first | (with_reducible first | exact HB.out | apply below_alloc | apply pw_below_drewN | apply below_drew1) | exact HB.out)⟩⟩
         ·rw [if_neg c77] at H
          have c77b0 : decide (x20_2 < a2) = false := decide_eq_false c77
          clear c77
          (first | rw [c77b0] | (simp only [i64_w, i32_w]; rw [c77b0]) | skip)
          have H' := Aside0.mk H
          clear H
          go_wp2
          go_meet
          case rel => exact ⟨_, (false), (by first | rfl | (simp; done) | (simp [*]; done)), H', ⟨by have := HJ58.out; have := HK2.out; first | omega | exact Nat.le_refl _⟩, ⟨by (with_reducible repeat (first | apply Kd.R_alloc | apply Kd.R_drewN | apply Kd.R_drew)); exact HO_0.out⟩, ⟨by repeat (first | (with_reducible first | exact HK.out | apply Kept.alloc | apply Kept.drewN | apply Kept.drew) | exact HK.out)⟩, ⟨by repeat (first | (with_reducible first | exact HB.out | apply below_alloc | apply pw_below_drewN | apply below_drew1) | exact HB.out)⟩⟩
        case rest =>
         clear HC76
         try clear c1
         try clear c2
         try clear p2
         try clear q2
         try clear hx2
         try clear c3
         try clear c4
         try clear c5
         try clear p5
         try clear q5
         try clear hx5
         try clear hf5
         try clear c6
         try clear p6
         try clear c7
         try clear c9
         try clear c9b0
         try clear c10
         try clear c10b0
         try clear c11
         try clear c11b0
         try clear c13
         try clear c13b0
         try clear c20
         try clear c20b0
         try clear p21
         try clear q21
         try clear hx21
         try clear c22
         try clear c22b0
         try clear p22
         try clear q22
         try clear hx22
         try clear c23
         try clear c23b0
         try clear c24
         try clear c24b0
         try clear c25
         try clear c25b0
         try clear c26
         try clear p26
         try clear q26
         try clear hx26
         try clear hf26
         try clear c27
         try clear p27
         try clear q27
         try clear hx27
         try clear hf27
         try clear c30
         try clear c31
         try clear c32
         try clear c32b0
         try clear c32b1
         try clear c33
         try clear c33b0
         try clear c34
         try clear c34b0
         try clear c35
         try clear c35b0
         try clear c37
         try clear c37b0
         try clear c38
         try clear c38b0
         try clear c40
         try clear c40b0
         try clear c47
         try clear c47b0
         try clear c49
         try clear c49b0
         try clear c50
         try clear c50b0
         try clear c51
         try clear c51b0
         try clear c52
         try clear c52b0
         try clear c53
         try clear p53
         try clear q53
         try clear hx53
         try clear hf53
         try clear c54
         try clear p54
         try clear q54
         try clear hx54
         try clear hf54
         try clear c57
         try clear c58
         try clear c60
         try clear c60b0
         try clear c61
         try clear c61b0
         try clear c63
         try clear c63b0
         try clear c64
         try clear c64b0
         try clear p64
         try clear c66
         try clear c66b0
         try clear c67
         try clear c67b0
         try clear c69
         try clear c69b0
         try clear c77
         try clear c77b0
         try clear hx210_0
         try clear hx210_1
         try clear hx210_2
         try clear hx210_3
         try clear hx210_4
         try clear hx211_0
         try clear hx211_1
         try clear hx211_2
         try clear hx211_3
         try clear hx211_4
         try clear hx213_0
         try clear hx213_1
         try clear hx213_2
         try clear hx213_3
         try clear hx213_4
         try clear hx214_0
         try clear hx214_1
         try clear hx214_2
         try clear hx214_3
         try clear hx214_4
         try clear hx217_0
         try clear hx217_1
         try clear hx217_2
         try clear hx217_3
         try clear hx217_4
         try clear hx218_0
         try clear hx218_1
         try clear hx218_2
         try clear hx218_3
         try clear hx218_4
         try clear hx220_0
         try clear hx220_1
         try clear hx220_2
         try clear hx220_3
         try clear hx220_4
         try clear hx221_0
         try clear hx221_1
         try clear hx221_2
         try clear hx221_3
         try clear hx221_4
         try clear hx224_0
         try clear hx224_1
         try clear hx224_2
         try clear hx224_3
         try clear hx224_4
         try clear hx225_0
         try clear hx225_1
         try clear hx225_2
         try clear hx225_3
         try clear hx225_4
         try clear hx26_0
         try clear hx26_1
         try clear hx26_2
         try clear hx26_3
         try clear hx26_4
         try clear hx27_0
         try clear hx27_1
         try clear hx27_2
         try clear hx27_3
         try clear hx27_4
         try clear hx53_0
         try clear hx53_1
         try clear hx53_2
         try clear hx53_3
         try clear hx53_4
         try clear hx54_0
         try clear hx54_1
         try clear hx54_2
         try clear hx54_3
         try clear hx54_4
         try clear p2
         try clear p21
         try clear p210
         try clear p211
         try clear p213
         try clear p214
         try clear p217
         try clear p218
         try clear p22
         try clear p220
         try clear p221
         try clear p224
         try clear p225
         try clear p26
         try clear p27
         try clear p5
         try clear p53
         try clear p54
         try clear p6
         try clear q2
         try clear q21
         try clear q210
         try clear q211
         try clear q213
         try clear q214
         try clear q217
         try clear q218
         try clear q22
         try clear q220
         try clear q221
         try clear q224
         try clear q225
         try clear q26
         try clear q27
         try clear q5
         try clear q53
         try clear q54
         obtain ⟨kq, x185_75, rfl, HA, HJ75, HO_0, HK, HB⟩ := hcut
         cases kq with
         | zero => exact absurd HA.out (by simp [impl_Item_80.j6])
         | succ kj75 =>
          have H := HA.out
          clear HA
          simp only [impl_Item_80.j6] at H
          have HC78 := Aside0.mk H
          clear H
          go_upto_if 185 with (fail)
          go_cut [] (fun wc => ∃ (kq : Nat) (x0_77 : List (S55)), Aside0 (impl_Item_80.j7 kq x0_77 a1 a3 (wrap64 ((IntKind.u64.wrap (wrap64 (a1 + a3))) / 2)) x20_2 (wrap64 ((wrap64 ((wrap64 ((IntKind.u64.wrap (wrap64 (a1 + a3))) / 2)) + a2)) - x20_2)) = some r) ∧ Aside0 (kq ≤ kj75) ∧ Aside0 (Kd.R k55 55 wc w0.heap.size (fun k_ => (P0_ k_ ∨ w.heap.size ≤ k_)) u9000_ x0_77) ∧ Aside0 (Kept w wc (fun k_ => P0_ k_)) ∧ Aside0 (Below w0.heap.size w0 wc))
          case first =>
           have H := HC78.out
           clear HC78
           by_cases c79 : x185_75 = true
           ·subst c79
            have H1 : ((impl_Item_86.f kj75 l0 x20_2 a2 (wrap64 ((wrap64 ((wrap64 ((IntKind.u64.wrap (wrap64 (a1 + a3))) / 2)) + a2)) - x20_2))).bind fun t227 => (impl_Item_80.j7 kj75 t227 a1 a3 (wrap64 ((IntKind.u64.wrap (wrap64 (a1 + a3))) / 2)) x20_2 (wrap64 ((wrap64 ((wrap64 ((IntKind.u64.wrap (wrap64 (a1 + a3))) / 2)) + a2)) - x20_2)))) = some r := by rw [if_pos rfl] at H; exact H
            clear H
            have H := H1
            clear H1
            replace H := Option.bind_eq_some_iff.mp H
            obtain ⟨t227, A800, H⟩ := H
            replace H : (impl_Item_80.j7 kj75 t227 a1 a3 (wrap64 ((IntKind.u64.wrap (wrap64 (a1 + a3))) / 2)) x20_2 (wrap64 ((wrap64 ((wrap64 ((IntKind.u64.wrap (wrap64 (a1 + a3))) / 2)) + a2)) - x20_2))) = some r := H
            have A80 := Aside0.mk A800
            clear A800
            have H' := Aside0.mk H
            clear H
            obtain ⟨Ao81, co81, eo81⟩ := Kd.R_slice HO_0.out
            subst eo81
            go_wp2_with (first | ((with_reducible refine gate_callee (f := 86) rfl ?_); refine goesL_ (some 191) rfl rfl Try.func86 (by kernel_rfl) rfl #[.slice Ao81 l0.length co81, .int .i64 x20_2, .int .i64 a2, .int .i64 (wrap64 ((wrap64 ((wrap64 ((IntKind.u64.wrap (wrap64 (a1 + a3))) / 2)) + a2)) - x20_2)), .func (.func 33) #[] #[]] rfl (by (try simp only [List.map_toArray, List.map_cons, List.map_nil]); first | done | rfl | (simp only [List.length_drop, List.length_take]; rfl)) ?_; (with_reducible refine (impl_Item_86.calls kj75 (fun k_ => some k_ = (.slice Ao81 l0.length co81 : Value).ownBlock) (.slice Ao81 l0.length co81) l0 x20_2 a2 (wrap64 ((wrap64 ((wrap64 ((IntKind.u64.wrap (wrap64 (a1 + a3))) / 2)) + a2)) - x20_2)) t227 w0 _ ?side1 ?side2 A80.out).mono ?_); (case side1 => repeat (first | (with_reducible first | exact HB.out | apply below_alloc | apply pw_below_drewN | apply below_drew1) | exact HB.out)); (case side2 => exact Kd.R_tight rfl HO_0.out); rintro e w82 ⟨rfl, hy0, hb, hkp⟩; refine ⟨_, rfl, ?_⟩; have n0_ := Aside0.mk (Kd.R_reok rfl hy0 (fun k_ e_ => HO_0.out.1 k_ e_)); have n1_ := Aside0.mk (Kept.then_ (S := (fun k_ => P0_ k_)) (by repeat (first | (with_reducible first | exact HK.out | apply Kept.alloc | apply Kept.drewN | apply Kept.drew) | exact HK.out)) hkp (fun k_ hs_ => (fun e_ => (HO_0.out.1 k_ e_.symm)) hs_)); have n2_ := Aside0.mk (hb); clear HO_0; clear HK; clear HB; have HO_0 := n0_; have HK := n1_; have HB := n2_; clear n0_ n1_ n2_; (try clear hb); (try clear hkp); (try clear hy0)))
            go_meet
            case rel => exact ⟨_, (t227), H', ⟨by have := HJ58.out; have := HK2.out; have := HJ75.out; first | omega | exact Nat.le_refl _⟩, ⟨by (with_reducible repeat (first | apply Kd.R_alloc | apply Kd.R_drewN | apply Kd.R_drew)); exact HO_0.out⟩, ⟨by repeat (first | (with_reducible first | exact HK.out | apply Kept.alloc | apply Kept.drewN | apply Kept.drew) | exact HK.out)⟩, ⟨by repeat (first | (with_reducible first | exact HB.out | apply below_alloc | apply pw_below_drewN | apply below_drew1) | exact HB.out)⟩⟩
           ·replace c79 := Bool.eq_false_iff.mpr c79
            subst c79
            have H1 : (impl_Item_80.j7 kj75 l0 a1 a3 (wrap64 ((IntKind.u64.wrap (wrap64 (a1 + a3))) / 2)) x20_2 (wrap64 ((wrap64 ((wrap64 ((IntKind.u64.wrap (wrap64 (a1 + a3))) / 2)) + a2)) - x20_2))) = some r := by rw [if_neg (show ¬ (false = true) by decide)] at H; exact H
            clear H
            have H := H1
            clear H1
            have H' := Aside0.mk H
            clear H
            go_wp2
            go_meet
            case rel => exact ⟨_, (l0), H', ⟨by have := HJ58.out; have := HK2.out; have := HJ75.out; first | omega | exact Nat.le_refl _⟩, ⟨by (with_reducible repeat (first | apply Kd.R_alloc | apply Kd.R_drewN | apply Kd.R_drew)); exact HO_0.out⟩, ⟨by repeat (first | (with_reducible first | exact HK.out | apply Kept.alloc | apply Kept.drewN | apply Kept.drew) | exact HK.out)⟩, ⟨by repeat (first | (with_reducible first | exact HB.out | apply below_alloc | apply pw_below_drewN | apply below_drew1) | exact HB.out)⟩⟩
          case rest =>
           clear HC78
           try clear c1
           try clear c2
           try clear p2
           try clear q2
           try clear hx2
           try clear c3
           try clear c4
           try clear c5
           try clear p5
           try clear q5
           try clear hx5
           try clear hf5
           try clear c6
           try clear p6
           try clear c7
           try clear c8
           try clear c9
           try clear c9b0
           try clear c10
           try clear c10b0
           try clear c11
           try clear c11b0
           try clear c13
           try clear c13b0
           try clear c20
           try clear c20b0
           try clear p21
           try clear q21
           try clear hx21
           try clear c22
           try clear c22b0
           try clear p22
           try clear q22
           try clear hx22
           try clear c23
           try clear c23b0
           try clear c24
           try clear c24b0
           try clear c25
           try clear c25b0
           try clear c26
           try clear p26
           try clear q26
           try clear hx26
           try clear hf26
           try clear c27
           try clear p27
           try clear q27
           try clear hx27
           try clear hf27
           try clear c30
           try clear c31
           try clear c32
           try clear c32b0
           try clear c32b1
           try clear c33
           try clear c33b0
           try clear c34
           try clear c34b0
           try clear c35
           try clear c35b0
           try clear c37
           try clear c37b0
           try clear c38
           try clear c38b0
           try clear c40
           try clear c40b0
           try clear c47
           try clear c47b0
           try clear c49
           try clear c49b0
           try clear c50
           try clear c50b0
           try clear c51
           try clear c51b0
           try clear c52
           try clear c52b0
           try clear c53
           try clear p53
           try clear q53
           try clear hx53
           try clear hf53
           try clear c54
           try clear p54
           try clear q54
           try clear hx54
           try clear hf54
           try clear c57
           try clear c58
           try clear c60
           try clear c60b0
           try clear c61
           try clear c61b0
           try clear c63
           try clear c63b0
           try clear c64
           try clear c64b0
           try clear p64
           try clear c66
           try clear c66b0
           try clear c67
           try clear c67b0
           try clear c69
           try clear c69b0
           try clear c77
           try clear c77b0
           try clear c79
           try clear hx210_0
           try clear hx210_1
           try clear hx210_2
           try clear hx210_3
           try clear hx210_4
           try clear hx211_0
           try clear hx211_1
           try clear hx211_2
           try clear hx211_3
           try clear hx211_4
           try clear hx213_0
           try clear hx213_1
           try clear hx213_2
           try clear hx213_3
           try clear hx213_4
           try clear hx214_0
           try clear hx214_1
           try clear hx214_2
           try clear hx214_3
           try clear hx214_4
           try clear hx217_0
           try clear hx217_1
           try clear hx217_2
           try clear hx217_3
           try clear hx217_4
           try clear hx218_0
           try clear hx218_1
           try clear hx218_2
           try clear hx218_3
           try clear hx218_4
           try clear hx220_0
           try clear hx220_1
           try clear hx220_2
           try clear hx220_3
           try clear hx220_4
           try clear hx221_0
           try clear hx221_1
           try clear hx221_2
           try clear hx221_3
           try clear hx221_4
           try clear hx224_0
           try clear hx224_1
           try clear hx224_2
           try clear hx224_3
           try clear hx224_4
           try clear hx225_0
           try clear hx225_1
           try clear hx225_2
           try clear hx225_3
           try clear hx225_4
           try clear hx26_0
           try clear hx26_1
           try clear hx26_2
           try clear hx26_3
           try clear hx26_4
           try clear hx27_0
           try clear hx27_1
           try clear hx27_2
           try clear hx27_3
           try clear hx27_4
           try clear hx53_0
           try clear hx53_1
           try clear hx53_2
           try clear hx53_3
           try clear hx53_4
           try clear hx54_0
           try clear hx54_1
           try clear hx54_2
           try clear hx54_3
           try clear hx54_4
           try clear p2
           try clear p21
           try clear p210
           try clear p211
           try clear p213
           try clear p214
           try clear p217
           try clear p218
           try clear p22
           try clear p220
           try clear p221
           try clear p224
           try clear p225
           try clear p26
           try clear p27
           try clear p5
           try clear p53
           try clear p54
           try clear p6
           try clear p64
           try clear q2
           try clear q21
           try clear q210
           try clear q211
           try clear q213
           try clear q214
           try clear q217
           try clear q218
           try clear q22
           try clear q220
           try clear q221
           try clear q224
           try clear q225
           try clear q26
           try clear q27
           try clear q5
           try clear q53
           try clear q54
           obtain ⟨kq, x0_77, HA, HJ77, HO_0, HK, HB⟩ := hcut
           cases kq with
           | zero => exact absurd HA.out (by simp [impl_Item_80.j7])
           | succ kj77 =>
            have H := HA.out
            clear HA
            simp only [impl_Item_80.j7] at H
            have HC83 := Aside0.mk H
            clear H
            go_upto_region 41 with (fail)
            go_cut [199] (fun v199 wc => ∃ (kq : Nat) (x199_82 : Bool), v199 = .bool x199_82 ∧ Aside0 (impl_Item_80.j8 kq x0_77 a1 a3 (wrap64 ((IntKind.u64.wrap (wrap64 (a1 + a3))) / 2)) x20_2 (wrap64 ((wrap64 ((wrap64 ((IntKind.u64.wrap (wrap64 (a1 + a3))) / 2)) + a2)) - x20_2)) x199_82 = some r) ∧ Aside0 (kq ≤ kj77) ∧ Aside0 (Kd.R k55 55 wc w0.heap.size (fun k_ => (P0_ k_ ∨ w.heap.size ≤ k_)) u9000_ x0_77) ∧ Aside0 (Kept w wc (fun k_ => P0_ k_)) ∧ Aside0 (Below w0.heap.size w0 wc))
            case first =>
             have H := HC83.out
             clear HC83
             by_cases c84 : a1 < x20_2
             ·rw [if_pos c84] at H
              have c84b0 : decide (a1 < x20_2) = true := decide_eq_true c84
              clear c84
              (first | rw [c84b0] | (simp only [i64_w, i32_w]; rw [c84b0]) | skip)
              have H' := Aside0.mk H
              clear H
              go_wp2
              go_meet
              case rel => exact ⟨_, (decide (x20_2 < (wrap64 ((IntKind.u64.wrap (wrap64 (a1 + a3))) / 2)))), (by first | rfl | (simp; done) | (simp [*]; done)), H', ⟨by have := HJ58.out; have := HK2.out; have := HJ75.out; have := HJ77.out; first | omega | exact Nat.le_refl _⟩, ⟨by (with_reducible repeat (first | apply Kd.R_alloc | apply Kd.R_drewN | apply Kd.R_drew)); exact HO_0.out⟩, ⟨by repeat (first | (with_reducible first | exact HK.out | apply Kept.alloc | apply Kept.drewN | apply Kept.drew) | exact HK.out)⟩, ⟨by repeat (first | (with_reducible first | exact HB.out | apply below_alloc | apply pw_below_drewN | apply below_drew1) | exact HB.out)⟩⟩
             ·rw [if_neg c84] at H
              have c84b0 : decide (a1 < x20_2) = false := decide_eq_false c84
              clear c84
              (first | rw [c84b0] | (simp only [i64_w, i32_w]; rw [c84b0]) | skip)
              have H' := Aside0.mk H
              clear H
              go_wp2
              go_meet
              case rel => exact ⟨_, (false), (by first | rfl | (simp; done) | (simp [*]; done)), H', ⟨by have := HJ58.out; have := HK2.out; have := HJ75.out; have := HJ77.out; first | omega | exact Nat.le_refl _⟩, ⟨by (with_reducible repeat (first | apply Kd.R_alloc | apply Kd.R_drewN | apply Kd.R_drew)); exact HO_0.out⟩, ⟨by repeat (first | (with_reducible first | exact HK.out | apply Kept.alloc | apply Kept.drewN | apply Kept.drew) | exact HK.out)⟩, ⟨by repeat (first | (with_reducible first | exact HB.out | apply below_alloc | apply pw_below_drewN | apply below_drew1) | exact HB.out)⟩⟩
            case rest =>
             clear HC83
             try clear c1
             try clear c2
             try clear p2
             try clear q2
             try clear hx2
             try clear c3
             try clear c4
             try clear c5
             try clear p5
             try clear q5
             try clear hx5
             try clear hf5
             try clear c6
             try clear p6
             try clear c7
             try clear c8
             try clear c9
             try clear c9b0
             try clear c10
             try clear c10b0
             try clear c11
             try clear c11b0
             try clear c13
             try clear c13b0
             try clear c20
             try clear c20b0
             try clear p21
             try clear q21
             try clear hx21
             try clear c22
             try clear c22b0
             try clear p22
             try clear q22
             try clear hx22
             try clear c23
             try clear c23b0
             try clear c24
             try clear c24b0
             try clear c25
             try clear c25b0
             try clear c26
             try clear p26
             try clear q26
             try clear hx26
             try clear hf26
             try clear c27
             try clear p27
             try clear q27
             try clear hx27
             try clear hf27
             try clear c30
             try clear c31
             try clear c32
             try clear c32b0
             try clear c32b1
             try clear c33
             try clear c33b0
             try clear c34
             try clear c34b0
             try clear c35
             try clear c35b0
             try clear c37
             try clear c37b0
             try clear c38
             try clear c38b0
             try clear c40
             try clear c40b0
             try clear c47
             try clear c47b0
             try clear c49
             try clear c49b0
             try clear c50
             try clear c50b0
             try clear c51
             try clear c51b0
             try clear c52
             try clear c52b0
             try clear c53
             try clear p53
             try clear q53
             try clear hx53
             try clear hf53
             try clear c54
             try clear p54
             try clear q54
             try clear hx54
             try clear hf54
             try clear c57
             try clear c58
             try clear c60
             try clear c60b0
             try clear c61
             try clear c61b0
             try clear c63
             try clear c63b0
             try clear c64
             try clear c64b0
             try clear p64
             try clear c66
             try clear c66b0
             try clear c67
             try clear c67b0
             try clear c69
             try clear c69b0
             try clear c77
             try clear c77b0
             try clear c79
             try clear c84
             try clear c84b0
             try clear hx210_0
             try clear hx210_1
             try clear hx210_2
             try clear hx210_3
             try clear hx210_4
             try clear hx211_0
             try clear hx211_1
             try clear hx211_2
             try clear hx211_3
             try clear hx211_4
             try clear hx213_0
             try clear hx213_1
             try clear hx213_2
             try clear hx213_3
             try clear hx213_4
             try clear hx214_0
             try clear hx214_1
             try clear hx214_2
             try clear hx214_3
             try clear hx214_4
             try clear hx217_0
             try clear hx217_1
             try clear hx217_2
             try clear hx217_3
             try clear hx217_4
             try clear hx218_0
             try clear hx218_1
             try clear hx218_2
             try clear hx218_3
             try clear hx218_4
             try clear hx220_0
             try clear hx220_1
             try clear hx220_2
             try clear hx220_3
             try clear hx220_4
             try clear hx221_0
             try clear hx221_1
             try clear hx221_2
             try clear hx221_3
             try clear hx221_4
             try clear hx224_0
             try clear hx224_1
             try clear hx224_2
             try clear hx224_3
             try clear hx224_4
             try clear hx225_0
             try clear hx225_1
             try clear hx225_2
             try clear hx225_3
             try clear hx225_4
             try clear hx26_0
             try clear hx26_1
             try clear hx26_2
             try clear hx26_3
             try clear hx26_4
             try clear hx27_0
             try clear hx27_1
             try clear hx27_2
             try clear hx27_3
             try clear hx27_4
             try clear hx53_0
             try clear hx53_1
             try clear hx53_2
             try clear hx53_3
             try clear hx53_4
             try clear hx54_0
             try clear hx54_1
             try clear hx54_2
             try clear hx54_3
             try clear hx54_4
             try clear p2
             try clear p21
             try clear p210
             try clear p211
             try clear p213
             try clear p214
             try clear p217
             try clear p218
             try clear p22
             try clear p220
             try clear p221
             try clear p224
             try clear p225
             try clear p26
             try clear p27
             try clear p5
             try clear p53
             try clear p54
             try clear p6
             try clear p64
             try clear q2
             try clear q21
             try clear q210
             try clear q211
             try clear q213
             try clear q214
             try clear q217
             try clear q218
             try clear q22
             try clear q220
             try clear q221
             try clear q224
             try clear q225
             try clear q26
             try clear q27
             try clear q5
             try clear q53
             try clear q54
             obtain ⟨kq, x199_82, rfl, HA, HJ82, HO_0, HK, HB⟩ := hcut
             cases kq with
             | zero => exact absurd HA.out (by simp [impl_Item_80.j8])
             | succ kj82 =>
              have H := HA.out
              clear HA
              simp only [impl_Item_80.j8] at H
              by_cases c85 : x199_82 = true
              ·subst c85
               have H1 : ((impl_Item_80.f kj82 x0_77 a1 x20_2 (wrap64 ((IntKind.u64.wrap (wrap64 (a1 + a3))) / 2))).bind fun t228 => (if (wrap64 ((IntKind.u64.wrap (wrap64 (a1 + a3))) / 2)) < (wrap64 ((wrap64 ((wrap64 ((IntKind.u64.wrap (wrap64 (a1 + a3))) / 2)) + a2)) - x20_2)) then (if (wrap64 ((wrap64 ((wrap64 ((IntKind.u64.wrap (wrap64 (a1 + a3))) / 2)) + a2)) - x20_2)) < a3 then ((impl_Item_80.f kj82 t228 (wrap64 ((IntKind.u64.wrap (wrap64 (a1 + a3))) / 2)) (wrap64 ((wrap64 ((wrap64 ((IntKind.u64.wrap (wrap64 (a1 + a3))) / 2)) + a2)) - x20_2)) a3).bind fun t229 => (some t229)) else (some t228)) else (some t228))) = some r := by rw [if_pos rfl] at H; exact H
               clear H
               have H := H1
               clear H1
               replace H := Option.bind_eq_some_iff.mp H
               obtain ⟨t228, A860, H⟩ := H
               replace H : (if (wrap64 ((IntKind.u64.wrap (wrap64 (a1 + a3))) / 2)) < (wrap64 ((wrap64 ((wrap64 ((IntKind.u64.wrap (wrap64 (a1 + a3))) / 2)) + a2)) - x20_2)) then (if (wrap64 ((wrap64 ((wrap64 ((IntKind.u64.wrap (wrap64 (a1 + a3))) / 2)) + a2)) - x20_2)) < a3 then ((impl_Item_80.f kj82 t228 (wrap64 ((IntKind.u64.wrap (wrap64 (a1 + a3))) / 2)) (wrap64 ((wrap64 ((wrap64 ((IntKind.u64.wrap (wrap64 (a1 + a3))) / 2)) + a2)) - x20_2)) a3).bind fun t229 => (some t229)) else (some t228)) else (some t228)) = some r := H
               have A86 := Aside0.mk A860
               clear A860
               by_cases c87 : (wrap64 ((IntKind.u64.wrap (wrap64 (a1 + a3))) / 2)) < (wrap64 ((wrap64 ((wrap64 ((IntKind.u64.wrap (wrap64 (a1 + a3))) / 2)) + a2)) - x20_2))
               ·rw [if_pos c87] at H
                have c87b0 : decide ((wrap64 ((IntKind.u64.wrap (wrap64 (a1 + a3))) / 2)) < (wrap64 ((wrap64 ((wrap64 ((IntKind.u64.wrap (wrap64 (a1 + a3))) / 2)) + a2)) - x20_2))) = true := decide_eq_true c87
                clear c87
                by_cases c88 : (wrap64 ((wrap64 ((wrap64 ((IntKind.u64.wrap (wrap64 (a1 + a3))) / 2)) + a2)) - x20_2)) < a3
                ·rw [if_pos c88] at H
                 have c88b0 : decide ((wrap64 ((wrap64 ((wrap64 ((IntKind.u64.wrap (wrap64 (a1 + a3))) / 2)) + a2)) - x20_2)) < a3) = true := decide_eq_true c88
                 clear c88
                 replace H := Option.bind_eq_some_iff.mp H
                 obtain ⟨t229, A890, H⟩ := H
                 replace H : (some t229) = some r := H
                 have A89 := Aside0.mk A890
                 clear A890
                 obtain rfl := Option.some.inj H
                 obtain ⟨Ao90, co90, eo90⟩ := Kd.R_slice HO_0.out
                 subst eo90
                 go_wp2_with (first | ((with_reducible refine gate_callee (f := 80) rfl ?_); refine goesL_ (some 205) rfl rfl Try.func80 (by kernel_rfl) rfl #[.slice Ao90 x0_77.length co90, .int .i64 a1, .int .i64 x20_2, .int .i64 (wrap64 ((IntKind.u64.wrap (wrap64 (a1 + a3))) / 2)), .func (.func 33) #[] #[]] rfl (by (try simp only [List.map_toArray, List.map_cons, List.map_nil]); first | done | rfl | (simp only [List.length_drop, List.length_take]; rfl)) ?_; (with_reducible refine (ih kj82 (by have := HJ58.out; have := HK2.out; have := HJ75.out; have := HJ77.out; have := HJ82.out; omega) (fun k_ => some k_ = (.slice Ao90 x0_77.length co90 : Value).ownBlock) (.slice Ao90 x0_77.length co90) x0_77 a1 x20_2 (wrap64 ((IntKind.u64.wrap (wrap64 (a1 + a3))) / 2)) t228 w0 _ ?side1 ?side2 A86.out).mono ?_); (case side1 => repeat (first | (with_reducible first | exact HB.out | apply below_alloc | apply pw_below_drewN | apply below_drew1) | exact HB.out)); (case side2 => exact Kd.R_tight rfl HO_0.out); rintro e w91 ⟨rfl, hy0, hb, hkp⟩; refine ⟨_, rfl, ?_⟩; have n0_ := Aside0.mk (Kd.R_reok rfl hy0 (fun k_ e_ => HO_0.out.1 k_ e_)); have n1_ := Aside0.mk (Kept.then_ (S := (fun k_ => P0_ k_)) (by repeat (first | (with_reducible first | exact HK.out | apply Kept.alloc | apply Kept.drewN | apply Kept.drew) | exact HK.out)) hkp (fun k_ hs_ => (fun e_ => (HO_0.out.1 k_ e_.symm)) hs_)); have n2_ := Aside0.mk (hb); clear HO_0; clear HK; clear HB; have HO_0 := n0_; have HK := n1_; have HB := n2_; clear n0_ n1_ n2_; (try clear hb); (try clear hkp); (try clear hy0)) | ((with_reducible refine gate_callee (f := 80) rfl ?_); refine goesL_ (some 219) rfl rfl Try.func80 (by kernel_rfl) rfl #[.slice Ao90 x0_77.length co90, .int .i64 (wrap64 ((IntKind.u64.wrap (wrap64 (a1 + a3))) / 2)), .int .i64 (wrap64 ((wrap64 ((wrap64 ((IntKind.u64.wrap (wrap64 (a1 + a3))) / 2)) + a2)) - x20_2)), .int .i64 a3, .func (.func 33) #[] #[]] rfl (by (try simp only [List.map_toArray, List.map_cons, List.map_nil]); first | done | rfl | (simp only [List.length_drop, List.length_take]; rfl)) ?_; (with_reducible refine (ih kj82 (by have := HJ58.out; have := HK2.out; have := HJ75.out; have := HJ77.out; have := HJ82.out; omega) (fun k_ => some k_ = (.slice Ao90 x0_77.length co90 : Value).ownBlock) (.slice Ao90 x0_77.length co90) t228 (wrap64 ((IntKind.u64.wrap (wrap64 (a1 + a3))) / 2)) (wrap64 ((wrap64 ((wrap64 ((IntKind.u64.wrap (wrap64 (a1 + a3))) / 2)) + a2)) - x20_2)) a3 t229 w0 _ ?side1 ?side2 A89.out).mono ?_); (case side1 => repeat (first | (with_reducible first | exact HB.out | apply below_alloc | apply pw_below_drewN | apply below_drew1) | exact HB.out)); (case side2 => exact Kd.R_tight rfl HO_0.out); rintro e w92 ⟨rfl, hy0, hb, hkp⟩; refine ⟨_, rfl, ?_⟩; have n0_ := Aside0.mk (Kd.R_reok rfl hy0 (fun k_ e_ => HO_0.out.1 k_ e_)); have n1_ := Aside0.mk (Kept.then_ (S := (fun k_ => P0_ k_)) (by repeat (first | (with_reducible first | exact HK.out | apply Kept.alloc | apply Kept.drewN | apply Kept.drew) | exact HK.out)) hkp (fun k_ hs_ => (fun e_ => (HO_0.out.1 k_ e_.symm)) hs_)); have n2_ := Aside0.mk (hb); clear HO_0; clear HK; clear HB; have HO_0 := n0_; have HK := n1_; have HB := n2_; clear n0_ n1_ n2_; (try clear hb); (try clear hkp); (try clear hy0)))
                 first | go_end0 | ((try simp only [Exit.inBlock, Exit.then]); refine bodyPost_ret (results_none rfl _ _ _) rfl ?_)
                 exact ⟨by first | rfl | (simp [errW_none, errW_some] <;> rfl) | (simp [*, errW_none, errW_some] <;> rfl), by (with_reducible repeat (first | apply Kd.R_alloc | apply Kd.R_drewN | apply Kd.R_drew)); exact HO_0.out, by repeat (first | (with_reducible first | exact HB.out | apply below_alloc | apply pw_below_drewN | apply below_drew1) | exact HB.out), by repeat (first | (with_reducible first | exact HK.out | apply Kept.alloc | apply Kept.drewN | apply Kept.drew) | exact HK.out)⟩
                ·rw [if_neg c88] at H
                 have c88b0 : decide ((wrap64 ((wrap64 ((wrap64 ((IntKind.u64.wrap (wrap64 (a1 + a3))) / 2)) + a2)) - x20_2)) < a3) = false := decide_eq_false c88
                 clear c88
                 obtain rfl := Option.some.inj H
                 obtain ⟨Ao93, co93, eo93⟩ := Kd.R_slice HO_0.out
                 subst eo93
                 go_wp2_with (first | ((with_reducible refine gate_callee (f := 80) rfl ?_); refine goesL_ (some 205) rfl rfl Try.func80 (by kernel_rfl) rfl #[.slice Ao93 x0_77.length co93, .int .i64 a1, .int .i64 x20_2, .int .i64 (wrap64 ((IntKind.u64.wrap (wrap64 (a1 + a3))) / 2)), .func (.func 33) #[] #[]] rfl (by (try simp only [List.map_toArray, List.map_cons, List.map_nil]); first | done | rfl | (simp only [List.length_drop, List.length_take]; rfl)) ?_; (with_reducible refine (ih kj82 (by have := HJ58.out; have := HK2.out; have := HJ75.out; have := HJ77.out; have := HJ82.out; omega) (fun k_ => some k_ = (.slice Ao93 x0_77.length co93 : Value).ownBlock) (.slice Ao93 x0_77.length co93) x0_77 a1 x20_2 (wrap64 ((IntKind.u64.wrap (wrap64 (a1 + a3))) / 2)) t228 w0 _ ?side1 ?side2 A86.out).mono ?_); (case side1 => repeat (first | (with_reducible first | exact HB.out | apply below_alloc | apply pw_below_drewN | apply below_drew1) | exact HB.out)); (case side2 => exact Kd.R_tight rfl HO_0.out); rintro e w94 ⟨rfl, hy0, hb, hkp⟩; refine ⟨_, rfl, ?_⟩; have n0_ := Aside0.mk (Kd.R_reok rfl hy0 (fun k_ e_ => HO_0.out.1 k_ e_)); have n1_ := Aside0.mk (Kept.then_ (S := (fun k_ => P0_ k_)) (by repeat (first | (with_reducible first | exact HK.out | apply Kept.alloc | apply Kept.drewN | apply Kept.drew) | exact HK.out)) hkp (fun k_ hs_ => (fun e_ => (HO_0.out.1 k_ e_.symm)) hs_)); have n2_ := Aside0.mk (hb); clear HO_0; clear HK; clear HB; have HO_0 := n0_; have HK := n1_; have HB := n2_; clear n0_ n1_ n2_; (try clear hb); (try clear hkp); (try clear hy0)))
                 first | go_end0 | ((try simp only [Exit.inBlock, Exit.then]); refine bodyPost_ret (results_none rfl _ _ _) rfl ?_)
                 exact ⟨by first | rfl | (simp [errW_none, errW_some] <;> rfl) | (simp [*, errW_none, errW_some] <;> rfl), by (with_reducible repeat (first | apply Kd.R_alloc | apply Kd.R_drewN | apply Kd.R_drew)); exact HO_0.out, by repeat (first | (with_reducible first | exact HB.out | apply below_alloc | apply pw_below_drewN | apply below_drew1) | exact HB.out), by repeat (first | (with_reducible first | exact HK.out | apply Kept.alloc | apply Kept.drewN | apply Kept.drew) | exact HK.out)⟩
               ·rw [if_neg c87] at H
                have c87b0 : decide ((wrap64 ((IntKind.u64.wrap (wrap64 (a1 + a3))) / 2)) < (wrap64 ((wrap64 ((wrap64 ((IntKind.u64.wrap (wrap64 (a1 + a3))) / 2)) + a2)) - x20_2))) = false := decide_eq_false c87
                clear c87
                obtain rfl := Option.some.inj H
                obtain ⟨Ao95, co95, eo95⟩ := Kd.R_slice HO_0.out
                subst eo95
                go_wp2_with (first | ((with_reducible refine gate_callee (f := 80) rfl ?_); refine goesL_ (some 205) rfl rfl Try.func80 (by kernel_rfl) rfl #[.slice Ao95 x0_77.length co95, .int .i64 a1, .int .i64 x20_2, .int .i64 (wrap64 ((IntKind.u64.wrap (wrap64 (a1 + a3))) / 2)), .func (.func 33) #[] #[]] rfl (by (try simp only [List.map_toArray, List.map_cons, List.map_nil]); first | done | rfl | (simp only [List.length_drop, List.length_take]; rfl)) ?_; (with_reducible refine (ih kj82 (by have := HJ58.out; have := HK2.out; have := HJ75.out; have := HJ77.out; have := HJ82.out; omega) (fun k_ => some k_ = (.slice Ao95 x0_77.length co95 : Value).ownBlock) (.slice Ao95 x0_77.length co95) x0_77 a1 x20_2 (wrap64 ((IntKind.u64.wrap (wrap64 (a1 + a3))) / 2)) t228 w0 _ ?side1 ?side2 A86.out).mono ?_); (case side1 => repeat (first | (with_reducible first | exact HB.out | apply below_alloc | apply pw_below_drewN | apply below_drew1) | exact HB.out)); (case side2 => exact Kd.R_tight rfl HO_0.out); rintro e w96 ⟨rfl, hy0, hb, hkp⟩; refine ⟨_, rfl, ?_⟩; have n0_ := Aside0.mk (Kd.R_reok rfl hy0 (fun k_ e_ => HO_0.out.1 k_ e_)); have n1_ := Aside0.mk (Kept.then_ (S := (fun k_ => P0_ k_)) (by repeat (first | (with_reducible first | exact HK.out | apply Kept.alloc | apply Kept.drewN | apply Kept.drew) | exact HK.out)) hkp (fun k_ hs_ => (fun e_ => (HO_0.out.1 k_ e_.symm)) hs_)); have n2_ := Aside0.mk (hb); clear HO_0; clear HK; clear HB; have HO_0 := n0_; have HK := n1_; have HB := n2_; clear n0_ n1_ n2_; (try clear hb); (try clear hkp); (try clear hy0)))
                first | go_end0 | ((try simp only [Exit.inBlock, Exit.then]); refine bodyPost_ret (results_none rfl _ _ _) rfl ?_)
                exact ⟨by first | rfl | (simp [errW_none, errW_some] <;> rfl) | (simp [*, errW_none, errW_some] <;> rfl), by (with_reducible repeat (first | apply Kd.R_alloc | apply Kd.R_drewN | apply Kd.R_drew)); exact HO_0.out, by repeat (first | (with_reducible first | exact HB.out | apply below_alloc | apply pw_below_drewN | apply below_drew1) | exact HB.out), by repeat (first | (with_reducible first | exact HK.out | apply Kept.alloc | apply Kept.drewN | apply Kept.drew) | exact HK.out)⟩
              ·replace c85 := Bool.eq_false_iff.mpr c85
               subst c85
               have H1 : (if (wrap64 ((IntKind.u64.wrap (wrap64 (a1 + a3))) / 2)) < (wrap64 ((wrap64 ((wrap64 ((IntKind.u64.wrap (wrap64 (a1 + a3))) / 2)) + a2)) - x20_2)) then (if (wrap64 ((wrap64 ((wrap64 ((IntKind.u64.wrap (wrap64 (a1 + a3))) / 2)) + a2)) - x20_2)) < a3 then ((impl_Item_80.f kj82 x0_77 (wrap64 ((IntKind.u64.wrap (wrap64 (a1 + a3))) / 2)) (wrap64 ((wrap64 ((wrap64 ((IntKind.u64.wrap (wrap64 (a1 + a3))) / 2)) + a2)) - x20_2)) a3).bind fun t230 => (some t230)) else (some x0_77)) else (some x0_77)) = some r := by rw [if_neg (show ¬ (false = true) by decide)] at H; exact H
               clear H
               have H := H1
               clear H1
               by_cases c97 : (wrap64 ((IntKind.u64.wrap (wrap64 (a1 + a3))) / 2)) < (wrap64 ((wrap64 ((wrap64 ((IntKind.u64.wrap (wrap64 (a1 + a3))) / 2)) + a2)) - x20_2))
               ·rw [if_pos c97] at H
                have c97b0 : decide ((wrap64 ((IntKind.u64.wrap (wrap64 (a1 + a3))) / 2)) < (wrap64 ((wrap64 ((wrap64 ((IntKind.u64.wrap (wrap64 (a1 + a3))) / 2)) + a2)) - x20_2))) = true := decide_eq_true c97
                clear c97
                by_cases c98 : (wrap64 ((wrap64 ((wrap64 ((IntKind.u64.wrap (wrap64 (a1 + a3))) / 2)) + a2)) - x20_2)) < a3
                ·rw [if_pos c98] at H
                 have c98b0 : decide ((wrap64 ((wrap64 ((wrap64 ((IntKind.u64.wrap (wrap64 (a1 + a3))) / 2)) + a2)) - x20_2)) < a3) = true := decide_eq_true c98
                 clear c98
                 replace H := Option.bind_eq_some_iff.mp H
                 obtain ⟨t230, A990, H⟩ := H
                 replace H : (some t230) = some r := H
                 have A99 := Aside0.mk A990
                 clear A990
                 obtain rfl := Option.some.inj H
                 obtain ⟨Ao100, co100, eo100⟩ := Kd.R_slice HO_0.out
                 subst eo100
                 go_wp2_with (first | ((with_reducible refine gate_callee (f := 80) rfl ?_); refine goesL_ (some 219) rfl rfl Try.func80 (by kernel_rfl) rfl #[.slice Ao100 x0_77.length co100, .int .i64 (wrap64 ((IntKind.u64.wrap (wrap64 (a1 + a3))) / 2)), .int .i64 (wrap64 ((wrap64 ((wrap64 ((IntKind.u64.wrap (wrap64 (a1 + a3))) / 2)) + a2)) - x20_2)), .int .i64 a3, .func (.func 33) #[] #[]] rfl (by (try simp only [List.map_toArray, List.map_cons, List.map_nil]); first | done | rfl | (simp only [List.length_drop, List.length_take]; rfl)) ?_; (with_reducible refine (ih kj82 (by have := HJ58.out; have := HK2.out; have := HJ75.out; have := HJ77.out; have := HJ82.out; omega) (fun k_ => some k_ = (.slice Ao100 x0_77.length co100 : Value).ownBlock) (.slice Ao100 x0_77.length co100) x0_77 (wrap64 ((IntKind.u64.wrap (wrap64 (a1 + a3))) / 2)) (wrap64 ((wrap64 ((wrap64 ((IntKind.u64.wrap (wrap64 (a1 + a3))) / 2)) + a2)) - x20_2)) a3 t230 w0 _ ?side1 ?side2 A99.out).mono ?_); (case side1 => repeat (first | (with_reducible first | exact HB.out | apply below_alloc | apply pw_below_drewN | apply below_drew1) | exact HB.out)); (case side2 => exact Kd.R_tight rfl HO_0.out); rintro e w101 ⟨rfl, hy0, hb, hkp⟩; refine ⟨_, rfl, ?_⟩; have n0_ := Aside0.mk (Kd.R_reok rfl hy0 (fun k_ e_ => HO_0.out.1 k_ e_)); have n1_ := Aside0.mk (Kept.then_ (S := (fun k_ => P0_ k_)) (by repeat (first | (with_reducible first | exact HK.out | apply Kept.alloc | apply Kept.drewN | apply Kept.drew) | exact HK.out)) hkp (fun k_ hs_ => (fun e_ => (HO_0.out.1 k_ e_.symm)) hs_)); have n2_ := Aside0.mk (hb); clear HO_0; clear HK; clear HB; have HO_0 := n0_; have HK := n1_; have HB := n2_; clear n0_ n1_ n2_; (try clear hb); (try clear hkp); (try clear hy0)))
                 first | go_end0 | ((try simp only [Exit.inBlock, Exit.then]); refine bodyPost_ret (results_none rfl _ _ _) rfl ?_)
                 exact ⟨by first | rfl | (simp [errW_none, errW_some] <;> rfl) | (simp [*, errW_none, errW_some] <;> rfl), by (with_reducible repeat (first | apply Kd.R_alloc | apply Kd.R_drewN | apply Kd.R_drew)); exact HO_0.out, by repeat (first | (with_reducible first | exact HB.out | apply below_alloc | apply pw_below_drewN | apply below_drew1) | exact HB.out), by repeat (first | (with_reducible first | exact HK.out | apply Kept.alloc | apply Kept.drewN | apply Kept.drew) | exact HK.out)⟩
                ·rw [if_neg c98] at H
                 have c98b0 : decide ((wrap64 ((wrap64 ((wrap64 ((IntKind.u64.wrap (wrap64 (a1 + a3))) / 2)) + a2)) - x20_2)) < a3) = false := decide_eq_false c98
                 clear c98
                 obtain rfl := Option.some.inj H
                 go_wp2
                 first | go_end0 | ((try simp only [Exit.inBlock, Exit.then]); refine bodyPost_ret (results_none rfl _ _ _) rfl ?_)
                 exact ⟨by first | rfl | (simp [errW_none, errW_some] <;> rfl) | (simp [*, errW_none, errW_some] <;> rfl), by (with_reducible repeat (first | apply Kd.R_alloc | apply Kd.R_drewN | apply Kd.R_drew)); exact HO_0.out, by repeat (first | (with_reducible first | exact HB.out | apply below_alloc | apply pw_below_drewN | apply below_drew1) | exact HB.out), by repeat (first | (with_reducible first | exact HK.out | apply Kept.alloc | apply Kept.drewN | apply Kept.drew) | exact HK.out)⟩
               ·rw [if_neg c97] at H
                have c97b0 : decide ((wrap64 ((IntKind.u64.wrap (wrap64 (a1 + a3))) / 2)) < (wrap64 ((wrap64 ((wrap64 ((IntKind.u64.wrap (wrap64 (a1 + a3))) / 2)) + a2)) - x20_2))) = false := decide_eq_false c97
                clear c97
                obtain rfl := Option.some.inj H
                go_wp2
                first | go_end0 | ((try simp only [Exit.inBlock, Exit.then]); refine bodyPost_ret (results_none rfl _ _ _) rfl ?_)
                exact ⟨by first | rfl | (simp [errW_none, errW_some] <;> rfl) | (simp [*, errW_none, errW_some] <;> rfl), by (with_reducible repeat (first | apply Kd.R_alloc | apply Kd.R_drewN | apply Kd.R_drew)); exact HO_0.out, by repeat (first | (with_reducible first | exact HB.out | apply below_alloc | apply pw_below_drewN | apply below_drew1) | exact HB.out), by repeat (first | (with_reducible first | exact HK.out | apply Kept.alloc | apply Kept.drewN | apply Kept.drew) | exact HK.out)⟩

set_option maxHeartbeats 8000000 in
set_option maxRecDepth 100000 in
theorem impl_Item_80.calls (k : Nat) : ∀ (P0_ : Nat → Prop) (u9000_ : Value) (l0 : List (S55)) (a1 : Int) (a2 : Int) (a3 : Int) (r : List (S55)) (w0 w : World) (hB : Below w0.heap.size w0 w) (ho0 : Kd.R k55 55 w w0.heap.size P0_ u9000_ l0) (h : impl_Item_80.f k l0 a1 a2 a3 = some r),
  Calls Try.prog 80 #[u9000_, .int .i64 a1, .int .i64 a2, .int .i64 a3, .func (.func 33) #[] #[]] w fun e w' => e = .returned (.tuple #[]) ∧ Kd.R k55 55 w' w0.heap.size (fun k_ => (P0_ k_ ∨ w.heap.size ≤ k_)) u9000_ r ∧ Below w0.heap.size w0 w' ∧ Kept w w' (fun k_ => P0_ k_) := by
 induction k using Nat.strongRecOn with
 | _ k ih =>
 intro P0_ u9000_ l0 a1 a2 a3 r w0 w hB ho0 h
 cases k with
 | zero => exact absurd h (by simp [impl_Item_80.f])
 | succ k =>
 by_cases c5 : (wrap64 (a2 - a1)) = 1
 ·exact impl_Item_80.calls_a k P0_ u9000_ l0 a1 a2 a3 r w0 w hB ho0 h c5
 ·by_cases c32 : (wrap64 (a3 - a2)) = 1
  ·exact impl_Item_80.calls_b k P0_ u9000_ l0 a1 a2 a3 r w0 w hB ho0 h c5 c32
  ·exact impl_Item_80.calls_c k ih P0_ u9000_ l0 a1 a2 a3 r w0 w hB ho0 h c5 c32


end Go.Proofs.Ytfgmngfhchfaaaa.PFnExactByKey
-- halved
