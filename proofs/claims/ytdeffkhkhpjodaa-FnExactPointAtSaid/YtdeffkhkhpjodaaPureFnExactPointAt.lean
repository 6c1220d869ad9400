/- The pure statement of FnExactPointAt: the point at a place of the curve is what the reference tells, for all numbers; no condition. -/
import Derived.Test.YtdeffkhkhpjodaaPFnExactPointAtx1
namespace Go.Proofs.Ytdeffkhkhpjodaa.PureFnExactPointAt
open Go.RowKit Go.Proofs.Ytdeffkhkhpjodaa.PFnExactPointAt Go.Proofs.YtdeffkhkhpjodaaW.PrintWords Go.Proofs.YtdeffkhkhpjodaaW.PrintLast Go.Proofs.YtdeffkhkhpjodaaW.PrintMore
set_option linter.unusedVariables false
set_option linter.unusedSimpArgs false

/-! ### inn -/
theorem l1In_val (x a b : Int) : spec_l1In.f x a b = some (decide (a ≤ x ∧ x ≤ b)) := by
  unfold spec_l1In.f
  by_cases h : x ≥ a
  · rw [if_pos h]; simp [show a ≤ x from h]
  · rw [if_neg h]; simp [show ¬ a ≤ x from h]
theorem in_val (x a b : Int) : impl_in.f x a b = some (decide (a ≤ x ∧ x ≤ b)) := by
  unfold impl_in.f
  by_cases h : a ≤ x
  · rw [if_pos h]; simp [h]
  · rw [if_neg h]; simp [h]

/-! ### pointat -/
theorem pointat_l0 : ∀ (k : Nat) (a b c d : Int), spec_PointAt.l0 k a b c d = impl_PointAt.l0 k a b c d
  | 0, _, _, _, _ => rfl
  | k + 1, a, b, c, d => by simp only [spec_PointAt.l0, impl_PointAt.l0, pointat_l0 k, Int.mul_comm 2 d]
theorem pointat_same (k : Nat) (x : Int) : spec_PointAt.f k x = impl_PointAt.f k x := by
  unfold spec_PointAt.f impl_PointAt.f
  simp only [l1In_val, in_val, pointat_l0]
theorem pointat_step (k : Nat) (s t : Int) (h0 : s < 256) (hs : wrap64 (s * 2) = t) (ih : ∀ x y d, ∃ v, impl_PointAt.l0 k x y d t = some v) (x y d : Int) : ∃ v, impl_PointAt.l0 (k + 1) x y d s = some v := by
  simp only [impl_PointAt.l0]
  rw [if_pos h0, hs]
  split
  · split <;> exact ih _ _ _
  · exact ih _ _ _
theorem pointat_tot (k : Nat) (x y d : Int) : ∃ v, impl_PointAt.l0 (k + 9) x y d 1 = some v := by
  have e0 : ∀ x y d, ∃ v, impl_PointAt.l0 (k + 1) x y d 256 = some v := fun x y d => ⟨(y, d), by simp [impl_PointAt.l0]⟩
  have e1 := pointat_step (k + 1) 128 256 (by decide) (by unfold wrap64; rfl) e0
  have e2 := pointat_step (k + 2) 64 128 (by decide) (by unfold wrap64; rfl) e1
  have e3 := pointat_step (k + 3) 32 64 (by decide) (by unfold wrap64; rfl) e2
  have e4 := pointat_step (k + 4) 16 32 (by decide) (by unfold wrap64; rfl) e3
  have e5 := pointat_step (k + 5) 8 16 (by decide) (by unfold wrap64; rfl) e4
  have e6 := pointat_step (k + 6) 4 8 (by decide) (by unfold wrap64; rfl) e5
  have e7 := pointat_step (k + 7) 2 4 (by decide) (by unfold wrap64; rfl) e6
  exact pointat_step (k + 8) 1 2 (by decide) (by unfold wrap64; rfl) e7 x y d
theorem pointat_some (k : Nat) (x : Int) : ∃ v, impl_PointAt.f (k + 9) x = some v := by
  unfold impl_PointAt.f
  simp only [in_val, Option.bind_some]
  split
  · exact pointat_tot k _ _ _
  · exact ⟨_, rfl⟩

theorem pure_law : laws_FnExactPointAt.Pure := by
  intro x _
  refine ⟨9, ?_⟩
  unfold laws_FnExactPointAt.f
  obtain ⟨v, hv⟩ := pointat_some 0 x
  rw [pointat_same, hv]; simp
end Go.Proofs.Ytdeffkhkhpjodaa.PureFnExactPointAt
namespace Go.Proofs.Ytdeffkhkhpjodaa.Pure
theorem FnExactPointAt : Go.Proofs.Ytdeffkhkhpjodaa.PFnExactPointAt.laws_FnExactPointAt.Pure := Go.Proofs.Ytdeffkhkhpjodaa.PureFnExactPointAt.pure_law
end Go.Proofs.Ytdeffkhkhpjodaa.Pure
