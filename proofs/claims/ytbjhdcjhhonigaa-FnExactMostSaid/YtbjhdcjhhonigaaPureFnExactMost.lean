/- The pure statement of FnExactMost: the greater of two whole numbers is what the reference tells, for all numbers; no condition. -/
import Derived.Test.YtbjhdcjhhonigaaPFnExactMostx1
namespace Go.Proofs.Ytbjhdcjhhonigaa.PureFnExactMost
open Go.RowKit Go.Proofs.Ytbjhdcjhhonigaa.PFnExactMost Go.Proofs.YtbjhdcjhhonigaaW.PrintWords Go.Proofs.YtbjhdcjhhonigaaW.PrintLast Go.Proofs.YtbjhdcjhhonigaaW.PrintMore
set_option linter.unusedVariables false
set_option linter.unusedSimpArgs false

/-! ### minmax -/
theorem mn_le (a b : Int) : mn a b = if b < a then b else a := rfl
theorem mx_ge (a b : Int) : mx a b = if a < b then b else a := rfl

/-! ### most -/
theorem most_spec (a b : Int) : spec_Most.f a b = some (mx a b) := by
  unfold spec_Most.f mx
  by_cases h : a < b
  · rw [if_pos h, if_pos h]
  · rw [if_neg h, if_neg h]

theorem pure_law : laws_FnExactMost.Pure := by
  intro a b _ _
  unfold laws_FnExactMost.f impl_Most.f
  rw [most_spec]; simp
end Go.Proofs.Ytbjhdcjhhonigaa.PureFnExactMost
namespace Go.Proofs.Ytbjhdcjhhonigaa.Pure
theorem FnExactMost : Go.Proofs.Ytbjhdcjhhonigaa.PFnExactMost.laws_FnExactMost.Pure := Go.Proofs.Ytbjhdcjhhonigaa.PureFnExactMost.pure_law
end Go.Proofs.Ytbjhdcjhhonigaa.Pure
