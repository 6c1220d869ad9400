/- The pure statement of FnExactLeast: the lesser of two whole numbers is what the reference tells, for all numbers; no condition. -/
import Derived.Test.YtbjhdcjhhonigaaPFnExactLeastx1
namespace Go.Proofs.Ytbjhdcjhhonigaa.PureFnExactLeast
open Go.RowKit Go.Proofs.Ytbjhdcjhhonigaa.PFnExactLeast Go.Proofs.YtbjhdcjhhonigaaW.PrintWords Go.Proofs.YtbjhdcjhhonigaaW.PrintLast Go.Proofs.YtbjhdcjhhonigaaW.PrintMore
set_option linter.unusedVariables false
set_option linter.unusedSimpArgs false

/-! ### minmax -/
theorem mn_le (a b : Int) : mn a b = if b < a then b else a := rfl
theorem mx_ge (a b : Int) : mx a b = if a < b then b else a := rfl

/-! ### least -/
theorem least_spec (a b : Int) : spec_Least.f a b = some (mn a b) := by
  unfold spec_Least.f mn; split <;> rfl

theorem pure_law : laws_FnExactLeast.Pure := by
  intro a b _ _
  unfold laws_FnExactLeast.f impl_Least.f
  rw [least_spec]; simp
end Go.Proofs.Ytbjhdcjhhonigaa.PureFnExactLeast
namespace Go.Proofs.Ytbjhdcjhhonigaa.Pure
theorem FnExactLeast : Go.Proofs.Ytbjhdcjhhonigaa.PFnExactLeast.laws_FnExactLeast.Pure := Go.Proofs.Ytbjhdcjhhonigaa.PureFnExactLeast.pure_law
end Go.Proofs.Ytbjhdcjhhonigaa.Pure
