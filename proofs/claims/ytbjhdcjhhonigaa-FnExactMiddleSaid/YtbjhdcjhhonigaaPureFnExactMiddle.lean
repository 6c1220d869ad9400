/- The pure statement of FnExactMiddle: the middle of a rectangle is what the reference tells, for all rectangles; no condition. -/
import Derived.Test.YtbjhdcjhhonigaaPFnExactMiddlex1
namespace Go.Proofs.Ytbjhdcjhhonigaa.PureFnExactMiddle
open Go.RowKit Go.Proofs.Ytbjhdcjhhonigaa.PFnExactMiddle Go.Proofs.YtbjhdcjhhonigaaW.PrintWords Go.Proofs.YtbjhdcjhhonigaaW.PrintLast Go.Proofs.YtbjhdcjhhonigaaW.PrintMore
set_option linter.unusedVariables false
set_option linter.unusedSimpArgs false

/-! ### box -/
theorem toBox_some (a b c d : Int) : laws_toBox.f a b c d = some (a, b, c, d) := rfl

theorem pure_law (a b c d : Int) (w0 : (Lit.int .i64 a).wf = true) (w1 : (Lit.int .i64 b).wf = true) (w2 : (Lit.int .i64 c).wf = true) (w3 : (Lit.int .i64 d).wf = true) : laws_FnExactMiddle.f a b c d = some true := by
  unfold laws_FnExactMiddle.f
  simp [toBox_some, spec_Middle.f, impl_Middle.f]
end Go.Proofs.Ytbjhdcjhhonigaa.PureFnExactMiddle
