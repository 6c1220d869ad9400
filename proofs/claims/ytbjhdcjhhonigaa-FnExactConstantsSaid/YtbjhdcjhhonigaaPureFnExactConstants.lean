/- The pure statement of FnExactConstants: every constant that the law compares has its value; no condition. -/
import Derived.Test.YtbjhdcjhhonigaaPFnExactConstantsx1
namespace Go.Proofs.Ytbjhdcjhhonigaa.PureFnExactConstants
open Go.RowKit Go.Proofs.Ytbjhdcjhhonigaa.PFnExactConstants Go.Proofs.YtbjhdcjhhonigaaW.PrintWords Go.Proofs.YtbjhdcjhhonigaaW.PrintLast Go.Proofs.YtbjhdcjhhonigaaW.PrintMore
set_option linter.unusedVariables false
set_option linter.unusedSimpArgs false

theorem pure_law : laws_FnExactConstants.Pure := rfl
end Go.Proofs.Ytbjhdcjhhonigaa.PureFnExactConstants
namespace Go.Proofs.Ytbjhdcjhhonigaa.Pure
theorem FnExactConstants : Go.Proofs.Ytbjhdcjhhonigaa.PFnExactConstants.laws_FnExactConstants.Pure := Go.Proofs.Ytbjhdcjhhonigaa.PureFnExactConstants.pure_law
end Go.Proofs.Ytbjhdcjhhonigaa.Pure
