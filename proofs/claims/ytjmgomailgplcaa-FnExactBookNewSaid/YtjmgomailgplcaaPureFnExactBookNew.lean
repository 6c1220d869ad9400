/- The pure statement of FnExactBookNew: the new book is what the reference tells, and is no memory of another; no condition. -/
import Derived.Test.YtjmgomailgplcaaPFnExactBookNewx3
namespace Go.Proofs.Ytjmgomailgplcaa.PureFnExactBookNew
open Go.RowKit Go.Proofs.Ytjmgomailgplcaa.PFnExactBookNew Go.Proofs.YtjmgomailgplcaaW.PrintWords Go.Proofs.YtjmgomailgplcaaW.PrintLast Go.Proofs.YtjmgomailgplcaaW.PrintMore
set_option linter.unusedVariables false
set_option linter.unusedSimpArgs false

theorem pure_law : laws_FnExactBookNew.Pure := ⟨10, by decide +kernel⟩
end Go.Proofs.Ytjmgomailgplcaa.PureFnExactBookNew
namespace Go.Proofs.Ytjmgomailgplcaa.Pure
theorem FnExactBookNew : Go.Proofs.Ytjmgomailgplcaa.PFnExactBookNew.laws_FnExactBookNew.Pure := Go.Proofs.Ytjmgomailgplcaa.PureFnExactBookNew.pure_law
end Go.Proofs.Ytjmgomailgplcaa.Pure
