/- The walk of the law FnExactItemText: it returns true; condition: the listed package variables read as the program's text lays them. -/
import Derived.Test.YtfgmngfhchfaaaaDoorAidP
import Derived.Test.YtfgmngfhchfaaaaDoorPFnExactItemTextx2
import Derived.Test.YtfgmngfhchfaaaaDoorPureFnExactItemText
namespace Go.Proofs.YtfgmngfhchfaaaaDoor.WalkFnExactItemText
open Go.RowKit Go.Proofs.YtfgmngfhchfaaaaDoor.Aid Go.Proofs.YtfgmngfhchfaaaaDoor.AidP Go.Proofs.YtfgmngfhchfaaaaDoorW.PrintWords
set_option linter.unusedVariables false
theorem same_laid : Rows.fnExactItemTextRow.laid = Rows.fnExactNumTextRow.laid := rfl
theorem law_calls (a0_0 a0_1 a0_2 a0_3 a0_4 : Int) (W : World) (hL : laidMetH Tryd.prog Rows.fnExactItemTextRow.laid W) (w0 : (Lit.int .i64 a0_0).wf = true) (w1 : (Lit.int .i64 a0_1).wf = true) (w2 : (Lit.int .i64 a0_2).wf = true) (w3 : (Lit.int .i64 a0_3).wf = true) (w4 : (Lit.int .i64 a0_4).wf = true) :
    Calls Tryd.prog 5 #[.agg #[.int .i64 a0_0, .int .i64 a0_1, .int .i64 a0_2, .int .i64 a0_3, .int .i64 a0_4]] W fun e W' => e = .returned (.bool true) ∧ Below W.heap.size W W' := by
  rw [same_laid] at hL
  obtain ⟨k, hk⟩ := PureFnExactItemText.pure_law a0_0 a0_1 a0_2 a0_3 a0_4 w0 w1 w2 w3 w4
  exact (PFnExactItemText.laws_FnExactItemText.calls k a0_0 a0_1 a0_2 a0_3 a0_4 true W hk (tab_of3 hL)).mono fun e W' h => ⟨h.1, by first | exact h.2 | exact h.2.below⟩
end Go.Proofs.YtfgmngfhchfaaaaDoor.WalkFnExactItemText
