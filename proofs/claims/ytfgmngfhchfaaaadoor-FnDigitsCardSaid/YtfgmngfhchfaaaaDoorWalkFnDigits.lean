/- The walk of the law FnDigits: it returns true; condition: the listed package variables read as the program's text lays them. -/
import Derived.Test.YtfgmngfhchfaaaaDoorAidP
import Derived.Test.YtfgmngfhchfaaaaDoorPFnDigitsx3
import Derived.Test.YtfgmngfhchfaaaaDoorPureFnDigits
namespace Go.Proofs.YtfgmngfhchfaaaaDoor.WalkFnDigits
open Go.RowKit Go.Proofs.YtfgmngfhchfaaaaDoor.Aid Go.Proofs.YtfgmngfhchfaaaaDoor.AidP Go.Proofs.YtfgmngfhchfaaaaDoorW.PrintWords
set_option linter.unusedVariables false
theorem same_laid : Rows.fnDigitsRow.laid = Rows.fnExactParseNumRow.laid := rfl
theorem law_calls (A0 : Option Addr) (c0 : Nat) (l0 : List Int) (W : World) (hL : laidMetH Tryd.prog Rows.fnDigitsRow.laid W) (hr0 : Kd.C (Kd.int .u8) W A0 l0.length l0) (hc0 : l0.length ≤ c0) (hm : l0.length ≤ maxLen) (hw : ∀ x ∈ l0, (Lit.int .u8 x).wf = true) :
    Calls Tryd.prog 6 #[.slice A0 l0.length c0] W fun e W' => e = .returned (.bool true) ∧ Below W.heap.size W W' := by
  rw [same_laid] at hL
  obtain ⟨k, hk⟩ := PureFnDigits.pure_law l0 hm hw
  exact (PFnDigits.laws_FnDigits.calls k A0 c0 l0 true W hr0 hc0 hk (tab_of5 hL)).mono fun e W' h => ⟨h.1, by first | exact h.2 | exact h.2.below⟩
end Go.Proofs.YtfgmngfhchfaaaaDoor.WalkFnDigits
