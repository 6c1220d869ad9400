/- The pure statement of FnExactMeets: whether two rectangles meet is what the reference tells, for all rectangles; no condition. -/
import Derived.Test.YtdeffkhkhpjodaaPFnExactMeetsx2
namespace Go.Proofs.Ytdeffkhkhpjodaa.PureFnExactMeets
open Go.RowKit Go.Proofs.Ytdeffkhkhpjodaa.PFnExactMeets Go.Proofs.YtdeffkhkhpjodaaW.PrintWords Go.Proofs.YtdeffkhkhpjodaaW.PrintLast Go.Proofs.YtdeffkhkhpjodaaW.PrintMore
set_option linter.unusedVariables false
set_option linter.unusedSimpArgs false

/-! ### box -/
theorem toBox_some (a b c d : Int) : laws_toBox.f a b c d = some (a, b, c, d) := rfl

/-! ### inn -/
theorem l1In_val (x a b : Int) : spec_l1In.f x a b = some (decide (a ≤ x ∧ x ≤ b)) := by
  unfold spec_l1In.f
  by_cases h : x ≥ a
  · rw [if_pos h]; simp [show a ≤ x from h]
  · rw [if_neg h]; simp [show ¬ a ≤ x from h]
theorem in_val (x a b : Int) : impl_in.f x a b = some (decide (a ≤ x ∧ x ≤ b)) := by
  unfold impl_in.f
  by_cases h : a ≤ x
  · rw [if_pos h]; simp [h]
  · rw [if_neg h]; simp [h]

/-! ### boxok -/
def okb (a b c d : Int) : Bool := decide (0 ≤ a ∧ a ≤ c ∧ c ≤ 255 ∧ 0 ≤ b ∧ b ≤ d ∧ d ≤ 255)
theorem okb_iff (a b c d : Int) : okb a b c d = true ↔ 0 ≤ a ∧ a ≤ c ∧ c ≤ 255 ∧ 0 ≤ b ∧ b ≤ d ∧ d ≤ 255 := by unfold okb; exact decide_eq_true_iff
theorem boxok_spec (a b c d : Int) : spec_BoxOk.f a b c d = some (okb a b c d) := by
  unfold spec_BoxOk.f
  simp only [l1In_val, Option.bind_some, okb, decide_eq_true_eq]
  by_cases h1 : 0 ≤ a ∧ a ≤ 255
  · rw [if_pos h1]
    by_cases h2 : 0 ≤ b ∧ b ≤ 255
    · rw [if_pos h2]
      by_cases h3 : a ≤ c ∧ c ≤ 255
      · rw [if_pos h3]; congr 1; apply decide_eq_decide.mpr; omega
      · rw [if_neg h3]; congr 1; symm; apply decide_eq_false; omega
    · rw [if_neg h2]; congr 1; symm; apply decide_eq_false; omega
  · rw [if_neg h1]; congr 1; symm; apply decide_eq_false; omega
theorem boxok_impl (a b c d : Int) : impl_BoxOk.f a b c d = some (okb a b c d) := by
  unfold impl_BoxOk.f
  simp only [in_val, Option.bind_some, okb, decide_eq_true_eq]
  by_cases h1 : 0 ≤ a ∧ a ≤ c
  · rw [if_pos h1]
    by_cases h2 : 0 ≤ c ∧ c ≤ 255
    · rw [if_pos h2]
      by_cases h3 : 0 ≤ b ∧ b ≤ d
      · rw [if_pos h3]; congr 1; apply decide_eq_decide.mpr; omega
      · rw [if_neg h3]; congr 1; symm; apply decide_eq_false; omega
    · rw [if_neg h2]; congr 1; symm; apply decide_eq_false; omega
  · rw [if_neg h1]; congr 1; symm; apply decide_eq_false; omega

/-! ### meets -/
def meetsv (a b c d e f g h : Int) : Bool := okb a b c d && (okb e f g h && decide (a ≤ g ∧ e ≤ c ∧ b ≤ h ∧ f ≤ d))
theorem meets_tail (a b c d e f g h : Int) : (if a ≤ g then (if e ≤ c then (if b ≤ h then some (decide (f ≤ d)) else some false) else some false) else some false) = some (decide (a ≤ g ∧ e ≤ c ∧ b ≤ h ∧ f ≤ d)) := by
  by_cases h1 : a ≤ g <;> by_cases h2 : e ≤ c <;> by_cases h3 : b ≤ h <;> simp [h1, h2, h3]
theorem meets_spec (a b c d e f g h : Int) : spec_Meets.f a b c d e f g h = some (meetsv a b c d e f g h) := by
  unfold spec_Meets.f meetsv
  simp only [boxok_spec, Option.bind_some, meets_tail]
  cases okb a b c d <;> cases okb e f g h <;> simp
theorem meets_impl (a b c d e f g h : Int) : impl_Meets.f a b c d e f g h = some (meetsv a b c d e f g h) := by
  unfold impl_Meets.f meetsv
  simp only [boxok_impl, Option.bind_some, meets_tail]
  cases okb a b c d <;> cases okb e f g h <;> simp

theorem pure_law (a b c d e f g h : Int) (w0 : (Lit.int .i64 a).wf = true) (w1 : (Lit.int .i64 b).wf = true) (w2 : (Lit.int .i64 c).wf = true) (w3 : (Lit.int .i64 d).wf = true) (w4 : (Lit.int .i64 e).wf = true) (w5 : (Lit.int .i64 f).wf = true) (w6 : (Lit.int .i64 g).wf = true) (w7 : (Lit.int .i64 h).wf = true) : laws_FnExactMeets.f a b c d e f g h = some true := by
  unfold laws_FnExactMeets.f
  simp [toBox_some, meets_spec, meets_impl]
end Go.Proofs.Ytdeffkhkhpjodaa.PureFnExactMeets
