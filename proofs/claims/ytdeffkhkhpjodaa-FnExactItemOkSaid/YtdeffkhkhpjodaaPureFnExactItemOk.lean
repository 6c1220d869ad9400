/- The pure statement of FnExactItemOk: whether an item is sound is what the reference tells, for all items; no condition. -/
import Derived.Test.YtdeffkhkhpjodaaPFnExactItemOkx1
namespace Go.Proofs.Ytdeffkhkhpjodaa.PureFnExactItemOk
open Go.RowKit Go.Proofs.Ytdeffkhkhpjodaa.PFnExactItemOk Go.Proofs.YtdeffkhkhpjodaaW.PrintWords Go.Proofs.YtdeffkhkhpjodaaW.PrintLast Go.Proofs.YtdeffkhkhpjodaaW.PrintMore
set_option linter.unusedVariables false
set_option linter.unusedSimpArgs false

/-! ### box -/
theorem toBox_some (a b c d : Int) : laws_toBox.f a b c d = some (a, b, c, d) := rfl

/-! ### item -/
theorem toItem_some (n a b c d : Int) : laws_toItem.f n a b c d = some (n, a, b, c, d) := rfl

/-! ### inn -/
theorem l1In_val (x a b : Int) : spec_l1In.f x a b = some (decide (a ≤ x ∧ x ≤ b)) := by
  unfold spec_l1In.f
  by_cases h : x ≥ a
  · rw [if_pos h]; simp [show a ≤ x from h]
  · rw [if_neg h]; simp [show ¬ a ≤ x from h]
theorem in_val (x a b : Int) : impl_in.f x a b = some (decide (a ≤ x ∧ x ≤ b)) := by
  unfold impl_in.f
  by_cases h : a ≤ x
  · rw [if_pos h]; simp [h]
  · rw [if_neg h]; simp [h]

/-! ### boxok -/
def okb (a b c d : Int) : Bool := decide (0 ≤ a ∧ a ≤ c ∧ c ≤ 255 ∧ 0 ≤ b ∧ b ≤ d ∧ d ≤ 255)
theorem okb_iff (a b c d : Int) : okb a b c d = true ↔ 0 ≤ a ∧ a ≤ c ∧ c ≤ 255 ∧ 0 ≤ b ∧ b ≤ d ∧ d ≤ 255 := by unfold okb; exact decide_eq_true_iff
theorem boxok_spec (a b c d : Int) : spec_BoxOk.f a b c d = some (okb a b c d) := by
  unfold spec_BoxOk.f
  simp only [l1In_val, Option.bind_some, okb, decide_eq_true_eq]
  by_cases h1 : 0 ≤ a ∧ a ≤ 255
  · rw [if_pos h1]
    by_cases h2 : 0 ≤ b ∧ b ≤ 255
    · rw [if_pos h2]
      by_cases h3 : a ≤ c ∧ c ≤ 255
      · rw [if_pos h3]; congr 1; apply decide_eq_decide.mpr; omega
      · rw [if_neg h3]; congr 1; symm; apply decide_eq_false; omega
    · rw [if_neg h2]; congr 1; symm; apply decide_eq_false; omega
  · rw [if_neg h1]; congr 1; symm; apply decide_eq_false; omega
theorem boxok_impl (a b c d : Int) : impl_BoxOk.f a b c d = some (okb a b c d) := by
  unfold impl_BoxOk.f
  simp only [in_val, Option.bind_some, okb, decide_eq_true_eq]
  by_cases h1 : 0 ≤ a ∧ a ≤ c
  · rw [if_pos h1]
    by_cases h2 : 0 ≤ c ∧ c ≤ 255
    · rw [if_pos h2]
      by_cases h3 : 0 ≤ b ∧ b ≤ d
      · rw [if_pos h3]; congr 1; apply decide_eq_decide.mpr; omega
      · rw [if_neg h3]; congr 1; symm; apply decide_eq_false; omega
    · rw [if_neg h2]; congr 1; symm; apply decide_eq_false; omega
  · rw [if_neg h1]; congr 1; symm; apply decide_eq_false; omega

/-! ### itemok -/
theorem itemok_spec (n a b c d : Int) : spec_ItemOk.f n a b c d = some (decide (1 ≤ n ∧ n ≤ 999) && okb a b c d) := by
  unfold spec_ItemOk.f
  simp only [l1In_val, boxok_spec, Option.bind_some]
  cases decide (1 ≤ n ∧ n ≤ 999) <;> simp
theorem itemok_impl (n a b c d : Int) : impl_ItemOk.f n a b c d = some (decide (1 ≤ n ∧ n ≤ 999) && okb a b c d) := by
  unfold impl_ItemOk.f
  simp only [in_val, boxok_impl, Option.bind_some]
  cases decide (1 ≤ n ∧ n ≤ 999) <;> simp

theorem pure_law (n a b c d : Int) (w : (Lit.int .i64 n).wf = true) (w0 : (Lit.int .i64 a).wf = true) (w1 : (Lit.int .i64 b).wf = true) (w2 : (Lit.int .i64 c).wf = true) (w3 : (Lit.int .i64 d).wf = true) : laws_FnExactItemOk.f n a b c d = some true := by
  unfold laws_FnExactItemOk.f
  simp [toItem_some, itemok_spec, itemok_impl]
end Go.Proofs.Ytdeffkhkhpjodaa.PureFnExactItemOk
