/- The pure statement of FnExactGrowth: the growth of a rectangle is what the reference tells, for all rectangles; no condition. -/
import Derived.Test.YtdeffkhkhpjodaaPFnExactGrowthx2
import Derived.OpenShut
namespace Go.Proofs.Ytdeffkhkhpjodaa.PureFnExactGrowth
open Go.RowKit Go.Proofs.Ytdeffkhkhpjodaa.PFnExactGrowth Go.Proofs.YtdeffkhkhpjodaaW.PrintWords Go.Proofs.YtdeffkhkhpjodaaW.PrintLast Go.Proofs.YtdeffkhkhpjodaaW.PrintMore
set_option linter.unusedVariables false
set_option linter.unusedSimpArgs false

/-! ### box -/
theorem toBox_some (a b c d : Int) : laws_toBox.f a b c d = some (a, b, c, d) := rfl

/-! ### minmax -/
theorem mn_le (a b : Int) : mn a b = if b < a then b else a := rfl
theorem mx_ge (a b : Int) : mx a b = if a < b then b else a := rfl

/-! ### least -/
theorem least_spec (a b : Int) : spec_Least.f a b = some (mn a b) := by
  unfold spec_Least.f mn; split <;> rfl

/-! ### most -/
theorem most_spec (a b : Int) : spec_Most.f a b = some (mx a b) := by
  unfold spec_Most.f mx
  by_cases h : a < b
  · rw [if_pos h, if_pos h]
  · rw [if_neg h, if_neg h]

/-! ### join -/
theorem join_spec (a b c d e f g h : Int) : spec_Join.f a b c d e f g h = some (mn a e, mn b f, mx c g, mx d h) := by
  unfold spec_Join.f
  simp only [least_spec, most_spec, Option.bind_some]
theorem join_impl (a b c d e f g h : Int) : impl_Join.f a b c d e f g h = some (mn a e, mn b f, mx c g, mx d h) := rfl

/-! ### inn -/
theorem l1In_val (x a b : Int) : spec_l1In.f x a b = some (decide (a ≤ x ∧ x ≤ b)) := by
  unfold spec_l1In.f
  by_cases h : x ≥ a
  · rw [if_pos h]; simp [show a ≤ x from h]
  · rw [if_neg h]; simp [show ¬ a ≤ x from h]
theorem in_val (x a b : Int) : impl_in.f x a b = some (decide (a ≤ x ∧ x ≤ b)) := by
  unfold impl_in.f
  by_cases h : a ≤ x
  · rw [if_pos h]; simp [h]
  · rw [if_neg h]; simp [h]

/-! ### boxok -/
def okb (a b c d : Int) : Bool := decide (0 ≤ a ∧ a ≤ c ∧ c ≤ 255 ∧ 0 ≤ b ∧ b ≤ d ∧ d ≤ 255)
theorem okb_iff (a b c d : Int) : okb a b c d = true ↔ 0 ≤ a ∧ a ≤ c ∧ c ≤ 255 ∧ 0 ≤ b ∧ b ≤ d ∧ d ≤ 255 := by unfold okb; exact decide_eq_true_iff
theorem boxok_spec (a b c d : Int) : spec_BoxOk.f a b c d = some (okb a b c d) := by
  unfold spec_BoxOk.f
  simp only [l1In_val, Option.bind_some, okb, decide_eq_true_eq]
  by_cases h1 : 0 ≤ a ∧ a ≤ 255
  · rw [if_pos h1]
    by_cases h2 : 0 ≤ b ∧ b ≤ 255
    · rw [if_pos h2]
      by_cases h3 : a ≤ c ∧ c ≤ 255
      · rw [if_pos h3]; congr 1; apply decide_eq_decide.mpr; omega
      · rw [if_neg h3]; congr 1; symm; apply decide_eq_false; omega
    · rw [if_neg h2]; congr 1; symm; apply decide_eq_false; omega
  · rw [if_neg h1]; congr 1; symm; apply decide_eq_false; omega
theorem boxok_impl (a b c d : Int) : impl_BoxOk.f a b c d = some (okb a b c d) := by
  unfold impl_BoxOk.f
  simp only [in_val, Option.bind_some, okb, decide_eq_true_eq]
  by_cases h1 : 0 ≤ a ∧ a ≤ c
  · rw [if_pos h1]
    by_cases h2 : 0 ≤ c ∧ c ≤ 255
    · rw [if_pos h2]
      by_cases h3 : 0 ≤ b ∧ b ≤ d
      · rw [if_pos h3]; congr 1; apply decide_eq_decide.mpr; omega
      · rw [if_neg h3]; congr 1; symm; apply decide_eq_false; omega
    · rw [if_neg h2]; congr 1; symm; apply decide_eq_false; omega
  · rw [if_neg h1]; congr 1; symm; apply decide_eq_false; omega

/-! ### wrap -/
theorem wr {n : Int} (h0 : -9223372036854775808 ≤ n) (h1 : n ≤ 9223372036854775807) : wrap64 n = n := by
  unfold wrap64; omega
theorem wf64 {n : Int} (h : (Lit.int .i64 n).wf = true) : -9223372036854775808 ≤ n ∧ n ≤ 9223372036854775807 := bounds_i64 h

/-! ### area -/
def areav (a b c d : Int) : Int := if okb a b c d = true then (c - a + 1) * (d - b + 1) else 0
theorem area_box {a b c d : Int} (h : okb a b c d = true) : 1 ≤ (c - a + 1) * (d - b + 1) ∧ (c - a + 1) * (d - b + 1) ≤ 65536 := by
  have := (okb_iff a b c d).1 h
  constructor
  · have : (1 : Int) * 1 ≤ (c - a + 1) * (d - b + 1) := Int.mul_le_mul (by omega) (by omega) (by omega) (by omega)
    omega
  · have : (c - a + 1) * (d - b + 1) ≤ 256 * 256 := Int.mul_le_mul (by omega) (by omega) (by omega) (by omega)
    omega
theorem area_wrap {a b c d : Int} (h : okb a b c d = true) : wrap64 ((wrap64 ((wrap64 (c - a)) + 1)) * (wrap64 ((wrap64 (d - b)) + 1))) = (c - a + 1) * (d - b + 1) := by
  have h1 := (okb_iff a b c d).1 h
  have h2 := area_box h
  rw [wr (n := c - a) (by omega) (by omega), wr (n := d - b) (by omega) (by omega), wr (n := c - a + 1) (by omega) (by omega), wr (n := d - b + 1) (by omega) (by omega), wr (by omega) (by omega)]
theorem area_spec (a b c d : Int) : spec_Area.f a b c d = some (areav a b c d) := by
  unfold spec_Area.f areav
  rw [boxok_spec]; simp only [Option.bind_some]
  by_cases h : okb a b c d = true
  · rw [if_pos h, if_pos h, area_wrap h]
  · rw [if_neg h, if_neg h]
theorem area_impl (a b c d : Int) : impl_Area.f a b c d = some (areav a b c d) := by
  unfold impl_Area.f areav
  rw [boxok_impl]; simp only [Option.bind_some]
  by_cases h : okb a b c d = true
  · rw [if_pos h, if_pos h, area_wrap h]
  · rw [if_neg h, if_neg h]

/-! ### growth -/
def growthv (a b c d e f g h : Int) : Int := wrap64 (areav (mn a e) (mn b f) (mx c g) (mx d h) - areav a b c d)
theorem growth_spec (a b c d e f g h : Int) : spec_Growth.f a b c d e f g h = some (growthv a b c d e f g h) := by
  unfold spec_Growth.f
  rw [join_spec]; simp only [Option.bind_some, area_spec]; rfl
theorem growth_impl (a b c d e f g h : Int) : impl_Growth.f a b c d e f g h = some (growthv a b c d e f g h) := by
  unfold impl_Growth.f
  rw [join_impl]; simp only [Option.bind_some, area_impl]; rfl

theorem pure_law (a b c d e f g h : Int) (w0 : (Lit.int .i64 a).wf = true) (w1 : (Lit.int .i64 b).wf = true) (w2 : (Lit.int .i64 c).wf = true) (w3 : (Lit.int .i64 d).wf = true) (w4 : (Lit.int .i64 e).wf = true) (w5 : (Lit.int .i64 f).wf = true) (w6 : (Lit.int .i64 g).wf = true) (w7 : (Lit.int .i64 h).wf = true) : laws_FnExactGrowth.f a b c d e f g h = some true := by
  unfold laws_FnExactGrowth.f
  simp [toBox_some, growth_spec, growth_impl]
end Go.Proofs.Ytdeffkhkhpjodaa.PureFnExactGrowth
