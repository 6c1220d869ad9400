/- The pure statement of FnExactUp: the quotient that is rounded up is what the reference tells, for all numbers; no condition. -/
import Derived.Test.YtbjhdcjhhonigaaPFnExactUpx1
import Derived.OpenShut
namespace Go.Proofs.Ytbjhdcjhhonigaa.PureFnExactUp
open Go.RowKit Go.Proofs.Ytbjhdcjhhonigaa.PFnExactUp Go.Proofs.YtbjhdcjhhonigaaW.PrintWords Go.Proofs.YtbjhdcjhhonigaaW.PrintLast Go.Proofs.YtbjhdcjhhonigaaW.PrintMore
set_option linter.unusedVariables false
set_option linter.unusedSimpArgs false

/-! ### wrap -/
theorem wr {n : Int} (h0 : -9223372036854775808 ≤ n) (h1 : n ≤ 9223372036854775807) : wrap64 n = n := by
  unfold wrap64; omega
theorem wf64 {n : Int} (h : (Lit.int .i64 n).wf = true) : -9223372036854775808 ≤ n ∧ n ≤ 9223372036854775807 := bounds_i64 h

/-! ### up -/
theorem up_div (a b : Int) (ha : 1 ≤ a) (hb : 1 ≤ b) : (a - 1) / b + 1 = if a % b > 0 then a / b + 1 else a / b := by
  have h1 := Int.emod_add_mul_ediv a b
  have h2 := Int.emod_nonneg a (show b ≠ 0 by omega)
  have h3 := Int.emod_lt_of_pos a (show 0 < b by omega)
  by_cases hr : a % b > 0
  · rw [if_pos hr]
    have := ((Int.ediv_emod_unique (a := a - 1) (b := b) (r := a % b - 1) (q := a / b) (by omega)).mpr ⟨by omega, by omega, by omega⟩).1
    rw [this]
  · rw [if_neg hr]
    have h4 : b * (a / b - 1) = b * (a / b) - b := by rw [Int.mul_sub, Int.mul_one]
    have := ((Int.ediv_emod_unique (a := a - 1) (b := b) (r := b - 1) (q := a / b - 1) (by omega)).mpr ⟨by omega, by omega, by omega⟩).1
    rw [this]; omega
theorem up_div_le (a b : Int) (ha : 0 ≤ a) (hb : 1 ≤ b) : 0 ≤ a / b ∧ a / b ≤ a := by
  refine ⟨Int.ediv_nonneg ha (by omega), Int.ediv_le_self _ ha⟩
def upv (a b : Int) : Int := if a < 1 then 0 else if b < 1 then 0 else (a - 1) / b + 1
theorem up_impl (a b : Int) (ha : (Lit.int .i64 a).wf = true) (hb : (Lit.int .i64 b).wf = true) : impl_Up.f a b = some (upv a b) := by
  have ha := wf64 ha; have hb := wf64 hb
  unfold impl_Up.f upv
  by_cases h1 : a < 1
  · rw [if_pos h1, if_pos h1]
  · rw [if_neg h1, if_neg h1]
    by_cases h2 : b < 1
    · rw [if_pos h2, if_pos h2]
    · rw [if_neg h2, if_neg h2, if_neg (by omega)]
      have hd := up_div_le (a - 1) b (by omega) (by omega)
      rw [wr (n := a - 1) (by omega) (by omega), Int.tdiv_eq_ediv_of_nonneg (by omega), wr (n := (a - 1) / b) (by omega) (by omega), wr (by omega) (by omega)]
theorem up_spec (k : Nat) (a b : Int) (ha : (Lit.int .i64 a).wf = true) (hb : (Lit.int .i64 b).wf = true) : spec_Up.f (k + 1) a b = some (upv a b) := by
  have ha := wf64 ha; have hb := wf64 hb
  unfold spec_Up.f upv
  by_cases h1 : a < 1
  · rw [if_pos h1, if_pos h1]; simp [spec_Up.j0]
  · rw [if_neg h1, if_neg h1]
    by_cases h2 : b < 1
    · rw [if_pos h2]; simp [spec_Up.j0, h2]
    · rw [if_neg h2]
      have hd := up_div_le a b (by omega) (by omega)
      have hu := up_div a b (by omega) (by omega)
      simp only [spec_Up.j0]
      rw [if_neg (by simpa using h2), if_neg (by omega), Int.tmod_eq_emod_of_nonneg (by omega), Int.tdiv_eq_ediv_of_nonneg (by omega), wr (n := a / b) (by omega) (by omega), hu]
      by_cases h3 : a % b > 0
      · have h4 := Int.emod_lt_of_pos a (show 0 < b by omega)
        have h5 : 1 < b := by omega
        have h6 := Int.ediv_lt_self_of_pos_of_ne_one (show 0 < a by omega) (show b ≠ 1 by omega)
        rw [if_pos h3, if_pos h3, wr (by omega) (by omega)]
      · rw [if_neg h3, if_neg h3]

theorem pure_law : laws_FnExactUp.Pure := by
  intro a b ha hb
  refine ⟨1, ?_⟩
  unfold laws_FnExactUp.f
  rw [up_spec 0 a b ha hb, up_impl a b ha hb]; simp
end Go.Proofs.Ytbjhdcjhhonigaa.PureFnExactUp
namespace Go.Proofs.Ytbjhdcjhhonigaa.Pure
theorem FnExactUp : Go.Proofs.Ytbjhdcjhhonigaa.PFnExactUp.laws_FnExactUp.Pure := Go.Proofs.Ytbjhdcjhhonigaa.PureFnExactUp.pure_law
end Go.Proofs.Ytbjhdcjhhonigaa.Pure
