/- The pure statement of FnExactKeyOf: the place of a rectangle on the curve is what the reference tells, for all rectangles; no condition. -/
import Derived.Test.YtdeffkhkhpjodaaPFnExactKeyOfx1
namespace Go.Proofs.Ytdeffkhkhpjodaa.PureFnExactKeyOf
open Go.RowKit Go.Proofs.Ytdeffkhkhpjodaa.PFnExactKeyOf Go.Proofs.YtdeffkhkhpjodaaW.PrintWords Go.Proofs.YtdeffkhkhpjodaaW.PrintLast Go.Proofs.YtdeffkhkhpjodaaW.PrintMore
set_option linter.unusedVariables false
set_option linter.unusedSimpArgs false

/-! ### box -/
theorem toBox_some (a b c d : Int) : laws_toBox.f a b c d = some (a, b, c, d) := rfl

/-! ### inn -/
theorem l1In_val (x a b : Int) : spec_l1In.f x a b = some (decide (a ≤ x ∧ x ≤ b)) := by
  unfold spec_l1In.f
  by_cases h : x ≥ a
  · rw [if_pos h]; simp [show a ≤ x from h]
  · rw [if_neg h]; simp [show ¬ a ≤ x from h]
theorem in_val (x a b : Int) : impl_in.f x a b = some (decide (a ≤ x ∧ x ≤ b)) := by
  unfold impl_in.f
  by_cases h : a ≤ x
  · rw [if_pos h]; simp [h]
  · rw [if_neg h]; simp [h]

/-! ### along -/
theorem along_l0 : ∀ (k : Nat) (a b c d : Int), spec_Along.l0 k a b c d = impl_Along.l0 k a b c d
  | 0, _, _, _, _ => rfl
  | k + 1, a, b, c, d => by simp only [spec_Along.l0, impl_Along.l0, along_l0 k]
theorem along_same (k : Nat) (x y : Int) : spec_Along.f k x y = impl_Along.f k x y := by
  unfold spec_Along.f impl_Along.f
  simp only [l1In_val, in_val]
  cases k with
  | zero => rfl
  | succ k => simp only [spec_Along.j0, impl_Along.j0, along_l0]
theorem along_step (k : Nat) (s t : Int) (h0 : s > 0) (hs : wrap64 (Int.tdiv s 2) = t) (ih : ∀ x y d, ∃ v, impl_Along.l0 k x y d t = some v) (x y d : Int) : ∃ v, impl_Along.l0 (k + 1) x y d s = some v := by
  simp only [impl_Along.l0]
  rw [if_pos h0, if_neg (by omega), hs]
  split
  · split <;> exact ih _ _ _
  · exact ih _ _ _
theorem along_tot (k : Nat) (x y d : Int) : ∃ v, impl_Along.l0 (k + 9) x y d 128 = some v := by
  have e0 : ∀ x y d, ∃ v, impl_Along.l0 (k + 1) x y d 0 = some v := fun x y d => ⟨d, by simp [impl_Along.l0]⟩
  have e1 := along_step (k + 1) 1 0 (by decide) (by unfold wrap64; rfl) e0
  have e2 := along_step (k + 2) 2 1 (by decide) (by unfold wrap64; rfl) e1
  have e3 := along_step (k + 3) 4 2 (by decide) (by unfold wrap64; rfl) e2
  have e4 := along_step (k + 4) 8 4 (by decide) (by unfold wrap64; rfl) e3
  have e5 := along_step (k + 5) 16 8 (by decide) (by unfold wrap64; rfl) e4
  have e6 := along_step (k + 6) 32 16 (by decide) (by unfold wrap64; rfl) e5
  have e7 := along_step (k + 7) 64 32 (by decide) (by unfold wrap64; rfl) e6
  exact along_step (k + 8) 128 64 (by decide) (by unfold wrap64; rfl) e7 x y d
theorem along_some (k : Nat) (x y : Int) : ∃ v, impl_Along.f (k + 10) x y = some v := by
  unfold impl_Along.f
  simp only [in_val, Option.bind_some]
  split
  · simp only [impl_Along.j0]
    split
    · exact ⟨_, rfl⟩
    · exact along_tot k _ _ _
  · exact ⟨-1, by simp [impl_Along.j0]⟩

/-! ### middle -/
theorem middle_same (a b c d : Int) : spec_Middle.f a b c d = impl_Middle.f a b c d := rfl

/-! ### keyof -/
theorem keyof_same (k : Nat) (a b c d : Int) : spec_KeyOf.f k a b c d = impl_KeyOf.f k a b c d := by
  unfold spec_KeyOf.f impl_KeyOf.f
  simp only [middle_same, along_same]
theorem keyof_some (k : Nat) (a b c d : Int) : ∃ v, impl_KeyOf.f (k + 10) a b c d = some v := by
  unfold impl_KeyOf.f impl_Middle.f
  simp only [Option.bind_some]
  obtain ⟨v, hv⟩ := along_some k (wrap64 (Int.tdiv (wrap64 (a + c)) 2)) (wrap64 (Int.tdiv (wrap64 (b + d)) 2))
  exact ⟨v, by rw [hv]; rfl⟩

theorem pure_law (a b c d : Int) (w0 : (Lit.int .i64 a).wf = true) (w1 : (Lit.int .i64 b).wf = true) (w2 : (Lit.int .i64 c).wf = true) (w3 : (Lit.int .i64 d).wf = true) : ∃ k, laws_FnExactKeyOf.f k a b c d = some true := by
  refine ⟨10, ?_⟩
  unfold laws_FnExactKeyOf.f
  obtain ⟨v, hv⟩ := keyof_some 0 a b c d
  simp [toBox_some, keyof_same, hv]
end Go.Proofs.Ytdeffkhkhpjodaa.PureFnExactKeyOf
