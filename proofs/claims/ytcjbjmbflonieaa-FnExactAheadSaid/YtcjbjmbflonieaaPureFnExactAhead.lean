/- The pure statement of FnExactAhead: whether an item is ahead of another is what the reference tells, for all items; no condition. -/
import Derived.Test.YtcjbjmbflonieaaPFnExactAheadx2
import Derived.OpenShut
namespace Go.Proofs.Ytcjbjmbflonieaa.PureFnExactAhead
open Go.RowKit Go.Proofs.Ytcjbjmbflonieaa.PFnExactAhead Go.Proofs.YtcjbjmbflonieaaW.PrintWords Go.Proofs.YtcjbjmbflonieaaW.PrintLast Go.Proofs.YtcjbjmbflonieaaW.PrintMore
set_option linter.unusedVariables false
set_option linter.unusedSimpArgs false

/-! ### box -/
theorem toBox_some (a b c d : Int) : laws_toBox.f a b c d = some (a, b, c, d) := rfl

/-! ### item -/
theorem toItem_some (n a b c d : Int) : laws_toItem.f n a b c d = some (n, a, b, c, d) := rfl

/-! ### inn -/
theorem l1In_val (x a b : Int) : spec_l1In.f x a b = some (decide (a ≤ x ∧ x ≤ b)) := by
  unfold spec_l1In.f
  by_cases h : x ≥ a
  · rw [if_pos h]; simp [show a ≤ x from h]
  · rw [if_neg h]; simp [show ¬ a ≤ x from h]
theorem in_val (x a b : Int) : impl_in.f x a b = some (decide (a ≤ x ∧ x ≤ b)) := by
  unfold impl_in.f
  by_cases h : a ≤ x
  · rw [if_pos h]; simp [h]
  · rw [if_neg h]; simp [h]

/-! ### along -/
theorem along_l0 : ∀ (k : Nat) (a b c d : Int), spec_Along.l0 k a b c d = impl_Along.l0 k a b c d
  | 0, _, _, _, _ => rfl
  | k + 1, a, b, c, d => by simp only [spec_Along.l0, impl_Along.l0, along_l0 k]
theorem along_same (k : Nat) (x y : Int) : spec_Along.f k x y = impl_Along.f k x y := by
  unfold spec_Along.f impl_Along.f
  simp only [l1In_val, in_val]
  cases k with
  | zero => rfl
  | succ k => simp only [spec_Along.j0, impl_Along.j0, along_l0]
theorem along_step (k : Nat) (s t : Int) (h0 : s > 0) (hs : wrap64 (Int.tdiv s 2) = t) (ih : ∀ x y d, ∃ v, impl_Along.l0 k x y d t = some v) (x y d : Int) : ∃ v, impl_Along.l0 (k + 1) x y d s = some v := by
  simp only [impl_Along.l0]
  rw [if_pos h0, if_neg (by omega), hs]
  split
  · split <;> exact ih _ _ _
  · exact ih _ _ _
theorem along_tot (k : Nat) (x y d : Int) : ∃ v, impl_Along.l0 (k + 9) x y d 128 = some v := by
  have e0 : ∀ x y d, ∃ v, impl_Along.l0 (k + 1) x y d 0 = some v := fun x y d => ⟨d, by simp [impl_Along.l0]⟩
  have e1 := along_step (k + 1) 1 0 (by decide) (by unfold wrap64; rfl) e0
  have e2 := along_step (k + 2) 2 1 (by decide) (by unfold wrap64; rfl) e1
  have e3 := along_step (k + 3) 4 2 (by decide) (by unfold wrap64; rfl) e2
  have e4 := along_step (k + 4) 8 4 (by decide) (by unfold wrap64; rfl) e3
  have e5 := along_step (k + 5) 16 8 (by decide) (by unfold wrap64; rfl) e4
  have e6 := along_step (k + 6) 32 16 (by decide) (by unfold wrap64; rfl) e5
  have e7 := along_step (k + 7) 64 32 (by decide) (by unfold wrap64; rfl) e6
  exact along_step (k + 8) 128 64 (by decide) (by unfold wrap64; rfl) e7 x y d
theorem along_some (k : Nat) (x y : Int) : ∃ v, impl_Along.f (k + 10) x y = some v := by
  unfold impl_Along.f
  simp only [in_val, Option.bind_some]
  split
  · simp only [impl_Along.j0]
    split
    · exact ⟨_, rfl⟩
    · exact along_tot k _ _ _
  · exact ⟨-1, by simp [impl_Along.j0]⟩

/-! ### middle -/
theorem middle_same (a b c d : Int) : spec_Middle.f a b c d = impl_Middle.f a b c d := rfl

/-! ### keyof -/
theorem keyof_same (k : Nat) (a b c d : Int) : spec_KeyOf.f k a b c d = impl_KeyOf.f k a b c d := by
  unfold spec_KeyOf.f impl_KeyOf.f
  simp only [middle_same, along_same]
theorem keyof_some (k : Nat) (a b c d : Int) : ∃ v, impl_KeyOf.f (k + 10) a b c d = some v := by
  unfold impl_KeyOf.f impl_Middle.f
  simp only [Option.bind_some]
  obtain ⟨v, hv⟩ := along_some k (wrap64 (Int.tdiv (wrap64 (a + c)) 2)) (wrap64 (Int.tdiv (wrap64 (b + d)) 2))
  exact ⟨v, by rw [hv]; rfl⟩

/-! ### wrap -/
theorem wr {n : Int} (h0 : -9223372036854775808 ≤ n) (h1 : n ≤ 9223372036854775807) : wrap64 n = n := by
  unfold wrap64; omega
theorem wf64 {n : Int} (h : (Lit.int .i64 n).wf = true) : -9223372036854775808 ≤ n ∧ n ≤ 9223372036854775807 := bounds_i64 h

/-! ### order -/
theorem compare_val (a b : Int) : cmp_Compare_int.f a b = some (if a < b then -1 else if a > b then 1 else 0) := by
  unfold cmp_Compare_int.f cmp_isNaN_int.f
  simp only [Option.bind_some, bne_self_eq_false]
  by_cases h : a < b
  · simp [h]
  · by_cases h1 : a > b <;> simp [h, h1]
theorem or_val (k : Nat) (a b : Int) : cmp_Or_int.f (k + 3) [a, b] = some (if a = 0 then b else a) := by
  unfold cmp_Or_int.f
  have r0 : ∀ a b : Int, rd [a, b] 0 = a := fun _ _ => rfl
  have r1 : ∀ a b : Int, rd [a, b] 1 = b := fun _ _ => rfl
  have u0 : wrap64 1 = 1 := by unfold wrap64; rfl
  have u1 : wrap64 2 = 2 := by unfold wrap64; rfl
  by_cases h : a = 0
  · by_cases h1 : b = 0
    · simp [cmp_Or_int.l0, r0, r1, u0, u1, h, h1]
    · simp [cmp_Or_int.l0, r0, r1, u0, u1, h, h1]
  · simp [cmp_Or_int.l0, r0, r1, u0, u1, h]
def ordv (p q : Int) (n m : Int) : Int := if p < q then -1 else if p > q then 1 else if n < m then -1 else if n > m then 1 else 0
theorem order_val (k : Nat) (n a b c d m e f g h p q : Int) (hp : impl_KeyOf.f (k + 3) a b c d = some p) (hq : impl_KeyOf.f (k + 3) e f g h = some q) :
    impl_order.f (k + 3) n a b c d m e f g h = some (ordv p q n m) := by
  unfold impl_order.f
  rw [hp, hq]
  simp only [Option.bind_some, compare_val, or_val]
  unfold ordv
  by_cases h1 : p < q
  · simp [h1]
  · by_cases h2 : p > q
    · simp [h1, h2]
    · simp [h1, h2]
theorem ahead_both (k : Nat) (n a b c d m e f g h p q : Int) (hp : impl_KeyOf.f (k + 3) a b c d = some p) (hq : impl_KeyOf.f (k + 3) e f g h = some q) :
    impl_Ahead.f (k + 3) n a b c d m e f g h = some (decide (ordv p q n m < 0)) ∧ spec_Ahead.f (k + 3) n a b c d m e f g h = some (decide (ordv p q n m < 0)) := by
  refine ⟨?_, ?_⟩
  · unfold impl_Ahead.f
    rw [order_val k n a b c d m e f g h p q hp hq]; rfl
  · unfold spec_Ahead.f
    rw [keyof_same, keyof_same, hp, hq]
    simp only [Option.bind_some]
    unfold ordv
    by_cases h1 : p < q
    · simp [h1]
    · by_cases h2 : p > q
      · have h3 : ¬ p = q := by omega
        simp [h1, h2, h3]
      · have h3 : p = q := by omega
        subst h3
        by_cases h4 : n < m
        · simp [h4]
        · by_cases h5 : m < n <;> simp [h4, h5]

theorem pure_law (n a b c d m e f g h : Int) (w0 : (Lit.int .i64 n).wf = true) (w1 : (Lit.int .i64 a).wf = true) (w2 : (Lit.int .i64 b).wf = true) (w3 : (Lit.int .i64 c).wf = true) (w4 : (Lit.int .i64 d).wf = true)
    (w5 : (Lit.int .i64 m).wf = true) (w6 : (Lit.int .i64 e).wf = true) (w7 : (Lit.int .i64 f).wf = true) (w8 : (Lit.int .i64 g).wf = true) (w9 : (Lit.int .i64 h).wf = true) : ∃ k, laws_FnExactAhead.f k n a b c d m e f g h = some true := by
  refine ⟨10, ?_⟩
  unfold laws_FnExactAhead.f
  obtain ⟨p, hp⟩ := keyof_some 0 a b c d
  obtain ⟨q, hq⟩ := keyof_some 0 e f g h
  obtain ⟨h1, h2⟩ := ahead_both 7 n a b c d m e f g h p q hp hq
  have h1 : impl_Ahead.f 10 n a b c d m e f g h = some (decide (ordv p q n m < 0)) := h1
  have h2 : spec_Ahead.f 10 n a b c d m e f g h = some (decide (ordv p q n m < 0)) := h2
  simp only [toItem_some, Option.bind_some, h1, h2, bne_self_eq_false]
  simp
end Go.Proofs.Ytcjbjmbflonieaa.PureFnExactAhead
