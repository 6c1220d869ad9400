/- The pure statement of FnExactApart: how far two places of the curve lie apart is what the reference tells, for all numbers; no condition. -/
import Derived.Test.YtcjbjmbflonieaaPFnExactApartx1
import Derived.OpenShut
import Derived.Laws.BitsLemmas
namespace Go.Proofs.Ytcjbjmbflonieaa.PureFnExactApart
open Go.RowKit Go.Proofs.Ytcjbjmbflonieaa.PFnExactApart Go.Proofs.YtcjbjmbflonieaaW.PrintWords Go.Proofs.YtcjbjmbflonieaaW.PrintLast Go.Proofs.YtcjbjmbflonieaaW.PrintMore
set_option linter.unusedVariables false
set_option linter.unusedSimpArgs false

/-! ### wrap -/
theorem wr {n : Int} (h0 : -9223372036854775808 ≤ n) (h1 : n ≤ 9223372036854775807) : wrap64 n = n := by
  unfold wrap64; omega
theorem wf64 {n : Int} (h : (Lit.int .i64 n).wf = true) : -9223372036854775808 ≤ n ∧ n ≤ 9223372036854775807 := bounds_i64 h

/-! ### xor -/
theorem xor_nat (a b : Nat) (ha : a < 65536) (hb : b < 65536) : Go.bits .xor .i64 (a : Int) (b : Int) = ((a ^^^ b : Nat) : Int) := by
  have hp : 2 ^ IntKind.i64.bits = 18446744073709551616 := rfl
  have ha2 : a % 2 ^ IntKind.i64.bits = a := Nat.mod_eq_of_lt (by omega)
  have hb2 : b % 2 ^ IntKind.i64.bits = b := Nat.mod_eq_of_lt (by omega)
  have hx : a ^^^ b < 2 ^ 16 := Nat.xor_lt_two_pow (by omega) (by omega)
  simp only [Go.bits, BitVec.ofInt_natCast, BitVec.toNat_xor, BitVec.toNat_ofNat, ha2, hb2]
  rw [IntKind.wrap_i64]; omega
theorem xor_par (a r : Int) (h0 : 0 ≤ a) (h1 : a ≤ 65535) (hr : r = 0 ∨ r = 1) : Int.tmod (Go.bits .xor .i64 a r) 2 = (a + r) % 2 := by
  obtain ⟨n, rfl⟩ := Int.eq_ofNat_of_zero_le h0
  obtain ⟨m, rfl⟩ := Int.eq_ofNat_of_zero_le (show 0 ≤ r by omega)
  rw [xor_nat n m (by omega) (by omega), Int.tmod_eq_emod_of_nonneg (by omega)]
  have h2 : (n ^^^ m) % 2 = (n + m) % 2 := by
    have h3 := Nat.xor_mod_two_eq_one (a := n) (b := m)
    have h4 := Nat.mod_two_eq_zero_or_one (n ^^^ m)
    have h5 := Nat.mod_two_eq_zero_or_one n
    have h6 := Nat.mod_two_eq_zero_or_one m
    by_cases h7 : (n ^^^ m) % 2 = 1
    · rw [h7]; have := h3.1 h7; omega
    · have h8 : ¬ ¬ (n % 2 = 1 ↔ m % 2 = 1) := fun h => h7 (h3.2 h)
      have h9 := Classical.not_not.1 h8
      omega
  omega

/-! ### hilbert -/
def hstep (s d x y : Int) : Int × Int := if (d + d / 2 % 2) % 2 = 0 then (if d / 2 % 2 = 1 then (s - 1 - y + s, s - 1 - x) else (y, x)) else (x + s * (d / 2 % 2), y + s)
def hp : Nat → Int → Int → Int × Int
  | 0, _, _ => (0, 0)
  | n + 1, s, d => hstep (s / 2) (d / (s / 2 * (s / 2))) (hp n (s / 2) d).1 (hp n (s / 2) d).2
theorem hstep_bd (s d x y : Int) (hx0 : 0 ≤ x) (hx : x < s) (hy0 : 0 ≤ y) (hy : y < s) : 0 ≤ (hstep s d x y).1 ∧ (hstep s d x y).1 < 2 * s ∧ 0 ≤ (hstep s d x y).2 ∧ (hstep s d x y).2 < 2 * s := by
  unfold hstep
  have h : d / 2 % 2 = 0 ∨ d / 2 % 2 = 1 := by omega
  split
  · split
    · refine ⟨?_, ?_, ?_, ?_⟩ <;> simp only <;> omega
    · refine ⟨?_, ?_, ?_, ?_⟩ <;> simp only <;> omega
  · rcases h with h | h <;> rw [h] <;> refine ⟨?_, ?_, ?_, ?_⟩ <;> simp only <;> omega

/-! ### inn -/
theorem l1In_val (x a b : Int) : spec_l1In.f x a b = some (decide (a ≤ x ∧ x ≤ b)) := by
  unfold spec_l1In.f
  by_cases h : x ≥ a
  · rw [if_pos h]; simp [show a ≤ x from h]
  · rw [if_neg h]; simp [show ¬ a ≤ x from h]
theorem in_val (x a b : Int) : impl_in.f x a b = some (decide (a ≤ x ∧ x ≤ b)) := by
  unfold impl_in.f
  by_cases h : a ≤ x
  · rw [if_pos h]; simp [h]
  · rw [if_neg h]; simp [h]

/-! ### pointat -/
theorem pointat_l0 : ∀ (k : Nat) (a b c d : Int), spec_PointAt.l0 k a b c d = impl_PointAt.l0 k a b c d
  | 0, _, _, _, _ => rfl
  | k + 1, a, b, c, d => by simp only [spec_PointAt.l0, impl_PointAt.l0, pointat_l0 k, Int.mul_comm 2 d]
theorem pointat_same (k : Nat) (x : Int) : spec_PointAt.f k x = impl_PointAt.f k x := by
  unfold spec_PointAt.f impl_PointAt.f
  simp only [l1In_val, in_val, pointat_l0]
theorem pointat_step (k : Nat) (s t : Int) (h0 : s < 256) (hs : wrap64 (s * 2) = t) (ih : ∀ x y d, ∃ v, impl_PointAt.l0 k x y d t = some v) (x y d : Int) : ∃ v, impl_PointAt.l0 (k + 1) x y d s = some v := by
  simp only [impl_PointAt.l0]
  rw [if_pos h0, hs]
  split
  · split <;> exact ih _ _ _
  · exact ih _ _ _
theorem pointat_tot (k : Nat) (x y d : Int) : ∃ v, impl_PointAt.l0 (k + 9) x y d 1 = some v := by
  have e0 : ∀ x y d, ∃ v, impl_PointAt.l0 (k + 1) x y d 256 = some v := fun x y d => ⟨(y, d), by simp [impl_PointAt.l0]⟩
  have e1 := pointat_step (k + 1) 128 256 (by decide) (by unfold wrap64; rfl) e0
  have e2 := pointat_step (k + 2) 64 128 (by decide) (by unfold wrap64; rfl) e1
  have e3 := pointat_step (k + 3) 32 64 (by decide) (by unfold wrap64; rfl) e2
  have e4 := pointat_step (k + 4) 16 32 (by decide) (by unfold wrap64; rfl) e3
  have e5 := pointat_step (k + 5) 8 16 (by decide) (by unfold wrap64; rfl) e4
  have e6 := pointat_step (k + 6) 4 8 (by decide) (by unfold wrap64; rfl) e5
  have e7 := pointat_step (k + 7) 2 4 (by decide) (by unfold wrap64; rfl) e6
  exact pointat_step (k + 8) 1 2 (by decide) (by unfold wrap64; rfl) e7 x y d
theorem pointat_some (k : Nat) (x : Int) : ∃ v, impl_PointAt.f (k + 9) x = some v := by
  unfold impl_PointAt.f
  simp only [in_val, Option.bind_some]
  split
  · exact pointat_tot k _ _ _
  · exact ⟨_, rfl⟩

/-! ### pstep -/
theorem pstep (k : Nat) (d x y s : Int) (hd0 : 0 ≤ d) (hd : d ≤ 65535) (hx0 : 0 ≤ x) (hx : x < s) (hy0 : 0 ≤ y) (hy : y < s) (hs : s ≤ 128) :
    impl_PointAt.l0 (k + 1) d x y s = impl_PointAt.l0 k (d / 4) (hstep s d x y).1 (hstep s d x y).2 (s * 2) := by
  have e1 : Int.tmod (wrap64 (Int.tdiv d 2)) 2 = d / 2 % 2 := by
    rw [Int.tdiv_eq_ediv_of_nonneg hd0, wr (by omega) (by omega), Int.tmod_eq_emod_of_nonneg (by omega)]
  have hr : d / 2 % 2 = 0 ∨ d / 2 % 2 = 1 := by omega
  have e2 := xor_par d (d / 2 % 2) hd0 hd hr
  have e3 : wrap64 (Int.tdiv d 4) = d / 4 := by rw [Int.tdiv_eq_ediv_of_nonneg hd0, wr (by omega) (by omega)]
  simp only [impl_PointAt.l0, e1, e2, e3]
  rw [if_pos (by omega)]
  have e4 : wrap64 (s * 2) = s * 2 := wr (by omega) (by omega)
  rw [e4]
  have hq : (d + d / 2 % 2) % 2 = 0 ∨ (d + d / 2 % 2) % 2 = 1 := by omega
  unfold hstep
  rcases hq with hq | hq
  · rw [hq]
    simp only [if_true]
    rcases hr with hr | hr
    · rw [hr]
      simp only [Int.mul_zero]
      rw [if_neg (by omega), if_neg (by omega), wr (n := 0) (by omega) (by omega), wr (n := y + 0) (by omega) (by omega), wr (n := x + 0) (by omega) (by omega), Int.add_zero, Int.add_zero]
    · rw [hr]
      simp only [if_true, Int.mul_one, Int.mul_zero]
      rw [wr (n := 0) (by omega) (by omega), wr (n := s) (by omega) (by omega), wr (n := s - 1) (by omega) (by omega), wr (n := s - 1 - y) (by omega) (by omega), wr (n := s - 1 - x) (by omega) (by omega), wr (n := s - 1 - y + s) (by omega) (by omega), wr (n := s - 1 - x + 0) (by omega) (by omega), Int.add_zero]
  · rw [hq, if_neg (by omega), if_neg (by omega)]
    simp only [Int.mul_one]
    rcases hr with hr | hr
    · rw [hr]
      simp only [Int.mul_zero]
      rw [wr (n := 0) (by omega) (by omega), wr (n := s) (by omega) (by omega), wr (n := x + 0) (by omega) (by omega), wr (n := y + s) (by omega) (by omega)]
    · rw [hr]
      simp only [Int.mul_one]
      rw [wr (n := s) (by omega) (by omega), wr (n := x + s) (by omega) (by omega), wr (n := y + s) (by omega) (by omega)]
theorem pstep_bd (k : Nat) (d x y s t : Int) (hd0 : 0 ≤ d) (hd : d ≤ 65535) (hx0 : 0 ≤ x) (hx : x < s) (hy0 : 0 ≤ y) (hy : y < s) (hs : s ≤ 128) (ht : s * 2 = t)
    (ih : ∀ d x y : Int, 0 ≤ d → d ≤ 65535 → 0 ≤ x → x < t → 0 ≤ y → y < t → ∃ v : Int × Int, impl_PointAt.l0 k d x y t = some v ∧ 0 ≤ v.1 ∧ v.1 ≤ 255 ∧ 0 ≤ v.2 ∧ v.2 ≤ 255) :
    ∃ v : Int × Int, impl_PointAt.l0 (k + 1) d x y s = some v ∧ 0 ≤ v.1 ∧ v.1 ≤ 255 ∧ 0 ≤ v.2 ∧ v.2 ≤ 255 := by
  rw [pstep k d x y s hd0 hd hx0 hx hy0 hy hs, ht]
  have hb := hstep_bd s d x y hx0 hx hy0 hy
  exact ih _ _ _ (by omega) (by omega) hb.1 (by omega) hb.2.2.1 (by omega)
theorem pointat_bd (k : Nat) (d : Int) : ∃ v : Int × Int, impl_PointAt.f (k + 9) d = some v ∧ 0 ≤ v.1 ∧ v.1 ≤ 255 ∧ 0 ≤ v.2 ∧ v.2 ≤ 255 := by
  have e0 : ∀ d x y : Int, 0 ≤ d → d ≤ 65535 → 0 ≤ x → x < 256 → 0 ≤ y → y < 256 → ∃ v : Int × Int, impl_PointAt.l0 (k + 1) d x y 256 = some v ∧ 0 ≤ v.1 ∧ v.1 ≤ 255 ∧ 0 ≤ v.2 ∧ v.2 ≤ 255 :=
    fun d x y h0 h1 h2 h3 h4 h5 => ⟨(x, y), by simp [impl_PointAt.l0], h2, by simp only; omega, h4, by simp only; omega⟩
  have e1 := fun d x y h0 h1 h2 h3 h4 h5 => pstep_bd (k + 1) d x y 128 256 h0 h1 h2 h3 h4 h5 (by omega) rfl e0
  have e2 := fun d x y h0 h1 h2 h3 h4 h5 => pstep_bd (k + 2) d x y 64 128 h0 h1 h2 h3 h4 h5 (by omega) rfl e1
  have e3 := fun d x y h0 h1 h2 h3 h4 h5 => pstep_bd (k + 3) d x y 32 64 h0 h1 h2 h3 h4 h5 (by omega) rfl e2
  have e4 := fun d x y h0 h1 h2 h3 h4 h5 => pstep_bd (k + 4) d x y 16 32 h0 h1 h2 h3 h4 h5 (by omega) rfl e3
  have e5 := fun d x y h0 h1 h2 h3 h4 h5 => pstep_bd (k + 5) d x y 8 16 h0 h1 h2 h3 h4 h5 (by omega) rfl e4
  have e6 := fun d x y h0 h1 h2 h3 h4 h5 => pstep_bd (k + 6) d x y 4 8 h0 h1 h2 h3 h4 h5 (by omega) rfl e5
  have e7 := fun d x y h0 h1 h2 h3 h4 h5 => pstep_bd (k + 7) d x y 2 4 h0 h1 h2 h3 h4 h5 (by omega) rfl e6
  have e8 := fun d x y h0 h1 h2 h3 h4 h5 => pstep_bd (k + 8) d x y 1 2 h0 h1 h2 h3 h4 h5 (by omega) rfl e7
  unfold impl_PointAt.f
  simp only [in_val, Option.bind_some, decide_eq_true_eq]
  by_cases h : 0 ≤ d ∧ d ≤ 65535
  · rw [if_pos h]
    exact e8 d 0 0 h.1 h.2 (by omega) (by omega) (by omega) (by omega)
  · rw [if_neg h]
    exact ⟨(0, 0), rfl, by simp⟩

/-! ### minmax -/
theorem mn_le (a b : Int) : mn a b = if b < a then b else a := rfl
theorem mx_ge (a b : Int) : mx a b = if a < b then b else a := rfl

/-! ### apart -/
theorem gap_val (a b : Int) (ha0 : 0 ≤ a) (ha : a ≤ 255) (hb0 : 0 ≤ b) (hb : b ≤ 255) : spec_l3Gap.f a b = some (mx (wrap64 (a - b)) (wrap64 (b - a))) := by
  unfold spec_l3Gap.f mx
  rw [wr (n := a - b) (by omega) (by omega), wr (n := b - a) (by omega) (by omega)]
  by_cases h : a < b
  · rw [if_pos h, if_pos (by omega)]
  · rw [if_neg h, if_neg (by omega)]
theorem apart_both (k : Nat) (a b : Int) : ∃ v, spec_Apart.f (k + 9) a b = some v ∧ impl_Apart.f (k + 9) a b = some v := by
  obtain ⟨p, hp, p0, p1, p2, p3⟩ := pointat_bd k a
  obtain ⟨q, hq, q0, q1, q2, q3⟩ := pointat_bd k b
  unfold spec_Apart.f impl_Apart.f
  rw [pointat_same, pointat_same, hp, hq]
  simp only [Option.bind_some]
  rw [gap_val _ _ p0 p1 q0 q1, gap_val _ _ p2 p3 q2 q3]
  exact ⟨_, rfl, rfl⟩

theorem pure_law : laws_FnExactApart.Pure := by
  intro a b _ _
  refine ⟨9, ?_⟩
  unfold laws_FnExactApart.f
  obtain ⟨v, h1, h2⟩ := apart_both 0 a b
  rw [h1, h2]; simp
end Go.Proofs.Ytcjbjmbflonieaa.PureFnExactApart
namespace Go.Proofs.Ytcjbjmbflonieaa.Pure
theorem FnExactApart : Go.Proofs.Ytcjbjmbflonieaa.PFnExactApart.laws_FnExactApart.Pure := Go.Proofs.Ytcjbjmbflonieaa.PureFnExactApart.pure_law
end Go.Proofs.Ytcjbjmbflonieaa.Pure
