/- The pure statement of FnCurves: each point has its place on the curve and each place its point, and what stands next on it is next to it, for all codes; condition: the list's length is a length. -/
import Derived.Test.YtjmgomailgplcaaPFnCurvesx4
import Derived.OpenShut
import Derived.Laws.BitsLemmas
namespace Go.Proofs.Ytjmgomailgplcaa.PureFnCurves
open Go.RowKit Go.Proofs.Ytjmgomailgplcaa.PFnCurves Go.Proofs.YtjmgomailgplcaaW.PrintWords Go.Proofs.YtjmgomailgplcaaW.PrintLast Go.Proofs.YtjmgomailgplcaaW.PrintMore
set_option linter.unusedVariables false
set_option linter.unusedSimpArgs false

/-! ### wrap -/
theorem wr {n : Int} (h0 : -9223372036854775808 ≤ n) (h1 : n ≤ 9223372036854775807) : wrap64 n = n := by
  unfold wrap64; omega
theorem wf64 {n : Int} (h : (Lit.int .i64 n).wf = true) : -9223372036854775808 ≤ n ∧ n ≤ 9223372036854775807 := bounds_i64 h

/-! ### xor -/
theorem xor_nat (a b : Nat) (ha : a < 65536) (hb : b < 65536) : Go.bits .xor .i64 (a : Int) (b : Int) = ((a ^^^ b : Nat) : Int) := by
  have hp : 2 ^ IntKind.i64.bits = 18446744073709551616 := rfl
  have ha2 : a % 2 ^ IntKind.i64.bits = a := Nat.mod_eq_of_lt (by omega)
  have hb2 : b % 2 ^ IntKind.i64.bits = b := Nat.mod_eq_of_lt (by omega)
  have hx : a ^^^ b < 2 ^ 16 := Nat.xor_lt_two_pow (by omega) (by omega)
  simp only [Go.bits, BitVec.ofInt_natCast, BitVec.toNat_xor, BitVec.toNat_ofNat, ha2, hb2]
  rw [IntKind.wrap_i64]; omega
theorem xor_par (a r : Int) (h0 : 0 ≤ a) (h1 : a ≤ 65535) (hr : r = 0 ∨ r = 1) : Int.tmod (Go.bits .xor .i64 a r) 2 = (a + r) % 2 := by
  obtain ⟨n, rfl⟩ := Int.eq_ofNat_of_zero_le h0
  obtain ⟨m, rfl⟩ := Int.eq_ofNat_of_zero_le (show 0 ≤ r by omega)
  rw [xor_nat n m (by omega) (by omega), Int.tmod_eq_emod_of_nonneg (by omega)]
  have h2 : (n ^^^ m) % 2 = (n + m) % 2 := by
    have h3 := Nat.xor_mod_two_eq_one (a := n) (b := m)
    have h4 := Nat.mod_two_eq_zero_or_one (n ^^^ m)
    have h5 := Nat.mod_two_eq_zero_or_one n
    have h6 := Nat.mod_two_eq_zero_or_one m
    by_cases h7 : (n ^^^ m) % 2 = 1
    · rw [h7]; have := h3.1 h7; omega
    · have h8 : ¬ ¬ (n % 2 = 1 ↔ m % 2 = 1) := fun h => h7 (h3.2 h)
      have h9 := Classical.not_not.1 h8
      omega
  omega

/-! ### hilbert -/
def hstep (s d x y : Int) : Int × Int := if (d + d / 2 % 2) % 2 = 0 then (if d / 2 % 2 = 1 then (s - 1 - y + s, s - 1 - x) else (y, x)) else (x + s * (d / 2 % 2), y + s)
def hp : Nat → Int → Int → Int × Int
  | 0, _, _ => (0, 0)
  | n + 1, s, d => hstep (s / 2) (d / (s / 2 * (s / 2))) (hp n (s / 2) d).1 (hp n (s / 2) d).2
theorem hstep_bd (s d x y : Int) (hx0 : 0 ≤ x) (hx : x < s) (hy0 : 0 ≤ y) (hy : y < s) : 0 ≤ (hstep s d x y).1 ∧ (hstep s d x y).1 < 2 * s ∧ 0 ≤ (hstep s d x y).2 ∧ (hstep s d x y).2 < 2 * s := by
  unfold hstep
  have h : d / 2 % 2 = 0 ∨ d / 2 % 2 = 1 := by omega
  split
  · split
    · refine ⟨?_, ?_, ?_, ?_⟩ <;> simp only <;> omega
    · refine ⟨?_, ?_, ?_, ?_⟩ <;> simp only <;> omega
  · rcases h with h | h <;> rw [h] <;> refine ⟨?_, ?_, ?_, ?_⟩ <;> simp only <;> omega

/-! ### inn -/
theorem l1In_val (x a b : Int) : spec_l1In.f x a b = some (decide (a ≤ x ∧ x ≤ b)) := by
  unfold spec_l1In.f
  by_cases h : x ≥ a
  · rw [if_pos h]; simp [show a ≤ x from h]
  · rw [if_neg h]; simp [show ¬ a ≤ x from h]
theorem in_val (x a b : Int) : impl_in.f x a b = some (decide (a ≤ x ∧ x ≤ b)) := by
  unfold impl_in.f
  by_cases h : a ≤ x
  · rw [if_pos h]; simp [h]
  · rw [if_neg h]; simp [h]

/-! ### pointat -/
theorem pointat_l0 : ∀ (k : Nat) (a b c d : Int), spec_PointAt.l0 k a b c d = impl_PointAt.l0 k a b c d
  | 0, _, _, _, _ => rfl
  | k + 1, a, b, c, d => by simp only [spec_PointAt.l0, impl_PointAt.l0, pointat_l0 k, Int.mul_comm 2 d]
theorem pointat_same (k : Nat) (x : Int) : spec_PointAt.f k x = impl_PointAt.f k x := by
  unfold spec_PointAt.f impl_PointAt.f
  simp only [l1In_val, in_val, pointat_l0]
theorem pointat_step (k : Nat) (s t : Int) (h0 : s < 256) (hs : wrap64 (s * 2) = t) (ih : ∀ x y d, ∃ v, impl_PointAt.l0 k x y d t = some v) (x y d : Int) : ∃ v, impl_PointAt.l0 (k + 1) x y d s = some v := by
  simp only [impl_PointAt.l0]
  rw [if_pos h0, hs]
  split
  · split <;> exact ih _ _ _
  · exact ih _ _ _
theorem pointat_tot (k : Nat) (x y d : Int) : ∃ v, impl_PointAt.l0 (k + 9) x y d 1 = some v := by
  have e0 : ∀ x y d, ∃ v, impl_PointAt.l0 (k + 1) x y d 256 = some v := fun x y d => ⟨(y, d), by simp [impl_PointAt.l0]⟩
  have e1 := pointat_step (k + 1) 128 256 (by decide) (by unfold wrap64; rfl) e0
  have e2 := pointat_step (k + 2) 64 128 (by decide) (by unfold wrap64; rfl) e1
  have e3 := pointat_step (k + 3) 32 64 (by decide) (by unfold wrap64; rfl) e2
  have e4 := pointat_step (k + 4) 16 32 (by decide) (by unfold wrap64; rfl) e3
  have e5 := pointat_step (k + 5) 8 16 (by decide) (by unfold wrap64; rfl) e4
  have e6 := pointat_step (k + 6) 4 8 (by decide) (by unfold wrap64; rfl) e5
  have e7 := pointat_step (k + 7) 2 4 (by decide) (by unfold wrap64; rfl) e6
  exact pointat_step (k + 8) 1 2 (by decide) (by unfold wrap64; rfl) e7 x y d
theorem pointat_some (k : Nat) (x : Int) : ∃ v, impl_PointAt.f (k + 9) x = some v := by
  unfold impl_PointAt.f
  simp only [in_val, Option.bind_some]
  split
  · exact pointat_tot k _ _ _
  · exact ⟨_, rfl⟩

/-! ### pstep -/
theorem pstep (k : Nat) (d x y s : Int) (hd0 : 0 ≤ d) (hd : d ≤ 65535) (hx0 : 0 ≤ x) (hx : x < s) (hy0 : 0 ≤ y) (hy : y < s) (hs : s ≤ 128) :
    impl_PointAt.l0 (k + 1) d x y s = impl_PointAt.l0 k (d / 4) (hstep s d x y).1 (hstep s d x y).2 (s * 2) := by
  have e1 : Int.tmod (wrap64 (Int.tdiv d 2)) 2 = d / 2 % 2 := by
    rw [Int.tdiv_eq_ediv_of_nonneg hd0, wr (by omega) (by omega), Int.tmod_eq_emod_of_nonneg (by omega)]
  have hr : d / 2 % 2 = 0 ∨ d / 2 % 2 = 1 := by omega
  have e2 := xor_par d (d / 2 % 2) hd0 hd hr
  have e3 : wrap64 (Int.tdiv d 4) = d / 4 := by rw [Int.tdiv_eq_ediv_of_nonneg hd0, wr (by omega) (by omega)]
  simp only [impl_PointAt.l0, e1, e2, e3]
  rw [if_pos (by omega)]
  have e4 : wrap64 (s * 2) = s * 2 := wr (by omega) (by omega)
  rw [e4]
  have hq : (d + d / 2 % 2) % 2 = 0 ∨ (d + d / 2 % 2) % 2 = 1 := by omega
  unfold hstep
  rcases hq with hq | hq
  · rw [hq]
    simp only [if_true]
    rcases hr with hr | hr
    · rw [hr]
      simp only [Int.mul_zero]
      rw [if_neg (by omega), if_neg (by omega), wr (n := 0) (by omega) (by omega), wr (n := y + 0) (by omega) (by omega), wr (n := x + 0) (by omega) (by omega), Int.add_zero, Int.add_zero]
    · rw [hr]
      simp only [if_true, Int.mul_one, Int.mul_zero]
      rw [wr (n := 0) (by omega) (by omega), wr (n := s) (by omega) (by omega), wr (n := s - 1) (by omega) (by omega), wr (n := s - 1 - y) (by omega) (by omega), wr (n := s - 1 - x) (by omega) (by omega), wr (n := s - 1 - y + s) (by omega) (by omega), wr (n := s - 1 - x + 0) (by omega) (by omega), Int.add_zero]
  · rw [hq, if_neg (by omega), if_neg (by omega)]
    simp only [Int.mul_one]
    rcases hr with hr | hr
    · rw [hr]
      simp only [Int.mul_zero]
      rw [wr (n := 0) (by omega) (by omega), wr (n := s) (by omega) (by omega), wr (n := x + 0) (by omega) (by omega), wr (n := y + s) (by omega) (by omega)]
    · rw [hr]
      simp only [Int.mul_one]
      rw [wr (n := s) (by omega) (by omega), wr (n := x + s) (by omega) (by omega), wr (n := y + s) (by omega) (by omega)]
theorem pstep_bd (k : Nat) (d x y s t : Int) (hd0 : 0 ≤ d) (hd : d ≤ 65535) (hx0 : 0 ≤ x) (hx : x < s) (hy0 : 0 ≤ y) (hy : y < s) (hs : s ≤ 128) (ht : s * 2 = t)
    (ih : ∀ d x y : Int, 0 ≤ d → d ≤ 65535 → 0 ≤ x → x < t → 0 ≤ y → y < t → ∃ v : Int × Int, impl_PointAt.l0 k d x y t = some v ∧ 0 ≤ v.1 ∧ v.1 ≤ 255 ∧ 0 ≤ v.2 ∧ v.2 ≤ 255) :
    ∃ v : Int × Int, impl_PointAt.l0 (k + 1) d x y s = some v ∧ 0 ≤ v.1 ∧ v.1 ≤ 255 ∧ 0 ≤ v.2 ∧ v.2 ≤ 255 := by
  rw [pstep k d x y s hd0 hd hx0 hx hy0 hy hs, ht]
  have hb := hstep_bd s d x y hx0 hx hy0 hy
  exact ih _ _ _ (by omega) (by omega) hb.1 (by omega) hb.2.2.1 (by omega)
theorem pointat_bd (k : Nat) (d : Int) : ∃ v : Int × Int, impl_PointAt.f (k + 9) d = some v ∧ 0 ≤ v.1 ∧ v.1 ≤ 255 ∧ 0 ≤ v.2 ∧ v.2 ≤ 255 := by
  have e0 : ∀ d x y : Int, 0 ≤ d → d ≤ 65535 → 0 ≤ x → x < 256 → 0 ≤ y → y < 256 → ∃ v : Int × Int, impl_PointAt.l0 (k + 1) d x y 256 = some v ∧ 0 ≤ v.1 ∧ v.1 ≤ 255 ∧ 0 ≤ v.2 ∧ v.2 ≤ 255 :=
    fun d x y h0 h1 h2 h3 h4 h5 => ⟨(x, y), by simp [impl_PointAt.l0], h2, by simp only; omega, h4, by simp only; omega⟩
  have e1 := fun d x y h0 h1 h2 h3 h4 h5 => pstep_bd (k + 1) d x y 128 256 h0 h1 h2 h3 h4 h5 (by omega) rfl e0
  have e2 := fun d x y h0 h1 h2 h3 h4 h5 => pstep_bd (k + 2) d x y 64 128 h0 h1 h2 h3 h4 h5 (by omega) rfl e1
  have e3 := fun d x y h0 h1 h2 h3 h4 h5 => pstep_bd (k + 3) d x y 32 64 h0 h1 h2 h3 h4 h5 (by omega) rfl e2
  have e4 := fun d x y h0 h1 h2 h3 h4 h5 => pstep_bd (k + 4) d x y 16 32 h0 h1 h2 h3 h4 h5 (by omega) rfl e3
  have e5 := fun d x y h0 h1 h2 h3 h4 h5 => pstep_bd (k + 5) d x y 8 16 h0 h1 h2 h3 h4 h5 (by omega) rfl e4
  have e6 := fun d x y h0 h1 h2 h3 h4 h5 => pstep_bd (k + 6) d x y 4 8 h0 h1 h2 h3 h4 h5 (by omega) rfl e5
  have e7 := fun d x y h0 h1 h2 h3 h4 h5 => pstep_bd (k + 7) d x y 2 4 h0 h1 h2 h3 h4 h5 (by omega) rfl e6
  have e8 := fun d x y h0 h1 h2 h3 h4 h5 => pstep_bd (k + 8) d x y 1 2 h0 h1 h2 h3 h4 h5 (by omega) rfl e7
  unfold impl_PointAt.f
  simp only [in_val, Option.bind_some, decide_eq_true_eq]
  by_cases h : 0 ≤ d ∧ d ≤ 65535
  · rw [if_pos h]
    exact e8 d 0 0 h.1 h.2 (by omega) (by omega) (by omega) (by omega)
  · rw [if_neg h]
    exact ⟨(0, 0), rfl, by simp⟩

/-! ### along -/
theorem along_l0 : ∀ (k : Nat) (a b c d : Int), spec_Along.l0 k a b c d = impl_Along.l0 k a b c d
  | 0, _, _, _, _ => rfl
  | k + 1, a, b, c, d => by simp only [spec_Along.l0, impl_Along.l0, along_l0 k]
theorem along_same (k : Nat) (x y : Int) : spec_Along.f k x y = impl_Along.f k x y := by
  unfold spec_Along.f impl_Along.f
  simp only [l1In_val, in_val]
  cases k with
  | zero => rfl
  | succ k => simp only [spec_Along.j0, impl_Along.j0, along_l0]
theorem along_step (k : Nat) (s t : Int) (h0 : s > 0) (hs : wrap64 (Int.tdiv s 2) = t) (ih : ∀ x y d, ∃ v, impl_Along.l0 k x y d t = some v) (x y d : Int) : ∃ v, impl_Along.l0 (k + 1) x y d s = some v := by
  simp only [impl_Along.l0]
  rw [if_pos h0, if_neg (by omega), hs]
  split
  · split <;> exact ih _ _ _
  · exact ih _ _ _
theorem along_tot (k : Nat) (x y d : Int) : ∃ v, impl_Along.l0 (k + 9) x y d 128 = some v := by
  have e0 : ∀ x y d, ∃ v, impl_Along.l0 (k + 1) x y d 0 = some v := fun x y d => ⟨d, by simp [impl_Along.l0]⟩
  have e1 := along_step (k + 1) 1 0 (by decide) (by unfold wrap64; rfl) e0
  have e2 := along_step (k + 2) 2 1 (by decide) (by unfold wrap64; rfl) e1
  have e3 := along_step (k + 3) 4 2 (by decide) (by unfold wrap64; rfl) e2
  have e4 := along_step (k + 4) 8 4 (by decide) (by unfold wrap64; rfl) e3
  have e5 := along_step (k + 5) 16 8 (by decide) (by unfold wrap64; rfl) e4
  have e6 := along_step (k + 6) 32 16 (by decide) (by unfold wrap64; rfl) e5
  have e7 := along_step (k + 7) 64 32 (by decide) (by unfold wrap64; rfl) e6
  exact along_step (k + 8) 128 64 (by decide) (by unfold wrap64; rfl) e7 x y d
theorem along_some (k : Nat) (x y : Int) : ∃ v, impl_Along.f (k + 10) x y = some v := by
  unfold impl_Along.f
  simp only [in_val, Option.bind_some]
  split
  · simp only [impl_Along.j0]
    split
    · exact ⟨_, rfl⟩
    · exact along_tot k _ _ _
  · exact ⟨-1, by simp [impl_Along.j0]⟩

/-! ### curve -/
def pw : Nat → Int
  | 0 => 1
  | n + 1 => pw n * 2
def qw : Nat → Int
  | 0 => 1
  | n + 1 => qw n * 4
/-- A scale of the curve: a side and the number of its places. -/
def PQ (s q : Int) : Prop := (s = 1 ∧ q = 1) ∨ (s = 2 ∧ q = 4) ∨ (s = 4 ∧ q = 16) ∨ (s = 8 ∧ q = 64) ∨ (s = 16 ∧ q = 256) ∨ (s = 32 ∧ q = 1024) ∨ (s = 64 ∧ q = 4096) ∨ (s = 128 ∧ q = 16384)
theorem pq_of : ∀ n : Nat, n ≤ 7 → PQ (pw n) (qw n)
  | 0, _ => by unfold PQ pw qw; omega
  | 1, _ => by unfold PQ; simp [pw, qw]
  | 2, _ => by unfold PQ; simp [pw, qw]
  | 3, _ => by unfold PQ; simp [pw, qw]
  | 4, _ => by unfold PQ; simp [pw, qw]
  | 5, _ => by unfold PQ; simp [pw, qw]
  | 6, _ => by unfold PQ; simp [pw, qw]
  | 7, _ => by unfold PQ; simp [pw, qw]
  | n + 8, h => by omega
theorem pq_low {s q x a : Int} (h : PQ s q) (hx : x % (s * 2) = a) (ha0 : 0 ≤ a) (ha : a < s) : x / s % 2 = 0 ∧ x % s = a := by
  unfold PQ at h
  rcases h with ⟨rfl, rfl⟩ | ⟨rfl, rfl⟩ | ⟨rfl, rfl⟩ | ⟨rfl, rfl⟩ | ⟨rfl, rfl⟩ | ⟨rfl, rfl⟩ | ⟨rfl, rfl⟩ | ⟨rfl, rfl⟩ <;> omega
theorem pq_high {s q x a : Int} (h : PQ s q) (hx : x % (s * 2) = a + s) (ha0 : 0 ≤ a) (ha : a < s) : x / s % 2 = 1 ∧ x % s = a := by
  unfold PQ at h
  rcases h with ⟨rfl, rfl⟩ | ⟨rfl, rfl⟩ | ⟨rfl, rfl⟩ | ⟨rfl, rfl⟩ | ⟨rfl, rfl⟩ | ⟨rfl, rfl⟩ | ⟨rfl, rfl⟩ | ⟨rfl, rfl⟩ <;> omega
theorem pq_comp {s q : Int} (h : PQ s q) (x : Int) : (255 - x) % s = s - 1 - x % s := by
  unfold PQ at h
  rcases h with ⟨rfl, rfl⟩ | ⟨rfl, rfl⟩ | ⟨rfl, rfl⟩ | ⟨rfl, rfl⟩ | ⟨rfl, rfl⟩ | ⟨rfl, rfl⟩ | ⟨rfl, rfl⟩ | ⟨rfl, rfl⟩ <;> omega
theorem pq_mod {s q : Int} (h : PQ s q) (x : Int) : 0 ≤ x % s ∧ x % s < s ∧ 0 < s ∧ s ≤ 128 := by
  unfold PQ at h
  rcases h with ⟨rfl, rfl⟩ | ⟨rfl, rfl⟩ | ⟨rfl, rfl⟩ | ⟨rfl, rfl⟩ | ⟨rfl, rfl⟩ | ⟨rfl, rfl⟩ | ⟨rfl, rfl⟩ | ⟨rfl, rfl⟩ <;> omega
theorem pq_split {s q : Int} (h : PQ s q) (x : Int) : x % (s * 2) = (if x / s % 2 = 1 then x % s + s else x % s) := by
  unfold PQ at h
  rcases h with ⟨rfl, rfl⟩ | ⟨rfl, rfl⟩ | ⟨rfl, rfl⟩ | ⟨rfl, rfl⟩ | ⟨rfl, rfl⟩ | ⟨rfl, rfl⟩ | ⟨rfl, rfl⟩ | ⟨rfl, rfl⟩ <;> split <;> omega
theorem pq_digit {s q : Int} (h : PQ s q) (d g : Int) (hg : d / q % 4 = g) : d % (q * 4) = q * g + d % q := by
  unfold PQ at h
  subst hg
  rcases h with ⟨rfl, rfl⟩ | ⟨rfl, rfl⟩ | ⟨rfl, rfl⟩ | ⟨rfl, rfl⟩ | ⟨rfl, rfl⟩ | ⟨rfl, rfl⟩ | ⟨rfl, rfl⟩ | ⟨rfl, rfl⟩ <;> omega
theorem pq_undigit {s q d g r : Int} (h : PQ s q) (hd : d % (q * 4) = q * g + r) (hg : g = 0 ∨ g = 1 ∨ g = 2 ∨ g = 3) (hr0 : 0 ≤ r) (hr : r < q) : d / q % 4 = g ∧ d % q = r := by
  unfold PQ at h
  rcases h with ⟨rfl, rfl⟩ | ⟨rfl, rfl⟩ | ⟨rfl, rfl⟩ | ⟨rfl, rfl⟩ | ⟨rfl, rfl⟩ | ⟨rfl, rfl⟩ | ⟨rfl, rfl⟩ | ⟨rfl, rfl⟩ <;> rcases hg with rfl | rfl | rfl | rfl <;> omega
theorem pq_last {s q d : Int} (h : PQ s q) (hd : d % (q * 4) = q * 4 - 1) : d / q % 4 = 3 ∧ d % q = q - 1 := by
  unfold PQ at h
  rcases h with ⟨rfl, rfl⟩ | ⟨rfl, rfl⟩ | ⟨rfl, rfl⟩ | ⟨rfl, rfl⟩ | ⟨rfl, rfl⟩ | ⟨rfl, rfl⟩ | ⟨rfl, rfl⟩ | ⟨rfl, rfl⟩ <;> omega
theorem pq_next {s q d : Int} (h : PQ s q) (hd : d % q ≠ q - 1) : (d + 1) / q = d / q := by
  unfold PQ at h
  rcases h with ⟨rfl, rfl⟩ | ⟨rfl, rfl⟩ | ⟨rfl, rfl⟩ | ⟨rfl, rfl⟩ | ⟨rfl, rfl⟩ | ⟨rfl, rfl⟩ | ⟨rfl, rfl⟩ | ⟨rfl, rfl⟩ <;> omega
theorem pq_carry {s q d : Int} (h : PQ s q) (hd : d % q = q - 1) : (d + 1) / q = d / q + 1 ∧ (d + 1) % q = 0 := by
  unfold PQ at h
  rcases h with ⟨rfl, rfl⟩ | ⟨rfl, rfl⟩ | ⟨rfl, rfl⟩ | ⟨rfl, rfl⟩ | ⟨rfl, rfl⟩ | ⟨rfl, rfl⟩ | ⟨rfl, rfl⟩ | ⟨rfl, rfl⟩ <;> omega
theorem pq_notlast {s q d : Int} (h : PQ s q) (hd : d % (q * 4) ≠ q * 4 - 1) (hq : d % q = q - 1) : d / q % 4 ≠ 3 := by
  unfold PQ at h
  rcases h with ⟨rfl, rfl⟩ | ⟨rfl, rfl⟩ | ⟨rfl, rfl⟩ | ⟨rfl, rfl⟩ | ⟨rfl, rfl⟩ | ⟨rfl, rfl⟩ | ⟨rfl, rfl⟩ | ⟨rfl, rfl⟩ <;> omega
theorem pq_pos {s q : Int} (h : PQ s q) : 0 < q ∧ q ≤ 16384 ∧ 0 < s ∧ s ≤ 128 := by
  unfold PQ at h
  rcases h with ⟨rfl, rfl⟩ | ⟨rfl, rfl⟩ | ⟨rfl, rfl⟩ | ⟨rfl, rfl⟩ | ⟨rfl, rfl⟩ | ⟨rfl, rfl⟩ | ⟨rfl, rfl⟩ | ⟨rfl, rfl⟩ <;> omega
/-- The point at a place, by its digits. -/
def hP : Nat → Int → Int × Int
  | 0, _ => (0, 0)
  | n + 1, d => hstep (pw n) (d / qw n) (hP n d).1 (hP n d).2
theorem hP_bd (d : Int) : ∀ n : Nat, n ≤ 8 → 0 ≤ (hP n d).1 ∧ (hP n d).1 < pw n ∧ 0 ≤ (hP n d).2 ∧ (hP n d).2 < pw n
  | 0, _ => by simp [hP, pw]
  | n + 1, h => by
    obtain ⟨a, b, c, e⟩ := hP_bd d n (by omega)
    have := hstep_bd (pw n) (d / qw n) _ _ a b c e
    simp only [hP, pw]
    omega
theorem pointat_hP (k : Nat) (d : Int) (h0 : 0 ≤ d) (h1 : d ≤ 65535) : ∀ (m j : Nat), j + m = 8 → impl_PointAt.l0 (k + 1 + m) (d / qw j) (hP j d).1 (hP j d).2 (pw j) = some (hP 8 d)
  | 0, j, hj => by
    obtain rfl : j = 8 := by omega
    simp only [Nat.add_zero, impl_PointAt.l0]
    rw [if_neg (by simp [pw])]
  | m + 1, j, hj => by
    have hq := pq_of j (by omega)
    have hp := pq_pos hq
    have hb := hP_bd d j (by omega)
    have hd0 : 0 ≤ d / qw j := Int.ediv_nonneg h0 (by omega)
    have hd1 : d / qw j ≤ 65535 := Int.le_trans (Int.ediv_le_self _ h0) h1
    rw [show k + 1 + (m + 1) = (k + 1 + m) + 1 by omega, pstep (k + 1 + m) (d / qw j) _ _ (pw j) hd0 hd1 hb.1 hb.2.1 hb.2.2.1 hb.2.2.2 hp.2.2.2]
    have := pointat_hP k d h0 h1 m (j + 1) (by omega)
    rw [← this]
    simp only [hP, pw, qw]
    rw [Int.ediv_ediv_of_nonneg (by omega)]
theorem pointat_val (k : Nat) (d : Int) (h0 : 0 ≤ d) (h1 : d ≤ 65535) : impl_PointAt.f (k + 9) d = some (hP 8 d) := by
  unfold impl_PointAt.f
  simp only [in_val, Option.bind_some, decide_eq_true_eq]
  rw [if_pos ⟨h0, h1⟩]
  have := pointat_hP k d h0 h1 8 0 rfl
  rw [show d / qw 0 = d from Int.ediv_one d] at this
  rw [show k + 9 = k + 1 + 8 by omega]
  exact this
def dig (rx ry : Int) : Int := if ry = 0 then 3 * rx else 1 + rx
/-- The place of a point, by its digits. -/
def hA : Nat → Int → Int → Int
  | 0, _, _ => 0
  | n + 1, x, y => qw n * dig (x / pw n % 2) (y / pw n % 2) + (if y / pw n % 2 = 0 then (if x / pw n % 2 = 1 then hA n (255 - y) (255 - x) else hA n y x) else hA n x y)
theorem dig_bd (rx ry : Int) (hx : rx = 0 ∨ rx = 1) (hy : ry = 0 ∨ ry = 1) : dig rx ry = 0 ∨ dig rx ry = 1 ∨ dig rx ry = 2 ∨ dig rx ry = 3 := by
  unfold dig; rcases hx with rfl | rfl <;> rcases hy with rfl | rfl <;> simp
theorem hA_bd : ∀ (n : Nat) (x y : Int), n ≤ 8 → 0 ≤ hA n x y ∧ hA n x y < qw n
  | 0, _, _, _ => by simp [hA, qw]
  | n + 1, x, y, h => by
    have hq := pq_pos (pq_of n (by omega))
    have hrec : ∃ r, (if y / pw n % 2 = 0 then (if x / pw n % 2 = 1 then hA n (255 - y) (255 - x) else hA n y x) else hA n x y) = r ∧ 0 ≤ r ∧ r < qw n := by
      split
      · split
        · exact ⟨_, rfl, hA_bd n _ _ (by omega)⟩
        · exact ⟨_, rfl, hA_bd n _ _ (by omega)⟩
      · exact ⟨_, rfl, hA_bd n _ _ (by omega)⟩
    obtain ⟨r, e, h0, h1⟩ := hrec
    have hd := dig_bd (x / pw n % 2) (y / pw n % 2) (by omega) (by omega)
    simp only [hA, qw, e]
    rcases hd with hd | hd | hd | hd <;> rw [hd] <;> omega
theorem hA_hP (d : Int) : ∀ (n : Nat) (x y : Int), n ≤ 8 → x % pw n = (hP n d).1 → y % pw n = (hP n d).2 → hA n x y = d % qw n
  | 0, x, y, _, _, _ => by simp [hA, qw] <;> omega
  | n + 1, x, y, hn, hx, hy => by
    have hq := pq_of n (by omega)
    obtain ⟨b0, b1, b2, b3⟩ := hP_bd d n (by omega)
    simp only [pw] at hx hy
    simp only [hP] at hx hy
    simp only [hA, qw]
    have hr : d / qw n / 2 % 2 = 0 ∨ d / qw n / 2 % 2 = 1 := by omega
    have hy2 : (d / qw n + d / qw n / 2 % 2) % 2 = 0 ∨ (d / qw n + d / qw n / 2 % 2) % 2 = 1 := by omega
    unfold hstep at hx hy
    rcases hy2 with h2 | h2
    · rw [if_pos h2] at hx hy
      rcases hr with h1 | h1
      · rw [if_neg (by omega)] at hx hy
        simp only at hx hy
        obtain ⟨x1, x2⟩ := pq_low hq hx b2 b3
        obtain ⟨y1, y2⟩ := pq_low hq hy b0 b1
        rw [x1, y1, if_pos rfl, if_neg (by omega), hA_hP d n y x (by omega) y2 x2, pq_digit hq d 0 (by omega)]
        unfold dig; simp
      · rw [if_pos h1] at hx hy
        simp only at hx hy
        obtain ⟨x1, x2⟩ := pq_high hq hx (by omega) (by omega)
        obtain ⟨y1, y2⟩ := pq_low hq hy (by omega) (by omega)
        rw [x1, y1, if_pos rfl, if_pos rfl, hA_hP d n (255 - y) (255 - x) (by omega) (by rw [pq_comp hq]; omega) (by rw [pq_comp hq]; omega), pq_digit hq d 3 (by omega)]
        unfold dig; simp
    · rw [if_neg (by omega)] at hx hy
      simp only at hx hy
      obtain ⟨y1, y2⟩ := pq_high hq hy b2 b3
      rcases hr with h1 | h1
      · rw [h1, Int.mul_zero, Int.add_zero] at hx
        obtain ⟨x1, x2⟩ := pq_low hq hx b0 b1
        rw [x1, y1, if_neg (by omega), hA_hP d n x y (by omega) x2 y2, pq_digit hq d 1 (by omega)]
        unfold dig; simp
      · rw [h1, Int.mul_one] at hx
        obtain ⟨x1, x2⟩ := pq_high hq hx b0 b1
        rw [x1, y1, if_neg (by omega), hA_hP d n x y (by omega) x2 y2, pq_digit hq d 2 (by omega)]
        unfold dig; simp
theorem hP_hA (d : Int) : ∀ (n : Nat) (x y : Int), n ≤ 8 → d % qw n = hA n x y → hP n d = (x % pw n, y % pw n)
  | 0, x, y, _, _ => by simp [hP, pw] <;> omega
  | n + 1, x, y, hn, hd => by
    have hq := pq_of n (by omega)
    have mx := pq_mod hq x
    have my := pq_mod hq y
    simp only [qw, hA] at hd
    simp only [hP, pw]
    have hrx : x / pw n % 2 = 0 ∨ x / pw n % 2 = 1 := by omega
    have hry : y / pw n % 2 = 0 ∨ y / pw n % 2 = 1 := by omega
    rw [pq_split hq x, pq_split hq y]
    rcases hry with ry | ry
    · rw [ry, if_pos rfl] at hd
      rcases hrx with rx | rx
      · rw [rx, if_neg (by omega)] at hd
        have hb := hA_bd n y x (by omega)
        obtain ⟨g1, g2⟩ := pq_undigit hq hd (dig_bd 0 0 (by omega) (by omega)) hb.1 hb.2
        have g1 : d / qw n % 4 = 0 := g1
        have ih := hP_hA d n y x (by omega) g2
        rw [ih, rx, ry]
        unfold hstep
        rw [if_pos (by omega), if_neg (by omega), if_neg (by omega), if_neg (by omega)]
      · rw [rx, if_pos rfl] at hd
        have hb := hA_bd n (255 - y) (255 - x) (by omega)
        obtain ⟨g1, g2⟩ := pq_undigit hq hd (dig_bd 1 0 (by omega) (by omega)) hb.1 hb.2
        have g1 : d / qw n % 4 = 3 := g1
        have ih := hP_hA d n (255 - y) (255 - x) (by omega) g2
        rw [ih, rx, ry, pq_comp hq, pq_comp hq]
        unfold hstep
        rw [if_pos (by omega), if_pos (by omega), if_pos rfl, if_neg (by omega)]
        simp only
        congr 1 <;> omega
    · rw [ry, if_neg (by omega)] at hd
      have hb := hA_bd n x y (by omega)
      rcases hrx with rx | rx
      · rw [rx] at hd
        obtain ⟨g1, g2⟩ := pq_undigit hq hd (dig_bd 0 1 (by omega) (by omega)) hb.1 hb.2
        have g1 : d / qw n % 4 = 1 := g1
        have ih := hP_hA d n x y (by omega) g2
        rw [ih, rx, ry]
        unfold hstep
        rw [if_neg (by omega), show d / qw n / 2 % 2 = 0 by omega, if_neg (by omega), if_pos rfl, Int.mul_zero, Int.add_zero]
      · rw [rx] at hd
        obtain ⟨g1, g2⟩ := pq_undigit hq hd (dig_bd 1 1 (by omega) (by omega)) hb.1 hb.2
        have g1 : d / qw n % 4 = 2 := g1
        have ih := hP_hA d n x y (by omega) g2
        rw [ih, rx, ry]
        unfold hstep
        rw [if_neg (by omega), show d / qw n / 2 % 2 = 1 by omega, if_pos rfl, if_pos rfl, Int.mul_one]
theorem hP_first (d : Int) : ∀ n : Nat, n ≤ 8 → d % qw n = 0 → hP n d = (0, 0)
  | 0, _, _ => rfl
  | n + 1, hn, hd => by
    have hq := pq_of n (by omega)
    have hp := pq_pos hq
    simp only [qw] at hd
    obtain ⟨g1, g2⟩ := pq_undigit hq (g := 0) (r := 0) (by rw [hd]; omega) (by omega) (by omega) hp.1
    simp only [hP]
    rw [hP_first d n (by omega) g2]
    unfold hstep
    rw [if_pos (by omega), if_neg (by omega)]
theorem hP_last (d : Int) : ∀ n : Nat, n ≤ 8 → d % qw n = qw n - 1 → hP n d = (pw n - 1, 0)
  | 0, _, _ => by simp [hP, pw]
  | n + 1, hn, hd => by
    have hq := pq_of n (by omega)
    simp only [qw] at hd
    obtain ⟨g1, g2⟩ := pq_last hq hd
    simp only [hP, pw]
    rw [hP_last d n (by omega) g2]
    unfold hstep
    rw [if_pos (by omega), if_pos (by omega)]
    simp only
    congr 1 <;> omega
def near (p q : Int × Int) : Prop := (p.1 = q.1 ∧ (p.2 = q.2 + 1 ∨ q.2 = p.2 + 1)) ∨ (p.2 = q.2 ∧ (p.1 = q.1 + 1 ∨ q.1 = p.1 + 1))
theorem near_step (s d : Int) (p q : Int × Int) (h : near p q) : near (hstep s d p.1 p.2) (hstep s d q.1 q.2) := by
  unfold near at *
  unfold hstep
  split
  · split
    · simp only; omega
    · simp only; omega
  · simp only
    have hr : d / 2 % 2 = 0 ∨ d / 2 % 2 = 1 := by omega
    rcases hr with hr | hr <;> rw [hr] <;> omega
theorem hP_near (d : Int) : ∀ n : Nat, n ≤ 8 → d % qw n ≠ qw n - 1 → near (hP n d) (hP n (d + 1))
  | 0, _, hd => by simp only [qw] at hd; omega
  | n + 1, hn, hd => by
    have hq := pq_of n (by omega)
    simp only [qw] at hd
    simp only [hP]
    by_cases hl : d % qw n = qw n - 1
    · have g := pq_notlast hq hd hl
      obtain ⟨c1, c2⟩ := pq_carry hq hl
      rw [hP_last d n (by omega) hl, hP_first (d + 1) n (by omega) c2, c1]
      unfold near hstep
      have hc : d / qw n % 4 = 0 ∨ d / qw n % 4 = 1 ∨ d / qw n % 4 = 2 := by omega
      rcases hc with hc | hc | hc
      · rw [if_pos (by omega), if_neg (by omega), if_neg (by omega), show (d / qw n + 1) / 2 % 2 = 0 by omega]
        simp only; omega
      · rw [if_neg (by omega), if_neg (by omega), show (d / qw n + 1) / 2 % 2 = 1 by omega, show d / qw n / 2 % 2 = 0 by omega]
        exact Or.inr ⟨rfl, Or.inr (by simp only; omega)⟩
      · rw [if_neg (by omega), if_pos (by omega), if_pos (by omega), show d / qw n / 2 % 2 = 1 by omega]
        simp only; omega
    · rw [pq_next hq hl]
      exact near_step _ _ _ _ (hP_near d n (by omega) hl)
/-! The place, by the printed loop. -/
def sv : Nat → Int
  | 0 => 0
  | n + 1 => pw n
theorem sv_zero : sv 0 = 0 := rfl
theorem sv_succ (n : Nat) : sv (n + 1) = pw n := rfl
theorem xor_dig (rx ry : Int) (hx : rx = 0 ∨ rx = 1) (hy : ry = 0 ∨ ry = 1) : Go.bits .xor .i64 (wrap64 (3 * rx)) ry = dig rx ry := by
  unfold dig
  rcases hx with rfl | rfl <;> rcases hy with rfl | rfl <;> (rw [wr (by omega) (by omega)]; rfl)
theorem along_hA (k : Nat) : ∀ (n : Nat) (x y d : Int), n ≤ 8 → 0 ≤ x → x ≤ 255 → 0 ≤ y → y ≤ 255 → 0 ≤ d → d + 50000 * (n : Int) ≤ 1000000 → impl_Along.l0 (k + 1 + n) x y d (sv n) = some (d + hA n x y)
  | 0, x, y, d, _, _, _, _, _, _, _ => by simp [impl_Along.l0, sv, hA]
  | n + 1, x, y, d, hn, hx0, hx, hy0, hy, hd0, hd => by
    have hq := pq_of n (by omega)
    have hp := pq_pos hq
    have hnext : wrap64 (Int.tdiv (pw n) 2) = sv n := by
      cases n with
      | zero => simp only [pw, sv_zero]; unfold wrap64; rfl
      | succ m =>
        have hp2 := pq_pos (pq_of m (by omega))
        simp only [pw, sv_succ]
        rw [Int.tdiv_eq_ediv_of_nonneg (by omega), wr (by omega) (by omega)]; omega
    have ex : Int.tmod (wrap64 (Int.tdiv x (pw n))) 2 = x / pw n % 2 := by
      have h1 : 0 ≤ x / pw n := Int.ediv_nonneg hx0 (by omega)
      have h2 : x / pw n ≤ x := Int.ediv_le_self _ hx0
      rw [Int.tdiv_eq_ediv_of_nonneg hx0, wr (by omega) (by omega), Int.tmod_eq_emod_of_nonneg h1]
    have ey : Int.tmod (wrap64 (Int.tdiv y (pw n))) 2 = y / pw n % 2 := by
      have h1 : 0 ≤ y / pw n := Int.ediv_nonneg hy0 (by omega)
      have h2 : y / pw n ≤ y := Int.ediv_le_self _ hy0
      rw [Int.tdiv_eq_ediv_of_nonneg hy0, wr (by omega) (by omega), Int.tmod_eq_emod_of_nonneg h1]
    have hrx : x / pw n % 2 = 0 ∨ x / pw n % 2 = 1 := by omega
    have hry : y / pw n % 2 = 0 ∨ y / pw n % 2 = 1 := by omega
    have hdg := dig_bd _ _ hrx hry
    have hss : pw n * pw n = qw n := by
      unfold PQ at hq
      rcases hq with ⟨a, b⟩ | ⟨a, b⟩ | ⟨a, b⟩ | ⟨a, b⟩ | ⟨a, b⟩ | ⟨a, b⟩ | ⟨a, b⟩ | ⟨a, b⟩ <;> rw [a, b] <;> rfl
    have hqd : 0 ≤ qw n * dig (x / pw n % 2) (y / pw n % 2) ∧ qw n * dig (x / pw n % 2) (y / pw n % 2) ≤ 49152 := by
      rcases hdg with h | h | h | h <;> rw [h] <;> omega
    have hadd : wrap64 (d + wrap64 (wrap64 (pw n * pw n) * dig (x / pw n % 2) (y / pw n % 2))) = d + qw n * dig (x / pw n % 2) (y / pw n % 2) := by
      rw [hss, wr (n := qw n) (by omega) (by omega), wr (n := qw n * dig (x / pw n % 2) (y / pw n % 2)) (by omega) (by omega), wr (by omega) (by omega)]
    rw [show k + 1 + (n + 1) = (k + 1 + n) + 1 by omega]
    simp only [impl_Along.l0, sv_succ, ex, ey, hnext, xor_dig _ _ hrx hry, hadd]
    rw [if_pos (by omega), if_neg (by omega)]
    simp only [hA]
    have hd2 : d + qw n * dig (x / pw n % 2) (y / pw n % 2) + 50000 * (n : Int) ≤ 1000000 := by omega
    rcases hry with ry | ry
    · rw [ry, if_pos rfl, if_pos rfl]
      rw [ry] at hd2 hqd
      rcases hrx with rx | rx
      · rw [rx, if_neg (by omega), if_neg (by omega)]
        rw [rx] at hd2 hqd
        rw [along_hA k n y x _ (by omega) hy0 hy hx0 hx (by omega) hd2]
        congr 1; omega
      · rw [rx, if_pos rfl, if_pos rfl, wr (n := 255 - y) (by omega) (by omega), wr (n := 255 - x) (by omega) (by omega)]
        rw [rx] at hd2 hqd
        rw [along_hA k n (255 - y) (255 - x) _ (by omega) (by omega) (by omega) (by omega) (by omega) (by omega) hd2]
        congr 1; omega
    · rw [ry, if_neg (by omega), if_neg (by omega)]
      rw [ry] at hd2 hqd
      rw [along_hA k n x y _ (by omega) hx0 hx hy0 hy (by omega) hd2]
      congr 1; omega
theorem along_val (k : Nat) (x y : Int) : impl_Along.f (k + 10) x y = some (if 0 ≤ x ∧ x ≤ 255 ∧ 0 ≤ y ∧ y ≤ 255 then hA 8 x y else -1) := by
  unfold impl_Along.f
  simp only [in_val, Option.bind_some, decide_eq_true_eq]
  by_cases hx : 0 ≤ x ∧ x ≤ 255
  · rw [if_pos hx]
    simp only [impl_Along.j0]
    by_cases hy : 0 ≤ y ∧ y ≤ 255
    · rw [decide_eq_true hy, if_neg (by simp), if_pos ⟨hx.1, hx.2, hy.1, hy.2⟩]
      have := along_hA k 8 x y 0 (by omega) hx.1 hx.2 hy.1 hy.2 (by omega) (by omega)
      rw [Int.zero_add] at this
      exact this
    · rw [decide_eq_false hy, if_pos (by simp), if_neg (by omega)]
  · rw [if_neg hx, if_neg (by omega)]
    simp [impl_Along.j0]

/-! ### minmax -/
theorem mn_le (a b : Int) : mn a b = if b < a then b else a := rfl
theorem mx_ge (a b : Int) : mx a b = if a < b then b else a := rfl

/-! ### apart -/
theorem gap_val (a b : Int) (ha0 : 0 ≤ a) (ha : a ≤ 255) (hb0 : 0 ≤ b) (hb : b ≤ 255) : spec_l3Gap.f a b = some (mx (wrap64 (a - b)) (wrap64 (b - a))) := by
  unfold spec_l3Gap.f mx
  rw [wr (n := a - b) (by omega) (by omega), wr (n := b - a) (by omega) (by omega)]
  by_cases h : a < b
  · rw [if_pos h, if_pos (by omega)]
  · rw [if_neg h, if_neg (by omega)]
theorem apart_both (k : Nat) (a b : Int) : ∃ v, spec_Apart.f (k + 9) a b = some v ∧ impl_Apart.f (k + 9) a b = some v := by
  obtain ⟨p, hp, p0, p1, p2, p3⟩ := pointat_bd k a
  obtain ⟨q, hq, q0, q1, q2, q3⟩ := pointat_bd k b
  unfold spec_Apart.f impl_Apart.f
  rw [pointat_same, pointat_same, hp, hq]
  simp only [Option.bind_some]
  rw [gap_val _ _ p0 p1 q0 q1, gap_val _ _ p2 p3 q2 q3]
  exact ⟨_, rfl, rfl⟩

/-! ### middle -/
theorem middle_same (a b c d : Int) : spec_Middle.f a b c d = impl_Middle.f a b c d := rfl

/-! ### keyof -/
theorem keyof_same (k : Nat) (a b c d : Int) : spec_KeyOf.f k a b c d = impl_KeyOf.f k a b c d := by
  unfold spec_KeyOf.f impl_KeyOf.f
  simp only [middle_same, along_same]
theorem keyof_some (k : Nat) (a b c d : Int) : ∃ v, impl_KeyOf.f (k + 10) a b c d = some v := by
  unfold impl_KeyOf.f impl_Middle.f
  simp only [Option.bind_some]
  obtain ⟨v, hv⟩ := along_some k (wrap64 (Int.tdiv (wrap64 (a + c)) 2)) (wrap64 (Int.tdiv (wrap64 (b + d)) 2))
  exact ⟨v, by rw [hv]; rfl⟩

/-! ### basic -/
theorem rd_nat (xs : List Int) (i : Nat) (h : i < xs.length) : rd xs (i : Int) = xs[i] := by
  unfold rd; rw [Int.toNat_natCast, List.getD_eq_getElem?_getD, List.getElem?_eq_getElem h]; rfl
theorem fill_take {α β : Type} (conv : α → β) (xs : List α) (ys : List β) (i : Nat) (hl : ys.length = xs.length) (hi : i < xs.length) (h : ys.take i = (xs.take i).map conv) :
    (ys.set i (conv xs[i])).take (i + 1) = (xs.take (i + 1)).map conv := by
  rw [List.take_succ_eq_append_getElem (by rw [List.length_set]; omega), List.take_succ_eq_append_getElem hi, List.getElem_set_self, List.map_append, List.take_set_of_le (Nat.le_refl i), h]; rfl
theorem wr_succ {i n : Nat} (h : i < n) (hn : n ≤ 140737488355328) : wrap64 ((i : Int) + 1) = ((i + 1 : Nat) : Int) := by
  rw [wr (by omega) (by omega)]; omega
theorem byte_bounds {xs : List Int} (h : ∀ x ∈ xs, (Lit.int .u8 x).wf = true) (i : Int) : 0 ≤ rd xs i ∧ rd xs i ≤ 255 := by
  unfold rd
  rw [List.getD_eq_getElem?_getD]
  exact range_u8 h _

/-! ### draw -/
theorem and255 (x : Int) : 0 ≤ Go.bits .and .i64 x 255 ∧ Go.bits .and .i64 x 255 ≤ 255 := by
  have h : (BitVec.ofInt IntKind.i64.bits x &&& BitVec.ofInt IntKind.i64.bits 255).toNat ≤ 255 := by
    rw [BitVec.toNat_and]
    exact Nat.le_trans Nat.and_le_right (by decide)
  have e : Go.bits .and .i64 x 255 = IntKind.i64.wrap ((BitVec.ofInt IntKind.i64.bits x &&& BitVec.ofInt IntKind.i64.bits 255).toNat : Int) := rfl
  rw [e, IntKind.wrap_i64]; omega
/-- A drawn value: it is there, meets P, and the cursor stays in the bytes. -/
def DOk {α : Type} (b : List Int) (P : α → Prop) (o : Option (α × Int × Int)) : Prop := ∃ x i h, o = some (x, i, h) ∧ P x ∧ 0 ≤ i ∧ i ≤ (b.length : Int)
theorem l1Byte_ok (b : List Int) (i h : Int) (hb : b.length ≤ 1048576) (h0 : 0 ≤ i) (h1 : i ≤ (b.length : Int)) : DOk b (fun x => 0 ≤ x ∧ x ≤ 255) (spec_l1Byte.f b i h) := by
  unfold spec_l1Byte.f DOk
  by_cases c : i < (b.length : Int)
  · rw [if_pos c, if_pos h0]
    exact ⟨_, _, _, rfl, and255 _, by rw [wr (by omega) (by omega)]; omega, by rw [wr (by omega) (by omega)]; omega⟩
  · rw [if_neg c]
    exact ⟨_, _, _, rfl, and255 _, h0, h1⟩
theorem l1Below_ok (b : List Int) (i h n : Int) (hb : b.length ≤ 1048576) (h0 : 0 ≤ i) (h1 : i ≤ (b.length : Int)) (hn : 0 < n) : DOk b (fun x => 0 ≤ x ∧ x < n) (spec_l1Below.f b i h n) := by
  unfold spec_l1Below.f
  rw [if_neg (by omega)]
  by_cases c : n ≤ 256
  · rw [if_pos c]
    obtain ⟨x, i1, g1, e1, hx, a1, b1⟩ := l1Byte_ok b i h hb h0 h1
    rw [e1]
    simp only [Option.bind_some]
    rw [if_neg (by omega), Int.tmod_eq_emod_of_nonneg (by omega)]
    exact ⟨_, _, _, rfl, ⟨Int.emod_nonneg _ (by omega), Int.emod_lt_of_pos _ hn⟩, a1, b1⟩
  · rw [if_neg c]
    obtain ⟨x, i1, g1, e1, hx, a1, b1⟩ := l1Byte_ok b i h hb h0 h1
    rw [e1]
    simp only [Option.bind_some]
    obtain ⟨y, i2, g2, e2, hy, a2, b2⟩ := l1Byte_ok b i1 g1 hb a1 b1
    rw [e2]
    simp only [Option.bind_some]
    obtain ⟨z, i3, g3, e3, hz, a3, b3⟩ := l1Byte_ok b i2 g2 hb a2 b2
    rw [e3]
    simp only [Option.bind_some]
    rw [if_neg (by omega), wr (n := x * 65536) (by omega) (by omega), wr (n := y * 256) (by omega) (by omega), wr (n := x * 65536 + y * 256) (by omega) (by omega), wr (n := x * 65536 + y * 256 + z) (by omega) (by omega), Int.tmod_eq_emod_of_nonneg (by omega)]
    exact ⟨_, _, _, rfl, ⟨Int.emod_nonneg _ (by omega), Int.emod_lt_of_pos _ hn⟩, a3, b3⟩
theorem l1New_l0 (b : List Int) (hb : b.length ≤ 1048576) (d : Nat) : ∀ (k i : Nat) (h : Int), i + d = b.length → d < k → ∃ g, spec_l1New.l0 k b h (i : Int) = some (b, 0, g) := by
  induction d with
  | zero =>
    intro k i h hi hk
    obtain ⟨k, rfl⟩ : ∃ m, k = m + 1 := ⟨k - 1, by omega⟩
    simp only [spec_l1New.l0]
    rw [if_neg (by omega)]
    exact ⟨_, rfl⟩
  | succ d ih =>
    intro k i h hi hk
    obtain ⟨k, rfl⟩ : ∃ m, k = m + 1 := ⟨k - 1, by omega⟩
    simp only [spec_l1New.l0]
    rw [if_pos (by omega)]
    split
    · rw [if_pos (by omega), wr_succ (n := b.length) (by omega) (by omega)]
      exact ih k (i + 1) _ (by omega) (by omega)
    · exact ⟨_, rfl⟩
theorem l1New_ok (k : Nat) (b : List Int) (hb : b.length ≤ 1048576) (hk : b.length < k) : ∃ g, spec_l1New.f k b = some (b, 0, g) := by
  unfold spec_l1New.f
  exact l1New_l0 b hb b.length k 0 _ (by omega) hk
theorem big_val (b : List Int) : laws_big.f b = some (decide ((b.length : Int) > 1048576)) := rfl

/-! ### drawOnce -/
theorem l1Once_ok (b : List Int) (i h n : Int) (hb : b.length ≤ 1048576) (h0 : 0 ≤ i) (h1 : i ≤ (b.length : Int)) (hn : 0 < n) : DOk b (fun _ : Bool => True) (spec_l1Once.f b i h n) := by
  unfold spec_l1Once.f
  obtain ⟨x, i1, g1, e1, hx, a1, b1⟩ := l1Below_ok b i h n hb h0 h1 hn
  rw [e1]
  exact ⟨_, _, _, rfl, trivial, a1, b1⟩

/-! ### drawInt -/
theorem rd_mem (l : List Int) (x : Int) (h0 : 0 ≤ x) (h1 : x < (l.length : Int)) : rd l x ∈ l := by
  obtain ⟨n, rfl⟩ := Int.eq_ofNat_of_zero_le h0
  rw [rd_nat l n (by omega)]
  exact List.getElem_mem _
theorem l1Int_ok (b l : List Int) (i h : Int) (hb : b.length ≤ 1048576) (h0 : 0 ≤ i) (h1 : i ≤ (b.length : Int)) (hl : 0 < l.length) : DOk b (fun x => x ∈ l) (spec_l1Int.f b i h l) := by
  unfold spec_l1Int.f
  obtain ⟨x, i1, g1, e1, hx, a1, b1⟩ := l1Below_ok b i h (l.length : Int) hb h0 h1 (by omega)
  rw [e1]
  simp only [Option.bind_some]
  rw [if_pos hx.1, if_pos hx.2]
  exact ⟨_, _, _, rfl, rd_mem l x hx.1 hx.2, a1, b1⟩

/-! ### drawRaw -/
theorem l1Odd_ok (b : List Int) (i h : Int) (hb : b.length ≤ 1048576) (h0 : 0 ≤ i) (h1 : i ≤ (b.length : Int)) : DOk b (fun x => (Lit.int .i64 x).wf = true) (spec_l1Odd.f b i h) := by
  unfold spec_l1Odd.f
  obtain ⟨x, i1, g1, e1, hx, a1, b1⟩ := l1Int_ok b [(-1), 0, 1, 2, 255, 256, 65535, 2147483647, 2147483648, 4294967295, 4294967296, (-2147483648), 9223372036854775807, (-9223372036854775808)] i h hb h0 h1 (by simp)
  rw [e1]
  have hz : (Lit.int .i64 x).wf = true := by
    simp only [List.mem_cons, List.not_mem_nil, or_false] at hx
    rcases hx with rfl | rfl | rfl | rfl | rfl | rfl | rfl | rfl | rfl | rfl | rfl | rfl | rfl | rfl <;> decide
  exact ⟨_, _, _, rfl, hz, a1, b1⟩
theorem l1Raw_ok (b : List Int) (i h : Int) (hb : b.length ≤ 1048576) (h0 : 0 ≤ i) (h1 : i ≤ (b.length : Int)) : DOk b (fun x => (Lit.int .i64 x).wf = true) (spec_l1Raw.f b i h) := by
  unfold spec_l1Raw.f
  obtain ⟨x, i1, g1, e1, hx, a1, b1⟩ := l1Once_ok b i h 2 hb h0 h1 (by omega)
  rw [e1]
  simp only [Option.bind_some]
  cases x
  · rw [if_neg (by simp)]
    obtain ⟨y, i2, g2, e2, hy, a2, b2⟩ := l1Int_ok b [(-1), 0, 1, 4, 255, 256, 65535, 65536] i1 g1 hb a1 b1 (by simp)
    rw [e2]
    have hz : (Lit.int .i64 y).wf = true := by
      simp only [List.mem_cons, List.not_mem_nil, or_false] at hy
      rcases hy with rfl | rfl | rfl | rfl | rfl | rfl | rfl | rfl <;> decide
    exact ⟨_, _, _, rfl, hz, a2, b2⟩
  · rw [if_pos rfl]
    obtain ⟨y, i2, g2, e2, hy, a2, b2⟩ := l1Odd_ok b i1 g1 hb a1 b1
    rw [e2]
    exact ⟨_, _, _, rfl, hy, a2, b2⟩

/-! ### least -/
theorem least_spec (a b : Int) : spec_Least.f a b = some (mn a b) := by
  unfold spec_Least.f mn; split <;> rfl

/-! ### drawBox -/
theorem l2Draw_ok (k : Nat) (b : List Int) (i h : Int) (hb : b.length ≤ 1048576) (h0 : 0 ≤ i) (h1 : i ≤ (b.length : Int)) (hk : 0 < k) :
    ∃ x y u v i1 g1, spec_l2Draw.f k b i h = some (x, y, u, v, i1, g1) ∧ 0 ≤ x ∧ x ≤ u ∧ u ≤ 255 ∧ 0 ≤ y ∧ y ≤ v ∧ v ≤ 255 ∧ 0 ≤ i1 ∧ i1 ≤ (b.length : Int) := by
  obtain ⟨k, rfl⟩ : ∃ m, k = m + 1 := ⟨k - 1, by omega⟩
  have tail : ∀ (x y i h : Int), 0 ≤ x → x ≤ 249 → 0 ≤ y → y ≤ 249 → 0 ≤ i → i ≤ (b.length : Int) →
      ∃ x1 y1 u v i1 g1, spec_l2Draw.j0 (k + 1) x y b i h = some (x1, y1, u, v, i1, g1) ∧ 0 ≤ x1 ∧ x1 ≤ u ∧ u ≤ 255 ∧ 0 ≤ y1 ∧ y1 ≤ v ∧ v ≤ 255 ∧ 0 ≤ i1 ∧ i1 ≤ (b.length : Int) := by
    intro x y i h x0 x1 y0 y1 i0 i1
    simp only [spec_l2Draw.j0]
    obtain ⟨dx, i2, g2, e2, hx, a2, b2⟩ := l1Int_ok b [0, 1, 5, 9, 40] i h hb i0 i1 (by simp)
    have hx : 0 ≤ dx ∧ dx ≤ 40 := by
      simp only [List.mem_cons, List.not_mem_nil, or_false] at hx
      omega
    rw [e2]; simp only [Option.bind_some]
    rw [wr (n := x + dx) (by omega) (by omega), least_spec]; simp only [Option.bind_some]
    obtain ⟨dy, i3, g3, e3, hy, a3, b3⟩ := l1Int_ok b [0, 1, 3, 12] i2 g2 hb a2 b2 (by simp)
    have hy : 0 ≤ dy ∧ dy ≤ 12 := by
      simp only [List.mem_cons, List.not_mem_nil, or_false] at hy
      omega
    rw [e3]; simp only [Option.bind_some]
    rw [wr (n := y + dy) (by omega) (by omega), least_spec]; simp only [Option.bind_some]
    refine ⟨_, _, _, _, _, _, rfl, x0, ?_, ?_, y0, ?_, ?_, a3, b3⟩ <;> unfold mn <;> split <;> omega
  unfold spec_l2Draw.f
  obtain ⟨x, i1, g1, e1, hx, a1, b1⟩ := l1Below_ok b i h 250 hb h0 h1 (by omega)
  rw [e1]; simp only [Option.bind_some]
  obtain ⟨y, i2, g2, e2, hy, a2, b2⟩ := l1Below_ok b i1 g1 250 hb a1 b1 (by omega)
  rw [e2]; simp only [Option.bind_some]
  obtain ⟨o, i3, g3, e3, _, a3, b3⟩ := l1Once_ok b i2 g2 2 hb a2 b2 (by omega)
  rw [e3]; simp only [Option.bind_some]
  cases o
  · rw [if_neg (by simp)]
    exact tail x y i3 g3 hx.1 (by omega) hy.1 (by omega) a3 b3
  · rw [if_pos rfl]
    obtain ⟨x2, i4, g4, e4, hx2, a4, b4⟩ := l1Below_ok b i3 g3 20 hb a3 b3 (by omega)
    rw [e4]; simp only [Option.bind_some]
    obtain ⟨y2, i5, g5, e5, hy2, a5, b5⟩ := l1Below_ok b i4 g4 20 hb a4 b4 (by omega)
    rw [e5]; simp only [Option.bind_some]
    exact tail x2 y2 i5 g5 hx2.1 (by omega) hy2.1 (by omega) a5 b5

theorem drawAlong_ok (k : Nat) (l : List Int) (hl : l.length ≤ 1048576) (hk : l.length < k) : ∃ x y, spec_DrawAlong.f k l = some (x, y) := by
  unfold spec_DrawAlong.f
  obtain ⟨g, e⟩ := l1New_ok k l hl hk
  rw [e]; simp only [Option.bind_some]
  obtain ⟨o, i1, g1, e1, _, a1, b1⟩ := l1Once_ok l 0 g 8 hl (by omega) (by omega) (by omega)
  rw [e1]; simp only [Option.bind_some]
  cases o
  · rw [if_neg (by simp)]
    obtain ⟨x, i2, g2, e2, _, a2, b2⟩ := l1Below_ok l i1 g1 256 hl a1 b1 (by omega)
    rw [e2]; simp only [Option.bind_some]
    obtain ⟨y, i3, g3, e3, _, a3, b3⟩ := l1Below_ok l i2 g2 256 hl a2 b2 (by omega)
    rw [e3]; exact ⟨_, _, rfl⟩
  · rw [if_pos rfl]
    obtain ⟨x, i2, g2, e2, _, a2, b2⟩ := l1Int_ok l [(-1), 256, 0, 255] i1 g1 hl a1 b1 (by simp)
    rw [e2]; simp only [Option.bind_some]
    obtain ⟨y, i3, g3, e3, _, a3, b3⟩ := l1Raw_ok l i2 g2 hl a2 b2
    rw [e3]; exact ⟨_, _, rfl⟩
theorem drawPointAt_ok (k : Nat) (l : List Int) (hl : l.length ≤ 1048576) (hk : l.length < k) : ∃ x, spec_DrawPointAt.f k l = some x := by
  unfold spec_DrawPointAt.f
  obtain ⟨g, e⟩ := l1New_ok k l hl hk
  rw [e]; simp only [Option.bind_some]
  obtain ⟨o, i1, g1, e1, _, a1, b1⟩ := l1Once_ok l 0 g 8 hl (by omega) (by omega) (by omega)
  rw [e1]; simp only [Option.bind_some]
  cases o
  · rw [if_neg (by simp)]
    obtain ⟨x, i2, g2, e2, _, a2, b2⟩ := l1Below_ok l i1 g1 65536 hl a1 b1 (by omega)
    rw [e2]; exact ⟨_, rfl⟩
  · rw [if_pos rfl]
    obtain ⟨x, i2, g2, e2, _, a2, b2⟩ := l1Raw_ok l i1 g1 hl a1 b1
    rw [e2]; exact ⟨_, rfl⟩
theorem drawApart_ok (k : Nat) (l : List Int) (hl : l.length ≤ 1048576) (hk : l.length < k) : ∃ a b, spec_DrawApart.f k l = some (a, b) ∧ 0 ≤ a ∧ a ≤ 65535 := by
  unfold spec_DrawApart.f
  obtain ⟨g, e⟩ := l1New_ok k l hl hk
  rw [e]; simp only [Option.bind_some]
  obtain ⟨x, i1, g1, e1, hx, a1, b1⟩ := l1Below_ok l 0 g 65536 hl (by omega) (by omega) (by omega)
  rw [e1]; simp only [Option.bind_some]
  obtain ⟨y, i2, g2, e2, _, a2, b2⟩ := l1Int_ok l [1, 1, 4, (-7)] i1 g1 hl a1 b1 (by simp)
  rw [e2]; exact ⟨_, _, rfl, hx.1, by omega⟩
theorem drawMiddle_ok (k : Nat) (l : List Int) (hl : l.length ≤ 1048576) (hk : l.length < k) : ∃ x y u v, spec_DrawMiddle.f k l = some (x, y, u, v) ∧ 0 ≤ x ∧ x ≤ u ∧ u ≤ 255 ∧ 0 ≤ y ∧ y ≤ v ∧ v ≤ 255 := by
  unfold spec_DrawMiddle.f
  obtain ⟨g, e⟩ := l1New_ok k l hl hk
  rw [e]; simp only [Option.bind_some]
  obtain ⟨x, y, u, v, i1, g1, e1, c1, c2, c3, c4, c5, c6, _, _⟩ := l2Draw_ok k l 0 g hl (by omega) (by omega) (by omega)
  rw [e1]; exact ⟨_, _, _, _, rfl, c1, c2, c3, c4, c5, c6⟩
theorem drawKeyOf_ok (k : Nat) (l : List Int) (hl : l.length ≤ 1048576) (hk : l.length < k) : ∃ x y u v, spec_DrawKeyOf.f k l = some (x, y, u, v) := by
  unfold spec_DrawKeyOf.f
  obtain ⟨g, e⟩ := l1New_ok k l hl hk
  rw [e]; simp only [Option.bind_some]
  obtain ⟨x, y, u, v, i1, g1, e1, c1, c2, c3, c4, c5, c6, _, _⟩ := l2Draw_ok k l 0 g hl (by omega) (by omega) (by omega)
  rw [e1]; exact ⟨_, _, _, _, rfl⟩
theorem apart_one (k : Nat) (n : Int) (h0 : 0 ≤ n) (h1 : n ≤ 65534) : impl_Apart.f (k + 9) n (n + 1) = some 1 := by
  unfold impl_Apart.f
  rw [pointat_val k n h0 (by omega), pointat_val k (n + 1) (by omega) (by omega)]
  simp only [Option.bind_some]
  have hn := hP_near n 8 (by omega) (by simp only [qw]; omega)
  have b1 := hP_bd n 8 (by omega)
  have b2 := hP_bd (n + 1) 8 (by omega)
  simp only [pw] at b1 b2
  obtain ⟨p, hp⟩ : ∃ p, hP 8 n = p := ⟨_, rfl⟩
  obtain ⟨q, hq⟩ : ∃ q, hP 8 (n + 1) = q := ⟨_, rfl⟩
  rw [hp, hq] at hn
  rw [hp] at b1 ⊢
  rw [hq] at b2 ⊢
  rw [wr (n := p.1 - q.1) (by omega) (by omega), wr (n := q.1 - p.1) (by omega) (by omega), wr (n := p.2 - q.2) (by omega) (by omega), wr (n := q.2 - p.2) (by omega) (by omega)]
  have h : mx (p.1 - q.1) (q.1 - p.1) + mx (p.2 - q.2) (q.2 - p.2) = 1 := by
    unfold mx
    unfold near at hn
    split <;> split <;> omega
  rw [h, wr (by omega) (by omega)]
theorem middle_in (x u : Int) (h0 : 0 ≤ x) (h1 : x ≤ u) (h2 : u ≤ 255) : x ≤ wrap64 (Int.tdiv (wrap64 (x + u)) 2) ∧ wrap64 (Int.tdiv (wrap64 (x + u)) 2) ≤ u := by
  rw [wr (n := x + u) (by omega) (by omega), Int.tdiv_eq_ediv_of_nonneg (by omega), wr (by omega) (by omega)]; omega
theorem curves_j1 (k : Nat) (x y e a s t m0 m1 m2 m3 d : Int) (v : Int × Int) (hd : d = if 0 ≤ x ∧ x ≤ 255 ∧ 0 ≤ y ∧ y ≤ 255 then hA 8 x y else -1) (hv : 0 ≤ e → e ≤ 65535 → v = hP 8 e) (ha0 : 0 ≤ a) (ha1 : a ≤ 65535)
    (hs0 : m0 ≤ s) (hs1 : s ≤ m2) (ht0 : m1 ≤ t) (ht1 : t ≤ m3) : laws_FnCurves.j1 (k + 11) x y d e v.1 v.2 a s t m0 m1 m2 m3 = some true := by
  have hA0 := hA_bd 8 x y (by omega)
  have en : Int.tmod (wrap64 ((Int.tmod a 65535) + 65535)) 65535 = (a % 65535 + 65535) % 65535 := by
    rw [Int.tmod_eq_emod_of_nonneg ha0, wr (by omega) (by omega), Int.tmod_eq_emod_of_nonneg (by omega)]
  have en1 : wrap64 ((a % 65535 + 65535) % 65535 + 1) = (a % 65535 + 65535) % 65535 + 1 := wr (by omega) (by omega)
  have tail : ((impl_Apart.f (k + 10) (Int.tmod (wrap64 ((Int.tmod a 65535) + 65535)) 65535) (wrap64 ((Int.tmod (wrap64 ((Int.tmod a 65535) + 65535)) 65535) + 1))).bind fun t299 => (if t299 = 1 then (if s ≥ m0 then (if s ≤ m2 then (if t ≥ m1 then (some (decide (t ≤ m3))) else (some false)) else (some false)) else (some false)) else (some false))) = some true := by
    rw [en, en1, apart_one (k + 1) _ (by omega) (by omega)]
    simp only [Option.bind_some, if_true]
    rw [if_pos hs0, if_pos hs1, if_pos ht0, decide_eq_true ht1]
  simp only [laws_FnCurves.j1, tail]
  have mid : (if x < 0 then (if ((d == (-1)) == true) = true then (some true) else (some false)) else (if x > 255 then (if ((d == (-1)) == true) = true then (some true) else (some false)) else (if y < 0 then (if ((d == (-1)) == true) = true then (some true) else (some false)) else (if ((d == (-1)) == (decide (y > 255))) = true then (some true) else (some false))))) = some true := by
    by_cases hin : 0 ≤ x ∧ x ≤ 255 ∧ 0 ≤ y ∧ y ≤ 255
    · rw [if_pos hin] at hd
      have hne : (d == (-1)) = false := beq_eq_false_iff_ne.mpr (by omega)
      rw [if_neg (by omega), if_neg (by omega), if_neg (by omega), hne, decide_eq_false (by omega)]; rfl
    · rw [if_neg hin] at hd
      have he : (d == (-1)) = true := beq_iff_eq.mpr hd
      rw [he]
      by_cases h1 : x < 0
      · rw [if_pos h1]; rfl
      · rw [if_neg h1]
        by_cases h2 : x > 255
        · rw [if_pos h2]; rfl
        · rw [if_neg h2]
          by_cases h3 : y < 0
          · rw [if_pos h3]; rfl
          · rw [if_neg h3, decide_eq_true (by omega)]; rfl
  by_cases he : 0 ≤ e ∧ e ≤ 65535
  · have hb := hP_bd e 8 (by omega)
    simp only [pw] at hb
    have hq : hA 8 (hP 8 e).1 (hP 8 e).2 = e := by
      rw [hA_hP e 8 _ _ (by omega) (by simp only [pw]; omega) (by simp only [pw]; omega)]
      simp only [qw]; omega
    rw [if_pos he.1, if_pos (by omega), hv he.1 he.2, along_val k, if_pos (by omega), hq]
    simp only [Option.bind_some, if_true]
    exact mid
  · by_cases h1 : e ≥ 0
    · rw [if_pos h1, if_neg (by omega)]
      exact mid
    · rw [if_neg h1]
      exact mid
theorem pure_law (l : List Int) (hm : l.length ≤ maxLen) (hb : ∀ x ∈ l, (Lit.int .u8 x).wf = true) : ∃ k, laws_FnCurves.f k l = some true := by
  refine ⟨l.length + 100, ?_⟩
  unfold laws_FnCurves.f
  rw [big_val]
  simp only [Option.bind_some, decide_eq_true_eq]
  by_cases h : (l.length : Int) > 1048576
  · rw [if_pos h]
  · rw [if_neg h]
    obtain ⟨x, y, e1⟩ := drawAlong_ok (l.length + 100) l (by omega) (by omega)
    obtain ⟨e, e2⟩ := drawPointAt_ok (l.length + 100) l (by omega) (by omega)
    obtain ⟨a, b, e3, a0, a1⟩ := drawApart_ok (l.length + 100) l (by omega) (by omega)
    obtain ⟨m0, m1, m2, m3, e4, c1, c2, c3, c4, c5, c6⟩ := drawMiddle_ok (l.length + 100) l (by omega) (by omega)
    obtain ⟨k0, k1, k2, k3, e5⟩ := drawKeyOf_ok (l.length + 100) l (by omega) (by omega)
    obtain ⟨v, e6, _⟩ := pointat_bd (l.length + 91) e
    obtain ⟨w, e7, e8⟩ := apart_both (l.length + 91) a b
    obtain ⟨z, e9⟩ := keyof_some (l.length + 90) k0 k1 k2 k3
    have hv : 0 ≤ e → e ≤ 65535 → v = hP 8 e := fun h0 h1 => by
      have := pointat_val (l.length + 91) e h0 h1
      rw [e6] at this
      exact Option.some.inj this
    have hal := along_val (l.length + 90) x y
    rw [e1]; simp only [Option.bind_some]
    rw [hal]; simp only [Option.bind_some]
    rw [e2]; simp only [Option.bind_some]
    rw [pointat_same, e6]; simp only [Option.bind_some]
    rw [e3]; simp only [Option.bind_some]
    rw [e4]; simp only [Option.bind_some]
    rw [e5]; simp only [Option.bind_some]
    unfold impl_Middle.f
    simp only [Option.bind_some]
    rw [along_same, hal]; simp only [Option.bind_some, if_true]
    rw [e7, e8]; simp only [Option.bind_some, if_true]
    rw [keyof_same, e9]; simp only [Option.bind_some, bne_self_eq_false]
    obtain ⟨d, hd⟩ : ∃ d, d = if 0 ≤ x ∧ x ≤ 255 ∧ 0 ≤ y ∧ y ≤ 255 then hA 8 x y else -1 := ⟨_, rfl⟩
    rw [← hd]
    have hs := middle_in m0 m2 c1 c2 c3
    have ht := middle_in m1 m3 c4 c5 c6
    have fin := curves_j1 (l.length + 88) x y e a _ _ m0 m1 m2 m3 d v hd hv a0 a1 hs.1 hs.2 ht.1 ht.2
    rw [show l.length + 100 = (l.length + 99) + 1 by omega]
    simp only [laws_FnCurves.j0]
    rw [if_neg (by simp)]
    by_cases hdp : d ≥ 0
    · have hA0 := hA_bd 8 x y (by omega)
      have hin : 0 ≤ x ∧ x ≤ 255 ∧ 0 ≤ y ∧ y ≤ 255 := by
        by_cases hin : 0 ≤ x ∧ x ≤ 255 ∧ 0 ≤ y ∧ y ≤ 255
        · exact hin
        · rw [if_neg hin] at hd; omega
      rw [if_pos hin] at hd
      simp only [qw] at hA0
      have hpt := pointat_val (l.length + 90) d hdp (by omega)
      have hxy := hP_hA d 8 x y (by omega) (by rw [← hd]; simp only [qw]; omega)
      simp only [pw] at hxy
      rw [if_pos hdp, hpt, hxy]
      simp only [Option.bind_some]
      rw [if_pos (by omega), if_pos (by omega)]
      exact fin
    · rw [if_neg hdp]
      exact fin
end Go.Proofs.Ytjmgomailgplcaa.PureFnCurves
