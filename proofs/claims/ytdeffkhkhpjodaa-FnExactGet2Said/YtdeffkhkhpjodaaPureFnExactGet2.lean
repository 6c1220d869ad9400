/- The pure statement of FnExactGet2: two bytes read as a number as the reference tells, for all bytes and places; no condition. -/
import Derived.Test.YtdeffkhkhpjodaaPFnExactGet2x1
import Derived.OpenShut
import Derived.Laws.BitsLemmas
namespace Go.Proofs.Ytdeffkhkhpjodaa.PureFnExactGet2
open Go.RowKit Go.Proofs.Ytdeffkhkhpjodaa.PFnExactGet2 Go.Proofs.YtdeffkhkhpjodaaW.PrintWords Go.Proofs.YtdeffkhkhpjodaaW.PrintLast Go.Proofs.YtdeffkhkhpjodaaW.PrintMore
set_option linter.unusedVariables false
set_option linter.unusedSimpArgs false

/-! ### wrap -/
theorem wr {n : Int} (h0 : -9223372036854775808 ≤ n) (h1 : n ≤ 9223372036854775807) : wrap64 n = n := by
  unfold wrap64; omega
theorem wf64 {n : Int} (h : (Lit.int .i64 n).wf = true) : -9223372036854775808 ≤ n ∧ n ≤ 9223372036854775807 := bounds_i64 h

/-! ### bytes -/
theorem rd_nat (xs : List Int) (i : Nat) (h : i < xs.length) : rd xs (i : Int) = xs[i] := by
  unfold rd; rw [Int.toNat_natCast, List.getD_eq_getElem?_getD, List.getElem?_eq_getElem h]; rfl
theorem fill_take {α β : Type} (conv : α → β) (xs : List α) (ys : List β) (i : Nat) (hl : ys.length = xs.length) (hi : i < xs.length) (h : ys.take i = (xs.take i).map conv) :
    (ys.set i (conv xs[i])).take (i + 1) = (xs.take (i + 1)).map conv := by
  rw [List.take_succ_eq_append_getElem (by rw [List.length_set]; omega), List.take_succ_eq_append_getElem hi, List.getElem_set_self, List.map_append, List.take_set_of_le (Nat.le_refl i), h]; rfl
theorem wr_succ {i n : Nat} (h : i < n) (hn : n ≤ 140737488355328) : wrap64 ((i : Int) + 1) = ((i + 1 : Nat) : Int) := by
  rw [wr (by omega) (by omega)]; omega
theorem toByteS_l0 (xs : List Int) (hx : xs.length ≤ 140737488355328) (d : Nat) : ∀ (k i : Nat) (ys : List Int), ys.length = xs.length → i + d = xs.length → ys.take i = (xs.take i).map (fun n => n) → d < k →
    laws_toByteS.l0 k xs ys (i : Int) = some xs := by
  induction d with
  | zero =>
    intro k i ys hl hi hy hk
    obtain ⟨k, rfl⟩ : ∃ m, k = m + 1 := ⟨k - 1, by omega⟩
    simp only [laws_toByteS.l0]
    rw [if_neg (by omega)]
    rw [List.take_of_length_le (by omega), List.take_of_length_le (by omega), List.map_id'] at hy
    rw [hy]
  | succ d ih =>
    intro k i ys hl hi hy hk
    obtain ⟨k, rfl⟩ : ∃ m, k = m + 1 := ⟨k - 1, by omega⟩
    simp only [laws_toByteS.l0]
    rw [if_pos (by omega), if_pos (by omega), if_pos (by omega), rd_nat xs i (by omega), Int.toNat_natCast, wr_succ (n := xs.length) (by omega) hx]
    exact ih k (i + 1) _ (by rw [List.length_set]; exact hl) (by omega) (fill_take (fun n => n) xs ys i hl (by omega) hy) (by omega)
theorem toByteS_some (k : Nat) (xs : List Int) (hx : xs.length ≤ 140737488355328) (hk : xs.length < k) : laws_toByteS.f k xs = some xs := by
  unfold laws_toByteS.f
  rw [if_pos (by omega), if_pos (by omega)]
  exact toByteS_l0 xs hx xs.length k 0 _ (by simp) (by omega) (by simp) hk
theorem eqByteS_l0 (xs : List Int) (hx : xs.length ≤ 140737488355328) (d : Nat) : ∀ (k i : Nat), i + d = xs.length → d < k → laws_eqByteS.l0 k xs xs (i : Int) = some true := by
  induction d with
  | zero =>
    intro k i hi hk
    obtain ⟨k, rfl⟩ : ∃ m, k = m + 1 := ⟨k - 1, by omega⟩
    simp only [laws_eqByteS.l0]
    rw [if_neg (by omega)]
  | succ d ih =>
    intro k i hi hk
    obtain ⟨k, rfl⟩ : ∃ m, k = m + 1 := ⟨k - 1, by omega⟩
    simp only [laws_eqByteS.l0]
    rw [if_pos (by omega), if_pos (by omega), if_pos (by omega), wr_succ (n := xs.length) (by omega) hx]
    simp only [if_true]
    exact ih k (i + 1) (by omega) (by omega)
theorem eqByteS_same (k : Nat) (xs : List Int) (hx : xs.length ≤ 140737488355328) (hk : xs.length < k) : laws_eqByteS.f k xs xs = some true := by
  unfold laws_eqByteS.f
  rw [if_pos rfl]
  exact eqByteS_l0 xs hx xs.length k 0 (by omega) hk
theorem byte_bounds {xs : List Int} (h : ∀ x ∈ xs, (Lit.int .u8 x).wf = true) (i : Int) : 0 ≤ rd xs i ∧ rd xs i ≤ 255 := by
  unfold rd
  rw [List.getD_eq_getElem?_getD]
  exact range_u8 h _

/-! ### get2 -/
theorem or_bytes (a b : Int) (ha : 0 ≤ a ∧ a ≤ 255) (hb : 0 ≤ b ∧ b ≤ 255) : Go.bits .or .i64 (a * 256) b = 256 * a + b := by
  rw [bits_join .i64 16 (by decide) (fun n h0 h1 => by rw [IntKind.wrap_i64]; omega) 8 (a * 256) b (by omega) (by omega) (by omega) (by omega) (by omega) (by omega)]
  omega
def get2v (l : List Int) (i : Int) : Int × Bool := if i < 0 then (0, false) else if i > (l.length : Int) - 2 then (0, false) else (256 * rd l i + rd l (i + 1), true)
theorem get2_spec (l : List Int) (i : Int) (hl : l.length ≤ 140737488355328) (hb : ∀ x ∈ l, (Lit.int .u8 x).wf = true) (hi : (Lit.int .i64 i).wf = true) : spec_Get2.f l i = some (get2v l i) := by
  have hi := wf64 hi
  unfold spec_Get2.f get2v
  by_cases h1 : i < 0
  · rw [if_pos h1, if_pos h1]
  · rw [if_neg h1, if_neg h1, wr (n := (l.length : Int) - 2) (by omega) (by omega)]
    by_cases h2 : i > (l.length : Int) - 2
    · rw [if_pos h2, if_pos h2]
    · have b0 := byte_bounds hb i
      have b1 := byte_bounds hb (i + 1)
      rw [if_neg h2, if_neg h2, if_pos (by omega), if_pos (by omega), wr (n := i + 1) (by omega) (by omega), if_pos (by omega), if_pos (by omega)]
      rw [wr (n := rd l i) (by omega) (by omega), wr (n := rd l (i + 1)) (by omega) (by omega), wr (n := 256 * rd l i) (by omega) (by omega), wr (by omega) (by omega)]
theorem get2_impl (l : List Int) (i : Int) (hl : l.length ≤ 140737488355328) (hb : ∀ x ∈ l, (Lit.int .u8 x).wf = true) (hi : (Lit.int .i64 i).wf = true) : impl_Get2.f l i = some (get2v l i) := by
  have hi := wf64 hi
  unfold impl_Get2.f get2v
  by_cases h1 : i < 0
  · rw [if_pos h1, if_pos h1]
  · rw [if_neg h1, if_neg h1, wr (n := (l.length : Int) - 2) (by omega) (by omega)]
    by_cases h2 : i > (l.length : Int) - 2
    · rw [if_pos h2, if_pos h2]
    · have b0 := byte_bounds hb i
      have b1 := byte_bounds hb (i + 1)
      rw [if_neg h2, if_neg h2, if_pos (by omega), if_pos (by omega), wr (n := i + 1) (by omega) (by omega), if_pos (by omega), if_pos (by omega)]
      rw [wr (n := rd l i) (by omega) (by omega), wr (n := rd l (i + 1)) (by omega) (by omega), wr (n := rd l i * 256) (by omega) (by omega), or_bytes _ _ b0 b1]

theorem pure_law (l : List Int) (i : Int) (hm : l.length ≤ maxLen) (hb : ∀ x ∈ l, (Lit.int .u8 x).wf = true) (hi : (Lit.int .i64 i).wf = true) : ∃ k, laws_FnExactGet2.f k l i = some true := by
  refine ⟨l.length + 2, ?_⟩
  unfold laws_FnExactGet2.f
  split
  · rfl
  · rename_i hs
    have hl2 : l.length ≤ 140737488355328 := by omega
    rw [toByteS_some (l.length + 2) l hl2 (by omega)]
    simp only [Option.bind_some, get2_spec l i hl2 hb hi, get2_impl l i hl2 hb hi, if_true, bne_self_eq_false, laws_FnExactGet2.j0]
    rw [toByteS_some (l.length + 1) l hl2 (by omega)]
    simp only [Option.bind_some, eqByteS_same (l.length + 1) l hl2 (by omega)]
    simp
end Go.Proofs.Ytdeffkhkhpjodaa.PureFnExactGet2
