/- The pure statement of FnExactPad: the padded bytes are what the reference tells, and are no memory of another, for all bytes and lengths; condition: the list's length is a length. -/
import Derived.Test.YtcjbjmbflonieaaPFnExactPadx2
import Derived.OpenShut
namespace Go.Proofs.Ytcjbjmbflonieaa.PureFnExactPad
open Go.RowKit Go.Proofs.Ytcjbjmbflonieaa.PFnExactPad Go.Proofs.YtcjbjmbflonieaaW.PrintWords Go.Proofs.YtcjbjmbflonieaaW.PrintLast Go.Proofs.YtcjbjmbflonieaaW.PrintMore
set_option linter.unusedVariables false
set_option linter.unusedSimpArgs false

/-! ### wrap -/
theorem wr {n : Int} (h0 : -9223372036854775808 ≤ n) (h1 : n ≤ 9223372036854775807) : wrap64 n = n := by
  unfold wrap64; omega
theorem wf64 {n : Int} (h : (Lit.int .i64 n).wf = true) : -9223372036854775808 ≤ n ∧ n ≤ 9223372036854775807 := bounds_i64 h

/-! ### basic -/
theorem rd_nat (xs : List Int) (i : Nat) (h : i < xs.length) : rd xs (i : Int) = xs[i] := by
  unfold rd; rw [Int.toNat_natCast, List.getD_eq_getElem?_getD, List.getElem?_eq_getElem h]; rfl
theorem fill_take {α β : Type} (conv : α → β) (xs : List α) (ys : List β) (i : Nat) (hl : ys.length = xs.length) (hi : i < xs.length) (h : ys.take i = (xs.take i).map conv) :
    (ys.set i (conv xs[i])).take (i + 1) = (xs.take (i + 1)).map conv := by
  rw [List.take_succ_eq_append_getElem (by rw [List.length_set]; omega), List.take_succ_eq_append_getElem hi, List.getElem_set_self, List.map_append, List.take_set_of_le (Nat.le_refl i), h]; rfl
theorem wr_succ {i n : Nat} (h : i < n) (hn : n ≤ 140737488355328) : wrap64 ((i : Int) + 1) = ((i + 1 : Nat) : Int) := by
  rw [wr (by omega) (by omega)]; omega
theorem byte_bounds {xs : List Int} (h : ∀ x ∈ xs, (Lit.int .u8 x).wf = true) (i : Int) : 0 ≤ rd xs i ∧ rd xs i ≤ 255 := by
  unfold rd
  rw [List.getD_eq_getElem?_getD]
  exact range_u8 h _

/-! ### clone -/
theorem clone_bytes (l : List Int) (h : l.length < 140737488355328) : slices_Clone_byte_byte.f l = some l := by
  unfold slices_Clone_byte_byte.f
  simp only [Option.bind_some, List.nil_append, List.length_nil, Nat.zero_add]
  rw [if_pos h]

/-! ### pad -/
def padv (l : List Int) (n : Int) : List Int := if n > 64 then l else l ++ List.replicate (n - (l.length : Int)).toNat 0
theorem pad_step (l : List Int) (n : Int) (h : (l.length : Int) < n) : (l ++ [0]) ++ List.replicate (n - ((l ++ [0]).length : Int)).toNat 0 = l ++ List.replicate (n - (l.length : Int)).toNat 0 := by
  have e : (n - (l.length : Int)).toNat = (n - ((l ++ [0]).length : Int)).toNat + 1 := by rw [List.length_append]; simp; omega
  rw [e, List.replicate_succ, List.append_assoc]; rfl
theorem pad_spec_l0 (n : Int) (hn : n ≤ 64) : ∀ (k : Nat) (l : List Int), (n - (l.length : Int)).toNat < k → spec_Pad.l0 k n l = some (l ++ List.replicate (n - (l.length : Int)).toNat 0)
  | 0, _, h => by omega
  | k + 1, l, h => by
    simp only [spec_Pad.l0]
    by_cases h1 : (l.length : Int) < n
    · rw [if_pos h1, if_pos hn, if_pos (by omega), pad_spec_l0 n hn k (l ++ [0]) (by rw [List.length_append]; simp; omega), pad_step l n h1]
    · rw [if_neg h1, show (n - (l.length : Int)).toNat = 0 by omega]; simp
theorem pad_impl_l0 (n : Int) (hn : n ≤ 64) : ∀ (k : Nat) (l : List Int), (n - (l.length : Int)).toNat < k → impl_Pad.l0 k n l = some (l ++ List.replicate (n - (l.length : Int)).toNat 0)
  | 0, _, h => by omega
  | k + 1, l, h => by
    simp only [impl_Pad.l0]
    by_cases h1 : (l.length : Int) < n
    · rw [if_pos h1, if_pos (by omega), pad_impl_l0 n hn k (l ++ [0]) (by rw [List.length_append]; simp; omega), pad_step l n h1]
    · rw [if_neg h1, show (n - (l.length : Int)).toNat = 0 by omega]; simp
theorem pad_spec (k : Nat) (l : List Int) (n : Int) (hl : l.length ≤ 1048576) (hk : 65 < k) : spec_Pad.f k l n = some (padv l n) := by
  unfold spec_Pad.f padv
  simp only [Option.bind_some, List.nil_append, List.length_nil, Nat.zero_add]
  rw [if_pos (by omega)]
  by_cases h : n > 64
  · rw [if_pos h]
    obtain ⟨k, rfl⟩ : ∃ m, k = m + 1 := ⟨k - 1, by omega⟩
    simp only [spec_Pad.l0]
    by_cases h1 : (l.length : Int) < n
    · rw [if_pos h1, if_neg (by omega)]
    · rw [if_neg h1]
  · rw [if_neg h, pad_spec_l0 n (by omega) k l (by omega)]
theorem pad_impl (k : Nat) (l : List Int) (n : Int) (hl : l.length ≤ 1048576) (hk : 65 < k) : impl_Pad.f k l n = some (padv l n) := by
  unfold impl_Pad.f padv
  rw [clone_bytes l (by omega)]
  simp only [Option.bind_some]
  by_cases h : n > 64
  · rw [if_pos h, if_pos h]
  · rw [if_neg h, if_neg h, pad_impl_l0 n (by omega) k l (by omega)]
theorem padv_len (l : List Int) (n : Int) : (padv l n).length ≤ l.length + 64 ∧ l.length ≤ (padv l n).length := by
  unfold padv
  split
  · omega
  · rw [List.length_append, List.length_replicate]; omega

/-! ### toB -/
theorem toByteS_l0 (xs : List Int) (hx : xs.length ≤ 140737488355328) (d : Nat) : ∀ (k i : Nat) (ys : List Int), ys.length = xs.length → i + d = xs.length → ys.take i = (xs.take i).map (fun n => n) → d < k →
    laws_toByteS.l0 k xs ys (i : Int) = some xs := by
  induction d with
  | zero =>
    intro k i ys hl hi hy hk
    obtain ⟨k, rfl⟩ : ∃ m, k = m + 1 := ⟨k - 1, by omega⟩
    simp only [laws_toByteS.l0]
    rw [if_neg (by omega)]
    rw [List.take_of_length_le (by omega), List.take_of_length_le (by omega), List.map_id'] at hy
    rw [hy]
  | succ d ih =>
    intro k i ys hl hi hy hk
    obtain ⟨k, rfl⟩ : ∃ m, k = m + 1 := ⟨k - 1, by omega⟩
    simp only [laws_toByteS.l0]
    rw [if_pos (by omega), if_pos (by omega), if_pos (by omega), rd_nat xs i (by omega), Int.toNat_natCast, wr_succ (n := xs.length) (by omega) hx]
    exact ih k (i + 1) _ (by rw [List.length_set]; exact hl) (by omega) (fill_take (fun n => n) xs ys i hl (by omega) hy) (by omega)
theorem toByteS_some (k : Nat) (xs : List Int) (hx : xs.length ≤ 140737488355328) (hk : xs.length < k) : laws_toByteS.f k xs = some xs := by
  unfold laws_toByteS.f
  rw [if_pos (by omega), if_pos (by omega)]
  exact toByteS_l0 xs hx xs.length k 0 _ (by simp) (by omega) (by simp) hk

/-! ### eqB -/
theorem eqByteS_l0 (xs : List Int) (hx : xs.length ≤ 140737488355328) (d : Nat) : ∀ (k i : Nat), i + d = xs.length → d < k → laws_eqByteS.l0 k xs xs (i : Int) = some true := by
  induction d with
  | zero =>
    intro k i hi hk
    obtain ⟨k, rfl⟩ : ∃ m, k = m + 1 := ⟨k - 1, by omega⟩
    simp only [laws_eqByteS.l0]
    rw [if_neg (by omega)]
  | succ d ih =>
    intro k i hi hk
    obtain ⟨k, rfl⟩ : ∃ m, k = m + 1 := ⟨k - 1, by omega⟩
    simp only [laws_eqByteS.l0]
    rw [if_pos (by omega), if_pos (by omega), if_pos (by omega), wr_succ (n := xs.length) (by omega) hx]
    simp only [if_true]
    exact ih k (i + 1) (by omega) (by omega)
theorem eqByteS_same (k : Nat) (xs : List Int) (hx : xs.length ≤ 140737488355328) (hk : xs.length < k) : laws_eqByteS.f k xs xs = some true := by
  unfold laws_eqByteS.f
  rw [if_pos rfl]
  exact eqByteS_l0 xs hx xs.length k 0 (by omega) hk

/-! ### bytes -/


/-! ### rows -/
theorem filled {α β : Type} (conv : α → β) (xs : List α) (ys : List β) (hl : ys.length = xs.length) (i : Nat) (hi : i = xs.length) (h : ys.take i = (xs.take i).map conv) : ys = xs.map conv := by
  rw [List.take_of_length_le (by omega), List.take_of_length_le (by omega)] at h; exact h

/-! ### marks -/
theorem set_take {α : Type} (f : Nat → α) (ys : List α) (i n : Nat) (hl : ys.length = n) (hi : i < n) (h : ys.take i = (List.range i).map f) : (ys.set i (f i)).take (i + 1) = (List.range (i + 1)).map f := by
  rw [List.take_succ_eq_append_getElem (by rw [List.length_set]; omega), List.getElem_set_self, List.take_set_of_le (Nat.le_refl i), h, List.range_succ, List.map_append]; rfl
theorem take_all {α : Type} (f : Nat → α) (ys : List α) (i n : Nat) (hl : ys.length = n) (hi : i = n) (h : ys.take i = (List.range i).map f) : ys = (List.range n).map f := by
  subst hi; rw [List.take_of_length_le (by omega)] at h; exact h

/-! ### markB -/
def mkB (j : Nat) : Int := ((j : Int) + 1) % 256
theorem markByteS_l0 (n : Nat) (hn : n ≤ 140737488355328) (d : Nat) : ∀ (k i : Nat) (ys : List Int), ys.length = n → i + d = n → ys.take i = (List.range i).map mkB → d < k →
    laws_markByteS.l0 k ys ((i : Int) + 1) (i : Int) = some ((n : Int) + 1, (List.range n).map mkB) := by
  induction d with
  | zero =>
    intro k i ys hl hi hy hk
    obtain ⟨k, rfl⟩ : ∃ m, k = m + 1 := ⟨k - 1, by omega⟩
    simp only [laws_markByteS.l0]
    rw [if_neg (by omega), take_all mkB ys i n hl (by omega) hy]
    congr 2; omega
  | succ d ih =>
    intro k i ys hl hi hy hk
    obtain ⟨k, rfl⟩ : ∃ m, k = m + 1 := ⟨k - 1, by omega⟩
    simp only [laws_markByteS.l0]
    rw [if_pos (by omega), if_pos (by omega), Int.toNat_natCast, wr (n := (i : Int) + 1 + 1) (by omega) (by omega), wr_succ (n := n) (by omega) hn]
    have := ih k (i + 1) (ys.set i (mkB i)) (by rw [List.length_set]; exact hl) (by omega) (set_take mkB ys i n hl (by omega) hy) (by omega)
    rw [← this, Int.natCast_succ]; rfl
theorem markByteS_some (k : Nat) (xs : List Int) (hn : xs.length ≤ 140737488355328) (hk : xs.length < k) : laws_markByteS.f k xs 1 = some ((xs.length : Int) + 1, (List.range xs.length).map mkB) := by
  unfold laws_markByteS.f
  exact markByteS_l0 xs.length hn xs.length k 0 xs rfl (by omega) (by simp) hk
theorem heldByteS_l0 (n : Nat) (hn : n ≤ 140737488355328) (d : Nat) : ∀ (k i : Nat), i + d = n → d < k →
    laws_heldByteS.l0 k ((List.range n).map mkB) ((i : Int) + 1) (i : Int) = some ((n : Int) + 1) := by
  have hl : ((List.range n).map mkB).length = n := by simp
  induction d with
  | zero =>
    intro k i hi hk
    obtain ⟨k, rfl⟩ : ∃ m, k = m + 1 := ⟨k - 1, by omega⟩
    simp only [laws_heldByteS.l0]
    rw [if_neg (by omega)]
    congr 1; omega
  | succ d ih =>
    intro k i hi hk
    obtain ⟨k, rfl⟩ : ∃ m, k = m + 1 := ⟨k - 1, by omega⟩
    simp only [laws_heldByteS.l0]
    have hr : rd ((List.range n).map mkB) (i : Int) = ((i : Int) + 1) % 256 := by
      rw [rd_nat _ i (by omega)]; simp [mkB]
    rw [if_pos (by omega), if_pos (by omega), hr, if_pos rfl, wr (n := (i : Int) + 1 + 1) (by omega) (by omega), wr_succ (n := n) (by omega) hn]
    have := ih k (i + 1) (by omega) (by omega)
    rw [← this, Int.natCast_succ]
theorem heldByteS_some (k n : Nat) (hn : n ≤ 140737488355328) (hk : n < k) : laws_heldByteS.f k ((List.range n).map mkB) 1 = some ((n : Int) + 1) := by
  unfold laws_heldByteS.f
  exact heldByteS_l0 n hn n k 0 (by omega) hk

theorem pure_law (l : List Int) (i : Int) (hm : l.length ≤ maxLen) (hb : ∀ x ∈ l, (Lit.int .u8 x).wf = true) (hi : (Lit.int .i64 i).wf = true) : ∃ k, laws_FnExactPad.f k l i = some true := by
  refine ⟨l.length + 100, ?_⟩
  unfold laws_FnExactPad.f
  split
  · rfl
  · rename_i hs
    have hp := padv_len l i
    rw [toByteS_some (l.length + 100) l (by omega) (by omega)]
    simp only [Option.bind_some]
    rw [pad_spec (l.length + 100) l i (by omega) (by omega), pad_impl (l.length + 100) l i (by omega) (by omega)]
    simp only [Option.bind_some]
    rw [eqByteS_same (l.length + 100) _ (by omega) (by omega)]
    simp only [Option.bind_some, if_true]
    rw [eqByteS_same (l.length + 100) _ (by omega) (by omega)]
    simp only [Option.bind_some, if_true]
    rw [markByteS_some (l.length + 100) l (by omega) (by omega)]
    simp only [Option.bind_some]
    rw [if_neg (by omega)]
    simp only [laws_FnExactPad.j0, Bool.not_true]
    rw [if_neg (by simp), markByteS_some (l.length + 99) _ (by omega) (by omega)]
    simp only [Option.bind_some]
    rw [heldByteS_some (l.length + 99) _ (by omega) (by omega)]
    simp only [Option.bind_some]
    rw [if_neg (by omega), if_pos trivial, toByteS_some (l.length + 99) l (by omega) (by omega)]
    simp only [Option.bind_some]
    rw [pad_impl (l.length + 99) l i (by omega) (by omega)]
    simp only [Option.bind_some]
    rw [eqByteS_same (l.length + 99) _ (by omega) (by omega)]
    simp only [Option.bind_some, if_true]
    rw [if_neg (by omega)]
end Go.Proofs.Ytcjbjmbflonieaa.PureFnExactPad
