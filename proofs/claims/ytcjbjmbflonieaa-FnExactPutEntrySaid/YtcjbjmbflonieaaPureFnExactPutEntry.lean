/- The pure statement of FnExactPutEntry: the bytes of an entry are what the reference tells, and are no memory of another, for all entries; no condition. -/
import Derived.Test.YtcjbjmbflonieaaPFnExactPutEntryx3
import Derived.OpenShut
namespace Go.Proofs.Ytcjbjmbflonieaa.PureFnExactPutEntry
open Go.RowKit Go.Proofs.Ytcjbjmbflonieaa.PFnExactPutEntry Go.Proofs.YtcjbjmbflonieaaW.PrintWords Go.Proofs.YtcjbjmbflonieaaW.PrintLast Go.Proofs.YtcjbjmbflonieaaW.PrintMore
set_option linter.unusedVariables false
set_option linter.unusedSimpArgs false

/-! ### wrap -/
theorem wr {n : Int} (h0 : -9223372036854775808 ≤ n) (h1 : n ≤ 9223372036854775807) : wrap64 n = n := by
  unfold wrap64; omega
theorem wf64 {n : Int} (h : (Lit.int .i64 n).wf = true) : -9223372036854775808 ≤ n ∧ n ≤ 9223372036854775807 := bounds_i64 h

/-! ### basic -/
theorem rd_nat (xs : List Int) (i : Nat) (h : i < xs.length) : rd xs (i : Int) = xs[i] := by
  unfold rd; rw [Int.toNat_natCast, List.getD_eq_getElem?_getD, List.getElem?_eq_getElem h]; rfl
theorem fill_take {α β : Type} (conv : α → β) (xs : List α) (ys : List β) (i : Nat) (hl : ys.length = xs.length) (hi : i < xs.length) (h : ys.take i = (xs.take i).map conv) :
    (ys.set i (conv xs[i])).take (i + 1) = (xs.take (i + 1)).map conv := by
  rw [List.take_succ_eq_append_getElem (by rw [List.length_set]; omega), List.take_succ_eq_append_getElem hi, List.getElem_set_self, List.map_append, List.take_set_of_le (Nat.le_refl i), h]; rfl
theorem wr_succ {i n : Nat} (h : i < n) (hn : n ≤ 140737488355328) : wrap64 ((i : Int) + 1) = ((i + 1 : Nat) : Int) := by
  rw [wr (by omega) (by omega)]; omega
theorem byte_bounds {xs : List Int} (h : ∀ x ∈ xs, (Lit.int .u8 x).wf = true) (i : Int) : 0 ≤ rd xs i ∧ rd xs i ≤ 255 := by
  unfold rd
  rw [List.getD_eq_getElem?_getD]
  exact range_u8 h _

/-! ### clone -/
theorem clone_bytes (l : List Int) (h : l.length < 140737488355328) : slices_Clone_byte_byte.f l = some l := by
  unfold slices_Clone_byte_byte.f
  simp only [Option.bind_some, List.nil_append, List.length_nil, Nat.zero_add]
  rw [if_pos h]

/-! ### inn -/
theorem l1In_val (x a b : Int) : spec_l1In.f x a b = some (decide (a ≤ x ∧ x ≤ b)) := by
  unfold spec_l1In.f
  by_cases h : x ≥ a
  · rw [if_pos h]; simp [show a ≤ x from h]
  · rw [if_neg h]; simp [show ¬ a ≤ x from h]
theorem in_val (x a b : Int) : impl_in.f x a b = some (decide (a ≤ x ∧ x ≤ b)) := by
  unfold impl_in.f
  by_cases h : a ≤ x
  · rw [if_pos h]; simp [h]
  · rw [if_neg h]; simp [h]

/-! ### put2 -/
def put2v (l : List Int) (n : Int) : List Int := if 0 ≤ n ∧ n ≤ 65535 then l ++ [n / 256, n % 256] else l
theorem put2_spec (l : List Int) (n : Int) (hl : l.length ≤ 1048576) : spec_Put2.f l n = some (put2v l n) := by
  unfold spec_Put2.f put2v
  simp only [Option.bind_some, List.nil_append, List.length_nil, Nat.zero_add, l1In_val, decide_eq_true_eq]
  rw [if_pos (by omega)]
  by_cases h : 0 ≤ n ∧ n ≤ 65535
  · have e1 : (wrap64 (Int.tdiv n 256)) % 256 = n / 256 := by
      rw [Int.tdiv_eq_ediv_of_nonneg (by omega), wr (by omega) (by omega)]; omega
    have e2 : (Int.tmod n 256) % 256 = n % 256 := by rw [Int.tmod_eq_emod_of_nonneg (by omega)]; omega
    rw [if_pos h, if_pos h, e1, e2, if_pos (by simp; omega)]
  · rw [if_neg h, if_neg h]
theorem put2_impl (l : List Int) (n : Int) (hl : l.length ≤ 1048576) : impl_Put2.f l n = some (put2v l n) := by
  unfold impl_Put2.f put2v
  rw [clone_bytes l (by omega)]
  simp only [Option.bind_some, in_val, decide_eq_true_eq]
  by_cases h : 0 ≤ n ∧ n ≤ 65535
  · have e1 : (n / 256) % 256 = n / 256 := by omega
    rw [if_pos h, if_pos h, e1, if_pos (by simp; omega)]
  · rw [if_neg h, if_neg h]
theorem put2v_len (l : List Int) (n : Int) : (put2v l n).length ≤ l.length + 2 ∧ l.length ≤ (put2v l n).length := by
  unfold put2v
  split
  · rw [List.length_append]; simp
  · omega

/-! ### boxok -/
def okb (a b c d : Int) : Bool := decide (0 ≤ a ∧ a ≤ c ∧ c ≤ 255 ∧ 0 ≤ b ∧ b ≤ d ∧ d ≤ 255)
theorem okb_iff (a b c d : Int) : okb a b c d = true ↔ 0 ≤ a ∧ a ≤ c ∧ c ≤ 255 ∧ 0 ≤ b ∧ b ≤ d ∧ d ≤ 255 := by unfold okb; exact decide_eq_true_iff
theorem boxok_spec (a b c d : Int) : spec_BoxOk.f a b c d = some (okb a b c d) := by
  unfold spec_BoxOk.f
  simp only [l1In_val, Option.bind_some, okb, decide_eq_true_eq]
  by_cases h1 : 0 ≤ a ∧ a ≤ 255
  · rw [if_pos h1]
    by_cases h2 : 0 ≤ b ∧ b ≤ 255
    · rw [if_pos h2]
      by_cases h3 : a ≤ c ∧ c ≤ 255
      · rw [if_pos h3]; congr 1; apply decide_eq_decide.mpr; omega
      · rw [if_neg h3]; congr 1; symm; apply decide_eq_false; omega
    · rw [if_neg h2]; congr 1; symm; apply decide_eq_false; omega
  · rw [if_neg h1]; congr 1; symm; apply decide_eq_false; omega
theorem boxok_impl (a b c d : Int) : impl_BoxOk.f a b c d = some (okb a b c d) := by
  unfold impl_BoxOk.f
  simp only [in_val, Option.bind_some, okb, decide_eq_true_eq]
  by_cases h1 : 0 ≤ a ∧ a ≤ c
  · rw [if_pos h1]
    by_cases h2 : 0 ≤ c ∧ c ≤ 255
    · rw [if_pos h2]
      by_cases h3 : 0 ≤ b ∧ b ≤ d
      · rw [if_pos h3]; congr 1; apply decide_eq_decide.mpr; omega
      · rw [if_neg h3]; congr 1; symm; apply decide_eq_false; omega
    · rw [if_neg h2]; congr 1; symm; apply decide_eq_false; omega
  · rw [if_neg h1]; congr 1; symm; apply decide_eq_false; omega

/-! ### putentry -/
def putentryv (n a b c d : Int) : List Int := if 0 ≤ n ∧ n ≤ 65535 then (if okb a b c d = true then [n / 256, n % 256, a % 256, b % 256, c % 256, d % 256] else []) else []
theorem putentry_spec (n a b c d : Int) : spec_PutEntry.f n a b c d = some (putentryv n a b c d) := by
  unfold spec_PutEntry.f putentryv
  simp only [l1In_val, boxok_spec, Option.bind_some, decide_eq_true_eq]
  by_cases h : 0 ≤ n ∧ n ≤ 65535
  · rw [if_pos h, if_pos h]
    by_cases h1 : okb a b c d = true
    · rw [if_pos h1, if_pos h1, put2_spec [] n (by simp)]
      simp only [Option.bind_some]
      unfold put2v
      rw [if_pos h, if_pos (by simp)]; rfl
    · rw [if_neg h1, if_neg h1]
  · rw [if_neg h, if_neg h]
theorem putentry_impl (n a b c d : Int) : impl_PutEntry.f n a b c d = some (putentryv n a b c d) := by
  unfold impl_PutEntry.f putentryv
  simp only [in_val, boxok_impl, Option.bind_some, decide_eq_true_eq]
  by_cases h : 0 ≤ n ∧ n ≤ 65535
  · rw [if_pos h, if_pos h]
    by_cases h1 : okb a b c d = true
    · rw [if_pos h1, if_pos h1, put2_impl [] n (by simp)]
      simp only [Option.bind_some]
      unfold put2v
      rw [if_pos h, if_pos (by simp)]; rfl
    · rw [if_neg h1, if_neg h1]
  · rw [if_neg h, if_neg h]
theorem putentryv_len (n a b c d : Int) : (putentryv n a b c d).length ≤ 6 := by
  unfold putentryv
  split
  · split <;> simp
  · simp

/-! ### eqB -/
theorem eqByteS_l0 (xs : List Int) (hx : xs.length ≤ 140737488355328) (d : Nat) : ∀ (k i : Nat), i + d = xs.length → d < k → laws_eqByteS.l0 k xs xs (i : Int) = some true := by
  induction d with
  | zero =>
    intro k i hi hk
    obtain ⟨k, rfl⟩ : ∃ m, k = m + 1 := ⟨k - 1, by omega⟩
    simp only [laws_eqByteS.l0]
    rw [if_neg (by omega)]
  | succ d ih =>
    intro k i hi hk
    obtain ⟨k, rfl⟩ : ∃ m, k = m + 1 := ⟨k - 1, by omega⟩
    simp only [laws_eqByteS.l0]
    rw [if_pos (by omega), if_pos (by omega), if_pos (by omega), wr_succ (n := xs.length) (by omega) hx]
    simp only [if_true]
    exact ih k (i + 1) (by omega) (by omega)
theorem eqByteS_same (k : Nat) (xs : List Int) (hx : xs.length ≤ 140737488355328) (hk : xs.length < k) : laws_eqByteS.f k xs xs = some true := by
  unfold laws_eqByteS.f
  rw [if_pos rfl]
  exact eqByteS_l0 xs hx xs.length k 0 (by omega) hk

/-! ### rows -/
theorem filled {α β : Type} (conv : α → β) (xs : List α) (ys : List β) (hl : ys.length = xs.length) (i : Nat) (hi : i = xs.length) (h : ys.take i = (xs.take i).map conv) : ys = xs.map conv := by
  rw [List.take_of_length_le (by omega), List.take_of_length_le (by omega)] at h; exact h

/-! ### marks -/
theorem set_take {α : Type} (f : Nat → α) (ys : List α) (i n : Nat) (hl : ys.length = n) (hi : i < n) (h : ys.take i = (List.range i).map f) : (ys.set i (f i)).take (i + 1) = (List.range (i + 1)).map f := by
  rw [List.take_succ_eq_append_getElem (by rw [List.length_set]; omega), List.getElem_set_self, List.take_set_of_le (Nat.le_refl i), h, List.range_succ, List.map_append]; rfl
theorem take_all {α : Type} (f : Nat → α) (ys : List α) (i n : Nat) (hl : ys.length = n) (hi : i = n) (h : ys.take i = (List.range i).map f) : ys = (List.range n).map f := by
  subst hi; rw [List.take_of_length_le (by omega)] at h; exact h

/-! ### markB -/
def mkB (j : Nat) : Int := ((j : Int) + 1) % 256
theorem markByteS_l0 (n : Nat) (hn : n ≤ 140737488355328) (d : Nat) : ∀ (k i : Nat) (ys : List Int), ys.length = n → i + d = n → ys.take i = (List.range i).map mkB → d < k →
    laws_markByteS.l0 k ys ((i : Int) + 1) (i : Int) = some ((n : Int) + 1, (List.range n).map mkB) := by
  induction d with
  | zero =>
    intro k i ys hl hi hy hk
    obtain ⟨k, rfl⟩ : ∃ m, k = m + 1 := ⟨k - 1, by omega⟩
    simp only [laws_markByteS.l0]
    rw [if_neg (by omega), take_all mkB ys i n hl (by omega) hy]
    congr 2; omega
  | succ d ih =>
    intro k i ys hl hi hy hk
    obtain ⟨k, rfl⟩ : ∃ m, k = m + 1 := ⟨k - 1, by omega⟩
    simp only [laws_markByteS.l0]
    rw [if_pos (by omega), if_pos (by omega), Int.toNat_natCast, wr (n := (i : Int) + 1 + 1) (by omega) (by omega), wr_succ (n := n) (by omega) hn]
    have := ih k (i + 1) (ys.set i (mkB i)) (by rw [List.length_set]; exact hl) (by omega) (set_take mkB ys i n hl (by omega) hy) (by omega)
    rw [← this, Int.natCast_succ]; rfl
theorem markByteS_some (k : Nat) (xs : List Int) (hn : xs.length ≤ 140737488355328) (hk : xs.length < k) : laws_markByteS.f k xs 1 = some ((xs.length : Int) + 1, (List.range xs.length).map mkB) := by
  unfold laws_markByteS.f
  exact markByteS_l0 xs.length hn xs.length k 0 xs rfl (by omega) (by simp) hk
theorem heldByteS_l0 (n : Nat) (hn : n ≤ 140737488355328) (d : Nat) : ∀ (k i : Nat), i + d = n → d < k →
    laws_heldByteS.l0 k ((List.range n).map mkB) ((i : Int) + 1) (i : Int) = some ((n : Int) + 1) := by
  have hl : ((List.range n).map mkB).length = n := by simp
  induction d with
  | zero =>
    intro k i hi hk
    obtain ⟨k, rfl⟩ : ∃ m, k = m + 1 := ⟨k - 1, by omega⟩
    simp only [laws_heldByteS.l0]
    rw [if_neg (by omega)]
    congr 1; omega
  | succ d ih =>
    intro k i hi hk
    obtain ⟨k, rfl⟩ : ∃ m, k = m + 1 := ⟨k - 1, by omega⟩
    simp only [laws_heldByteS.l0]
    have hr : rd ((List.range n).map mkB) (i : Int) = ((i : Int) + 1) % 256 := by
      rw [rd_nat _ i (by omega)]; simp [mkB]
    rw [if_pos (by omega), if_pos (by omega), hr, if_pos rfl, wr (n := (i : Int) + 1 + 1) (by omega) (by omega), wr_succ (n := n) (by omega) hn]
    have := ih k (i + 1) (by omega) (by omega)
    rw [← this, Int.natCast_succ]
theorem heldByteS_some (k n : Nat) (hn : n ≤ 140737488355328) (hk : n < k) : laws_heldByteS.f k ((List.range n).map mkB) 1 = some ((n : Int) + 1) := by
  unfold laws_heldByteS.f
  exact heldByteS_l0 n hn n k 0 (by omega) hk

/-! ### box -/
theorem toBox_some (a b c d : Int) : laws_toBox.f a b c d = some (a, b, c, d) := rfl

/-! ### entry -/
theorem toEntry_some (n a b c d : Int) : laws_toEntry.f n a b c d = some (n, a, b, c, d) := rfl

theorem pure_law (n a b c d : Int) (w : (Lit.int .i64 n).wf = true) (w0 : (Lit.int .i64 a).wf = true) (w1 : (Lit.int .i64 b).wf = true) (w2 : (Lit.int .i64 c).wf = true) (w3 : (Lit.int .i64 d).wf = true) : ∃ k, laws_FnExactPutEntry.f k n a b c d = some true := by
  refine ⟨10, ?_⟩
  unfold laws_FnExactPutEntry.f
  have hp := putentryv_len n a b c d
  simp only [toEntry_some, Option.bind_some, putentry_spec, putentry_impl]
  rw [eqByteS_same 10 _ (by omega) (by omega)]
  simp only [Option.bind_some, if_true]
  rw [markByteS_some 10 _ (by omega) (by omega)]
  simp only [Option.bind_some]
  rw [heldByteS_some 10 _ (by omega) (by omega)]
  simp only [Option.bind_some]
  rw [if_neg (by omega), if_pos trivial, if_neg (by omega)]; rfl
end Go.Proofs.Ytcjbjmbflonieaa.PureFnExactPutEntry
