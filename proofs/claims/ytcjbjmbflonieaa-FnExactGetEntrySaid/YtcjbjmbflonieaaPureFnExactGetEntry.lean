/- The pure statement of FnExactGetEntry: the entry that is read out of bytes is what the reference tells, for all bytes and places; condition: the list's length is a length. -/
import Derived.Test.YtcjbjmbflonieaaPFnExactGetEntryx5
import Derived.OpenShut
import Derived.Laws.BitsLemmas
namespace Go.Proofs.Ytcjbjmbflonieaa.PureFnExactGetEntry
open Go.RowKit Go.Proofs.Ytcjbjmbflonieaa.PFnExactGetEntry Go.Proofs.YtcjbjmbflonieaaW.PrintWords Go.Proofs.YtcjbjmbflonieaaW.PrintLast Go.Proofs.YtcjbjmbflonieaaW.PrintMore
set_option linter.unusedVariables false
set_option linter.unusedSimpArgs false

/-! ### wrap -/
theorem wr {n : Int} (h0 : -9223372036854775808 ≤ n) (h1 : n ≤ 9223372036854775807) : wrap64 n = n := by
  unfold wrap64; omega
theorem wf64 {n : Int} (h : (Lit.int .i64 n).wf = true) : -9223372036854775808 ≤ n ∧ n ≤ 9223372036854775807 := bounds_i64 h

/-! ### basic -/
theorem rd_nat (xs : List Int) (i : Nat) (h : i < xs.length) : rd xs (i : Int) = xs[i] := by
  unfold rd; rw [Int.toNat_natCast, List.getD_eq_getElem?_getD, List.getElem?_eq_getElem h]; rfl
theorem fill_take {α β : Type} (conv : α → β) (xs : List α) (ys : List β) (i : Nat) (hl : ys.length = xs.length) (hi : i < xs.length) (h : ys.take i = (xs.take i).map conv) :
    (ys.set i (conv xs[i])).take (i + 1) = (xs.take (i + 1)).map conv := by
  rw [List.take_succ_eq_append_getElem (by rw [List.length_set]; omega), List.take_succ_eq_append_getElem hi, List.getElem_set_self, List.map_append, List.take_set_of_le (Nat.le_refl i), h]; rfl
theorem wr_succ {i n : Nat} (h : i < n) (hn : n ≤ 140737488355328) : wrap64 ((i : Int) + 1) = ((i + 1 : Nat) : Int) := by
  rw [wr (by omega) (by omega)]; omega
theorem byte_bounds {xs : List Int} (h : ∀ x ∈ xs, (Lit.int .u8 x).wf = true) (i : Int) : 0 ≤ rd xs i ∧ rd xs i ≤ 255 := by
  unfold rd
  rw [List.getD_eq_getElem?_getD]
  exact range_u8 h _

/-! ### bytes -/
theorem toByteS_l0 (xs : List Int) (hx : xs.length ≤ 140737488355328) (d : Nat) : ∀ (k i : Nat) (ys : List Int), ys.length = xs.length → i + d = xs.length → ys.take i = (xs.take i).map (fun n => n) → d < k →
    laws_toByteS.l0 k xs ys (i : Int) = some xs := by
  induction d with
  | zero =>
    intro k i ys hl hi hy hk
    obtain ⟨k, rfl⟩ : ∃ m, k = m + 1 := ⟨k - 1, by omega⟩
    simp only [laws_toByteS.l0]
    rw [if_neg (by omega)]
    rw [List.take_of_length_le (by omega), List.take_of_length_le (by omega), List.map_id'] at hy
    rw [hy]
  | succ d ih =>
    intro k i ys hl hi hy hk
    obtain ⟨k, rfl⟩ : ∃ m, k = m + 1 := ⟨k - 1, by omega⟩
    simp only [laws_toByteS.l0]
    rw [if_pos (by omega), if_pos (by omega), if_pos (by omega), rd_nat xs i (by omega), Int.toNat_natCast, wr_succ (n := xs.length) (by omega) hx]
    exact ih k (i + 1) _ (by rw [List.length_set]; exact hl) (by omega) (fill_take (fun n => n) xs ys i hl (by omega) hy) (by omega)
theorem toByteS_some (k : Nat) (xs : List Int) (hx : xs.length ≤ 140737488355328) (hk : xs.length < k) : laws_toByteS.f k xs = some xs := by
  unfold laws_toByteS.f
  rw [if_pos (by omega), if_pos (by omega)]
  exact toByteS_l0 xs hx xs.length k 0 _ (by simp) (by omega) (by simp) hk
theorem eqByteS_l0 (xs : List Int) (hx : xs.length ≤ 140737488355328) (d : Nat) : ∀ (k i : Nat), i + d = xs.length → d < k → laws_eqByteS.l0 k xs xs (i : Int) = some true := by
  induction d with
  | zero =>
    intro k i hi hk
    obtain ⟨k, rfl⟩ : ∃ m, k = m + 1 := ⟨k - 1, by omega⟩
    simp only [laws_eqByteS.l0]
    rw [if_neg (by omega)]
  | succ d ih =>
    intro k i hi hk
    obtain ⟨k, rfl⟩ : ∃ m, k = m + 1 := ⟨k - 1, by omega⟩
    simp only [laws_eqByteS.l0]
    rw [if_pos (by omega), if_pos (by omega), if_pos (by omega), wr_succ (n := xs.length) (by omega) hx]
    simp only [if_true]
    exact ih k (i + 1) (by omega) (by omega)
theorem eqByteS_same (k : Nat) (xs : List Int) (hx : xs.length ≤ 140737488355328) (hk : xs.length < k) : laws_eqByteS.f k xs xs = some true := by
  unfold laws_eqByteS.f
  rw [if_pos rfl]
  exact eqByteS_l0 xs hx xs.length k 0 (by omega) hk

/-! ### get2 -/
theorem or_bytes (a b : Int) (ha : 0 ≤ a ∧ a ≤ 255) (hb : 0 ≤ b ∧ b ≤ 255) : Go.bits .or .i64 (a * 256) b = 256 * a + b := by
  rw [bits_join .i64 16 (by decide) (fun n h0 h1 => by rw [IntKind.wrap_i64]; omega) 8 (a * 256) b (by omega) (by omega) (by omega) (by omega) (by omega) (by omega)]
  omega
def get2v (l : List Int) (i : Int) : Int × Bool := if i < 0 then (0, false) else if i > (l.length : Int) - 2 then (0, false) else (256 * rd l i + rd l (i + 1), true)
theorem get2_spec (l : List Int) (i : Int) (hl : l.length ≤ 140737488355328) (hb : ∀ x ∈ l, (Lit.int .u8 x).wf = true) (hi : (Lit.int .i64 i).wf = true) : spec_Get2.f l i = some (get2v l i) := by
  have hi := wf64 hi
  unfold spec_Get2.f get2v
  by_cases h1 : i < 0
  · rw [if_pos h1, if_pos h1]
  · rw [if_neg h1, if_neg h1, wr (n := (l.length : Int) - 2) (by omega) (by omega)]
    by_cases h2 : i > (l.length : Int) - 2
    · rw [if_pos h2, if_pos h2]
    · have b0 := byte_bounds hb i
      have b1 := byte_bounds hb (i + 1)
      rw [if_neg h2, if_neg h2, if_pos (by omega), if_pos (by omega), wr (n := i + 1) (by omega) (by omega), if_pos (by omega), if_pos (by omega)]
      rw [wr (n := rd l i) (by omega) (by omega), wr (n := rd l (i + 1)) (by omega) (by omega), wr (n := 256 * rd l i) (by omega) (by omega), wr (by omega) (by omega)]
theorem get2_impl (l : List Int) (i : Int) (hl : l.length ≤ 140737488355328) (hb : ∀ x ∈ l, (Lit.int .u8 x).wf = true) (hi : (Lit.int .i64 i).wf = true) : impl_Get2.f l i = some (get2v l i) := by
  have hi := wf64 hi
  unfold impl_Get2.f get2v
  by_cases h1 : i < 0
  · rw [if_pos h1, if_pos h1]
  · rw [if_neg h1, if_neg h1, wr (n := (l.length : Int) - 2) (by omega) (by omega)]
    by_cases h2 : i > (l.length : Int) - 2
    · rw [if_pos h2, if_pos h2]
    · have b0 := byte_bounds hb i
      have b1 := byte_bounds hb (i + 1)
      rw [if_neg h2, if_neg h2, if_pos (by omega), if_pos (by omega), wr (n := i + 1) (by omega) (by omega), if_pos (by omega), if_pos (by omega)]
      rw [wr (n := rd l i) (by omega) (by omega), wr (n := rd l (i + 1)) (by omega) (by omega), wr (n := rd l i * 256) (by omega) (by omega), or_bytes _ _ b0 b1]

/-! ### inn -/
theorem l1In_val (x a b : Int) : spec_l1In.f x a b = some (decide (a ≤ x ∧ x ≤ b)) := by
  unfold spec_l1In.f
  by_cases h : x ≥ a
  · rw [if_pos h]; simp [show a ≤ x from h]
  · rw [if_neg h]; simp [show ¬ a ≤ x from h]
theorem in_val (x a b : Int) : impl_in.f x a b = some (decide (a ≤ x ∧ x ≤ b)) := by
  unfold impl_in.f
  by_cases h : a ≤ x
  · rw [if_pos h]; simp [h]
  · rw [if_neg h]; simp [h]

/-! ### boxok -/
def okb (a b c d : Int) : Bool := decide (0 ≤ a ∧ a ≤ c ∧ c ≤ 255 ∧ 0 ≤ b ∧ b ≤ d ∧ d ≤ 255)
theorem okb_iff (a b c d : Int) : okb a b c d = true ↔ 0 ≤ a ∧ a ≤ c ∧ c ≤ 255 ∧ 0 ≤ b ∧ b ≤ d ∧ d ≤ 255 := by unfold okb; exact decide_eq_true_iff
theorem boxok_spec (a b c d : Int) : spec_BoxOk.f a b c d = some (okb a b c d) := by
  unfold spec_BoxOk.f
  simp only [l1In_val, Option.bind_some, okb, decide_eq_true_eq]
  by_cases h1 : 0 ≤ a ∧ a ≤ 255
  · rw [if_pos h1]
    by_cases h2 : 0 ≤ b ∧ b ≤ 255
    · rw [if_pos h2]
      by_cases h3 : a ≤ c ∧ c ≤ 255
      · rw [if_pos h3]; congr 1; apply decide_eq_decide.mpr; omega
      · rw [if_neg h3]; congr 1; symm; apply decide_eq_false; omega
    · rw [if_neg h2]; congr 1; symm; apply decide_eq_false; omega
  · rw [if_neg h1]; congr 1; symm; apply decide_eq_false; omega
theorem boxok_impl (a b c d : Int) : impl_BoxOk.f a b c d = some (okb a b c d) := by
  unfold impl_BoxOk.f
  simp only [in_val, Option.bind_some, okb, decide_eq_true_eq]
  by_cases h1 : 0 ≤ a ∧ a ≤ c
  · rw [if_pos h1]
    by_cases h2 : 0 ≤ c ∧ c ≤ 255
    · rw [if_pos h2]
      by_cases h3 : 0 ≤ b ∧ b ≤ d
      · rw [if_pos h3]; congr 1; apply decide_eq_decide.mpr; omega
      · rw [if_neg h3]; congr 1; symm; apply decide_eq_false; omega
    · rw [if_neg h2]; congr 1; symm; apply decide_eq_false; omega
  · rw [if_neg h1]; congr 1; symm; apply decide_eq_false; omega

/-! ### getentry -/
theorem getentry_same (k : Nat) (l : List Int) (i : Int) (hl : l.length ≤ 140737488355328) (hb : ∀ x ∈ l, (Lit.int .u8 x).wf = true) (hi : (Lit.int .i64 i).wf = true) : spec_GetEntry.f (k + 1) l i = impl_GetEntry.f (k + 1) l i := by
  unfold spec_GetEntry.f impl_GetEntry.f
  simp only [spec_GetEntry.j0, impl_GetEntry.j0, get2_spec l i hl hb hi, get2_impl l i hl hb hi, boxok_spec, boxok_impl]
def getentryv (l : List Int) (i : Int) : Int × Int × Int × Int × Int × Bool :=
  if i < 0 then (0, 0, 0, 0, 0, false) else if i > (l.length : Int) - 6 then (0, 0, 0, 0, 0, false) else
    if okb (rd l (i + 2)) (rd l (i + 3)) (rd l (i + 4)) (rd l (i + 5)) = true then (256 * rd l i + rd l (i + 1), rd l (i + 2), rd l (i + 3), rd l (i + 4), rd l (i + 5), true) else (0, 0, 0, 0, 0, false)
theorem getentry_impl (k : Nat) (l : List Int) (i : Int) (hl : l.length ≤ 140737488355328) (hb : ∀ x ∈ l, (Lit.int .u8 x).wf = true) (hi : (Lit.int .i64 i).wf = true) : impl_GetEntry.f (k + 1) l i = some (getentryv l i) := by
  have hi2 := wf64 hi
  unfold impl_GetEntry.f getentryv
  simp only [impl_GetEntry.j0]
  by_cases h1 : i < 0
  · rw [if_pos h1, if_pos h1]; rfl
  · rw [if_neg h1, if_neg h1, wr (n := (l.length : Int) - 6) (by omega) (by omega)]
    by_cases h2 : i > (l.length : Int) - 6
    · rw [if_pos (by simpa using h2), if_pos h2]
    · rw [if_neg (by simpa using h2), if_neg h2, get2_impl l i hl hb hi]
      simp only [Option.bind_some]
      have b2 := byte_bounds hb (i + 2)
      have b3 := byte_bounds hb (i + 3)
      have b4 := byte_bounds hb (i + 4)
      have b5 := byte_bounds hb (i + 5)
      rw [wr (n := i + 2) (by omega) (by omega), wr (n := i + 3) (by omega) (by omega), wr (n := i + 4) (by omega) (by omega), wr (n := i + 5) (by omega) (by omega)]
      rw [if_pos (by omega), if_pos (by omega), if_pos (by omega), if_pos (by omega), if_pos (by omega), if_pos (by omega), if_pos (by omega), if_pos (by omega)]
      rw [wr (n := rd l (i + 2)) (by omega) (by omega), wr (n := rd l (i + 3)) (by omega) (by omega), wr (n := rd l (i + 4)) (by omega) (by omega), wr (n := rd l (i + 5)) (by omega) (by omega), boxok_impl]
      simp only [Option.bind_some]
      have hg : get2v l i = (256 * rd l i + rd l (i + 1), true) := by unfold get2v; rw [if_neg h1, if_neg (by omega)]
      rw [hg]
      split <;> rfl

/-! ### eq1Box -/
theorem eqBox_self (a b c d : Int) : laws_eqBox.f a b c d a b c d = some true := by simp [laws_eqBox.f]

/-! ### eq1Entry -/
theorem eqEntry_self (n a b c d : Int) : laws_eqEntry.f n a b c d n a b c d = some true := by simp [laws_eqEntry.f, eqBox_self]

theorem pure_law (l : List Int) (i : Int) (hm : l.length ≤ maxLen) (hb : ∀ x ∈ l, (Lit.int .u8 x).wf = true) (hi : (Lit.int .i64 i).wf = true) : ∃ k, laws_FnExactGetEntry.f k l i = some true := by
  refine ⟨l.length + 2, ?_⟩
  unfold laws_FnExactGetEntry.f
  split
  · rfl
  · rename_i hs
    have hl2 : l.length ≤ 140737488355328 := by omega
    rw [toByteS_some (l.length + 2) l hl2 (by omega)]
    simp only [Option.bind_some]
    rw [getentry_same (l.length + 1) l i hl2 hb hi, getentry_impl (l.length + 1) l i hl2 hb hi]
    simp only [Option.bind_some, eqEntry_self, if_true, bne_self_eq_false, laws_FnExactGetEntry.j0]
    rw [toByteS_some (l.length + 1) l hl2 (by omega)]
    simp only [Option.bind_some, eqByteS_same (l.length + 1) l hl2 (by omega)]
    simp
end Go.Proofs.Ytcjbjmbflonieaa.PureFnExactGetEntry
