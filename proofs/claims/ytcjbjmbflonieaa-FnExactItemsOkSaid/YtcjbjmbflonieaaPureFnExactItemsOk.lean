/- The pure statement of FnExactItemsOk: whether a list of items is sound is what the reference tells, for all lists of items; condition: the list's length is a length. -/
import Derived.Test.YtcjbjmbflonieaaPFnExactItemsOkx2
import Derived.OpenShut
namespace Go.Proofs.Ytcjbjmbflonieaa.PureFnExactItemsOk
open Go.RowKit Go.Proofs.Ytcjbjmbflonieaa.PFnExactItemsOk Go.Proofs.YtcjbjmbflonieaaW.PrintWords Go.Proofs.YtcjbjmbflonieaaW.PrintLast Go.Proofs.YtcjbjmbflonieaaW.PrintMore
set_option linter.unusedVariables false
set_option linter.unusedSimpArgs false

/-! ### wrap -/
theorem wr {n : Int} (h0 : -9223372036854775808 ≤ n) (h1 : n ≤ 9223372036854775807) : wrap64 n = n := by
  unfold wrap64; omega
theorem wf64 {n : Int} (h : (Lit.int .i64 n).wf = true) : -9223372036854775808 ≤ n ∧ n ≤ 9223372036854775807 := bounds_i64 h

/-! ### basic -/
theorem rd_nat (xs : List Int) (i : Nat) (h : i < xs.length) : rd xs (i : Int) = xs[i] := by
  unfold rd; rw [Int.toNat_natCast, List.getD_eq_getElem?_getD, List.getElem?_eq_getElem h]; rfl
theorem fill_take {α β : Type} (conv : α → β) (xs : List α) (ys : List β) (i : Nat) (hl : ys.length = xs.length) (hi : i < xs.length) (h : ys.take i = (xs.take i).map conv) :
    (ys.set i (conv xs[i])).take (i + 1) = (xs.take (i + 1)).map conv := by
  rw [List.take_succ_eq_append_getElem (by rw [List.length_set]; omega), List.take_succ_eq_append_getElem hi, List.getElem_set_self, List.map_append, List.take_set_of_le (Nat.le_refl i), h]; rfl
theorem wr_succ {i n : Nat} (h : i < n) (hn : n ≤ 140737488355328) : wrap64 ((i : Int) + 1) = ((i + 1 : Nat) : Int) := by
  rw [wr (by omega) (by omega)]; omega
theorem byte_bounds {xs : List Int} (h : ∀ x ∈ xs, (Lit.int .u8 x).wf = true) (i : Int) : 0 ≤ rd xs i ∧ rd xs i ≤ 255 := by
  unfold rd
  rw [List.getD_eq_getElem?_getD]
  exact range_u8 h _

/-! ### rows -/
theorem filled {α β : Type} (conv : α → β) (xs : List α) (ys : List β) (hl : ys.length = xs.length) (i : Nat) (hi : i = xs.length) (h : ys.take i = (xs.take i).map conv) : ys = xs.map conv := by
  rw [List.take_of_length_le (by omega), List.take_of_length_le (by omega)] at h; exact h

/-! ### rdS:Item -/
theorem rd_implItem (xs : List S70) (i : Nat) (h : i < xs.length) : rd_T70 xs (i : Int) = xs[i] := by
  unfold rd_T70; rw [Int.toNat_natCast, List.getD_eq_getElem?_getD, List.getElem?_eq_getElem h]; rfl

/-! ### at:Item -/
theorem Itemat_l0 : ∀ (k : Nat) (xs : List S70) (n i : Int), impl_ItemAt.l0 k xs n i = spec_ItemAt.l0 k xs n i
  | 0, _, _, _ => rfl
  | k + 1, xs, n, i => by simp only [impl_ItemAt.l0, spec_ItemAt.l0, Itemat_l0 k]
theorem Itemat_same (k : Nat) (xs : List S70) (n : Int) : impl_ItemAt.f k xs n = spec_ItemAt.f k xs n := Itemat_l0 k xs n 0
theorem Itemat_tot (xs : List S70) (n : Int) (hx : xs.length ≤ 140737488355328) (d : Nat) : ∀ (k i : Nat), i + d = xs.length → d < k → ∃ v, spec_ItemAt.l0 k xs n (i : Int) = some v := by
  induction d with
  | zero =>
    intro k i hi hk
    obtain ⟨k, rfl⟩ : ∃ m, k = m + 1 := ⟨k - 1, by omega⟩
    simp only [spec_ItemAt.l0]
    rw [if_neg (by omega)]
    exact ⟨_, rfl⟩
  | succ d ih =>
    intro k i hi hk
    obtain ⟨k, rfl⟩ : ∃ m, k = m + 1 := ⟨k - 1, by omega⟩
    simp only [spec_ItemAt.l0]
    rw [if_pos (by omega), if_pos (by omega), wr_succ (n := xs.length) (by omega) hx]
    split
    · exact ⟨_, rfl⟩
    · exact ih k (i + 1) (by omega) (by omega)
theorem Itemat_some (k : Nat) (xs : List S70) (n : Int) (hx : xs.length ≤ 140737488355328) (hk : xs.length < k) : ∃ v, spec_ItemAt.f k xs n = some v :=
  Itemat_tot xs n hx xs.length k 0 (by omega) hk

/-! ### inn -/
theorem l1In_val (x a b : Int) : spec_l1In.f x a b = some (decide (a ≤ x ∧ x ≤ b)) := by
  unfold spec_l1In.f
  by_cases h : x ≥ a
  · rw [if_pos h]; simp [show a ≤ x from h]
  · rw [if_neg h]; simp [show ¬ a ≤ x from h]
theorem in_val (x a b : Int) : impl_in.f x a b = some (decide (a ≤ x ∧ x ≤ b)) := by
  unfold impl_in.f
  by_cases h : a ≤ x
  · rw [if_pos h]; simp [h]
  · rw [if_neg h]; simp [h]

/-! ### boxok -/
def okb (a b c d : Int) : Bool := decide (0 ≤ a ∧ a ≤ c ∧ c ≤ 255 ∧ 0 ≤ b ∧ b ≤ d ∧ d ≤ 255)
theorem okb_iff (a b c d : Int) : okb a b c d = true ↔ 0 ≤ a ∧ a ≤ c ∧ c ≤ 255 ∧ 0 ≤ b ∧ b ≤ d ∧ d ≤ 255 := by unfold okb; exact decide_eq_true_iff
theorem boxok_spec (a b c d : Int) : spec_BoxOk.f a b c d = some (okb a b c d) := by
  unfold spec_BoxOk.f
  simp only [l1In_val, Option.bind_some, okb, decide_eq_true_eq]
  by_cases h1 : 0 ≤ a ∧ a ≤ 255
  · rw [if_pos h1]
    by_cases h2 : 0 ≤ b ∧ b ≤ 255
    · rw [if_pos h2]
      by_cases h3 : a ≤ c ∧ c ≤ 255
      · rw [if_pos h3]; congr 1; apply decide_eq_decide.mpr; omega
      · rw [if_neg h3]; congr 1; symm; apply decide_eq_false; omega
    · rw [if_neg h2]; congr 1; symm; apply decide_eq_false; omega
  · rw [if_neg h1]; congr 1; symm; apply decide_eq_false; omega
theorem boxok_impl (a b c d : Int) : impl_BoxOk.f a b c d = some (okb a b c d) := by
  unfold impl_BoxOk.f
  simp only [in_val, Option.bind_some, okb, decide_eq_true_eq]
  by_cases h1 : 0 ≤ a ∧ a ≤ c
  · rw [if_pos h1]
    by_cases h2 : 0 ≤ c ∧ c ≤ 255
    · rw [if_pos h2]
      by_cases h3 : 0 ≤ b ∧ b ≤ d
      · rw [if_pos h3]; congr 1; apply decide_eq_decide.mpr; omega
      · rw [if_neg h3]; congr 1; symm; apply decide_eq_false; omega
    · rw [if_neg h2]; congr 1; symm; apply decide_eq_false; omega
  · rw [if_neg h1]; congr 1; symm; apply decide_eq_false; omega

/-! ### itemok -/
theorem itemok_spec (n a b c d : Int) : spec_ItemOk.f n a b c d = some (decide (1 ≤ n ∧ n ≤ 999) && okb a b c d) := by
  unfold spec_ItemOk.f
  simp only [l1In_val, boxok_spec, Option.bind_some]
  cases decide (1 ≤ n ∧ n ≤ 999) <;> simp
theorem itemok_impl (n a b c d : Int) : impl_ItemOk.f n a b c d = some (decide (1 ≤ n ∧ n ≤ 999) && okb a b c d) := by
  unfold impl_ItemOk.f
  simp only [in_val, boxok_impl, Option.bind_some]
  cases decide (1 ≤ n ∧ n ≤ 999) <;> simp

/-! ### itemsok -/
theorem itemsok_l0 (xs : List S70) : ∀ (k : Nat) (i : Int), impl_ItemsOk.l0 k xs xs (xs.length : Int) i = spec_ItemsOk.l0 k xs i
  | 0, _ => rfl
  | k + 1, i => by
    simp only [impl_ItemsOk.l0, spec_ItemsOk.l0, itemsok_l0 xs k, itemok_spec, itemok_impl, Itemat_same]
    by_cases h : i < (xs.length : Int)
    · simp only [if_pos h]
    · simp only [if_neg h]
theorem itemsok_same (k : Nat) (xs : List S70) : impl_ItemsOk.f k xs = spec_ItemsOk.f k xs := itemsok_l0 xs k 0
theorem itemsok_tot (xs : List S70) (hx : xs.length ≤ 140737488355328) (d : Nat) : ∀ (k i : Nat), i + d = xs.length → xs.length + d < k → ∃ v, spec_ItemsOk.l0 k xs (i : Int) = some v := by
  induction d with
  | zero =>
    intro k i hi hk
    obtain ⟨k, rfl⟩ : ∃ m, k = m + 1 := ⟨k - 1, by omega⟩
    simp only [spec_ItemsOk.l0]
    rw [if_neg (by omega)]
    exact ⟨_, rfl⟩
  | succ d ih =>
    intro k i hi hk
    obtain ⟨k, rfl⟩ : ∃ m, k = m + 1 := ⟨k - 1, by omega⟩
    simp only [spec_ItemsOk.l0]
    rw [if_pos (by omega), if_pos (by omega), itemok_spec]
    simp only [Option.bind_some]
    split
    · obtain ⟨v, hv⟩ := Itemat_some k xs (rd_T70 xs i).f0 hx (by omega)
      rw [hv]
      simp only [Option.bind_some]
      split
      · rw [wr_succ (n := xs.length) (by omega) hx]
        exact ih k (i + 1) (by omega) (by omega)
      · exact ⟨_, rfl⟩
    · exact ⟨_, rfl⟩
theorem itemsok_some (k : Nat) (xs : List S70) (hx : xs.length ≤ 140737488355328) (hk : xs.length + xs.length < k) : ∃ v, spec_ItemsOk.f k xs = some v :=
  itemsok_tot xs hx xs.length k 0 (by omega) hk

/-! ### rdL:Item -/
theorem rd_lawsItem (xs : List S67) (i : Nat) (h : i < xs.length) : rd_T67 xs (i : Int) = xs[i] := by
  unfold rd_T67; rw [Int.toNat_natCast, List.getD_eq_getElem?_getD, List.getElem?_eq_getElem h]; rfl

/-! ### box -/
theorem toBox_some (a b c d : Int) : laws_toBox.f a b c d = some (a, b, c, d) := rfl

/-! ### item -/
theorem toItem_some (n a b c d : Int) : laws_toItem.f n a b c d = some (n, a, b, c, d) := rfl

/-! ### convItem -/
def convItem (x : S67) : S70 := ⟨x.f0, ⟨x.f1.f0, x.f1.f1, x.f1.f2, x.f1.f3⟩⟩

/-! ### to:Item -/
theorem toItemS_l0 (xs : List S67) (hx : xs.length ≤ 1048576) (d : Nat) : ∀ (k i : Nat) (ys : List S70), ys.length = xs.length → i + d = xs.length → ys.take i = (xs.take i).map convItem → d < k →
    laws_toItemS.l0 k xs ys (i : Int) = some (xs.map convItem) := by
  induction d with
  | zero =>
    intro k i ys hl hi hy hk
    obtain ⟨k, rfl⟩ : ∃ m, k = m + 1 := ⟨k - 1, by omega⟩
    simp only [laws_toItemS.l0]
    rw [if_neg (by omega), filled convItem xs ys hl i (by omega) hy]
  | succ d ih =>
    intro k i ys hl hi hy hk
    obtain ⟨k, rfl⟩ : ∃ m, k = m + 1 := ⟨k - 1, by omega⟩
    simp only [laws_toItemS.l0]
    rw [if_pos (by omega), if_pos (by omega), rd_lawsItem xs i (by omega), toItem_some]
    simp only [Option.bind_some]
    rw [if_pos (by omega), Int.toNat_natCast, wr_succ (n := xs.length) (by omega) (by omega)]
    exact ih k (i + 1) _ (by rw [List.length_set]; exact hl) (by omega) (fill_take convItem xs ys i hl (by omega) hy) (by omega)
theorem toItemS_some (k : Nat) (xs : List S67) (hx : xs.length ≤ 1048576) (hk : xs.length < k) : laws_toItemS.f k xs = some (xs.map convItem) := by
  unfold laws_toItemS.f
  rw [if_pos (by omega), if_pos (by omega)]
  exact toItemS_l0 xs hx xs.length k 0 _ (by simp) (by omega) (by simp) hk

/-! ### eq1Box -/
theorem eqBox_self (a b c d : Int) : laws_eqBox.f a b c d a b c d = some true := by simp [laws_eqBox.f]

/-! ### eq1Item -/
theorem eqItem_self (n a b c d : Int) : laws_eqItem.f n a b c d n a b c d = some true := by simp [laws_eqItem.f, eqBox_self]

/-! ### eq:Item -/
theorem eqItemS_l0 (xs : List S70) (hx : xs.length ≤ 140737488355328) (d : Nat) : ∀ (k i : Nat), i + d = xs.length → d < k → laws_eqItemS.l0 k xs xs (i : Int) = some true := by
  induction d with
  | zero =>
    intro k i hi hk
    obtain ⟨k, rfl⟩ : ∃ m, k = m + 1 := ⟨k - 1, by omega⟩
    simp only [laws_eqItemS.l0]
    rw [if_neg (by omega)]
  | succ d ih =>
    intro k i hi hk
    obtain ⟨k, rfl⟩ : ∃ m, k = m + 1 := ⟨k - 1, by omega⟩
    simp only [laws_eqItemS.l0]
    rw [if_pos (by omega), if_pos (by omega), if_pos (by omega), eqItem_self]
    simp only [Option.bind_some, if_true]
    rw [wr_succ (n := xs.length) (by omega) hx]
    exact ih k (i + 1) (by omega) (by omega)
theorem eqItemS_same (k : Nat) (xs : List S70) (hx : xs.length ≤ 140737488355328) (hk : xs.length < k) : laws_eqItemS.f k xs xs = some true := by
  unfold laws_eqItemS.f
  rw [if_pos rfl]
  exact eqItemS_l0 xs hx xs.length k 0 (by omega) hk

/-! ### sz:Item -/
theorem szItemS_some (l : List S67) (a : Int) (hl : l.length ≤ maxLen) (h0 : 0 ≤ a) (h1 : a ≤ 1048576) : laws_szItemS.f l a = some (if a - (l.length : Int) < 0 then -1 else a - (l.length : Int)) := by
  unfold maxLen at hl
  unfold laws_szItemS.f
  rw [wr (n := a - (l.length : Int)) (by omega) (by omega)]
  split <;> rfl

theorem pure_law (l : List S67) (hm : l.length ≤ maxLen) : ∃ k, laws_FnExactItemsOk.f k l = some true := by
  refine ⟨l.length + l.length + 1, ?_⟩
  unfold laws_FnExactItemsOk.f
  rw [szItemS_some l _ hm (by omega) (by omega)]
  simp only [Option.bind_some]
  by_cases h : (1048576 : Int) - (l.length : Int) < 0
  · rw [if_pos h]; rfl
  · rw [if_neg h, if_neg h]
    have hl : (l.map convItem).length = l.length := List.length_map ..
    rw [toItemS_some (l.length + l.length + 1) l (by omega) (by omega)]
    obtain ⟨v, hv⟩ := itemsok_some (l.length + l.length + 1) (l.map convItem) (by omega) (by omega)
    simp only [Option.bind_some, itemsok_same, hv, bne_self_eq_false]
    rw [eqItemS_same (l.length + l.length + 1) _ (by omega) (by omega)]
    simp
end Go.Proofs.Ytcjbjmbflonieaa.PureFnExactItemsOk
