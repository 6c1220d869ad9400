/- The pure statement of FnExactNodeAt: the node of a book at an index is what the reference tells, and is no memory of another, for all books and indices; condition: a list's length is a length. -/
import Derived.Test.YtjmgomailgplcaaPFnExactNodeAtx5
import Derived.OpenShut
namespace Go.Proofs.Ytjmgomailgplcaa.PureFnExactNodeAt
open Go.RowKit Go.Proofs.Ytjmgomailgplcaa.PFnExactNodeAt Go.Proofs.YtjmgomailgplcaaW.PrintWords Go.Proofs.YtjmgomailgplcaaW.PrintLast Go.Proofs.YtjmgomailgplcaaW.PrintMore
set_option linter.unusedVariables false
set_option linter.unusedSimpArgs false

/-! ### rdP -/
theorem rd_implPage (xs : List S96) (i : Nat) (h : i < xs.length) : rd_T96 xs (i : Int) = xs[i] := by
  unfold rd_T96; rw [Int.toNat_natCast, List.getD_eq_getElem?_getD, List.getElem?_eq_getElem h]; rfl
theorem rd_lawsPage (xs : List S138) (i : Nat) (h : i < xs.length) : rd_T138 xs (i : Int) = xs[i] := by
  unfold rd_T138; rw [Int.toNat_natCast, List.getD_eq_getElem?_getD, List.getElem?_eq_getElem h]; rfl

/-! ### wrap -/
theorem wr {n : Int} (h0 : -9223372036854775808 ≤ n) (h1 : n ≤ 9223372036854775807) : wrap64 n = n := by
  unfold wrap64; omega
theorem wf64 {n : Int} (h : (Lit.int .i64 n).wf = true) : -9223372036854775808 ≤ n ∧ n ≤ 9223372036854775807 := bounds_i64 h

/-! ### basic -/
theorem rd_nat (xs : List Int) (i : Nat) (h : i < xs.length) : rd xs (i : Int) = xs[i] := by
  unfold rd; rw [Int.toNat_natCast, List.getD_eq_getElem?_getD, List.getElem?_eq_getElem h]; rfl
theorem fill_take {α β : Type} (conv : α → β) (xs : List α) (ys : List β) (i : Nat) (hl : ys.length = xs.length) (hi : i < xs.length) (h : ys.take i = (xs.take i).map conv) :
    (ys.set i (conv xs[i])).take (i + 1) = (xs.take (i + 1)).map conv := by
  rw [List.take_succ_eq_append_getElem (by rw [List.length_set]; omega), List.take_succ_eq_append_getElem hi, List.getElem_set_self, List.map_append, List.take_set_of_le (Nat.le_refl i), h]; rfl
theorem wr_succ {i n : Nat} (h : i < n) (hn : n ≤ 140737488355328) : wrap64 ((i : Int) + 1) = ((i + 1 : Nat) : Int) := by
  rw [wr (by omega) (by omega)]; omega
theorem byte_bounds {xs : List Int} (h : ∀ x ∈ xs, (Lit.int .u8 x).wf = true) (i : Int) : 0 ≤ rd xs i ∧ rd xs i ≤ 255 := by
  unfold rd
  rw [List.getD_eq_getElem?_getD]
  exact range_u8 h _

/-! ### rows -/
theorem filled {α β : Type} (conv : α → β) (xs : List α) (ys : List β) (hl : ys.length = xs.length) (i : Nat) (hi : i = xs.length) (h : ys.take i = (xs.take i).map conv) : ys = xs.map conv := by
  rw [List.take_of_length_le (by omega), List.take_of_length_le (by omega)] at h; exact h

/-! ### nodeat -/
def natv (xs : List S96) (i : Int) : Bool × List S90 := if 0 ≤ i then (if i < (xs.length : Int) then ((rd_T96 xs i).f1.f0, (rd_T96 xs i).f1.f1) else (false, [])) else (false, [])
theorem rdP_le {xs : List S96} (hw : ∀ x ∈ xs, x.f1.f1.length ≤ 1048576) (i : Int) (h0 : 0 ≤ i) (h1 : i < (xs.length : Int)) : ((rd_T96 xs i).f1.f1).length ≤ 1048576 := by
  obtain ⟨j, rfl⟩ := Int.eq_ofNat_of_zero_le h0
  rw [rd_implPage xs j (by omega)]
  exact hw _ (List.getElem_mem _)
theorem natv_le {xs : List S96} (hw : ∀ x ∈ xs, x.f1.f1.length ≤ 1048576) (i : Int) : (natv xs i).2.length ≤ 1048576 := by
  unfold natv
  by_cases h0 : 0 ≤ i
  · rw [if_pos h0]
    by_cases h1 : i < (xs.length : Int)
    · rw [if_pos h1]; exact rdP_le hw i h0 h1
    · rw [if_neg h1]; simp
  · rw [if_neg h0]; simp
theorem nodeat_spec (r : Int) (xs : List S96) (i : Int) (hx : xs.length ≤ 1048576) (hw : ∀ x ∈ xs, x.f1.f1.length ≤ 1048576) : spec_NodeAt.f r xs i = some (natv xs i) := by
  unfold spec_NodeAt.f spec_l1In.f natv
  rw [wr (n := (xs.length : Int) - 1) (by omega) (by omega)]
  by_cases h0 : 0 ≤ i
  · rw [if_pos (show i ≥ 0 from h0), if_pos h0]
    simp only [Option.bind_some]
    by_cases h1 : i < (xs.length : Int)
    · rw [if_pos (show decide (i ≤ (xs.length : Int) - 1) = true from decide_eq_true (by omega)), if_pos h0, if_pos h1, if_pos h1]
      have := rdP_le hw i h0 h1
      unfold spec_l5Copy.f
      simp only [Option.bind_some, List.nil_append, List.length_nil, Nat.zero_add]
      rw [if_pos (by omega)]
      rfl
    · rw [if_neg (show ¬ decide (i ≤ (xs.length : Int) - 1) = true from fun h => absurd (of_decide_eq_true h) (by omega)), if_neg h1]
      first | done | rfl | rw [if_pos h0]
  · rw [if_neg (show ¬ i ≥ 0 from h0), if_neg h0]
    simp only [Option.bind_some]
    rw [if_neg (by decide)]
    first | done | rfl | rw [if_neg h0]
theorem nodeat_impl (r : Int) (xs : List S96) (i : Int) (hw : ∀ x ∈ xs, x.f1.f1.length ≤ 1048576) : impl_NodeAt.f r xs i = some (natv xs i) := by
  unfold impl_NodeAt.f impl_exists.f natv
  by_cases h0 : 0 ≤ i
  · rw [if_pos (show i ≥ 0 from h0), if_pos h0]
    simp only [Option.bind_some]
    by_cases h1 : i < (xs.length : Int)
    · rw [if_pos (show decide (i < (xs.length : Int)) = true from decide_eq_true h1), if_pos h0, if_pos h1, if_pos h1]
      have := rdP_le hw i h0 h1
      unfold impl_copyNode.f impl_Entry.f
      simp only [Option.bind_some, List.nil_append, List.length_nil, Nat.zero_add]
      rw [if_pos (by omega)]
      rfl
    · rw [if_neg (show ¬ decide (i < (xs.length : Int)) = true from fun h => absurd (of_decide_eq_true h) h1), if_neg h1]
      first | done | rfl | rw [if_pos h0]
  · rw [if_neg (show ¬ i ≥ 0 from h0), if_neg h0]
    simp only [Option.bind_some]
    rw [if_neg (by decide)]
    first | done | rfl | rw [if_neg h0]

/-! ### marks -/
theorem set_take {α : Type} (f : Nat → α) (ys : List α) (i n : Nat) (hl : ys.length = n) (hi : i < n) (h : ys.take i = (List.range i).map f) : (ys.set i (f i)).take (i + 1) = (List.range (i + 1)).map f := by
  rw [List.take_succ_eq_append_getElem (by rw [List.length_set]; omega), List.getElem_set_self, List.take_set_of_le (Nat.le_refl i), h, List.range_succ, List.map_append]; rfl
theorem take_all {α : Type} (f : Nat → α) (ys : List α) (i n : Nat) (hl : ys.length = n) (hi : i = n) (h : ys.take i = (List.range i).map f) : ys = (List.range n).map f := by
  subst hi; rw [List.take_of_length_le (by omega)] at h; exact h

/-! ### rdS:Entry -/
theorem rd_implEntry (xs : List S90) (i : Nat) (h : i < xs.length) : rd_T90 xs (i : Int) = xs[i] := by
  unfold rd_T90; rw [Int.toNat_natCast, List.getD_eq_getElem?_getD, List.getElem?_eq_getElem h]; rfl

/-! ### mark:Entry -/
def mkEntry (s : Int) (j : Nat) : S90 := ⟨s + 5 * (j : Int), ⟨s + 5 * (j : Int) + 1, s + 5 * (j : Int) + 1 + 1, s + 5 * (j : Int) + 1 + 1 + 1, s + 5 * (j : Int) + 1 + 1 + 1 + 1⟩⟩
theorem rd_setEntry (ys : List S90) (i : Nat) (v : S90) (h : i < ys.length) : rd_T90 (ys.set i v) (i : Int) = v := by
  rw [rd_implEntry _ i (by rw [List.length_set]; exact h), List.getElem_set_self]
theorem markEntryS_l0 (n : Nat) (s : Int) (hn : n ≤ 1048576) (h0 : 0 ≤ s) (h1 : s ≤ 140737488355328) (d : Nat) : ∀ (k i : Nat) (ys : List S90), ys.length = n → i + d = n → ys.take i = (List.range i).map (mkEntry s) → d < k →
    laws_markEntryS.l0 k ys (s + 5 * (i : Int)) (i : Int) = some (s + 5 * (n : Int), (List.range n).map (mkEntry s)) := by
  induction d with
  | zero =>
    intro k i ys hl hi hy hk
    obtain ⟨k, rfl⟩ : ∃ m, k = m + 1 := ⟨k - 1, by omega⟩
    simp only [laws_markEntryS.l0]
    rw [if_neg (by omega), take_all (mkEntry s) ys i n hl (by omega) hy]
    congr 2; omega
  | succ d ih =>
    intro k i ys hl hi hy hk
    obtain ⟨k, rfl⟩ : ∃ m, k = m + 1 := ⟨k - 1, by omega⟩
    simp only [laws_markEntryS.l0]
    rw [if_pos (by omega), if_pos (by omega)]
    simp only [Option.bind_some, Int.toNat_natCast]
    rw [wr (n := s + 5 * (i : Int) + 1) (by omega) (by omega), wr (n := s + 5 * (i : Int) + 1 + 1) (by omega) (by omega), wr (n := s + 5 * (i : Int) + 1 + 1 + 1) (by omega) (by omega), wr (n := s + 5 * (i : Int) + 1 + 1 + 1 + 1) (by omega) (by omega), wr (n := s + 5 * (i : Int) + 1 + 1 + 1 + 1 + 1) (by omega) (by omega), wr_succ (n := n) (by omega) (by omega)]
    have hi2 : i < ys.length := by omega
    rw [rd_setEntry ys i _ hi2]
    simp only [List.set_set, rd_setEntry ys i _ hi2]
    have := ih k (i + 1) (ys.set i (mkEntry s i)) (by rw [List.length_set]; exact hl) (by omega) (set_take (mkEntry s) ys i n hl (by omega) hy) (by omega)
    rw [← this, show s + 5 * (i : Int) + 1 + 1 + 1 + 1 + 1 = s + 5 * ((i + 1 : Nat) : Int) by omega]; rfl
theorem markEntryS_some (k : Nat) (xs : List S90) (s : Int) (hn : xs.length ≤ 1048576) (h0 : 0 ≤ s) (h1 : s ≤ 140737488355328) (hk : xs.length < k) : laws_markEntryS.f k xs s = some (s + 5 * (xs.length : Int), (List.range xs.length).map (mkEntry s)) := by
  unfold laws_markEntryS.f
  have := markEntryS_l0 xs.length s hn h0 h1 xs.length k 0 xs rfl (by omega) (by simp) hk
  rw [← this]; congr 1; omega

/-! ### markPage -/
theorem markPageS_l0 (n : Nat) (hn : n ≤ 1048576) (d : Nat) : ∀ (k i : Nat) (ys : List S96) (s : Int), ys.length = n → (∀ y ∈ ys, y.f1.f1.length ≤ 1048576) → i + d = n → d + 1048577 < k → 0 ≤ s → s ≤ 1 + 5242890 * (i : Int) →
    ∃ t r, laws_markPageS.l0 k ys s (i : Int) = some (t, r) ∧ 0 ≤ t := by
  induction d with
  | zero =>
    intro k i ys s hl hy hi hk h0 h1
    obtain ⟨k, rfl⟩ : ∃ m, k = m + 1 := ⟨k - 1, by omega⟩
    refine ⟨s, ys, ?_, h0⟩
    simp only [laws_markPageS.l0]
    rw [if_neg (by omega)]
  | succ d ih =>
    intro k i ys s hl hy hi hk h0 h1
    obtain ⟨k, rfl⟩ : ∃ m, k = m + 1 := ⟨k - 1, by omega⟩
    have hle := hy ys[i] (List.getElem_mem (by omega))
    have hib : (i : Int) ≤ 1048576 := by omega
    simp only [laws_markPageS.l0]
    rw [if_pos (by omega), if_pos (by omega), rd_implPage ys i (by omega), wr (n := s + 1) (by omega) (by omega), wr (n := s + 1 + 1) (by omega) (by omega)]
    rw [markEntryS_some k _ (s + 1 + 1) hle (by omega) (by omega) (by omega)]
    simp only [Option.bind_some]
    rw [wr_succ (n := n) (by omega) (by omega), Int.toNat_natCast]
    refine ih k (i + 1) _ _ (by rw [List.length_set]; exact hl) (fun y hm => ?_) (by omega) (by omega) (by omega) (by omega)
    rcases List.mem_or_eq_of_mem_set hm with hm | hm
    · exact hy y hm
    · rw [hm]; simpa using hle
theorem markBook_some (k : Nat) (r : Int) (ys : List S96) (hn : ys.length ≤ 1048576) (hy : ∀ y ∈ ys, y.f1.f1.length ≤ 1048576) (hk : 2097160 < k) : ∃ t, laws_markBook.f k r ys 1 = some t ∧ 0 ≤ t := by
  obtain ⟨t, r2, h, ht⟩ := markPageS_l0 ys.length hn ys.length k 0 ys 1 rfl hy (by omega) (by omega) (by decide) (by decide)
  have h : laws_markPageS.l0 k ys 1 0 = some (t, r2) := h
  refine ⟨t, ?_, ht⟩
  unfold laws_markBook.f laws_markPageS.g
  rw [h]; rfl

/-! ### sz:Entry -/
theorem szEntryS_some (l : List S131) (a : Int) (hl : l.length ≤ maxLen) (h0 : 0 ≤ a) (h1 : a ≤ 1048576) : laws_szEntryS.f l a = some (if a - (l.length : Int) < 0 then -1 else a - (l.length : Int)) := by
  unfold maxLen at hl
  unfold laws_szEntryS.f
  rw [wr (n := a - (l.length : Int)) (by omega) (by omega)]
  split <;> rfl

/-! ### szNode -/
theorem szNode_some (b : Bool) (l : List S131) (a : Int) (hl : l.length ≤ maxLen) (h0 : 0 ≤ a) (h1 : a ≤ 1048576) : laws_szNode.f b l a = some (if a - (l.length : Int) < 0 then -1 else a - (l.length : Int)) := by
  unfold laws_szNode.f
  rw [szEntryS_some l a hl h0 h1]
  simp only [Option.bind_some]
  by_cases h : a - (l.length : Int) < 0
  · rw [if_pos h]; rfl
  · rw [if_neg h, if_neg h]

/-! ### szPage -/
theorem szPageS_l0 (xs : List S138) (hx : xs.length ≤ 1048576) (hw : ∀ x ∈ xs, x.f1.f1.length ≤ maxLen) (d : Nat) : ∀ (k i : Nat) (a : Int), i + d = xs.length → d < k → 0 ≤ a → a ≤ 1048576 →
    ∃ v, laws_szPageS.l0 k xs a (i : Int) = some v ∧ v ≤ a ∧ (0 ≤ v → ∀ x ∈ xs.drop i, x.f1.f1.length ≤ 1048576) := by
  induction d with
  | zero =>
    intro k i a hi hk h0 h1
    obtain ⟨k, rfl⟩ : ∃ m, k = m + 1 := ⟨k - 1, by omega⟩
    refine ⟨a, ?_, Int.le_refl _, fun _ x hx => ?_⟩
    · simp only [laws_szPageS.l0]
      rw [if_neg (by omega)]
    · rw [List.drop_of_length_le (by omega)] at hx; cases hx
  | succ d ih =>
    intro k i a hi hk h0 h1
    obtain ⟨k, rfl⟩ : ∃ m, k = m + 1 := ⟨k - 1, by omega⟩
    have hl := hw xs[i] (List.getElem_mem (by omega))
    simp only [laws_szPageS.l0]
    rw [if_pos (by omega), if_pos (by omega), rd_lawsPage xs i (by omega)]
    unfold laws_szPage.f
    rw [szNode_some _ _ a hl h0 h1]
    simp only [Option.bind_some]
    by_cases h : a - (xs[i].f1.f1.length : Int) < 0
    · rw [if_pos h]
      exact ⟨-1, rfl, by omega, fun h => absurd h (by decide)⟩
    · rw [if_neg h, if_neg h]
      simp only [Option.bind_some]
      rw [if_neg h, wr_succ (n := xs.length) (by omega) (by omega)]
      obtain ⟨v, hv, hle, hr⟩ := ih k (i + 1) _ (by omega) (by omega) (by omega) (by omega : a - (xs[i].f1.f1.length : Int) ≤ 1048576)
      refine ⟨v, hv, by omega, fun h x hx => ?_⟩
      rw [List.drop_eq_getElem_cons (by omega)] at hx
      cases hx with
      | head => omega
      | tail _ hx => exact hr h x hx
theorem szBook_some (r : Int) (l : List S138) (a : Int) (hl : l.length ≤ maxLen) (hw : ∀ x ∈ l, x.f1.f1.length ≤ maxLen) (h0 : 0 ≤ a) (h1 : a ≤ 1048576) (k : Nat) (hk : 1048576 < k) :
    ∃ v, laws_szBook.f k r l a = some v ∧ v ≤ a ∧ (0 ≤ v → l.length ≤ 1048576 ∧ ∀ x ∈ l, x.f1.f1.length ≤ 1048576) := by
  unfold maxLen at hl
  unfold laws_szBook.f laws_szPageS.f
  rw [wr (n := a - (l.length : Int)) (by omega) (by omega)]
  by_cases h : a - (l.length : Int) < 0
  · rw [if_pos h]
    exact ⟨-1, rfl, by omega, fun h => absurd h (by decide)⟩
  · rw [if_neg h]
    obtain ⟨v, hv, hle, hr⟩ := szPageS_l0 l (by omega) hw l.length k 0 _ (by omega) (by omega) (by omega : 0 ≤ a - (l.length : Int)) (by omega)
    have hv : laws_szPageS.l0 k l (a - (l.length : Int)) 0 = some v := hv
    rw [hv]
    simp only [Option.bind_some]
    by_cases hn : v < 0
    · rw [if_pos hn]
      exact ⟨-1, rfl, by omega, fun h => absurd h (by decide)⟩
    · rw [if_neg hn]
      exact ⟨v, rfl, by omega, fun h => ⟨by omega, fun x hx => hr h x (by simpa using hx)⟩⟩

/-! ### rdL:Entry -/
theorem rd_lawsEntry (xs : List S131) (i : Nat) (h : i < xs.length) : rd_T131 xs (i : Int) = xs[i] := by
  unfold rd_T131; rw [Int.toNat_natCast, List.getD_eq_getElem?_getD, List.getElem?_eq_getElem h]; rfl

/-! ### box -/
theorem toBox_some (a b c d : Int) : laws_toBox.f a b c d = some (a, b, c, d) := rfl

/-! ### entry -/
theorem toEntry_some (n a b c d : Int) : laws_toEntry.f n a b c d = some (n, a, b, c, d) := rfl

/-! ### convEntry -/
def convEntry (x : S131) : S90 := ⟨x.f0, ⟨x.f1.f0, x.f1.f1, x.f1.f2, x.f1.f3⟩⟩

/-! ### to:Entry -/
theorem toEntryS_l0 (xs : List S131) (hx : xs.length ≤ 1048576) (d : Nat) : ∀ (k i : Nat) (ys : List S90), ys.length = xs.length → i + d = xs.length → ys.take i = (xs.take i).map convEntry → d < k →
    laws_toEntryS.l0 k xs ys (i : Int) = some (xs.map convEntry) := by
  induction d with
  | zero =>
    intro k i ys hl hi hy hk
    obtain ⟨k, rfl⟩ : ∃ m, k = m + 1 := ⟨k - 1, by omega⟩
    simp only [laws_toEntryS.l0]
    rw [if_neg (by omega), filled convEntry xs ys hl i (by omega) hy]
  | succ d ih =>
    intro k i ys hl hi hy hk
    obtain ⟨k, rfl⟩ : ∃ m, k = m + 1 := ⟨k - 1, by omega⟩
    simp only [laws_toEntryS.l0]
    rw [if_pos (by omega), if_pos (by omega), rd_lawsEntry xs i (by omega), toEntry_some]
    simp only [Option.bind_some]
    rw [if_pos (by omega), Int.toNat_natCast, wr_succ (n := xs.length) (by omega) (by omega)]
    exact ih k (i + 1) _ (by rw [List.length_set]; exact hl) (by omega) (fill_take convEntry xs ys i hl (by omega) hy) (by omega)
theorem toEntryS_some (k : Nat) (xs : List S131) (hx : xs.length ≤ 1048576) (hk : xs.length < k) : laws_toEntryS.f k xs = some (xs.map convEntry) := by
  unfold laws_toEntryS.f
  rw [if_pos (by omega), if_pos (by omega)]
  exact toEntryS_l0 xs hx xs.length k 0 _ (by simp) (by omega) (by simp) hk

/-! ### toNode -/
theorem toNode_some (k : Nat) (b : Bool) (xs : List S131) (hx : xs.length ≤ 1048576) (hk : xs.length < k) : laws_toNode.f k b xs = some (b, xs.map convEntry) := by
  unfold laws_toNode.f
  rw [toEntryS_some k xs hx hk]; rfl

/-! ### toPage -/
def convPage (x : S138) : S96 := ⟨x.f0, ⟨x.f1.f0, x.f1.f1.map convEntry⟩⟩
theorem toPageS_l0 (xs : List S138) (hx : xs.length ≤ 1048576) (hw : ∀ x ∈ xs, x.f1.f1.length ≤ 1048576) (d : Nat) : ∀ (k i : Nat) (ys : List S96), ys.length = xs.length → i + d = xs.length → ys.take i = (xs.take i).map convPage → d + 1048577 < k →
    laws_toPageS.l0 k xs ys (i : Int) = some (xs.map convPage) := by
  induction d with
  | zero =>
    intro k i ys hl hi hy hk
    obtain ⟨k, rfl⟩ : ∃ m, k = m + 1 := ⟨k - 1, by omega⟩
    simp only [laws_toPageS.l0]
    rw [if_neg (by omega), filled convPage xs ys hl i (by omega) hy]
  | succ d ih =>
    intro k i ys hl hi hy hk
    obtain ⟨k, rfl⟩ : ∃ m, k = m + 1 := ⟨k - 1, by omega⟩
    have hn := hw xs[i] (List.getElem_mem (by omega))
    simp only [laws_toPageS.l0]
    rw [if_pos (by omega), if_pos (by omega), rd_lawsPage xs i (by omega)]
    unfold laws_toPage.f
    rw [toNode_some k _ _ hn (by omega)]
    simp only [Option.bind_some]
    rw [if_pos (by omega), Int.toNat_natCast, wr_succ (n := xs.length) (by omega) (by omega)]
    exact ih k (i + 1) _ (by rw [List.length_set]; exact hl) (by omega) (fill_take convPage xs ys i hl (by omega) hy) (by omega)
theorem toBook_some (k : Nat) (r : Int) (xs : List S138) (hx : xs.length ≤ 1048576) (hw : ∀ x ∈ xs, x.f1.f1.length ≤ 1048576) (hk : 2097153 < k) : laws_toBook.f k r xs = some (r, xs.map convPage) := by
  unfold laws_toBook.f laws_toPageS.f
  rw [if_pos (by omega), if_pos (by omega)]
  have h := toPageS_l0 xs hx hw xs.length k 0 (List.replicate (xs.length : Int).toNat z96) (by simp) (by omega) (by simp) (by omega)
  have h : laws_toPageS.l0 k xs (List.replicate (xs.length : Int).toNat z96) 0 = some (xs.map convPage) := h
  rw [h]; rfl
theorem convPage_len {xs : List S138} (hw : ∀ x ∈ xs, x.f1.f1.length ≤ 1048576) : ∀ y ∈ xs.map convPage, y.f1.f1.length ≤ 1048576 := by
  intro y hy
  obtain ⟨x, hx, rfl⟩ := List.mem_map.mp hy
  have := hw x hx
  simpa [convPage] using this

/-! ### eq1Box -/
theorem eqBox_self (a b c d : Int) : laws_eqBox.f a b c d a b c d = some true := by simp [laws_eqBox.f]

/-! ### eq1Entry -/
theorem eqEntry_self (n a b c d : Int) : laws_eqEntry.f n a b c d n a b c d = some true := by simp [laws_eqEntry.f, eqBox_self]

/-! ### eq:Entry -/
theorem eqEntryS_l0 (xs : List S90) (hx : xs.length ≤ 140737488355328) (d : Nat) : ∀ (k i : Nat), i + d = xs.length → d < k → laws_eqEntryS.l0 k xs xs (i : Int) = some true := by
  induction d with
  | zero =>
    intro k i hi hk
    obtain ⟨k, rfl⟩ : ∃ m, k = m + 1 := ⟨k - 1, by omega⟩
    simp only [laws_eqEntryS.l0]
    rw [if_neg (by omega)]
  | succ d ih =>
    intro k i hi hk
    obtain ⟨k, rfl⟩ : ∃ m, k = m + 1 := ⟨k - 1, by omega⟩
    simp only [laws_eqEntryS.l0]
    rw [if_pos (by omega), if_pos (by omega), if_pos (by omega), eqEntry_self]
    simp only [Option.bind_some, if_true]
    rw [wr_succ (n := xs.length) (by omega) hx]
    exact ih k (i + 1) (by omega) (by omega)
theorem eqEntryS_same (k : Nat) (xs : List S90) (hx : xs.length ≤ 140737488355328) (hk : xs.length < k) : laws_eqEntryS.f k xs xs = some true := by
  unfold laws_eqEntryS.f
  rw [if_pos rfl]
  exact eqEntryS_l0 xs hx xs.length k 0 (by omega) hk

/-! ### eqNode -/
theorem eqNode_same (k : Nat) (b : Bool) (xs : List S90) (hx : xs.length ≤ 140737488355328) (hk : xs.length < k) : laws_eqNode.f k b xs b xs = some true := by
  unfold laws_eqNode.f
  rw [eqEntryS_same k xs hx hk]; simp

/-! ### eqPage -/
theorem eqPageS_l0 (xs : List S96) (hx : xs.length ≤ 140737488355328) (hw : ∀ x ∈ xs, x.f1.f1.length ≤ 1048576) (d : Nat) : ∀ (k i : Nat), i + d = xs.length → d + 1048577 < k → laws_eqPageS.l0 k xs xs (i : Int) = some true := by
  induction d with
  | zero =>
    intro k i hi hk
    obtain ⟨k, rfl⟩ : ∃ m, k = m + 1 := ⟨k - 1, by omega⟩
    simp only [laws_eqPageS.l0]
    rw [if_neg (by omega)]
  | succ d ih =>
    intro k i hi hk
    obtain ⟨k, rfl⟩ : ∃ m, k = m + 1 := ⟨k - 1, by omega⟩
    have hn := hw xs[i] (List.getElem_mem (by omega))
    simp only [laws_eqPageS.l0]
    rw [if_pos (by omega), if_pos (by omega), if_pos (by omega), rd_implPage xs i (by omega)]
    unfold laws_eqPage.f
    rw [eqNode_same k _ _ (by omega) (by omega)]
    simp only [Option.bind_some, bne_self_eq_false, if_true]
    rw [if_neg (by decide)]
    simp only [Option.bind_some, if_true]
    rw [wr_succ (n := xs.length) (by omega) hx]
    exact ih k (i + 1) (by omega) (by omega)
theorem eqBook_same (k : Nat) (r : Int) (xs : List S96) (hx : xs.length ≤ 1048576) (hw : ∀ x ∈ xs, x.f1.f1.length ≤ 1048576) (hk : 2097153 < k) : laws_eqBook.f k r xs r xs = some true := by
  unfold laws_eqBook.f laws_eqPageS.f
  rw [if_pos rfl, if_pos rfl]
  have h := eqPageS_l0 xs (by omega) hw xs.length k 0 (by omega) (by omega)
  have h : laws_eqPageS.l0 k xs xs 0 = some true := h
  rw [h]; rfl

/-! ### markNode -/
theorem markNode_some (k : Nat) (b : Bool) (xs : List S90) (s : Int) (hn : xs.length ≤ 1048576) (h0 : 0 ≤ s) (h1 : s ≤ 140737488355328) (hk : xs.length < k) : laws_markNode.f k b xs s = some (s + 5 * (xs.length : Int), (List.range xs.length).map (mkEntry s)) := by
  unfold laws_markNode.f
  rw [markEntryS_some k xs s hn h0 h1 hk]; rfl

/-! ### held:Entry -/
theorem heldEntryS_l0 (n : Nat) (s : Int) (hn : n ≤ 1048576) (h0 : 0 ≤ s) (h1 : s ≤ 140737488355328) (d : Nat) : ∀ (k i : Nat), i + d = n → d < k →
    laws_heldEntryS.l0 k ((List.range n).map (mkEntry s)) (s + 5 * (i : Int)) (i : Int) = some (s + 5 * (n : Int)) := by
  have hl : ((List.range n).map (mkEntry s)).length = n := by simp
  induction d with
  | zero =>
    intro k i hi hk
    obtain ⟨k, rfl⟩ : ∃ m, k = m + 1 := ⟨k - 1, by omega⟩
    simp only [laws_heldEntryS.l0]
    rw [if_neg (by omega)]
    congr 1; omega
  | succ d ih =>
    intro k i hi hk
    obtain ⟨k, rfl⟩ : ∃ m, k = m + 1 := ⟨k - 1, by omega⟩
    simp only [laws_heldEntryS.l0]
    have hr : rd_T90 ((List.range n).map (mkEntry s)) (i : Int) = mkEntry s i := by
      rw [rd_implEntry _ i (by omega)]; simp
    rw [if_pos (by omega), if_pos (by omega), hr]
    rw [wr (n := s + 5 * (i : Int) + 1) (by omega) (by omega), wr (n := s + 5 * (i : Int) + 1 + 1) (by omega) (by omega), wr (n := s + 5 * (i : Int) + 1 + 1 + 1) (by omega) (by omega), wr (n := s + 5 * (i : Int) + 1 + 1 + 1 + 1) (by omega) (by omega), wr (n := s + 5 * (i : Int) + 1 + 1 + 1 + 1 + 1) (by omega) (by omega), wr_succ (n := n) (by omega) (by omega)]
    have e0 : (mkEntry s i).f0 = s + 5 * (i : Int) := rfl
    have e1 : (mkEntry s i).f1.f0 = s + 5 * (i : Int) + 1 := rfl
    have e2 : (mkEntry s i).f1.f1 = s + 5 * (i : Int) + 1 + 1 := rfl
    have e3 : (mkEntry s i).f1.f2 = s + 5 * (i : Int) + 1 + 1 + 1 := rfl
    have e4 : (mkEntry s i).f1.f3 = s + 5 * (i : Int) + 1 + 1 + 1 + 1 := rfl
    rw [if_pos e0, if_pos e1, if_pos e2, if_pos e3, if_pos e4]
    have := ih k (i + 1) (by omega) (by omega)
    rw [← this, show s + 5 * (i : Int) + 1 + 1 + 1 + 1 + 1 = s + 5 * ((i + 1 : Nat) : Int) by omega]
theorem heldEntryS_some (k n : Nat) (s : Int) (hn : n ≤ 1048576) (h0 : 0 ≤ s) (h1 : s ≤ 140737488355328) (hk : n < k) : laws_heldEntryS.f k ((List.range n).map (mkEntry s)) s = some (s + 5 * (n : Int)) := by
  unfold laws_heldEntryS.f
  have := heldEntryS_l0 n s hn h0 h1 n k 0 (by omega) hk
  rw [← this]; congr 1; omega

/-! ### heldNode -/
theorem heldNode_some (k n : Nat) (b : Bool) (s : Int) (hn : n ≤ 1048576) (h0 : 0 ≤ s) (h1 : s ≤ 140737488355328) (hk : n < k) : laws_heldNode.f k b ((List.range n).map (mkEntry s)) s = some (s + 5 * (n : Int)) := by
  unfold laws_heldNode.f
  rw [heldEntryS_some k n s hn h0 h1 hk]
  simp only [Option.bind_some]
  rw [if_neg (by omega)]

theorem pure_law (r : Int) (l : List S138) (i : Int) (hm : l.length ≤ maxLen) (hw : ∀ x ∈ l, x.f1.f1.length ≤ maxLen) (_hi : (Lit.int .i64 i).wf = true) : ∃ k, laws_FnExactNodeAt.f k r l i = some true := by
  obtain ⟨k, hk⟩ : ∃ k : Nat, k = 2097170 := ⟨_, rfl⟩
  refine ⟨k + 1, ?_⟩
  unfold laws_FnExactNodeAt.f
  obtain ⟨v, hv, hle, hv1⟩ := szBook_some r l 1048576 hm hw (by decide) (by decide) (k + 1) (by omega)
  rw [hv]
  simp only [Option.bind_some]
  by_cases h : v < 0
  · rw [if_pos h]
  · rw [if_neg h]
    obtain ⟨hl, hp⟩ := hv1 (by omega)
    have hl2 : (l.map convPage).length ≤ 1048576 := by rw [List.length_map]; exact hl
    have hp2 := convPage_len hp
    rw [toBook_some (k + 1) r l hl hp (by omega)]
    simp only [Option.bind_some]
    rw [nodeat_spec r _ i hl2 hp2]
    simp only [Option.bind_some]
    rw [nodeat_impl r _ i hp2]
    have hn := natv_le hp2 i
    generalize hnd : natv (l.map convPage) i = nd at *
    obtain ⟨nb, nl⟩ := nd
    have hn : nl.length ≤ 1048576 := hn
    simp only [Option.bind_some]
    rw [eqNode_same (k + 1) _ _ (by omega) (by omega)]
    simp only [Option.bind_some, if_true]
    rw [eqBook_same (k + 1) r _ hl2 hp2 (by omega)]
    simp only [Option.bind_some, if_true]
    obtain ⟨t, ht, ht0⟩ := markBook_some (k + 1) r _ hl2 hp2 (by omega)
    rw [ht]
    simp only [Option.bind_some]
    rw [if_neg (by omega)]
    simp only [laws_FnExactNodeAt.j0, Bool.not_true]
    rw [if_neg (by decide), markNode_some k _ _ 1 hn (by omega) (by omega) (by omega)]
    simp only [Option.bind_some]
    rw [heldNode_some k _ _ 1 hn (by omega) (by omega) (by omega)]
    simp only [Option.bind_some]
    rw [if_neg (by omega), if_pos trivial, toBook_some k r l hl hp (by omega)]
    simp only [Option.bind_some]
    rw [nodeat_impl r _ i hp2, hnd]
    simp only [Option.bind_some]
    rw [eqNode_same k _ _ (by omega) (by omega)]
    simp only [Option.bind_some, if_true]
    rw [if_neg (by omega)]
end Go.Proofs.Ytjmgomailgplcaa.PureFnExactNodeAt
