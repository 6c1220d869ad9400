/- The pure statement of FnExactItemsOf: the items of a node are what the reference tells, and are no memory of another, for all nodes; condition: the list's length is a length. -/
import Derived.Test.YtjmgomailgplcaaPFnExactItemsOfx4
import Derived.OpenShut
namespace Go.Proofs.Ytjmgomailgplcaa.PureFnExactItemsOf
open Go.RowKit Go.Proofs.Ytjmgomailgplcaa.PFnExactItemsOf Go.Proofs.YtjmgomailgplcaaW.PrintWords Go.Proofs.YtjmgomailgplcaaW.PrintLast Go.Proofs.YtjmgomailgplcaaW.PrintMore
set_option linter.unusedVariables false
set_option linter.unusedSimpArgs false

/-! ### wrap -/
theorem wr {n : Int} (h0 : -9223372036854775808 ≤ n) (h1 : n ≤ 9223372036854775807) : wrap64 n = n := by
  unfold wrap64; omega
theorem wf64 {n : Int} (h : (Lit.int .i64 n).wf = true) : -9223372036854775808 ≤ n ∧ n ≤ 9223372036854775807 := bounds_i64 h

/-! ### basic -/
theorem rd_nat (xs : List Int) (i : Nat) (h : i < xs.length) : rd xs (i : Int) = xs[i] := by
  unfold rd; rw [Int.toNat_natCast, List.getD_eq_getElem?_getD, List.getElem?_eq_getElem h]; rfl
theorem fill_take {α β : Type} (conv : α → β) (xs : List α) (ys : List β) (i : Nat) (hl : ys.length = xs.length) (hi : i < xs.length) (h : ys.take i = (xs.take i).map conv) :
    (ys.set i (conv xs[i])).take (i + 1) = (xs.take (i + 1)).map conv := by
  rw [List.take_succ_eq_append_getElem (by rw [List.length_set]; omega), List.take_succ_eq_append_getElem hi, List.getElem_set_self, List.map_append, List.take_set_of_le (Nat.le_refl i), h]; rfl
theorem wr_succ {i n : Nat} (h : i < n) (hn : n ≤ 140737488355328) : wrap64 ((i : Int) + 1) = ((i + 1 : Nat) : Int) := by
  rw [wr (by omega) (by omega)]; omega
theorem byte_bounds {xs : List Int} (h : ∀ x ∈ xs, (Lit.int .u8 x).wf = true) (i : Int) : 0 ≤ rd xs i ∧ rd xs i ≤ 255 := by
  unfold rd
  rw [List.getD_eq_getElem?_getD]
  exact range_u8 h _

/-! ### rows -/
theorem filled {α β : Type} (conv : α → β) (xs : List α) (ys : List β) (hl : ys.length = xs.length) (i : Nat) (hi : i = xs.length) (h : ys.take i = (xs.take i).map conv) : ys = xs.map conv := by
  rw [List.take_of_length_le (by omega), List.take_of_length_le (by omega)] at h; exact h

/-! ### rdS:Entry -/
theorem rd_implEntry (xs : List S90) (i : Nat) (h : i < xs.length) : rd_T90 xs (i : Int) = xs[i] := by
  unfold rd_T90; rw [Int.toNat_natCast, List.getD_eq_getElem?_getD, List.getElem?_eq_getElem h]; rfl

/-! ### itemsof -/
def convEI (x : S90) : S100 := ⟨x.f0, ⟨x.f1.f0, x.f1.f1, x.f1.f2, x.f1.f3⟩⟩
theorem itemsof_spec_l0 (xs : List S90) (hx : xs.length ≤ 1048576) (d : Nat) : ∀ (k i : Nat) (acc : List S100), acc.length = i → i + d = xs.length → d < k →
    spec_ItemsOf.l0 k acc (i : Int) true xs = some (acc ++ (xs.drop i).map convEI) := by
  induction d with
  | zero =>
    intro k i acc ha hi hk
    obtain ⟨k, rfl⟩ : ∃ m, k = m + 1 := ⟨k - 1, by omega⟩
    simp only [spec_ItemsOf.l0]
    rw [if_neg (by omega), List.drop_eq_nil_of_le (by omega), List.map_nil, List.append_nil]
  | succ d ih =>
    intro k i acc ha hi hk
    obtain ⟨k, rfl⟩ : ∃ m, k = m + 1 := ⟨k - 1, by omega⟩
    simp only [spec_ItemsOf.l0, if_true]
    rw [if_pos (by omega), if_pos (by omega), if_pos (by omega), rd_implEntry xs i (by omega), wr_succ (n := xs.length) (by omega) (by omega)]
    rw [ih k (i + 1) _ (by rw [List.length_append, ha]; rfl) (by omega) (by omega), List.drop_eq_getElem_cons (show i < xs.length by omega), List.map_cons, List.append_assoc]; rfl
theorem itemsof_impl_l0 (xs : List S90) (hx : xs.length ≤ 1048576) (d : Nat) : ∀ (k i : Nat) (acc : List S100), acc.length = i → i + d = xs.length → d < k →
    impl_ItemsOf.l0 k acc xs (xs.length : Int) (i : Int) = some (acc ++ (xs.drop i).map convEI) := by
  induction d with
  | zero =>
    intro k i acc ha hi hk
    obtain ⟨k, rfl⟩ : ∃ m, k = m + 1 := ⟨k - 1, by omega⟩
    simp only [impl_ItemsOf.l0]
    rw [if_neg (by omega), List.drop_eq_nil_of_le (by omega), List.map_nil, List.append_nil]
  | succ d ih =>
    intro k i acc ha hi hk
    obtain ⟨k, rfl⟩ : ∃ m, k = m + 1 := ⟨k - 1, by omega⟩
    simp only [impl_ItemsOf.l0]
    rw [if_pos (by omega), if_pos (by omega), if_pos (by omega), if_pos (by omega), rd_implEntry xs i (by omega), wr_succ (n := xs.length) (by omega) (by omega)]
    rw [ih k (i + 1) _ (by rw [List.length_append, ha]; rfl) (by omega) (by omega), List.drop_eq_getElem_cons (show i < xs.length by omega), List.map_cons, List.append_assoc]; rfl
def itemsofv (b : Bool) (xs : List S90) : List S100 := if b = true then xs.map convEI else []
theorem itemsofv_len (b : Bool) (xs : List S90) : (itemsofv b xs).length ≤ xs.length := by unfold itemsofv; split <;> simp
theorem itemsof_spec (k : Nat) (b : Bool) (xs : List S90) (hx : xs.length ≤ 1048576) (hk : xs.length < k) : spec_ItemsOf.f k b xs = some (itemsofv b xs) := by
  unfold spec_ItemsOf.f itemsofv
  cases b with
  | true => exact itemsof_spec_l0 xs hx xs.length k 0 [] rfl (by omega) hk
  | false =>
    obtain ⟨k, rfl⟩ : ∃ m, k = m + 1 := ⟨k - 1, by omega⟩
    simp only [spec_ItemsOf.l0]
    split <;> rfl
theorem itemsof_impl (k : Nat) (b : Bool) (xs : List S90) (hx : xs.length ≤ 1048576) (hk : xs.length < k) : impl_ItemsOf.f k b xs = some (itemsofv b xs) := by
  unfold impl_ItemsOf.f itemsofv
  cases b with
  | true => exact itemsof_impl_l0 xs hx xs.length k 0 [] rfl (by omega) hk
  | false => rfl

/-! ### rdL:Entry -/
theorem rd_lawsEntry (xs : List S131) (i : Nat) (h : i < xs.length) : rd_T131 xs (i : Int) = xs[i] := by
  unfold rd_T131; rw [Int.toNat_natCast, List.getD_eq_getElem?_getD, List.getElem?_eq_getElem h]; rfl

/-! ### box -/
theorem toBox_some (a b c d : Int) : laws_toBox.f a b c d = some (a, b, c, d) := rfl

/-! ### entry -/
theorem toEntry_some (n a b c d : Int) : laws_toEntry.f n a b c d = some (n, a, b, c, d) := rfl

/-! ### convEntry -/
def convEntry (x : S131) : S90 := ⟨x.f0, ⟨x.f1.f0, x.f1.f1, x.f1.f2, x.f1.f3⟩⟩

/-! ### to:Entry -/
theorem toEntryS_l0 (xs : List S131) (hx : xs.length ≤ 1048576) (d : Nat) : ∀ (k i : Nat) (ys : List S90), ys.length = xs.length → i + d = xs.length → ys.take i = (xs.take i).map convEntry → d < k →
    laws_toEntryS.l0 k xs ys (i : Int) = some (xs.map convEntry) := by
  induction d with
  | zero =>
    intro k i ys hl hi hy hk
    obtain ⟨k, rfl⟩ : ∃ m, k = m + 1 := ⟨k - 1, by omega⟩
    simp only [laws_toEntryS.l0]
    rw [if_neg (by omega), filled convEntry xs ys hl i (by omega) hy]
  | succ d ih =>
    intro k i ys hl hi hy hk
    obtain ⟨k, rfl⟩ : ∃ m, k = m + 1 := ⟨k - 1, by omega⟩
    simp only [laws_toEntryS.l0]
    rw [if_pos (by omega), if_pos (by omega), rd_lawsEntry xs i (by omega), toEntry_some]
    simp only [Option.bind_some]
    rw [if_pos (by omega), Int.toNat_natCast, wr_succ (n := xs.length) (by omega) (by omega)]
    exact ih k (i + 1) _ (by rw [List.length_set]; exact hl) (by omega) (fill_take convEntry xs ys i hl (by omega) hy) (by omega)
theorem toEntryS_some (k : Nat) (xs : List S131) (hx : xs.length ≤ 1048576) (hk : xs.length < k) : laws_toEntryS.f k xs = some (xs.map convEntry) := by
  unfold laws_toEntryS.f
  rw [if_pos (by omega), if_pos (by omega)]
  exact toEntryS_l0 xs hx xs.length k 0 _ (by simp) (by omega) (by simp) hk

/-! ### toNode -/
theorem toNode_some (k : Nat) (b : Bool) (xs : List S131) (hx : xs.length ≤ 1048576) (hk : xs.length < k) : laws_toNode.f k b xs = some (b, xs.map convEntry) := by
  unfold laws_toNode.f
  rw [toEntryS_some k xs hx hk]; rfl

/-! ### sz:Entry -/
theorem szEntryS_some (l : List S131) (a : Int) (hl : l.length ≤ maxLen) (h0 : 0 ≤ a) (h1 : a ≤ 1048576) : laws_szEntryS.f l a = some (if a - (l.length : Int) < 0 then -1 else a - (l.length : Int)) := by
  unfold maxLen at hl
  unfold laws_szEntryS.f
  rw [wr (n := a - (l.length : Int)) (by omega) (by omega)]
  split <;> rfl

/-! ### szNode -/
theorem szNode_some (b : Bool) (l : List S131) (a : Int) (hl : l.length ≤ maxLen) (h0 : 0 ≤ a) (h1 : a ≤ 1048576) : laws_szNode.f b l a = some (if a - (l.length : Int) < 0 then -1 else a - (l.length : Int)) := by
  unfold laws_szNode.f
  rw [szEntryS_some l a hl h0 h1]
  simp only [Option.bind_some]
  by_cases h : a - (l.length : Int) < 0
  · rw [if_pos h]; rfl
  · rw [if_neg h, if_neg h]

/-! ### eq1Box -/
theorem eqBox_self (a b c d : Int) : laws_eqBox.f a b c d a b c d = some true := by simp [laws_eqBox.f]

/-! ### eq1Entry -/
theorem eqEntry_self (n a b c d : Int) : laws_eqEntry.f n a b c d n a b c d = some true := by simp [laws_eqEntry.f, eqBox_self]

/-! ### eq:Entry -/
theorem eqEntryS_l0 (xs : List S90) (hx : xs.length ≤ 140737488355328) (d : Nat) : ∀ (k i : Nat), i + d = xs.length → d < k → laws_eqEntryS.l0 k xs xs (i : Int) = some true := by
  induction d with
  | zero =>
    intro k i hi hk
    obtain ⟨k, rfl⟩ : ∃ m, k = m + 1 := ⟨k - 1, by omega⟩
    simp only [laws_eqEntryS.l0]
    rw [if_neg (by omega)]
  | succ d ih =>
    intro k i hi hk
    obtain ⟨k, rfl⟩ : ∃ m, k = m + 1 := ⟨k - 1, by omega⟩
    simp only [laws_eqEntryS.l0]
    rw [if_pos (by omega), if_pos (by omega), if_pos (by omega), eqEntry_self]
    simp only [Option.bind_some, if_true]
    rw [wr_succ (n := xs.length) (by omega) hx]
    exact ih k (i + 1) (by omega) (by omega)
theorem eqEntryS_same (k : Nat) (xs : List S90) (hx : xs.length ≤ 140737488355328) (hk : xs.length < k) : laws_eqEntryS.f k xs xs = some true := by
  unfold laws_eqEntryS.f
  rw [if_pos rfl]
  exact eqEntryS_l0 xs hx xs.length k 0 (by omega) hk

/-! ### eqNode -/
theorem eqNode_same (k : Nat) (b : Bool) (xs : List S90) (hx : xs.length ≤ 140737488355328) (hk : xs.length < k) : laws_eqNode.f k b xs b xs = some true := by
  unfold laws_eqNode.f
  rw [eqEntryS_same k xs hx hk]; simp

/-! ### eq1Item -/
theorem eqItem_self (n a b c d : Int) : laws_eqItem.f n a b c d n a b c d = some true := by simp [laws_eqItem.f, eqBox_self]

/-! ### eq:Item -/
theorem eqItemS_l0 (xs : List S100) (hx : xs.length ≤ 140737488355328) (d : Nat) : ∀ (k i : Nat), i + d = xs.length → d < k → laws_eqItemS.l0 k xs xs (i : Int) = some true := by
  induction d with
  | zero =>
    intro k i hi hk
    obtain ⟨k, rfl⟩ : ∃ m, k = m + 1 := ⟨k - 1, by omega⟩
    simp only [laws_eqItemS.l0]
    rw [if_neg (by omega)]
  | succ d ih =>
    intro k i hi hk
    obtain ⟨k, rfl⟩ : ∃ m, k = m + 1 := ⟨k - 1, by omega⟩
    simp only [laws_eqItemS.l0]
    rw [if_pos (by omega), if_pos (by omega), if_pos (by omega), eqItem_self]
    simp only [Option.bind_some, if_true]
    rw [wr_succ (n := xs.length) (by omega) hx]
    exact ih k (i + 1) (by omega) (by omega)
theorem eqItemS_same (k : Nat) (xs : List S100) (hx : xs.length ≤ 140737488355328) (hk : xs.length < k) : laws_eqItemS.f k xs xs = some true := by
  unfold laws_eqItemS.f
  rw [if_pos rfl]
  exact eqItemS_l0 xs hx xs.length k 0 (by omega) hk

/-! ### marks -/
theorem set_take {α : Type} (f : Nat → α) (ys : List α) (i n : Nat) (hl : ys.length = n) (hi : i < n) (h : ys.take i = (List.range i).map f) : (ys.set i (f i)).take (i + 1) = (List.range (i + 1)).map f := by
  rw [List.take_succ_eq_append_getElem (by rw [List.length_set]; omega), List.getElem_set_self, List.take_set_of_le (Nat.le_refl i), h, List.range_succ, List.map_append]; rfl
theorem take_all {α : Type} (f : Nat → α) (ys : List α) (i n : Nat) (hl : ys.length = n) (hi : i = n) (h : ys.take i = (List.range i).map f) : ys = (List.range n).map f := by
  subst hi; rw [List.take_of_length_le (by omega)] at h; exact h

/-! ### rdS:Item -/
theorem rd_implItem (xs : List S100) (i : Nat) (h : i < xs.length) : rd_T100 xs (i : Int) = xs[i] := by
  unfold rd_T100; rw [Int.toNat_natCast, List.getD_eq_getElem?_getD, List.getElem?_eq_getElem h]; rfl

/-! ### mark:Item -/
def mkItem (s : Int) (j : Nat) : S100 := ⟨s + 5 * (j : Int), ⟨s + 5 * (j : Int) + 1, s + 5 * (j : Int) + 1 + 1, s + 5 * (j : Int) + 1 + 1 + 1, s + 5 * (j : Int) + 1 + 1 + 1 + 1⟩⟩
theorem rd_setItem (ys : List S100) (i : Nat) (v : S100) (h : i < ys.length) : rd_T100 (ys.set i v) (i : Int) = v := by
  rw [rd_implItem _ i (by rw [List.length_set]; exact h), List.getElem_set_self]
theorem markItemS_l0 (n : Nat) (s : Int) (hn : n ≤ 1048576) (h0 : 0 ≤ s) (h1 : s ≤ 140737488355328) (d : Nat) : ∀ (k i : Nat) (ys : List S100), ys.length = n → i + d = n → ys.take i = (List.range i).map (mkItem s) → d < k →
    laws_markItemS.l0 k ys (s + 5 * (i : Int)) (i : Int) = some (s + 5 * (n : Int), (List.range n).map (mkItem s)) := by
  induction d with
  | zero =>
    intro k i ys hl hi hy hk
    obtain ⟨k, rfl⟩ : ∃ m, k = m + 1 := ⟨k - 1, by omega⟩
    simp only [laws_markItemS.l0]
    rw [if_neg (by omega), take_all (mkItem s) ys i n hl (by omega) hy]
    congr 2; omega
  | succ d ih =>
    intro k i ys hl hi hy hk
    obtain ⟨k, rfl⟩ : ∃ m, k = m + 1 := ⟨k - 1, by omega⟩
    simp only [laws_markItemS.l0]
    rw [if_pos (by omega), if_pos (by omega)]
    simp only [Option.bind_some, Int.toNat_natCast]
    rw [wr (n := s + 5 * (i : Int) + 1) (by omega) (by omega), wr (n := s + 5 * (i : Int) + 1 + 1) (by omega) (by omega), wr (n := s + 5 * (i : Int) + 1 + 1 + 1) (by omega) (by omega), wr (n := s + 5 * (i : Int) + 1 + 1 + 1 + 1) (by omega) (by omega), wr (n := s + 5 * (i : Int) + 1 + 1 + 1 + 1 + 1) (by omega) (by omega), wr_succ (n := n) (by omega) (by omega)]
    have hi2 : i < ys.length := by omega
    rw [rd_setItem ys i _ hi2]
    simp only [List.set_set, rd_setItem ys i _ hi2]
    have := ih k (i + 1) (ys.set i (mkItem s i)) (by rw [List.length_set]; exact hl) (by omega) (set_take (mkItem s) ys i n hl (by omega) hy) (by omega)
    rw [← this, show s + 5 * (i : Int) + 1 + 1 + 1 + 1 + 1 = s + 5 * ((i + 1 : Nat) : Int) by omega]; rfl
theorem markItemS_some (k : Nat) (xs : List S100) (s : Int) (hn : xs.length ≤ 1048576) (h0 : 0 ≤ s) (h1 : s ≤ 140737488355328) (hk : xs.length < k) : laws_markItemS.f k xs s = some (s + 5 * (xs.length : Int), (List.range xs.length).map (mkItem s)) := by
  unfold laws_markItemS.f
  have := markItemS_l0 xs.length s hn h0 h1 xs.length k 0 xs rfl (by omega) (by simp) hk
  rw [← this]; congr 1; omega

/-! ### mark:Entry -/
def mkEntry (s : Int) (j : Nat) : S90 := ⟨s + 5 * (j : Int), ⟨s + 5 * (j : Int) + 1, s + 5 * (j : Int) + 1 + 1, s + 5 * (j : Int) + 1 + 1 + 1, s + 5 * (j : Int) + 1 + 1 + 1 + 1⟩⟩
theorem rd_setEntry (ys : List S90) (i : Nat) (v : S90) (h : i < ys.length) : rd_T90 (ys.set i v) (i : Int) = v := by
  rw [rd_implEntry _ i (by rw [List.length_set]; exact h), List.getElem_set_self]
theorem markEntryS_l0 (n : Nat) (s : Int) (hn : n ≤ 1048576) (h0 : 0 ≤ s) (h1 : s ≤ 140737488355328) (d : Nat) : ∀ (k i : Nat) (ys : List S90), ys.length = n → i + d = n → ys.take i = (List.range i).map (mkEntry s) → d < k →
    laws_markEntryS.l0 k ys (s + 5 * (i : Int)) (i : Int) = some (s + 5 * (n : Int), (List.range n).map (mkEntry s)) := by
  induction d with
  | zero =>
    intro k i ys hl hi hy hk
    obtain ⟨k, rfl⟩ : ∃ m, k = m + 1 := ⟨k - 1, by omega⟩
    simp only [laws_markEntryS.l0]
    rw [if_neg (by omega), take_all (mkEntry s) ys i n hl (by omega) hy]
    congr 2; omega
  | succ d ih =>
    intro k i ys hl hi hy hk
    obtain ⟨k, rfl⟩ : ∃ m, k = m + 1 := ⟨k - 1, by omega⟩
    simp only [laws_markEntryS.l0]
    rw [if_pos (by omega), if_pos (by omega)]
    simp only [Option.bind_some, Int.toNat_natCast]
    rw [wr (n := s + 5 * (i : Int) + 1) (by omega) (by omega), wr (n := s + 5 * (i : Int) + 1 + 1) (by omega) (by omega), wr (n := s + 5 * (i : Int) + 1 + 1 + 1) (by omega) (by omega), wr (n := s + 5 * (i : Int) + 1 + 1 + 1 + 1) (by omega) (by omega), wr (n := s + 5 * (i : Int) + 1 + 1 + 1 + 1 + 1) (by omega) (by omega), wr_succ (n := n) (by omega) (by omega)]
    have hi2 : i < ys.length := by omega
    rw [rd_setEntry ys i _ hi2]
    simp only [List.set_set, rd_setEntry ys i _ hi2]
    have := ih k (i + 1) (ys.set i (mkEntry s i)) (by rw [List.length_set]; exact hl) (by omega) (set_take (mkEntry s) ys i n hl (by omega) hy) (by omega)
    rw [← this, show s + 5 * (i : Int) + 1 + 1 + 1 + 1 + 1 = s + 5 * ((i + 1 : Nat) : Int) by omega]; rfl
theorem markEntryS_some (k : Nat) (xs : List S90) (s : Int) (hn : xs.length ≤ 1048576) (h0 : 0 ≤ s) (h1 : s ≤ 140737488355328) (hk : xs.length < k) : laws_markEntryS.f k xs s = some (s + 5 * (xs.length : Int), (List.range xs.length).map (mkEntry s)) := by
  unfold laws_markEntryS.f
  have := markEntryS_l0 xs.length s hn h0 h1 xs.length k 0 xs rfl (by omega) (by simp) hk
  rw [← this]; congr 1; omega

/-! ### markNode -/
theorem markNode_some (k : Nat) (b : Bool) (xs : List S90) (s : Int) (hn : xs.length ≤ 1048576) (h0 : 0 ≤ s) (h1 : s ≤ 140737488355328) (hk : xs.length < k) : laws_markNode.f k b xs s = some (s + 5 * (xs.length : Int), (List.range xs.length).map (mkEntry s)) := by
  unfold laws_markNode.f
  rw [markEntryS_some k xs s hn h0 h1 hk]; rfl

/-! ### held:Item -/
theorem heldItemS_l0 (n : Nat) (s : Int) (hn : n ≤ 1048576) (h0 : 0 ≤ s) (h1 : s ≤ 140737488355328) (d : Nat) : ∀ (k i : Nat), i + d = n → d < k →
    laws_heldItemS.l0 k ((List.range n).map (mkItem s)) (s + 5 * (i : Int)) (i : Int) = some (s + 5 * (n : Int)) := by
  have hl : ((List.range n).map (mkItem s)).length = n := by simp
  induction d with
  | zero =>
    intro k i hi hk
    obtain ⟨k, rfl⟩ : ∃ m, k = m + 1 := ⟨k - 1, by omega⟩
    simp only [laws_heldItemS.l0]
    rw [if_neg (by omega)]
    congr 1; omega
  | succ d ih =>
    intro k i hi hk
    obtain ⟨k, rfl⟩ : ∃ m, k = m + 1 := ⟨k - 1, by omega⟩
    simp only [laws_heldItemS.l0]
    have hr : rd_T100 ((List.range n).map (mkItem s)) (i : Int) = mkItem s i := by
      rw [rd_implItem _ i (by omega)]; simp
    rw [if_pos (by omega), if_pos (by omega), hr]
    rw [wr (n := s + 5 * (i : Int) + 1) (by omega) (by omega), wr (n := s + 5 * (i : Int) + 1 + 1) (by omega) (by omega), wr (n := s + 5 * (i : Int) + 1 + 1 + 1) (by omega) (by omega), wr (n := s + 5 * (i : Int) + 1 + 1 + 1 + 1) (by omega) (by omega), wr (n := s + 5 * (i : Int) + 1 + 1 + 1 + 1 + 1) (by omega) (by omega), wr_succ (n := n) (by omega) (by omega)]
    have e0 : (mkItem s i).f0 = s + 5 * (i : Int) := rfl
    have e1 : (mkItem s i).f1.f0 = s + 5 * (i : Int) + 1 := rfl
    have e2 : (mkItem s i).f1.f1 = s + 5 * (i : Int) + 1 + 1 := rfl
    have e3 : (mkItem s i).f1.f2 = s + 5 * (i : Int) + 1 + 1 + 1 := rfl
    have e4 : (mkItem s i).f1.f3 = s + 5 * (i : Int) + 1 + 1 + 1 + 1 := rfl
    rw [if_pos e0, if_pos e1, if_pos e2, if_pos e3, if_pos e4]
    have := ih k (i + 1) (by omega) (by omega)
    rw [← this, show s + 5 * (i : Int) + 1 + 1 + 1 + 1 + 1 = s + 5 * ((i + 1 : Nat) : Int) by omega]
theorem heldItemS_some (k n : Nat) (s : Int) (hn : n ≤ 1048576) (h0 : 0 ≤ s) (h1 : s ≤ 140737488355328) (hk : n < k) : laws_heldItemS.f k ((List.range n).map (mkItem s)) s = some (s + 5 * (n : Int)) := by
  unfold laws_heldItemS.f
  have := heldItemS_l0 n s hn h0 h1 n k 0 (by omega) hk
  rw [← this]; congr 1; omega

theorem pure_law (b : Bool) (l : List S131) (hm : l.length ≤ maxLen) : ∃ k, laws_FnExactItemsOf.f k b l = some true := by
  refine ⟨l.length + 2, ?_⟩
  unfold laws_FnExactItemsOf.f
  rw [szNode_some b l _ hm (by omega) (by omega)]
  simp only [Option.bind_some]
  by_cases h : (1048576 : Int) - (l.length : Int) < 0
  · rw [if_pos h]; rfl
  · rw [if_neg h, if_neg h]
    have hl : (l.map convEntry).length = l.length := List.length_map ..
    have hl2 := itemsofv_len b (l.map convEntry)
    rw [toNode_some (l.length + 2) b l (by omega) (by omega)]
    simp only [Option.bind_some]
    rw [itemsof_spec (l.length + 2) _ _ (by omega) (by omega), itemsof_impl (l.length + 2) _ _ (by omega) (by omega)]
    simp only [Option.bind_some]
    rw [eqItemS_same (l.length + 2) _ (by omega) (by omega)]
    simp only [Option.bind_some, if_true]
    rw [eqNode_same (l.length + 2) _ _ (by omega) (by omega)]
    simp only [Option.bind_some, if_true]
    rw [markNode_some (l.length + 2) _ _ 1 (by omega) (by omega) (by omega) (by omega)]
    simp only [Option.bind_some]
    rw [if_neg (by omega)]
    simp only [laws_FnExactItemsOf.j0, Bool.not_true]
    rw [if_neg (by simp), markItemS_some (l.length + 1) _ 1 (by omega) (by omega) (by omega) (by omega)]
    simp only [Option.bind_some]
    rw [heldItemS_some (l.length + 1) _ 1 (by omega) (by omega) (by omega) (by omega)]
    simp only [Option.bind_some]
    rw [if_neg (by omega), if_pos trivial, toNode_some (l.length + 1) b l (by omega) (by omega)]
    simp only [Option.bind_some]
    rw [itemsof_impl (l.length + 1) _ _ (by omega) (by omega)]
    simp only [Option.bind_some]
    rw [eqItemS_same (l.length + 1) _ (by omega) (by omega)]
    simp only [Option.bind_some, if_true]
    rw [if_neg (by omega)]
end Go.Proofs.Ytjmgomailgplcaa.PureFnExactItemsOf
