/- The pure statement of FnExactSameBook: whether two books are the same is what the reference tells, for all books; condition: a list's length is a length. -/
import Derived.Test.YtjmgomailgplcaaPFnExactSameBookx7
import Derived.OpenShut
namespace Go.Proofs.Ytjmgomailgplcaa.PureFnExactSameBook
open Go.RowKit Go.Proofs.Ytjmgomailgplcaa.PFnExactSameBook Go.Proofs.YtjmgomailgplcaaW.PrintWords Go.Proofs.YtjmgomailgplcaaW.PrintLast Go.Proofs.YtjmgomailgplcaaW.PrintMore
set_option linter.unusedVariables false
set_option linter.unusedSimpArgs false

/-! ### wrap -/
theorem wr {n : Int} (h0 : -9223372036854775808 ≤ n) (h1 : n ≤ 9223372036854775807) : wrap64 n = n := by
  unfold wrap64; omega
theorem wf64 {n : Int} (h : (Lit.int .i64 n).wf = true) : -9223372036854775808 ≤ n ∧ n ≤ 9223372036854775807 := bounds_i64 h

/-! ### basic -/
theorem rd_nat (xs : List Int) (i : Nat) (h : i < xs.length) : rd xs (i : Int) = xs[i] := by
  unfold rd; rw [Int.toNat_natCast, List.getD_eq_getElem?_getD, List.getElem?_eq_getElem h]; rfl
theorem fill_take {α β : Type} (conv : α → β) (xs : List α) (ys : List β) (i : Nat) (hl : ys.length = xs.length) (hi : i < xs.length) (h : ys.take i = (xs.take i).map conv) :
    (ys.set i (conv xs[i])).take (i + 1) = (xs.take (i + 1)).map conv := by
  rw [List.take_succ_eq_append_getElem (by rw [List.length_set]; omega), List.take_succ_eq_append_getElem hi, List.getElem_set_self, List.map_append, List.take_set_of_le (Nat.le_refl i), h]; rfl
theorem wr_succ {i n : Nat} (h : i < n) (hn : n ≤ 140737488355328) : wrap64 ((i : Int) + 1) = ((i + 1 : Nat) : Int) := by
  rw [wr (by omega) (by omega)]; omega
theorem byte_bounds {xs : List Int} (h : ∀ x ∈ xs, (Lit.int .u8 x).wf = true) (i : Int) : 0 ≤ rd xs i ∧ rd xs i ≤ 255 := by
  unfold rd
  rw [List.getD_eq_getElem?_getD]
  exact range_u8 h _

/-! ### rows -/
theorem filled {α β : Type} (conv : α → β) (xs : List α) (ys : List β) (hl : ys.length = xs.length) (i : Nat) (hi : i = xs.length) (h : ys.take i = (xs.take i).map conv) : ys = xs.map conv := by
  rw [List.take_of_length_le (by omega), List.take_of_length_le (by omega)] at h; exact h

/-! ### rdS:Entry -/
theorem rd_implEntry (xs : List S90) (i : Nat) (h : i < xs.length) : rd_T90 xs (i : Int) = xs[i] := by
  unfold rd_T90; rw [Int.toNat_natCast, List.getD_eq_getElem?_getD, List.getElem?_eq_getElem h]; rfl

/-! ### samenode -/
theorem samenode_l0 : ∀ (k : Nat) (b c : Bool) (xs ys : List S90) (i : Int), spec_SameNode.l0 k i b xs c ys = impl_Entry.l0 k xs ys (xs.length : Int) i
  | 0, _, _, _, _, _ => rfl
  | k + 1, b, c, xs, ys, i => by
    simp only [spec_SameNode.l0, impl_Entry.l0, samenode_l0 k]
    by_cases h : i < (xs.length : Int)
    · simp only [if_pos h]
    · simp only [if_neg h]
theorem samenode_tot (xs ys : List S90) (hx : xs.length ≤ 140737488355328) (hl : ys.length = xs.length) (d : Nat) : ∀ (k i : Nat), i + d = xs.length → d < k → ∃ v, ∀ m, impl_Entry.l0 (k + m) xs ys (xs.length : Int) (i : Int) = some v := by
  induction d with
  | zero =>
    intro k i hi hk
    obtain ⟨k, rfl⟩ : ∃ m, k = m + 1 := ⟨k - 1, by omega⟩
    refine ⟨true, fun m => ?_⟩
    rw [show k + 1 + m = (k + m) + 1 by omega]
    simp only [impl_Entry.l0]
    rw [if_neg (by omega)]
  | succ d ih =>
    intro k i hi hk
    obtain ⟨k, rfl⟩ : ∃ m, k = m + 1 := ⟨k - 1, by omega⟩
    obtain ⟨v, hv⟩ := ih k (i + 1) (by omega) (by omega)
    by_cases hc : (!(((rd_T90 xs i).f0) == ((rd_T90 ys i).f0)) || ((!(((rd_T90 xs i).f1.f0) == ((rd_T90 ys i).f1.f0)) || (!(((rd_T90 xs i).f1.f1) == ((rd_T90 ys i).f1.f1)) || (!(((rd_T90 xs i).f1.f2) == ((rd_T90 ys i).f1.f2)) || (!(((rd_T90 xs i).f1.f3) == ((rd_T90 ys i).f1.f3)))))))) = true
    · refine ⟨false, fun m => ?_⟩
      rw [show k + 1 + m = (k + m) + 1 by omega]
      simp only [impl_Entry.l0]
      rw [if_pos (by omega), if_pos (by omega), if_pos (by omega), if_pos (by omega), if_pos hc]
    · refine ⟨v, fun m => ?_⟩
      rw [show k + 1 + m = (k + m) + 1 by omega]
      simp only [impl_Entry.l0]
      rw [if_pos (by omega), if_pos (by omega), if_pos (by omega), if_pos (by omega), if_neg hc, wr_succ (n := xs.length) (by omega) hx]
      exact hv m
theorem samenode_both (k : Nat) (b c : Bool) (xs ys : List S90) (hx : xs.length ≤ 140737488355328) (hk : xs.length + 1 < k) : ∃ v, spec_SameNode.f k b xs c ys = some v ∧ impl_SameNode.f k b xs c ys = some v := by
  obtain ⟨k, rfl⟩ : ∃ m, k = m + 1 := ⟨k - 1, by omega⟩
  unfold spec_SameNode.f impl_SameNode.f impl_Entry.f
  by_cases hb : b = c
  · subst hb
    by_cases hl : xs.length = ys.length
    · obtain ⟨v, hv⟩ := samenode_tot xs ys hx hl.symm xs.length (xs.length + 1) 0 (by omega) (by omega)
      have h0 := hv (k - (xs.length + 1))
      have h1 := hv (k + 1 - (xs.length + 1))
      rw [show xs.length + 1 + (k - (xs.length + 1)) = k by omega] at h0
      rw [show xs.length + 1 + (k + 1 - (xs.length + 1)) = k + 1 by omega] at h1
      have h0 : impl_Entry.l0 k xs ys (xs.length : Int) 0 = some v := h0
      have h1 : impl_Entry.l0 (k + 1) xs ys (xs.length : Int) 0 = some v := h1
      refine ⟨v, ?_, ?_⟩
      · simp only [bne_self_eq_false, if_false, spec_SameNode.j0, hl]
        rw [if_neg (by simp)]
        rw [if_neg (by simp), samenode_l0]; exact h0
      · rw [if_pos (by simp), if_pos (by omega), h1]; rfl
    · refine ⟨false, ?_, ?_⟩
      · rw [if_neg (by simp)]
        simp only [spec_SameNode.j0]
        rw [if_pos (by simp; omega)]
      · rw [if_pos (by simp), if_neg (by omega)]; rfl
  · refine ⟨false, ?_, ?_⟩
    · rw [if_pos (by simpa using hb)]; simp [spec_SameNode.j0]
    · rw [if_neg (by simpa using hb)]

/-! ### rdP -/
theorem rd_implPage (xs : List S96) (i : Nat) (h : i < xs.length) : rd_T96 xs (i : Int) = xs[i] := by
  unfold rd_T96; rw [Int.toNat_natCast, List.getD_eq_getElem?_getD, List.getElem?_eq_getElem h]; rfl
theorem rd_lawsPage (xs : List S138) (i : Nat) (h : i < xs.length) : rd_T138 xs (i : Int) = xs[i] := by
  unfold rd_T138; rw [Int.toNat_natCast, List.getD_eq_getElem?_getD, List.getElem?_eq_getElem h]; rfl

/-! ### samebook -/
theorem samebook_l0 (r r' : Int) (xs ys : List S96) (hx : xs.length ≤ 1048576) (hl : ys.length = xs.length) (hw : ∀ x ∈ xs, x.f1.f1.length ≤ 1048576) (d : Nat) : ∀ (k i : Nat), i + d = xs.length → d + 1048578 < k →
    ∃ v, spec_SameBook.l0 k (i : Int) r xs r' ys = some v ∧ impl_Page.l0 k ys xs (xs.length : Int) (i : Int) = some v := by
  induction d with
  | zero =>
    intro k i hi hk
    obtain ⟨k, rfl⟩ : ∃ m, k = m + 1 := ⟨k - 1, by omega⟩
    refine ⟨true, ?_, ?_⟩
    · simp only [spec_SameBook.l0]; rw [if_neg (by omega)]
    · simp only [impl_Page.l0]; rw [if_neg (by omega)]
  | succ d ih =>
    intro k i hi hk
    obtain ⟨k, rfl⟩ : ∃ m, k = m + 1 := ⟨k - 1, by omega⟩
    have hn := hw xs[i] (List.getElem_mem (by omega))
    obtain ⟨v, h1, h2⟩ := samenode_both k xs[i].f1.f0 (ys[i]'(by omega)).f1.f0 xs[i].f1.f1 (ys[i]'(by omega)).f1.f1 (by omega) (by omega)
    obtain ⟨v', g1, g2⟩ := ih k (i + 1) (by omega) (by omega)
    have e1 : spec_SameBook.l0 (k + 1) (i : Int) r xs r' ys = (if (xs[i].f0 != (ys[i]'(by omega)).f0) = true then some false else (if v = true then some v' else some false)) := by
      simp only [spec_SameBook.l0]
      rw [if_pos (by omega), if_pos (by omega), if_pos (by omega), rd_implPage xs i (by omega), rd_implPage ys i (by omega), wr_succ (n := xs.length) (by omega) (by omega), h1, g1]
      rfl
    have e2 : impl_Page.l0 (k + 1) ys xs (xs.length : Int) (i : Int) = (if (xs[i].f0 == (ys[i]'(by omega)).f0) = true then (if v = true then some v' else some false) else some false) := by
      simp only [impl_Page.l0]
      rw [if_pos (by omega), if_pos (by omega), if_pos (by omega), if_pos (by omega), rd_implPage xs i (by omega), rd_implPage ys i (by omega), wr_succ (n := xs.length) (by omega) (by omega), g2]
      unfold impl_SameBook_1.f
      rw [h2]
      by_cases hu : (xs[i].f0 == (ys[i]'(by omega)).f0) = true
      · rw [if_pos hu, if_pos hu]; rfl
      · rw [if_neg hu, if_neg hu]; rfl
    rw [e1, e2]
    by_cases hu : xs[i].f0 = (ys[i]'(by omega)).f0
    · have b1 : ¬ (xs[i].f0 != (ys[i]'(by omega)).f0) = true := by rw [hu]; simp
      have b2 : (xs[i].f0 == (ys[i]'(by omega)).f0) = true := by rw [hu]; simp
      rw [if_neg b1, if_pos b2]
      cases v with
      | true => exact ⟨v', rfl, rfl⟩
      | false => exact ⟨false, rfl, rfl⟩
    · rw [if_pos (by simp [hu]), if_neg (by simp [hu])]
      exact ⟨false, rfl, rfl⟩
theorem samebook_both (k : Nat) (r r' : Int) (xs ys : List S96) (hx : xs.length ≤ 1048576) (hw : ∀ x ∈ xs, x.f1.f1.length ≤ 1048576) (hk : 2097156 < k) : ∃ v, spec_SameBook.f k r xs r' ys = some v ∧ impl_SameBook.f k r xs r' ys = some v := by
  obtain ⟨k, rfl⟩ : ∃ m, k = m + 1 := ⟨k - 1, by omega⟩
  unfold spec_SameBook.f impl_SameBook.f
  by_cases hr : r = r'
  · rw [if_pos hr, if_pos hr]
    by_cases hl : xs.length = ys.length
    · obtain ⟨v, h1, h2⟩ := samebook_l0 r r' xs ys hx hl.symm hw xs.length k 0 (by omega) (by omega)
      have h1 : spec_SameBook.l0 k 0 r xs r' ys = some v := h1
      have h2 : impl_Page.l0 k ys xs (xs.length : Int) 0 = some v := h2
      have h3 : impl_Page.f k xs ys = some v := by
        unfold impl_Page.f; rw [if_pos (by omega)]; exact h2
      have h4 : impl_Page.f (k + 1) xs ys = some v := impl_Page.mono _ _ _ _ h3
      refine ⟨v, ?_, by rw [h4]; rfl⟩
      simp only [spec_SameBook.j0]
      rw [if_neg (by simp [hl])]; exact h1
    · refine ⟨false, ?_, ?_⟩
      · simp only [spec_SameBook.j0]
        rw [if_pos (by simp; omega)]
      · unfold impl_Page.f
        rw [if_neg (by omega)]; rfl
  · rw [if_neg hr, if_neg hr]
    refine ⟨false, ?_, rfl⟩
    simp only [spec_SameBook.j0]
    simp

/-! ### sz:Entry -/
theorem szEntryS_some (l : List S131) (a : Int) (hl : l.length ≤ maxLen) (h0 : 0 ≤ a) (h1 : a ≤ 1048576) : laws_szEntryS.f l a = some (if a - (l.length : Int) < 0 then -1 else a - (l.length : Int)) := by
  unfold maxLen at hl
  unfold laws_szEntryS.f
  rw [wr (n := a - (l.length : Int)) (by omega) (by omega)]
  split <;> rfl

/-! ### szNode -/
theorem szNode_some (b : Bool) (l : List S131) (a : Int) (hl : l.length ≤ maxLen) (h0 : 0 ≤ a) (h1 : a ≤ 1048576) : laws_szNode.f b l a = some (if a - (l.length : Int) < 0 then -1 else a - (l.length : Int)) := by
  unfold laws_szNode.f
  rw [szEntryS_some l a hl h0 h1]
  simp only [Option.bind_some]
  by_cases h : a - (l.length : Int) < 0
  · rw [if_pos h]; rfl
  · rw [if_neg h, if_neg h]

/-! ### szPage -/
theorem szPageS_l0 (xs : List S138) (hx : xs.length ≤ 1048576) (hw : ∀ x ∈ xs, x.f1.f1.length ≤ maxLen) (d : Nat) : ∀ (k i : Nat) (a : Int), i + d = xs.length → d < k → 0 ≤ a → a ≤ 1048576 →
    ∃ v, laws_szPageS.l0 k xs a (i : Int) = some v ∧ v ≤ a ∧ (0 ≤ v → ∀ x ∈ xs.drop i, x.f1.f1.length ≤ 1048576) := by
  induction d with
  | zero =>
    intro k i a hi hk h0 h1
    obtain ⟨k, rfl⟩ : ∃ m, k = m + 1 := ⟨k - 1, by omega⟩
    refine ⟨a, ?_, Int.le_refl _, fun _ x hx => ?_⟩
    · simp only [laws_szPageS.l0]
      rw [if_neg (by omega)]
    · rw [List.drop_of_length_le (by omega)] at hx; cases hx
  | succ d ih =>
    intro k i a hi hk h0 h1
    obtain ⟨k, rfl⟩ : ∃ m, k = m + 1 := ⟨k - 1, by omega⟩
    have hl := hw xs[i] (List.getElem_mem (by omega))
    simp only [laws_szPageS.l0]
    rw [if_pos (by omega), if_pos (by omega), rd_lawsPage xs i (by omega)]
    unfold laws_szPage.f
    rw [szNode_some _ _ a hl h0 h1]
    simp only [Option.bind_some]
    by_cases h : a - (xs[i].f1.f1.length : Int) < 0
    · rw [if_pos h]
      exact ⟨-1, rfl, by omega, fun h => absurd h (by decide)⟩
    · rw [if_neg h, if_neg h]
      simp only [Option.bind_some]
      rw [if_neg h, wr_succ (n := xs.length) (by omega) (by omega)]
      obtain ⟨v, hv, hle, hr⟩ := ih k (i + 1) _ (by omega) (by omega) (by omega) (by omega : a - (xs[i].f1.f1.length : Int) ≤ 1048576)
      refine ⟨v, hv, by omega, fun h x hx => ?_⟩
      rw [List.drop_eq_getElem_cons (by omega)] at hx
      cases hx with
      | head => omega
      | tail _ hx => exact hr h x hx
theorem szBook_some (r : Int) (l : List S138) (a : Int) (hl : l.length ≤ maxLen) (hw : ∀ x ∈ l, x.f1.f1.length ≤ maxLen) (h0 : 0 ≤ a) (h1 : a ≤ 1048576) (k : Nat) (hk : 1048576 < k) :
    ∃ v, laws_szBook.f k r l a = some v ∧ v ≤ a ∧ (0 ≤ v → l.length ≤ 1048576 ∧ ∀ x ∈ l, x.f1.f1.length ≤ 1048576) := by
  unfold maxLen at hl
  unfold laws_szBook.f laws_szPageS.f
  rw [wr (n := a - (l.length : Int)) (by omega) (by omega)]
  by_cases h : a - (l.length : Int) < 0
  · rw [if_pos h]
    exact ⟨-1, rfl, by omega, fun h => absurd h (by decide)⟩
  · rw [if_neg h]
    obtain ⟨v, hv, hle, hr⟩ := szPageS_l0 l (by omega) hw l.length k 0 _ (by omega) (by omega) (by omega : 0 ≤ a - (l.length : Int)) (by omega)
    have hv : laws_szPageS.l0 k l (a - (l.length : Int)) 0 = some v := hv
    rw [hv]
    simp only [Option.bind_some]
    by_cases hn : v < 0
    · rw [if_pos hn]
      exact ⟨-1, rfl, by omega, fun h => absurd h (by decide)⟩
    · rw [if_neg hn]
      exact ⟨v, rfl, by omega, fun h => ⟨by omega, fun x hx => hr h x (by simpa using hx)⟩⟩

/-! ### rdL:Entry -/
theorem rd_lawsEntry (xs : List S131) (i : Nat) (h : i < xs.length) : rd_T131 xs (i : Int) = xs[i] := by
  unfold rd_T131; rw [Int.toNat_natCast, List.getD_eq_getElem?_getD, List.getElem?_eq_getElem h]; rfl

/-! ### box -/
theorem toBox_some (a b c d : Int) : laws_toBox.f a b c d = some (a, b, c, d) := rfl

/-! ### entry -/
theorem toEntry_some (n a b c d : Int) : laws_toEntry.f n a b c d = some (n, a, b, c, d) := rfl

/-! ### convEntry -/
def convEntry (x : S131) : S90 := ⟨x.f0, ⟨x.f1.f0, x.f1.f1, x.f1.f2, x.f1.f3⟩⟩

/-! ### to:Entry -/
theorem toEntryS_l0 (xs : List S131) (hx : xs.length ≤ 1048576) (d : Nat) : ∀ (k i : Nat) (ys : List S90), ys.length = xs.length → i + d = xs.length → ys.take i = (xs.take i).map convEntry → d < k →
    laws_toEntryS.l0 k xs ys (i : Int) = some (xs.map convEntry) := by
  induction d with
  | zero =>
    intro k i ys hl hi hy hk
    obtain ⟨k, rfl⟩ : ∃ m, k = m + 1 := ⟨k - 1, by omega⟩
    simp only [laws_toEntryS.l0]
    rw [if_neg (by omega), filled convEntry xs ys hl i (by omega) hy]
  | succ d ih =>
    intro k i ys hl hi hy hk
    obtain ⟨k, rfl⟩ : ∃ m, k = m + 1 := ⟨k - 1, by omega⟩
    simp only [laws_toEntryS.l0]
    rw [if_pos (by omega), if_pos (by omega), rd_lawsEntry xs i (by omega), toEntry_some]
    simp only [Option.bind_some]
    rw [if_pos (by omega), Int.toNat_natCast, wr_succ (n := xs.length) (by omega) (by omega)]
    exact ih k (i + 1) _ (by rw [List.length_set]; exact hl) (by omega) (fill_take convEntry xs ys i hl (by omega) hy) (by omega)
theorem toEntryS_some (k : Nat) (xs : List S131) (hx : xs.length ≤ 1048576) (hk : xs.length < k) : laws_toEntryS.f k xs = some (xs.map convEntry) := by
  unfold laws_toEntryS.f
  rw [if_pos (by omega), if_pos (by omega)]
  exact toEntryS_l0 xs hx xs.length k 0 _ (by simp) (by omega) (by simp) hk

/-! ### toNode -/
theorem toNode_some (k : Nat) (b : Bool) (xs : List S131) (hx : xs.length ≤ 1048576) (hk : xs.length < k) : laws_toNode.f k b xs = some (b, xs.map convEntry) := by
  unfold laws_toNode.f
  rw [toEntryS_some k xs hx hk]; rfl

/-! ### toPage -/
def convPage (x : S138) : S96 := ⟨x.f0, ⟨x.f1.f0, x.f1.f1.map convEntry⟩⟩
theorem toPageS_l0 (xs : List S138) (hx : xs.length ≤ 1048576) (hw : ∀ x ∈ xs, x.f1.f1.length ≤ 1048576) (d : Nat) : ∀ (k i : Nat) (ys : List S96), ys.length = xs.length → i + d = xs.length → ys.take i = (xs.take i).map convPage → d + 1048577 < k →
    laws_toPageS.l0 k xs ys (i : Int) = some (xs.map convPage) := by
  induction d with
  | zero =>
    intro k i ys hl hi hy hk
    obtain ⟨k, rfl⟩ : ∃ m, k = m + 1 := ⟨k - 1, by omega⟩
    simp only [laws_toPageS.l0]
    rw [if_neg (by omega), filled convPage xs ys hl i (by omega) hy]
  | succ d ih =>
    intro k i ys hl hi hy hk
    obtain ⟨k, rfl⟩ : ∃ m, k = m + 1 := ⟨k - 1, by omega⟩
    have hn := hw xs[i] (List.getElem_mem (by omega))
    simp only [laws_toPageS.l0]
    rw [if_pos (by omega), if_pos (by omega), rd_lawsPage xs i (by omega)]
    unfold laws_toPage.f
    rw [toNode_some k _ _ hn (by omega)]
    simp only [Option.bind_some]
    rw [if_pos (by omega), Int.toNat_natCast, wr_succ (n := xs.length) (by omega) (by omega)]
    exact ih k (i + 1) _ (by rw [List.length_set]; exact hl) (by omega) (fill_take convPage xs ys i hl (by omega) hy) (by omega)
theorem toBook_some (k : Nat) (r : Int) (xs : List S138) (hx : xs.length ≤ 1048576) (hw : ∀ x ∈ xs, x.f1.f1.length ≤ 1048576) (hk : 2097153 < k) : laws_toBook.f k r xs = some (r, xs.map convPage) := by
  unfold laws_toBook.f laws_toPageS.f
  rw [if_pos (by omega), if_pos (by omega)]
  have h := toPageS_l0 xs hx hw xs.length k 0 (List.replicate (xs.length : Int).toNat z96) (by simp) (by omega) (by simp) (by omega)
  have h : laws_toPageS.l0 k xs (List.replicate (xs.length : Int).toNat z96) 0 = some (xs.map convPage) := h
  rw [h]; rfl
theorem convPage_len {xs : List S138} (hw : ∀ x ∈ xs, x.f1.f1.length ≤ 1048576) : ∀ y ∈ xs.map convPage, y.f1.f1.length ≤ 1048576 := by
  intro y hy
  obtain ⟨x, hx, rfl⟩ := List.mem_map.mp hy
  have := hw x hx
  simpa [convPage] using this

/-! ### eq1Box -/
theorem eqBox_self (a b c d : Int) : laws_eqBox.f a b c d a b c d = some true := by simp [laws_eqBox.f]

/-! ### eq1Entry -/
theorem eqEntry_self (n a b c d : Int) : laws_eqEntry.f n a b c d n a b c d = some true := by simp [laws_eqEntry.f, eqBox_self]

/-! ### eq:Entry -/
theorem eqEntryS_l0 (xs : List S90) (hx : xs.length ≤ 140737488355328) (d : Nat) : ∀ (k i : Nat), i + d = xs.length → d < k → laws_eqEntryS.l0 k xs xs (i : Int) = some true := by
  induction d with
  | zero =>
    intro k i hi hk
    obtain ⟨k, rfl⟩ : ∃ m, k = m + 1 := ⟨k - 1, by omega⟩
    simp only [laws_eqEntryS.l0]
    rw [if_neg (by omega)]
  | succ d ih =>
    intro k i hi hk
    obtain ⟨k, rfl⟩ : ∃ m, k = m + 1 := ⟨k - 1, by omega⟩
    simp only [laws_eqEntryS.l0]
    rw [if_pos (by omega), if_pos (by omega), if_pos (by omega), eqEntry_self]
    simp only [Option.bind_some, if_true]
    rw [wr_succ (n := xs.length) (by omega) hx]
    exact ih k (i + 1) (by omega) (by omega)
theorem eqEntryS_same (k : Nat) (xs : List S90) (hx : xs.length ≤ 140737488355328) (hk : xs.length < k) : laws_eqEntryS.f k xs xs = some true := by
  unfold laws_eqEntryS.f
  rw [if_pos rfl]
  exact eqEntryS_l0 xs hx xs.length k 0 (by omega) hk

/-! ### eqNode -/
theorem eqNode_same (k : Nat) (b : Bool) (xs : List S90) (hx : xs.length ≤ 140737488355328) (hk : xs.length < k) : laws_eqNode.f k b xs b xs = some true := by
  unfold laws_eqNode.f
  rw [eqEntryS_same k xs hx hk]; simp

/-! ### eqPage -/
theorem eqPageS_l0 (xs : List S96) (hx : xs.length ≤ 140737488355328) (hw : ∀ x ∈ xs, x.f1.f1.length ≤ 1048576) (d : Nat) : ∀ (k i : Nat), i + d = xs.length → d + 1048577 < k → laws_eqPageS.l0 k xs xs (i : Int) = some true := by
  induction d with
  | zero =>
    intro k i hi hk
    obtain ⟨k, rfl⟩ : ∃ m, k = m + 1 := ⟨k - 1, by omega⟩
    simp only [laws_eqPageS.l0]
    rw [if_neg (by omega)]
  | succ d ih =>
    intro k i hi hk
    obtain ⟨k, rfl⟩ : ∃ m, k = m + 1 := ⟨k - 1, by omega⟩
    have hn := hw xs[i] (List.getElem_mem (by omega))
    simp only [laws_eqPageS.l0]
    rw [if_pos (by omega), if_pos (by omega), if_pos (by omega), rd_implPage xs i (by omega)]
    unfold laws_eqPage.f
    rw [eqNode_same k _ _ (by omega) (by omega)]
    simp only [Option.bind_some, bne_self_eq_false, if_true]
    rw [if_neg (by decide)]
    simp only [Option.bind_some, if_true]
    rw [wr_succ (n := xs.length) (by omega) hx]
    exact ih k (i + 1) (by omega) (by omega)
theorem eqBook_same (k : Nat) (r : Int) (xs : List S96) (hx : xs.length ≤ 1048576) (hw : ∀ x ∈ xs, x.f1.f1.length ≤ 1048576) (hk : 2097153 < k) : laws_eqBook.f k r xs r xs = some true := by
  unfold laws_eqBook.f laws_eqPageS.f
  rw [if_pos rfl, if_pos rfl]
  have h := eqPageS_l0 xs (by omega) hw xs.length k 0 (by omega) (by omega)
  have h : laws_eqPageS.l0 k xs xs 0 = some true := h
  rw [h]; rfl

theorem pure_law (r : Int) (l : List S138) (r1 : Int) (l1 : List S138) (hm : l.length ≤ maxLen) (hw : ∀ x ∈ l, x.f1.f1.length ≤ maxLen) (hm1 : l1.length ≤ maxLen) (hw1 : ∀ x ∈ l1, x.f1.f1.length ≤ maxLen) : ∃ k, laws_FnExactSameBook.f k r l r1 l1 = some true := by
  obtain ⟨k, hk⟩ : ∃ k : Nat, k = 2097160 := ⟨_, rfl⟩
  refine ⟨k, ?_⟩
  unfold laws_FnExactSameBook.f
  obtain ⟨v, hv, hle, hv1⟩ := szBook_some r l 1048576 hm hw (by decide) (by decide) k (by omega)
  rw [hv]
  simp only [Option.bind_some]
  by_cases h : v < 0
  · rw [if_pos h]
  · rw [if_neg h]
    obtain ⟨hl, hp⟩ := hv1 (by omega)
    obtain ⟨v', hv', hle', hv1'⟩ := szBook_some r1 l1 v hm1 hw1 (by omega) (by omega) k (by omega)
    rw [hv']
    simp only [Option.bind_some]
    by_cases h' : v' < 0
    · rw [if_pos h']
    · rw [if_neg h']
      obtain ⟨hl1, hp1⟩ := hv1' (by omega)
      rw [toBook_some k r l hl hp (by omega), toBook_some k r1 l1 hl1 hp1 (by omega)]
      obtain ⟨u, h1, h2⟩ := samebook_both k r r1 (l.map convPage) (l1.map convPage) (by rw [List.length_map]; exact hl) (convPage_len hp) (by omega)
      simp only [Option.bind_some, h1, h2, bne_self_eq_false]
      rw [eqBook_same k r _ (by rw [List.length_map]; exact hl) (convPage_len hp) (by omega), eqBook_same k r1 _ (by rw [List.length_map]; exact hl1) (convPage_len hp1) (by omega)]
      simp
end Go.Proofs.Ytjmgomailgplcaa.PureFnExactSameBook
