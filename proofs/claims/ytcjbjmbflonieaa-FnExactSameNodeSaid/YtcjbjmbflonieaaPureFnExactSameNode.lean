/- The pure statement of FnExactSameNode: whether two nodes are the same is what the reference tells, for all nodes; condition: a list's length is a length. -/
import Derived.Test.YtcjbjmbflonieaaPFnExactSameNodex4
import Derived.OpenShut
namespace Go.Proofs.Ytcjbjmbflonieaa.PureFnExactSameNode
open Go.RowKit Go.Proofs.Ytcjbjmbflonieaa.PFnExactSameNode Go.Proofs.YtcjbjmbflonieaaW.PrintWords Go.Proofs.YtcjbjmbflonieaaW.PrintLast Go.Proofs.YtcjbjmbflonieaaW.PrintMore
set_option linter.unusedVariables false
set_option linter.unusedSimpArgs false

/-! ### wrap -/
theorem wr {n : Int} (h0 : -9223372036854775808 ≤ n) (h1 : n ≤ 9223372036854775807) : wrap64 n = n := by
  unfold wrap64; omega
theorem wf64 {n : Int} (h : (Lit.int .i64 n).wf = true) : -9223372036854775808 ≤ n ∧ n ≤ 9223372036854775807 := bounds_i64 h

/-! ### basic -/
theorem rd_nat (xs : List Int) (i : Nat) (h : i < xs.length) : rd xs (i : Int) = xs[i] := by
  unfold rd; rw [Int.toNat_natCast, List.getD_eq_getElem?_getD, List.getElem?_eq_getElem h]; rfl
theorem fill_take {α β : Type} (conv : α → β) (xs : List α) (ys : List β) (i : Nat) (hl : ys.length = xs.length) (hi : i < xs.length) (h : ys.take i = (xs.take i).map conv) :
    (ys.set i (conv xs[i])).take (i + 1) = (xs.take (i + 1)).map conv := by
  rw [List.take_succ_eq_append_getElem (by rw [List.length_set]; omega), List.take_succ_eq_append_getElem hi, List.getElem_set_self, List.map_append, List.take_set_of_le (Nat.le_refl i), h]; rfl
theorem wr_succ {i n : Nat} (h : i < n) (hn : n ≤ 140737488355328) : wrap64 ((i : Int) + 1) = ((i + 1 : Nat) : Int) := by
  rw [wr (by omega) (by omega)]; omega
theorem byte_bounds {xs : List Int} (h : ∀ x ∈ xs, (Lit.int .u8 x).wf = true) (i : Int) : 0 ≤ rd xs i ∧ rd xs i ≤ 255 := by
  unfold rd
  rw [List.getD_eq_getElem?_getD]
  exact range_u8 h _

/-! ### rows -/
theorem filled {α β : Type} (conv : α → β) (xs : List α) (ys : List β) (hl : ys.length = xs.length) (i : Nat) (hi : i = xs.length) (h : ys.take i = (xs.take i).map conv) : ys = xs.map conv := by
  rw [List.take_of_length_le (by omega), List.take_of_length_le (by omega)] at h; exact h

/-! ### rdS:Entry -/
theorem rd_implEntry (xs : List S47) (i : Nat) (h : i < xs.length) : rd_T47 xs (i : Int) = xs[i] := by
  unfold rd_T47; rw [Int.toNat_natCast, List.getD_eq_getElem?_getD, List.getElem?_eq_getElem h]; rfl

/-! ### samenode -/
theorem samenode_l0 : ∀ (k : Nat) (b c : Bool) (xs ys : List S47) (i : Int), spec_SameNode.l0 k i b xs c ys = impl_Entry.l0 k xs ys (xs.length : Int) i
  | 0, _, _, _, _, _ => rfl
  | k + 1, b, c, xs, ys, i => by
    simp only [spec_SameNode.l0, impl_Entry.l0, samenode_l0 k]
    by_cases h : i < (xs.length : Int)
    · simp only [if_pos h]
    · simp only [if_neg h]
theorem samenode_tot (xs ys : List S47) (hx : xs.length ≤ 140737488355328) (hl : ys.length = xs.length) (d : Nat) : ∀ (k i : Nat), i + d = xs.length → d < k → ∃ v, ∀ m, impl_Entry.l0 (k + m) xs ys (xs.length : Int) (i : Int) = some v := by
  induction d with
  | zero =>
    intro k i hi hk
    obtain ⟨k, rfl⟩ : ∃ m, k = m + 1 := ⟨k - 1, by omega⟩
    refine ⟨true, fun m => ?_⟩
    rw [show k + 1 + m = (k + m) + 1 by omega]
    simp only [impl_Entry.l0]
    rw [if_neg (by omega)]
  | succ d ih =>
    intro k i hi hk
    obtain ⟨k, rfl⟩ : ∃ m, k = m + 1 := ⟨k - 1, by omega⟩
    obtain ⟨v, hv⟩ := ih k (i + 1) (by omega) (by omega)
    by_cases hc : (!(((rd_T47 xs i).f0) == ((rd_T47 ys i).f0)) || ((!(((rd_T47 xs i).f1.f0) == ((rd_T47 ys i).f1.f0)) || (!(((rd_T47 xs i).f1.f1) == ((rd_T47 ys i).f1.f1)) || (!(((rd_T47 xs i).f1.f2) == ((rd_T47 ys i).f1.f2)) || (!(((rd_T47 xs i).f1.f3) == ((rd_T47 ys i).f1.f3)))))))) = true
    · refine ⟨false, fun m => ?_⟩
      rw [show k + 1 + m = (k + m) + 1 by omega]
      simp only [impl_Entry.l0]
      rw [if_pos (by omega), if_pos (by omega), if_pos (by omega), if_pos (by omega), if_pos hc]
    · refine ⟨v, fun m => ?_⟩
      rw [show k + 1 + m = (k + m) + 1 by omega]
      simp only [impl_Entry.l0]
      rw [if_pos (by omega), if_pos (by omega), if_pos (by omega), if_pos (by omega), if_neg hc, wr_succ (n := xs.length) (by omega) hx]
      exact hv m
theorem samenode_both (k : Nat) (b c : Bool) (xs ys : List S47) (hx : xs.length ≤ 140737488355328) (hk : xs.length + 1 < k) : ∃ v, spec_SameNode.f k b xs c ys = some v ∧ impl_SameNode.f k b xs c ys = some v := by
  obtain ⟨k, rfl⟩ : ∃ m, k = m + 1 := ⟨k - 1, by omega⟩
  unfold spec_SameNode.f impl_SameNode.f impl_Entry.f
  by_cases hb : b = c
  · subst hb
    by_cases hl : xs.length = ys.length
    · obtain ⟨v, hv⟩ := samenode_tot xs ys hx hl.symm xs.length (xs.length + 1) 0 (by omega) (by omega)
      have h0 := hv (k - (xs.length + 1))
      have h1 := hv (k + 1 - (xs.length + 1))
      rw [show xs.length + 1 + (k - (xs.length + 1)) = k by omega] at h0
      rw [show xs.length + 1 + (k + 1 - (xs.length + 1)) = k + 1 by omega] at h1
      have h0 : impl_Entry.l0 k xs ys (xs.length : Int) 0 = some v := h0
      have h1 : impl_Entry.l0 (k + 1) xs ys (xs.length : Int) 0 = some v := h1
      refine ⟨v, ?_, ?_⟩
      · simp only [bne_self_eq_false, if_false, spec_SameNode.j0, hl]
        rw [if_neg (by simp)]
        rw [if_neg (by simp), samenode_l0]; exact h0
      · rw [if_pos (by simp), if_pos (by omega), h1]; rfl
    · refine ⟨false, ?_, ?_⟩
      · rw [if_neg (by simp)]
        simp only [spec_SameNode.j0]
        rw [if_pos (by simp; omega)]
      · rw [if_pos (by simp), if_neg (by omega)]; rfl
  · refine ⟨false, ?_, ?_⟩
    · rw [if_pos (by simpa using hb)]; simp [spec_SameNode.j0]
    · rw [if_neg (by simpa using hb)]

/-! ### rdL:Entry -/
theorem rd_lawsEntry (xs : List S53) (i : Nat) (h : i < xs.length) : rd_T53 xs (i : Int) = xs[i] := by
  unfold rd_T53; rw [Int.toNat_natCast, List.getD_eq_getElem?_getD, List.getElem?_eq_getElem h]; rfl

/-! ### box -/
theorem toBox_some (a b c d : Int) : laws_toBox.f a b c d = some (a, b, c, d) := rfl

/-! ### entry -/
theorem toEntry_some (n a b c d : Int) : laws_toEntry.f n a b c d = some (n, a, b, c, d) := rfl

/-! ### convEntry -/
def convEntry (x : S53) : S47 := ⟨x.f0, ⟨x.f1.f0, x.f1.f1, x.f1.f2, x.f1.f3⟩⟩

/-! ### to:Entry -/
theorem toEntryS_l0 (xs : List S53) (hx : xs.length ≤ 1048576) (d : Nat) : ∀ (k i : Nat) (ys : List S47), ys.length = xs.length → i + d = xs.length → ys.take i = (xs.take i).map convEntry → d < k →
    laws_toEntryS.l0 k xs ys (i : Int) = some (xs.map convEntry) := by
  induction d with
  | zero =>
    intro k i ys hl hi hy hk
    obtain ⟨k, rfl⟩ : ∃ m, k = m + 1 := ⟨k - 1, by omega⟩
    simp only [laws_toEntryS.l0]
    rw [if_neg (by omega), filled convEntry xs ys hl i (by omega) hy]
  | succ d ih =>
    intro k i ys hl hi hy hk
    obtain ⟨k, rfl⟩ : ∃ m, k = m + 1 := ⟨k - 1, by omega⟩
    simp only [laws_toEntryS.l0]
    rw [if_pos (by omega), if_pos (by omega), rd_lawsEntry xs i (by omega), toEntry_some]
    simp only [Option.bind_some]
    rw [if_pos (by omega), Int.toNat_natCast, wr_succ (n := xs.length) (by omega) (by omega)]
    exact ih k (i + 1) _ (by rw [List.length_set]; exact hl) (by omega) (fill_take convEntry xs ys i hl (by omega) hy) (by omega)
theorem toEntryS_some (k : Nat) (xs : List S53) (hx : xs.length ≤ 1048576) (hk : xs.length < k) : laws_toEntryS.f k xs = some (xs.map convEntry) := by
  unfold laws_toEntryS.f
  rw [if_pos (by omega), if_pos (by omega)]
  exact toEntryS_l0 xs hx xs.length k 0 _ (by simp) (by omega) (by simp) hk

/-! ### eq1Box -/
theorem eqBox_self (a b c d : Int) : laws_eqBox.f a b c d a b c d = some true := by simp [laws_eqBox.f]

/-! ### eq1Entry -/
theorem eqEntry_self (n a b c d : Int) : laws_eqEntry.f n a b c d n a b c d = some true := by simp [laws_eqEntry.f, eqBox_self]

/-! ### eq:Entry -/
theorem eqEntryS_l0 (xs : List S47) (hx : xs.length ≤ 140737488355328) (d : Nat) : ∀ (k i : Nat), i + d = xs.length → d < k → laws_eqEntryS.l0 k xs xs (i : Int) = some true := by
  induction d with
  | zero =>
    intro k i hi hk
    obtain ⟨k, rfl⟩ : ∃ m, k = m + 1 := ⟨k - 1, by omega⟩
    simp only [laws_eqEntryS.l0]
    rw [if_neg (by omega)]
  | succ d ih =>
    intro k i hi hk
    obtain ⟨k, rfl⟩ : ∃ m, k = m + 1 := ⟨k - 1, by omega⟩
    simp only [laws_eqEntryS.l0]
    rw [if_pos (by omega), if_pos (by omega), if_pos (by omega), eqEntry_self]
    simp only [Option.bind_some, if_true]
    rw [wr_succ (n := xs.length) (by omega) hx]
    exact ih k (i + 1) (by omega) (by omega)
theorem eqEntryS_same (k : Nat) (xs : List S47) (hx : xs.length ≤ 140737488355328) (hk : xs.length < k) : laws_eqEntryS.f k xs xs = some true := by
  unfold laws_eqEntryS.f
  rw [if_pos rfl]
  exact eqEntryS_l0 xs hx xs.length k 0 (by omega) hk

/-! ### sz:Entry -/
theorem szEntryS_some (l : List S53) (a : Int) (hl : l.length ≤ maxLen) (h0 : 0 ≤ a) (h1 : a ≤ 1048576) : laws_szEntryS.f l a = some (if a - (l.length : Int) < 0 then -1 else a - (l.length : Int)) := by
  unfold maxLen at hl
  unfold laws_szEntryS.f
  rw [wr (n := a - (l.length : Int)) (by omega) (by omega)]
  split <;> rfl

/-! ### node -/
theorem toNode_some (k : Nat) (b : Bool) (xs : List S53) (hx : xs.length ≤ 1048576) (hk : xs.length < k) : laws_toNode.f k b xs = some (b, xs.map convEntry) := by
  unfold laws_toNode.f
  rw [toEntryS_some k xs hx hk]; rfl
theorem eqNode_same (k : Nat) (b : Bool) (xs : List S47) (hx : xs.length ≤ 140737488355328) (hk : xs.length < k) : laws_eqNode.f k b xs b xs = some true := by
  unfold laws_eqNode.f
  rw [eqEntryS_same k xs hx hk]; simp
theorem szNode_some (b : Bool) (l : List S53) (a : Int) (hl : l.length ≤ maxLen) (h0 : 0 ≤ a) (h1 : a ≤ 1048576) : laws_szNode.f b l a = some (if a - (l.length : Int) < 0 then -1 else a - (l.length : Int)) := by
  unfold laws_szNode.f
  rw [szEntryS_some l a hl h0 h1]
  simp only [Option.bind_some]
  by_cases h : a - (l.length : Int) < 0
  · rw [if_pos h]; rfl
  · rw [if_neg h, if_neg h]

theorem pure_law (b : Bool) (l : List S53) (b1 : Bool) (l1 : List S53) (hm : l.length ≤ maxLen) (hm1 : l1.length ≤ maxLen) : ∃ k, laws_FnExactSameNode.f k b l b1 l1 = some true := by
  refine ⟨l.length + l1.length + 2, ?_⟩
  unfold laws_FnExactSameNode.f
  rw [szNode_some b l _ hm (by omega) (by omega)]
  simp only [Option.bind_some]
  by_cases h : (1048576 : Int) - (l.length : Int) < 0
  · rw [if_pos h]; rfl
  · rw [if_neg h, if_neg h, szNode_some b1 l1 _ hm1 (by omega) (by omega)]
    simp only [Option.bind_some]
    by_cases h1 : (1048576 : Int) - (l.length : Int) - (l1.length : Int) < 0
    · rw [if_pos h1]; rfl
    · rw [if_neg h1, if_neg h1]
      have hl : (l.map convEntry).length = l.length := List.length_map ..
      have hl1 : (l1.map convEntry).length = l1.length := List.length_map ..
      rw [toNode_some (l.length + l1.length + 2) b l (by omega) (by omega), toNode_some (l.length + l1.length + 2) b1 l1 (by omega) (by omega)]
      obtain ⟨v, hv, hw⟩ := samenode_both (l.length + l1.length + 2) b b1 (l.map convEntry) (l1.map convEntry) (by omega) (by omega)
      simp only [Option.bind_some, hv, hw, bne_self_eq_false]
      rw [eqNode_same (l.length + l1.length + 2) _ _ (by omega) (by omega), eqNode_same (l.length + l1.length + 2) _ _ (by omega) (by omega)]
      simp
end Go.Proofs.Ytcjbjmbflonieaa.PureFnExactSameNode
