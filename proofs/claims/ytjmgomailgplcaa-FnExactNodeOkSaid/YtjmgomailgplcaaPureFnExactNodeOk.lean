/- The pure statement of FnExactNodeOk: whether a node is sound is what the reference tells, for all nodes; condition: the list's length is a length. -/
import Derived.Test.YtjmgomailgplcaaPFnExactNodeOkx3
import Derived.OpenShut
namespace Go.Proofs.Ytjmgomailgplcaa.PureFnExactNodeOk
open Go.RowKit Go.Proofs.Ytjmgomailgplcaa.PFnExactNodeOk Go.Proofs.YtjmgomailgplcaaW.PrintWords Go.Proofs.YtjmgomailgplcaaW.PrintLast Go.Proofs.YtjmgomailgplcaaW.PrintMore
set_option linter.unusedVariables false
set_option linter.unusedSimpArgs false

/-! ### wrap -/
theorem wr {n : Int} (h0 : -9223372036854775808 ≤ n) (h1 : n ≤ 9223372036854775807) : wrap64 n = n := by
  unfold wrap64; omega
theorem wf64 {n : Int} (h : (Lit.int .i64 n).wf = true) : -9223372036854775808 ≤ n ∧ n ≤ 9223372036854775807 := bounds_i64 h

/-! ### basic -/
theorem rd_nat (xs : List Int) (i : Nat) (h : i < xs.length) : rd xs (i : Int) = xs[i] := by
  unfold rd; rw [Int.toNat_natCast, List.getD_eq_getElem?_getD, List.getElem?_eq_getElem h]; rfl
theorem fill_take {α β : Type} (conv : α → β) (xs : List α) (ys : List β) (i : Nat) (hl : ys.length = xs.length) (hi : i < xs.length) (h : ys.take i = (xs.take i).map conv) :
    (ys.set i (conv xs[i])).take (i + 1) = (xs.take (i + 1)).map conv := by
  rw [List.take_succ_eq_append_getElem (by rw [List.length_set]; omega), List.take_succ_eq_append_getElem hi, List.getElem_set_self, List.map_append, List.take_set_of_le (Nat.le_refl i), h]; rfl
theorem wr_succ {i n : Nat} (h : i < n) (hn : n ≤ 140737488355328) : wrap64 ((i : Int) + 1) = ((i + 1 : Nat) : Int) := by
  rw [wr (by omega) (by omega)]; omega
theorem byte_bounds {xs : List Int} (h : ∀ x ∈ xs, (Lit.int .u8 x).wf = true) (i : Int) : 0 ≤ rd xs i ∧ rd xs i ≤ 255 := by
  unfold rd
  rw [List.getD_eq_getElem?_getD]
  exact range_u8 h _

/-! ### rows -/
theorem filled {α β : Type} (conv : α → β) (xs : List α) (ys : List β) (hl : ys.length = xs.length) (i : Nat) (hi : i = xs.length) (h : ys.take i = (xs.take i).map conv) : ys = xs.map conv := by
  rw [List.take_of_length_le (by omega), List.take_of_length_le (by omega)] at h; exact h

/-! ### rdS:Entry -/
theorem rd_implEntry (xs : List S90) (i : Nat) (h : i < xs.length) : rd_T90 xs (i : Int) = xs[i] := by
  unfold rd_T90; rw [Int.toNat_natCast, List.getD_eq_getElem?_getD, List.getElem?_eq_getElem h]; rfl

/-! ### atv:Entry -/
def atEntry : List S90 → Int → Int → Int
  | [], _, _ => -1
  | x :: r, n, i => if x.f0 = n then i else atEntry r n (i + 1)
theorem specEntryat_l0 (xs : List S90) (n : Int) (hx : xs.length ≤ 140737488355328) (d : Nat) : ∀ (k i : Nat), i + d = xs.length → d < k → spec_EntryAt.l0 k xs n (i : Int) = some (atEntry (xs.drop i) n (i : Int)) := by
  induction d with
  | zero =>
    intro k i hi hk
    obtain ⟨k, rfl⟩ : ∃ m, k = m + 1 := ⟨k - 1, by omega⟩
    simp only [spec_EntryAt.l0]
    rw [if_neg (by omega), List.drop_eq_nil_of_le (by omega)]; rfl
  | succ d ih =>
    intro k i hi hk
    obtain ⟨k, rfl⟩ : ∃ m, k = m + 1 := ⟨k - 1, by omega⟩
    simp only [spec_EntryAt.l0]
    rw [if_pos (by omega), if_pos (by omega), wr_succ (n := xs.length) (by omega) hx, rd_implEntry xs i (by omega), List.drop_eq_getElem_cons (show i < xs.length by omega), ih k (i + 1) (by omega) (by omega)]
    simp only [atEntry]
    rw [show ((i + 1 : Nat) : Int) = (i : Int) + 1 by omega]
    split <;> rfl
theorem specEntryat_val (k : Nat) (xs : List S90) (n : Int) (hx : xs.length ≤ 140737488355328) (hk : xs.length < k) : spec_EntryAt.f k xs n = some (atEntry xs n 0) :=
  specEntryat_l0 xs n hx xs.length k 0 (by omega) hk
theorem implEntryat_l0 (xs : List S90) (n : Int) (hx : xs.length ≤ 140737488355328) (d : Nat) : ∀ (k i : Nat), i + d = xs.length → d < k → impl_EntryAt.l0 k xs n (i : Int) = some (atEntry (xs.drop i) n (i : Int)) := by
  induction d with
  | zero =>
    intro k i hi hk
    obtain ⟨k, rfl⟩ : ∃ m, k = m + 1 := ⟨k - 1, by omega⟩
    simp only [impl_EntryAt.l0]
    rw [if_neg (by omega), List.drop_eq_nil_of_le (by omega)]; rfl
  | succ d ih =>
    intro k i hi hk
    obtain ⟨k, rfl⟩ : ∃ m, k = m + 1 := ⟨k - 1, by omega⟩
    simp only [impl_EntryAt.l0]
    rw [if_pos (by omega), if_pos (by omega), wr_succ (n := xs.length) (by omega) hx, rd_implEntry xs i (by omega), List.drop_eq_getElem_cons (show i < xs.length by omega), ih k (i + 1) (by omega) (by omega)]
    simp only [atEntry]
    rw [show ((i + 1 : Nat) : Int) = (i : Int) + 1 by omega]
    split <;> rfl
theorem implEntryat_val (k : Nat) (xs : List S90) (n : Int) (hx : xs.length ≤ 140737488355328) (hk : xs.length < k) : impl_EntryAt.f k xs n = some (atEntry xs n 0) :=
  implEntryat_l0 xs n hx xs.length k 0 (by omega) hk

/-! ### inn -/
theorem l1In_val (x a b : Int) : spec_l1In.f x a b = some (decide (a ≤ x ∧ x ≤ b)) := by
  unfold spec_l1In.f
  by_cases h : x ≥ a
  · rw [if_pos h]; simp [show a ≤ x from h]
  · rw [if_neg h]; simp [show ¬ a ≤ x from h]
theorem in_val (x a b : Int) : impl_in.f x a b = some (decide (a ≤ x ∧ x ≤ b)) := by
  unfold impl_in.f
  by_cases h : a ≤ x
  · rw [if_pos h]; simp [h]
  · rw [if_neg h]; simp [h]

/-! ### boxok -/
def okb (a b c d : Int) : Bool := decide (0 ≤ a ∧ a ≤ c ∧ c ≤ 255 ∧ 0 ≤ b ∧ b ≤ d ∧ d ≤ 255)
theorem okb_iff (a b c d : Int) : okb a b c d = true ↔ 0 ≤ a ∧ a ≤ c ∧ c ≤ 255 ∧ 0 ≤ b ∧ b ≤ d ∧ d ≤ 255 := by unfold okb; exact decide_eq_true_iff
theorem boxok_spec (a b c d : Int) : spec_BoxOk.f a b c d = some (okb a b c d) := by
  unfold spec_BoxOk.f
  simp only [l1In_val, Option.bind_some, okb, decide_eq_true_eq]
  by_cases h1 : 0 ≤ a ∧ a ≤ 255
  · rw [if_pos h1]
    by_cases h2 : 0 ≤ b ∧ b ≤ 255
    · rw [if_pos h2]
      by_cases h3 : a ≤ c ∧ c ≤ 255
      · rw [if_pos h3]; congr 1; apply decide_eq_decide.mpr; omega
      · rw [if_neg h3]; congr 1; symm; apply decide_eq_false; omega
    · rw [if_neg h2]; congr 1; symm; apply decide_eq_false; omega
  · rw [if_neg h1]; congr 1; symm; apply decide_eq_false; omega
theorem boxok_impl (a b c d : Int) : impl_BoxOk.f a b c d = some (okb a b c d) := by
  unfold impl_BoxOk.f
  simp only [in_val, Option.bind_some, okb, decide_eq_true_eq]
  by_cases h1 : 0 ≤ a ∧ a ≤ c
  · rw [if_pos h1]
    by_cases h2 : 0 ≤ c ∧ c ≤ 255
    · rw [if_pos h2]
      by_cases h3 : 0 ≤ b ∧ b ≤ d
      · rw [if_pos h3]; congr 1; apply decide_eq_decide.mpr; omega
      · rw [if_neg h3]; congr 1; symm; apply decide_eq_false; omega
    · rw [if_neg h2]; congr 1; symm; apply decide_eq_false; omega
  · rw [if_neg h1]; congr 1; symm; apply decide_eq_false; omega

/-! ### nodeok -/
def eIn (b : Bool) (n : Int) : Bool := if b = true then decide (1 ≤ n ∧ n ≤ 999) else decide (0 ≤ n ∧ n ≤ 47)
def oks (b : Bool) (full : List S90) : List S90 → Int → Bool
  | [], _ => true
  | e :: r, i => eIn b e.f0 && (okb e.f1.f0 e.f1.f1 e.f1.f2 e.f1.f3 && (decide (atEntry full e.f0 0 = i) && oks b full r (i + 1)))
def nodeokv (b : Bool) (xs : List S90) : Bool := oks b xs xs 0 && (decide (xs.length ≤ 4) && (b || decide (0 < xs.length)))
theorem nodeok_spec_l0 (b : Bool) (xs : List S90) (hx : xs.length ≤ 1048576) (d : Nat) : ∀ (k i : Nat), i + d = xs.length → xs.length + d < k →
    spec_NodeOk.l0 k (i : Int) b xs = some (oks b xs (xs.drop i) (i : Int) && (decide (xs.length ≤ 4) && (b || decide (0 < xs.length)))) := by
  induction d with
  | zero =>
    intro k i hi hk
    obtain ⟨k, rfl⟩ : ∃ m, k = m + 1 := ⟨k - 1, by omega⟩
    simp only [spec_NodeOk.l0]
    rw [if_neg (by omega), List.drop_eq_nil_of_le (by omega)]
    simp only [oks, Bool.true_and]
    by_cases h : xs.length ≤ 4
    · rw [if_pos (by omega), decide_eq_true h]
      cases b
      · simp
      · simp
    · rw [if_neg (by omega), decide_eq_false h]; simp
  | succ d ih =>
    intro k i hi hk
    obtain ⟨k, rfl⟩ : ∃ m, k = m + 1 := ⟨k - 1, by omega⟩
    have hc : ((i + 1 : Nat) : Int) = (i : Int) + 1 := by omega
    simp only [spec_NodeOk.l0]
    rw [if_pos (by omega), if_pos (by omega), wr_succ (n := xs.length) (by omega) (by omega), rd_implEntry xs i (by omega), List.drop_eq_getElem_cons (show i < xs.length by omega), ih k (i + 1) (by omega) (by omega), specEntryat_val k xs _ (by omega) (by omega), boxok_spec, l1In_val, l1In_val, hc]
    simp only [oks, Option.bind_some, eIn]
    cases okb (xs[i]).f1.f0 (xs[i]).f1.f1 (xs[i]).f1.f2 (xs[i]).f1.f3
    · simp
    · by_cases h1 : atEntry xs (xs[i]).f0 0 = (i : Int)
      · cases b
        · cases decide (0 ≤ (xs[i]).f0 ∧ (xs[i]).f0 ≤ 47) <;> simp [h1]
        · cases decide (1 ≤ (xs[i]).f0 ∧ (xs[i]).f0 ≤ 999) <;> simp [h1]
      · simp [h1]
theorem nodeok_spec (k : Nat) (b : Bool) (xs : List S90) (hx : xs.length ≤ 1048576) (hk : xs.length + xs.length < k) : spec_NodeOk.f k b xs = some (nodeokv b xs) :=
  nodeok_spec_l0 b xs hx xs.length k 0 (by omega) hk
theorem nodeok_impl_l0 (b : Bool) (xs : List S90) (hx : xs.length ≤ 1048576) (d : Nat) : ∀ (k i : Nat), i + d = xs.length → xs.length + d < k →
    impl_NodeOk.l0 k xs (xs.length : Int) (i : Int) b xs = some (oks b xs (xs.drop i) (i : Int)) := by
  induction d with
  | zero =>
    intro k i hi hk
    obtain ⟨k, rfl⟩ : ∃ m, k = m + 1 := ⟨k - 1, by omega⟩
    simp only [impl_NodeOk.l0]
    rw [if_neg (by omega), List.drop_eq_nil_of_le (by omega)]; rfl
  | succ d ih =>
    intro k i hi hk
    obtain ⟨k, rfl⟩ : ∃ m, k = m + 1 := ⟨k - 1, by omega⟩
    have hc : ((i + 1 : Nat) : Int) = (i : Int) + 1 := by omega
    simp only [impl_NodeOk.l0]
    rw [if_pos (by omega), if_pos (by omega), if_pos (by omega), wr_succ (n := xs.length) (by omega) (by omega), rd_implEntry xs i (by omega), List.drop_eq_getElem_cons (show i < xs.length by omega), ih k (i + 1) (by omega) (by omega), implEntryat_val k xs _ (by omega) (by omega), boxok_impl, in_val, in_val, hc]
    simp only [oks, Option.bind_some, eIn]
    cases okb (xs[i]).f1.f0 (xs[i]).f1.f1 (xs[i]).f1.f2 (xs[i]).f1.f3
    · cases b
      · cases decide (0 ≤ (xs[i]).f0 ∧ (xs[i]).f0 ≤ 47) <;> simp
      · cases decide (1 ≤ (xs[i]).f0 ∧ (xs[i]).f0 ≤ 999) <;> simp
    · by_cases h1 : atEntry xs (xs[i]).f0 0 = (i : Int)
      · cases b
        · cases decide (0 ≤ (xs[i]).f0 ∧ (xs[i]).f0 ≤ 47) <;> simp [h1]
        · cases decide (1 ≤ (xs[i]).f0 ∧ (xs[i]).f0 ≤ 999) <;> simp [h1]
      · cases b
        · cases decide (0 ≤ (xs[i]).f0 ∧ (xs[i]).f0 ≤ 47) <;> simp [h1]
        · cases decide (1 ≤ (xs[i]).f0 ∧ (xs[i]).f0 ≤ 999) <;> simp [h1]
theorem nodeok_impl (k : Nat) (b : Bool) (xs : List S90) (hx : xs.length ≤ 1048576) (hk : xs.length + xs.length + 1 < k) : impl_NodeOk.f k b xs = some (nodeokv b xs) := by
  obtain ⟨k, rfl⟩ : ∃ m, k = m + 1 := ⟨k - 1, by omega⟩
  have hl : impl_NodeOk.l0 k xs (xs.length : Int) 0 b xs = some (oks b xs xs 0) := nodeok_impl_l0 b xs hx xs.length k 0 (by omega) (by omega)
  unfold impl_NodeOk.f nodeokv
  simp only [impl_NodeOk.j0, hl]
  by_cases h : xs.length ≤ 4
  · rw [if_neg (by omega), decide_eq_true h]
    cases b
    · rw [if_neg (by simp)]
      by_cases h1 : xs.length = 0
      · rw [if_pos (by rw [beq_iff_eq]; omega)]
        have : decide (0 < xs.length) = false := decide_eq_false (by omega)
        rw [this]; simp
      · rw [if_neg (by rw [beq_iff_eq]; omega)]
        have : decide (0 < xs.length) = true := decide_eq_true (by omega)
        rw [this]; simp
    · simp
  · rw [if_pos (by omega), decide_eq_false h]; simp

/-! ### eq1Box -/
theorem eqBox_self (a b c d : Int) : laws_eqBox.f a b c d a b c d = some true := by simp [laws_eqBox.f]

/-! ### eq1Entry -/
theorem eqEntry_self (n a b c d : Int) : laws_eqEntry.f n a b c d n a b c d = some true := by simp [laws_eqEntry.f, eqBox_self]

/-! ### eq:Entry -/
theorem eqEntryS_l0 (xs : List S90) (hx : xs.length ≤ 140737488355328) (d : Nat) : ∀ (k i : Nat), i + d = xs.length → d < k → laws_eqEntryS.l0 k xs xs (i : Int) = some true := by
  induction d with
  | zero =>
    intro k i hi hk
    obtain ⟨k, rfl⟩ : ∃ m, k = m + 1 := ⟨k - 1, by omega⟩
    simp only [laws_eqEntryS.l0]
    rw [if_neg (by omega)]
  | succ d ih =>
    intro k i hi hk
    obtain ⟨k, rfl⟩ : ∃ m, k = m + 1 := ⟨k - 1, by omega⟩
    simp only [laws_eqEntryS.l0]
    rw [if_pos (by omega), if_pos (by omega), if_pos (by omega), eqEntry_self]
    simp only [Option.bind_some, if_true]
    rw [wr_succ (n := xs.length) (by omega) hx]
    exact ih k (i + 1) (by omega) (by omega)
theorem eqEntryS_same (k : Nat) (xs : List S90) (hx : xs.length ≤ 140737488355328) (hk : xs.length < k) : laws_eqEntryS.f k xs xs = some true := by
  unfold laws_eqEntryS.f
  rw [if_pos rfl]
  exact eqEntryS_l0 xs hx xs.length k 0 (by omega) hk

/-! ### eqNode -/
theorem eqNode_same (k : Nat) (b : Bool) (xs : List S90) (hx : xs.length ≤ 140737488355328) (hk : xs.length < k) : laws_eqNode.f k b xs b xs = some true := by
  unfold laws_eqNode.f
  rw [eqEntryS_same k xs hx hk]; simp

/-! ### rdL:Entry -/
theorem rd_lawsEntry (xs : List S131) (i : Nat) (h : i < xs.length) : rd_T131 xs (i : Int) = xs[i] := by
  unfold rd_T131; rw [Int.toNat_natCast, List.getD_eq_getElem?_getD, List.getElem?_eq_getElem h]; rfl

/-! ### box -/
theorem toBox_some (a b c d : Int) : laws_toBox.f a b c d = some (a, b, c, d) := rfl

/-! ### entry -/
theorem toEntry_some (n a b c d : Int) : laws_toEntry.f n a b c d = some (n, a, b, c, d) := rfl

/-! ### convEntry -/
def convEntry (x : S131) : S90 := ⟨x.f0, ⟨x.f1.f0, x.f1.f1, x.f1.f2, x.f1.f3⟩⟩

/-! ### to:Entry -/
theorem toEntryS_l0 (xs : List S131) (hx : xs.length ≤ 1048576) (d : Nat) : ∀ (k i : Nat) (ys : List S90), ys.length = xs.length → i + d = xs.length → ys.take i = (xs.take i).map convEntry → d < k →
    laws_toEntryS.l0 k xs ys (i : Int) = some (xs.map convEntry) := by
  induction d with
  | zero =>
    intro k i ys hl hi hy hk
    obtain ⟨k, rfl⟩ : ∃ m, k = m + 1 := ⟨k - 1, by omega⟩
    simp only [laws_toEntryS.l0]
    rw [if_neg (by omega), filled convEntry xs ys hl i (by omega) hy]
  | succ d ih =>
    intro k i ys hl hi hy hk
    obtain ⟨k, rfl⟩ : ∃ m, k = m + 1 := ⟨k - 1, by omega⟩
    simp only [laws_toEntryS.l0]
    rw [if_pos (by omega), if_pos (by omega), rd_lawsEntry xs i (by omega), toEntry_some]
    simp only [Option.bind_some]
    rw [if_pos (by omega), Int.toNat_natCast, wr_succ (n := xs.length) (by omega) (by omega)]
    exact ih k (i + 1) _ (by rw [List.length_set]; exact hl) (by omega) (fill_take convEntry xs ys i hl (by omega) hy) (by omega)
theorem toEntryS_some (k : Nat) (xs : List S131) (hx : xs.length ≤ 1048576) (hk : xs.length < k) : laws_toEntryS.f k xs = some (xs.map convEntry) := by
  unfold laws_toEntryS.f
  rw [if_pos (by omega), if_pos (by omega)]
  exact toEntryS_l0 xs hx xs.length k 0 _ (by simp) (by omega) (by simp) hk

/-! ### toNode -/
theorem toNode_some (k : Nat) (b : Bool) (xs : List S131) (hx : xs.length ≤ 1048576) (hk : xs.length < k) : laws_toNode.f k b xs = some (b, xs.map convEntry) := by
  unfold laws_toNode.f
  rw [toEntryS_some k xs hx hk]; rfl

/-! ### sz:Entry -/
theorem szEntryS_some (l : List S131) (a : Int) (hl : l.length ≤ maxLen) (h0 : 0 ≤ a) (h1 : a ≤ 1048576) : laws_szEntryS.f l a = some (if a - (l.length : Int) < 0 then -1 else a - (l.length : Int)) := by
  unfold maxLen at hl
  unfold laws_szEntryS.f
  rw [wr (n := a - (l.length : Int)) (by omega) (by omega)]
  split <;> rfl

/-! ### szNode -/
theorem szNode_some (b : Bool) (l : List S131) (a : Int) (hl : l.length ≤ maxLen) (h0 : 0 ≤ a) (h1 : a ≤ 1048576) : laws_szNode.f b l a = some (if a - (l.length : Int) < 0 then -1 else a - (l.length : Int)) := by
  unfold laws_szNode.f
  rw [szEntryS_some l a hl h0 h1]
  simp only [Option.bind_some]
  by_cases h : a - (l.length : Int) < 0
  · rw [if_pos h]; rfl
  · rw [if_neg h, if_neg h]

/-! ### node -/


theorem pure_law (b : Bool) (l : List S131) (hm : l.length ≤ maxLen) : ∃ k, laws_FnExactNodeOk.f k b l = some true := by
  refine ⟨l.length + l.length + 2, ?_⟩
  unfold laws_FnExactNodeOk.f
  rw [szNode_some b l _ hm (by omega) (by omega)]
  simp only [Option.bind_some]
  by_cases h : (1048576 : Int) - (l.length : Int) < 0
  · rw [if_pos h]; rfl
  · rw [if_neg h, if_neg h]
    have hl : (l.map convEntry).length = l.length := List.length_map ..
    rw [toNode_some (l.length + l.length + 2) b l (by omega) (by omega)]
    simp only [Option.bind_some]
    rw [nodeok_spec (l.length + l.length + 2) b _ (by omega) (by omega), nodeok_impl (l.length + l.length + 2) b _ (by omega) (by omega)]
    simp only [Option.bind_some, bne_self_eq_false]
    rw [eqNode_same (l.length + l.length + 2) _ _ (by omega) (by omega)]
    simp
end Go.Proofs.Ytjmgomailgplcaa.PureFnExactNodeOk
