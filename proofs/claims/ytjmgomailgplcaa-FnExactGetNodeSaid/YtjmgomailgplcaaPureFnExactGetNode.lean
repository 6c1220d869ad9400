/- The pure statement of FnExactGetNode: the node that is read out of bytes is what the reference tells, and is no memory of another, for all bytes; condition: the list's length is a length. -/
import Derived.Test.YtjmgomailgplcaaPFnExactGetNodex11
import Derived.OpenShut
import Derived.Laws.BitsLemmas
import Derived.Lib.Bytes
namespace Go.Proofs.Ytjmgomailgplcaa.PureFnExactGetNode
open Go.RowKit Go.Proofs.Ytjmgomailgplcaa.PFnExactGetNode Go.Proofs.YtjmgomailgplcaaW.PrintWords Go.Proofs.YtjmgomailgplcaaW.PrintLast Go.Proofs.YtjmgomailgplcaaW.PrintMore
set_option linter.unusedVariables false
set_option linter.unusedSimpArgs false

/-! ### wrap -/
theorem wr {n : Int} (h0 : -9223372036854775808 ≤ n) (h1 : n ≤ 9223372036854775807) : wrap64 n = n := by
  unfold wrap64; omega
theorem wf64 {n : Int} (h : (Lit.int .i64 n).wf = true) : -9223372036854775808 ≤ n ∧ n ≤ 9223372036854775807 := bounds_i64 h

/-! ### basic -/
theorem rd_nat (xs : List Int) (i : Nat) (h : i < xs.length) : rd xs (i : Int) = xs[i] := by
  unfold rd; rw [Int.toNat_natCast, List.getD_eq_getElem?_getD, List.getElem?_eq_getElem h]; rfl
theorem fill_take {α β : Type} (conv : α → β) (xs : List α) (ys : List β) (i : Nat) (hl : ys.length = xs.length) (hi : i < xs.length) (h : ys.take i = (xs.take i).map conv) :
    (ys.set i (conv xs[i])).take (i + 1) = (xs.take (i + 1)).map conv := by
  rw [List.take_succ_eq_append_getElem (by rw [List.length_set]; omega), List.take_succ_eq_append_getElem hi, List.getElem_set_self, List.map_append, List.take_set_of_le (Nat.le_refl i), h]; rfl
theorem wr_succ {i n : Nat} (h : i < n) (hn : n ≤ 140737488355328) : wrap64 ((i : Int) + 1) = ((i + 1 : Nat) : Int) := by
  rw [wr (by omega) (by omega)]; omega
theorem byte_bounds {xs : List Int} (h : ∀ x ∈ xs, (Lit.int .u8 x).wf = true) (i : Int) : 0 ≤ rd xs i ∧ rd xs i ≤ 255 := by
  unfold rd
  rw [List.getD_eq_getElem?_getD]
  exact range_u8 h _

/-! ### rows -/
theorem filled {α β : Type} (conv : α → β) (xs : List α) (ys : List β) (hl : ys.length = xs.length) (i : Nat) (hi : i = xs.length) (h : ys.take i = (xs.take i).map conv) : ys = xs.map conv := by
  rw [List.take_of_length_le (by omega), List.take_of_length_le (by omega)] at h; exact h

/-! ### rdS:Entry -/
theorem rd_implEntry (xs : List S90) (i : Nat) (h : i < xs.length) : rd_T90 xs (i : Int) = xs[i] := by
  unfold rd_T90; rw [Int.toNat_natCast, List.getD_eq_getElem?_getD, List.getElem?_eq_getElem h]; rfl

/-! ### atv:Entry -/
def atEntry : List S90 → Int → Int → Int
  | [], _, _ => -1
  | x :: r, n, i => if x.f0 = n then i else atEntry r n (i + 1)
theorem specEntryat_l0 (xs : List S90) (n : Int) (hx : xs.length ≤ 140737488355328) (d : Nat) : ∀ (k i : Nat), i + d = xs.length → d < k → spec_EntryAt.l0 k xs n (i : Int) = some (atEntry (xs.drop i) n (i : Int)) := by
  induction d with
  | zero =>
    intro k i hi hk
    obtain ⟨k, rfl⟩ : ∃ m, k = m + 1 := ⟨k - 1, by omega⟩
    simp only [spec_EntryAt.l0]
    rw [if_neg (by omega), List.drop_eq_nil_of_le (by omega)]; rfl
  | succ d ih =>
    intro k i hi hk
    obtain ⟨k, rfl⟩ : ∃ m, k = m + 1 := ⟨k - 1, by omega⟩
    simp only [spec_EntryAt.l0]
    rw [if_pos (by omega), if_pos (by omega), wr_succ (n := xs.length) (by omega) hx, rd_implEntry xs i (by omega), List.drop_eq_getElem_cons (show i < xs.length by omega), ih k (i + 1) (by omega) (by omega)]
    simp only [atEntry]
    rw [show ((i + 1 : Nat) : Int) = (i : Int) + 1 by omega]
    split <;> rfl
theorem specEntryat_val (k : Nat) (xs : List S90) (n : Int) (hx : xs.length ≤ 140737488355328) (hk : xs.length < k) : spec_EntryAt.f k xs n = some (atEntry xs n 0) :=
  specEntryat_l0 xs n hx xs.length k 0 (by omega) hk
theorem implEntryat_l0 (xs : List S90) (n : Int) (hx : xs.length ≤ 140737488355328) (d : Nat) : ∀ (k i : Nat), i + d = xs.length → d < k → impl_EntryAt.l0 k xs n (i : Int) = some (atEntry (xs.drop i) n (i : Int)) := by
  induction d with
  | zero =>
    intro k i hi hk
    obtain ⟨k, rfl⟩ : ∃ m, k = m + 1 := ⟨k - 1, by omega⟩
    simp only [impl_EntryAt.l0]
    rw [if_neg (by omega), List.drop_eq_nil_of_le (by omega)]; rfl
  | succ d ih =>
    intro k i hi hk
    obtain ⟨k, rfl⟩ : ∃ m, k = m + 1 := ⟨k - 1, by omega⟩
    simp only [impl_EntryAt.l0]
    rw [if_pos (by omega), if_pos (by omega), wr_succ (n := xs.length) (by omega) hx, rd_implEntry xs i (by omega), List.drop_eq_getElem_cons (show i < xs.length by omega), ih k (i + 1) (by omega) (by omega)]
    simp only [atEntry]
    rw [show ((i + 1 : Nat) : Int) = (i : Int) + 1 by omega]
    split <;> rfl
theorem implEntryat_val (k : Nat) (xs : List S90) (n : Int) (hx : xs.length ≤ 140737488355328) (hk : xs.length < k) : impl_EntryAt.f k xs n = some (atEntry xs n 0) :=
  implEntryat_l0 xs n hx xs.length k 0 (by omega) hk

/-! ### inn -/
theorem l1In_val (x a b : Int) : spec_l1In.f x a b = some (decide (a ≤ x ∧ x ≤ b)) := by
  unfold spec_l1In.f
  by_cases h : x ≥ a
  · rw [if_pos h]; simp [show a ≤ x from h]
  · rw [if_neg h]; simp [show ¬ a ≤ x from h]
theorem in_val (x a b : Int) : impl_in.f x a b = some (decide (a ≤ x ∧ x ≤ b)) := by
  unfold impl_in.f
  by_cases h : a ≤ x
  · rw [if_pos h]; simp [h]
  · rw [if_neg h]; simp [h]

/-! ### boxok -/
def okb (a b c d : Int) : Bool := decide (0 ≤ a ∧ a ≤ c ∧ c ≤ 255 ∧ 0 ≤ b ∧ b ≤ d ∧ d ≤ 255)
theorem okb_iff (a b c d : Int) : okb a b c d = true ↔ 0 ≤ a ∧ a ≤ c ∧ c ≤ 255 ∧ 0 ≤ b ∧ b ≤ d ∧ d ≤ 255 := by unfold okb; exact decide_eq_true_iff
theorem boxok_spec (a b c d : Int) : spec_BoxOk.f a b c d = some (okb a b c d) := by
  unfold spec_BoxOk.f
  simp only [l1In_val, Option.bind_some, okb, decide_eq_true_eq]
  by_cases h1 : 0 ≤ a ∧ a ≤ 255
  · rw [if_pos h1]
    by_cases h2 : 0 ≤ b ∧ b ≤ 255
    · rw [if_pos h2]
      by_cases h3 : a ≤ c ∧ c ≤ 255
      · rw [if_pos h3]; congr 1; apply decide_eq_decide.mpr; omega
      · rw [if_neg h3]; congr 1; symm; apply decide_eq_false; omega
    · rw [if_neg h2]; congr 1; symm; apply decide_eq_false; omega
  · rw [if_neg h1]; congr 1; symm; apply decide_eq_false; omega
theorem boxok_impl (a b c d : Int) : impl_BoxOk.f a b c d = some (okb a b c d) := by
  unfold impl_BoxOk.f
  simp only [in_val, Option.bind_some, okb, decide_eq_true_eq]
  by_cases h1 : 0 ≤ a ∧ a ≤ c
  · rw [if_pos h1]
    by_cases h2 : 0 ≤ c ∧ c ≤ 255
    · rw [if_pos h2]
      by_cases h3 : 0 ≤ b ∧ b ≤ d
      · rw [if_pos h3]; congr 1; apply decide_eq_decide.mpr; omega
      · rw [if_neg h3]; congr 1; symm; apply decide_eq_false; omega
    · rw [if_neg h2]; congr 1; symm; apply decide_eq_false; omega
  · rw [if_neg h1]; congr 1; symm; apply decide_eq_false; omega

/-! ### nodeok -/
def eIn (b : Bool) (n : Int) : Bool := if b = true then decide (1 ≤ n ∧ n ≤ 999) else decide (0 ≤ n ∧ n ≤ 47)
def oks (b : Bool) (full : List S90) : List S90 → Int → Bool
  | [], _ => true
  | e :: r, i => eIn b e.f0 && (okb e.f1.f0 e.f1.f1 e.f1.f2 e.f1.f3 && (decide (atEntry full e.f0 0 = i) && oks b full r (i + 1)))
def nodeokv (b : Bool) (xs : List S90) : Bool := oks b xs xs 0 && (decide (xs.length ≤ 4) && (b || decide (0 < xs.length)))
theorem nodeok_spec_l0 (b : Bool) (xs : List S90) (hx : xs.length ≤ 1048576) (d : Nat) : ∀ (k i : Nat), i + d = xs.length → xs.length + d < k →
    spec_NodeOk.l0 k (i : Int) b xs = some (oks b xs (xs.drop i) (i : Int) && (decide (xs.length ≤ 4) && (b || decide (0 < xs.length)))) := by
  induction d with
  | zero =>
    intro k i hi hk
    obtain ⟨k, rfl⟩ : ∃ m, k = m + 1 := ⟨k - 1, by omega⟩
    simp only [spec_NodeOk.l0]
    rw [if_neg (by omega), List.drop_eq_nil_of_le (by omega)]
    simp only [oks, Bool.true_and]
    by_cases h : xs.length ≤ 4
    · rw [if_pos (by omega), decide_eq_true h]
      cases b
      · simp
      · simp
    · rw [if_neg (by omega), decide_eq_false h]; simp
  | succ d ih =>
    intro k i hi hk
    obtain ⟨k, rfl⟩ : ∃ m, k = m + 1 := ⟨k - 1, by omega⟩
    have hc : ((i + 1 : Nat) : Int) = (i : Int) + 1 := by omega
    simp only [spec_NodeOk.l0]
    rw [if_pos (by omega), if_pos (by omega), wr_succ (n := xs.length) (by omega) (by omega), rd_implEntry xs i (by omega), List.drop_eq_getElem_cons (show i < xs.length by omega), ih k (i + 1) (by omega) (by omega), specEntryat_val k xs _ (by omega) (by omega), boxok_spec, l1In_val, l1In_val, hc]
    simp only [oks, Option.bind_some, eIn]
    cases okb (xs[i]).f1.f0 (xs[i]).f1.f1 (xs[i]).f1.f2 (xs[i]).f1.f3
    · simp
    · by_cases h1 : atEntry xs (xs[i]).f0 0 = (i : Int)
      · cases b
        · cases decide (0 ≤ (xs[i]).f0 ∧ (xs[i]).f0 ≤ 47) <;> simp [h1]
        · cases decide (1 ≤ (xs[i]).f0 ∧ (xs[i]).f0 ≤ 999) <;> simp [h1]
      · simp [h1]
theorem nodeok_spec (k : Nat) (b : Bool) (xs : List S90) (hx : xs.length ≤ 1048576) (hk : xs.length + xs.length < k) : spec_NodeOk.f k b xs = some (nodeokv b xs) :=
  nodeok_spec_l0 b xs hx xs.length k 0 (by omega) hk
theorem nodeok_impl_l0 (b : Bool) (xs : List S90) (hx : xs.length ≤ 1048576) (d : Nat) : ∀ (k i : Nat), i + d = xs.length → xs.length + d < k →
    impl_NodeOk.l0 k xs (xs.length : Int) (i : Int) b xs = some (oks b xs (xs.drop i) (i : Int)) := by
  induction d with
  | zero =>
    intro k i hi hk
    obtain ⟨k, rfl⟩ : ∃ m, k = m + 1 := ⟨k - 1, by omega⟩
    simp only [impl_NodeOk.l0]
    rw [if_neg (by omega), List.drop_eq_nil_of_le (by omega)]; rfl
  | succ d ih =>
    intro k i hi hk
    obtain ⟨k, rfl⟩ : ∃ m, k = m + 1 := ⟨k - 1, by omega⟩
    have hc : ((i + 1 : Nat) : Int) = (i : Int) + 1 := by omega
    simp only [impl_NodeOk.l0]
    rw [if_pos (by omega), if_pos (by omega), if_pos (by omega), wr_succ (n := xs.length) (by omega) (by omega), rd_implEntry xs i (by omega), List.drop_eq_getElem_cons (show i < xs.length by omega), ih k (i + 1) (by omega) (by omega), implEntryat_val k xs _ (by omega) (by omega), boxok_impl, in_val, in_val, hc]
    simp only [oks, Option.bind_some, eIn]
    cases okb (xs[i]).f1.f0 (xs[i]).f1.f1 (xs[i]).f1.f2 (xs[i]).f1.f3
    · cases b
      · cases decide (0 ≤ (xs[i]).f0 ∧ (xs[i]).f0 ≤ 47) <;> simp
      · cases decide (1 ≤ (xs[i]).f0 ∧ (xs[i]).f0 ≤ 999) <;> simp
    · by_cases h1 : atEntry xs (xs[i]).f0 0 = (i : Int)
      · cases b
        · cases decide (0 ≤ (xs[i]).f0 ∧ (xs[i]).f0 ≤ 47) <;> simp [h1]
        · cases decide (1 ≤ (xs[i]).f0 ∧ (xs[i]).f0 ≤ 999) <;> simp [h1]
      · cases b
        · cases decide (0 ≤ (xs[i]).f0 ∧ (xs[i]).f0 ≤ 47) <;> simp [h1]
        · cases decide (1 ≤ (xs[i]).f0 ∧ (xs[i]).f0 ≤ 999) <;> simp [h1]
theorem nodeok_impl (k : Nat) (b : Bool) (xs : List S90) (hx : xs.length ≤ 1048576) (hk : xs.length + xs.length + 1 < k) : impl_NodeOk.f k b xs = some (nodeokv b xs) := by
  obtain ⟨k, rfl⟩ : ∃ m, k = m + 1 := ⟨k - 1, by omega⟩
  have hl : impl_NodeOk.l0 k xs (xs.length : Int) 0 b xs = some (oks b xs xs 0) := nodeok_impl_l0 b xs hx xs.length k 0 (by omega) (by omega)
  unfold impl_NodeOk.f nodeokv
  simp only [impl_NodeOk.j0, hl]
  by_cases h : xs.length ≤ 4
  · rw [if_neg (by omega), decide_eq_true h]
    cases b
    · rw [if_neg (by simp)]
      by_cases h1 : xs.length = 0
      · rw [if_pos (by rw [beq_iff_eq]; omega)]
        have : decide (0 < xs.length) = false := decide_eq_false (by omega)
        rw [this]; simp
      · rw [if_neg (by rw [beq_iff_eq]; omega)]
        have : decide (0 < xs.length) = true := decide_eq_true (by omega)
        rw [this]; simp
    · simp
  · rw [if_pos (by omega), decide_eq_false h]; simp

/-! ### clone -/
theorem clone_bytes (l : List Int) (h : l.length < 140737488355328) : slices_Clone_byte_byte.f l = some l := by
  unfold slices_Clone_byte_byte.f
  simp only [Option.bind_some, List.nil_append, List.length_nil, Nat.zero_add]
  rw [if_pos h]

/-! ### put2 -/
def put2v (l : List Int) (n : Int) : List Int := if 0 ≤ n ∧ n ≤ 65535 then l ++ [n / 256, n % 256] else l
theorem put2_spec (l : List Int) (n : Int) (hl : l.length ≤ 1048576) : spec_Put2.f l n = some (put2v l n) := by
  unfold spec_Put2.f put2v
  simp only [Option.bind_some, List.nil_append, List.length_nil, Nat.zero_add, l1In_val, decide_eq_true_eq]
  rw [if_pos (by omega)]
  by_cases h : 0 ≤ n ∧ n ≤ 65535
  · have e1 : (wrap64 (Int.tdiv n 256)) % 256 = n / 256 := by
      rw [Int.tdiv_eq_ediv_of_nonneg (by omega), wr (by omega) (by omega)]; omega
    have e2 : (Int.tmod n 256) % 256 = n % 256 := by rw [Int.tmod_eq_emod_of_nonneg (by omega)]; omega
    rw [if_pos h, if_pos h, e1, e2, if_pos (by simp; omega)]
  · rw [if_neg h, if_neg h]
theorem put2_impl (l : List Int) (n : Int) (hl : l.length ≤ 1048576) : impl_Put2.f l n = some (put2v l n) := by
  unfold impl_Put2.f put2v
  rw [clone_bytes l (by omega)]
  simp only [Option.bind_some, in_val, decide_eq_true_eq]
  by_cases h : 0 ≤ n ∧ n ≤ 65535
  · have e1 : (n / 256) % 256 = n / 256 := by omega
    rw [if_pos h, if_pos h, e1, if_pos (by simp; omega)]
  · rw [if_neg h, if_neg h]
theorem put2v_len (l : List Int) (n : Int) : (put2v l n).length ≤ l.length + 2 ∧ l.length ≤ (put2v l n).length := by
  unfold put2v
  split
  · rw [List.length_append]; simp
  · omega

/-! ### putentry -/
def putentryv (n a b c d : Int) : List Int := if 0 ≤ n ∧ n ≤ 65535 then (if okb a b c d = true then [n / 256, n % 256, a % 256, b % 256, c % 256, d % 256] else []) else []
theorem putentry_spec (n a b c d : Int) : spec_PutEntry.f n a b c d = some (putentryv n a b c d) := by
  unfold spec_PutEntry.f putentryv
  simp only [l1In_val, boxok_spec, Option.bind_some, decide_eq_true_eq]
  by_cases h : 0 ≤ n ∧ n ≤ 65535
  · rw [if_pos h, if_pos h]
    by_cases h1 : okb a b c d = true
    · rw [if_pos h1, if_pos h1, put2_spec [] n (by simp)]
      simp only [Option.bind_some]
      unfold put2v
      rw [if_pos h, if_pos (by simp)]; rfl
    · rw [if_neg h1, if_neg h1]
  · rw [if_neg h, if_neg h]
theorem putentry_impl (n a b c d : Int) : impl_PutEntry.f n a b c d = some (putentryv n a b c d) := by
  unfold impl_PutEntry.f putentryv
  simp only [in_val, boxok_impl, Option.bind_some, decide_eq_true_eq]
  by_cases h : 0 ≤ n ∧ n ≤ 65535
  · rw [if_pos h, if_pos h]
    by_cases h1 : okb a b c d = true
    · rw [if_pos h1, if_pos h1, put2_impl [] n (by simp)]
      simp only [Option.bind_some]
      unfold put2v
      rw [if_pos h, if_pos (by simp)]; rfl
    · rw [if_neg h1, if_neg h1]
  · rw [if_neg h, if_neg h]
theorem putentryv_len (n a b c d : Int) : (putentryv n a b c d).length ≤ 6 := by
  unfold putentryv
  split
  · split <;> simp
  · simp

/-! ### pad -/
def padv (l : List Int) (n : Int) : List Int := if n > 64 then l else l ++ List.replicate (n - (l.length : Int)).toNat 0
theorem pad_step (l : List Int) (n : Int) (h : (l.length : Int) < n) : (l ++ [0]) ++ List.replicate (n - ((l ++ [0]).length : Int)).toNat 0 = l ++ List.replicate (n - (l.length : Int)).toNat 0 := by
  have e : (n - (l.length : Int)).toNat = (n - ((l ++ [0]).length : Int)).toNat + 1 := by rw [List.length_append]; simp; omega
  rw [e, List.replicate_succ, List.append_assoc]; rfl
theorem pad_spec_l0 (n : Int) (hn : n ≤ 64) : ∀ (k : Nat) (l : List Int), (n - (l.length : Int)).toNat < k → spec_Pad.l0 k n l = some (l ++ List.replicate (n - (l.length : Int)).toNat 0)
  | 0, _, h => by omega
  | k + 1, l, h => by
    simp only [spec_Pad.l0]
    by_cases h1 : (l.length : Int) < n
    · rw [if_pos h1, if_pos hn, if_pos (by omega), pad_spec_l0 n hn k (l ++ [0]) (by rw [List.length_append]; simp; omega), pad_step l n h1]
    · rw [if_neg h1, show (n - (l.length : Int)).toNat = 0 by omega]; simp
theorem pad_impl_l0 (n : Int) (hn : n ≤ 64) : ∀ (k : Nat) (l : List Int), (n - (l.length : Int)).toNat < k → impl_Pad.l0 k n l = some (l ++ List.replicate (n - (l.length : Int)).toNat 0)
  | 0, _, h => by omega
  | k + 1, l, h => by
    simp only [impl_Pad.l0]
    by_cases h1 : (l.length : Int) < n
    · rw [if_pos h1, if_pos (by omega), pad_impl_l0 n hn k (l ++ [0]) (by rw [List.length_append]; simp; omega), pad_step l n h1]
    · rw [if_neg h1, show (n - (l.length : Int)).toNat = 0 by omega]; simp
theorem pad_spec (k : Nat) (l : List Int) (n : Int) (hl : l.length ≤ 1048576) (hk : 65 < k) : spec_Pad.f k l n = some (padv l n) := by
  unfold spec_Pad.f padv
  simp only [Option.bind_some, List.nil_append, List.length_nil, Nat.zero_add]
  rw [if_pos (by omega)]
  by_cases h : n > 64
  · rw [if_pos h]
    obtain ⟨k, rfl⟩ : ∃ m, k = m + 1 := ⟨k - 1, by omega⟩
    simp only [spec_Pad.l0]
    by_cases h1 : (l.length : Int) < n
    · rw [if_pos h1, if_neg (by omega)]
    · rw [if_neg h1]
  · rw [if_neg h, pad_spec_l0 n (by omega) k l (by omega)]
theorem pad_impl (k : Nat) (l : List Int) (n : Int) (hl : l.length ≤ 1048576) (hk : 65 < k) : impl_Pad.f k l n = some (padv l n) := by
  unfold impl_Pad.f padv
  rw [clone_bytes l (by omega)]
  simp only [Option.bind_some]
  by_cases h : n > 64
  · rw [if_pos h, if_pos h]
  · rw [if_neg h, if_neg h, pad_impl_l0 n (by omega) k l (by omega)]
theorem padv_len (l : List Int) (n : Int) : (padv l n).length ≤ l.length + 64 ∧ l.length ≤ (padv l n).length := by
  unfold padv
  split
  · omega
  · rw [List.length_append, List.length_replicate]; omega

/-! ### putnode -/
def pe (e : S90) : List Int := putentryv e.f0 e.f1.f0 e.f1.f1 e.f1.f2 e.f1.f3
theorem pe_len (e : S90) : (pe e).length ≤ 6 := putentryv_len ..
def putnodev (b : Bool) (xs : List S90) : List Int := if nodeokv b xs = true then padv ([((xs.length : Int) + if b = true then 16 else 0)] ++ xs.flatMap pe) 25 else []
theorem putnode_spec_l0 (b : Bool) (xs : List S90) (hx : xs.length ≤ 4) (d : Nat) : ∀ (k i : Nat) (acc : List Int), acc.length ≤ 1 + 6 * i → i + d = xs.length → 66 + d < k →
    spec_PutNode.l0 k acc (i : Int) b xs = some (padv (acc ++ (xs.drop i).flatMap pe) 25) := by
  induction d with
  | zero =>
    intro k i acc ha hi hk
    obtain ⟨k, rfl⟩ : ∃ m, k = m + 1 := ⟨k - 1, by omega⟩
    simp only [spec_PutNode.l0]
    rw [if_neg (by omega), List.drop_eq_nil_of_le (by omega), pad_spec k acc 25 (by omega) (by omega)]
    simp
  | succ d ih =>
    intro k i acc ha hi hk
    obtain ⟨k, rfl⟩ : ∃ m, k = m + 1 := ⟨k - 1, by omega⟩
    have hp := pe_len (xs[i]'(by omega))
    simp only [spec_PutNode.l0]
    rw [if_pos (by omega), if_pos (by omega), rd_implEntry xs i (by omega), putentry_spec]
    simp only [Option.bind_some]
    have hs : putentryv (xs[i]'(by omega)).f0 (xs[i]'(by omega)).f1.f0 (xs[i]'(by omega)).f1.f1 (xs[i]'(by omega)).f1.f2 (xs[i]'(by omega)).f1.f3 = pe (xs[i]'(by omega)) := rfl
    rw [hs, if_pos (by omega), wr_succ (n := xs.length) (by omega) (by omega), ih k (i + 1) _ (by rw [List.length_append]; omega) (by omega) (by omega), List.drop_eq_getElem_cons (show i < xs.length by omega), List.flatMap_cons, List.append_assoc]
theorem putnode_impl_l0 (xs : List S90) (hx : xs.length ≤ 4) (d : Nat) : ∀ (k i : Nat) (acc : List Int), acc.length ≤ 1 + 6 * i → i + d = xs.length → 66 + d < k →
    impl_PutNode.l0 k acc xs (xs.length : Int) (i : Int) = some (padv (acc ++ (xs.drop i).flatMap pe) 25) := by
  induction d with
  | zero =>
    intro k i acc ha hi hk
    obtain ⟨k, rfl⟩ : ∃ m, k = m + 1 := ⟨k - 1, by omega⟩
    simp only [impl_PutNode.l0]
    rw [if_neg (by omega), List.drop_eq_nil_of_le (by omega), pad_impl k acc 25 (by omega) (by omega)]
    simp
  | succ d ih =>
    intro k i acc ha hi hk
    obtain ⟨k, rfl⟩ : ∃ m, k = m + 1 := ⟨k - 1, by omega⟩
    have hp := pe_len (xs[i]'(by omega))
    simp only [impl_PutNode.l0]
    rw [if_pos (by omega), if_pos (by omega), if_pos (by omega), rd_implEntry xs i (by omega), putentry_impl]
    simp only [Option.bind_some]
    have hs : putentryv (xs[i]'(by omega)).f0 (xs[i]'(by omega)).f1.f0 (xs[i]'(by omega)).f1.f1 (xs[i]'(by omega)).f1.f2 (xs[i]'(by omega)).f1.f3 = pe (xs[i]'(by omega)) := rfl
    rw [hs, if_pos (by omega), wr_succ (n := xs.length) (by omega) (by omega), ih k (i + 1) _ (by rw [List.length_append]; omega) (by omega) (by omega), List.drop_eq_getElem_cons (show i < xs.length by omega), List.flatMap_cons, List.append_assoc]
theorem nodeokv_len {b : Bool} {xs : List S90} (h : nodeokv b xs = true) : xs.length ≤ 4 ∧ (b = true ∨ 0 < xs.length) := by
  unfold nodeokv at h
  simp only [Bool.and_eq_true, Bool.or_eq_true, decide_eq_true_eq] at h
  exact ⟨h.2.1, h.2.2⟩
theorem putnode_spec (k : Nat) (b : Bool) (xs : List S90) (hx : xs.length ≤ 1048576) (hk : xs.length + xs.length + 100 < k) : spec_PutNode.f k b xs = some (putnodev b xs) := by
  unfold spec_PutNode.f putnodev
  rw [nodeok_spec k b xs hx (by omega)]
  simp only [Option.bind_some]
  by_cases h : nodeokv b xs = true
  · rw [if_pos h, if_pos h]
    obtain ⟨k, rfl⟩ : ∃ m, k = m + 1 := ⟨k - 1, by omega⟩
    have hl := (nodeokv_len h).1
    have hm : ∀ v : Int, v = (xs.length : Int) + (if b = true then 16 else 0) → spec_PutNode.l0 k [v % 256] 0 b xs = some (padv ([(xs.length : Int) + if b = true then 16 else 0] ++ xs.flatMap pe) 25) := by
      intro v hv
      have e : v % 256 = v := by subst hv; split <;> omega
      rw [e, hv]
      exact putnode_spec_l0 b xs hl xs.length k 0 _ (by simp) (by omega) (by omega)
    simp only [spec_PutNode.j0]
    cases b
    · rw [if_neg (by simp)]
      exact hm _ (by simp)
    · rw [if_pos rfl, wr (n := (xs.length : Int) + 16) (by omega) (by omega)]
      exact hm _ (by simp)
  · rw [if_neg h, if_neg h]
theorem putnode_impl (k : Nat) (b : Bool) (xs : List S90) (hx : xs.length ≤ 1048576) (hk : xs.length + xs.length + 100 < k) : impl_PutNode.f k b xs = some (putnodev b xs) := by
  unfold impl_PutNode.f putnodev
  rw [nodeok_impl k b xs hx (by omega)]
  simp only [Option.bind_some]
  by_cases h : nodeokv b xs = true
  · rw [if_pos h, if_pos h]
    obtain ⟨k, rfl⟩ : ∃ m, k = m + 1 := ⟨k - 1, by omega⟩
    have hl := (nodeokv_len h).1
    have hm : ∀ v : Int, v = (xs.length : Int) + (if b = true then 16 else 0) → impl_PutNode.l0 k [v % 256] xs (xs.length : Int) 0 = some (padv ([(xs.length : Int) + if b = true then 16 else 0] ++ xs.flatMap pe) 25) := by
      intro v hv
      have e : v % 256 = v := by subst hv; split <;> omega
      rw [e, hv]
      exact putnode_impl_l0 xs hl xs.length k 0 _ (by simp) (by omega) (by omega)
    simp only [impl_PutNode.j0]
    cases b
    · rw [if_neg (by simp)]
      exact hm _ (by simp)
    · rw [if_pos rfl, wr (n := (xs.length : Int) + 16) (by omega) (by omega)]
      exact hm _ (by simp)
  · rw [if_neg h, if_neg h]
theorem flatMap_pe_len : ∀ xs : List S90, (xs.flatMap pe).length ≤ 6 * xs.length
  | [] => by simp
  | x :: r => by
    have h1 := pe_len x
    have h2 := flatMap_pe_len r
    rw [List.flatMap_cons, List.length_append, List.length_cons]; omega
theorem putnodev_len (b : Bool) (xs : List S90) : (putnodev b xs).length ≤ 100 := by
  unfold putnodev
  split
  · rename_i h
    have h1 := (nodeokv_len h).1
    have h2 := flatMap_pe_len xs
    have h3 := padv_len ([((xs.length : Int) + if b = true then 16 else 0)] ++ xs.flatMap pe) 25
    rw [List.length_append] at h3
    simp only [List.length_cons, List.length_nil] at h3
    omega
  · simp

/-! ### toB -/
theorem toByteS_l0 (xs : List Int) (hx : xs.length ≤ 140737488355328) (d : Nat) : ∀ (k i : Nat) (ys : List Int), ys.length = xs.length → i + d = xs.length → ys.take i = (xs.take i).map (fun n => n) → d < k →
    laws_toByteS.l0 k xs ys (i : Int) = some xs := by
  induction d with
  | zero =>
    intro k i ys hl hi hy hk
    obtain ⟨k, rfl⟩ : ∃ m, k = m + 1 := ⟨k - 1, by omega⟩
    simp only [laws_toByteS.l0]
    rw [if_neg (by omega)]
    rw [List.take_of_length_le (by omega), List.take_of_length_le (by omega), List.map_id'] at hy
    rw [hy]
  | succ d ih =>
    intro k i ys hl hi hy hk
    obtain ⟨k, rfl⟩ : ∃ m, k = m + 1 := ⟨k - 1, by omega⟩
    simp only [laws_toByteS.l0]
    rw [if_pos (by omega), if_pos (by omega), if_pos (by omega), rd_nat xs i (by omega), Int.toNat_natCast, wr_succ (n := xs.length) (by omega) hx]
    exact ih k (i + 1) _ (by rw [List.length_set]; exact hl) (by omega) (fill_take (fun n => n) xs ys i hl (by omega) hy) (by omega)
theorem toByteS_some (k : Nat) (xs : List Int) (hx : xs.length ≤ 140737488355328) (hk : xs.length < k) : laws_toByteS.f k xs = some xs := by
  unfold laws_toByteS.f
  rw [if_pos (by omega), if_pos (by omega)]
  exact toByteS_l0 xs hx xs.length k 0 _ (by simp) (by omega) (by simp) hk

/-! ### eqB -/
theorem eqByteS_l0 (xs : List Int) (hx : xs.length ≤ 140737488355328) (d : Nat) : ∀ (k i : Nat), i + d = xs.length → d < k → laws_eqByteS.l0 k xs xs (i : Int) = some true := by
  induction d with
  | zero =>
    intro k i hi hk
    obtain ⟨k, rfl⟩ : ∃ m, k = m + 1 := ⟨k - 1, by omega⟩
    simp only [laws_eqByteS.l0]
    rw [if_neg (by omega)]
  | succ d ih =>
    intro k i hi hk
    obtain ⟨k, rfl⟩ : ∃ m, k = m + 1 := ⟨k - 1, by omega⟩
    simp only [laws_eqByteS.l0]
    rw [if_pos (by omega), if_pos (by omega), if_pos (by omega), wr_succ (n := xs.length) (by omega) hx]
    simp only [if_true]
    exact ih k (i + 1) (by omega) (by omega)
theorem eqByteS_same (k : Nat) (xs : List Int) (hx : xs.length ≤ 140737488355328) (hk : xs.length < k) : laws_eqByteS.f k xs xs = some true := by
  unfold laws_eqByteS.f
  rw [if_pos rfl]
  exact eqByteS_l0 xs hx xs.length k 0 (by omega) hk

/-! ### bytes -/


/-! ### get2 -/
theorem or_bytes (a b : Int) (ha : 0 ≤ a ∧ a ≤ 255) (hb : 0 ≤ b ∧ b ≤ 255) : Go.bits .or .i64 (a * 256) b = 256 * a + b := by
  rw [bits_join .i64 16 (by decide) (fun n h0 h1 => by rw [IntKind.wrap_i64]; omega) 8 (a * 256) b (by omega) (by omega) (by omega) (by omega) (by omega) (by omega)]
  omega
def get2v (l : List Int) (i : Int) : Int × Bool := if i < 0 then (0, false) else if i > (l.length : Int) - 2 then (0, false) else (256 * rd l i + rd l (i + 1), true)
theorem get2_spec (l : List Int) (i : Int) (hl : l.length ≤ 140737488355328) (hb : ∀ x ∈ l, (Lit.int .u8 x).wf = true) (hi : (Lit.int .i64 i).wf = true) : spec_Get2.f l i = some (get2v l i) := by
  have hi := wf64 hi
  unfold spec_Get2.f get2v
  by_cases h1 : i < 0
  · rw [if_pos h1, if_pos h1]
  · rw [if_neg h1, if_neg h1, wr (n := (l.length : Int) - 2) (by omega) (by omega)]
    by_cases h2 : i > (l.length : Int) - 2
    · rw [if_pos h2, if_pos h2]
    · have b0 := byte_bounds hb i
      have b1 := byte_bounds hb (i + 1)
      rw [if_neg h2, if_neg h2, if_pos (by omega), if_pos (by omega), wr (n := i + 1) (by omega) (by omega), if_pos (by omega), if_pos (by omega)]
      rw [wr (n := rd l i) (by omega) (by omega), wr (n := rd l (i + 1)) (by omega) (by omega), wr (n := 256 * rd l i) (by omega) (by omega), wr (by omega) (by omega)]
theorem get2_impl (l : List Int) (i : Int) (hl : l.length ≤ 140737488355328) (hb : ∀ x ∈ l, (Lit.int .u8 x).wf = true) (hi : (Lit.int .i64 i).wf = true) : impl_Get2.f l i = some (get2v l i) := by
  have hi := wf64 hi
  unfold impl_Get2.f get2v
  by_cases h1 : i < 0
  · rw [if_pos h1, if_pos h1]
  · rw [if_neg h1, if_neg h1, wr (n := (l.length : Int) - 2) (by omega) (by omega)]
    by_cases h2 : i > (l.length : Int) - 2
    · rw [if_pos h2, if_pos h2]
    · have b0 := byte_bounds hb i
      have b1 := byte_bounds hb (i + 1)
      rw [if_neg h2, if_neg h2, if_pos (by omega), if_pos (by omega), wr (n := i + 1) (by omega) (by omega), if_pos (by omega), if_pos (by omega)]
      rw [wr (n := rd l i) (by omega) (by omega), wr (n := rd l (i + 1)) (by omega) (by omega), wr (n := rd l i * 256) (by omega) (by omega), or_bytes _ _ b0 b1]

/-! ### getentry -/
theorem getentry_same (k : Nat) (l : List Int) (i : Int) (hl : l.length ≤ 140737488355328) (hb : ∀ x ∈ l, (Lit.int .u8 x).wf = true) (hi : (Lit.int .i64 i).wf = true) : spec_GetEntry.f (k + 1) l i = impl_GetEntry.f (k + 1) l i := by
  unfold spec_GetEntry.f impl_GetEntry.f
  simp only [spec_GetEntry.j0, impl_GetEntry.j0, get2_spec l i hl hb hi, get2_impl l i hl hb hi, boxok_spec, boxok_impl]
def getentryv (l : List Int) (i : Int) : Int × Int × Int × Int × Int × Bool :=
  if i < 0 then (0, 0, 0, 0, 0, false) else if i > (l.length : Int) - 6 then (0, 0, 0, 0, 0, false) else
    if okb (rd l (i + 2)) (rd l (i + 3)) (rd l (i + 4)) (rd l (i + 5)) = true then (256 * rd l i + rd l (i + 1), rd l (i + 2), rd l (i + 3), rd l (i + 4), rd l (i + 5), true) else (0, 0, 0, 0, 0, false)
theorem getentry_impl (k : Nat) (l : List Int) (i : Int) (hl : l.length ≤ 140737488355328) (hb : ∀ x ∈ l, (Lit.int .u8 x).wf = true) (hi : (Lit.int .i64 i).wf = true) : impl_GetEntry.f (k + 1) l i = some (getentryv l i) := by
  have hi2 := wf64 hi
  unfold impl_GetEntry.f getentryv
  simp only [impl_GetEntry.j0]
  by_cases h1 : i < 0
  · rw [if_pos h1, if_pos h1]; rfl
  · rw [if_neg h1, if_neg h1, wr (n := (l.length : Int) - 6) (by omega) (by omega)]
    by_cases h2 : i > (l.length : Int) - 6
    · rw [if_pos (by simpa using h2), if_pos h2]
    · rw [if_neg (by simpa using h2), if_neg h2, get2_impl l i hl hb hi]
      simp only [Option.bind_some]
      have b2 := byte_bounds hb (i + 2)
      have b3 := byte_bounds hb (i + 3)
      have b4 := byte_bounds hb (i + 4)
      have b5 := byte_bounds hb (i + 5)
      rw [wr (n := i + 2) (by omega) (by omega), wr (n := i + 3) (by omega) (by omega), wr (n := i + 4) (by omega) (by omega), wr (n := i + 5) (by omega) (by omega)]
      rw [if_pos (by omega), if_pos (by omega), if_pos (by omega), if_pos (by omega), if_pos (by omega), if_pos (by omega), if_pos (by omega), if_pos (by omega)]
      rw [wr (n := rd l (i + 2)) (by omega) (by omega), wr (n := rd l (i + 3)) (by omega) (by omega), wr (n := rd l (i + 4)) (by omega) (by omega), wr (n := rd l (i + 5)) (by omega) (by omega), boxok_impl]
      simp only [Option.bind_some]
      have hg : get2v l i = (256 * rd l i + rd l (i + 1), true) := by unfold get2v; rw [if_neg h1, if_neg (by omega)]
      rw [hg]
      split <;> rfl

/-! ### getnode -/
theorem l6_l0 (xs ys : List Int) (hx : xs.length ≤ 140737488355328) (hl : ys.length = xs.length) (d : Nat) : ∀ (k i : Nat), i + d = xs.length → d < k → spec_l6Same.l0 k xs ys (i : Int) = some (decide (xs.drop i = ys.drop i)) := by
  induction d with
  | zero =>
    intro k i hi hk
    obtain ⟨k, rfl⟩ : ∃ m, k = m + 1 := ⟨k - 1, by omega⟩
    simp only [spec_l6Same.l0]
    rw [if_neg (by omega), List.drop_eq_nil_of_le (by omega), List.drop_eq_nil_of_le (by omega)]; simp
  | succ d ih =>
    intro k i hi hk
    obtain ⟨k, rfl⟩ : ∃ m, k = m + 1 := ⟨k - 1, by omega⟩
    simp only [spec_l6Same.l0]
    rw [if_pos (by omega), if_pos (by omega), if_pos (by omega), rd_nat xs i (by omega), rd_nat ys i (by omega), wr_succ (n := xs.length) (by omega) hx, ih k (i + 1) (by omega) (by omega),
      List.drop_eq_getElem_cons (show i < xs.length by omega), List.drop_eq_getElem_cons (show i < ys.length by omega)]
    by_cases h : xs[i] = ys[i]
    · rw [if_pos h, h]
      congr 1
      exact decide_eq_decide.mpr ⟨fun e => by rw [e], fun e => (List.cons.inj e).2⟩
    · rw [if_neg h, decide_eq_false (fun e => h (List.cons.inj e).1)]
theorem l6_val (k : Nat) (xs ys : List Int) (hx : xs.length ≤ 140737488355328) (hk : xs.length < k) : spec_l6Same.f k xs ys = some (decide (xs = ys)) := by
  unfold spec_l6Same.f
  by_cases h : (xs.length : Int) = (ys.length : Int)
  · rw [if_pos h]
    exact l6_l0 xs ys hx (by omega) xs.length k 0 (by omega) hk
  · rw [if_neg h]
    have : ¬ xs = ys := fun e => h (by rw [e])
    simp [this]
def isB (n : Int) : Prop := 0 ≤ n ∧ n ≤ 255
theorem byte_inj {a b : Int} (ha : isB a) (hb : isB b) (h : UInt8.ofNat a.toNat = UInt8.ofNat b.toNat) : a = b := by
  have h1 := congrArg UInt8.toNat h
  unfold isB at ha hb
  simp only [UInt8.toNat_ofNat'] at h1
  omega
theorem bytes_inj : ∀ (xs ys : List Int), (∀ x ∈ xs, isB x) → (∀ y ∈ ys, isB y) → Lib.bytesOf xs = Lib.bytesOf ys → xs = ys
  | [], [], _, _, _ => rfl
  | [], y :: ys, _, _, h => by simp [Lib.bytesOf] at h
  | x :: xs, [], _, _, h => by simp [Lib.bytesOf] at h
  | x :: xs, y :: ys, hx, hy, h => by
    simp only [Lib.bytesOf, List.map_cons, List.cons.injEq] at h
    rw [byte_inj (hx x (List.mem_cons_self ..)) (hy y (List.mem_cons_self ..)) h.1, bytes_inj xs ys (fun z hz => hx z (List.mem_cons_of_mem _ hz)) (fun z hz => hy z (List.mem_cons_of_mem _ hz)) h.2]
theorem bytes_equal_val (xs ys : List Int) (hx : ∀ x ∈ xs, isB x) (hy : ∀ y ∈ ys, isB y) : bytes_Equal.f xs ys = some (decide (xs = ys)) := by
  unfold bytes_Equal.f
  rw [Lib.strOfNums_toList, Lib.strOfNums_toList]
  congr 1
  by_cases h : xs = ys
  · rw [h]; simp
  · rw [decide_eq_false h]
    exact beq_eq_false_iff_ne.mpr (fun e => h (bytes_inj xs ys hx hy e))
theorem putentryv_B (n a b c d : Int) : ∀ x ∈ putentryv n a b c d, isB x := by
  unfold putentryv
  split
  · split
    · rename_i h1 h2
      have h3 := (okb_iff a b c d).1 h2
      intro x hx
      simp only [List.mem_cons, List.not_mem_nil, or_false] at hx
      unfold isB
      rcases hx with rfl | rfl | rfl | rfl | rfl | rfl <;> omega
    · simp
  · simp
theorem putnodev_B (b : Bool) (xs : List S90) : ∀ x ∈ putnodev b xs, isB x := by
  unfold putnodev padv
  split
  · rename_i h
    have h1 := (nodeokv_len h).1
    rw [if_neg (by omega)]
    intro x hx
    simp only [List.mem_append, List.mem_cons, List.not_mem_nil, or_false, List.mem_flatMap, List.mem_replicate] at hx
    rcases hx with (hx | ⟨e, _, he⟩) | ⟨_, hx⟩
    · subst hx; unfold isB; split <;> omega
    · exact putentryv_B _ _ _ _ _ x he
    · subst hx; unfold isB; omega
  · simp
theorem putnodev_head {b : Bool} {xs : List S90} (h : nodeokv b xs = true) : rd (putnodev b xs) 0 = (xs.length : Int) + if b = true then 16 else 0 := by
  unfold putnodev padv
  rw [if_pos h, if_neg (by omega)]; rfl
def gl (l : List Int) : Nat → Int → List S90 → Option (List S90)
  | 0, _, acc => some acc
  | m + 1, i, acc => if (getentryv l (1 + 6 * i)).2.2.2.2.2 = true then gl l m (i + 1) (acc ++ [⟨(getentryv l (1 + 6 * i)).1, ⟨(getentryv l (1 + 6 * i)).2.1, (getentryv l (1 + 6 * i)).2.2.1, (getentryv l (1 + 6 * i)).2.2.2.1, (getentryv l (1 + 6 * i)).2.2.2.2.1⟩⟩]) else none
theorem gl_len (l : List Int) : ∀ (m : Nat) (i : Int) (acc xs : List S90), gl l m i acc = some xs → xs.length = acc.length + m
  | 0, i, acc, xs, h => by simp only [gl, Option.some.injEq] at h; subst h; rfl
  | m + 1, i, acc, xs, h => by
    simp only [gl] at h
    split at h
    · have := gl_len l m _ _ xs h
      rw [List.length_append] at this; simp at this; omega
    · cases h
def finv (l : List Int) (b : Bool) (xs : List S90) : Bool × List S90 × Bool := if putnodev b xs = l then (b, xs, true) else (false, [], false)
def glv (l : List Int) (b : Bool) (m : Nat) (i : Int) (acc : List S90) : Bool × List S90 × Bool := match gl l m i acc with
  | none => (false, [], false)
  | some xs => finv l b xs
theorem impl_fin (k : Nat) (l : List Int) (b : Bool) (xs : List S90) (hl : l.length = 25) (hb : ∀ x ∈ l, isB x) (hx : xs.length ≤ 4) (hk : 200 < k) :
    ((impl_NodeOk.f k b xs).bind fun t329 => (if t329 = true then ((impl_PutNode.f k b xs).bind fun t330 => ((bytes_Equal.f t330 l).bind fun t333 => (if t333 = true then (some (b, xs, true)) else (some (false, ([] : List (S90)), false))))) else (some (false, ([] : List (S90)), false)))) = some (finv l b xs) := by
  rw [nodeok_impl k b xs (by omega) (by omega)]
  simp only [Option.bind_some]
  unfold finv
  by_cases h : nodeokv b xs = true
  · rw [if_pos h, putnode_impl k b xs (by omega) (by omega)]
    simp only [Option.bind_some]
    rw [bytes_equal_val _ _ (putnodev_B b xs) hb]
    simp only [Option.bind_some, decide_eq_true_eq]
    by_cases h1 : putnodev b xs = l
    · rw [if_pos h1, if_pos h1]
    · rw [if_neg h1, if_neg h1]
  · rw [if_neg h]
    have h2 : ¬ putnodev b xs = l := by
      intro e
      unfold putnodev at e
      rw [if_neg h] at e
      rw [← e] at hl
      simp at hl
    rw [if_neg h2]
theorem spec_fin (k : Nat) (l : List Int) (b : Bool) (xs : List S90) (hx : xs.length ≤ 4) (hk : 200 < k) :
    ((spec_PutNode.f k b xs).bind fun t231 => ((spec_l6Same.f k t231 l).bind fun t234 => (if t234 = true then (some (b, xs, true)) else (some (false, ([] : List (S90)), false))))) = some (finv l b xs) := by
  have hp := putnodev_len b xs
  rw [putnode_spec k b xs (by omega) (by omega)]
  simp only [Option.bind_some]
  rw [l6_val k _ l (by omega) (by omega)]
  simp only [Option.bind_some, decide_eq_true_eq]
  unfold finv
  by_cases h1 : putnodev b xs = l
  · rw [if_pos h1, if_pos h1]
  · rw [if_neg h1, if_neg h1]
theorem getentry_impl2 (k : Nat) (l : List Int) (i : Int) (hk : 0 < k) (hl : l.length ≤ 140737488355328) (hb : ∀ x ∈ l, (Lit.int .u8 x).wf = true) (hi : (Lit.int .i64 i).wf = true) : impl_GetEntry.f k l i = some (getentryv l i) := by
  obtain ⟨k, rfl⟩ : ∃ m, k = m + 1 := ⟨k - 1, by omega⟩
  exact getentry_impl k l i hl hb hi
theorem getentry_spec2 (k : Nat) (l : List Int) (i : Int) (hk : 0 < k) (hl : l.length ≤ 140737488355328) (hb : ∀ x ∈ l, (Lit.int .u8 x).wf = true) (hi : (Lit.int .i64 i).wf = true) : spec_GetEntry.f k l i = some (getentryv l i) := by
  obtain ⟨k, rfl⟩ : ∃ m, k = m + 1 := ⟨k - 1, by omega⟩
  rw [getentry_same k l i hl hb hi]
  exact getentry_impl k l i hl hb hi
theorem getnode_impl_l0 (l : List Int) (hl : l.length = 25) (hw : ∀ x ∈ l, (Lit.int .u8 x).wf = true) (hb : ∀ x ∈ l, isB x) (b : Bool) : ∀ (m k i : Nat) (acc : List S90), i + m ≤ 4 → acc.length = i → 201 + m < k →
    impl_GetNode.l0 k l ((i + m : Nat) : Int) (i : Int) b acc = some (glv l b m (i : Int) acc)
  | 0, k, i, acc, hi, ha, hk => by
    obtain ⟨k, rfl⟩ : ∃ m, k = m + 1 := ⟨k - 1, by omega⟩
    simp only [impl_GetNode.l0]
    rw [if_neg (by omega), impl_fin k l b acc hl hb (by omega) (by omega)]; rfl
  | m + 1, k, i, acc, hi, ha, hk => by
    obtain ⟨k, rfl⟩ : ∃ m, k = m + 1 := ⟨k - 1, by omega⟩
    have hw2 : (Lit.int .i64 (1 + 6 * (i : Int))).wf = true := by
      simp [Lit.wf, IntKind.min, IntKind.max, IntKind.bits, IntKind.signed]; omega
    simp only [impl_GetNode.l0]
    rw [if_pos (by omega), wr (n := 6 * (i : Int)) (by omega) (by omega), wr (n := 1 + 6 * (i : Int)) (by omega) (by omega), getentry_impl2 k l _ (by omega) (by omega) hw hw2]
    simp only [Option.bind_some]
    unfold glv
    simp only [gl]
    by_cases h : (getentryv l (1 + 6 * (i : Int))).2.2.2.2.2 = true
    · rw [if_pos h, if_pos (by omega), if_pos h, wr_succ (n := 10) (by omega) (by omega)]
      have := getnode_impl_l0 l hl hw hb b m k (i + 1) (acc ++ [⟨(getentryv l (1 + 6 * (i : Int))).1, ⟨(getentryv l (1 + 6 * (i : Int))).2.1, (getentryv l (1 + 6 * (i : Int))).2.2.1, (getentryv l (1 + 6 * (i : Int))).2.2.2.1, (getentryv l (1 + 6 * (i : Int))).2.2.2.2.1⟩⟩]) (by omega) (by rw [List.length_append]; simp; omega) (by omega)
      rw [show i + 1 + m = i + (m + 1) by omega] at this
      rw [this, show ((i + 1 : Nat) : Int) = (i : Int) + 1 by omega]; rfl
    · rw [if_neg h, if_neg h]
theorem getnode_spec_l0 (l : List Int) (hl : l.length = 25) (hw : ∀ x ∈ l, (Lit.int .u8 x).wf = true) (b : Bool) : ∀ (m k i : Nat) (acc : List S90), i + m ≤ 4 → acc.length = i → 210 + m + m < k →
    spec_GetNode.l0 k l ((i + m : Nat) : Int) (i : Int) b acc = some (glv l b m (i : Int) acc)
  | 0, k, i, acc, hi, ha, hk => by
    obtain ⟨k, rfl⟩ : ∃ m, k = m + 2 := ⟨k - 2, by omega⟩
    simp only [spec_GetNode.l0]
    rw [if_neg (by omega)]
    simp only [spec_GetNode.j1]
    rw [if_neg (by simp), spec_fin k l b acc (by omega) (by omega)]; rfl
  | m + 1, k, i, acc, hi, ha, hk => by
    obtain ⟨k, rfl⟩ : ∃ m, k = m + 2 := ⟨k - 2, by omega⟩
    have hw2 : (Lit.int .i64 (1 + 6 * (i : Int))).wf = true := by
      simp [Lit.wf, IntKind.min, IntKind.max, IntKind.bits, IntKind.signed]; omega
    simp only [spec_GetNode.l0]
    rw [if_pos (by omega), decide_eq_true (by omega)]
    simp only [spec_GetNode.j1]
    rw [if_pos trivial, wr (n := 6 * (i : Int)) (by omega) (by omega), wr (n := 1 + 6 * (i : Int)) (by omega) (by omega), getentry_spec2 k l _ (by omega) (by omega) hw hw2]
    simp only [Option.bind_some]
    unfold glv
    simp only [gl]
    by_cases h : (getentryv l (1 + 6 * (i : Int))).2.2.2.2.2 = true
    · rw [if_pos h, if_pos (by omega), if_pos h, wr_succ (n := 10) (by omega) (by omega)]
      have := getnode_spec_l0 l hl hw b m k (i + 1) (acc ++ [⟨(getentryv l (1 + 6 * (i : Int))).1, ⟨(getentryv l (1 + 6 * (i : Int))).2.1, (getentryv l (1 + 6 * (i : Int))).2.2.1, (getentryv l (1 + 6 * (i : Int))).2.2.2.1, (getentryv l (1 + 6 * (i : Int))).2.2.2.2.1⟩⟩]) (by omega) (by rw [List.length_append]; simp; omega) (by omega)
      rw [show i + 1 + m = i + (m + 1) by omega] at this
      rw [this, show ((i + 1 : Nat) : Int) = (i : Int) + 1 by omega]; rfl
    · rw [if_neg h, if_neg h]
def getnodev (l : List Int) : Bool × List S90 × Bool := if l.length = 25 then (if rd l 0 % 16 ≤ 4 then glv l (decide (rd l 0 ≥ 16)) (rd l 0 % 16).toNat 0 [] else (false, [], false)) else (false, [], false)
theorem finv_no {l : List Int} {b : Bool} {xs : List S90} (hl : l.length = 25) (hx : xs.length ≤ 4) (h : rd l 0 % 16 > 4) : finv l b xs = (false, [], false) := by
  unfold finv
  rw [if_neg]
  intro e
  by_cases h1 : nodeokv b xs = true
  · have h2 := putnodev_head h1
    rw [e] at h2
    rw [h2] at h
    split at h <;> omega
  · unfold putnodev at e
    rw [if_neg h1] at e
    rw [← e] at hl
    simp at hl
theorem getnode_impl (k : Nat) (l : List Int) (hw : ∀ x ∈ l, (Lit.int .u8 x).wf = true) (hk : 300 < k) : impl_GetNode.f k l = some (getnodev l) := by
  have hb : ∀ x ∈ l, isB x := fun x hx => bounds_u8 (hw x hx)
  have b0 := byte_bounds hw 0
  unfold impl_GetNode.f getnodev
  by_cases hl : l.length = 25
  · rw [if_pos (by omega), if_pos (by omega), if_pos hl, wr (n := Int.tmod (rd l 0) 16) (by rw [Int.tmod_eq_emod_of_nonneg (by omega)]; omega) (by rw [Int.tmod_eq_emod_of_nonneg (by omega)]; omega), Int.tmod_eq_emod_of_nonneg (by omega)]
    by_cases h4 : rd l 0 % 16 ≤ 4
    · have hm : mn (rd l 0 % 16) 4 = ((0 + (rd l 0 % 16).toNat : Nat) : Int) := by unfold mn; rw [if_neg (by omega)]; omega
      rw [if_pos h4, hm]
      exact getnode_impl_l0 l hl hw hb _ (rd l 0 % 16).toNat k 0 [] (by omega) rfl (by omega)
    · have hm : mn (rd l 0 % 16) 4 = ((0 + 4 : Nat) : Int) := by unfold mn; rw [if_pos (by omega)]; rfl
      rw [if_neg h4, hm]
      refine Eq.trans (getnode_impl_l0 l hl hw hb _ 4 k 0 [] (by omega) rfl (by omega)) ?_
      unfold glv
      cases hg : gl l 4 ((0 : Nat) : Int) [] with
      | none => rfl
      | some xs =>
        have := gl_len l 4 _ [] xs hg
        simp only
        rw [finv_no hl (by simp at this; omega) (by omega)]
  · rw [if_neg (by omega), if_neg hl]
theorem getnode_spec (k : Nat) (l : List Int) (hw : ∀ x ∈ l, (Lit.int .u8 x).wf = true) (hk : 300 < k) : spec_GetNode.f k l = some (getnodev l) := by
  have b0 := byte_bounds hw 0
  unfold spec_GetNode.f getnodev
  by_cases hl : l.length = 25
  · rw [if_pos (by omega), if_pos (by omega), if_pos hl, wr (n := rd l 0) (by omega) (by omega), Int.tmod_eq_emod_of_nonneg (by omega)]
    by_cases h4 : rd l 0 % 16 ≤ 4
    · have hm : rd l 0 % 16 = ((0 + (rd l 0 % 16).toNat : Nat) : Int) := by omega
      rw [if_pos h4]
      have := getnode_spec_l0 l hl hw (decide (rd l 0 ≥ 16)) (rd l 0 % 16).toNat k 0 [] (by omega) rfl (by omega)
      rw [← hm] at this
      exact this
    · rw [if_neg h4]
      obtain ⟨k, rfl⟩ : ∃ m, k = m + 2 := ⟨k - 2, by omega⟩
      simp only [spec_GetNode.l0]
      rw [if_pos (by omega), decide_eq_false h4]
      simp only [spec_GetNode.j1]
      rw [if_neg (by simp), spec_fin k l _ [] (by simp) (by omega), finv_no hl (by simp) (by omega)]
  · rw [if_neg (by omega), if_neg hl]
theorem getnodev_len (l : List Int) : (getnodev l).2.1.length ≤ 4 := by
  unfold getnodev
  split
  · split
    · unfold glv
      cases hg : gl l (rd l 0 % 16).toNat 0 [] with
      | none => simp
      | some xs =>
        have := gl_len l _ _ [] xs hg
        simp only
        unfold finv
        split
        · simp at this ⊢; omega
        · simp
    · simp
  · simp

/-! ### eq1Box -/
theorem eqBox_self (a b c d : Int) : laws_eqBox.f a b c d a b c d = some true := by simp [laws_eqBox.f]

/-! ### eq1Entry -/
theorem eqEntry_self (n a b c d : Int) : laws_eqEntry.f n a b c d n a b c d = some true := by simp [laws_eqEntry.f, eqBox_self]

/-! ### eq:Entry -/
theorem eqEntryS_l0 (xs : List S90) (hx : xs.length ≤ 140737488355328) (d : Nat) : ∀ (k i : Nat), i + d = xs.length → d < k → laws_eqEntryS.l0 k xs xs (i : Int) = some true := by
  induction d with
  | zero =>
    intro k i hi hk
    obtain ⟨k, rfl⟩ : ∃ m, k = m + 1 := ⟨k - 1, by omega⟩
    simp only [laws_eqEntryS.l0]
    rw [if_neg (by omega)]
  | succ d ih =>
    intro k i hi hk
    obtain ⟨k, rfl⟩ : ∃ m, k = m + 1 := ⟨k - 1, by omega⟩
    simp only [laws_eqEntryS.l0]
    rw [if_pos (by omega), if_pos (by omega), if_pos (by omega), eqEntry_self]
    simp only [Option.bind_some, if_true]
    rw [wr_succ (n := xs.length) (by omega) hx]
    exact ih k (i + 1) (by omega) (by omega)
theorem eqEntryS_same (k : Nat) (xs : List S90) (hx : xs.length ≤ 140737488355328) (hk : xs.length < k) : laws_eqEntryS.f k xs xs = some true := by
  unfold laws_eqEntryS.f
  rw [if_pos rfl]
  exact eqEntryS_l0 xs hx xs.length k 0 (by omega) hk

/-! ### eqNode -/
theorem eqNode_same (k : Nat) (b : Bool) (xs : List S90) (hx : xs.length ≤ 140737488355328) (hk : xs.length < k) : laws_eqNode.f k b xs b xs = some true := by
  unfold laws_eqNode.f
  rw [eqEntryS_same k xs hx hk]; simp

/-! ### marks -/
theorem set_take {α : Type} (f : Nat → α) (ys : List α) (i n : Nat) (hl : ys.length = n) (hi : i < n) (h : ys.take i = (List.range i).map f) : (ys.set i (f i)).take (i + 1) = (List.range (i + 1)).map f := by
  rw [List.take_succ_eq_append_getElem (by rw [List.length_set]; omega), List.getElem_set_self, List.take_set_of_le (Nat.le_refl i), h, List.range_succ, List.map_append]; rfl
theorem take_all {α : Type} (f : Nat → α) (ys : List α) (i n : Nat) (hl : ys.length = n) (hi : i = n) (h : ys.take i = (List.range i).map f) : ys = (List.range n).map f := by
  subst hi; rw [List.take_of_length_le (by omega)] at h; exact h

/-! ### markB -/
def mkB (j : Nat) : Int := ((j : Int) + 1) % 256
theorem markByteS_l0 (n : Nat) (hn : n ≤ 140737488355328) (d : Nat) : ∀ (k i : Nat) (ys : List Int), ys.length = n → i + d = n → ys.take i = (List.range i).map mkB → d < k →
    laws_markByteS.l0 k ys ((i : Int) + 1) (i : Int) = some ((n : Int) + 1, (List.range n).map mkB) := by
  induction d with
  | zero =>
    intro k i ys hl hi hy hk
    obtain ⟨k, rfl⟩ : ∃ m, k = m + 1 := ⟨k - 1, by omega⟩
    simp only [laws_markByteS.l0]
    rw [if_neg (by omega), take_all mkB ys i n hl (by omega) hy]
    congr 2; omega
  | succ d ih =>
    intro k i ys hl hi hy hk
    obtain ⟨k, rfl⟩ : ∃ m, k = m + 1 := ⟨k - 1, by omega⟩
    simp only [laws_markByteS.l0]
    rw [if_pos (by omega), if_pos (by omega), Int.toNat_natCast, wr (n := (i : Int) + 1 + 1) (by omega) (by omega), wr_succ (n := n) (by omega) hn]
    have := ih k (i + 1) (ys.set i (mkB i)) (by rw [List.length_set]; exact hl) (by omega) (set_take mkB ys i n hl (by omega) hy) (by omega)
    rw [← this, Int.natCast_succ]; rfl
theorem markByteS_some (k : Nat) (xs : List Int) (hn : xs.length ≤ 140737488355328) (hk : xs.length < k) : laws_markByteS.f k xs 1 = some ((xs.length : Int) + 1, (List.range xs.length).map mkB) := by
  unfold laws_markByteS.f
  exact markByteS_l0 xs.length hn xs.length k 0 xs rfl (by omega) (by simp) hk

/-! ### mark:Entry -/
def mkEntry (s : Int) (j : Nat) : S90 := ⟨s + 5 * (j : Int), ⟨s + 5 * (j : Int) + 1, s + 5 * (j : Int) + 1 + 1, s + 5 * (j : Int) + 1 + 1 + 1, s + 5 * (j : Int) + 1 + 1 + 1 + 1⟩⟩
theorem rd_setEntry (ys : List S90) (i : Nat) (v : S90) (h : i < ys.length) : rd_T90 (ys.set i v) (i : Int) = v := by
  rw [rd_implEntry _ i (by rw [List.length_set]; exact h), List.getElem_set_self]
theorem markEntryS_l0 (n : Nat) (s : Int) (hn : n ≤ 1048576) (h0 : 0 ≤ s) (h1 : s ≤ 140737488355328) (d : Nat) : ∀ (k i : Nat) (ys : List S90), ys.length = n → i + d = n → ys.take i = (List.range i).map (mkEntry s) → d < k →
    laws_markEntryS.l0 k ys (s + 5 * (i : Int)) (i : Int) = some (s + 5 * (n : Int), (List.range n).map (mkEntry s)) := by
  induction d with
  | zero =>
    intro k i ys hl hi hy hk
    obtain ⟨k, rfl⟩ : ∃ m, k = m + 1 := ⟨k - 1, by omega⟩
    simp only [laws_markEntryS.l0]
    rw [if_neg (by omega), take_all (mkEntry s) ys i n hl (by omega) hy]
    congr 2; omega
  | succ d ih =>
    intro k i ys hl hi hy hk
    obtain ⟨k, rfl⟩ : ∃ m, k = m + 1 := ⟨k - 1, by omega⟩
    simp only [laws_markEntryS.l0]
    rw [if_pos (by omega), if_pos (by omega)]
    simp only [Option.bind_some, Int.toNat_natCast]
    rw [wr (n := s + 5 * (i : Int) + 1) (by omega) (by omega), wr (n := s + 5 * (i : Int) + 1 + 1) (by omega) (by omega), wr (n := s + 5 * (i : Int) + 1 + 1 + 1) (by omega) (by omega), wr (n := s + 5 * (i : Int) + 1 + 1 + 1 + 1) (by omega) (by omega), wr (n := s + 5 * (i : Int) + 1 + 1 + 1 + 1 + 1) (by omega) (by omega), wr_succ (n := n) (by omega) (by omega)]
    have hi2 : i < ys.length := by omega
    rw [rd_setEntry ys i _ hi2]
    simp only [List.set_set, rd_setEntry ys i _ hi2]
    have := ih k (i + 1) (ys.set i (mkEntry s i)) (by rw [List.length_set]; exact hl) (by omega) (set_take (mkEntry s) ys i n hl (by omega) hy) (by omega)
    rw [← this, show s + 5 * (i : Int) + 1 + 1 + 1 + 1 + 1 = s + 5 * ((i + 1 : Nat) : Int) by omega]; rfl
theorem markEntryS_some (k : Nat) (xs : List S90) (s : Int) (hn : xs.length ≤ 1048576) (h0 : 0 ≤ s) (h1 : s ≤ 140737488355328) (hk : xs.length < k) : laws_markEntryS.f k xs s = some (s + 5 * (xs.length : Int), (List.range xs.length).map (mkEntry s)) := by
  unfold laws_markEntryS.f
  have := markEntryS_l0 xs.length s hn h0 h1 xs.length k 0 xs rfl (by omega) (by simp) hk
  rw [← this]; congr 1; omega

/-! ### markNode -/
theorem markNode_some (k : Nat) (b : Bool) (xs : List S90) (s : Int) (hn : xs.length ≤ 1048576) (h0 : 0 ≤ s) (h1 : s ≤ 140737488355328) (hk : xs.length < k) : laws_markNode.f k b xs s = some (s + 5 * (xs.length : Int), (List.range xs.length).map (mkEntry s)) := by
  unfold laws_markNode.f
  rw [markEntryS_some k xs s hn h0 h1 hk]; rfl

/-! ### held:Entry -/
theorem heldEntryS_l0 (n : Nat) (s : Int) (hn : n ≤ 1048576) (h0 : 0 ≤ s) (h1 : s ≤ 140737488355328) (d : Nat) : ∀ (k i : Nat), i + d = n → d < k →
    laws_heldEntryS.l0 k ((List.range n).map (mkEntry s)) (s + 5 * (i : Int)) (i : Int) = some (s + 5 * (n : Int)) := by
  have hl : ((List.range n).map (mkEntry s)).length = n := by simp
  induction d with
  | zero =>
    intro k i hi hk
    obtain ⟨k, rfl⟩ : ∃ m, k = m + 1 := ⟨k - 1, by omega⟩
    simp only [laws_heldEntryS.l0]
    rw [if_neg (by omega)]
    congr 1; omega
  | succ d ih =>
    intro k i hi hk
    obtain ⟨k, rfl⟩ : ∃ m, k = m + 1 := ⟨k - 1, by omega⟩
    simp only [laws_heldEntryS.l0]
    have hr : rd_T90 ((List.range n).map (mkEntry s)) (i : Int) = mkEntry s i := by
      rw [rd_implEntry _ i (by omega)]; simp
    rw [if_pos (by omega), if_pos (by omega), hr]
    rw [wr (n := s + 5 * (i : Int) + 1) (by omega) (by omega), wr (n := s + 5 * (i : Int) + 1 + 1) (by omega) (by omega), wr (n := s + 5 * (i : Int) + 1 + 1 + 1) (by omega) (by omega), wr (n := s + 5 * (i : Int) + 1 + 1 + 1 + 1) (by omega) (by omega), wr (n := s + 5 * (i : Int) + 1 + 1 + 1 + 1 + 1) (by omega) (by omega), wr_succ (n := n) (by omega) (by omega)]
    have e0 : (mkEntry s i).f0 = s + 5 * (i : Int) := rfl
    have e1 : (mkEntry s i).f1.f0 = s + 5 * (i : Int) + 1 := rfl
    have e2 : (mkEntry s i).f1.f1 = s + 5 * (i : Int) + 1 + 1 := rfl
    have e3 : (mkEntry s i).f1.f2 = s + 5 * (i : Int) + 1 + 1 + 1 := rfl
    have e4 : (mkEntry s i).f1.f3 = s + 5 * (i : Int) + 1 + 1 + 1 + 1 := rfl
    rw [if_pos e0, if_pos e1, if_pos e2, if_pos e3, if_pos e4]
    have := ih k (i + 1) (by omega) (by omega)
    rw [← this, show s + 5 * (i : Int) + 1 + 1 + 1 + 1 + 1 = s + 5 * ((i + 1 : Nat) : Int) by omega]
theorem heldEntryS_some (k n : Nat) (s : Int) (hn : n ≤ 1048576) (h0 : 0 ≤ s) (h1 : s ≤ 140737488355328) (hk : n < k) : laws_heldEntryS.f k ((List.range n).map (mkEntry s)) s = some (s + 5 * (n : Int)) := by
  unfold laws_heldEntryS.f
  have := heldEntryS_l0 n s hn h0 h1 n k 0 (by omega) hk
  rw [← this]; congr 1; omega

/-! ### heldNode -/
theorem heldNode_some (k n : Nat) (b : Bool) (s : Int) (hn : n ≤ 1048576) (h0 : 0 ≤ s) (h1 : s ≤ 140737488355328) (hk : n < k) : laws_heldNode.f k b ((List.range n).map (mkEntry s)) s = some (s + 5 * (n : Int)) := by
  unfold laws_heldNode.f
  rw [heldEntryS_some k n s hn h0 h1 hk]
  simp only [Option.bind_some]
  rw [if_neg (by omega)]

theorem pure_law (l : List Int) (hm : l.length ≤ maxLen) (hb : ∀ x ∈ l, (Lit.int .u8 x).wf = true) : ∃ k, laws_FnExactGetNode.f k l = some true := by
  refine ⟨l.length + 400, ?_⟩
  unfold laws_FnExactGetNode.f
  split
  · rfl
  · rename_i hs
    have hp := getnodev_len l
    rw [toByteS_some (l.length + 400) l (by omega) (by omega)]
    simp only [Option.bind_some]
    rw [getnode_spec (l.length + 400) l hb (by omega), getnode_impl (l.length + 400) l hb (by omega)]
    simp only [Option.bind_some]
    rw [eqNode_same (l.length + 400) _ _ (by omega) (by omega)]
    simp only [Option.bind_some, if_true, bne_self_eq_false, laws_FnExactGetNode.j0]
    rw [if_neg (by simp), toByteS_some (l.length + 399) l (by omega) (by omega)]
    simp only [Option.bind_some]
    rw [eqByteS_same (l.length + 399) _ (by omega) (by omega)]
    simp only [Option.bind_some, if_true]
    rw [markByteS_some (l.length + 399) l (by omega) (by omega)]
    simp only [Option.bind_some]
    rw [if_neg (by omega), eqNode_same (l.length + 399) _ _ (by omega) (by omega)]
    simp only [Option.bind_some, if_true, laws_FnExactGetNode.j1]
    rw [if_neg (by simp), markNode_some (l.length + 398) _ _ 1 (by omega) (by omega) (by omega) (by omega)]
    simp only [Option.bind_some]
    rw [heldNode_some (l.length + 398) _ _ 1 (by omega) (by omega) (by omega) (by omega)]
    simp only [Option.bind_some]
    rw [if_neg (by omega), if_pos trivial, toByteS_some (l.length + 398) l (by omega) (by omega)]
    simp only [Option.bind_some]
    rw [getnode_impl (l.length + 398) l hb (by omega)]
    simp only [Option.bind_some]
    rw [eqNode_same (l.length + 398) _ _ (by omega) (by omega)]
    simp only [Option.bind_some, if_true, bne_self_eq_false, laws_FnExactGetNode.j2]
    rw [if_neg (by simp), heldNode_some (l.length + 397) _ _ 1 (by omega) (by omega) (by omega) (by omega)]
    simp only [Option.bind_some]
    rw [if_neg (by omega)]; rfl
end Go.Proofs.Ytjmgomailgplcaa.PureFnExactGetNode
