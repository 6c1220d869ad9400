/- The pure statement of FnExactPutNode: the bytes of a node are what the reference tells, and are no memory of another, for all nodes; condition: the list's length is a length. -/
import Derived.Test.YtjmgomailgplcaaPFnExactPutNodex6
import Derived.OpenShut
namespace Go.Proofs.Ytjmgomailgplcaa.PureFnExactPutNode
open Go.RowKit Go.Proofs.Ytjmgomailgplcaa.PFnExactPutNode Go.Proofs.YtjmgomailgplcaaW.PrintWords Go.Proofs.YtjmgomailgplcaaW.PrintLast Go.Proofs.YtjmgomailgplcaaW.PrintMore
set_option linter.unusedVariables false
set_option linter.unusedSimpArgs false

/-! ### wrap -/
theorem wr {n : Int} (h0 : -9223372036854775808 ≤ n) (h1 : n ≤ 9223372036854775807) : wrap64 n = n := by
  unfold wrap64; omega
theorem wf64 {n : Int} (h : (Lit.int .i64 n).wf = true) : -9223372036854775808 ≤ n ∧ n ≤ 9223372036854775807 := bounds_i64 h

/-! ### basic -/
theorem rd_nat (xs : List Int) (i : Nat) (h : i < xs.length) : rd xs (i : Int) = xs[i] := by
  unfold rd; rw [Int.toNat_natCast, List.getD_eq_getElem?_getD, List.getElem?_eq_getElem h]; rfl
theorem fill_take {α β : Type} (conv : α → β) (xs : List α) (ys : List β) (i : Nat) (hl : ys.length = xs.length) (hi : i < xs.length) (h : ys.take i = (xs.take i).map conv) :
    (ys.set i (conv xs[i])).take (i + 1) = (xs.take (i + 1)).map conv := by
  rw [List.take_succ_eq_append_getElem (by rw [List.length_set]; omega), List.take_succ_eq_append_getElem hi, List.getElem_set_self, List.map_append, List.take_set_of_le (Nat.le_refl i), h]; rfl
theorem wr_succ {i n : Nat} (h : i < n) (hn : n ≤ 140737488355328) : wrap64 ((i : Int) + 1) = ((i + 1 : Nat) : Int) := by
  rw [wr (by omega) (by omega)]; omega
theorem byte_bounds {xs : List Int} (h : ∀ x ∈ xs, (Lit.int .u8 x).wf = true) (i : Int) : 0 ≤ rd xs i ∧ rd xs i ≤ 255 := by
  unfold rd
  rw [List.getD_eq_getElem?_getD]
  exact range_u8 h _

/-! ### rows -/
theorem filled {α β : Type} (conv : α → β) (xs : List α) (ys : List β) (hl : ys.length = xs.length) (i : Nat) (hi : i = xs.length) (h : ys.take i = (xs.take i).map conv) : ys = xs.map conv := by
  rw [List.take_of_length_le (by omega), List.take_of_length_le (by omega)] at h; exact h

/-! ### rdS:Entry -/
theorem rd_implEntry (xs : List S90) (i : Nat) (h : i < xs.length) : rd_T90 xs (i : Int) = xs[i] := by
  unfold rd_T90; rw [Int.toNat_natCast, List.getD_eq_getElem?_getD, List.getElem?_eq_getElem h]; rfl

/-! ### atv:Entry -/
def atEntry : List S90 → Int → Int → Int
  | [], _, _ => -1
  | x :: r, n, i => if x.f0 = n then i else atEntry r n (i + 1)
theorem specEntryat_l0 (xs : List S90) (n : Int) (hx : xs.length ≤ 140737488355328) (d : Nat) : ∀ (k i : Nat), i + d = xs.length → d < k → spec_EntryAt.l0 k xs n (i : Int) = some (atEntry (xs.drop i) n (i : Int)) := by
  induction d with
  | zero =>
    intro k i hi hk
    obtain ⟨k, rfl⟩ : ∃ m, k = m + 1 := ⟨k - 1, by omega⟩
    simp only [spec_EntryAt.l0]
    rw [if_neg (by omega), List.drop_eq_nil_of_le (by omega)]; rfl
  | succ d ih =>
    intro k i hi hk
    obtain ⟨k, rfl⟩ : ∃ m, k = m + 1 := ⟨k - 1, by omega⟩
    simp only [spec_EntryAt.l0]
    rw [if_pos (by omega), if_pos (by omega), wr_succ (n := xs.length) (by omega) hx, rd_implEntry xs i (by omega), List.drop_eq_getElem_cons (show i < xs.length by omega), ih k (i + 1) (by omega) (by omega)]
    simp only [atEntry]
    rw [show ((i + 1 : Nat) : Int) = (i : Int) + 1 by omega]
    split <;> rfl
theorem specEntryat_val (k : Nat) (xs : List S90) (n : Int) (hx : xs.length ≤ 140737488355328) (hk : xs.length < k) : spec_EntryAt.f k xs n = some (atEntry xs n 0) :=
  specEntryat_l0 xs n hx xs.length k 0 (by omega) hk
theorem implEntryat_l0 (xs : List S90) (n : Int) (hx : xs.length ≤ 140737488355328) (d : Nat) : ∀ (k i : Nat), i + d = xs.length → d < k → impl_EntryAt.l0 k xs n (i : Int) = some (atEntry (xs.drop i) n (i : Int)) := by
  induction d with
  | zero =>
    intro k i hi hk
    obtain ⟨k, rfl⟩ : ∃ m, k = m + 1 := ⟨k - 1, by omega⟩
    simp only [impl_EntryAt.l0]
    rw [if_neg (by omega), List.drop_eq_nil_of_le (by omega)]; rfl
  | succ d ih =>
    intro k i hi hk
    obtain ⟨k, rfl⟩ : ∃ m, k = m + 1 := ⟨k - 1, by omega⟩
    simp only [impl_EntryAt.l0]
    rw [if_pos (by omega), if_pos (by omega), wr_succ (n := xs.length) (by omega) hx, rd_implEntry xs i (by omega), List.drop_eq_getElem_cons (show i < xs.length by omega), ih k (i + 1) (by omega) (by omega)]
    simp only [atEntry]
    rw [show ((i + 1 : Nat) : Int) = (i : Int) + 1 by omega]
    split <;> rfl
theorem implEntryat_val (k : Nat) (xs : List S90) (n : Int) (hx : xs.length ≤ 140737488355328) (hk : xs.length < k) : impl_EntryAt.f k xs n = some (atEntry xs n 0) :=
  implEntryat_l0 xs n hx xs.length k 0 (by omega) hk

/-! ### inn -/
theorem l1In_val (x a b : Int) : spec_l1In.f x a b = some (decide (a ≤ x ∧ x ≤ b)) := by
  unfold spec_l1In.f
  by_cases h : x ≥ a
  · rw [if_pos h]; simp [show a ≤ x from h]
  · rw [if_neg h]; simp [show ¬ a ≤ x from h]
theorem in_val (x a b : Int) : impl_in.f x a b = some (decide (a ≤ x ∧ x ≤ b)) := by
  unfold impl_in.f
  by_cases h : a ≤ x
  · rw [if_pos h]; simp [h]
  · rw [if_neg h]; simp [h]

/-! ### boxok -/
def okb (a b c d : Int) : Bool := decide (0 ≤ a ∧ a ≤ c ∧ c ≤ 255 ∧ 0 ≤ b ∧ b ≤ d ∧ d ≤ 255)
theorem okb_iff (a b c d : Int) : okb a b c d = true ↔ 0 ≤ a ∧ a ≤ c ∧ c ≤ 255 ∧ 0 ≤ b ∧ b ≤ d ∧ d ≤ 255 := by unfold okb; exact decide_eq_true_iff
theorem boxok_spec (a b c d : Int) : spec_BoxOk.f a b c d = some (okb a b c d) := by
  unfold spec_BoxOk.f
  simp only [l1In_val, Option.bind_some, okb, decide_eq_true_eq]
  by_cases h1 : 0 ≤ a ∧ a ≤ 255
  · rw [if_pos h1]
    by_cases h2 : 0 ≤ b ∧ b ≤ 255
    · rw [if_pos h2]
      by_cases h3 : a ≤ c ∧ c ≤ 255
      · rw [if_pos h3]; congr 1; apply decide_eq_decide.mpr; omega
      · rw [if_neg h3]; congr 1; symm; apply decide_eq_false; omega
    · rw [if_neg h2]; congr 1; symm; apply decide_eq_false; omega
  · rw [if_neg h1]; congr 1; symm; apply decide_eq_false; omega
theorem boxok_impl (a b c d : Int) : impl_BoxOk.f a b c d = some (okb a b c d) := by
  unfold impl_BoxOk.f
  simp only [in_val, Option.bind_some, okb, decide_eq_true_eq]
  by_cases h1 : 0 ≤ a ∧ a ≤ c
  · rw [if_pos h1]
    by_cases h2 : 0 ≤ c ∧ c ≤ 255
    · rw [if_pos h2]
      by_cases h3 : 0 ≤ b ∧ b ≤ d
      · rw [if_pos h3]; congr 1; apply decide_eq_decide.mpr; omega
      · rw [if_neg h3]; congr 1; symm; apply decide_eq_false; omega
    · rw [if_neg h2]; congr 1; symm; apply decide_eq_false; omega
  · rw [if_neg h1]; congr 1; symm; apply decide_eq_false; omega

/-! ### nodeok -/
def eIn (b : Bool) (n : Int) : Bool := if b = true then decide (1 ≤ n ∧ n ≤ 999) else decide (0 ≤ n ∧ n ≤ 47)
def oks (b : Bool) (full : List S90) : List S90 → Int → Bool
  | [], _ => true
  | e :: r, i => eIn b e.f0 && (okb e.f1.f0 e.f1.f1 e.f1.f2 e.f1.f3 && (decide (atEntry full e.f0 0 = i) && oks b full r (i + 1)))
def nodeokv (b : Bool) (xs : List S90) : Bool := oks b xs xs 0 && (decide (xs.length ≤ 4) && (b || decide (0 < xs.length)))
theorem nodeok_spec_l0 (b : Bool) (xs : List S90) (hx : xs.length ≤ 1048576) (d : Nat) : ∀ (k i : Nat), i + d = xs.length → xs.length + d < k →
    spec_NodeOk.l0 k (i : Int) b xs = some (oks b xs (xs.drop i) (i : Int) && (decide (xs.length ≤ 4) && (b || decide (0 < xs.length)))) := by
  induction d with
  | zero =>
    intro k i hi hk
    obtain ⟨k, rfl⟩ : ∃ m, k = m + 1 := ⟨k - 1, by omega⟩
    simp only [spec_NodeOk.l0]
    rw [if_neg (by omega), List.drop_eq_nil_of_le (by omega)]
    simp only [oks, Bool.true_and]
    by_cases h : xs.length ≤ 4
    · rw [if_pos (by omega), decide_eq_true h]
      cases b
      · simp
      · simp
    · rw [if_neg (by omega), decide_eq_false h]; simp
  | succ d ih =>
    intro k i hi hk
    obtain ⟨k, rfl⟩ : ∃ m, k = m + 1 := ⟨k - 1, by omega⟩
    have hc : ((i + 1 : Nat) : Int) = (i : Int) + 1 := by omega
    simp only [spec_NodeOk.l0]
    rw [if_pos (by omega), if_pos (by omega), wr_succ (n := xs.length) (by omega) (by omega), rd_implEntry xs i (by omega), List.drop_eq_getElem_cons (show i < xs.length by omega), ih k (i + 1) (by omega) (by omega), specEntryat_val k xs _ (by omega) (by omega), boxok_spec, l1In_val, l1In_val, hc]
    simp only [oks, Option.bind_some, eIn]
    cases okb (xs[i]).f1.f0 (xs[i]).f1.f1 (xs[i]).f1.f2 (xs[i]).f1.f3
    · simp
    · by_cases h1 : atEntry xs (xs[i]).f0 0 = (i : Int)
      · cases b
        · cases decide (0 ≤ (xs[i]).f0 ∧ (xs[i]).f0 ≤ 47) <;> simp [h1]
        · cases decide (1 ≤ (xs[i]).f0 ∧ (xs[i]).f0 ≤ 999) <;> simp [h1]
      · simp [h1]
theorem nodeok_spec (k : Nat) (b : Bool) (xs : List S90) (hx : xs.length ≤ 1048576) (hk : xs.length + xs.length < k) : spec_NodeOk.f k b xs = some (nodeokv b xs) :=
  nodeok_spec_l0 b xs hx xs.length k 0 (by omega) hk
theorem nodeok_impl_l0 (b : Bool) (xs : List S90) (hx : xs.length ≤ 1048576) (d : Nat) : ∀ (k i : Nat), i + d = xs.length → xs.length + d < k →
    impl_NodeOk.l0 k xs (xs.length : Int) (i : Int) b xs = some (oks b xs (xs.drop i) (i : Int)) := by
  induction d with
  | zero =>
    intro k i hi hk
    obtain ⟨k, rfl⟩ : ∃ m, k = m + 1 := ⟨k - 1, by omega⟩
    simp only [impl_NodeOk.l0]
    rw [if_neg (by omega), List.drop_eq_nil_of_le (by omega)]; rfl
  | succ d ih =>
    intro k i hi hk
    obtain ⟨k, rfl⟩ : ∃ m, k = m + 1 := ⟨k - 1, by omega⟩
    have hc : ((i + 1 : Nat) : Int) = (i : Int) + 1 := by omega
    simp only [impl_NodeOk.l0]
    rw [if_pos (by omega), if_pos (by omega), if_pos (by omega), wr_succ (n := xs.length) (by omega) (by omega), rd_implEntry xs i (by omega), List.drop_eq_getElem_cons (show i < xs.length by omega), ih k (i + 1) (by omega) (by omega), implEntryat_val k xs _ (by omega) (by omega), boxok_impl, in_val, in_val, hc]
    simp only [oks, Option.bind_some, eIn]
    cases okb (xs[i]).f1.f0 (xs[i]).f1.f1 (xs[i]).f1.f2 (xs[i]).f1.f3
    · cases b
      · cases decide (0 ≤ (xs[i]).f0 ∧ (xs[i]).f0 ≤ 47) <;> simp
      · cases decide (1 ≤ (xs[i]).f0 ∧ (xs[i]).f0 ≤ 999) <;> simp
    · by_cases h1 : atEntry xs (xs[i]).f0 0 = (i : Int)
      · cases b
        · cases decide (0 ≤ (xs[i]).f0 ∧ (xs[i]).f0 ≤ 47) <;> simp [h1]
        · cases decide (1 ≤ (xs[i]).f0 ∧ (xs[i]).f0 ≤ 999) <;> simp [h1]
      · cases b
        · cases decide (0 ≤ (xs[i]).f0 ∧ (xs[i]).f0 ≤ 47) <;> simp [h1]
        · cases decide (1 ≤ (xs[i]).f0 ∧ (xs[i]).f0 ≤ 999) <;> simp [h1]
theorem nodeok_impl (k : Nat) (b : Bool) (xs : List S90) (hx : xs.length ≤ 1048576) (hk : xs.length + xs.length + 1 < k) : impl_NodeOk.f k b xs = some (nodeokv b xs) := by
  obtain ⟨k, rfl⟩ : ∃ m, k = m + 1 := ⟨k - 1, by omega⟩
  have hl : impl_NodeOk.l0 k xs (xs.length : Int) 0 b xs = some (oks b xs xs 0) := nodeok_impl_l0 b xs hx xs.length k 0 (by omega) (by omega)
  unfold impl_NodeOk.f nodeokv
  simp only [impl_NodeOk.j0, hl]
  by_cases h : xs.length ≤ 4
  · rw [if_neg (by omega), decide_eq_true h]
    cases b
    · rw [if_neg (by simp)]
      by_cases h1 : xs.length = 0
      · rw [if_pos (by rw [beq_iff_eq]; omega)]
        have : decide (0 < xs.length) = false := decide_eq_false (by omega)
        rw [this]; simp
      · rw [if_neg (by rw [beq_iff_eq]; omega)]
        have : decide (0 < xs.length) = true := decide_eq_true (by omega)
        rw [this]; simp
    · simp
  · rw [if_pos (by omega), decide_eq_false h]; simp

/-! ### clone -/
theorem clone_bytes (l : List Int) (h : l.length < 140737488355328) : slices_Clone_byte_byte.f l = some l := by
  unfold slices_Clone_byte_byte.f
  simp only [Option.bind_some, List.nil_append, List.length_nil, Nat.zero_add]
  rw [if_pos h]

/-! ### put2 -/
def put2v (l : List Int) (n : Int) : List Int := if 0 ≤ n ∧ n ≤ 65535 then l ++ [n / 256, n % 256] else l
theorem put2_spec (l : List Int) (n : Int) (hl : l.length ≤ 1048576) : spec_Put2.f l n = some (put2v l n) := by
  unfold spec_Put2.f put2v
  simp only [Option.bind_some, List.nil_append, List.length_nil, Nat.zero_add, l1In_val, decide_eq_true_eq]
  rw [if_pos (by omega)]
  by_cases h : 0 ≤ n ∧ n ≤ 65535
  · have e1 : (wrap64 (Int.tdiv n 256)) % 256 = n / 256 := by
      rw [Int.tdiv_eq_ediv_of_nonneg (by omega), wr (by omega) (by omega)]; omega
    have e2 : (Int.tmod n 256) % 256 = n % 256 := by rw [Int.tmod_eq_emod_of_nonneg (by omega)]; omega
    rw [if_pos h, if_pos h, e1, e2, if_pos (by simp; omega)]
  · rw [if_neg h, if_neg h]
theorem put2_impl (l : List Int) (n : Int) (hl : l.length ≤ 1048576) : impl_Put2.f l n = some (put2v l n) := by
  unfold impl_Put2.f put2v
  rw [clone_bytes l (by omega)]
  simp only [Option.bind_some, in_val, decide_eq_true_eq]
  by_cases h : 0 ≤ n ∧ n ≤ 65535
  · have e1 : (n / 256) % 256 = n / 256 := by omega
    rw [if_pos h, if_pos h, e1, if_pos (by simp; omega)]
  · rw [if_neg h, if_neg h]
theorem put2v_len (l : List Int) (n : Int) : (put2v l n).length ≤ l.length + 2 ∧ l.length ≤ (put2v l n).length := by
  unfold put2v
  split
  · rw [List.length_append]; simp
  · omega

/-! ### putentry -/
def putentryv (n a b c d : Int) : List Int := if 0 ≤ n ∧ n ≤ 65535 then (if okb a b c d = true then [n / 256, n % 256, a % 256, b % 256, c % 256, d % 256] else []) else []
theorem putentry_spec (n a b c d : Int) : spec_PutEntry.f n a b c d = some (putentryv n a b c d) := by
  unfold spec_PutEntry.f putentryv
  simp only [l1In_val, boxok_spec, Option.bind_some, decide_eq_true_eq]
  by_cases h : 0 ≤ n ∧ n ≤ 65535
  · rw [if_pos h, if_pos h]
    by_cases h1 : okb a b c d = true
    · rw [if_pos h1, if_pos h1, put2_spec [] n (by simp)]
      simp only [Option.bind_some]
      unfold put2v
      rw [if_pos h, if_pos (by simp)]; rfl
    · rw [if_neg h1, if_neg h1]
  · rw [if_neg h, if_neg h]
theorem putentry_impl (n a b c d : Int) : impl_PutEntry.f n a b c d = some (putentryv n a b c d) := by
  unfold impl_PutEntry.f putentryv
  simp only [in_val, boxok_impl, Option.bind_some, decide_eq_true_eq]
  by_cases h : 0 ≤ n ∧ n ≤ 65535
  · rw [if_pos h, if_pos h]
    by_cases h1 : okb a b c d = true
    · rw [if_pos h1, if_pos h1, put2_impl [] n (by simp)]
      simp only [Option.bind_some]
      unfold put2v
      rw [if_pos h, if_pos (by simp)]; rfl
    · rw [if_neg h1, if_neg h1]
  · rw [if_neg h, if_neg h]
theorem putentryv_len (n a b c d : Int) : (putentryv n a b c d).length ≤ 6 := by
  unfold putentryv
  split
  · split <;> simp
  · simp

/-! ### pad -/
def padv (l : List Int) (n : Int) : List Int := if n > 64 then l else l ++ List.replicate (n - (l.length : Int)).toNat 0
theorem pad_step (l : List Int) (n : Int) (h : (l.length : Int) < n) : (l ++ [0]) ++ List.replicate (n - ((l ++ [0]).length : Int)).toNat 0 = l ++ List.replicate (n - (l.length : Int)).toNat 0 := by
  have e : (n - (l.length : Int)).toNat = (n - ((l ++ [0]).length : Int)).toNat + 1 := by rw [List.length_append]; simp; omega
  rw [e, List.replicate_succ, List.append_assoc]; rfl
theorem pad_spec_l0 (n : Int) (hn : n ≤ 64) : ∀ (k : Nat) (l : List Int), (n - (l.length : Int)).toNat < k → spec_Pad.l0 k n l = some (l ++ List.replicate (n - (l.length : Int)).toNat 0)
  | 0, _, h => by omega
  | k + 1, l, h => by
    simp only [spec_Pad.l0]
    by_cases h1 : (l.length : Int) < n
    · rw [if_pos h1, if_pos hn, if_pos (by omega), pad_spec_l0 n hn k (l ++ [0]) (by rw [List.length_append]; simp; omega), pad_step l n h1]
    · rw [if_neg h1, show (n - (l.length : Int)).toNat = 0 by omega]; simp
theorem pad_impl_l0 (n : Int) (hn : n ≤ 64) : ∀ (k : Nat) (l : List Int), (n - (l.length : Int)).toNat < k → impl_Pad.l0 k n l = some (l ++ List.replicate (n - (l.length : Int)).toNat 0)
  | 0, _, h => by omega
  | k + 1, l, h => by
    simp only [impl_Pad.l0]
    by_cases h1 : (l.length : Int) < n
    · rw [if_pos h1, if_pos (by omega), pad_impl_l0 n hn k (l ++ [0]) (by rw [List.length_append]; simp; omega), pad_step l n h1]
    · rw [if_neg h1, show (n - (l.length : Int)).toNat = 0 by omega]; simp
theorem pad_spec (k : Nat) (l : List Int) (n : Int) (hl : l.length ≤ 1048576) (hk : 65 < k) : spec_Pad.f k l n = some (padv l n) := by
  unfold spec_Pad.f padv
  simp only [Option.bind_some, List.nil_append, List.length_nil, Nat.zero_add]
  rw [if_pos (by omega)]
  by_cases h : n > 64
  · rw [if_pos h]
    obtain ⟨k, rfl⟩ : ∃ m, k = m + 1 := ⟨k - 1, by omega⟩
    simp only [spec_Pad.l0]
    by_cases h1 : (l.length : Int) < n
    · rw [if_pos h1, if_neg (by omega)]
    · rw [if_neg h1]
  · rw [if_neg h, pad_spec_l0 n (by omega) k l (by omega)]
theorem pad_impl (k : Nat) (l : List Int) (n : Int) (hl : l.length ≤ 1048576) (hk : 65 < k) : impl_Pad.f k l n = some (padv l n) := by
  unfold impl_Pad.f padv
  rw [clone_bytes l (by omega)]
  simp only [Option.bind_some]
  by_cases h : n > 64
  · rw [if_pos h, if_pos h]
  · rw [if_neg h, if_neg h, pad_impl_l0 n (by omega) k l (by omega)]
theorem padv_len (l : List Int) (n : Int) : (padv l n).length ≤ l.length + 64 ∧ l.length ≤ (padv l n).length := by
  unfold padv
  split
  · omega
  · rw [List.length_append, List.length_replicate]; omega

/-! ### putnode -/
def pe (e : S90) : List Int := putentryv e.f0 e.f1.f0 e.f1.f1 e.f1.f2 e.f1.f3
theorem pe_len (e : S90) : (pe e).length ≤ 6 := putentryv_len ..
def putnodev (b : Bool) (xs : List S90) : List Int := if nodeokv b xs = true then padv ([((xs.length : Int) + if b = true then 16 else 0)] ++ xs.flatMap pe) 25 else []
theorem putnode_spec_l0 (b : Bool) (xs : List S90) (hx : xs.length ≤ 4) (d : Nat) : ∀ (k i : Nat) (acc : List Int), acc.length ≤ 1 + 6 * i → i + d = xs.length → 66 + d < k →
    spec_PutNode.l0 k acc (i : Int) b xs = some (padv (acc ++ (xs.drop i).flatMap pe) 25) := by
  induction d with
  | zero =>
    intro k i acc ha hi hk
    obtain ⟨k, rfl⟩ : ∃ m, k = m + 1 := ⟨k - 1, by omega⟩
    simp only [spec_PutNode.l0]
    rw [if_neg (by omega), List.drop_eq_nil_of_le (by omega), pad_spec k acc 25 (by omega) (by omega)]
    simp
  | succ d ih =>
    intro k i acc ha hi hk
    obtain ⟨k, rfl⟩ : ∃ m, k = m + 1 := ⟨k - 1, by omega⟩
    have hp := pe_len (xs[i]'(by omega))
    simp only [spec_PutNode.l0]
    rw [if_pos (by omega), if_pos (by omega), rd_implEntry xs i (by omega), putentry_spec]
    simp only [Option.bind_some]
    have hs : putentryv (xs[i]'(by omega)).f0 (xs[i]'(by omega)).f1.f0 (xs[i]'(by omega)).f1.f1 (xs[i]'(by omega)).f1.f2 (xs[i]'(by omega)).f1.f3 = pe (xs[i]'(by omega)) := rfl
    rw [hs, if_pos (by omega), wr_succ (n := xs.length) (by omega) (by omega), ih k (i + 1) _ (by rw [List.length_append]; omega) (by omega) (by omega), List.drop_eq_getElem_cons (show i < xs.length by omega), List.flatMap_cons, List.append_assoc]
theorem putnode_impl_l0 (xs : List S90) (hx : xs.length ≤ 4) (d : Nat) : ∀ (k i : Nat) (acc : List Int), acc.length ≤ 1 + 6 * i → i + d = xs.length → 66 + d < k →
    impl_PutNode.l0 k acc xs (xs.length : Int) (i : Int) = some (padv (acc ++ (xs.drop i).flatMap pe) 25) := by
  induction d with
  | zero =>
    intro k i acc ha hi hk
    obtain ⟨k, rfl⟩ : ∃ m, k = m + 1 := ⟨k - 1, by omega⟩
    simp only [impl_PutNode.l0]
    rw [if_neg (by omega), List.drop_eq_nil_of_le (by omega), pad_impl k acc 25 (by omega) (by omega)]
    simp
  | succ d ih =>
    intro k i acc ha hi hk
    obtain ⟨k, rfl⟩ : ∃ m, k = m + 1 := ⟨k - 1, by omega⟩
    have hp := pe_len (xs[i]'(by omega))
    simp only [impl_PutNode.l0]
    rw [if_pos (by omega), if_pos (by omega), if_pos (by omega), rd_implEntry xs i (by omega), putentry_impl]
    simp only [Option.bind_some]
    have hs : putentryv (xs[i]'(by omega)).f0 (xs[i]'(by omega)).f1.f0 (xs[i]'(by omega)).f1.f1 (xs[i]'(by omega)).f1.f2 (xs[i]'(by omega)).f1.f3 = pe (xs[i]'(by omega)) := rfl
    rw [hs, if_pos (by omega), wr_succ (n := xs.length) (by omega) (by omega), ih k (i + 1) _ (by rw [List.length_append]; omega) (by omega) (by omega), List.drop_eq_getElem_cons (show i < xs.length by omega), List.flatMap_cons, List.append_assoc]
theorem nodeokv_len {b : Bool} {xs : List S90} (h : nodeokv b xs = true) : xs.length ≤ 4 ∧ (b = true ∨ 0 < xs.length) := by
  unfold nodeokv at h
  simp only [Bool.and_eq_true, Bool.or_eq_true, decide_eq_true_eq] at h
  exact ⟨h.2.1, h.2.2⟩
theorem putnode_spec (k : Nat) (b : Bool) (xs : List S90) (hx : xs.length ≤ 1048576) (hk : xs.length + xs.length + 100 < k) : spec_PutNode.f k b xs = some (putnodev b xs) := by
  unfold spec_PutNode.f putnodev
  rw [nodeok_spec k b xs hx (by omega)]
  simp only [Option.bind_some]
  by_cases h : nodeokv b xs = true
  · rw [if_pos h, if_pos h]
    obtain ⟨k, rfl⟩ : ∃ m, k = m + 1 := ⟨k - 1, by omega⟩
    have hl := (nodeokv_len h).1
    have hm : ∀ v : Int, v = (xs.length : Int) + (if b = true then 16 else 0) → spec_PutNode.l0 k [v % 256] 0 b xs = some (padv ([(xs.length : Int) + if b = true then 16 else 0] ++ xs.flatMap pe) 25) := by
      intro v hv
      have e : v % 256 = v := by subst hv; split <;> omega
      rw [e, hv]
      exact putnode_spec_l0 b xs hl xs.length k 0 _ (by simp) (by omega) (by omega)
    simp only [spec_PutNode.j0]
    cases b
    · rw [if_neg (by simp)]
      exact hm _ (by simp)
    · rw [if_pos rfl, wr (n := (xs.length : Int) + 16) (by omega) (by omega)]
      exact hm _ (by simp)
  · rw [if_neg h, if_neg h]
theorem putnode_impl (k : Nat) (b : Bool) (xs : List S90) (hx : xs.length ≤ 1048576) (hk : xs.length + xs.length + 100 < k) : impl_PutNode.f k b xs = some (putnodev b xs) := by
  unfold impl_PutNode.f putnodev
  rw [nodeok_impl k b xs hx (by omega)]
  simp only [Option.bind_some]
  by_cases h : nodeokv b xs = true
  · rw [if_pos h, if_pos h]
    obtain ⟨k, rfl⟩ : ∃ m, k = m + 1 := ⟨k - 1, by omega⟩
    have hl := (nodeokv_len h).1
    have hm : ∀ v : Int, v = (xs.length : Int) + (if b = true then 16 else 0) → impl_PutNode.l0 k [v % 256] xs (xs.length : Int) 0 = some (padv ([(xs.length : Int) + if b = true then 16 else 0] ++ xs.flatMap pe) 25) := by
      intro v hv
      have e : v % 256 = v := by subst hv; split <;> omega
      rw [e, hv]
      exact putnode_impl_l0 xs hl xs.length k 0 _ (by simp) (by omega) (by omega)
    simp only [impl_PutNode.j0]
    cases b
    · rw [if_neg (by simp)]
      exact hm _ (by simp)
    · rw [if_pos rfl, wr (n := (xs.length : Int) + 16) (by omega) (by omega)]
      exact hm _ (by simp)
  · rw [if_neg h, if_neg h]
theorem flatMap_pe_len : ∀ xs : List S90, (xs.flatMap pe).length ≤ 6 * xs.length
  | [] => by simp
  | x :: r => by
    have h1 := pe_len x
    have h2 := flatMap_pe_len r
    rw [List.flatMap_cons, List.length_append, List.length_cons]; omega
theorem putnodev_len (b : Bool) (xs : List S90) : (putnodev b xs).length ≤ 100 := by
  unfold putnodev
  split
  · rename_i h
    have h1 := (nodeokv_len h).1
    have h2 := flatMap_pe_len xs
    have h3 := padv_len ([((xs.length : Int) + if b = true then 16 else 0)] ++ xs.flatMap pe) 25
    rw [List.length_append] at h3
    simp only [List.length_cons, List.length_nil] at h3
    omega
  · simp

/-! ### eq1Box -/
theorem eqBox_self (a b c d : Int) : laws_eqBox.f a b c d a b c d = some true := by simp [laws_eqBox.f]

/-! ### eq1Entry -/
theorem eqEntry_self (n a b c d : Int) : laws_eqEntry.f n a b c d n a b c d = some true := by simp [laws_eqEntry.f, eqBox_self]

/-! ### eq:Entry -/
theorem eqEntryS_l0 (xs : List S90) (hx : xs.length ≤ 140737488355328) (d : Nat) : ∀ (k i : Nat), i + d = xs.length → d < k → laws_eqEntryS.l0 k xs xs (i : Int) = some true := by
  induction d with
  | zero =>
    intro k i hi hk
    obtain ⟨k, rfl⟩ : ∃ m, k = m + 1 := ⟨k - 1, by omega⟩
    simp only [laws_eqEntryS.l0]
    rw [if_neg (by omega)]
  | succ d ih =>
    intro k i hi hk
    obtain ⟨k, rfl⟩ : ∃ m, k = m + 1 := ⟨k - 1, by omega⟩
    simp only [laws_eqEntryS.l0]
    rw [if_pos (by omega), if_pos (by omega), if_pos (by omega), eqEntry_self]
    simp only [Option.bind_some, if_true]
    rw [wr_succ (n := xs.length) (by omega) hx]
    exact ih k (i + 1) (by omega) (by omega)
theorem eqEntryS_same (k : Nat) (xs : List S90) (hx : xs.length ≤ 140737488355328) (hk : xs.length < k) : laws_eqEntryS.f k xs xs = some true := by
  unfold laws_eqEntryS.f
  rw [if_pos rfl]
  exact eqEntryS_l0 xs hx xs.length k 0 (by omega) hk

/-! ### eqNode -/
theorem eqNode_same (k : Nat) (b : Bool) (xs : List S90) (hx : xs.length ≤ 140737488355328) (hk : xs.length < k) : laws_eqNode.f k b xs b xs = some true := by
  unfold laws_eqNode.f
  rw [eqEntryS_same k xs hx hk]; simp

/-! ### rdL:Entry -/
theorem rd_lawsEntry (xs : List S131) (i : Nat) (h : i < xs.length) : rd_T131 xs (i : Int) = xs[i] := by
  unfold rd_T131; rw [Int.toNat_natCast, List.getD_eq_getElem?_getD, List.getElem?_eq_getElem h]; rfl

/-! ### box -/
theorem toBox_some (a b c d : Int) : laws_toBox.f a b c d = some (a, b, c, d) := rfl

/-! ### entry -/
theorem toEntry_some (n a b c d : Int) : laws_toEntry.f n a b c d = some (n, a, b, c, d) := rfl

/-! ### convEntry -/
def convEntry (x : S131) : S90 := ⟨x.f0, ⟨x.f1.f0, x.f1.f1, x.f1.f2, x.f1.f3⟩⟩

/-! ### to:Entry -/
theorem toEntryS_l0 (xs : List S131) (hx : xs.length ≤ 1048576) (d : Nat) : ∀ (k i : Nat) (ys : List S90), ys.length = xs.length → i + d = xs.length → ys.take i = (xs.take i).map convEntry → d < k →
    laws_toEntryS.l0 k xs ys (i : Int) = some (xs.map convEntry) := by
  induction d with
  | zero =>
    intro k i ys hl hi hy hk
    obtain ⟨k, rfl⟩ : ∃ m, k = m + 1 := ⟨k - 1, by omega⟩
    simp only [laws_toEntryS.l0]
    rw [if_neg (by omega), filled convEntry xs ys hl i (by omega) hy]
  | succ d ih =>
    intro k i ys hl hi hy hk
    obtain ⟨k, rfl⟩ : ∃ m, k = m + 1 := ⟨k - 1, by omega⟩
    simp only [laws_toEntryS.l0]
    rw [if_pos (by omega), if_pos (by omega), rd_lawsEntry xs i (by omega), toEntry_some]
    simp only [Option.bind_some]
    rw [if_pos (by omega), Int.toNat_natCast, wr_succ (n := xs.length) (by omega) (by omega)]
    exact ih k (i + 1) _ (by rw [List.length_set]; exact hl) (by omega) (fill_take convEntry xs ys i hl (by omega) hy) (by omega)
theorem toEntryS_some (k : Nat) (xs : List S131) (hx : xs.length ≤ 1048576) (hk : xs.length < k) : laws_toEntryS.f k xs = some (xs.map convEntry) := by
  unfold laws_toEntryS.f
  rw [if_pos (by omega), if_pos (by omega)]
  exact toEntryS_l0 xs hx xs.length k 0 _ (by simp) (by omega) (by simp) hk

/-! ### toNode -/
theorem toNode_some (k : Nat) (b : Bool) (xs : List S131) (hx : xs.length ≤ 1048576) (hk : xs.length < k) : laws_toNode.f k b xs = some (b, xs.map convEntry) := by
  unfold laws_toNode.f
  rw [toEntryS_some k xs hx hk]; rfl

/-! ### sz:Entry -/
theorem szEntryS_some (l : List S131) (a : Int) (hl : l.length ≤ maxLen) (h0 : 0 ≤ a) (h1 : a ≤ 1048576) : laws_szEntryS.f l a = some (if a - (l.length : Int) < 0 then -1 else a - (l.length : Int)) := by
  unfold maxLen at hl
  unfold laws_szEntryS.f
  rw [wr (n := a - (l.length : Int)) (by omega) (by omega)]
  split <;> rfl

/-! ### szNode -/
theorem szNode_some (b : Bool) (l : List S131) (a : Int) (hl : l.length ≤ maxLen) (h0 : 0 ≤ a) (h1 : a ≤ 1048576) : laws_szNode.f b l a = some (if a - (l.length : Int) < 0 then -1 else a - (l.length : Int)) := by
  unfold laws_szNode.f
  rw [szEntryS_some l a hl h0 h1]
  simp only [Option.bind_some]
  by_cases h : a - (l.length : Int) < 0
  · rw [if_pos h]; rfl
  · rw [if_neg h, if_neg h]

/-! ### node -/


/-! ### eqB -/
theorem eqByteS_l0 (xs : List Int) (hx : xs.length ≤ 140737488355328) (d : Nat) : ∀ (k i : Nat), i + d = xs.length → d < k → laws_eqByteS.l0 k xs xs (i : Int) = some true := by
  induction d with
  | zero =>
    intro k i hi hk
    obtain ⟨k, rfl⟩ : ∃ m, k = m + 1 := ⟨k - 1, by omega⟩
    simp only [laws_eqByteS.l0]
    rw [if_neg (by omega)]
  | succ d ih =>
    intro k i hi hk
    obtain ⟨k, rfl⟩ : ∃ m, k = m + 1 := ⟨k - 1, by omega⟩
    simp only [laws_eqByteS.l0]
    rw [if_pos (by omega), if_pos (by omega), if_pos (by omega), wr_succ (n := xs.length) (by omega) hx]
    simp only [if_true]
    exact ih k (i + 1) (by omega) (by omega)
theorem eqByteS_same (k : Nat) (xs : List Int) (hx : xs.length ≤ 140737488355328) (hk : xs.length < k) : laws_eqByteS.f k xs xs = some true := by
  unfold laws_eqByteS.f
  rw [if_pos rfl]
  exact eqByteS_l0 xs hx xs.length k 0 (by omega) hk

/-! ### marks -/
theorem set_take {α : Type} (f : Nat → α) (ys : List α) (i n : Nat) (hl : ys.length = n) (hi : i < n) (h : ys.take i = (List.range i).map f) : (ys.set i (f i)).take (i + 1) = (List.range (i + 1)).map f := by
  rw [List.take_succ_eq_append_getElem (by rw [List.length_set]; omega), List.getElem_set_self, List.take_set_of_le (Nat.le_refl i), h, List.range_succ, List.map_append]; rfl
theorem take_all {α : Type} (f : Nat → α) (ys : List α) (i n : Nat) (hl : ys.length = n) (hi : i = n) (h : ys.take i = (List.range i).map f) : ys = (List.range n).map f := by
  subst hi; rw [List.take_of_length_le (by omega)] at h; exact h

/-! ### markB -/
def mkB (j : Nat) : Int := ((j : Int) + 1) % 256
theorem markByteS_l0 (n : Nat) (hn : n ≤ 140737488355328) (d : Nat) : ∀ (k i : Nat) (ys : List Int), ys.length = n → i + d = n → ys.take i = (List.range i).map mkB → d < k →
    laws_markByteS.l0 k ys ((i : Int) + 1) (i : Int) = some ((n : Int) + 1, (List.range n).map mkB) := by
  induction d with
  | zero =>
    intro k i ys hl hi hy hk
    obtain ⟨k, rfl⟩ : ∃ m, k = m + 1 := ⟨k - 1, by omega⟩
    simp only [laws_markByteS.l0]
    rw [if_neg (by omega), take_all mkB ys i n hl (by omega) hy]
    congr 2; omega
  | succ d ih =>
    intro k i ys hl hi hy hk
    obtain ⟨k, rfl⟩ : ∃ m, k = m + 1 := ⟨k - 1, by omega⟩
    simp only [laws_markByteS.l0]
    rw [if_pos (by omega), if_pos (by omega), Int.toNat_natCast, wr (n := (i : Int) + 1 + 1) (by omega) (by omega), wr_succ (n := n) (by omega) hn]
    have := ih k (i + 1) (ys.set i (mkB i)) (by rw [List.length_set]; exact hl) (by omega) (set_take mkB ys i n hl (by omega) hy) (by omega)
    rw [← this, Int.natCast_succ]; rfl
theorem markByteS_some (k : Nat) (xs : List Int) (hn : xs.length ≤ 140737488355328) (hk : xs.length < k) : laws_markByteS.f k xs 1 = some ((xs.length : Int) + 1, (List.range xs.length).map mkB) := by
  unfold laws_markByteS.f
  exact markByteS_l0 xs.length hn xs.length k 0 xs rfl (by omega) (by simp) hk

/-! ### heldB -/
theorem heldByteS_l0 (n : Nat) (hn : n ≤ 140737488355328) (d : Nat) : ∀ (k i : Nat), i + d = n → d < k →
    laws_heldByteS.l0 k ((List.range n).map mkB) ((i : Int) + 1) (i : Int) = some ((n : Int) + 1) := by
  have hl : ((List.range n).map mkB).length = n := by simp
  induction d with
  | zero =>
    intro k i hi hk
    obtain ⟨k, rfl⟩ : ∃ m, k = m + 1 := ⟨k - 1, by omega⟩
    simp only [laws_heldByteS.l0]
    rw [if_neg (by omega)]
    congr 1; omega
  | succ d ih =>
    intro k i hi hk
    obtain ⟨k, rfl⟩ : ∃ m, k = m + 1 := ⟨k - 1, by omega⟩
    simp only [laws_heldByteS.l0]
    have hr : rd ((List.range n).map mkB) (i : Int) = ((i : Int) + 1) % 256 := by
      rw [rd_nat _ i (by omega)]; simp [mkB]
    rw [if_pos (by omega), if_pos (by omega), hr, if_pos rfl, wr (n := (i : Int) + 1 + 1) (by omega) (by omega), wr_succ (n := n) (by omega) hn]
    have := ih k (i + 1) (by omega) (by omega)
    rw [← this, Int.natCast_succ]
theorem heldByteS_some (k n : Nat) (hn : n ≤ 140737488355328) (hk : n < k) : laws_heldByteS.f k ((List.range n).map mkB) 1 = some ((n : Int) + 1) := by
  unfold laws_heldByteS.f
  exact heldByteS_l0 n hn n k 0 (by omega) hk

/-! ### mark:Entry -/
def mkEntry (s : Int) (j : Nat) : S90 := ⟨s + 5 * (j : Int), ⟨s + 5 * (j : Int) + 1, s + 5 * (j : Int) + 1 + 1, s + 5 * (j : Int) + 1 + 1 + 1, s + 5 * (j : Int) + 1 + 1 + 1 + 1⟩⟩
theorem rd_setEntry (ys : List S90) (i : Nat) (v : S90) (h : i < ys.length) : rd_T90 (ys.set i v) (i : Int) = v := by
  rw [rd_implEntry _ i (by rw [List.length_set]; exact h), List.getElem_set_self]
theorem markEntryS_l0 (n : Nat) (s : Int) (hn : n ≤ 1048576) (h0 : 0 ≤ s) (h1 : s ≤ 140737488355328) (d : Nat) : ∀ (k i : Nat) (ys : List S90), ys.length = n → i + d = n → ys.take i = (List.range i).map (mkEntry s) → d < k →
    laws_markEntryS.l0 k ys (s + 5 * (i : Int)) (i : Int) = some (s + 5 * (n : Int), (List.range n).map (mkEntry s)) := by
  induction d with
  | zero =>
    intro k i ys hl hi hy hk
    obtain ⟨k, rfl⟩ : ∃ m, k = m + 1 := ⟨k - 1, by omega⟩
    simp only [laws_markEntryS.l0]
    rw [if_neg (by omega), take_all (mkEntry s) ys i n hl (by omega) hy]
    congr 2; omega
  | succ d ih =>
    intro k i ys hl hi hy hk
    obtain ⟨k, rfl⟩ : ∃ m, k = m + 1 := ⟨k - 1, by omega⟩
    simp only [laws_markEntryS.l0]
    rw [if_pos (by omega), if_pos (by omega)]
    simp only [Option.bind_some, Int.toNat_natCast]
    rw [wr (n := s + 5 * (i : Int) + 1) (by omega) (by omega), wr (n := s + 5 * (i : Int) + 1 + 1) (by omega) (by omega), wr (n := s + 5 * (i : Int) + 1 + 1 + 1) (by omega) (by omega), wr (n := s + 5 * (i : Int) + 1 + 1 + 1 + 1) (by omega) (by omega), wr (n := s + 5 * (i : Int) + 1 + 1 + 1 + 1 + 1) (by omega) (by omega), wr_succ (n := n) (by omega) (by omega)]
    have hi2 : i < ys.length := by omega
    rw [rd_setEntry ys i _ hi2]
    simp only [List.set_set, rd_setEntry ys i _ hi2]
    have := ih k (i + 1) (ys.set i (mkEntry s i)) (by rw [List.length_set]; exact hl) (by omega) (set_take (mkEntry s) ys i n hl (by omega) hy) (by omega)
    rw [← this, show s + 5 * (i : Int) + 1 + 1 + 1 + 1 + 1 = s + 5 * ((i + 1 : Nat) : Int) by omega]; rfl
theorem markEntryS_some (k : Nat) (xs : List S90) (s : Int) (hn : xs.length ≤ 1048576) (h0 : 0 ≤ s) (h1 : s ≤ 140737488355328) (hk : xs.length < k) : laws_markEntryS.f k xs s = some (s + 5 * (xs.length : Int), (List.range xs.length).map (mkEntry s)) := by
  unfold laws_markEntryS.f
  have := markEntryS_l0 xs.length s hn h0 h1 xs.length k 0 xs rfl (by omega) (by simp) hk
  rw [← this]; congr 1; omega

/-! ### markNode -/
theorem markNode_some (k : Nat) (b : Bool) (xs : List S90) (s : Int) (hn : xs.length ≤ 1048576) (h0 : 0 ≤ s) (h1 : s ≤ 140737488355328) (hk : xs.length < k) : laws_markNode.f k b xs s = some (s + 5 * (xs.length : Int), (List.range xs.length).map (mkEntry s)) := by
  unfold laws_markNode.f
  rw [markEntryS_some k xs s hn h0 h1 hk]; rfl

theorem pure_law (b : Bool) (l : List S131) (hm : l.length ≤ maxLen) : ∃ k, laws_FnExactPutNode.f k b l = some true := by
  refine ⟨l.length + l.length + 200, ?_⟩
  unfold laws_FnExactPutNode.f
  rw [szNode_some b l _ hm (by omega) (by omega)]
  simp only [Option.bind_some]
  by_cases h : (1048576 : Int) - (l.length : Int) < 0
  · rw [if_pos h]; rfl
  · rw [if_neg h, if_neg h]
    have hl : (l.map convEntry).length = l.length := List.length_map ..
    have hp := putnodev_len b (l.map convEntry)
    rw [toNode_some (l.length + l.length + 200) b l (by omega) (by omega)]
    simp only [Option.bind_some]
    rw [putnode_spec (l.length + l.length + 200) b _ (by omega) (by omega), putnode_impl (l.length + l.length + 200) b _ (by omega) (by omega)]
    simp only [Option.bind_some]
    rw [eqByteS_same (l.length + l.length + 200) _ (by omega) (by omega)]
    simp only [Option.bind_some, if_true]
    rw [eqNode_same (l.length + l.length + 200) _ _ (by omega) (by omega)]
    simp only [Option.bind_some, if_true]
    rw [markNode_some (l.length + l.length + 200) _ _ 1 (by omega) (by omega) (by omega) (by omega)]
    simp only [Option.bind_some]
    rw [if_neg (by omega)]
    simp only [laws_FnExactPutNode.j0, Bool.not_true]
    rw [if_neg (by simp), markByteS_some (l.length + l.length + 199) _ (by omega) (by omega)]
    simp only [Option.bind_some]
    rw [heldByteS_some (l.length + l.length + 199) _ (by omega) (by omega)]
    simp only [Option.bind_some]
    rw [if_neg (by omega), if_pos trivial, toNode_some (l.length + l.length + 199) b l (by omega) (by omega)]
    simp only [Option.bind_some]
    rw [putnode_impl (l.length + l.length + 199) b _ (by omega) (by omega)]
    simp only [Option.bind_some]
    rw [eqByteS_same (l.length + l.length + 199) _ (by omega) (by omega)]
    simp only [Option.bind_some, if_true]
    rw [if_neg (by omega)]
end Go.Proofs.Ytjmgomailgplcaa.PureFnExactPutNode
