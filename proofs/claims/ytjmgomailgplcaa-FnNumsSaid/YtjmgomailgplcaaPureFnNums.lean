/- The pure statement of FnNums: numbers of two bytes come back of their bytes, and what is padded begins as it was, for all codes; condition: the list's length is a length. -/
import Derived.Test.YtjmgomailgplcaaPFnNumsx3
import Derived.OpenShut
import Derived.Laws.BitsLemmas
namespace Go.Proofs.Ytjmgomailgplcaa.PureFnNums
open Go.RowKit Go.Proofs.Ytjmgomailgplcaa.PFnNums Go.Proofs.YtjmgomailgplcaaW.PrintWords Go.Proofs.YtjmgomailgplcaaW.PrintLast Go.Proofs.YtjmgomailgplcaaW.PrintMore
set_option linter.unusedVariables false
set_option linter.unusedSimpArgs false

/-! ### wrap -/
theorem wr {n : Int} (h0 : -9223372036854775808 ≤ n) (h1 : n ≤ 9223372036854775807) : wrap64 n = n := by
  unfold wrap64; omega
theorem wf64 {n : Int} (h : (Lit.int .i64 n).wf = true) : -9223372036854775808 ≤ n ∧ n ≤ 9223372036854775807 := bounds_i64 h

/-! ### basic -/
theorem rd_nat (xs : List Int) (i : Nat) (h : i < xs.length) : rd xs (i : Int) = xs[i] := by
  unfold rd; rw [Int.toNat_natCast, List.getD_eq_getElem?_getD, List.getElem?_eq_getElem h]; rfl
theorem fill_take {α β : Type} (conv : α → β) (xs : List α) (ys : List β) (i : Nat) (hl : ys.length = xs.length) (hi : i < xs.length) (h : ys.take i = (xs.take i).map conv) :
    (ys.set i (conv xs[i])).take (i + 1) = (xs.take (i + 1)).map conv := by
  rw [List.take_succ_eq_append_getElem (by rw [List.length_set]; omega), List.take_succ_eq_append_getElem hi, List.getElem_set_self, List.map_append, List.take_set_of_le (Nat.le_refl i), h]; rfl
theorem wr_succ {i n : Nat} (h : i < n) (hn : n ≤ 140737488355328) : wrap64 ((i : Int) + 1) = ((i + 1 : Nat) : Int) := by
  rw [wr (by omega) (by omega)]; omega
theorem byte_bounds {xs : List Int} (h : ∀ x ∈ xs, (Lit.int .u8 x).wf = true) (i : Int) : 0 ≤ rd xs i ∧ rd xs i ≤ 255 := by
  unfold rd
  rw [List.getD_eq_getElem?_getD]
  exact range_u8 h _

/-! ### draw -/
theorem and255 (x : Int) : 0 ≤ Go.bits .and .i64 x 255 ∧ Go.bits .and .i64 x 255 ≤ 255 := by
  have h : (BitVec.ofInt IntKind.i64.bits x &&& BitVec.ofInt IntKind.i64.bits 255).toNat ≤ 255 := by
    rw [BitVec.toNat_and]
    exact Nat.le_trans Nat.and_le_right (by decide)
  have e : Go.bits .and .i64 x 255 = IntKind.i64.wrap ((BitVec.ofInt IntKind.i64.bits x &&& BitVec.ofInt IntKind.i64.bits 255).toNat : Int) := rfl
  rw [e, IntKind.wrap_i64]; omega
/-- A drawn value: it is there, meets P, and the cursor stays in the bytes. -/
def DOk {α : Type} (b : List Int) (P : α → Prop) (o : Option (α × Int × Int)) : Prop := ∃ x i h, o = some (x, i, h) ∧ P x ∧ 0 ≤ i ∧ i ≤ (b.length : Int)
theorem l1Byte_ok (b : List Int) (i h : Int) (hb : b.length ≤ 1048576) (h0 : 0 ≤ i) (h1 : i ≤ (b.length : Int)) : DOk b (fun x => 0 ≤ x ∧ x ≤ 255) (spec_l1Byte.f b i h) := by
  unfold spec_l1Byte.f DOk
  by_cases c : i < (b.length : Int)
  · rw [if_pos c, if_pos h0]
    exact ⟨_, _, _, rfl, and255 _, by rw [wr (by omega) (by omega)]; omega, by rw [wr (by omega) (by omega)]; omega⟩
  · rw [if_neg c]
    exact ⟨_, _, _, rfl, and255 _, h0, h1⟩
theorem l1Below_ok (b : List Int) (i h n : Int) (hb : b.length ≤ 1048576) (h0 : 0 ≤ i) (h1 : i ≤ (b.length : Int)) (hn : 0 < n) : DOk b (fun x => 0 ≤ x ∧ x < n) (spec_l1Below.f b i h n) := by
  unfold spec_l1Below.f
  rw [if_neg (by omega)]
  by_cases c : n ≤ 256
  · rw [if_pos c]
    obtain ⟨x, i1, g1, e1, hx, a1, b1⟩ := l1Byte_ok b i h hb h0 h1
    rw [e1]
    simp only [Option.bind_some]
    rw [if_neg (by omega), Int.tmod_eq_emod_of_nonneg (by omega)]
    exact ⟨_, _, _, rfl, ⟨Int.emod_nonneg _ (by omega), Int.emod_lt_of_pos _ hn⟩, a1, b1⟩
  · rw [if_neg c]
    obtain ⟨x, i1, g1, e1, hx, a1, b1⟩ := l1Byte_ok b i h hb h0 h1
    rw [e1]
    simp only [Option.bind_some]
    obtain ⟨y, i2, g2, e2, hy, a2, b2⟩ := l1Byte_ok b i1 g1 hb a1 b1
    rw [e2]
    simp only [Option.bind_some]
    obtain ⟨z, i3, g3, e3, hz, a3, b3⟩ := l1Byte_ok b i2 g2 hb a2 b2
    rw [e3]
    simp only [Option.bind_some]
    rw [if_neg (by omega), wr (n := x * 65536) (by omega) (by omega), wr (n := y * 256) (by omega) (by omega), wr (n := x * 65536 + y * 256) (by omega) (by omega), wr (n := x * 65536 + y * 256 + z) (by omega) (by omega), Int.tmod_eq_emod_of_nonneg (by omega)]
    exact ⟨_, _, _, rfl, ⟨Int.emod_nonneg _ (by omega), Int.emod_lt_of_pos _ hn⟩, a3, b3⟩
theorem l1New_l0 (b : List Int) (hb : b.length ≤ 1048576) (d : Nat) : ∀ (k i : Nat) (h : Int), i + d = b.length → d < k → ∃ g, spec_l1New.l0 k b h (i : Int) = some (b, 0, g) := by
  induction d with
  | zero =>
    intro k i h hi hk
    obtain ⟨k, rfl⟩ : ∃ m, k = m + 1 := ⟨k - 1, by omega⟩
    simp only [spec_l1New.l0]
    rw [if_neg (by omega)]
    exact ⟨_, rfl⟩
  | succ d ih =>
    intro k i h hi hk
    obtain ⟨k, rfl⟩ : ∃ m, k = m + 1 := ⟨k - 1, by omega⟩
    simp only [spec_l1New.l0]
    rw [if_pos (by omega)]
    split
    · rw [if_pos (by omega), wr_succ (n := b.length) (by omega) (by omega)]
      exact ih k (i + 1) _ (by omega) (by omega)
    · exact ⟨_, rfl⟩
theorem l1New_ok (k : Nat) (b : List Int) (hb : b.length ≤ 1048576) (hk : b.length < k) : ∃ g, spec_l1New.f k b = some (b, 0, g) := by
  unfold spec_l1New.f
  exact l1New_l0 b hb b.length k 0 _ (by omega) hk
theorem big_val (b : List Int) : laws_big.f b = some (decide ((b.length : Int) > 1048576)) := rfl

/-! ### drawBytes -/
theorem l1Bytes_l0 (b : List Int) (hb : b.length ≤ 1048576) (n : Nat) (hn : n ≤ 1000) (d : Nat) : ∀ (k j : Nat) (acc : List Int) (i h : Int), j + d = n → acc.length = j → (∀ x ∈ acc, 0 ≤ x ∧ x ≤ 255) → 0 ≤ i → i ≤ (b.length : Int) → d < k →
    DOk b (fun x : List Int => x.length = n ∧ ∀ y ∈ x, 0 ≤ y ∧ y ≤ 255) (spec_l1Bytes.l0 k (n : Int) acc (j : Int) b i h) := by
  induction d with
  | zero =>
    intro k j acc i h hj ha hx h0 h1 hk
    obtain ⟨k, rfl⟩ : ∃ m, k = m + 1 := ⟨k - 1, by omega⟩
    simp only [spec_l1Bytes.l0]
    rw [if_neg (by omega)]
    exact ⟨_, _, _, rfl, ⟨by omega, hx⟩, h0, h1⟩
  | succ d ih =>
    intro k j acc i h hj ha hx h0 h1 hk
    obtain ⟨k, rfl⟩ : ∃ m, k = m + 1 := ⟨k - 1, by omega⟩
    simp only [spec_l1Bytes.l0]
    obtain ⟨x, i1, g1, e1, hx1, a1, b1⟩ := l1Byte_ok b i h hb h0 h1
    rw [if_pos (by omega), e1]
    simp only [Option.bind_some]
    rw [if_pos (by omega), wr_succ (n := n) (by omega) (by omega)]
    refine ih k (j + 1) _ i1 g1 (by omega) (by rw [List.length_append]; simp; omega) ?_ a1 b1 (by omega)
    intro y hy
    rw [List.mem_append] at hy
    rcases hy with hy | hy
    · exact hx y hy
    · simp only [List.mem_cons, List.not_mem_nil, or_false] at hy
      subst hy; omega
theorem l1Bytes_ok (k : Nat) (b : List Int) (i h n : Int) (hb : b.length ≤ 1048576) (h0 : 0 ≤ i) (h1 : i ≤ (b.length : Int)) (n0 : 0 ≤ n) (n1 : n ≤ 1000) (hk : 1000 < k) :
    DOk b (fun x : List Int => (x.length : Int) = n ∧ ∀ y ∈ x, 0 ≤ y ∧ y ≤ 255) (spec_l1Bytes.f k b i h n) := by
  unfold spec_l1Bytes.f
  obtain ⟨m, rfl⟩ := Int.eq_ofNat_of_zero_le n0
  obtain ⟨x, i1, g1, e1, hx, a1, b1⟩ := l1Bytes_l0 b hb m (by omega) m k 0 [] i h (by omega) rfl (by simp) h0 h1 (by omega)
  exact ⟨x, i1, g1, e1, ⟨by omega, hx.2⟩, a1, b1⟩

/-! ### drawOnce -/
theorem l1Once_ok (b : List Int) (i h n : Int) (hb : b.length ≤ 1048576) (h0 : 0 ≤ i) (h1 : i ≤ (b.length : Int)) (hn : 0 < n) : DOk b (fun _ : Bool => True) (spec_l1Once.f b i h n) := by
  unfold spec_l1Once.f
  obtain ⟨x, i1, g1, e1, hx, a1, b1⟩ := l1Below_ok b i h n hb h0 h1 hn
  rw [e1]
  exact ⟨_, _, _, rfl, trivial, a1, b1⟩

/-! ### drawInt -/
theorem rd_mem (l : List Int) (x : Int) (h0 : 0 ≤ x) (h1 : x < (l.length : Int)) : rd l x ∈ l := by
  obtain ⟨n, rfl⟩ := Int.eq_ofNat_of_zero_le h0
  rw [rd_nat l n (by omega)]
  exact List.getElem_mem _
theorem l1Int_ok (b l : List Int) (i h : Int) (hb : b.length ≤ 1048576) (h0 : 0 ≤ i) (h1 : i ≤ (b.length : Int)) (hl : 0 < l.length) : DOk b (fun x => x ∈ l) (spec_l1Int.f b i h l) := by
  unfold spec_l1Int.f
  obtain ⟨x, i1, g1, e1, hx, a1, b1⟩ := l1Below_ok b i h (l.length : Int) hb h0 h1 (by omega)
  rw [e1]
  simp only [Option.bind_some]
  rw [if_pos hx.1, if_pos hx.2]
  exact ⟨_, _, _, rfl, rd_mem l x hx.1 hx.2, a1, b1⟩

/-! ### drawRaw -/
theorem l1Odd_ok (b : List Int) (i h : Int) (hb : b.length ≤ 1048576) (h0 : 0 ≤ i) (h1 : i ≤ (b.length : Int)) : DOk b (fun x => (Lit.int .i64 x).wf = true) (spec_l1Odd.f b i h) := by
  unfold spec_l1Odd.f
  obtain ⟨x, i1, g1, e1, hx, a1, b1⟩ := l1Int_ok b [(-1), 0, 1, 2, 255, 256, 65535, 2147483647, 2147483648, 4294967295, 4294967296, (-2147483648), 9223372036854775807, (-9223372036854775808)] i h hb h0 h1 (by simp)
  rw [e1]
  have hz : (Lit.int .i64 x).wf = true := by
    simp only [List.mem_cons, List.not_mem_nil, or_false] at hx
    rcases hx with rfl | rfl | rfl | rfl | rfl | rfl | rfl | rfl | rfl | rfl | rfl | rfl | rfl | rfl <;> decide
  exact ⟨_, _, _, rfl, hz, a1, b1⟩
theorem l1Raw_ok (b : List Int) (i h : Int) (hb : b.length ≤ 1048576) (h0 : 0 ≤ i) (h1 : i ≤ (b.length : Int)) : DOk b (fun x => (Lit.int .i64 x).wf = true) (spec_l1Raw.f b i h) := by
  unfold spec_l1Raw.f
  obtain ⟨x, i1, g1, e1, hx, a1, b1⟩ := l1Once_ok b i h 2 hb h0 h1 (by omega)
  rw [e1]
  simp only [Option.bind_some]
  cases x
  · rw [if_neg (by simp)]
    obtain ⟨y, i2, g2, e2, hy, a2, b2⟩ := l1Int_ok b [(-1), 0, 1, 4, 255, 256, 65535, 65536] i1 g1 hb a1 b1 (by simp)
    rw [e2]
    have hz : (Lit.int .i64 y).wf = true := by
      simp only [List.mem_cons, List.not_mem_nil, or_false] at hy
      rcases hy with rfl | rfl | rfl | rfl | rfl | rfl | rfl | rfl <;> decide
    exact ⟨_, _, _, rfl, hz, a2, b2⟩
  · rw [if_pos rfl]
    obtain ⟨y, i2, g2, e2, hy, a2, b2⟩ := l1Odd_ok b i1 g1 hb a1 b1
    rw [e2]
    exact ⟨_, _, _, rfl, hy, a2, b2⟩

/-! ### clone -/
theorem clone_bytes (l : List Int) (h : l.length < 140737488355328) : slices_Clone_byte_byte.f l = some l := by
  unfold slices_Clone_byte_byte.f
  simp only [Option.bind_some, List.nil_append, List.length_nil, Nat.zero_add]
  rw [if_pos h]

/-! ### inn -/
theorem l1In_val (x a b : Int) : spec_l1In.f x a b = some (decide (a ≤ x ∧ x ≤ b)) := by
  unfold spec_l1In.f
  by_cases h : x ≥ a
  · rw [if_pos h]; simp [show a ≤ x from h]
  · rw [if_neg h]; simp [show ¬ a ≤ x from h]
theorem in_val (x a b : Int) : impl_in.f x a b = some (decide (a ≤ x ∧ x ≤ b)) := by
  unfold impl_in.f
  by_cases h : a ≤ x
  · rw [if_pos h]; simp [h]
  · rw [if_neg h]; simp [h]

/-! ### put2 -/
def put2v (l : List Int) (n : Int) : List Int := if 0 ≤ n ∧ n ≤ 65535 then l ++ [n / 256, n % 256] else l
theorem put2_spec (l : List Int) (n : Int) (hl : l.length ≤ 1048576) : spec_Put2.f l n = some (put2v l n) := by
  unfold spec_Put2.f put2v
  simp only [Option.bind_some, List.nil_append, List.length_nil, Nat.zero_add, l1In_val, decide_eq_true_eq]
  rw [if_pos (by omega)]
  by_cases h : 0 ≤ n ∧ n ≤ 65535
  · have e1 : (wrap64 (Int.tdiv n 256)) % 256 = n / 256 := by
      rw [Int.tdiv_eq_ediv_of_nonneg (by omega), wr (by omega) (by omega)]; omega
    have e2 : (Int.tmod n 256) % 256 = n % 256 := by rw [Int.tmod_eq_emod_of_nonneg (by omega)]; omega
    rw [if_pos h, if_pos h, e1, e2, if_pos (by simp; omega)]
  · rw [if_neg h, if_neg h]
theorem put2_impl (l : List Int) (n : Int) (hl : l.length ≤ 1048576) : impl_Put2.f l n = some (put2v l n) := by
  unfold impl_Put2.f put2v
  rw [clone_bytes l (by omega)]
  simp only [Option.bind_some, in_val, decide_eq_true_eq]
  by_cases h : 0 ≤ n ∧ n ≤ 65535
  · have e1 : (n / 256) % 256 = n / 256 := by omega
    rw [if_pos h, if_pos h, e1, if_pos (by simp; omega)]
  · rw [if_neg h, if_neg h]
theorem put2v_len (l : List Int) (n : Int) : (put2v l n).length ≤ l.length + 2 ∧ l.length ≤ (put2v l n).length := by
  unfold put2v
  split
  · rw [List.length_append]; simp
  · omega

/-! ### get2 -/
theorem or_bytes (a b : Int) (ha : 0 ≤ a ∧ a ≤ 255) (hb : 0 ≤ b ∧ b ≤ 255) : Go.bits .or .i64 (a * 256) b = 256 * a + b := by
  rw [bits_join .i64 16 (by decide) (fun n h0 h1 => by rw [IntKind.wrap_i64]; omega) 8 (a * 256) b (by omega) (by omega) (by omega) (by omega) (by omega) (by omega)]
  omega
def get2v (l : List Int) (i : Int) : Int × Bool := if i < 0 then (0, false) else if i > (l.length : Int) - 2 then (0, false) else (256 * rd l i + rd l (i + 1), true)
theorem get2_spec (l : List Int) (i : Int) (hl : l.length ≤ 140737488355328) (hb : ∀ x ∈ l, (Lit.int .u8 x).wf = true) (hi : (Lit.int .i64 i).wf = true) : spec_Get2.f l i = some (get2v l i) := by
  have hi := wf64 hi
  unfold spec_Get2.f get2v
  by_cases h1 : i < 0
  · rw [if_pos h1, if_pos h1]
  · rw [if_neg h1, if_neg h1, wr (n := (l.length : Int) - 2) (by omega) (by omega)]
    by_cases h2 : i > (l.length : Int) - 2
    · rw [if_pos h2, if_pos h2]
    · have b0 := byte_bounds hb i
      have b1 := byte_bounds hb (i + 1)
      rw [if_neg h2, if_neg h2, if_pos (by omega), if_pos (by omega), wr (n := i + 1) (by omega) (by omega), if_pos (by omega), if_pos (by omega)]
      rw [wr (n := rd l i) (by omega) (by omega), wr (n := rd l (i + 1)) (by omega) (by omega), wr (n := 256 * rd l i) (by omega) (by omega), wr (by omega) (by omega)]
theorem get2_impl (l : List Int) (i : Int) (hl : l.length ≤ 140737488355328) (hb : ∀ x ∈ l, (Lit.int .u8 x).wf = true) (hi : (Lit.int .i64 i).wf = true) : impl_Get2.f l i = some (get2v l i) := by
  have hi := wf64 hi
  unfold impl_Get2.f get2v
  by_cases h1 : i < 0
  · rw [if_pos h1, if_pos h1]
  · rw [if_neg h1, if_neg h1, wr (n := (l.length : Int) - 2) (by omega) (by omega)]
    by_cases h2 : i > (l.length : Int) - 2
    · rw [if_pos h2, if_pos h2]
    · have b0 := byte_bounds hb i
      have b1 := byte_bounds hb (i + 1)
      rw [if_neg h2, if_neg h2, if_pos (by omega), if_pos (by omega), wr (n := i + 1) (by omega) (by omega), if_pos (by omega), if_pos (by omega)]
      rw [wr (n := rd l i) (by omega) (by omega), wr (n := rd l (i + 1)) (by omega) (by omega), wr (n := rd l i * 256) (by omega) (by omega), or_bytes _ _ b0 b1]

/-! ### pad -/
def padv (l : List Int) (n : Int) : List Int := if n > 64 then l else l ++ List.replicate (n - (l.length : Int)).toNat 0
theorem pad_step (l : List Int) (n : Int) (h : (l.length : Int) < n) : (l ++ [0]) ++ List.replicate (n - ((l ++ [0]).length : Int)).toNat 0 = l ++ List.replicate (n - (l.length : Int)).toNat 0 := by
  have e : (n - (l.length : Int)).toNat = (n - ((l ++ [0]).length : Int)).toNat + 1 := by rw [List.length_append]; simp; omega
  rw [e, List.replicate_succ, List.append_assoc]; rfl
theorem pad_spec_l0 (n : Int) (hn : n ≤ 64) : ∀ (k : Nat) (l : List Int), (n - (l.length : Int)).toNat < k → spec_Pad.l0 k n l = some (l ++ List.replicate (n - (l.length : Int)).toNat 0)
  | 0, _, h => by omega
  | k + 1, l, h => by
    simp only [spec_Pad.l0]
    by_cases h1 : (l.length : Int) < n
    · rw [if_pos h1, if_pos hn, if_pos (by omega), pad_spec_l0 n hn k (l ++ [0]) (by rw [List.length_append]; simp; omega), pad_step l n h1]
    · rw [if_neg h1, show (n - (l.length : Int)).toNat = 0 by omega]; simp
theorem pad_impl_l0 (n : Int) (hn : n ≤ 64) : ∀ (k : Nat) (l : List Int), (n - (l.length : Int)).toNat < k → impl_Pad.l0 k n l = some (l ++ List.replicate (n - (l.length : Int)).toNat 0)
  | 0, _, h => by omega
  | k + 1, l, h => by
    simp only [impl_Pad.l0]
    by_cases h1 : (l.length : Int) < n
    · rw [if_pos h1, if_pos (by omega), pad_impl_l0 n hn k (l ++ [0]) (by rw [List.length_append]; simp; omega), pad_step l n h1]
    · rw [if_neg h1, show (n - (l.length : Int)).toNat = 0 by omega]; simp
theorem pad_spec (k : Nat) (l : List Int) (n : Int) (hl : l.length ≤ 1048576) (hk : 65 < k) : spec_Pad.f k l n = some (padv l n) := by
  unfold spec_Pad.f padv
  simp only [Option.bind_some, List.nil_append, List.length_nil, Nat.zero_add]
  rw [if_pos (by omega)]
  by_cases h : n > 64
  · rw [if_pos h]
    obtain ⟨k, rfl⟩ : ∃ m, k = m + 1 := ⟨k - 1, by omega⟩
    simp only [spec_Pad.l0]
    by_cases h1 : (l.length : Int) < n
    · rw [if_pos h1, if_neg (by omega)]
    · rw [if_neg h1]
  · rw [if_neg h, pad_spec_l0 n (by omega) k l (by omega)]
theorem pad_impl (k : Nat) (l : List Int) (n : Int) (hl : l.length ≤ 1048576) (hk : 65 < k) : impl_Pad.f k l n = some (padv l n) := by
  unfold impl_Pad.f padv
  rw [clone_bytes l (by omega)]
  simp only [Option.bind_some]
  by_cases h : n > 64
  · rw [if_pos h, if_pos h]
  · rw [if_neg h, if_neg h, pad_impl_l0 n (by omega) k l (by omega)]
theorem padv_len (l : List Int) (n : Int) : (padv l n).length ≤ l.length + 64 ∧ l.length ≤ (padv l n).length := by
  unfold padv
  split
  · omega
  · rw [List.length_append, List.length_replicate]; omega

/-! ### same -/
theorem same_l0 (xs : List Int) (hx : xs.length ≤ 140737488355328) (d : Nat) : ∀ (k i : Nat), i + d = xs.length → d < k → laws_same.l0 k xs xs (i : Int) = some true := by
  induction d with
  | zero =>
    intro k i hi hk
    obtain ⟨k, rfl⟩ : ∃ m, k = m + 1 := ⟨k - 1, by omega⟩
    simp only [laws_same.l0]
    rw [if_neg (by omega)]
  | succ d ih =>
    intro k i hi hk
    obtain ⟨k, rfl⟩ : ∃ m, k = m + 1 := ⟨k - 1, by omega⟩
    simp only [laws_same.l0]
    rw [if_pos (by omega), if_pos (by omega), if_pos (by omega), wr_succ (n := xs.length) (by omega) hx]
    simp only [if_true]
    exact ih k (i + 1) (by omega) (by omega)
theorem same_self (k : Nat) (xs : List Int) (hx : xs.length ≤ 140737488355328) (hk : xs.length < k) : laws_same.f k xs xs = some true := by
  unfold laws_same.f
  rw [if_pos rfl]
  exact same_l0 xs hx xs.length k 0 (by omega) hk

/-! ### nums -/
theorem wf_u8 {y : Int} (h : 0 ≤ y ∧ y ≤ 255) : (Lit.int .u8 y).wf = true := by
  simp [Lit.wf, IntKind.min, IntKind.max, IntKind.bits, IntKind.signed]; omega
theorem wf_i64 {y : Int} (h0 : -9223372036854775808 ≤ y) (h1 : y ≤ 9223372036854775807) : (Lit.int .i64 y).wf = true := by
  simp [Lit.wf, IntKind.min, IntKind.max, IntKind.bits, IntKind.signed]; omega
theorem drawPut2_ok (k : Nat) (l : List Int) (hl : l.length ≤ 1048576) (hk : l.length + 1001 < k) : ∃ b n, spec_DrawPut2.f k l = some (b, n) ∧ b.length ≤ 3 ∧ (∀ y ∈ b, 0 ≤ y ∧ y ≤ 255) := by
  unfold spec_DrawPut2.f
  obtain ⟨g, e⟩ := l1New_ok k l hl (by omega)
  rw [e]; simp only [Option.bind_some]
  obtain ⟨m, i1, g1, e1, hm, a1, b1⟩ := l1Below_ok l 0 g 4 hl (by omega) (by omega) (by omega)
  rw [e1]; simp only [Option.bind_some]
  obtain ⟨b, i2, g2, e2, hb, a2, b2⟩ := l1Bytes_ok k l i1 g1 m hl a1 b1 hm.1 (by omega) (by omega)
  rw [e2]; simp only [Option.bind_some]
  obtain ⟨o, i3, g3, e3, _, a3, b3⟩ := l1Once_ok l i2 g2 2 hl a2 b2 (by omega)
  rw [e3]; simp only [Option.bind_some]
  cases o
  · rw [if_neg (by simp)]
    obtain ⟨n, i4, g4, e4, _, a4, b4⟩ := l1Raw_ok l i3 g3 hl a3 b3
    rw [e4]
    exact ⟨_, _, rfl, by omega, hb.2⟩
  · rw [if_pos rfl]
    obtain ⟨n, i4, g4, e4, _, a4, b4⟩ := l1Below_ok l i3 g3 65536 hl a3 b3 (by omega)
    rw [e4]
    exact ⟨_, _, rfl, by omega, hb.2⟩
theorem drawGet2_ok (k : Nat) (l : List Int) (hl : l.length ≤ 1048576) (hk : l.length + 1001 < k) : ∃ b n, spec_DrawGet2.f k l = some (b, n) ∧ b.length ≤ 5 ∧ (∀ y ∈ b, 0 ≤ y ∧ y ≤ 255) ∧ -1 ≤ n ∧ n ≤ 5 := by
  unfold spec_DrawGet2.f
  obtain ⟨g, e⟩ := l1New_ok k l hl (by omega)
  rw [e]; simp only [Option.bind_some]
  obtain ⟨m, i1, g1, e1, hm, a1, b1⟩ := l1Below_ok l 0 g 6 hl (by omega) (by omega) (by omega)
  rw [e1]; simp only [Option.bind_some]
  obtain ⟨b, i2, g2, e2, hb, a2, b2⟩ := l1Bytes_ok k l i1 g1 m hl a1 b1 hm.1 (by omega) (by omega)
  rw [e2]; simp only [Option.bind_some]
  obtain ⟨n, i3, g3, e3, hn, a3, b3⟩ := l1Below_ok l i2 g2 7 hl a2 b2 (by omega)
  rw [e3]; simp only [Option.bind_some]
  rw [wr (n := n - 1) (by omega) (by omega)]
  exact ⟨_, _, rfl, by omega, hb.2, by omega, by omega⟩
theorem drawPad_ok (k : Nat) (l : List Int) (hl : l.length ≤ 1048576) (hk : l.length + 1001 < k) : ∃ b n, spec_DrawPad.f k l = some (b, n) ∧ b.length ≤ 5 := by
  unfold spec_DrawPad.f
  obtain ⟨g, e⟩ := l1New_ok k l hl (by omega)
  rw [e]; simp only [Option.bind_some]
  obtain ⟨m, i1, g1, e1, hm, a1, b1⟩ := l1Below_ok l 0 g 6 hl (by omega) (by omega) (by omega)
  rw [e1]; simp only [Option.bind_some]
  obtain ⟨b, i2, g2, e2, hb, a2, b2⟩ := l1Bytes_ok k l i1 g1 m hl a1 b1 hm.1 (by omega) (by omega)
  rw [e2]; simp only [Option.bind_some]
  obtain ⟨n, i3, g3, e3, hn, a3, b3⟩ := l1Int_ok l [0, 3, 8, 32, 64, 65, (-1)] i2 g2 hl a2 b2 (by simp)
  rw [e3]
  exact ⟨_, _, rfl, by omega⟩
theorem put2v_get (b : List Int) (n : Int) : get2v (put2v b n) (b.length : Int) = if 0 ≤ n ∧ n ≤ 65535 then (n, true) else (0, false) := by
  unfold get2v put2v
  by_cases h : 0 ≤ n ∧ n ≤ 65535
  · rw [if_pos h, if_pos h, if_neg (by omega), if_neg (by rw [List.length_append]; simp)]
    have r0 : rd (b ++ [n / 256, n % 256]) (b.length : Int) = n / 256 := by
      rw [rd_nat _ _ (by simp)]; simp
    have r1 : rd (b ++ [n / 256, n % 256]) ((b.length : Int) + 1) = n % 256 := by
      rw [show (b.length : Int) + 1 = ((b.length + 1 : Nat) : Int) by omega, rd_nat _ _ (by simp)]
      rw [List.getElem_append_right (by omega)]; simp
    rw [r0, r1]; congr 1; omega
  · rw [if_neg h, if_neg h, if_neg (by omega), if_pos (by omega)]
theorem put2v_take (b : List Int) (n : Int) : (put2v b n).take b.length = b := by
  unfold put2v; split <;> simp
theorem padv_take (b : List Int) (n : Int) : (padv b n).take b.length = b := by
  unfold padv; split <;> simp
theorem put2v_B (b : List Int) (n : Int) (hb : ∀ y ∈ b, 0 ≤ y ∧ y ≤ 255) : ∀ y ∈ put2v b n, 0 ≤ y ∧ y ≤ 255 := by
  unfold put2v
  split
  · intro y hy
    simp only [List.mem_append, List.mem_cons, List.not_mem_nil, or_false] at hy
    rcases hy with hy | rfl | rfl
    · exact hb y hy
    · omega
    · omega
  · exact hb

theorem nums_tail (k : Nat) (b p : List Int) (n i : Int) (hb : b.length ≤ 3) (hp : p.length ≤ 5) (hk : 200 < k) :
    laws_FnNums.j0 k b n (put2v b n) (if 0 ≤ n ∧ n ≤ 65535 then n else 0) (decide (0 ≤ n ∧ n ≤ 65535)) p (padv p i) false = some true := by
  obtain ⟨k, rfl⟩ : ∃ m, k = m + 1 := ⟨k - 1, by omega⟩
  have l1 := put2v_len b n
  have l2 := padv_len p i
  have e0 : (put2v b 0).length = b.length + 2 := by unfold put2v; rw [if_pos (by omega)]; simp
  have et : ((b.length : Int) : Int).toNat = b.length := by omega
  have ep : ((p.length : Int) : Int).toNat = p.length := by omega
  have tail : (if 0 ≤ (b.length : Int) then (if (b.length : Int) ≤ ((put2v b n).length : Int) then ((laws_same.f k ((put2v b n).take ((b.length : Int) : Int).toNat) b).bind fun t => (if t = true then (if ((padv p i).length : Int) ≥ (p.length : Int) then (if 0 ≤ (p.length : Int) then (if (p.length : Int) ≤ ((padv p i).length : Int) then ((laws_same.f k ((padv p i).take ((p.length : Int) : Int).toNat) p).bind fun t => (if t = true then ((impl_Put2.f b 0).bind fun t => (some ((t.length : Int) == (wrap64 ((b.length : Int) + 2))))) else (some false))) else (none)) else (none)) else (some false)) else (some false))) else (none)) else (none)) = some true := by
    rw [if_pos (by omega), if_pos (by omega), et, put2v_take, same_self k b (by omega) (by omega)]
    simp only [Option.bind_some, if_true]
    rw [if_pos (by omega), if_pos (by omega), if_pos (by omega), ep, padv_take, same_self k p (by omega) (by omega)]
    simp only [Option.bind_some, if_true]
    rw [put2_impl b 0 (by omega)]
    simp only [Option.bind_some]
    rw [wr (by omega) (by omega), e0]; simp
  simp only [laws_FnNums.j0]
  rw [if_neg (by simp)]
  by_cases h : 0 ≤ n ∧ n ≤ 65535
  · have el : (put2v b n).length = b.length + 2 := by unfold put2v; rw [if_pos h]; simp
    rw [if_pos (show n ≥ 0 from h.1), if_pos h, decide_eq_true h, decide_eq_true h.2]
    rw [if_pos (by simp), if_pos rfl, if_pos rfl, if_pos (by rw [wr (by omega) (by omega), el]; omega)]
    exact tail
  · rw [if_neg h, decide_eq_false h]
    by_cases h1 : n ≥ 0
    · rw [if_pos h1, decide_eq_false (show ¬ n ≤ 65535 by omega)]
      rw [if_pos (by simp), if_neg (by simp)]
      exact tail
    · rw [if_neg h1, if_pos (by simp), if_neg (by simp)]
      exact tail
theorem pure_law (l : List Int) (hm : l.length ≤ maxLen) (hb : ∀ x ∈ l, (Lit.int .u8 x).wf = true) : ∃ k, laws_FnNums.f k l = some true := by
  refine ⟨l.length + 2000, ?_⟩
  unfold laws_FnNums.f
  rw [big_val]
  simp only [Option.bind_some, decide_eq_true_eq]
  by_cases h : (l.length : Int) > 1048576
  · rw [if_pos h]
  · rw [if_neg h]
    obtain ⟨b, n, e1, b1, b2⟩ := drawPut2_ok (l.length + 2000) l (by omega) (by omega)
    rw [e1]; simp only [Option.bind_some]
    have hw : ∀ y ∈ put2v b n, (Lit.int .u8 y).wf = true := fun y hy => wf_u8 (put2v_B b n b2 y hy)
    have l1 := put2v_len b n
    rw [put2_impl b n (by omega)]; simp only [Option.bind_some]
    rw [get2_impl (put2v b n) (b.length : Int) (by omega) hw (wf_i64 (by omega) (by omega))]; simp only [Option.bind_some]
    obtain ⟨c, i, e2, c1, c2, c3, c4⟩ := drawGet2_ok (l.length + 2000) l (by omega) (by omega)
    rw [e2]; simp only [Option.bind_some]
    have hc : ∀ y ∈ c, (Lit.int .u8 y).wf = true := fun y hy => wf_u8 (c2 y hy)
    rw [get2_impl c i (by omega) hc (wf_i64 (by omega) (by omega)), get2_spec c i (by omega) hc (wf_i64 (by omega) (by omega))]; simp only [Option.bind_some]
    obtain ⟨p, j, e3, p1⟩ := drawPad_ok (l.length + 2000) l (by omega) (by omega)
    rw [e3]; simp only [Option.bind_some]
    have l2 := padv_len p j
    rw [pad_impl (l.length + 2000) p j (by omega) (by omega)]; simp only [Option.bind_some]
    rw [put2_spec b n (by omega)]; simp only [Option.bind_some]
    rw [same_self (l.length + 2000) (put2v b n) (by omega) (by omega)]
    simp only [Option.bind_some, if_true, bne_self_eq_false]
    rw [if_neg (by simp), pad_spec (l.length + 2000) p j (by omega) (by omega)]; simp only [Option.bind_some]
    rw [same_self (l.length + 2000) (padv p j) (by omega) (by omega)]
    simp only [Option.bind_some, Bool.not_true]
    have hg := put2v_get b n
    have h1 : (get2v (put2v b n) (b.length : Int)).1 = if 0 ≤ n ∧ n ≤ 65535 then n else 0 := by rw [hg]; split <;> rfl
    have h2 : (get2v (put2v b n) (b.length : Int)).2 = decide (0 ≤ n ∧ n ≤ 65535) := by rw [hg]; split <;> simp_all
    rw [h1, h2]
    exact nums_tail (l.length + 2000) b p n j b1 p1 (by omega)
end Go.Proofs.Ytjmgomailgplcaa.PureFnNums
