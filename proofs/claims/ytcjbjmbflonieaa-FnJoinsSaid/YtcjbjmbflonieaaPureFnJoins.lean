/- The pure statement of FnJoins: what joins all rectangles holds each, in whatever order, for all codes; condition: the list's length is a length. -/
import Derived.Test.YtcjbjmbflonieaaPFnJoinsx5
import Derived.OpenShut
import Derived.Laws.BitsLemmas
namespace Go.Proofs.Ytcjbjmbflonieaa.PureFnJoins
open Go.RowKit Go.Proofs.Ytcjbjmbflonieaa.PFnJoins Go.Proofs.YtcjbjmbflonieaaW.PrintWords Go.Proofs.YtcjbjmbflonieaaW.PrintLast Go.Proofs.YtcjbjmbflonieaaW.PrintMore
set_option linter.unusedVariables false
set_option linter.unusedSimpArgs false

/-! ### minmax -/
theorem mn_le (a b : Int) : mn a b = if b < a then b else a := rfl
theorem mx_ge (a b : Int) : mx a b = if a < b then b else a := rfl

/-! ### least -/
theorem least_spec (a b : Int) : spec_Least.f a b = some (mn a b) := by
  unfold spec_Least.f mn; split <;> rfl

/-! ### most -/
theorem most_spec (a b : Int) : spec_Most.f a b = some (mx a b) := by
  unfold spec_Most.f mx
  by_cases h : a < b
  · rw [if_pos h, if_pos h]
  · rw [if_neg h, if_neg h]

/-! ### join -/
theorem join_spec (a b c d e f g h : Int) : spec_Join.f a b c d e f g h = some (mn a e, mn b f, mx c g, mx d h) := by
  unfold spec_Join.f
  simp only [least_spec, most_spec, Option.bind_some]
theorem join_impl (a b c d e f g h : Int) : impl_Join.f a b c d e f g h = some (mn a e, mn b f, mx c g, mx d h) := rfl

/-! ### rdS:Box -/
theorem rd_implBox (xs : List S45) (i : Nat) (h : i < xs.length) : rd_T45 xs (i : Int) = xs[i] := by
  unfold rd_T45; rw [Int.toNat_natCast, List.getD_eq_getElem?_getD, List.getElem?_eq_getElem h]; rfl

/-! ### wrap -/
theorem wr {n : Int} (h0 : -9223372036854775808 ≤ n) (h1 : n ≤ 9223372036854775807) : wrap64 n = n := by
  unfold wrap64; omega
theorem wf64 {n : Int} (h : (Lit.int .i64 n).wf = true) : -9223372036854775808 ≤ n ∧ n ≤ 9223372036854775807 := bounds_i64 h

/-! ### basic -/
theorem rd_nat (xs : List Int) (i : Nat) (h : i < xs.length) : rd xs (i : Int) = xs[i] := by
  unfold rd; rw [Int.toNat_natCast, List.getD_eq_getElem?_getD, List.getElem?_eq_getElem h]; rfl
theorem fill_take {α β : Type} (conv : α → β) (xs : List α) (ys : List β) (i : Nat) (hl : ys.length = xs.length) (hi : i < xs.length) (h : ys.take i = (xs.take i).map conv) :
    (ys.set i (conv xs[i])).take (i + 1) = (xs.take (i + 1)).map conv := by
  rw [List.take_succ_eq_append_getElem (by rw [List.length_set]; omega), List.take_succ_eq_append_getElem hi, List.getElem_set_self, List.map_append, List.take_set_of_le (Nat.le_refl i), h]; rfl
theorem wr_succ {i n : Nat} (h : i < n) (hn : n ≤ 140737488355328) : wrap64 ((i : Int) + 1) = ((i + 1 : Nat) : Int) := by
  rw [wr (by omega) (by omega)]; omega
theorem byte_bounds {xs : List Int} (h : ∀ x ∈ xs, (Lit.int .u8 x).wf = true) (i : Int) : 0 ≤ rd xs i ∧ rd xs i ≤ 255 := by
  unfold rd
  rw [List.getD_eq_getElem?_getD]
  exact range_u8 h _

/-! ### rows -/
theorem filled {α β : Type} (conv : α → β) (xs : List α) (ys : List β) (hl : ys.length = xs.length) (i : Nat) (hi : i = xs.length) (h : ys.take i = (xs.take i).map conv) : ys = xs.map conv := by
  rw [List.take_of_length_le (by omega), List.take_of_length_le (by omega)] at h; exact h

/-! ### joinall -/
def jn (s : Int × Int × Int × Int) (b : S45) : Int × Int × Int × Int := (mn s.1 b.f0, mn s.2.1 b.f1, mx s.2.2.1 b.f2, mx s.2.2.2 b.f3)
theorem joinall_spec_l0 (xs : List S45) (hx : xs.length ≤ 140737488355328) (d : Nat) : ∀ (k i : Nat) (a b c e : Int), i + d = xs.length → d < k →
    spec_JoinAll.l0 k xs (i : Int) a b c e = some ((xs.drop i).foldl jn (a, b, c, e)) := by
  induction d with
  | zero =>
    intro k i a b c e hi hk
    obtain ⟨k, rfl⟩ : ∃ m, k = m + 1 := ⟨k - 1, by omega⟩
    simp only [spec_JoinAll.l0]
    rw [if_neg (by omega), List.drop_eq_nil_of_le (by omega)]; rfl
  | succ d ih =>
    intro k i a b c e hi hk
    obtain ⟨k, rfl⟩ : ∃ m, k = m + 1 := ⟨k - 1, by omega⟩
    simp only [spec_JoinAll.l0]
    rw [if_pos (by omega), if_pos (by omega), rd_implBox xs i (by omega), join_spec]
    simp only [Option.bind_some]
    rw [wr_succ (n := xs.length) (by omega) hx, ih k (i + 1) _ _ _ _ (by omega) (by omega), List.drop_eq_getElem_cons (show i < xs.length by omega)]; rfl
theorem joinall_impl_l0 (xs : List S45) (hx : xs.length ≤ 140737488355328) (d : Nat) : ∀ (k i : Nat) (a b c e : Int), i + d = xs.length → d < k →
    impl_JoinAll.l0 k xs (xs.length : Int) (i : Int) a b c e = some ((xs.drop i).foldl jn (a, b, c, e)) := by
  induction d with
  | zero =>
    intro k i a b c e hi hk
    obtain ⟨k, rfl⟩ : ∃ m, k = m + 1 := ⟨k - 1, by omega⟩
    simp only [impl_JoinAll.l0]
    rw [if_neg (by omega), List.drop_eq_nil_of_le (by omega)]; rfl
  | succ d ih =>
    intro k i a b c e hi hk
    obtain ⟨k, rfl⟩ : ∃ m, k = m + 1 := ⟨k - 1, by omega⟩
    simp only [impl_JoinAll.l0]
    rw [if_pos (by omega), if_pos (by omega), if_pos (by omega), rd_implBox xs i (by omega), join_impl]
    simp only [Option.bind_some]
    rw [wr_succ (n := xs.length) (by omega) hx, ih k (i + 1) _ _ _ _ (by omega) (by omega), List.drop_eq_getElem_cons (show i < xs.length by omega)]; rfl
theorem mn_self (a : Int) : mn a a = a := by unfold mn; split <;> rfl
theorem mx_self (a : Int) : mx a a = a := by unfold mx; split <;> rfl
def joinallv (xs : List S45) : Int × Int × Int × Int := match xs with
  | [] => (0, 0, 0, 0)
  | x :: r => r.foldl jn (x.f0, x.f1, x.f2, x.f3)
theorem joinall_spec (k : Nat) (xs : List S45) (hx : xs.length ≤ 140737488355328) (hk : xs.length < k) : spec_JoinAll.f k xs = some (joinallv xs) := by
  unfold spec_JoinAll.f
  cases xs with
  | nil => rfl
  | cons x r =>
    rw [List.length_cons] at hk hx ⊢
    rw [if_neg (by omega), if_pos (by omega)]
    have := joinall_spec_l0 (x :: r) (by rw [List.length_cons]; omega) r.length k 1 x.f0 x.f1 x.f2 x.f3 (by rw [List.length_cons]; omega) (by omega)
    exact this
theorem joinall_impl (k : Nat) (xs : List S45) (hx : xs.length ≤ 140737488355328) (hk : xs.length < k) : impl_JoinAll.f k xs = some (joinallv xs) := by
  unfold impl_JoinAll.f
  cases xs with
  | nil => rfl
  | cons x r =>
    rw [List.length_cons] at hk hx ⊢
    rw [if_neg (by omega), if_pos (by omega)]
    have := joinall_impl_l0 (x :: r) (by rw [List.length_cons]; omega) (r.length + 1) k 0 x.f0 x.f1 x.f2 x.f3 (by rw [List.length_cons]; omega) (by omega)
    rw [List.length_cons] at this
    refine Eq.trans this ?_
    show some ((x :: r).foldl jn (x.f0, x.f1, x.f2, x.f3)) = _
    rw [List.foldl_cons]
    unfold joinallv jn
    simp only [mn_self, mx_self]

/-! ### draw -/
theorem and255 (x : Int) : 0 ≤ Go.bits .and .i64 x 255 ∧ Go.bits .and .i64 x 255 ≤ 255 := by
  have h : (BitVec.ofInt IntKind.i64.bits x &&& BitVec.ofInt IntKind.i64.bits 255).toNat ≤ 255 := by
    rw [BitVec.toNat_and]
    exact Nat.le_trans Nat.and_le_right (by decide)
  have e : Go.bits .and .i64 x 255 = IntKind.i64.wrap ((BitVec.ofInt IntKind.i64.bits x &&& BitVec.ofInt IntKind.i64.bits 255).toNat : Int) := rfl
  rw [e, IntKind.wrap_i64]; omega
/-- A drawn value: it is there, meets P, and the cursor stays in the bytes. -/
def DOk {α : Type} (b : List Int) (P : α → Prop) (o : Option (α × Int × Int)) : Prop := ∃ x i h, o = some (x, i, h) ∧ P x ∧ 0 ≤ i ∧ i ≤ (b.length : Int)
theorem l1Byte_ok (b : List Int) (i h : Int) (hb : b.length ≤ 1048576) (h0 : 0 ≤ i) (h1 : i ≤ (b.length : Int)) : DOk b (fun x => 0 ≤ x ∧ x ≤ 255) (spec_l1Byte.f b i h) := by
  unfold spec_l1Byte.f DOk
  by_cases c : i < (b.length : Int)
  · rw [if_pos c, if_pos h0]
    exact ⟨_, _, _, rfl, and255 _, by rw [wr (by omega) (by omega)]; omega, by rw [wr (by omega) (by omega)]; omega⟩
  · rw [if_neg c]
    exact ⟨_, _, _, rfl, and255 _, h0, h1⟩
theorem l1Below_ok (b : List Int) (i h n : Int) (hb : b.length ≤ 1048576) (h0 : 0 ≤ i) (h1 : i ≤ (b.length : Int)) (hn : 0 < n) : DOk b (fun x => 0 ≤ x ∧ x < n) (spec_l1Below.f b i h n) := by
  unfold spec_l1Below.f
  rw [if_neg (by omega)]
  by_cases c : n ≤ 256
  · rw [if_pos c]
    obtain ⟨x, i1, g1, e1, hx, a1, b1⟩ := l1Byte_ok b i h hb h0 h1
    rw [e1]
    simp only [Option.bind_some]
    rw [if_neg (by omega), Int.tmod_eq_emod_of_nonneg (by omega)]
    exact ⟨_, _, _, rfl, ⟨Int.emod_nonneg _ (by omega), Int.emod_lt_of_pos _ hn⟩, a1, b1⟩
  · rw [if_neg c]
    obtain ⟨x, i1, g1, e1, hx, a1, b1⟩ := l1Byte_ok b i h hb h0 h1
    rw [e1]
    simp only [Option.bind_some]
    obtain ⟨y, i2, g2, e2, hy, a2, b2⟩ := l1Byte_ok b i1 g1 hb a1 b1
    rw [e2]
    simp only [Option.bind_some]
    obtain ⟨z, i3, g3, e3, hz, a3, b3⟩ := l1Byte_ok b i2 g2 hb a2 b2
    rw [e3]
    simp only [Option.bind_some]
    rw [if_neg (by omega), wr (n := x * 65536) (by omega) (by omega), wr (n := y * 256) (by omega) (by omega), wr (n := x * 65536 + y * 256) (by omega) (by omega), wr (n := x * 65536 + y * 256 + z) (by omega) (by omega), Int.tmod_eq_emod_of_nonneg (by omega)]
    exact ⟨_, _, _, rfl, ⟨Int.emod_nonneg _ (by omega), Int.emod_lt_of_pos _ hn⟩, a3, b3⟩
theorem l1New_l0 (b : List Int) (hb : b.length ≤ 1048576) (d : Nat) : ∀ (k i : Nat) (h : Int), i + d = b.length → d < k → ∃ g, spec_l1New.l0 k b h (i : Int) = some (b, 0, g) := by
  induction d with
  | zero =>
    intro k i h hi hk
    obtain ⟨k, rfl⟩ : ∃ m, k = m + 1 := ⟨k - 1, by omega⟩
    simp only [spec_l1New.l0]
    rw [if_neg (by omega)]
    exact ⟨_, rfl⟩
  | succ d ih =>
    intro k i h hi hk
    obtain ⟨k, rfl⟩ : ∃ m, k = m + 1 := ⟨k - 1, by omega⟩
    simp only [spec_l1New.l0]
    rw [if_pos (by omega)]
    split
    · rw [if_pos (by omega), wr_succ (n := b.length) (by omega) (by omega)]
      exact ih k (i + 1) _ (by omega) (by omega)
    · exact ⟨_, rfl⟩
theorem l1New_ok (k : Nat) (b : List Int) (hb : b.length ≤ 1048576) (hk : b.length < k) : ∃ g, spec_l1New.f k b = some (b, 0, g) := by
  unfold spec_l1New.f
  exact l1New_l0 b hb b.length k 0 _ (by omega) hk
theorem big_val (b : List Int) : laws_big.f b = some (decide ((b.length : Int) > 1048576)) := rfl

/-! ### drawOnce -/
theorem l1Once_ok (b : List Int) (i h n : Int) (hb : b.length ≤ 1048576) (h0 : 0 ≤ i) (h1 : i ≤ (b.length : Int)) (hn : 0 < n) : DOk b (fun _ : Bool => True) (spec_l1Once.f b i h n) := by
  unfold spec_l1Once.f
  obtain ⟨x, i1, g1, e1, hx, a1, b1⟩ := l1Below_ok b i h n hb h0 h1 hn
  rw [e1]
  exact ⟨_, _, _, rfl, trivial, a1, b1⟩

/-! ### drawInt -/
theorem rd_mem (l : List Int) (x : Int) (h0 : 0 ≤ x) (h1 : x < (l.length : Int)) : rd l x ∈ l := by
  obtain ⟨n, rfl⟩ := Int.eq_ofNat_of_zero_le h0
  rw [rd_nat l n (by omega)]
  exact List.getElem_mem _
theorem l1Int_ok (b l : List Int) (i h : Int) (hb : b.length ≤ 1048576) (h0 : 0 ≤ i) (h1 : i ≤ (b.length : Int)) (hl : 0 < l.length) : DOk b (fun x => x ∈ l) (spec_l1Int.f b i h l) := by
  unfold spec_l1Int.f
  obtain ⟨x, i1, g1, e1, hx, a1, b1⟩ := l1Below_ok b i h (l.length : Int) hb h0 h1 (by omega)
  rw [e1]
  simp only [Option.bind_some]
  rw [if_pos hx.1, if_pos hx.2]
  exact ⟨_, _, _, rfl, rd_mem l x hx.1 hx.2, a1, b1⟩

/-! ### drawRaw -/
theorem l1Odd_ok (b : List Int) (i h : Int) (hb : b.length ≤ 1048576) (h0 : 0 ≤ i) (h1 : i ≤ (b.length : Int)) : DOk b (fun x => (Lit.int .i64 x).wf = true) (spec_l1Odd.f b i h) := by
  unfold spec_l1Odd.f
  obtain ⟨x, i1, g1, e1, hx, a1, b1⟩ := l1Int_ok b [(-1), 0, 1, 2, 255, 256, 65535, 2147483647, 2147483648, 4294967295, 4294967296, (-2147483648), 9223372036854775807, (-9223372036854775808)] i h hb h0 h1 (by simp)
  rw [e1]
  have hz : (Lit.int .i64 x).wf = true := by
    simp only [List.mem_cons, List.not_mem_nil, or_false] at hx
    rcases hx with rfl | rfl | rfl | rfl | rfl | rfl | rfl | rfl | rfl | rfl | rfl | rfl | rfl | rfl <;> decide
  exact ⟨_, _, _, rfl, hz, a1, b1⟩
theorem l1Raw_ok (b : List Int) (i h : Int) (hb : b.length ≤ 1048576) (h0 : 0 ≤ i) (h1 : i ≤ (b.length : Int)) : DOk b (fun x => (Lit.int .i64 x).wf = true) (spec_l1Raw.f b i h) := by
  unfold spec_l1Raw.f
  obtain ⟨x, i1, g1, e1, hx, a1, b1⟩ := l1Once_ok b i h 2 hb h0 h1 (by omega)
  rw [e1]
  simp only [Option.bind_some]
  cases x
  · rw [if_neg (by simp)]
    obtain ⟨y, i2, g2, e2, hy, a2, b2⟩ := l1Int_ok b [(-1), 0, 1, 4, 255, 256, 65535, 65536] i1 g1 hb a1 b1 (by simp)
    rw [e2]
    have hz : (Lit.int .i64 y).wf = true := by
      simp only [List.mem_cons, List.not_mem_nil, or_false] at hy
      rcases hy with rfl | rfl | rfl | rfl | rfl | rfl | rfl | rfl <;> decide
    exact ⟨_, _, _, rfl, hz, a2, b2⟩
  · rw [if_pos rfl]
    obtain ⟨y, i2, g2, e2, hy, a2, b2⟩ := l1Odd_ok b i1 g1 hb a1 b1
    rw [e2]
    exact ⟨_, _, _, rfl, hy, a2, b2⟩

/-! ### drawBox -/
theorem l2Draw_ok (k : Nat) (b : List Int) (i h : Int) (hb : b.length ≤ 1048576) (h0 : 0 ≤ i) (h1 : i ≤ (b.length : Int)) (hk : 0 < k) :
    ∃ x y u v i1 g1, spec_l2Draw.f k b i h = some (x, y, u, v, i1, g1) ∧ 0 ≤ x ∧ x ≤ u ∧ u ≤ 255 ∧ 0 ≤ y ∧ y ≤ v ∧ v ≤ 255 ∧ 0 ≤ i1 ∧ i1 ≤ (b.length : Int) := by
  obtain ⟨k, rfl⟩ : ∃ m, k = m + 1 := ⟨k - 1, by omega⟩
  have tail : ∀ (x y i h : Int), 0 ≤ x → x ≤ 249 → 0 ≤ y → y ≤ 249 → 0 ≤ i → i ≤ (b.length : Int) →
      ∃ x1 y1 u v i1 g1, spec_l2Draw.j0 (k + 1) x y b i h = some (x1, y1, u, v, i1, g1) ∧ 0 ≤ x1 ∧ x1 ≤ u ∧ u ≤ 255 ∧ 0 ≤ y1 ∧ y1 ≤ v ∧ v ≤ 255 ∧ 0 ≤ i1 ∧ i1 ≤ (b.length : Int) := by
    intro x y i h x0 x1 y0 y1 i0 i1
    simp only [spec_l2Draw.j0]
    obtain ⟨dx, i2, g2, e2, hx, a2, b2⟩ := l1Int_ok b [0, 1, 5, 9, 40] i h hb i0 i1 (by simp)
    have hx : 0 ≤ dx ∧ dx ≤ 40 := by
      simp only [List.mem_cons, List.not_mem_nil, or_false] at hx
      omega
    rw [e2]; simp only [Option.bind_some]
    rw [wr (n := x + dx) (by omega) (by omega), least_spec]; simp only [Option.bind_some]
    obtain ⟨dy, i3, g3, e3, hy, a3, b3⟩ := l1Int_ok b [0, 1, 3, 12] i2 g2 hb a2 b2 (by simp)
    have hy : 0 ≤ dy ∧ dy ≤ 12 := by
      simp only [List.mem_cons, List.not_mem_nil, or_false] at hy
      omega
    rw [e3]; simp only [Option.bind_some]
    rw [wr (n := y + dy) (by omega) (by omega), least_spec]; simp only [Option.bind_some]
    refine ⟨_, _, _, _, _, _, rfl, x0, ?_, ?_, y0, ?_, ?_, a3, b3⟩ <;> unfold mn <;> split <;> omega
  unfold spec_l2Draw.f
  obtain ⟨x, i1, g1, e1, hx, a1, b1⟩ := l1Below_ok b i h 250 hb h0 h1 (by omega)
  rw [e1]; simp only [Option.bind_some]
  obtain ⟨y, i2, g2, e2, hy, a2, b2⟩ := l1Below_ok b i1 g1 250 hb a1 b1 (by omega)
  rw [e2]; simp only [Option.bind_some]
  obtain ⟨o, i3, g3, e3, _, a3, b3⟩ := l1Once_ok b i2 g2 2 hb a2 b2 (by omega)
  rw [e3]; simp only [Option.bind_some]
  cases o
  · rw [if_neg (by simp)]
    exact tail x y i3 g3 hx.1 (by omega) hy.1 (by omega) a3 b3
  · rw [if_pos rfl]
    obtain ⟨x2, i4, g4, e4, hx2, a4, b4⟩ := l1Below_ok b i3 g3 20 hb a3 b3 (by omega)
    rw [e4]; simp only [Option.bind_some]
    obtain ⟨y2, i5, g5, e5, hy2, a5, b5⟩ := l1Below_ok b i4 g4 20 hb a4 b4 (by omega)
    rw [e5]; simp only [Option.bind_some]
    exact tail x2 y2 i5 g5 hx2.1 (by omega) hy2.1 (by omega) a5 b5

/-! ### drawAny -/
theorem l2Any_ok (k : Nat) (b : List Int) (i h : Int) (hb : b.length ≤ 1048576) (h0 : 0 ≤ i) (h1 : i ≤ (b.length : Int)) (hk : 0 < k) :
    ∃ x y u v i1 g1, spec_l2Any.f k b i h = some (x, y, u, v, i1, g1) ∧ 0 ≤ i1 ∧ i1 ≤ (b.length : Int) := by
  unfold spec_l2Any.f
  obtain ⟨x, y, u, v, i1, g1, e1, _, _, _, _, _, _, a1, b1⟩ := l2Draw_ok k b i h hb h0 h1 hk
  rw [e1]; simp only [Option.bind_some]
  obtain ⟨n, i2, g2, e2, hn, a2, b2⟩ := l1Below_ok b i1 g1 12 hb a1 b1 (by omega)
  rw [e2]; simp only [Option.bind_some]
  obtain ⟨r, i3, g3, e3, _, a3, b3⟩ := l1Raw_ok b i2 g2 hb a2 b2
  split
  · rw [e3]; exact ⟨_, _, _, _, _, _, rfl, a3, b3⟩
  · split
    · rw [e3]; exact ⟨_, _, _, _, _, _, rfl, a3, b3⟩
    · split
      · exact ⟨_, _, _, _, _, _, rfl, a2, b2⟩
      · split
        · exact ⟨_, _, _, _, _, _, rfl, a2, b2⟩
        · exact ⟨_, _, _, _, _, _, rfl, a2, b2⟩

/-! ### joins -/
def le4 (t s : Int × Int × Int × Int) : Prop := t.1 ≤ s.1 ∧ t.2.1 ≤ s.2.1 ∧ s.2.2.1 ≤ t.2.2.1 ∧ s.2.2.2 ≤ t.2.2.2
def tup (e : S45) : Int × Int × Int × Int := (e.f0, e.f1, e.f2, e.f3)
theorem le4_anti {t s : Int × Int × Int × Int} (h : le4 t s) (g : le4 s t) : t = s := by
  obtain ⟨a, b, c, d⟩ := t
  obtain ⟨e, f, g2, h2⟩ := s
  unfold le4 at h g
  simp only at h g
  rw [show a = e by omega, show b = f by omega, show c = g2 by omega, show d = h2 by omega]
theorem le4_refl (t : Int × Int × Int × Int) : le4 t t := ⟨Int.le_refl _, Int.le_refl _, Int.le_refl _, Int.le_refl _⟩
theorem le4_trans {t s u : Int × Int × Int × Int} (h : le4 t s) (g : le4 s u) : le4 t u := by
  unfold le4 at *; omega
theorem mn_min (a b : Int) : mn a b ≤ a ∧ mn a b ≤ b ∧ (mn a b = a ∨ mn a b = b) := by unfold mn; split <;> omega
theorem mx_max (a b : Int) : a ≤ mx a b ∧ b ≤ mx a b ∧ (mx a b = a ∨ mx a b = b) := by unfold mx; split <;> omega
theorem jn_glb (s : Int × Int × Int × Int) (b : S45) : le4 (jn s b) s ∧ le4 (jn s b) (tup b) ∧ ∀ u, le4 u s → le4 u (tup b) → le4 u (jn s b) := by
  have h1 := mn_min s.1 b.f0
  have h2 := mn_min s.2.1 b.f1
  have h3 := mx_max s.2.2.1 b.f2
  have h4 := mx_max s.2.2.2 b.f3
  unfold le4 jn tup
  simp only
  refine ⟨by omega, by omega, fun u hu hv => by omega⟩
theorem fold_glb : ∀ (r : List S45) (s : Int × Int × Int × Int), le4 (r.foldl jn s) s ∧ (∀ e ∈ r, le4 (r.foldl jn s) (tup e)) ∧ ∀ u, le4 u s → (∀ e ∈ r, le4 u (tup e)) → le4 u (r.foldl jn s)
  | [], s => ⟨le4_refl s, by simp, fun u h _ => h⟩
  | x :: r, s => by
    obtain ⟨h1, h2, h3⟩ := fold_glb r (jn s x)
    obtain ⟨g1, g2, g3⟩ := jn_glb s x
    rw [List.foldl_cons]
    refine ⟨le4_trans h1 g1, ?_, ?_⟩
    · intro e he
      rcases List.mem_cons.1 he with rfl | he
      · exact le4_trans h1 g2
      · exact h2 e he
    · intro u hu hv
      exact h3 u (g3 u hu (hv x (List.mem_cons_self ..))) (fun e he => hv e (List.mem_cons_of_mem _ he))
theorem joinall_glb (xs : List S45) (hne : xs ≠ []) : (∀ e ∈ xs, le4 (joinallv xs) (tup e)) ∧ ∀ u, (∀ e ∈ xs, le4 u (tup e)) → le4 u (joinallv xs) := by
  cases xs with
  | nil => exact absurd rfl hne
  | cons x r =>
    obtain ⟨h1, h2, h3⟩ := fold_glb r (x.f0, x.f1, x.f2, x.f3)
    unfold joinallv
    refine ⟨?_, ?_⟩
    · intro e he
      rcases List.mem_cons.1 he with rfl | he
      · exact h1
      · exact h2 e he
    · intro u hu
      exact h3 u (hu x (List.mem_cons_self ..)) (fun e he => hu e (List.mem_cons_of_mem _ he))
theorem joinall_reverse (xs : List S45) : joinallv xs.reverse = joinallv xs := by
  by_cases hne : xs = []
  · subst hne; rfl
  · have hr : xs.reverse ≠ [] := by simpa using hne
    obtain ⟨h1, h2⟩ := joinall_glb xs hne
    obtain ⟨g1, g2⟩ := joinall_glb xs.reverse hr
    exact le4_anti (h2 _ (fun e he => g1 e (List.mem_reverse.2 he))) (g2 _ (fun e he => h1 e (List.mem_reverse.1 he)))
theorem mn_eq {a b : Int} (h : a ≤ b) : mn a b = a := by unfold mn; rw [if_neg (by omega)]
theorem mx_eq {a b : Int} (h : b ≤ a) : mx a b = a := by unfold mx; rw [if_neg (by omega)]
theorem holds_le (j0 j1 j2 j3 a b c d : Int) (h : le4 (j0, j1, j2, j3) (a, b, c, d)) : impl_Holds.f j0 j1 j2 j3 a b c d = some true := by
  unfold le4 at h
  simp only at h
  unfold impl_Holds.f
  rw [join_impl]
  simp only [Option.bind_some]
  rw [mn_eq h.1, mn_eq h.2.1, mx_eq h.2.2.1, mx_eq h.2.2.2]; simp
theorem drawJoinAll_l0 (b : List Int) (hb : b.length ≤ 1048576) : ∀ (n k : Nat) (acc : List S45) (i h : Int), acc.length + n ≤ 4 → 0 ≤ i → i ≤ (b.length : Int) → n < k → ∃ xs, spec_DrawJoinAll.l0 k acc (n : Int) b i h = some xs ∧ xs.length ≤ 4
  | 0, k, acc, i, h, ha, h0, h1, hk => by
    obtain ⟨k, rfl⟩ : ∃ m, k = m + 1 := ⟨k - 1, by omega⟩
    simp only [spec_DrawJoinAll.l0]
    rw [if_neg (by omega)]
    exact ⟨_, rfl, by omega⟩
  | n + 1, k, acc, i, h, ha, h0, h1, hk => by
    obtain ⟨k, rfl⟩ : ∃ m, k = m + 1 := ⟨k - 1, by omega⟩
    simp only [spec_DrawJoinAll.l0]
    obtain ⟨x, y, u, v, i1, g1, e1, a1, b1⟩ := l2Any_ok k b i h hb h0 h1 (by omega)
    rw [if_pos (by omega), e1]
    simp only [Option.bind_some]
    rw [if_pos (by omega), wr (by omega) (by omega), show ((n + 1 : Nat) : Int) - 1 = (n : Int) by omega]
    exact drawJoinAll_l0 b hb n k _ i1 g1 (by rw [List.length_append]; simp; omega) a1 b1 (by omega)
theorem drawJoinAll_ok (k : Nat) (b : List Int) (hb : b.length ≤ 1048576) (hk : b.length + 10 < k) : ∃ xs, spec_DrawJoinAll.f k b = some xs ∧ xs.length ≤ 4 := by
  unfold spec_DrawJoinAll.f
  obtain ⟨g, e⟩ := l1New_ok k b hb (by omega)
  rw [e]; simp only [Option.bind_some]
  obtain ⟨n, i1, g1, e1, hn, a1, b1⟩ := l1Below_ok b 0 g 5 hb (by omega) (by omega) (by omega)
  rw [e1]; simp only [Option.bind_some]
  obtain ⟨m, rfl⟩ := Int.eq_ofNat_of_zero_le hn.1
  exact drawJoinAll_l0 b hb m k [] i1 g1 (by simp; omega) a1 b1 (by omega)
theorem joins_loop (xs : List S45) (hx : xs.length ≤ 4) (j0 j1 j2 j3 : Int) (hj : joinallv xs = (j0, j1, j2, j3)) : ∀ (n k : Nat) (acc : List S45), n ≤ xs.length → acc = (xs.drop n).reverse → 20 + n < k →
    laws_FnJoins.l0 k xs acc ((n : Int) - 1) j0 j1 j2 j3 = some true
  | 0, k, acc, hn, ha, hk => by
    obtain ⟨k, rfl⟩ : ∃ m, k = m + 1 := ⟨k - 1, by omega⟩
    have ha : acc = xs.reverse := ha
    subst ha
    simp only [laws_FnJoins.l0]
    rw [if_neg (by omega), joinall_spec k xs (by omega) (by omega)]
    simp only [Option.bind_some]
    rw [hj]
    simp only [beq_self_eq_true, Bool.and_self, if_true]
    rw [joinall_impl k xs.reverse (by rw [List.length_reverse]; omega) (by rw [List.length_reverse]; omega), joinall_reverse, hj]
    simp only [Option.bind_some, beq_self_eq_true, Bool.and_self, if_true]
    rw [holds_le j0 j1 j2 j3 j0 j1 j2 j3 (le4_refl _)]; rfl
  | n + 1, k, acc, hn, ha, hk => by
    obtain ⟨k, rfl⟩ : ∃ m, k = m + 1 := ⟨k - 1, by omega⟩
    have hne : xs ≠ [] := by intro e; subst e; simp at hn
    have hle := (joinall_glb xs hne).1 (xs[n]'(by omega)) (List.getElem_mem _)
    rw [hj] at hle
    have hal : acc.length ≤ 4 := by rw [ha, List.length_reverse, List.length_drop]; omega
    simp only [laws_FnJoins.l0]
    rw [show ((n + 1 : Nat) : Int) - 1 = (n : Int) by omega, if_pos (by omega), if_pos (by omega), if_pos (by omega), if_pos (by omega), rd_implBox xs n (by omega), holds_le _ _ _ _ _ _ _ _ hle]
    simp only [Option.bind_some, if_true]
    rw [wr (n := (n : Int) - 1) (by omega) (by omega)]
    refine joins_loop xs hx j0 j1 j2 j3 hj n k _ (by omega) ?_ (by omega)
    rw [ha, List.drop_eq_getElem_cons (show n < xs.length by omega), List.reverse_cons]

theorem pure_law (l : List Int) (hm : l.length ≤ maxLen) (hb : ∀ x ∈ l, (Lit.int .u8 x).wf = true) : ∃ k, laws_FnJoins.f k l = some true := by
  refine ⟨l.length + 200, ?_⟩
  unfold laws_FnJoins.f
  rw [big_val]
  simp only [Option.bind_some, decide_eq_true_eq]
  by_cases h : (l.length : Int) > 1048576
  · rw [if_pos h]
  · rw [if_neg h]
    obtain ⟨xs, e1, hx⟩ := drawJoinAll_ok (l.length + 200) l (by omega) (by omega)
    rw [e1]; simp only [Option.bind_some]
    rw [joinall_impl (l.length + 200) xs (by omega) (by omega)]
    simp only [Option.bind_some]
    rw [wr (by omega) (by omega)]
    obtain ⟨⟨j0, j1, j2, j3⟩, hj⟩ : ∃ j, joinallv xs = j := ⟨_, rfl⟩
    rw [hj]
    exact joins_loop xs hx j0 j1 j2 j3 hj xs.length (l.length + 200) [] (by omega) (by simp) (by omega)
end Go.Proofs.Ytcjbjmbflonieaa.PureFnJoins
