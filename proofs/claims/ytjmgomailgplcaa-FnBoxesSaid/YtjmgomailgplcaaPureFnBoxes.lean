/- The pure statement of FnBoxes: the join of two boxes holds both, whichever way round, and is no smaller; two boxes meet whichever way round; all as the reference tells, for all codes; condition: the list's length is a length. -/
import Derived.Test.YtjmgomailgplcaaPFnBoxesx7
import Derived.OpenShut
import Derived.Laws.BitsLemmas
namespace Go.Proofs.Ytjmgomailgplcaa.PureFnBoxes
open Go.RowKit Go.Proofs.Ytjmgomailgplcaa.PFnBoxes Go.Proofs.YtjmgomailgplcaaW.PrintWords Go.Proofs.YtjmgomailgplcaaW.PrintLast Go.Proofs.YtjmgomailgplcaaW.PrintMore
set_option linter.unusedVariables false
set_option linter.unusedSimpArgs false

/-! ### minmax -/
theorem mn_le (a b : Int) : mn a b = if b < a then b else a := rfl
theorem mx_ge (a b : Int) : mx a b = if a < b then b else a := rfl

/-! ### least -/
theorem least_spec (a b : Int) : spec_Least.f a b = some (mn a b) := by
  unfold spec_Least.f mn; split <;> rfl

/-! ### most -/
theorem most_spec (a b : Int) : spec_Most.f a b = some (mx a b) := by
  unfold spec_Most.f mx
  by_cases h : a < b
  · rw [if_pos h, if_pos h]
  · rw [if_neg h, if_neg h]

/-! ### join -/
theorem join_spec (a b c d e f g h : Int) : spec_Join.f a b c d e f g h = some (mn a e, mn b f, mx c g, mx d h) := by
  unfold spec_Join.f
  simp only [least_spec, most_spec, Option.bind_some]
theorem join_impl (a b c d e f g h : Int) : impl_Join.f a b c d e f g h = some (mn a e, mn b f, mx c g, mx d h) := rfl

/-! ### inn -/
theorem l1In_val (x a b : Int) : spec_l1In.f x a b = some (decide (a ≤ x ∧ x ≤ b)) := by
  unfold spec_l1In.f
  by_cases h : x ≥ a
  · rw [if_pos h]; simp [show a ≤ x from h]
  · rw [if_neg h]; simp [show ¬ a ≤ x from h]
theorem in_val (x a b : Int) : impl_in.f x a b = some (decide (a ≤ x ∧ x ≤ b)) := by
  unfold impl_in.f
  by_cases h : a ≤ x
  · rw [if_pos h]; simp [h]
  · rw [if_neg h]; simp [h]

/-! ### boxok -/
def okb (a b c d : Int) : Bool := decide (0 ≤ a ∧ a ≤ c ∧ c ≤ 255 ∧ 0 ≤ b ∧ b ≤ d ∧ d ≤ 255)
theorem okb_iff (a b c d : Int) : okb a b c d = true ↔ 0 ≤ a ∧ a ≤ c ∧ c ≤ 255 ∧ 0 ≤ b ∧ b ≤ d ∧ d ≤ 255 := by unfold okb; exact decide_eq_true_iff
theorem boxok_spec (a b c d : Int) : spec_BoxOk.f a b c d = some (okb a b c d) := by
  unfold spec_BoxOk.f
  simp only [l1In_val, Option.bind_some, okb, decide_eq_true_eq]
  by_cases h1 : 0 ≤ a ∧ a ≤ 255
  · rw [if_pos h1]
    by_cases h2 : 0 ≤ b ∧ b ≤ 255
    · rw [if_pos h2]
      by_cases h3 : a ≤ c ∧ c ≤ 255
      · rw [if_pos h3]; congr 1; apply decide_eq_decide.mpr; omega
      · rw [if_neg h3]; congr 1; symm; apply decide_eq_false; omega
    · rw [if_neg h2]; congr 1; symm; apply decide_eq_false; omega
  · rw [if_neg h1]; congr 1; symm; apply decide_eq_false; omega
theorem boxok_impl (a b c d : Int) : impl_BoxOk.f a b c d = some (okb a b c d) := by
  unfold impl_BoxOk.f
  simp only [in_val, Option.bind_some, okb, decide_eq_true_eq]
  by_cases h1 : 0 ≤ a ∧ a ≤ c
  · rw [if_pos h1]
    by_cases h2 : 0 ≤ c ∧ c ≤ 255
    · rw [if_pos h2]
      by_cases h3 : 0 ≤ b ∧ b ≤ d
      · rw [if_pos h3]; congr 1; apply decide_eq_decide.mpr; omega
      · rw [if_neg h3]; congr 1; symm; apply decide_eq_false; omega
    · rw [if_neg h2]; congr 1; symm; apply decide_eq_false; omega
  · rw [if_neg h1]; congr 1; symm; apply decide_eq_false; omega

/-! ### meets -/
def meetsv (a b c d e f g h : Int) : Bool := okb a b c d && (okb e f g h && decide (a ≤ g ∧ e ≤ c ∧ b ≤ h ∧ f ≤ d))
theorem meets_tail (a b c d e f g h : Int) : (if a ≤ g then (if e ≤ c then (if b ≤ h then some (decide (f ≤ d)) else some false) else some false) else some false) = some (decide (a ≤ g ∧ e ≤ c ∧ b ≤ h ∧ f ≤ d)) := by
  by_cases h1 : a ≤ g <;> by_cases h2 : e ≤ c <;> by_cases h3 : b ≤ h <;> simp [h1, h2, h3]
theorem meets_spec (a b c d e f g h : Int) : spec_Meets.f a b c d e f g h = some (meetsv a b c d e f g h) := by
  unfold spec_Meets.f meetsv
  simp only [boxok_spec, Option.bind_some, meets_tail]
  cases okb a b c d <;> cases okb e f g h <;> simp
theorem meets_impl (a b c d e f g h : Int) : impl_Meets.f a b c d e f g h = some (meetsv a b c d e f g h) := by
  unfold impl_Meets.f meetsv
  simp only [boxok_impl, Option.bind_some, meets_tail]
  cases okb a b c d <;> cases okb e f g h <;> simp

/-! ### holds -/
def holdsv (a b c d e f g h : Int) : Bool := mn a e == a && (mn b f == b && (mx c g == c && (mx d h == d)))
theorem holds_spec (a b c d e f g h : Int) : spec_Holds.f a b c d e f g h = some (holdsv a b c d e f g h) := by
  unfold spec_Holds.f
  rw [join_spec]; rfl
theorem holds_impl (a b c d e f g h : Int) : impl_Holds.f a b c d e f g h = some (holdsv a b c d e f g h) := by
  unfold impl_Holds.f
  rw [join_impl]; rfl

/-! ### wrap -/
theorem wr {n : Int} (h0 : -9223372036854775808 ≤ n) (h1 : n ≤ 9223372036854775807) : wrap64 n = n := by
  unfold wrap64; omega
theorem wf64 {n : Int} (h : (Lit.int .i64 n).wf = true) : -9223372036854775808 ≤ n ∧ n ≤ 9223372036854775807 := bounds_i64 h

/-! ### area -/
def areav (a b c d : Int) : Int := if okb a b c d = true then (c - a + 1) * (d - b + 1) else 0
theorem area_box {a b c d : Int} (h : okb a b c d = true) : 1 ≤ (c - a + 1) * (d - b + 1) ∧ (c - a + 1) * (d - b + 1) ≤ 65536 := by
  have := (okb_iff a b c d).1 h
  constructor
  · have : (1 : Int) * 1 ≤ (c - a + 1) * (d - b + 1) := Int.mul_le_mul (by omega) (by omega) (by omega) (by omega)
    omega
  · have : (c - a + 1) * (d - b + 1) ≤ 256 * 256 := Int.mul_le_mul (by omega) (by omega) (by omega) (by omega)
    omega
theorem area_wrap {a b c d : Int} (h : okb a b c d = true) : wrap64 ((wrap64 ((wrap64 (c - a)) + 1)) * (wrap64 ((wrap64 (d - b)) + 1))) = (c - a + 1) * (d - b + 1) := by
  have h1 := (okb_iff a b c d).1 h
  have h2 := area_box h
  rw [wr (n := c - a) (by omega) (by omega), wr (n := d - b) (by omega) (by omega), wr (n := c - a + 1) (by omega) (by omega), wr (n := d - b + 1) (by omega) (by omega), wr (by omega) (by omega)]
theorem area_spec (a b c d : Int) : spec_Area.f a b c d = some (areav a b c d) := by
  unfold spec_Area.f areav
  rw [boxok_spec]; simp only [Option.bind_some]
  by_cases h : okb a b c d = true
  · rw [if_pos h, if_pos h, area_wrap h]
  · rw [if_neg h, if_neg h]
theorem area_impl (a b c d : Int) : impl_Area.f a b c d = some (areav a b c d) := by
  unfold impl_Area.f areav
  rw [boxok_impl]; simp only [Option.bind_some]
  by_cases h : okb a b c d = true
  · rw [if_pos h, if_pos h, area_wrap h]
  · rw [if_neg h, if_neg h]

/-! ### growth -/
def growthv (a b c d e f g h : Int) : Int := wrap64 (areav (mn a e) (mn b f) (mx c g) (mx d h) - areav a b c d)
theorem growth_spec (a b c d e f g h : Int) : spec_Growth.f a b c d e f g h = some (growthv a b c d e f g h) := by
  unfold spec_Growth.f
  rw [join_spec]; simp only [Option.bind_some, area_spec]; rfl
theorem growth_impl (a b c d e f g h : Int) : impl_Growth.f a b c d e f g h = some (growthv a b c d e f g h) := by
  unfold impl_Growth.f
  rw [join_impl]; simp only [Option.bind_some, area_impl]; rfl

/-! ### basic -/
theorem rd_nat (xs : List Int) (i : Nat) (h : i < xs.length) : rd xs (i : Int) = xs[i] := by
  unfold rd; rw [Int.toNat_natCast, List.getD_eq_getElem?_getD, List.getElem?_eq_getElem h]; rfl
theorem fill_take {α β : Type} (conv : α → β) (xs : List α) (ys : List β) (i : Nat) (hl : ys.length = xs.length) (hi : i < xs.length) (h : ys.take i = (xs.take i).map conv) :
    (ys.set i (conv xs[i])).take (i + 1) = (xs.take (i + 1)).map conv := by
  rw [List.take_succ_eq_append_getElem (by rw [List.length_set]; omega), List.take_succ_eq_append_getElem hi, List.getElem_set_self, List.map_append, List.take_set_of_le (Nat.le_refl i), h]; rfl
theorem wr_succ {i n : Nat} (h : i < n) (hn : n ≤ 140737488355328) : wrap64 ((i : Int) + 1) = ((i + 1 : Nat) : Int) := by
  rw [wr (by omega) (by omega)]; omega
theorem byte_bounds {xs : List Int} (h : ∀ x ∈ xs, (Lit.int .u8 x).wf = true) (i : Int) : 0 ≤ rd xs i ∧ rd xs i ≤ 255 := by
  unfold rd
  rw [List.getD_eq_getElem?_getD]
  exact range_u8 h _

/-! ### draw -/
theorem and255 (x : Int) : 0 ≤ Go.bits .and .i64 x 255 ∧ Go.bits .and .i64 x 255 ≤ 255 := by
  have h : (BitVec.ofInt IntKind.i64.bits x &&& BitVec.ofInt IntKind.i64.bits 255).toNat ≤ 255 := by
    rw [BitVec.toNat_and]
    exact Nat.le_trans Nat.and_le_right (by decide)
  have e : Go.bits .and .i64 x 255 = IntKind.i64.wrap ((BitVec.ofInt IntKind.i64.bits x &&& BitVec.ofInt IntKind.i64.bits 255).toNat : Int) := rfl
  rw [e, IntKind.wrap_i64]; omega
/-- A drawn value: it is there, meets P, and the cursor stays in the bytes. -/
def DOk {α : Type} (b : List Int) (P : α → Prop) (o : Option (α × Int × Int)) : Prop := ∃ x i h, o = some (x, i, h) ∧ P x ∧ 0 ≤ i ∧ i ≤ (b.length : Int)
theorem l1Byte_ok (b : List Int) (i h : Int) (hb : b.length ≤ 1048576) (h0 : 0 ≤ i) (h1 : i ≤ (b.length : Int)) : DOk b (fun x => 0 ≤ x ∧ x ≤ 255) (spec_l1Byte.f b i h) := by
  unfold spec_l1Byte.f DOk
  by_cases c : i < (b.length : Int)
  · rw [if_pos c, if_pos h0]
    exact ⟨_, _, _, rfl, and255 _, by rw [wr (by omega) (by omega)]; omega, by rw [wr (by omega) (by omega)]; omega⟩
  · rw [if_neg c]
    exact ⟨_, _, _, rfl, and255 _, h0, h1⟩
theorem l1Below_ok (b : List Int) (i h n : Int) (hb : b.length ≤ 1048576) (h0 : 0 ≤ i) (h1 : i ≤ (b.length : Int)) (hn : 0 < n) : DOk b (fun x => 0 ≤ x ∧ x < n) (spec_l1Below.f b i h n) := by
  unfold spec_l1Below.f
  rw [if_neg (by omega)]
  by_cases c : n ≤ 256
  · rw [if_pos c]
    obtain ⟨x, i1, g1, e1, hx, a1, b1⟩ := l1Byte_ok b i h hb h0 h1
    rw [e1]
    simp only [Option.bind_some]
    rw [if_neg (by omega), Int.tmod_eq_emod_of_nonneg (by omega)]
    exact ⟨_, _, _, rfl, ⟨Int.emod_nonneg _ (by omega), Int.emod_lt_of_pos _ hn⟩, a1, b1⟩
  · rw [if_neg c]
    obtain ⟨x, i1, g1, e1, hx, a1, b1⟩ := l1Byte_ok b i h hb h0 h1
    rw [e1]
    simp only [Option.bind_some]
    obtain ⟨y, i2, g2, e2, hy, a2, b2⟩ := l1Byte_ok b i1 g1 hb a1 b1
    rw [e2]
    simp only [Option.bind_some]
    obtain ⟨z, i3, g3, e3, hz, a3, b3⟩ := l1Byte_ok b i2 g2 hb a2 b2
    rw [e3]
    simp only [Option.bind_some]
    rw [if_neg (by omega), wr (n := x * 65536) (by omega) (by omega), wr (n := y * 256) (by omega) (by omega), wr (n := x * 65536 + y * 256) (by omega) (by omega), wr (n := x * 65536 + y * 256 + z) (by omega) (by omega), Int.tmod_eq_emod_of_nonneg (by omega)]
    exact ⟨_, _, _, rfl, ⟨Int.emod_nonneg _ (by omega), Int.emod_lt_of_pos _ hn⟩, a3, b3⟩
theorem l1New_l0 (b : List Int) (hb : b.length ≤ 1048576) (d : Nat) : ∀ (k i : Nat) (h : Int), i + d = b.length → d < k → ∃ g, spec_l1New.l0 k b h (i : Int) = some (b, 0, g) := by
  induction d with
  | zero =>
    intro k i h hi hk
    obtain ⟨k, rfl⟩ : ∃ m, k = m + 1 := ⟨k - 1, by omega⟩
    simp only [spec_l1New.l0]
    rw [if_neg (by omega)]
    exact ⟨_, rfl⟩
  | succ d ih =>
    intro k i h hi hk
    obtain ⟨k, rfl⟩ : ∃ m, k = m + 1 := ⟨k - 1, by omega⟩
    simp only [spec_l1New.l0]
    rw [if_pos (by omega)]
    split
    · rw [if_pos (by omega), wr_succ (n := b.length) (by omega) (by omega)]
      exact ih k (i + 1) _ (by omega) (by omega)
    · exact ⟨_, rfl⟩
theorem l1New_ok (k : Nat) (b : List Int) (hb : b.length ≤ 1048576) (hk : b.length < k) : ∃ g, spec_l1New.f k b = some (b, 0, g) := by
  unfold spec_l1New.f
  exact l1New_l0 b hb b.length k 0 _ (by omega) hk
theorem big_val (b : List Int) : laws_big.f b = some (decide ((b.length : Int) > 1048576)) := rfl

/-! ### drawOnce -/
theorem l1Once_ok (b : List Int) (i h n : Int) (hb : b.length ≤ 1048576) (h0 : 0 ≤ i) (h1 : i ≤ (b.length : Int)) (hn : 0 < n) : DOk b (fun _ : Bool => True) (spec_l1Once.f b i h n) := by
  unfold spec_l1Once.f
  obtain ⟨x, i1, g1, e1, hx, a1, b1⟩ := l1Below_ok b i h n hb h0 h1 hn
  rw [e1]
  exact ⟨_, _, _, rfl, trivial, a1, b1⟩

/-! ### drawInt -/
theorem rd_mem (l : List Int) (x : Int) (h0 : 0 ≤ x) (h1 : x < (l.length : Int)) : rd l x ∈ l := by
  obtain ⟨n, rfl⟩ := Int.eq_ofNat_of_zero_le h0
  rw [rd_nat l n (by omega)]
  exact List.getElem_mem _
theorem l1Int_ok (b l : List Int) (i h : Int) (hb : b.length ≤ 1048576) (h0 : 0 ≤ i) (h1 : i ≤ (b.length : Int)) (hl : 0 < l.length) : DOk b (fun x => x ∈ l) (spec_l1Int.f b i h l) := by
  unfold spec_l1Int.f
  obtain ⟨x, i1, g1, e1, hx, a1, b1⟩ := l1Below_ok b i h (l.length : Int) hb h0 h1 (by omega)
  rw [e1]
  simp only [Option.bind_some]
  rw [if_pos hx.1, if_pos hx.2]
  exact ⟨_, _, _, rfl, rd_mem l x hx.1 hx.2, a1, b1⟩

/-! ### drawRaw -/
theorem l1Odd_ok (b : List Int) (i h : Int) (hb : b.length ≤ 1048576) (h0 : 0 ≤ i) (h1 : i ≤ (b.length : Int)) : DOk b (fun x => (Lit.int .i64 x).wf = true) (spec_l1Odd.f b i h) := by
  unfold spec_l1Odd.f
  obtain ⟨x, i1, g1, e1, hx, a1, b1⟩ := l1Int_ok b [(-1), 0, 1, 2, 255, 256, 65535, 2147483647, 2147483648, 4294967295, 4294967296, (-2147483648), 9223372036854775807, (-9223372036854775808)] i h hb h0 h1 (by simp)
  rw [e1]
  have hz : (Lit.int .i64 x).wf = true := by
    simp only [List.mem_cons, List.not_mem_nil, or_false] at hx
    rcases hx with rfl | rfl | rfl | rfl | rfl | rfl | rfl | rfl | rfl | rfl | rfl | rfl | rfl | rfl <;> decide
  exact ⟨_, _, _, rfl, hz, a1, b1⟩
theorem l1Raw_ok (b : List Int) (i h : Int) (hb : b.length ≤ 1048576) (h0 : 0 ≤ i) (h1 : i ≤ (b.length : Int)) : DOk b (fun x => (Lit.int .i64 x).wf = true) (spec_l1Raw.f b i h) := by
  unfold spec_l1Raw.f
  obtain ⟨x, i1, g1, e1, hx, a1, b1⟩ := l1Once_ok b i h 2 hb h0 h1 (by omega)
  rw [e1]
  simp only [Option.bind_some]
  cases x
  · rw [if_neg (by simp)]
    obtain ⟨y, i2, g2, e2, hy, a2, b2⟩ := l1Int_ok b [(-1), 0, 1, 4, 255, 256, 65535, 65536] i1 g1 hb a1 b1 (by simp)
    rw [e2]
    have hz : (Lit.int .i64 y).wf = true := by
      simp only [List.mem_cons, List.not_mem_nil, or_false] at hy
      rcases hy with rfl | rfl | rfl | rfl | rfl | rfl | rfl | rfl <;> decide
    exact ⟨_, _, _, rfl, hz, a2, b2⟩
  · rw [if_pos rfl]
    obtain ⟨y, i2, g2, e2, hy, a2, b2⟩ := l1Odd_ok b i1 g1 hb a1 b1
    rw [e2]
    exact ⟨_, _, _, rfl, hy, a2, b2⟩

/-! ### drawBox -/
theorem l2Draw_ok (k : Nat) (b : List Int) (i h : Int) (hb : b.length ≤ 1048576) (h0 : 0 ≤ i) (h1 : i ≤ (b.length : Int)) (hk : 0 < k) :
    ∃ x y u v i1 g1, spec_l2Draw.f k b i h = some (x, y, u, v, i1, g1) ∧ 0 ≤ x ∧ x ≤ u ∧ u ≤ 255 ∧ 0 ≤ y ∧ y ≤ v ∧ v ≤ 255 ∧ 0 ≤ i1 ∧ i1 ≤ (b.length : Int) := by
  obtain ⟨k, rfl⟩ : ∃ m, k = m + 1 := ⟨k - 1, by omega⟩
  have tail : ∀ (x y i h : Int), 0 ≤ x → x ≤ 249 → 0 ≤ y → y ≤ 249 → 0 ≤ i → i ≤ (b.length : Int) →
      ∃ x1 y1 u v i1 g1, spec_l2Draw.j0 (k + 1) x y b i h = some (x1, y1, u, v, i1, g1) ∧ 0 ≤ x1 ∧ x1 ≤ u ∧ u ≤ 255 ∧ 0 ≤ y1 ∧ y1 ≤ v ∧ v ≤ 255 ∧ 0 ≤ i1 ∧ i1 ≤ (b.length : Int) := by
    intro x y i h x0 x1 y0 y1 i0 i1
    simp only [spec_l2Draw.j0]
    obtain ⟨dx, i2, g2, e2, hx, a2, b2⟩ := l1Int_ok b [0, 1, 5, 9, 40] i h hb i0 i1 (by simp)
    have hx : 0 ≤ dx ∧ dx ≤ 40 := by
      simp only [List.mem_cons, List.not_mem_nil, or_false] at hx
      omega
    rw [e2]; simp only [Option.bind_some]
    rw [wr (n := x + dx) (by omega) (by omega), least_spec]; simp only [Option.bind_some]
    obtain ⟨dy, i3, g3, e3, hy, a3, b3⟩ := l1Int_ok b [0, 1, 3, 12] i2 g2 hb a2 b2 (by simp)
    have hy : 0 ≤ dy ∧ dy ≤ 12 := by
      simp only [List.mem_cons, List.not_mem_nil, or_false] at hy
      omega
    rw [e3]; simp only [Option.bind_some]
    rw [wr (n := y + dy) (by omega) (by omega), least_spec]; simp only [Option.bind_some]
    refine ⟨_, _, _, _, _, _, rfl, x0, ?_, ?_, y0, ?_, ?_, a3, b3⟩ <;> unfold mn <;> split <;> omega
  unfold spec_l2Draw.f
  obtain ⟨x, i1, g1, e1, hx, a1, b1⟩ := l1Below_ok b i h 250 hb h0 h1 (by omega)
  rw [e1]; simp only [Option.bind_some]
  obtain ⟨y, i2, g2, e2, hy, a2, b2⟩ := l1Below_ok b i1 g1 250 hb a1 b1 (by omega)
  rw [e2]; simp only [Option.bind_some]
  obtain ⟨o, i3, g3, e3, _, a3, b3⟩ := l1Once_ok b i2 g2 2 hb a2 b2 (by omega)
  rw [e3]; simp only [Option.bind_some]
  cases o
  · rw [if_neg (by simp)]
    exact tail x y i3 g3 hx.1 (by omega) hy.1 (by omega) a3 b3
  · rw [if_pos rfl]
    obtain ⟨x2, i4, g4, e4, hx2, a4, b4⟩ := l1Below_ok b i3 g3 20 hb a3 b3 (by omega)
    rw [e4]; simp only [Option.bind_some]
    obtain ⟨y2, i5, g5, e5, hy2, a5, b5⟩ := l1Below_ok b i4 g4 20 hb a4 b4 (by omega)
    rw [e5]; simp only [Option.bind_some]
    exact tail x2 y2 i5 g5 hx2.1 (by omega) hy2.1 (by omega) a5 b5

/-! ### drawAny -/
theorem l2Any_ok (k : Nat) (b : List Int) (i h : Int) (hb : b.length ≤ 1048576) (h0 : 0 ≤ i) (h1 : i ≤ (b.length : Int)) (hk : 0 < k) :
    ∃ x y u v i1 g1, spec_l2Any.f k b i h = some (x, y, u, v, i1, g1) ∧ 0 ≤ i1 ∧ i1 ≤ (b.length : Int) := by
  unfold spec_l2Any.f
  obtain ⟨x, y, u, v, i1, g1, e1, _, _, _, _, _, _, a1, b1⟩ := l2Draw_ok k b i h hb h0 h1 hk
  rw [e1]; simp only [Option.bind_some]
  obtain ⟨n, i2, g2, e2, hn, a2, b2⟩ := l1Below_ok b i1 g1 12 hb a1 b1 (by omega)
  rw [e2]; simp only [Option.bind_some]
  obtain ⟨r, i3, g3, e3, _, a3, b3⟩ := l1Raw_ok b i2 g2 hb a2 b2
  split
  · rw [e3]; exact ⟨_, _, _, _, _, _, rfl, a3, b3⟩
  · split
    · rw [e3]; exact ⟨_, _, _, _, _, _, rfl, a3, b3⟩
    · split
      · exact ⟨_, _, _, _, _, _, rfl, a2, b2⟩
      · split
        · exact ⟨_, _, _, _, _, _, rfl, a2, b2⟩
        · exact ⟨_, _, _, _, _, _, rfl, a2, b2⟩

theorem l2Pair_ok (k : Nat) (b : List Int) (i h : Int) (hb : b.length ≤ 1048576) (h0 : 0 ≤ i) (h1 : i ≤ (b.length : Int)) (hk : 0 < k) :
    ∃ x y u v z1 z2 z3 z4 i1 g1, spec_l2Pair.f k b i h = some (x, y, u, v, z1, z2, z3, z4, i1, g1) ∧ 0 ≤ i1 ∧ i1 ≤ (b.length : Int) := by
  unfold spec_l2Pair.f
  obtain ⟨x, y, u, v, i1, g1, e1, a1, b1⟩ := l2Any_ok k b i h hb h0 h1 hk
  rw [e1]; simp only [Option.bind_some]
  obtain ⟨x2, y2, u2, v2, i2, g2, e2, a2, b2⟩ := l2Any_ok k b i1 g1 hb a1 b1 hk
  rw [e2]; simp only [Option.bind_some]
  obtain ⟨o, i3, g3, e3, _, a3, b3⟩ := l1Once_ok b i2 g2 3 hb a2 b2 (by omega)
  rw [e3]; simp only [Option.bind_some, most_spec]
  cases o
  · rw [if_neg (by simp)]; exact ⟨_, _, _, _, _, _, _, _, _, _, rfl, a3, b3⟩
  · rw [if_pos rfl]; exact ⟨_, _, _, _, _, _, _, _, _, _, rfl, a3, b3⟩
theorem drawJoin_ok (k : Nat) (l : List Int) (hl : l.length ≤ 1048576) (hk : l.length < k) : ∃ x y u v z1 z2 z3 z4, spec_DrawJoin.f k l = some (x, y, u, v, z1, z2, z3, z4) := by
  unfold spec_DrawJoin.f
  obtain ⟨g, e⟩ := l1New_ok k l hl hk
  rw [e]; simp only [Option.bind_some]
  obtain ⟨x, y, u, v, z1, z2, z3, z4, i1, g1, e1, _, _⟩ := l2Pair_ok k l 0 g hl (by omega) (by omega) (by omega)
  rw [e1]; exact ⟨_, _, _, _, _, _, _, _, rfl⟩
theorem drawMeets_ok (k : Nat) (l : List Int) (hl : l.length ≤ 1048576) (hk : l.length < k) : ∃ x y u v z1 z2 z3 z4, spec_DrawMeets.f k l = some (x, y, u, v, z1, z2, z3, z4) := by
  unfold spec_DrawMeets.f
  obtain ⟨g, e⟩ := l1New_ok k l hl hk
  rw [e]; simp only [Option.bind_some]
  obtain ⟨x, y, u, v, z1, z2, z3, z4, i1, g1, e1, _, _⟩ := l2Pair_ok k l 0 g hl (by omega) (by omega) (by omega)
  rw [e1]; exact ⟨_, _, _, _, _, _, _, _, rfl⟩
theorem drawGrowth_ok (k : Nat) (l : List Int) (hl : l.length ≤ 1048576) (hk : l.length < k) : ∃ x y u v z1 z2 z3 z4, spec_DrawGrowth.f k l = some (x, y, u, v, z1, z2, z3, z4) := by
  unfold spec_DrawGrowth.f
  obtain ⟨g, e⟩ := l1New_ok k l hl hk
  rw [e]; simp only [Option.bind_some]
  obtain ⟨x, y, u, v, z1, z2, z3, z4, i1, g1, e1, _, _⟩ := l2Pair_ok k l 0 g hl (by omega) (by omega) (by omega)
  rw [e1]; exact ⟨_, _, _, _, _, _, _, _, rfl⟩
theorem drawHolds_ok (k : Nat) (l : List Int) (hl : l.length ≤ 1048576) (hk : l.length < k) : ∃ x y u v z1 z2 z3 z4, spec_DrawHolds.f k l = some (x, y, u, v, z1, z2, z3, z4) := by
  unfold spec_DrawHolds.f
  obtain ⟨g, e⟩ := l1New_ok k l hl hk
  rw [e]; simp only [Option.bind_some]
  obtain ⟨x, y, u, v, z1, z2, z3, z4, i1, g1, e1, a1, b1⟩ := l2Pair_ok k l 0 g hl (by omega) (by omega) (by omega)
  rw [e1]; simp only [Option.bind_some]
  obtain ⟨o, i3, g3, e3, _, _, _⟩ := l1Once_ok l i1 g1 2 hl a1 b1 (by omega)
  rw [e3]; simp only [Option.bind_some, join_spec]
  cases o
  · rw [if_neg (by simp)]; exact ⟨_, _, _, _, _, _, _, _, rfl⟩
  · rw [if_pos rfl]; exact ⟨_, _, _, _, _, _, _, _, rfl⟩
theorem drawBoxOk_ok (k : Nat) (l : List Int) (hl : l.length ≤ 1048576) (hk : l.length < k) : ∃ x y u v, spec_DrawBoxOk.f k l = some (x, y, u, v) := by
  unfold spec_DrawBoxOk.f
  obtain ⟨g, e⟩ := l1New_ok k l hl hk
  rw [e]; simp only [Option.bind_some]
  obtain ⟨x, y, u, v, i1, g1, e1, _, _⟩ := l2Any_ok k l 0 g hl (by omega) (by omega) (by omega)
  rw [e1]; exact ⟨_, _, _, _, rfl⟩
theorem drawArea_ok (k : Nat) (l : List Int) (hl : l.length ≤ 1048576) (hk : l.length < k) : ∃ x y u v, spec_DrawArea.f k l = some (x, y, u, v) := by
  unfold spec_DrawArea.f
  obtain ⟨g, e⟩ := l1New_ok k l hl hk
  rw [e]; simp only [Option.bind_some]
  obtain ⟨x, y, u, v, i1, g1, e1, _, _⟩ := l2Any_ok k l 0 g hl (by omega) (by omega) (by omega)
  rw [e1]; exact ⟨_, _, _, _, rfl⟩
theorem mn_eq (a b : Int) : (mn a b = a ∧ a ≤ b) ∨ (mn a b = b ∧ b ≤ a) := by unfold mn; split <;> omega
theorem mx_eq (a b : Int) : (mx a b = a ∧ b ≤ a) ∨ (mx a b = b ∧ a ≤ b) := by unfold mx; split <;> omega
theorem mn_comm' (a b : Int) : mn a b = mn b a := by rcases mn_eq a b with h | h <;> rcases mn_eq b a with h' | h' <;> omega
theorem mx_comm' (a b : Int) : mx a b = mx b a := by rcases mx_eq a b with h | h <;> rcases mx_eq b a with h' | h' <;> omega
theorem mn_self' (a : Int) : mn a a = a := by rcases mn_eq a a with h | h <;> omega
theorem mx_self' (a : Int) : mx a a = a := by rcases mx_eq a a with h | h <;> omega
theorem mn_l (a b : Int) : mn (mn a b) a = mn a b := by rcases mn_eq a b with h | h <;> rcases mn_eq (mn a b) a with h' | h' <;> omega
theorem mx_l (a b : Int) : mx (mx a b) a = mx a b := by rcases mx_eq a b with h | h <;> rcases mx_eq (mx a b) a with h' | h' <;> omega
theorem mn_r (a b : Int) : mn (mn a b) b = mn a b := by rw [mn_comm' a b]; exact mn_l b a
theorem mx_r (a b : Int) : mx (mx a b) b = mx a b := by rw [mx_comm' a b]; exact mx_l b a
theorem holds_l (a b c d e f g h : Int) : holdsv (mn a e) (mn b f) (mx c g) (mx d h) a b c d = true := by
  unfold holdsv; rw [mn_l, mn_l, mx_l, mx_l]; simp
theorem holds_r (a b c d e f g h : Int) : holdsv (mn a e) (mn b f) (mx c g) (mx d h) e f g h = true := by
  unfold holdsv; rw [mn_r, mn_r, mx_r, mx_r]; simp
theorem meets_comm' (a b c d e f g h : Int) : meetsv a b c d e f g h = meetsv e f g h a b c d := by
  unfold meetsv
  have e1 : decide (a ≤ g ∧ e ≤ c ∧ b ≤ h ∧ f ≤ d) = decide (e ≤ c ∧ a ≤ g ∧ f ≤ d ∧ b ≤ h) := decide_eq_decide.2 ⟨fun ⟨p, q, r, s⟩ => ⟨q, p, s, r⟩, fun ⟨p, q, r, s⟩ => ⟨q, p, s, r⟩⟩
  rw [e1]
  cases okb a b c d <;> cases okb e f g h <;> simp
theorem meets_self {a b c d : Int} (h : okb a b c d = true) : meetsv a b c d a b c d = true := by
  unfold meetsv
  rw [h]
  have := (okb_iff a b c d).1 h
  simp only [Bool.true_and]
  exact decide_eq_true ⟨by omega, by omega, by omega, by omega⟩
theorem join_ok {a b c d e f g h : Int} (h1 : okb a b c d = true) (h2 : okb e f g h = true) : okb (mn a e) (mn b f) (mx c g) (mx d h) = true := by
  have p := (okb_iff a b c d).1 h1
  have q := (okb_iff e f g h).1 h2
  refine (okb_iff _ _ _ _).2 ?_
  rcases mn_eq a e with m1 | m1 <;> rcases mn_eq b f with m2 | m2 <;> rcases mx_eq c g with m3 | m3 <;> rcases mx_eq d h with m4 | m4 <;> omega
theorem join_area {a b c d e f g h : Int} (h1 : okb a b c d = true) (h2 : okb e f g h = true) : areav a b c d ≤ areav (mn a e) (mn b f) (mx c g) (mx d h) := by
  have h3 := join_ok h1 h2
  unfold areav
  rw [if_pos h1, if_pos h3]
  have p := (okb_iff a b c d).1 h1
  have m1 : mn a e ≤ a := by rcases mn_eq a e with m | m <;> omega
  have m2 : mn b f ≤ b := by rcases mn_eq b f with m | m <;> omega
  have m3 : c ≤ mx c g := by rcases mx_eq c g with m | m <;> omega
  have m4 : d ≤ mx d h := by rcases mx_eq d h with m | m <;> omega
  exact Int.mul_le_mul (by omega) (by omega) (by omega) (by omega)
theorem area_one {a b c d : Int} (h : okb a b c d = true) : 1 ≤ areav a b c d := by
  unfold areav; rw [if_pos h]; exact (area_box h).1
theorem area_max (a b c d : Int) : areav a b c d ≤ 65536 ∧ 0 ≤ areav a b c d := by
  unfold areav
  by_cases h : okb a b c d = true
  · rw [if_pos h]; have := area_box h; exact ⟨this.2, by omega⟩
  · rw [if_neg h]; exact ⟨by omega, by omega⟩
theorem join_growth {a b c d e f g h : Int} (h1 : okb a b c d = true) (h2 : okb e f g h = true) : 0 ≤ growthv a b c d e f g h := by
  unfold growthv
  have p := join_area h1 h2
  have q := area_max (mn a e) (mn b f) (mx c g) (mx d h)
  have r := area_max a b c d
  rw [wr (by omega) (by omega)]; omega
theorem j1_ok (k : Nat) (a b c d e f g h m1 m2 m3 m4 n1 n2 n3 n4 x y u v : Int) (t : Bool) (ht : t = true → okb a b c d = true ∧ okb e f g h = true) :
    laws_FnBoxes.j1 (k + 1) t a b c d e f g h (mn a e) (mn b f) (mx c g) (mx d h) m1 m2 m3 m4 n1 n2 n3 n4 x y u v = some true := by
  have last : ((some (okb x y u v)).bind fun t457 => (if t457 = true then ((some (areav x y u v)).bind fun t458 => (if t458 ≥ 1 then ((some (meetsv x y u v x y u v)).bind fun t459 => (some t459)) else (some false))) else (some true))) = some true := by
    simp only [Option.bind_some]
    by_cases q : okb x y u v = true
    · rw [if_pos q, if_pos (area_one q), meets_self q]
    · rw [if_neg q]
  have hm : (meetsv m1 m2 m3 m4 n1 n2 n3 n4 == meetsv n1 n2 n3 n4 m1 m2 m3 m4) = true := by rw [meets_comm' m1 m2 m3 m4 n1 n2 n3 n4]; simp
  have ha : (mn a e == mn e a && (mn b f == mn f b && (mx c g == mx g c && (mx d h == mx h d)))) = true := by
    rw [mn_comm' a e, mn_comm' b f, mx_comm' c g, mx_comm' d h]; simp
  have hs : (mn a a == a && (mn b b == b && (mx c c == c && (mx d d == d)))) = true := by
    rw [mn_self', mn_self', mx_self', mx_self']; simp
  simp only [laws_FnBoxes.j1, holds_impl, join_impl, boxok_impl, area_impl, growth_impl, meets_impl]
  simp only [Option.bind_some] at last ⊢
  rw [if_pos (holds_l a b c d e f g h), if_pos (holds_r a b c d e f g h), if_pos ha, if_pos hs]
  cases t
  · rw [if_neg (by simp), if_pos hm]; exact last
  · obtain ⟨p, q⟩ := ht rfl
    rw [if_pos rfl, if_pos (join_ok p q), if_pos (join_area p q), if_pos (join_growth p q), if_pos hm]; exact last
theorem j0_ok (k : Nat) (a b c d e f g h m1 m2 m3 m4 n1 n2 n3 n4 x y u v : Int) :
    laws_FnBoxes.j0 (k + 2) false a b c d e f g h (mn a e) (mn b f) (mx c g) (mx d h) m1 m2 m3 m4 n1 n2 n3 n4 x y u v = some true := by
  simp only [laws_FnBoxes.j0, boxok_impl, Option.bind_some]
  rw [if_neg (by simp)]
  by_cases p : okb a b c d = true
  · rw [if_pos p]; exact j1_ok k a b c d e f g h m1 m2 m3 m4 n1 n2 n3 n4 x y u v _ fun q => ⟨p, q⟩
  · rw [if_neg p]; exact j1_ok k a b c d e f g h m1 m2 m3 m4 n1 n2 n3 n4 x y u v _ fun q => by cases q
theorem pure_law (l : List Int) (hm : l.length ≤ maxLen) (hb : ∀ x ∈ l, (Lit.int .u8 x).wf = true) : ∃ k, laws_FnBoxes.f k l = some true := by
  refine ⟨l.length + 2, ?_⟩
  unfold laws_FnBoxes.f
  rw [big_val]; simp only [Option.bind_some]
  by_cases hbig : (l.length : Int) > 1048576
  · rw [if_pos (decide_eq_true hbig)]
  rw [if_neg (by rw [decide_eq_false hbig]; simp)]
  have hl : l.length ≤ 1048576 := by omega
  obtain ⟨a, b, c, d, e, f, g, h, e1⟩ := drawJoin_ok (l.length + 2) l hl (by omega)
  obtain ⟨m1, m2, m3, m4, n1, n2, n3, n4, e2⟩ := drawMeets_ok (l.length + 2) l hl (by omega)
  obtain ⟨h1, h2, h3, h4, o1, o2, o3, o4, e3⟩ := drawHolds_ok (l.length + 2) l hl (by omega)
  obtain ⟨g1, g2, g3, g4, p1, p2, p3, p4, e4⟩ := drawGrowth_ok (l.length + 2) l hl (by omega)
  obtain ⟨b1, b2, b3, b4, e5⟩ := drawBoxOk_ok (l.length + 2) l hl (by omega)
  obtain ⟨x, y, u, v, e6⟩ := drawArea_ok (l.length + 2) l hl (by omega)
  rw [e1]; simp only [Option.bind_some]
  rw [e2, e3, e4, e5, e6]
  simp only [Option.bind_some, join_impl, join_spec, meets_impl, meets_spec, holds_impl, holds_spec, growth_impl, growth_spec, boxok_impl, boxok_spec, area_impl, area_spec, beq_self_eq_true, Bool.not_true, Bool.or_false, bne_self_eq_false, if_true]
  simp only [Bool.false_eq_true, if_false]
  exact j0_ok l.length a b c d e f g h m1 m2 m3 m4 n1 n2 n3 n4 b1 b2 b3 b4
end Go.Proofs.Ytjmgomailgplcaa.PureFnBoxes
