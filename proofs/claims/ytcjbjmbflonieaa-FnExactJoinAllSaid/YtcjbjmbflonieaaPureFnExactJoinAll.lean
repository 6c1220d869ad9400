/- The pure statement of FnExactJoinAll: the join of all rectangles is what the reference tells, for all lists of rectangles; condition: the list's length is a length. -/
import Derived.Test.YtcjbjmbflonieaaPFnExactJoinAllx2
import Derived.OpenShut
namespace Go.Proofs.Ytcjbjmbflonieaa.PureFnExactJoinAll
open Go.RowKit Go.Proofs.Ytcjbjmbflonieaa.PFnExactJoinAll Go.Proofs.YtcjbjmbflonieaaW.PrintWords Go.Proofs.YtcjbjmbflonieaaW.PrintLast Go.Proofs.YtcjbjmbflonieaaW.PrintMore
set_option linter.unusedVariables false
set_option linter.unusedSimpArgs false

/-! ### minmax -/
theorem mn_le (a b : Int) : mn a b = if b < a then b else a := rfl
theorem mx_ge (a b : Int) : mx a b = if a < b then b else a := rfl

/-! ### least -/
theorem least_spec (a b : Int) : spec_Least.f a b = some (mn a b) := by
  unfold spec_Least.f mn; split <;> rfl

/-! ### most -/
theorem most_spec (a b : Int) : spec_Most.f a b = some (mx a b) := by
  unfold spec_Most.f mx
  by_cases h : a < b
  · rw [if_pos h, if_pos h]
  · rw [if_neg h, if_neg h]

/-! ### join -/
theorem join_spec (a b c d e f g h : Int) : spec_Join.f a b c d e f g h = some (mn a e, mn b f, mx c g, mx d h) := by
  unfold spec_Join.f
  simp only [least_spec, most_spec, Option.bind_some]
theorem join_impl (a b c d e f g h : Int) : impl_Join.f a b c d e f g h = some (mn a e, mn b f, mx c g, mx d h) := rfl

/-! ### rdS:Box -/
theorem rd_implBox (xs : List S45) (i : Nat) (h : i < xs.length) : rd_T45 xs (i : Int) = xs[i] := by
  unfold rd_T45; rw [Int.toNat_natCast, List.getD_eq_getElem?_getD, List.getElem?_eq_getElem h]; rfl

/-! ### wrap -/
theorem wr {n : Int} (h0 : -9223372036854775808 ≤ n) (h1 : n ≤ 9223372036854775807) : wrap64 n = n := by
  unfold wrap64; omega
theorem wf64 {n : Int} (h : (Lit.int .i64 n).wf = true) : -9223372036854775808 ≤ n ∧ n ≤ 9223372036854775807 := bounds_i64 h

/-! ### basic -/
theorem rd_nat (xs : List Int) (i : Nat) (h : i < xs.length) : rd xs (i : Int) = xs[i] := by
  unfold rd; rw [Int.toNat_natCast, List.getD_eq_getElem?_getD, List.getElem?_eq_getElem h]; rfl
theorem fill_take {α β : Type} (conv : α → β) (xs : List α) (ys : List β) (i : Nat) (hl : ys.length = xs.length) (hi : i < xs.length) (h : ys.take i = (xs.take i).map conv) :
    (ys.set i (conv xs[i])).take (i + 1) = (xs.take (i + 1)).map conv := by
  rw [List.take_succ_eq_append_getElem (by rw [List.length_set]; omega), List.take_succ_eq_append_getElem hi, List.getElem_set_self, List.map_append, List.take_set_of_le (Nat.le_refl i), h]; rfl
theorem wr_succ {i n : Nat} (h : i < n) (hn : n ≤ 140737488355328) : wrap64 ((i : Int) + 1) = ((i + 1 : Nat) : Int) := by
  rw [wr (by omega) (by omega)]; omega
theorem byte_bounds {xs : List Int} (h : ∀ x ∈ xs, (Lit.int .u8 x).wf = true) (i : Int) : 0 ≤ rd xs i ∧ rd xs i ≤ 255 := by
  unfold rd
  rw [List.getD_eq_getElem?_getD]
  exact range_u8 h _

/-! ### rows -/
theorem filled {α β : Type} (conv : α → β) (xs : List α) (ys : List β) (hl : ys.length = xs.length) (i : Nat) (hi : i = xs.length) (h : ys.take i = (xs.take i).map conv) : ys = xs.map conv := by
  rw [List.take_of_length_le (by omega), List.take_of_length_le (by omega)] at h; exact h

/-! ### joinall -/
def jn (s : Int × Int × Int × Int) (b : S45) : Int × Int × Int × Int := (mn s.1 b.f0, mn s.2.1 b.f1, mx s.2.2.1 b.f2, mx s.2.2.2 b.f3)
theorem joinall_spec_l0 (xs : List S45) (hx : xs.length ≤ 140737488355328) (d : Nat) : ∀ (k i : Nat) (a b c e : Int), i + d = xs.length → d < k →
    spec_JoinAll.l0 k xs (i : Int) a b c e = some ((xs.drop i).foldl jn (a, b, c, e)) := by
  induction d with
  | zero =>
    intro k i a b c e hi hk
    obtain ⟨k, rfl⟩ : ∃ m, k = m + 1 := ⟨k - 1, by omega⟩
    simp only [spec_JoinAll.l0]
    rw [if_neg (by omega), List.drop_eq_nil_of_le (by omega)]; rfl
  | succ d ih =>
    intro k i a b c e hi hk
    obtain ⟨k, rfl⟩ : ∃ m, k = m + 1 := ⟨k - 1, by omega⟩
    simp only [spec_JoinAll.l0]
    rw [if_pos (by omega), if_pos (by omega), rd_implBox xs i (by omega), join_spec]
    simp only [Option.bind_some]
    rw [wr_succ (n := xs.length) (by omega) hx, ih k (i + 1) _ _ _ _ (by omega) (by omega), List.drop_eq_getElem_cons (show i < xs.length by omega)]; rfl
theorem joinall_impl_l0 (xs : List S45) (hx : xs.length ≤ 140737488355328) (d : Nat) : ∀ (k i : Nat) (a b c e : Int), i + d = xs.length → d < k →
    impl_JoinAll.l0 k xs (xs.length : Int) (i : Int) a b c e = some ((xs.drop i).foldl jn (a, b, c, e)) := by
  induction d with
  | zero =>
    intro k i a b c e hi hk
    obtain ⟨k, rfl⟩ : ∃ m, k = m + 1 := ⟨k - 1, by omega⟩
    simp only [impl_JoinAll.l0]
    rw [if_neg (by omega), List.drop_eq_nil_of_le (by omega)]; rfl
  | succ d ih =>
    intro k i a b c e hi hk
    obtain ⟨k, rfl⟩ : ∃ m, k = m + 1 := ⟨k - 1, by omega⟩
    simp only [impl_JoinAll.l0]
    rw [if_pos (by omega), if_pos (by omega), if_pos (by omega), rd_implBox xs i (by omega), join_impl]
    simp only [Option.bind_some]
    rw [wr_succ (n := xs.length) (by omega) hx, ih k (i + 1) _ _ _ _ (by omega) (by omega), List.drop_eq_getElem_cons (show i < xs.length by omega)]; rfl
theorem mn_self (a : Int) : mn a a = a := by unfold mn; split <;> rfl
theorem mx_self (a : Int) : mx a a = a := by unfold mx; split <;> rfl
def joinallv (xs : List S45) : Int × Int × Int × Int := match xs with
  | [] => (0, 0, 0, 0)
  | x :: r => r.foldl jn (x.f0, x.f1, x.f2, x.f3)
theorem joinall_spec (k : Nat) (xs : List S45) (hx : xs.length ≤ 140737488355328) (hk : xs.length < k) : spec_JoinAll.f k xs = some (joinallv xs) := by
  unfold spec_JoinAll.f
  cases xs with
  | nil => rfl
  | cons x r =>
    rw [List.length_cons] at hk hx ⊢
    rw [if_neg (by omega), if_pos (by omega)]
    have := joinall_spec_l0 (x :: r) (by rw [List.length_cons]; omega) r.length k 1 x.f0 x.f1 x.f2 x.f3 (by rw [List.length_cons]; omega) (by omega)
    exact this
theorem joinall_impl (k : Nat) (xs : List S45) (hx : xs.length ≤ 140737488355328) (hk : xs.length < k) : impl_JoinAll.f k xs = some (joinallv xs) := by
  unfold impl_JoinAll.f
  cases xs with
  | nil => rfl
  | cons x r =>
    rw [List.length_cons] at hk hx ⊢
    rw [if_neg (by omega), if_pos (by omega)]
    have := joinall_impl_l0 (x :: r) (by rw [List.length_cons]; omega) (r.length + 1) k 0 x.f0 x.f1 x.f2 x.f3 (by rw [List.length_cons]; omega) (by omega)
    rw [List.length_cons] at this
    refine Eq.trans this ?_
    show some ((x :: r).foldl jn (x.f0, x.f1, x.f2, x.f3)) = _
    rw [List.foldl_cons]
    unfold joinallv jn
    simp only [mn_self, mx_self]

/-! ### rdL:Box -/
theorem rd_lawsBox (xs : List S51) (i : Nat) (h : i < xs.length) : rd_T51 xs (i : Int) = xs[i] := by
  unfold rd_T51; rw [Int.toNat_natCast, List.getD_eq_getElem?_getD, List.getElem?_eq_getElem h]; rfl

/-! ### box -/
theorem toBox_some (a b c d : Int) : laws_toBox.f a b c d = some (a, b, c, d) := rfl

/-! ### convBox -/
def convBox (x : S51) : S45 := ⟨x.f0, x.f1, x.f2, x.f3⟩

/-! ### to:Box -/
theorem toBoxS_l0 (xs : List S51) (hx : xs.length ≤ 1048576) (d : Nat) : ∀ (k i : Nat) (ys : List S45), ys.length = xs.length → i + d = xs.length → ys.take i = (xs.take i).map convBox → d < k →
    laws_toBoxS.l0 k xs ys (i : Int) = some (xs.map convBox) := by
  induction d with
  | zero =>
    intro k i ys hl hi hy hk
    obtain ⟨k, rfl⟩ : ∃ m, k = m + 1 := ⟨k - 1, by omega⟩
    simp only [laws_toBoxS.l0]
    rw [if_neg (by omega), filled convBox xs ys hl i (by omega) hy]
  | succ d ih =>
    intro k i ys hl hi hy hk
    obtain ⟨k, rfl⟩ : ∃ m, k = m + 1 := ⟨k - 1, by omega⟩
    simp only [laws_toBoxS.l0]
    rw [if_pos (by omega), if_pos (by omega), rd_lawsBox xs i (by omega), toBox_some]
    simp only [Option.bind_some]
    rw [if_pos (by omega), Int.toNat_natCast, wr_succ (n := xs.length) (by omega) (by omega)]
    exact ih k (i + 1) _ (by rw [List.length_set]; exact hl) (by omega) (fill_take convBox xs ys i hl (by omega) hy) (by omega)
theorem toBoxS_some (k : Nat) (xs : List S51) (hx : xs.length ≤ 1048576) (hk : xs.length < k) : laws_toBoxS.f k xs = some (xs.map convBox) := by
  unfold laws_toBoxS.f
  rw [if_pos (by omega), if_pos (by omega)]
  exact toBoxS_l0 xs hx xs.length k 0 _ (by simp) (by omega) (by simp) hk

/-! ### eq1Box -/
theorem eqBox_self (a b c d : Int) : laws_eqBox.f a b c d a b c d = some true := by simp [laws_eqBox.f]

/-! ### eq:Box -/
theorem eqBoxS_l0 (xs : List S45) (hx : xs.length ≤ 140737488355328) (d : Nat) : ∀ (k i : Nat), i + d = xs.length → d < k → laws_eqBoxS.l0 k xs xs (i : Int) = some true := by
  induction d with
  | zero =>
    intro k i hi hk
    obtain ⟨k, rfl⟩ : ∃ m, k = m + 1 := ⟨k - 1, by omega⟩
    simp only [laws_eqBoxS.l0]
    rw [if_neg (by omega)]
  | succ d ih =>
    intro k i hi hk
    obtain ⟨k, rfl⟩ : ∃ m, k = m + 1 := ⟨k - 1, by omega⟩
    simp only [laws_eqBoxS.l0]
    rw [if_pos (by omega), if_pos (by omega), if_pos (by omega), eqBox_self]
    simp only [Option.bind_some, if_true]
    rw [wr_succ (n := xs.length) (by omega) hx]
    exact ih k (i + 1) (by omega) (by omega)
theorem eqBoxS_same (k : Nat) (xs : List S45) (hx : xs.length ≤ 140737488355328) (hk : xs.length < k) : laws_eqBoxS.f k xs xs = some true := by
  unfold laws_eqBoxS.f
  rw [if_pos rfl]
  exact eqBoxS_l0 xs hx xs.length k 0 (by omega) hk

/-! ### sz:Box -/
theorem szBoxS_some (l : List S51) (a : Int) (hl : l.length ≤ maxLen) (h0 : 0 ≤ a) (h1 : a ≤ 1048576) : laws_szBoxS.f l a = some (if a - (l.length : Int) < 0 then -1 else a - (l.length : Int)) := by
  unfold maxLen at hl
  unfold laws_szBoxS.f
  rw [wr (n := a - (l.length : Int)) (by omega) (by omega)]
  split <;> rfl

theorem pure_law (l : List S51) (hm : l.length ≤ maxLen) : ∃ k, laws_FnExactJoinAll.f k l = some true := by
  refine ⟨l.length + 1, ?_⟩
  unfold laws_FnExactJoinAll.f
  rw [szBoxS_some l _ hm (by omega) (by omega)]
  simp only [Option.bind_some]
  by_cases h : (1048576 : Int) - (l.length : Int) < 0
  · rw [if_pos h]; rfl
  · rw [if_neg h, if_neg h]
    have hl : (l.map convBox).length = l.length := List.length_map ..
    rw [toBoxS_some (l.length + 1) l (by omega) (by omega)]
    simp only [Option.bind_some]
    rw [joinall_spec (l.length + 1) _ (by omega) (by omega), joinall_impl (l.length + 1) _ (by omega) (by omega)]
    simp only [Option.bind_some, eqBox_self, if_true]
    rw [eqBoxS_same (l.length + 1) _ (by omega) (by omega)]
    simp
end Go.Proofs.Ytcjbjmbflonieaa.PureFnExactJoinAll
