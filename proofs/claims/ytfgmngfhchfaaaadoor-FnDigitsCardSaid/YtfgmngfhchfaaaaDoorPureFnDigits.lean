/- The pure statement of FnDigits: numbers come back of their digits, and what is divided and rounded up is enough, for all codes; condition: the list's length is a length. -/
import Derived.Test.YtfgmngfhchfaaaaDoorPFnDigitsx3
import Derived.OpenShut
import Derived.Lib.ItoaLen
import Derived.Lib.AppendIntMem
import Derived.Laws.BitsLemmas
import Derived.Laws.StructEq
namespace Go.Proofs.YtfgmngfhchfaaaaDoor.PureFnDigits
open Go.RowKit Go.Proofs.YtfgmngfhchfaaaaDoor.PFnDigits Go.Proofs.YtfgmngfhchfaaaaDoorW.PrintWords Go.Proofs.YtfgmngfhchfaaaaDoorW.PrintLast Go.Proofs.YtfgmngfhchfaaaaDoorW.PrintMore
set_option linter.unusedVariables false
set_option linter.unusedSimpArgs false

/-! ### wrap -/
theorem wr {n : Int} (h0 : -9223372036854775808 ≤ n) (h1 : n ≤ 9223372036854775807) : wrap64 n = n := by
  unfold wrap64; omega
theorem wf64 {n : Int} (h : (Lit.int .i64 n).wf = true) : -9223372036854775808 ≤ n ∧ n ≤ 9223372036854775807 := bounds_i64 h

/-! ### numtext -/
def digs (u : Nat) : List UInt8 := if u = 0 then [] else Lib.decDigits u
theorem digs_step (u : Nat) (h : u ≠ 0) : digs u = digs (u / 10) ++ [UInt8.ofNat (48 + u % 10)] := by
  unfold digs
  rw [if_neg h]
  by_cases h1 : u < 10
  · rw [if_pos (by omega), Lib.decDigits, dif_pos h1, List.nil_append, Nat.mod_eq_of_lt h1]
  · rw [if_neg (by omega), Lib.decDigits, dif_neg h1]
theorem strOf_one (z : Int) : (strOfNums [z]).data.toList = [UInt8.ofNat z.toNat] := by
  unfold strOfNums
  simp
theorem app_list (a b : ByteArray) : (a ++ b).data.toList = a.data.toList ++ b.data.toList := by
  rw [ByteArray.data_append, Array.toList_append]
theorem size_list (a : ByteArray) : a.size = a.data.toList.length := by rw [Array.length_toList]; rfl
theorem of_list (a : ByteArray) (l : List UInt8) (h : a.data.toList = l) : a = ⟨l.toArray⟩ := by
  subst h; simp

theorem byte_neg (t : Int) (m : Nat) (h : t.natAbs = m) (hm : m < 10) (hn : t < 0) : (wrap64 (48 + (wrap64 (-t)))) % 256 = 48 + (m : Int) := by
  rw [wr (n := -t) (by omega) (by omega), wr (by omega) (by omega)]; omega
theorem byte_pos (t : Int) (m : Nat) (h : t.natAbs = m) (hm : m < 10) (hn : ¬ t < 0) : (wrap64 (48 + t)) % 256 = 48 + (m : Int) := by
  rw [wr (by omega) (by omega)]; omega

theorem loop_val (x0 : Int) (d : Nat) : ∀ (k : Nat) (s : ByteArray) (x : Int), -9223372036854775808 ≤ x → x ≤ 9223372036854775807 → x.natAbs < 10 ^ d → s.size + d ≤ 100 → d < k →
    ∃ r, spec_NumText.l0 k x0 s x = some r ∧ r.data.toList = (if x0 < 0 then [45] else []) ++ digs x.natAbs ++ s.data.toList := by
  induction d with
  | zero =>
    intro k s x h0 h1 hx hs hk
    obtain ⟨k, rfl⟩ : ∃ m, k = m + 1 := ⟨k - 1, by omega⟩
    have hz : x = 0 := by omega
    simp only [spec_NumText.l0]
    rw [if_pos hz]
    by_cases hn : x0 < 0
    · rw [if_pos hn, if_pos (by omega), if_pos hn]
      exact ⟨_, rfl, by rw [app_list]; simp [digs, hz]⟩
    · rw [if_neg hn, if_neg hn]
      exact ⟨_, rfl, by simp [digs, hz]⟩
  | succ d ih =>
    intro k s x h0 h1 hx hs hk
    obtain ⟨k, rfl⟩ : ∃ m, k = m + 1 := ⟨k - 1, by omega⟩
    simp only [spec_NumText.l0]
    by_cases hz : x = 0
    · rw [if_pos hz]
      by_cases hn : x0 < 0
      · rw [if_pos hn, if_pos (by omega), if_pos hn]
        exact ⟨_, rfl, by rw [app_list]; simp [digs, hz]⟩
      · rw [if_neg hn, if_neg hn]
        exact ⟨_, rfl, by simp [digs, hz]⟩
    · rw [if_neg hz]
      have hdiv : (Int.tdiv x 10).natAbs = x.natAbs / 10 := by rw [Int.natAbs_tdiv]; rfl
      have hb : (Int.tdiv x 10).natAbs < 10 ^ d := by rw [hdiv]; rw [Nat.pow_succ] at hx; omega
      have hr : (Int.tmod x 10).natAbs = x.natAbs % 10 := by rw [Int.natAbs_tmod]; rfl
      have hm := Nat.mod_lt x.natAbs (show 10 > 0 by decide)
      have hwd : wrap64 (Int.tdiv x 10) = Int.tdiv x 10 := wr (by omega) (by omega)
      obtain ⟨m, em⟩ : ∃ m, m = x.natAbs % 10 := ⟨_, rfl⟩
      rw [← em] at hr hm
      have fin : ∃ r, ((some (([48 + (m : Int)] : List Int) : List Int)).bind fun y => (if (strOfNums y).size + s.size ≤ 9223372036854775807 then (spec_NumText.l0 k x0 ((strOfNums y) ++ s) (wrap64 (Int.tdiv x 10))) else (none))) = some r ∧ r.data.toList = (if x0 < 0 then [45] else []) ++ digs x.natAbs ++ s.data.toList := by
        have hl := strOf_one (48 + (m : Int))
        have hsz : (strOfNums [48 + (m : Int)]).size = 1 := by rw [size_list, hl]; rfl
        simp only [Option.bind_some]
        rw [if_pos (by omega), hwd]
        obtain ⟨r, e, hr⟩ := ih k (strOfNums [48 + (m : Int)] ++ s) (Int.tdiv x 10) (by omega) (by omega) hb (by rw [size_list, app_list, List.length_append, ← size_list, ← size_list, hsz]; omega) (by omega)
        refine ⟨r, e, ?_⟩
        rw [hr, app_list, hl, hdiv, digs_step x.natAbs (by omega), ← em]
        have : (48 + (m : Int)).toNat = 48 + m := by omega
        rw [this]
        simp [List.append_assoc]
      by_cases hn : Int.tmod x 10 < 0
      · rw [if_pos hn, byte_neg _ m hr hm hn]
        exact fin
      · rw [if_neg hn, byte_pos _ m hr hm hn]
        exact fin

/-- THE REFERENCE's NumText IS THE DECIMAL NUMERAL. -/
theorem numtext_spec0 (k : Nat) (n : Int) (h0 : -9223372036854775808 ≤ n) (h1 : n ≤ 9223372036854775807) (hk : 50 < k) : spec_NumText.f k n = some ⟨(Lib.itoa n).toArray⟩ := by
  unfold spec_NumText.f
  by_cases hz : n = 0
  · subst hz
    rw [if_pos rfl]
    have : Lib.itoa 0 = [48] := by unfold Lib.itoa; rw [if_neg (by decide), Lib.decDigits, dif_pos (by decide)]; rfl
    rw [this]
  · rw [if_neg hz]
    obtain ⟨r, e, hr⟩ := loop_val n 20 k ⟨#[]⟩ n h0 h1 (by omega) (by decide) (by omega)
    rw [e, of_list r _ hr]
    congr 3
    unfold Lib.itoa digs
    by_cases hn : n < 0
    · rw [if_pos hn, if_pos hn, if_neg (by omega)]; simp
    · rw [if_neg hn, if_neg hn, if_neg (by omega)]
      have : n.natAbs = n.toNat := by omega
      rw [this]; simp
def itoaB (n : Int) : ByteArray := ⟨(Lib.itoa n).toArray⟩
theorem itoaB_size (n : Int) (h0 : -9223372036854775808 ≤ n) (h1 : n ≤ 9223372036854775807) : (itoaB n).size ≤ 21 := by
  rw [size_list]; exact Lib.itoa_length_le n h0 h1
theorem numtext_spec (k : Nat) (n : Int) (h0 : -9223372036854775808 ≤ n) (h1 : n ≤ 9223372036854775807) (hk : 50 < k) : spec_NumText.f k n = some (itoaB n) := numtext_spec0 k n h0 h1 hk
theorem numtext_impl (n : Int) (h0 : -9223372036854775808 ≤ n) (h1 : n ≤ 9223372036854775807) : impl_NumText.f n = some (itoaB n) := by
  unfold impl_NumText.f; rw [if_pos ⟨h0, h1⟩]; rfl

/-! ### basic -/
theorem rd_nat (xs : List Int) (i : Nat) (h : i < xs.length) : rd xs (i : Int) = xs[i] := by
  unfold rd; rw [Int.toNat_natCast, List.getD_eq_getElem?_getD, List.getElem?_eq_getElem h]; rfl
theorem fill_take {α β : Type} (conv : α → β) (xs : List α) (ys : List β) (i : Nat) (hl : ys.length = xs.length) (hi : i < xs.length) (h : ys.take i = (xs.take i).map conv) :
    (ys.set i (conv xs[i])).take (i + 1) = (xs.take (i + 1)).map conv := by
  rw [List.take_succ_eq_append_getElem (by rw [List.length_set]; omega), List.take_succ_eq_append_getElem hi, List.getElem_set_self, List.map_append, List.take_set_of_le (Nat.le_refl i), h]; rfl
theorem wr_succ {i n : Nat} (h : i < n) (hn : n ≤ 140737488355328) : wrap64 ((i : Int) + 1) = ((i + 1 : Nat) : Int) := by
  rw [wr (by omega) (by omega)]; omega
theorem byte_bounds {xs : List Int} (h : ∀ x ∈ xs, (Lit.int .u8 x).wf = true) (i : Int) : 0 ≤ rd xs i ∧ rd xs i ≤ 255 := by
  unfold rd
  rw [List.getD_eq_getElem?_getD]
  exact range_u8 h _

/-! ### draw -/
theorem and255 (x : Int) : 0 ≤ Go.bits .and .i64 x 255 ∧ Go.bits .and .i64 x 255 ≤ 255 := by
  have h : (BitVec.ofInt IntKind.i64.bits x &&& BitVec.ofInt IntKind.i64.bits 255).toNat ≤ 255 := by
    rw [BitVec.toNat_and]
    exact Nat.le_trans Nat.and_le_right (by decide)
  have e : Go.bits .and .i64 x 255 = IntKind.i64.wrap ((BitVec.ofInt IntKind.i64.bits x &&& BitVec.ofInt IntKind.i64.bits 255).toNat : Int) := rfl
  rw [e, IntKind.wrap_i64]; omega
/-- A drawn value: it is there, meets P, and the cursor stays in the bytes. -/
def DOk {α : Type} (b : List Int) (P : α → Prop) (o : Option (α × Int × Int)) : Prop := ∃ x i h, o = some (x, i, h) ∧ P x ∧ 0 ≤ i ∧ i ≤ (b.length : Int)
theorem l1Byte_ok (b : List Int) (i h : Int) (hb : b.length ≤ 1048576) (h0 : 0 ≤ i) (h1 : i ≤ (b.length : Int)) : DOk b (fun x => 0 ≤ x ∧ x ≤ 255) (spec_l1Byte.f b i h) := by
  unfold spec_l1Byte.f DOk
  by_cases c : i < (b.length : Int)
  · rw [if_pos c, if_pos h0]
    exact ⟨_, _, _, rfl, and255 _, by rw [wr (by omega) (by omega)]; omega, by rw [wr (by omega) (by omega)]; omega⟩
  · rw [if_neg c]
    exact ⟨_, _, _, rfl, and255 _, h0, h1⟩
theorem l1Below_ok (b : List Int) (i h n : Int) (hb : b.length ≤ 1048576) (h0 : 0 ≤ i) (h1 : i ≤ (b.length : Int)) (hn : 0 < n) : DOk b (fun x => 0 ≤ x ∧ x < n) (spec_l1Below.f b i h n) := by
  unfold spec_l1Below.f
  rw [if_neg (by omega)]
  by_cases c : n ≤ 256
  · rw [if_pos c]
    obtain ⟨x, i1, g1, e1, hx, a1, b1⟩ := l1Byte_ok b i h hb h0 h1
    rw [e1]
    simp only [Option.bind_some]
    rw [if_neg (by omega), Int.tmod_eq_emod_of_nonneg (by omega)]
    exact ⟨_, _, _, rfl, ⟨Int.emod_nonneg _ (by omega), Int.emod_lt_of_pos _ hn⟩, a1, b1⟩
  · rw [if_neg c]
    obtain ⟨x, i1, g1, e1, hx, a1, b1⟩ := l1Byte_ok b i h hb h0 h1
    rw [e1]
    simp only [Option.bind_some]
    obtain ⟨y, i2, g2, e2, hy, a2, b2⟩ := l1Byte_ok b i1 g1 hb a1 b1
    rw [e2]
    simp only [Option.bind_some]
    obtain ⟨z, i3, g3, e3, hz, a3, b3⟩ := l1Byte_ok b i2 g2 hb a2 b2
    rw [e3]
    simp only [Option.bind_some]
    rw [if_neg (by omega), wr (n := x * 65536) (by omega) (by omega), wr (n := y * 256) (by omega) (by omega), wr (n := x * 65536 + y * 256) (by omega) (by omega), wr (n := x * 65536 + y * 256 + z) (by omega) (by omega), Int.tmod_eq_emod_of_nonneg (by omega)]
    exact ⟨_, _, _, rfl, ⟨Int.emod_nonneg _ (by omega), Int.emod_lt_of_pos _ hn⟩, a3, b3⟩
theorem l1New_l0 (b : List Int) (hb : b.length ≤ 1048576) (d : Nat) : ∀ (k i : Nat) (h : Int), i + d = b.length → d < k → ∃ g, spec_l1New.l0 k b h (i : Int) = some (b, 0, g) := by
  induction d with
  | zero =>
    intro k i h hi hk
    obtain ⟨k, rfl⟩ : ∃ m, k = m + 1 := ⟨k - 1, by omega⟩
    simp only [spec_l1New.l0]
    rw [if_neg (by omega)]
    exact ⟨_, rfl⟩
  | succ d ih =>
    intro k i h hi hk
    obtain ⟨k, rfl⟩ : ∃ m, k = m + 1 := ⟨k - 1, by omega⟩
    simp only [spec_l1New.l0]
    rw [if_pos (by omega)]
    split
    · rw [if_pos (by omega), wr_succ (n := b.length) (by omega) (by omega)]
      exact ih k (i + 1) _ (by omega) (by omega)
    · exact ⟨_, rfl⟩
theorem l1New_ok (k : Nat) (b : List Int) (hb : b.length ≤ 1048576) (hk : b.length < k) : ∃ g, spec_l1New.f k b = some (b, 0, g) := by
  unfold spec_l1New.f
  exact l1New_l0 b hb b.length k 0 _ (by omega) hk
theorem big_val (b : List Int) : laws_big.f b = some (decide ((b.length : Int) > 1048576)) := rfl

/-! ### drawOnce -/
theorem l1Once_ok (b : List Int) (i h n : Int) (hb : b.length ≤ 1048576) (h0 : 0 ≤ i) (h1 : i ≤ (b.length : Int)) (hn : 0 < n) : DOk b (fun _ : Bool => True) (spec_l1Once.f b i h n) := by
  unfold spec_l1Once.f
  obtain ⟨x, i1, g1, e1, hx, a1, b1⟩ := l1Below_ok b i h n hb h0 h1 hn
  rw [e1]
  exact ⟨_, _, _, rfl, trivial, a1, b1⟩

/-! ### drawInt -/
theorem rd_mem (l : List Int) (x : Int) (h0 : 0 ≤ x) (h1 : x < (l.length : Int)) : rd l x ∈ l := by
  obtain ⟨n, rfl⟩ := Int.eq_ofNat_of_zero_le h0
  rw [rd_nat l n (by omega)]
  exact List.getElem_mem _
theorem l1Int_ok (b l : List Int) (i h : Int) (hb : b.length ≤ 1048576) (h0 : 0 ≤ i) (h1 : i ≤ (b.length : Int)) (hl : 0 < l.length) : DOk b (fun x => x ∈ l) (spec_l1Int.f b i h l) := by
  unfold spec_l1Int.f
  obtain ⟨x, i1, g1, e1, hx, a1, b1⟩ := l1Below_ok b i h (l.length : Int) hb h0 h1 (by omega)
  rw [e1]
  simp only [Option.bind_some]
  rw [if_pos hx.1, if_pos hx.2]
  exact ⟨_, _, _, rfl, rd_mem l x hx.1 hx.2, a1, b1⟩

/-! ### drawRaw -/
theorem l1Odd_ok (b : List Int) (i h : Int) (hb : b.length ≤ 1048576) (h0 : 0 ≤ i) (h1 : i ≤ (b.length : Int)) : DOk b (fun x => (Lit.int .i64 x).wf = true) (spec_l1Odd.f b i h) := by
  unfold spec_l1Odd.f
  obtain ⟨x, i1, g1, e1, hx, a1, b1⟩ := l1Int_ok b [(-1), 0, 1, 2, 255, 256, 65535, 2147483647, 2147483648, 4294967295, 4294967296, (-2147483648), 9223372036854775807, (-9223372036854775808)] i h hb h0 h1 (by simp)
  rw [e1]
  have hz : (Lit.int .i64 x).wf = true := by
    simp only [List.mem_cons, List.not_mem_nil, or_false] at hx
    rcases hx with rfl | rfl | rfl | rfl | rfl | rfl | rfl | rfl | rfl | rfl | rfl | rfl | rfl | rfl <;> decide
  exact ⟨_, _, _, rfl, hz, a1, b1⟩
theorem l1Raw_ok (b : List Int) (i h : Int) (hb : b.length ≤ 1048576) (h0 : 0 ≤ i) (h1 : i ≤ (b.length : Int)) : DOk b (fun x => (Lit.int .i64 x).wf = true) (spec_l1Raw.f b i h) := by
  unfold spec_l1Raw.f
  obtain ⟨x, i1, g1, e1, hx, a1, b1⟩ := l1Once_ok b i h 2 hb h0 h1 (by omega)
  rw [e1]
  simp only [Option.bind_some]
  cases x
  · rw [if_neg (by simp)]
    obtain ⟨y, i2, g2, e2, hy, a2, b2⟩ := l1Int_ok b [(-1), 0, 1, 4, 255, 256, 65535, 65536] i1 g1 hb a1 b1 (by simp)
    rw [e2]
    have hz : (Lit.int .i64 y).wf = true := by
      simp only [List.mem_cons, List.not_mem_nil, or_false] at hy
      rcases hy with rfl | rfl | rfl | rfl | rfl | rfl | rfl | rfl <;> decide
    exact ⟨_, _, _, rfl, hz, a2, b2⟩
  · rw [if_pos rfl]
    obtain ⟨y, i2, g2, e2, hy, a2, b2⟩ := l1Odd_ok b i1 g1 hb a1 b1
    rw [e2]
    exact ⟨_, _, _, rfl, hy, a2, b2⟩

/-! ### minmax -/
theorem mn_le (a b : Int) : mn a b = if b < a then b else a := rfl
theorem mx_ge (a b : Int) : mx a b = if a < b then b else a := rfl

/-! ### least -/
theorem least_spec (a b : Int) : spec_Least.f a b = some (mn a b) := by
  unfold spec_Least.f mn; split <;> rfl

/-! ### most -/
theorem most_spec (a b : Int) : spec_Most.f a b = some (mx a b) := by
  unfold spec_Most.f mx
  by_cases h : a < b
  · rw [if_pos h, if_pos h]
  · rw [if_neg h, if_neg h]

/-! ### up -/
theorem up_div (a b : Int) (ha : 1 ≤ a) (hb : 1 ≤ b) : (a - 1) / b + 1 = if a % b > 0 then a / b + 1 else a / b := by
  have h1 := Int.emod_add_mul_ediv a b
  have h2 := Int.emod_nonneg a (show b ≠ 0 by omega)
  have h3 := Int.emod_lt_of_pos a (show 0 < b by omega)
  by_cases hr : a % b > 0
  · rw [if_pos hr]
    have := ((Int.ediv_emod_unique (a := a - 1) (b := b) (r := a % b - 1) (q := a / b) (by omega)).mpr ⟨by omega, by omega, by omega⟩).1
    rw [this]
  · rw [if_neg hr]
    have h4 : b * (a / b - 1) = b * (a / b) - b := by rw [Int.mul_sub, Int.mul_one]
    have := ((Int.ediv_emod_unique (a := a - 1) (b := b) (r := b - 1) (q := a / b - 1) (by omega)).mpr ⟨by omega, by omega, by omega⟩).1
    rw [this]; omega
theorem up_div_le (a b : Int) (ha : 0 ≤ a) (hb : 1 ≤ b) : 0 ≤ a / b ∧ a / b ≤ a := by
  refine ⟨Int.ediv_nonneg ha (by omega), Int.ediv_le_self _ ha⟩
def upv (a b : Int) : Int := if a < 1 then 0 else if b < 1 then 0 else (a - 1) / b + 1
theorem up_impl (a b : Int) (ha : (Lit.int .i64 a).wf = true) (hb : (Lit.int .i64 b).wf = true) : impl_Up.f a b = some (upv a b) := by
  have ha := wf64 ha; have hb := wf64 hb
  unfold impl_Up.f upv
  by_cases h1 : a < 1
  · rw [if_pos h1, if_pos h1]
  · rw [if_neg h1, if_neg h1]
    by_cases h2 : b < 1
    · rw [if_pos h2, if_pos h2]
    · rw [if_neg h2, if_neg h2, if_neg (by omega)]
      have hd := up_div_le (a - 1) b (by omega) (by omega)
      rw [wr (n := a - 1) (by omega) (by omega), Int.tdiv_eq_ediv_of_nonneg (by omega), wr (n := (a - 1) / b) (by omega) (by omega), wr (by omega) (by omega)]
theorem up_spec (k : Nat) (a b : Int) (ha : (Lit.int .i64 a).wf = true) (hb : (Lit.int .i64 b).wf = true) : spec_Up.f (k + 1) a b = some (upv a b) := by
  have ha := wf64 ha; have hb := wf64 hb
  unfold spec_Up.f upv
  by_cases h1 : a < 1
  · rw [if_pos h1, if_pos h1]; simp [spec_Up.j0]
  · rw [if_neg h1, if_neg h1]
    by_cases h2 : b < 1
    · rw [if_pos h2]; simp [spec_Up.j0, h2]
    · rw [if_neg h2]
      have hd := up_div_le a b (by omega) (by omega)
      have hu := up_div a b (by omega) (by omega)
      simp only [spec_Up.j0]
      rw [if_neg (by simpa using h2), if_neg (by omega), Int.tmod_eq_emod_of_nonneg (by omega), Int.tdiv_eq_ediv_of_nonneg (by omega), wr (n := a / b) (by omega) (by omega), hu]
      by_cases h3 : a % b > 0
      · have h4 := Int.emod_lt_of_pos a (show 0 < b by omega)
        have h5 : 1 < b := by omega
        have h6 := Int.ediv_lt_self_of_pos_of_ne_one (show 0 < a by omega) (show b ≠ 1 by omega)
        rw [if_pos h3, if_pos h3, wr (by omega) (by omega)]
      · rw [if_neg h3, if_neg h3]

/-! ### digits -/
open Go.Proofs.YtfgmngfhchfaaaaDoor.Numeral in
theorem parse_impl (s : ByteArray) (h : s.size ≤ 281474976710656) : impl_ParseNum.f s = some (pv s.data.toList) := by
  unfold impl_ParseNum.f; rw [if_pos h]
theorem bt_at (s : ByteArray) (i : Nat) (h : i < s.size) : ∃ (h' : i < s.data.toList.length), bt s (i : Int) = ((s.data.toList[i]'h').toNat : Int) := by
  have h' : i < s.data.toList.length := by rw [← size_list]; exact h
  refine ⟨h', ?_⟩
  unfold bt
  rw [dif_pos (by simpa using h)]
  simp [ByteArray.getElem_eq_getElem_data]
theorem step_eq (n c : Nat) (hn : n < 100000) (h1 : 48 ≤ c) (h2 : c ≤ 57) : wrap64 ((wrap64 (10 * (n : Int))) + (((c : Int) - 48) % 256)) = ((10 * n + (c - 48) : Nat) : Int) := by
  have e : ((c : Int) - 48) % 256 = (c : Int) - 48 := by omega
  rw [wr (n := 10 * (n : Int)) (by omega) (by omega), e, wr (by omega) (by omega)]; omega
theorem next_eq (i : Nat) (h : i < 100) : wrap64 ((i : Int) + 1) = ((i + 1 : Nat) : Int) := by
  rw [wr (by omega) (by omega)]; omega
theorem same_byte (c : Nat) (h : c < 256) : wrap64 (c : Int) = c := wr (by omega) (by omega)
open Go.Proofs.YtfgmngfhchfaaaaDoor.Numeral in
theorem parse_loop (s : ByteArray) (hs : s.size ≤ 5) (d : Nat) : ∀ (k i n : Nat), i ≤ s.size → s.size - i = d → n < 10 ^ i → d < k →
    spec_ParseNum.l0 k s n i = some (if (s.data.toList.drop i).all isDig = true then (((val n (s.data.toList.drop i) : Nat) : Int), true) else (0, false)) := by
  induction d with
  | zero =>
    intro k i n hi hd hn hk
    obtain ⟨k, rfl⟩ : ∃ m, k = m + 1 := ⟨k - 1, by omega⟩
    simp only [spec_ParseNum.l0]
    rw [if_neg (by omega)]
    have e : s.data.toList.drop i = [] := List.drop_eq_nil_of_le (by rw [← size_list]; omega)
    rw [e, if_pos (by rfl), val_nil]
  | succ d ih =>
    intro k i n hi hd hn hk
    obtain ⟨k, rfl⟩ : ∃ m, k = m + 1 := ⟨k - 1, by omega⟩
    obtain ⟨h', eb⟩ := bt_at s i (by omega)
    obtain ⟨c, ec⟩ : ∃ c, c = s.data.toList[i]'h' := ⟨_, rfl⟩
    have ed : s.data.toList.drop i = c :: s.data.toList.drop (i + 1) := by rw [ec]; exact List.drop_eq_getElem_cons h'
    rw [← ec] at eb
    have hc := UInt8.toNat_lt c
    have hp : 10 ^ i ≤ 10 ^ 5 := Nat.pow_le_pow_right (by decide) (by omega)
    have e5 : 10 ^ 5 = 100000 := by decide
    rw [e5] at hp
    simp only [spec_ParseNum.l0]
    rw [if_pos (by omega), if_pos (by omega), eb, same_byte _ hc, ed]
    unfold spec_l1In.f
    rw [List.all_cons]
    by_cases h1 : (c.toNat : Int) ≥ 48
    · rw [if_pos h1]
      simp only [Option.bind_some]
      by_cases h2 : (c.toNat : Int) ≤ 57
      · have hdg : isDig c = true := isDig_iff.2 (by omega)
        rw [decide_eq_true h2, if_pos rfl, hdg, Bool.true_and, val_cons]
        have e1 := step_eq n c.toNat (by omega) (by omega) (by omega)
        have e2 := next_eq i (by omega)
        rw [e1, e2]
        clear e1 e2 eb
        have a1 : i + 1 ≤ s.size := by omega
        have a2 : s.size - (i + 1) = d := by omega
        have a3 : 10 * n + (c.toNat - 48) < 10 ^ (i + 1) := by rw [Nat.pow_succ]; omega
        have a4 : d < k := by omega
        exact ih k (i + 1) (10 * n + (c.toNat - 48)) a1 a2 a3 a4
      · have hdg : isDig c = false := by
          cases e : isDig c with
          | false => rfl
          | true => exact absurd (isDig_iff.1 e).2 (by omega)
        rw [decide_eq_false h2, if_neg (by simp), hdg, Bool.false_and, if_neg (by simp)]
    · have hdg : isDig c = false := by
        cases e : isDig c with
        | false => rfl
        | true => exact absurd (isDig_iff.1 e).1 (by omega)
      rw [if_neg h1]
      simp only [Option.bind_some]
      rw [if_neg (by simp), hdg, Bool.false_and, if_neg (by simp)]
open Go.Proofs.YtfgmngfhchfaaaaDoor.Numeral in
theorem parse_spec (s : ByteArray) (k : Nat) (hk : 20 < k) : spec_ParseNum.f k s = some ((pv s.data.toList).1, (pv s.data.toList).2) := by
  obtain ⟨k, rfl⟩ : ∃ m, k = m + 1 := ⟨k - 1, by omega⟩
  have hl := size_list s
  have e : ∀ p : Int × Bool, some (p.1, p.2) = some p := fun _ => rfl
  rw [e]
  unfold pv
  have jt : spec_ParseNum.j0 (k + 1) s true = some (0, false) := by simp only [spec_ParseNum.j0]; rfl
  have jf : s.size ≤ 5 → spec_ParseNum.j0 (k + 1) s false = some (if s.data.toList.all isDig = true then (((val 0 s.data.toList : Nat) : Int), true) else (0, false)) := by
    intro h5
    have h := parse_loop s h5 s.size k 0 0 (by omega) (by omega) (by decide) (by omega)
    rw [List.drop_zero] at h
    simp only [spec_ParseNum.j0]
    rw [if_neg (by simp)]
    exact h
  unfold spec_ParseNum.f
  by_cases h1 : s.size = 0
  · rw [if_pos (by omega), jt, if_pos (Or.inl (by omega))]
  · rw [if_neg (by omega)]
    by_cases h2 : 5 < s.size
    · rw [if_pos (by omega), jt, if_pos (Or.inr (Or.inl (by omega)))]
    · rw [if_neg (by omega)]
      by_cases h3 : 1 < s.size
      · rw [if_pos (by omega), if_pos (by omega)]
        obtain ⟨h', eb⟩ := bt_at s 0 (by omega)
        have eh : s.data.toList.head? = some (s.data.toList[0]'h') := by rw [List.head?_eq_getElem?, List.getElem?_eq_getElem h']
        by_cases h4 : s.data.toList.head? = some 48
        · have : (bt s 0 == 48) = true := by
            rw [eh] at h4
            have h4 := Option.some.inj h4
            have eb' : bt s 0 = _ := eb
            rw [eb', h4]; rfl
          rw [this, jt, if_pos (Or.inr (Or.inr ⟨by omega, h4⟩))]
        · have : (bt s 0 == 48) = false := by
            have eb' : bt s 0 = _ := eb
            rw [eb', beq_eq_false_iff_ne]
            intro hx
            apply h4
            rw [eh]
            congr 1
            apply UInt8.toNat_inj.1
            have e48 : (48 : UInt8).toNat = 48 := rfl
            omega
          have hn : ¬ (s.data.toList.length = 0 ∨ 5 < s.data.toList.length ∨ 1 < s.data.toList.length ∧ s.data.toList.head? = some 48) := by
            rintro (x | x | x)
            · omega
            · omega
            · exact h4 x.2
          rw [this, jf (by omega), if_neg hn]
      · have hn : ¬ (s.data.toList.length = 0 ∨ 5 < s.data.toList.length ∨ 1 < s.data.toList.length ∧ s.data.toList.head? = some 48) := by
          rintro (x | x | x) <;> omega
        rw [if_neg (by omega), jf (by omega), if_neg hn]
theorem wf_64 {y : Int} (h0 : -9223372036854775808 ≤ y) (h1 : y ≤ 9223372036854775807) : (Lit.int .i64 y).wf = true := by
  simp [Lit.wf, IntKind.min, IntKind.max, IntKind.bits, IntKind.signed]; omega
open Go.Proofs.YtfgmngfhchfaaaaDoor.Numeral in
theorem itoa_inj {v n : Int} (v0 : 0 ≤ v) (v1 : v ≤ 99999) (h0 : -9223372036854775808 ≤ n) (h1 : n ≤ 9223372036854775807) (h : Lib.itoa v = Lib.itoa n) : v = n := by
  have p20 : (10 : Nat) ^ (19 + 1) = 100000000000000000000 := by decide
  obtain ⟨a, b, c, d, e, f⟩ := dec_facts 19 v.toNat (by omega)
  have hv : Lib.itoa v = Lib.decDigits v.toNat := by unfold Lib.itoa; rw [if_neg (by omega)]
  rw [hv] at h
  by_cases hn : n < 0
  · have hn2 : Lib.itoa n = 45 :: Lib.decDigits n.natAbs := by unfold Lib.itoa; rw [if_pos hn]
    rw [hn2] at h
    rw [h] at a
    simp only [List.all_cons, Bool.and_eq_true] at a
    exact absurd a.1 (by decide)
  · have hn2 : Lib.itoa n = Lib.decDigits n.toNat := by unfold Lib.itoa; rw [if_neg hn]
    rw [hn2] at h
    obtain ⟨a2, b2, c2, d2, e2, f2⟩ := dec_facts 19 n.toNat (by omega)
    rw [h, d2] at d
    omega
open Go.Proofs.YtfgmngfhchfaaaaDoor.Numeral in
theorem pv_itoa (n : Int) (h0 : -9223372036854775808 ≤ n) (h1 : n ≤ 9223372036854775807) : pv (itoaB n).data.toList = if 0 ≤ n ∧ n ≤ 99999 then (n, true) else (0, false) := by
  have e : (itoaB n).data.toList = Lib.itoa n := rfl
  rw [e]
  by_cases h : 0 ≤ n ∧ n ≤ 99999
  · rw [if_pos h]; exact pv_of h.1 h.2 rfl
  · rw [if_neg h]
    refine pv_not (fun v v0 v1 hv hat => ?_)
    have hn : v = n := itoa_inj v0 v1 h0 h1 hv
    exact h (by omega)
open Go.Proofs.YtfgmngfhchfaaaaDoor.Numeral in
theorem pv_back (s : ByteArray) (h : (pv s.data.toList).2 = true) : impl_NumText.f (pv s.data.toList).1 = some s := by
  obtain ⟨u, e, hu, hi, _⟩ := pv_true h
  rw [e, numtext_impl (u : Int) (by omega) (by omega)]
  congr 1
  unfold itoaB
  rw [hi]
theorem drawNumText_ok (k : Nat) (l : List Int) (hl : l.length ≤ 1048576) (hk : l.length + 1001 < k) : ∃ n, spec_DrawNumText.f k l = some n ∧ (Lit.int .i64 n).wf = true := by
  unfold spec_DrawNumText.f
  obtain ⟨g, e⟩ := l1New_ok k l hl (by omega)
  rw [e]; simp only [Option.bind_some]
  obtain ⟨o, i3, g3, e3, _, a3, b3⟩ := l1Once_ok l 0 g 2 hl (by omega) (by omega) (by omega)
  rw [e3]; simp only [Option.bind_some]
  cases o
  · rw [if_neg (by simp)]
    obtain ⟨n, i4, g4, e4, hn, a4, b4⟩ := l1Below_ok l i3 g3 100000 hl a3 b3 (by omega)
    rw [e4]
    exact ⟨_, rfl, wf_64 (by omega) (by omega)⟩
  · rw [if_pos rfl]
    obtain ⟨n, i4, g4, e4, hn, a4, b4⟩ := l1Raw_ok l i3 g3 hl a3 b3
    rw [e4]
    exact ⟨_, rfl, hn⟩
theorem drawParseNum_ok (k : Nat) (l : List Int) (hl : l.length ≤ 1048576) (hk : l.length + 1001 < k) : ∃ s : ByteArray, spec_DrawParseNum.f k l = some s ∧ s.size ≤ 21 := by
  unfold spec_DrawParseNum.f
  obtain ⟨g, e⟩ := l1New_ok k l hl (by omega)
  rw [e]; simp only [Option.bind_some]
  obtain ⟨o, i3, g3, e3, _, a3, b3⟩ := l1Once_ok l 0 g 2 hl (by omega) (by omega) (by omega)
  rw [e3]; simp only [Option.bind_some]
  cases o
  · rw [if_neg (by simp)]
    obtain ⟨n, i4, g4, e4, hn, a4, b4⟩ := l1Below_ok l i3 g3 100000 hl a3 b3 (by omega)
    rw [e4]; simp only [Option.bind_some]
    rw [numtext_spec k n (by omega) (by omega) (by omega)]
    exact ⟨_, rfl, itoaB_size n (by omega) (by omega)⟩
  · rw [if_pos rfl]
    unfold spec_l1Str.f
    obtain ⟨n, i4, g4, e4, hn, a4, b4⟩ := l1Below_ok l i3 g3 (([(⟨#[]⟩ : ByteArray), (⟨#[48]⟩ : ByteArray), (⟨#[48, 48]⟩ : ByteArray), (⟨#[48, 49]⟩ : ByteArray), (⟨#[55]⟩ : ByteArray), (⟨#[57, 57, 57, 57, 57]⟩ : ByteArray), (⟨#[49, 48, 48, 48, 48, 48]⟩ : ByteArray), (⟨#[45, 49]⟩ : ByteArray), (⟨#[49, 120]⟩ : ByteArray), (⟨#[32, 49]⟩ : ByteArray)] : List ByteArray).length : Int) hl a3 b3 (by decide)
    rw [e4]; simp only [Option.bind_some]
    rw [if_pos hn.1, if_pos hn.2]
    simp only [Option.bind_some]
    refine ⟨_, rfl, ?_⟩
    have hn2 : n < 10 := hn.2
    have hn1 := hn.1
    have : n = 0 ∨ n = 1 ∨ n = 2 ∨ n = 3 ∨ n = 4 ∨ n = 5 ∨ n = 6 ∨ n = 7 ∨ n = 8 ∨ n = 9 := by omega
    rcases this with rfl | rfl | rfl | rfl | rfl | rfl | rfl | rfl | rfl | rfl <;> decide
theorem drawLeast_ok (k : Nat) (l : List Int) (hl : l.length ≤ 1048576) (hk : l.length + 1001 < k) : ∃ a b, spec_DrawLeast.f k l = some (a, b) := by
  unfold spec_DrawLeast.f
  obtain ⟨g, e⟩ := l1New_ok k l hl (by omega)
  rw [e]; simp only [Option.bind_some]
  obtain ⟨a, i3, g3, e3, _, a3, b3⟩ := l1Raw_ok l 0 g hl (by omega) (by omega)
  rw [e3]; simp only [Option.bind_some]
  obtain ⟨b, i4, g4, e4, _, a4, b4⟩ := l1Raw_ok l i3 g3 hl a3 b3
  rw [e4]
  exact ⟨_, _, rfl⟩
theorem drawMost_ok (k : Nat) (l : List Int) (hl : l.length ≤ 1048576) (hk : l.length + 1001 < k) : ∃ a b, spec_DrawMost.f k l = some (a, b) := by
  unfold spec_DrawMost.f
  obtain ⟨g, e⟩ := l1New_ok k l hl (by omega)
  rw [e]; simp only [Option.bind_some]
  obtain ⟨a, i3, g3, e3, _, a3, b3⟩ := l1Raw_ok l 0 g hl (by omega) (by omega)
  rw [e3]; simp only [Option.bind_some]
  obtain ⟨b, i4, g4, e4, _, a4, b4⟩ := l1Raw_ok l i3 g3 hl a3 b3
  rw [e4]
  exact ⟨_, _, rfl⟩
theorem drawUp_ok (k : Nat) (l : List Int) (hl : l.length ≤ 1048576) (hk : l.length + 1001 < k) : ∃ a b, spec_DrawUp.f k l = some (a, b) ∧ (Lit.int .i64 a).wf = true ∧ -1 ≤ b ∧ b ≤ 4 := by
  unfold spec_DrawUp.f
  obtain ⟨g, e⟩ := l1New_ok k l hl (by omega)
  rw [e]; simp only [Option.bind_some]
  obtain ⟨a, i3, g3, e3, ha, a3, b3⟩ := l1Raw_ok l 0 g hl (by omega) (by omega)
  rw [e3]; simp only [Option.bind_some]
  obtain ⟨b, i4, g4, e4, hb, a4, b4⟩ := l1Int_ok l [4, 4, 1, 3, 0, (-1)] i3 g3 hl a3 b3 (by simp)
  rw [e4]
  refine ⟨_, _, rfl, ha, ?_⟩
  simp only [List.mem_cons, List.not_mem_nil, or_false] at hb
  rcases hb with rfl | rfl | rfl | rfl | rfl | rfl <;> omega
theorem up_tail (e f : Int) (hf0 : -1 ≤ f) (hf1 : f ≤ 4) : (if e < 1 then (some true) else (if f < 1 then (some true) else (if e > 1073741824 then (some true) else (if (wrap64 ((upv e f) * f)) ≥ e then (some (decide ((wrap64 ((wrap64 ((upv e f) - 1)) * f)) < e))) else (some false))))) = some true := by
  by_cases h1 : e < 1
  · rw [if_pos h1]
  · rw [if_neg h1]
    by_cases h2 : f < 1
    · rw [if_pos h2]
    · rw [if_neg h2]
      by_cases h3 : e > 1073741824
      · rw [if_pos h3]
      · rw [if_neg h3]
        have hu : upv e f = (e - 1) / f + 1 := by unfold upv; rw [if_neg h1, if_neg h2]
        rw [hu]
        have hc : f = 1 ∨ f = 2 ∨ f = 3 ∨ f = 4 := by omega
        rcases hc with rfl | rfl | rfl | rfl
        all_goals
          rw [wr (n := _ - 1) (by omega) (by omega), if_pos (by rw [wr (by omega) (by omega)]; omega), wr (by omega) (by omega), decide_eq_true (by omega)]
theorem lm_tail (a b : Int) (X : Option Bool) : ((impl_Least.f a b).bind fun t => ((impl_Most.f a b).bind fun u => (if t ≤ u then X else (some false)))) = X := by
  unfold impl_Least.f impl_Most.f
  simp only [Option.bind_some]
  rw [if_pos]
  rw [mn_le, mx_ge]
  split <;> split <;> omega
open Go.Proofs.YtfgmngfhchfaaaaDoor.Numeral in
theorem digits_tail (k : Nat) (n e f a b : Int) (t : ByteArray) (hf0 : -1 ≤ f) (hf1 : f ≤ 4) :
    laws_FnDigits.j0 (k + 1) n (if 0 ≤ n ∧ n ≤ 99999 then n else 0) (decide (0 ≤ n ∧ n ≤ 99999)) t (pv t.data.toList).1 (pv t.data.toList).2 a b e f (upv e f) false = some true := by
  have X := up_tail e f hf0 hf1
  simp only [laws_FnDigits.j0, lm_tail, X]
  rw [if_neg (by simp)]
  have T : ∀ bb, (pv t.data.toList).2 = bb → (if bb = true then ((impl_NumText.f (pv t.data.toList).1).bind fun s => (if s.toList = t.toList then (some true) else (some false))) else (some true)) = some true := by
    intro bb hb
    cases bb with
    | false => rw [if_neg (by simp)]
    | true => rw [if_pos rfl, pv_back t hb]; simp
  have T := T _ rfl
  by_cases h : 0 ≤ n ∧ n ≤ 99999
  · rw [if_pos h, decide_eq_true h, if_pos (show n ≥ 0 from h.1), decide_eq_true h.2, if_pos (by rfl), if_pos rfl, if_pos rfl]
    exact T
  · rw [if_neg h, decide_eq_false h]
    by_cases h2 : n ≥ 0
    · rw [if_pos h2, decide_eq_false (show ¬ n ≤ 99999 by omega), if_pos (by rfl), if_neg (by simp)]
      exact T
    · rw [if_neg h2, if_pos (by rfl), if_neg (by simp)]
      exact T

open Go.Proofs.YtfgmngfhchfaaaaDoor.Numeral in
theorem pure_law (l : List Int) (hm : l.length ≤ maxLen) (hb : ∀ x ∈ l, (Lit.int .u8 x).wf = true) : ∃ k, laws_FnDigits.f k l = some true := by
  refine ⟨l.length + 2000, ?_⟩
  obtain ⟨k, ek⟩ : ∃ k, k + 1 = l.length + 2000 := ⟨l.length + 1999, by omega⟩
  unfold laws_FnDigits.f
  rw [big_val]
  simp only [Option.bind_some, decide_eq_true_eq]
  by_cases h : (l.length : Int) > 1048576
  · rw [if_pos h]
  · rw [if_neg h]
    obtain ⟨n, e1, hn⟩ := drawNumText_ok (l.length + 2000) l (by omega) (by omega)
    obtain ⟨n0, n1⟩ := wf64 hn
    rw [e1]; simp only [Option.bind_some]
    have hsz := itoaB_size n n0 n1
    rw [numtext_impl n n0 n1]; simp only [Option.bind_some]
    rw [parse_impl _ (by omega)]; simp only [Option.bind_some]
    obtain ⟨t, e2, ht⟩ := drawParseNum_ok (l.length + 2000) l (by omega) (by omega)
    rw [e2]; simp only [Option.bind_some]
    rw [parse_impl t (by omega)]; simp only [Option.bind_some]
    rw [parse_spec t _ (by omega)]; simp only [Option.bind_some]
    obtain ⟨a, b, e3⟩ := drawLeast_ok (l.length + 2000) l (by omega) (by omega)
    rw [e3]; simp only [Option.bind_some]
    obtain ⟨c, d, e4⟩ := drawMost_ok (l.length + 2000) l (by omega) (by omega)
    rw [e4]; simp only [Option.bind_some]
    obtain ⟨e, f, e5, he, hf0, hf1⟩ := drawUp_ok (l.length + 2000) l (by omega) (by omega)
    rw [e5]; simp only [Option.bind_some]
    have hf : (Lit.int .i64 f).wf = true := wf_64 (by omega) (by omega)
    rw [up_impl e f he hf]; simp only [Option.bind_some]
    rw [numtext_spec _ n n0 n1 (by omega)]; simp only [Option.bind_some]
    rw [if_pos trivial, if_neg (by simp)]
    have l1 : impl_Least.f a b = some (mn a b) := rfl
    have l2 : impl_Most.f c d = some (mx c d) := rfl
    rw [l1, least_spec, l2, most_spec]; simp only [Option.bind_some]
    rw [if_pos trivial, if_pos trivial, ← ek, up_spec k e f he hf]; simp only [Option.bind_some]
    rw [bne_self_eq_false]
    have hp := pv_itoa n n0 n1
    have h1 : (pv (itoaB n).data.toList).1 = if 0 ≤ n ∧ n ≤ 99999 then n else 0 := by rw [hp]; split <;> rfl
    have h2 : (pv (itoaB n).data.toList).2 = decide (0 ≤ n ∧ n ≤ 99999) := by rw [hp]; split <;> simp_all
    rw [h1, h2]
    exact digits_tail k n e f a b t hf0 hf1
end Go.Proofs.YtfgmngfhchfaaaaDoor.PureFnDigits
