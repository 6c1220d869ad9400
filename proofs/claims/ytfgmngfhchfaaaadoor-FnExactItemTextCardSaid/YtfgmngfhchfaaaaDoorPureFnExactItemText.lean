/- The pure statement of FnExactItemText: an item's text is what the reference tells, for all items; no condition. -/
import Derived.Test.YtfgmngfhchfaaaaDoorPFnExactItemTextx2
import Derived.OpenShut
import Derived.Lib.ItoaLen
import Derived.Lib.AppendIntMem
namespace Go.Proofs.YtfgmngfhchfaaaaDoor.PureFnExactItemText
open Go.RowKit Go.Proofs.YtfgmngfhchfaaaaDoor.PFnExactItemText Go.Proofs.YtfgmngfhchfaaaaDoorW.PrintWords Go.Proofs.YtfgmngfhchfaaaaDoorW.PrintLast Go.Proofs.YtfgmngfhchfaaaaDoorW.PrintMore
set_option linter.unusedVariables false
set_option linter.unusedSimpArgs false

/-! ### box -/
theorem toBox_some (a b c d : Int) : laws_toBox.f a b c d = some (a, b, c, d) := rfl

/-! ### item -/
theorem toItem_some (n a b c d : Int) : laws_toItem.f n a b c d = some (n, a, b, c, d) := rfl

/-! ### wrap -/
theorem wr {n : Int} (h0 : -9223372036854775808 ≤ n) (h1 : n ≤ 9223372036854775807) : wrap64 n = n := by
  unfold wrap64; omega
theorem wf64 {n : Int} (h : (Lit.int .i64 n).wf = true) : -9223372036854775808 ≤ n ∧ n ≤ 9223372036854775807 := bounds_i64 h

/-! ### numtext -/
def digs (u : Nat) : List UInt8 := if u = 0 then [] else Lib.decDigits u
theorem digs_step (u : Nat) (h : u ≠ 0) : digs u = digs (u / 10) ++ [UInt8.ofNat (48 + u % 10)] := by
  unfold digs
  rw [if_neg h]
  by_cases h1 : u < 10
  · rw [if_pos (by omega), Lib.decDigits, dif_pos h1, List.nil_append, Nat.mod_eq_of_lt h1]
  · rw [if_neg (by omega), Lib.decDigits, dif_neg h1]
theorem strOf_one (z : Int) : (strOfNums [z]).data.toList = [UInt8.ofNat z.toNat] := by
  unfold strOfNums
  simp
theorem app_list (a b : ByteArray) : (a ++ b).data.toList = a.data.toList ++ b.data.toList := by
  rw [ByteArray.data_append, Array.toList_append]
theorem size_list (a : ByteArray) : a.size = a.data.toList.length := by rw [Array.length_toList]; rfl
theorem of_list (a : ByteArray) (l : List UInt8) (h : a.data.toList = l) : a = ⟨l.toArray⟩ := by
  subst h; simp

theorem byte_neg (t : Int) (m : Nat) (h : t.natAbs = m) (hm : m < 10) (hn : t < 0) : (wrap64 (48 + (wrap64 (-t)))) % 256 = 48 + (m : Int) := by
  rw [wr (n := -t) (by omega) (by omega), wr (by omega) (by omega)]; omega
theorem byte_pos (t : Int) (m : Nat) (h : t.natAbs = m) (hm : m < 10) (hn : ¬ t < 0) : (wrap64 (48 + t)) % 256 = 48 + (m : Int) := by
  rw [wr (by omega) (by omega)]; omega

theorem loop_val (x0 : Int) (d : Nat) : ∀ (k : Nat) (s : ByteArray) (x : Int), -9223372036854775808 ≤ x → x ≤ 9223372036854775807 → x.natAbs < 10 ^ d → s.size + d ≤ 100 → d < k →
    ∃ r, spec_NumText.l0 k x0 s x = some r ∧ r.data.toList = (if x0 < 0 then [45] else []) ++ digs x.natAbs ++ s.data.toList := by
  induction d with
  | zero =>
    intro k s x h0 h1 hx hs hk
    obtain ⟨k, rfl⟩ : ∃ m, k = m + 1 := ⟨k - 1, by omega⟩
    have hz : x = 0 := by omega
    simp only [spec_NumText.l0]
    rw [if_pos hz]
    by_cases hn : x0 < 0
    · rw [if_pos hn, if_pos (by omega), if_pos hn]
      exact ⟨_, rfl, by rw [app_list]; simp [digs, hz]⟩
    · rw [if_neg hn, if_neg hn]
      exact ⟨_, rfl, by simp [digs, hz]⟩
  | succ d ih =>
    intro k s x h0 h1 hx hs hk
    obtain ⟨k, rfl⟩ : ∃ m, k = m + 1 := ⟨k - 1, by omega⟩
    simp only [spec_NumText.l0]
    by_cases hz : x = 0
    · rw [if_pos hz]
      by_cases hn : x0 < 0
      · rw [if_pos hn, if_pos (by omega), if_pos hn]
        exact ⟨_, rfl, by rw [app_list]; simp [digs, hz]⟩
      · rw [if_neg hn, if_neg hn]
        exact ⟨_, rfl, by simp [digs, hz]⟩
    · rw [if_neg hz]
      have hdiv : (Int.tdiv x 10).natAbs = x.natAbs / 10 := by rw [Int.natAbs_tdiv]; rfl
      have hb : (Int.tdiv x 10).natAbs < 10 ^ d := by rw [hdiv]; rw [Nat.pow_succ] at hx; omega
      have hr : (Int.tmod x 10).natAbs = x.natAbs % 10 := by rw [Int.natAbs_tmod]; rfl
      have hm := Nat.mod_lt x.natAbs (show 10 > 0 by decide)
      have hwd : wrap64 (Int.tdiv x 10) = Int.tdiv x 10 := wr (by omega) (by omega)
      obtain ⟨m, em⟩ : ∃ m, m = x.natAbs % 10 := ⟨_, rfl⟩
      rw [← em] at hr hm
      have fin : ∃ r, ((some (([48 + (m : Int)] : List Int) : List Int)).bind fun y => (if (strOfNums y).size + s.size ≤ 9223372036854775807 then (spec_NumText.l0 k x0 ((strOfNums y) ++ s) (wrap64 (Int.tdiv x 10))) else (none))) = some r ∧ r.data.toList = (if x0 < 0 then [45] else []) ++ digs x.natAbs ++ s.data.toList := by
        have hl := strOf_one (48 + (m : Int))
        have hsz : (strOfNums [48 + (m : Int)]).size = 1 := by rw [size_list, hl]; rfl
        simp only [Option.bind_some]
        rw [if_pos (by omega), hwd]
        obtain ⟨r, e, hr⟩ := ih k (strOfNums [48 + (m : Int)] ++ s) (Int.tdiv x 10) (by omega) (by omega) hb (by rw [size_list, app_list, List.length_append, ← size_list, ← size_list, hsz]; omega) (by omega)
        refine ⟨r, e, ?_⟩
        rw [hr, app_list, hl, hdiv, digs_step x.natAbs (by omega), ← em]
        have : (48 + (m : Int)).toNat = 48 + m := by omega
        rw [this]
        simp [List.append_assoc]
      by_cases hn : Int.tmod x 10 < 0
      · rw [if_pos hn, byte_neg _ m hr hm hn]
        exact fin
      · rw [if_neg hn, byte_pos _ m hr hm hn]
        exact fin

/-- THE REFERENCE's NumText IS THE DECIMAL NUMERAL. -/
theorem numtext_spec0 (k : Nat) (n : Int) (h0 : -9223372036854775808 ≤ n) (h1 : n ≤ 9223372036854775807) (hk : 50 < k) : spec_NumText.f k n = some ⟨(Lib.itoa n).toArray⟩ := by
  unfold spec_NumText.f
  by_cases hz : n = 0
  · subst hz
    rw [if_pos rfl]
    have : Lib.itoa 0 = [48] := by unfold Lib.itoa; rw [if_neg (by decide), Lib.decDigits, dif_pos (by decide)]; rfl
    rw [this]
  · rw [if_neg hz]
    obtain ⟨r, e, hr⟩ := loop_val n 20 k ⟨#[]⟩ n h0 h1 (by omega) (by decide) (by omega)
    rw [e, of_list r _ hr]
    congr 3
    unfold Lib.itoa digs
    by_cases hn : n < 0
    · rw [if_pos hn, if_pos hn, if_neg (by omega)]; simp
    · rw [if_neg hn, if_neg hn, if_neg (by omega)]
      have : n.natAbs = n.toNat := by omega
      rw [this]; simp
def itoaB (n : Int) : ByteArray := ⟨(Lib.itoa n).toArray⟩
theorem itoaB_size (n : Int) (h0 : -9223372036854775808 ≤ n) (h1 : n ≤ 9223372036854775807) : (itoaB n).size ≤ 21 := by
  rw [size_list]; exact Lib.itoa_length_le n h0 h1
theorem numtext_spec (k : Nat) (n : Int) (h0 : -9223372036854775808 ≤ n) (h1 : n ≤ 9223372036854775807) (hk : 50 < k) : spec_NumText.f k n = some (itoaB n) := numtext_spec0 k n h0 h1 hk
theorem numtext_impl (n : Int) (h0 : -9223372036854775808 ≤ n) (h1 : n ≤ 9223372036854775807) : impl_NumText.f n = some (itoaB n) := by
  unfold impl_NumText.f; rw [if_pos ⟨h0, h1⟩]; rfl

/-! ### inn -/
theorem l1In_val (x a b : Int) : spec_l1In.f x a b = some (decide (a ≤ x ∧ x ≤ b)) := by
  unfold spec_l1In.f
  by_cases h : x ≥ a
  · rw [if_pos h]; simp [show a ≤ x from h]
  · rw [if_neg h]; simp [show ¬ a ≤ x from h]
theorem in_val (x a b : Int) : impl_in.f x a b = some (decide (a ≤ x ∧ x ≤ b)) := by
  unfold impl_in.f
  by_cases h : a ≤ x
  · rw [if_pos h]; simp [h]
  · rw [if_neg h]; simp [h]

/-! ### boxok -/
def okb (a b c d : Int) : Bool := decide (0 ≤ a ∧ a ≤ c ∧ c ≤ 255 ∧ 0 ≤ b ∧ b ≤ d ∧ d ≤ 255)
theorem okb_iff (a b c d : Int) : okb a b c d = true ↔ 0 ≤ a ∧ a ≤ c ∧ c ≤ 255 ∧ 0 ≤ b ∧ b ≤ d ∧ d ≤ 255 := by unfold okb; exact decide_eq_true_iff
theorem boxok_spec (a b c d : Int) : spec_BoxOk.f a b c d = some (okb a b c d) := by
  unfold spec_BoxOk.f
  simp only [l1In_val, Option.bind_some, okb, decide_eq_true_eq]
  by_cases h1 : 0 ≤ a ∧ a ≤ 255
  · rw [if_pos h1]
    by_cases h2 : 0 ≤ b ∧ b ≤ 255
    · rw [if_pos h2]
      by_cases h3 : a ≤ c ∧ c ≤ 255
      · rw [if_pos h3]; congr 1; apply decide_eq_decide.mpr; omega
      · rw [if_neg h3]; congr 1; symm; apply decide_eq_false; omega
    · rw [if_neg h2]; congr 1; symm; apply decide_eq_false; omega
  · rw [if_neg h1]; congr 1; symm; apply decide_eq_false; omega
theorem boxok_impl (a b c d : Int) : impl_BoxOk.f a b c d = some (okb a b c d) := by
  unfold impl_BoxOk.f
  simp only [in_val, Option.bind_some, okb, decide_eq_true_eq]
  by_cases h1 : 0 ≤ a ∧ a ≤ c
  · rw [if_pos h1]
    by_cases h2 : 0 ≤ c ∧ c ≤ 255
    · rw [if_pos h2]
      by_cases h3 : 0 ≤ b ∧ b ≤ d
      · rw [if_pos h3]; congr 1; apply decide_eq_decide.mpr; omega
      · rw [if_neg h3]; congr 1; symm; apply decide_eq_false; omega
    · rw [if_neg h2]; congr 1; symm; apply decide_eq_false; omega
  · rw [if_neg h1]; congr 1; symm; apply decide_eq_false; omega

/-! ### itemok -/
theorem itemok_spec (n a b c d : Int) : spec_ItemOk.f n a b c d = some (decide (1 ≤ n ∧ n ≤ 999) && okb a b c d) := by
  unfold spec_ItemOk.f
  simp only [l1In_val, boxok_spec, Option.bind_some]
  cases decide (1 ≤ n ∧ n ≤ 999) <;> simp
theorem itemok_impl (n a b c d : Int) : impl_ItemOk.f n a b c d = some (decide (1 ≤ n ∧ n ≤ 999) && okb a b c d) := by
  unfold impl_ItemOk.f
  simp only [in_val, boxok_impl, Option.bind_some]
  cases decide (1 ≤ n ∧ n ≤ 999) <;> simp

/-! ### itemtext -/
theorem szA (a b : ByteArray) : (a ++ b).size = a.size + b.size := ByteArray.size_append
def itxt (n a b c d : Int) : ByteArray := (((((((itoaB n ++ (⟨#[58, 32]⟩ : ByteArray)) ++ itoaB a) ++ (⟨#[44]⟩ : ByteArray)) ++ itoaB b) ++ (⟨#[32]⟩ : ByteArray)) ++ itoaB c) ++ (⟨#[44]⟩ : ByteArray)) ++ itoaB d
def itemT (n a b c d : Int) : ByteArray := if (decide (1 ≤ n ∧ n ≤ 999) && okb a b c d) = true then itxt n a b c d else ⟨#[]⟩
theorem item_bounds {n a b c d : Int} (h : (decide (1 ≤ n ∧ n ≤ 999) && okb a b c d) = true) : 1 ≤ n ∧ n ≤ 999 ∧ 0 ≤ a ∧ a ≤ 255 ∧ 0 ≤ b ∧ b ≤ 255 ∧ 0 ≤ c ∧ c ≤ 255 ∧ 0 ≤ d ∧ d ≤ 255 := by
  rw [Bool.and_eq_true, decide_eq_true_eq, okb_iff] at h; omega
theorem itemtext_spec (k : Nat) (n a b c d : Int) (hk : 50 < k) : spec_ItemText.f k n a b c d = some (itemT n a b c d) := by
  unfold spec_ItemText.f itemT
  rw [itemok_spec]
  simp only [Option.bind_some]
  by_cases h : (decide (1 ≤ n ∧ n ≤ 999) && okb a b c d) = true
  · obtain ⟨b0, b1, b2, b3, b4, b5, b6, b7, b8, b9⟩ := item_bounds h
    have s1 := itoaB_size n (by omega) (by omega)
    have s2 := itoaB_size a (by omega) (by omega)
    have s3 := itoaB_size b (by omega) (by omega)
    have s4 := itoaB_size c (by omega) (by omega)
    have s5 := itoaB_size d (by omega) (by omega)
    have z1 : (⟨#[44]⟩ : ByteArray).size = 1 := rfl
    have z2 : (⟨#[32]⟩ : ByteArray).size = 1 := rfl
    have z3 : (⟨#[58, 32]⟩ : ByteArray).size = 2 := rfl
    rw [if_pos h, if_pos h, numtext_spec k n (by omega) (by omega) hk, numtext_spec k a (by omega) (by omega) hk, numtext_spec k b (by omega) (by omega) hk, numtext_spec k c (by omega) (by omega) hk, numtext_spec k d (by omega) (by omega) hk]
    simp only [Option.bind_some]
    repeat' rw [if_pos (by first | omega | (simp only [szA]; omega))]
    rfl
  · rw [if_neg h, if_neg h]
theorem itemtext_impl (n a b c d : Int) : impl_ItemText.f n a b c d = some (itemT n a b c d) := by
  unfold impl_ItemText.f itemT
  rw [itemok_impl]
  simp only [Option.bind_some]
  by_cases h : (decide (1 ≤ n ∧ n ≤ 999) && okb a b c d) = true
  · obtain ⟨b0, b1, b2, b3, b4, b5, b6, b7, b8, b9⟩ := item_bounds h
    have s1 := itoaB_size n (by omega) (by omega)
    have s2 := itoaB_size a (by omega) (by omega)
    have s3 := itoaB_size b (by omega) (by omega)
    have s4 := itoaB_size c (by omega) (by omega)
    have s5 := itoaB_size d (by omega) (by omega)
    have z1 : (⟨#[44]⟩ : ByteArray).size = 1 := rfl
    have z2 : (⟨#[32]⟩ : ByteArray).size = 1 := rfl
    have z3 : (⟨#[58, 32]⟩ : ByteArray).size = 2 := rfl
    have hbox : impl_boxText.f a b c d = some ((((((itoaB a ++ (⟨#[44]⟩ : ByteArray)) ++ itoaB b) ++ (⟨#[32]⟩ : ByteArray)) ++ itoaB c) ++ (⟨#[44]⟩ : ByteArray)) ++ itoaB d) := by
      unfold impl_boxText.f
      rw [numtext_impl a (by omega) (by omega), numtext_impl b (by omega) (by omega), numtext_impl c (by omega) (by omega), numtext_impl d (by omega) (by omega)]
      simp only [Option.bind_some]
      repeat' rw [if_pos (by first | omega | (simp only [szA]; omega))]
    rw [if_pos h, if_pos h, numtext_impl n (by omega) (by omega), hbox]
    simp only [Option.bind_some]
    repeat' rw [if_pos (by first | omega | (simp only [szA]; omega))]
    congr 1
    unfold itxt
    simp only [ByteArray.append_assoc]
  · rw [if_neg h, if_neg h]

theorem pure_law (n a b c d : Int) (w : (Lit.int .i64 n).wf = true) (w0 : (Lit.int .i64 a).wf = true) (w1 : (Lit.int .i64 b).wf = true) (w2 : (Lit.int .i64 c).wf = true) (w3 : (Lit.int .i64 d).wf = true) : ∃ k, laws_FnExactItemText.f k n a b c d = some true := by
  refine ⟨60, ?_⟩
  unfold laws_FnExactItemText.f
  simp [toItem_some, itemtext_spec 60 _ _ _ _ _ (by decide), itemtext_impl]
end Go.Proofs.YtfgmngfhchfaaaaDoor.PureFnExactItemText
