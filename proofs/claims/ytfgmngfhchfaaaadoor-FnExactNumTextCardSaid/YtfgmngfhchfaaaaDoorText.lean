/- The decimal numeral that the reference spells is strconv.Itoa's, for every int; the program's NumText returns it; condition: the table of powers of ten reads as its initialiser lays it. -/
import Derived.Test.YtfgmngfhchfaaaaDoorShelf
import Derived.Test.YtfgmngfhchfaaaaDoorPFnExactNumTextx1
import Derived.Test.YtfgmngfhchfaaaaDoorRows
import Derived.Lib.AppendIntMem
import Derived.MakeChecks
import Derived.Stop.LaidErr
namespace Go.Proofs.YtfgmngfhchfaaaaDoor.Text
open Go.RowKit Go.Proofs.YtfgmngfhchfaaaaDoor.PFnExactNumText Go.Proofs.YtfgmngfhchfaaaaDoorW.PrintWords
set_option linter.unusedVariables false
set_option linter.unusedSimpArgs false

def digs (u : Nat) : List UInt8 := if u = 0 then [] else Lib.decDigits u
theorem digs_step (u : Nat) (h : u ≠ 0) : digs u = digs (u / 10) ++ [UInt8.ofNat (48 + u % 10)] := by
  unfold digs
  rw [if_neg h]
  by_cases h1 : u < 10
  · rw [if_pos (by omega), Lib.decDigits, dif_pos h1, List.nil_append, Nat.mod_eq_of_lt h1]
  · rw [if_neg (by omega), Lib.decDigits, dif_neg h1]
theorem strOf_one (z : Int) : (strOfNums [z]).data.toList = [UInt8.ofNat z.toNat] := by
  unfold strOfNums
  simp
theorem app_list (a b : ByteArray) : (a ++ b).data.toList = a.data.toList ++ b.data.toList := by
  rw [ByteArray.data_append, Array.toList_append]
theorem size_list (a : ByteArray) : a.size = a.data.toList.length := by rw [Array.length_toList]; rfl
theorem of_list (a : ByteArray) (l : List UInt8) (h : a.data.toList = l) : a = ⟨l.toArray⟩ := by
  subst h; simp

theorem wr {x : Int} (h0 : -9223372036854775808 ≤ x) (h1 : x ≤ 9223372036854775807) : wrap64 x = x := by
  unfold wrap64; omega
theorem byte_neg (t : Int) (m : Nat) (h : t.natAbs = m) (hm : m < 10) (hn : t < 0) : (wrap64 (48 + (wrap64 (-t)))) % 256 = 48 + (m : Int) := by
  rw [wr (x := -t) (by omega) (by omega), wr (by omega) (by omega)]; omega
theorem byte_pos (t : Int) (m : Nat) (h : t.natAbs = m) (hm : m < 10) (hn : ¬ t < 0) : (wrap64 (48 + t)) % 256 = 48 + (m : Int) := by
  rw [wr (by omega) (by omega)]; omega

theorem loop_val (x0 : Int) (d : Nat) : ∀ (k : Nat) (s : ByteArray) (x : Int), -9223372036854775808 ≤ x → x ≤ 9223372036854775807 → x.natAbs < 10 ^ d → s.size + d ≤ 100 → d < k →
    ∃ r, spec_NumText.l0 k x0 s x = some r ∧ r.data.toList = (if x0 < 0 then [45] else []) ++ digs x.natAbs ++ s.data.toList := by
  induction d with
  | zero =>
    intro k s x h0 h1 hx hs hk
    obtain ⟨k, rfl⟩ : ∃ m, k = m + 1 := ⟨k - 1, by omega⟩
    have hz : x = 0 := by omega
    simp only [spec_NumText.l0]
    rw [if_pos hz]
    by_cases hn : x0 < 0
    · rw [if_pos hn, if_pos (by omega), if_pos hn]
      exact ⟨_, rfl, by rw [app_list]; simp [digs, hz]⟩
    · rw [if_neg hn, if_neg hn]
      exact ⟨_, rfl, by simp [digs, hz]⟩
  | succ d ih =>
    intro k s x h0 h1 hx hs hk
    obtain ⟨k, rfl⟩ : ∃ m, k = m + 1 := ⟨k - 1, by omega⟩
    simp only [spec_NumText.l0]
    by_cases hz : x = 0
    · rw [if_pos hz]
      by_cases hn : x0 < 0
      · rw [if_pos hn, if_pos (by omega), if_pos hn]
        exact ⟨_, rfl, by rw [app_list]; simp [digs, hz]⟩
      · rw [if_neg hn, if_neg hn]
        exact ⟨_, rfl, by simp [digs, hz]⟩
    · rw [if_neg hz]
      have hdiv : (Int.tdiv x 10).natAbs = x.natAbs / 10 := by rw [Int.natAbs_tdiv]; rfl
      have hb : (Int.tdiv x 10).natAbs < 10 ^ d := by rw [hdiv]; rw [Nat.pow_succ] at hx; omega
      have hr : (Int.tmod x 10).natAbs = x.natAbs % 10 := by rw [Int.natAbs_tmod]; rfl
      have hm := Nat.mod_lt x.natAbs (show 10 > 0 by decide)
      have hwd : wrap64 (Int.tdiv x 10) = Int.tdiv x 10 := wr (by omega) (by omega)
      obtain ⟨m, em⟩ : ∃ m, m = x.natAbs % 10 := ⟨_, rfl⟩
      rw [← em] at hr hm
      have fin : ∃ r, ((some (([48 + (m : Int)] : List Int) : List Int)).bind fun y => (if (strOfNums y).size + s.size ≤ 9223372036854775807 then (spec_NumText.l0 k x0 ((strOfNums y) ++ s) (wrap64 (Int.tdiv x 10))) else (none))) = some r ∧ r.data.toList = (if x0 < 0 then [45] else []) ++ digs x.natAbs ++ s.data.toList := by
        have hl := strOf_one (48 + (m : Int))
        have hsz : (strOfNums [48 + (m : Int)]).size = 1 := by rw [size_list, hl]; rfl
        simp only [Option.bind_some]
        rw [if_pos (by omega), hwd]
        obtain ⟨r, e, hr⟩ := ih k (strOfNums [48 + (m : Int)] ++ s) (Int.tdiv x 10) (by omega) (by omega) hb (by rw [size_list, app_list, List.length_append, ← size_list, ← size_list, hsz]; omega) (by omega)
        refine ⟨r, e, ?_⟩
        rw [hr, app_list, hl, hdiv, digs_step x.natAbs (by omega), ← em]
        have : (48 + (m : Int)).toNat = 48 + m := by omega
        rw [this]
        simp [List.append_assoc]
      by_cases hn : Int.tmod x 10 < 0
      · rw [if_pos hn, byte_neg _ m hr hm hn]
        exact fin
      · rw [if_neg hn, byte_pos _ m hr hm hn]
        exact fin

/-- THE REFERENCE's NumText IS THE DECIMAL NUMERAL. -/
theorem spec_val (k : Nat) (n : Int) (h0 : -9223372036854775808 ≤ n) (h1 : n ≤ 9223372036854775807) (hk : 50 < k) : spec_NumText.f k n = some ⟨(Lib.itoa n).toArray⟩ := by
  unfold spec_NumText.f
  by_cases hz : n = 0
  · subst hz
    rw [if_pos rfl]
    have : Lib.itoa 0 = [48] := by unfold Lib.itoa; rw [if_neg (by decide), Lib.decDigits, dif_pos (by decide)]; rfl
    rw [this]
  · rw [if_neg hz]
    obtain ⟨r, e, hr⟩ := loop_val n 20 k ⟨#[]⟩ n h0 h1 (by omega) (by decide) (by omega)
    rw [e, of_list r _ hr]
    congr 3
    unfold Lib.itoa digs
    by_cases hn : n < 0
    · rw [if_pos hn, if_pos hn, if_neg (by omega)]; simp
    · rw [if_neg hn, if_neg hn, if_neg (by omega)]
      have : n.natAbs = n.toNat := by omega
      rw [this]; simp

end Go.Proofs.YtfgmngfhchfaaaaDoor.Text
