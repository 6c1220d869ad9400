/- The walk of the law FnExactParseNum: the reference and the program read the same number of a text; condition: the listed package variables read as the program's text lays them. -/
import Derived.Test.YtfgmngfhchfaaaaDoorAid
import Derived.Test.YtfgmngfhchfaaaaDoorNumeral
import Derived.Test.YtfgmngfhchfaaaaDoorPFnExactParseNumx1
import Derived.Lib.AtoiOr
import Derived.Laws.StructEq
import Derived.WalkKit
import Derived.OpenShut
namespace Go.Proofs.YtfgmngfhchfaaaaDoor.WalkFnExactParseNum
open Go.RowKit Go.Proofs.YtfgmngfhchfaaaaDoor.Aid Go.Proofs.YtfgmngfhchfaaaaDoor.Numeral Go.Proofs.YtfgmngfhchfaaaaDoor.PFnExactParseNum Go.Proofs.YtfgmngfhchfaaaaDoorW.PrintWords
set_option linter.unusedVariables false
set_option linter.unusedSimpArgs false

theorem wr {x : Int} (h0 : -9223372036854775808 ≤ x) (h1 : x ≤ 9223372036854775807) : wrap64 x = x := by
  unfold wrap64; omega
theorem size_list (a : ByteArray) : a.size = a.data.toList.length := by rw [Array.length_toList]; rfl
theorem bt_at (s : ByteArray) (i : Nat) (h : i < s.size) : ∃ (h' : i < s.data.toList.length), bt s (i : Int) = ((s.data.toList[i]'h').toNat : Int) := by
  have h' : i < s.data.toList.length := by rw [← size_list]; exact h
  refine ⟨h', ?_⟩
  unfold bt
  rw [dif_pos (by simpa using h)]
  simp [ByteArray.getElem_eq_getElem_data]
theorem byte_lt (c : UInt8) : c.toNat < 256 := UInt8.toNat_lt c
theorem step_eq (n c : Nat) (hn : n < 100000) (h1 : 48 ≤ c) (h2 : c ≤ 57) : wrap64 ((wrap64 (10 * (n : Int))) + (((c : Int) - 48) % 256)) = ((10 * n + (c - 48) : Nat) : Int) := by
  have e : ((c : Int) - 48) % 256 = (c : Int) - 48 := by omega
  rw [wr (x := 10 * (n : Int)) (by omega) (by omega), e, wr (by omega) (by omega)]; omega
theorem next_eq (i : Nat) (h : i < 100) : wrap64 ((i : Int) + 1) = ((i + 1 : Nat) : Int) := by
  rw [wr (by omega) (by omega)]; omega
theorem same_byte (c : Nat) (h : c < 256) : wrap64 (c : Int) = c := wr (by omega) (by omega)
theorem loop_val (s : ByteArray) (hs : s.size ≤ 5) (d : Nat) : ∀ (k i n : Nat), i ≤ s.size → s.size - i = d → n < 10 ^ i → d < k →
    spec_ParseNum.l0 k s n i = some (if (s.data.toList.drop i).all isDig = true then (((val n (s.data.toList.drop i) : Nat) : Int), true) else (0, false)) := by
  induction d with
  | zero =>
    intro k i n hi hd hn hk
    obtain ⟨k, rfl⟩ : ∃ m, k = m + 1 := ⟨k - 1, by omega⟩
    simp only [spec_ParseNum.l0]
    rw [if_neg (by omega)]
    have e : s.data.toList.drop i = [] := List.drop_eq_nil_of_le (by rw [← size_list]; omega)
    rw [e, if_pos (by rfl), val_nil]
  | succ d ih =>
    intro k i n hi hd hn hk
    obtain ⟨k, rfl⟩ : ∃ m, k = m + 1 := ⟨k - 1, by omega⟩
    obtain ⟨h', eb⟩ := bt_at s i (by omega)
    obtain ⟨c, ec⟩ : ∃ c, c = s.data.toList[i]'h' := ⟨_, rfl⟩
    have ed : s.data.toList.drop i = c :: s.data.toList.drop (i + 1) := by rw [ec]; exact List.drop_eq_getElem_cons h'
    rw [← ec] at eb
    have hc := byte_lt c
    have hp : 10 ^ i ≤ 10 ^ 5 := Nat.pow_le_pow_right (by decide) (by omega)
    have e5 : 10 ^ 5 = 100000 := by decide
    rw [e5] at hp
    simp only [spec_ParseNum.l0]
    rw [if_pos (by omega), if_pos (by omega), eb, same_byte _ hc, ed]
    unfold spec_l1In.f
    rw [List.all_cons]
    by_cases h1 : (c.toNat : Int) ≥ 48
    · rw [if_pos h1]
      simp only [Option.bind_some]
      by_cases h2 : (c.toNat : Int) ≤ 57
      · have hdg : isDig c = true := isDig_iff.2 (by omega)
        rw [decide_eq_true h2, if_pos rfl, hdg, Bool.true_and, val_cons]
        have e1 := step_eq n c.toNat (by omega) (by omega) (by omega)
        have e2 := next_eq i (by omega)
        rw [e1, e2]
        clear e1 e2 eb
        have a1 : i + 1 ≤ s.size := by omega
        have a2 : s.size - (i + 1) = d := by omega
        have a3 : 10 * n + (c.toNat - 48) < 10 ^ (i + 1) := by rw [Nat.pow_succ]; omega
        have a4 : d < k := by omega
        exact ih k (i + 1) (10 * n + (c.toNat - 48)) a1 a2 a3 a4
      · have hdg : isDig c = false := by
          cases e : isDig c with
          | false => rfl
          | true => exact absurd (isDig_iff.1 e).2 (by omega)
        rw [decide_eq_false h2, if_neg (by simp), hdg, Bool.false_and, if_neg (by simp)]
    · have hdg : isDig c = false := by
        cases e : isDig c with
        | false => rfl
        | true => exact absurd (isDig_iff.1 e).1 (by omega)
      rw [if_neg h1]
      simp only [Option.bind_some]
      rw [if_neg (by simp), hdg, Bool.false_and, if_neg (by simp)]
theorem spec_val (s : ByteArray) (k : Nat) (hk : 20 < k) : spec_ParseNum.f k s = some ((pv s.data.toList).1, (pv s.data.toList).2) := by
  obtain ⟨k, rfl⟩ : ∃ m, k = m + 1 := ⟨k - 1, by omega⟩
  have hl := size_list s
  have e : ∀ p : Int × Bool, some (p.1, p.2) = some p := fun _ => rfl
  rw [e]
  unfold pv
  have jt : spec_ParseNum.j0 (k + 1) s true = some (0, false) := by simp only [spec_ParseNum.j0]; rfl
  have jf : s.size ≤ 5 → spec_ParseNum.j0 (k + 1) s false = some (if s.data.toList.all isDig = true then (((val 0 s.data.toList : Nat) : Int), true) else (0, false)) := by
    intro h5
    have h := loop_val s h5 s.size k 0 0 (by omega) (by omega) (by decide) (by omega)
    rw [List.drop_zero] at h
    simp only [spec_ParseNum.j0]
    rw [if_neg (by simp)]
    exact h
  unfold spec_ParseNum.f
  by_cases h1 : s.size = 0
  · rw [if_pos (by omega), jt, if_pos (Or.inl (by omega))]
  · rw [if_neg (by omega)]
    by_cases h2 : 5 < s.size
    · rw [if_pos (by omega), jt, if_pos (Or.inr (Or.inl (by omega)))]
    · rw [if_neg (by omega)]
      by_cases h3 : 1 < s.size
      · rw [if_pos (by omega), if_pos (by omega)]
        obtain ⟨h', eb⟩ := bt_at s 0 (by omega)
        have eh : s.data.toList.head? = some (s.data.toList[0]'h') := by rw [List.head?_eq_getElem?, List.getElem?_eq_getElem h']
        by_cases h4 : s.data.toList.head? = some 48
        · have : (bt s 0 == 48) = true := by
            rw [eh] at h4
            have h4 := Option.some.inj h4
            have eb' : bt s 0 = _ := eb
            rw [eb', h4]; rfl
          rw [this, jt, if_pos (Or.inr (Or.inr ⟨by omega, h4⟩))]
        · have : (bt s 0 == 48) = false := by
            have eb' : bt s 0 = _ := eb
            rw [eb', beq_eq_false_iff_ne]
            intro hx
            apply h4
            rw [eh]
            congr 1
            apply UInt8.toNat_inj.1
            have e48 : (48 : UInt8).toNat = 48 := rfl
            omega
          have hn : ¬ (s.data.toList.length = 0 ∨ 5 < s.data.toList.length ∨ 1 < s.data.toList.length ∧ s.data.toList.head? = some 48) := by
            rintro (x | x | x)
            · omega
            · omega
            · exact h4 x.2
          rw [this, jf (by omega), if_neg hn]
      · have hn : ¬ (s.data.toList.length = 0 ∨ 5 < s.data.toList.length ∨ 1 < s.data.toList.length ∧ s.data.toList.head? = some 48) := by
          rintro (x | x | x) <;> omega
        rw [if_neg (by omega), jf (by omega), if_neg hn]

theorem in_f (v : Int) : impl_in.f v 0 99999 = some (decide (0 ≤ v ∧ v ≤ 99999)) := by
  unfold impl_in.f
  by_cases h : 0 ≤ v
  · rw [if_pos h]; congr 1; rw [decide_eq_decide]; omega
  · rw [if_neg h]; congr 1; rw [eq_comm, decide_eq_false_iff_not]; omega
theorem str_inj {l : List UInt8} {s : ByteArray} (h : (⟨l.toArray⟩ : ByteArray) = s) : l = s.data.toList := by subst h; rfl

theorem str_eq {a b : ByteArray} (h : (a == b) = true) : a = b := by
  cases a with | mk x => cases b with | mk y =>
    have h : (x == y) = true := h
    rw [eq_of_beq h]
theorem str_ne {a b : ByteArray} (h : a ≠ b) : (a == b) = false := by
  cases e : (a == b) with
  | false => rfl
  | true => exact absurd (str_eq e) h
/-- THE PROGRAM's ParseNum. -/
theorem parseNum (s : ByteArray) (hlim : s.size ≤ 281474976710656) (w : World) (ht : Tab w) (he : Errs w) :
    Calls Tryd.prog 9 #[.string s] w fun e w' => e = .returned (.tuple #[.int .i64 (pv s.data.toList).1, .bool (pv s.data.toList).2]) ∧ Below w.heap.size w w' := by
  have HT := Aside0.mk ht
  obtain ⟨⟨te0, pe0, g0⟩, ⟨te1, pe1, g1⟩⟩ := he
  have G0 := Aside0.mk g0
  have G1 := Aside0.mk g1
  clear ht g0 g1
  cases h : Lib.atoiAll s.data.toList with
  | «syntax» =>
    have hr : pv s.data.toList = (0, false) := pv_not (fun v _ _ _ e => by rw [h] at e; cases e)
    rw [hr]
    have H := Aside0.mk h
    clear h hr
    go_enter Tryd.func9, Tryd.ntmps9
    go_wp2_with (go_at_call 49; refine (Tryd.strconv_Atoi_syntax s hlim H.out _ _ ?_ (Or.inr ⟨te0, pe0, rfl⟩)).mono ?_)
    · exact G0.out
    rintro e W1 ⟨N, rfl, -, -, hb⟩
    have HB := Aside0.mk hb
    clear hb
    go_wp2
    go_ret2
    exact ⟨rfl, HB.out⟩
  | range =>
    have hr : pv s.data.toList = (0, false) := pv_not (fun v _ _ _ e => by rw [h] at e; cases e)
    rw [hr]
    have H := Aside0.mk h
    clear h hr
    go_enter Tryd.func9, Tryd.ntmps9
    go_wp2_with (go_at_call 49; refine (Tryd.strconv_Atoi_range s hlim H.out _ _ ?_ (Or.inr ⟨te1, pe1, rfl⟩)).mono ?_)
    · exact G1.out
    rintro e W1 ⟨N, rfl, -, -, hb⟩
    have HB := Aside0.mk hb
    clear hb
    go_wp2
    go_ret2
    exact ⟨rfl, HB.out⟩
  | ok v =>
    obtain ⟨b0, b1⟩ := Lib.atoiAll_bounds h
    have hat : Calls Tryd.prog 49 #[.string s] w fun e w' => e = .returned (.tuple #[.int .i64 v, .nilIface]) ∧ Below w.heap.size w w' :=
      (Tryd.strconv_Atoi_ok s (by omega) v h w).mono fun e w' ⟨he, hw⟩ => ⟨he, by
        rcases hw with rfl | ⟨t, rfl⟩
        · exact Below.refl _ _
        · exact Lib.bytesWorld_below _ _ _⟩
    by_cases hin : 0 ≤ v ∧ v ≤ 99999
    · by_cases hs : Lib.itoa v = s.data.toList
      · have hr : pv s.data.toList = (v, true) := pv_of hin.1 hin.2 hs
        rw [hr]
        have hst : (⟨(Lib.itoa v).toArray⟩ : ByteArray) = s := by rw [hs]
        have hif : impl_in.f v 0 99999 = some true := by rw [in_f, decide_eq_true hin]
        have HA := Aside0.mk hat
        have HI := Aside0.mk hif
        have hnt : ∀ w1, Tab w1 → Calls Tryd.prog 11 #[.int .i64 v] w1 fun e w' => e = .returned (.string s) ∧ Below w1.heap.size w1 w' := by
          intro w1 h1; have := numText v b0 b1 w1 h1; rw [hst] at this; exact this
        have HN := Aside0.mk hnt
        clear h hat hif hin hs hr hst hnt b0 b1
        go_enter Tryd.func9, Tryd.ntmps9
        go_wp2_with (first | (go_at_call 49; refine HA.out.mono ?_; rintro e w1 ⟨rfl, hb1⟩; have HB := Aside0.mk hb1; clear hb1) | (go_at_call 50; refine (impl_in.calls _ _ _ _ _ HI.out).mono ?_; rintro e w2 ⟨rfl, hb2⟩; have HB2 := Aside0.mk hb2.below; clear hb2) | (go_at_call 11; refine (HN.out _ (tab_below (tab_below HT.out HB.out) HB2.out)).mono ?_; rintro e w3 ⟨rfl, hb3⟩; have HB3 := Aside0.mk hb3; clear hb3))
        go_ret2
        exact ⟨rfl, (HB.out.trans (HB2.out.mono HB.out.size)).trans (HB3.out.mono (Nat.le_trans HB.out.size HB2.out.size))⟩
      · have hr : pv s.data.toList = (0, false) := pv_not (fun u u0 u1 ui e => by rw [h] at e; cases e; exact hs ui)
        rw [hr]
        have hst2 : ((⟨(Lib.itoa v).toArray⟩ : ByteArray) == s) = false := str_ne (fun e => hs (str_inj e))
        have hst : (ByteArray.toList ⟨(Lib.itoa v).toArray⟩ == s.toList) = false := by rw [← beq_toListBytes]; exact hst2
        have hif : impl_in.f v 0 99999 = some true := by rw [in_f, decide_eq_true hin]
        have HA := Aside0.mk hat
        have HI := Aside0.mk hif
        obtain ⟨t, et⟩ : ∃ t : ByteArray, t = ⟨(Lib.itoa v).toArray⟩ := ⟨_, rfl⟩
        rw [← et] at hst hst2
        have hnt : ∀ w1, Tab w1 → Calls Tryd.prog 11 #[.int .i64 v] w1 fun e w' => e = .returned (.string t) ∧ Below w1.heap.size w1 w' := by
          intro w1 h1; have := numText v b0 b1 w1 h1; rw [← et] at this; exact this
        have HN := Aside0.mk hnt
        clear h hat hif hin hs hr hnt b0 b1 et
        go_enter Tryd.func9, Tryd.ntmps9
        go_wp2_with (first | (go_at_call 49; refine HA.out.mono ?_; rintro e w1 ⟨rfl, hb1⟩; have HB := Aside0.mk hb1; clear hb1) | (go_at_call 50; refine (impl_in.calls _ _ _ _ _ HI.out).mono ?_; rintro e w2 ⟨rfl, hb2⟩; have HB2 := Aside0.mk hb2.below; clear hb2) | (go_at_call 11; refine (HN.out _ (tab_below (tab_below HT.out HB.out) HB2.out)).mono ?_; rintro e w3 ⟨rfl, hb3⟩; have HB3 := Aside0.mk hb3; clear hb3))
        go_ret2
        exact ⟨rfl, (HB.out.trans (HB2.out.mono HB.out.size)).trans (HB3.out.mono (Nat.le_trans HB.out.size HB2.out.size))⟩
    · have hr : pv s.data.toList = (0, false) := pv_not (fun u u0 u1 ui e => by rw [h] at e; cases e; exact hin ⟨u0, u1⟩)
      rw [hr]
      have hif : impl_in.f v 0 99999 = some false := by rw [in_f, decide_eq_false hin]
      have HA := Aside0.mk hat
      have HI := Aside0.mk hif
      clear h hat hif hin hr b0 b1
      go_enter Tryd.func9, Tryd.ntmps9
      go_wp2_with (first | (go_at_call 49; refine HA.out.mono ?_; rintro e w1 ⟨rfl, hb1⟩; have HB := Aside0.mk hb1; clear hb1) | (go_at_call 50; refine (impl_in.calls _ _ _ _ _ HI.out).mono ?_; rintro e w2 ⟨rfl, hb2⟩; have HB2 := Aside0.mk hb2.below; clear hb2))
      go_ret2
      exact ⟨rfl, HB.out.trans (HB2.out.mono HB.out.size)⟩

theorem law_calls (s : ByteArray) (W : World) (hL : laidMetH Tryd.prog Rows.fnExactParseNumRow.laid W) (hlim : s.size ≤ 281474976710656) :
    Calls Tryd.prog 3 #[.string s] W fun e W' => e = .returned (.bool true) ∧ Below W.heap.size W W' := by
  obtain ⟨ht, he⟩ := tab_of5 hL
  have HT := Aside0.mk ht
  have HE := Aside0.mk he
  have HL := Aside0.mk hlim
  clear hL ht he hlim
  by_cases hb : (s.size : Int) > 1048576
  · have hb1 : decide ((s.size : Int) > 1048576) = true := decide_eq_true hb
    have hb2 : (1048576 < s.size) = True := eq_true (by omega)
    have hb3 : decide (1048576 < s.size) = true := decide_eq_true (by omega)
    clear hb
    go_enter Tryd.func3, Tryd.ntmps3
    go_wp2
    go_ret
    exact ⟨rfl, Below.refl _ _⟩
  · have hb1 : decide ((s.size : Int) > 1048576) = false := decide_eq_false hb
    have hb3 : decide (1048576 < s.size) = false := decide_eq_false (by omega)
    clear hb
    have HS := Aside0.mk (spec_val s 60 (by omega))
    obtain ⟨a, ea⟩ : ∃ a, a = (pv s.data.toList).1 := ⟨_, rfl⟩
    obtain ⟨b, eb⟩ : ∃ b, b = (pv s.data.toList).2 := ⟨_, rfl⟩
    rw [← ea, ← eb] at HS
    have hp := parseNum s HL.out
    rw [← ea, ← eb] at hp
    have HP := Aside0.mk hp
    clear ea eb hp
    go_enter Tryd.func3, Tryd.ntmps3
    go_wp2_with (first | (go_at_call 8; refine (spec_ParseNum.calls 60 s a b _ HS.out).mono ?_; rintro e w1 ⟨rfl, hb1⟩; have HB := Aside0.mk hb1.below; clear hb1) | (go_at_call 9; refine (HP.out _ (tab_below HT.out HB.out) (errs_below HE.out HB.out)).mono ?_; rintro e w2 ⟨rfl, hb2⟩; have HB2 := Aside0.mk hb2; clear hb2))
    all_goals
      go_ret
      exact ⟨rfl, HB.out.trans (HB2.out.mono HB.out.size)⟩
end Go.Proofs.YtfgmngfhchfaaaaDoor.WalkFnExactParseNum
