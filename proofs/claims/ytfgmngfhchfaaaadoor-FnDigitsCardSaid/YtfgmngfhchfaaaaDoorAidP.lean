/- The contract of the program's ParseNum, at every text; condition: the listed package variables read as the program's text lays them. -/
import Derived.Test.YtfgmngfhchfaaaaDoorAid
import Derived.Test.YtfgmngfhchfaaaaDoorNumeral
import Derived.Lib.AtoiOr
import Derived.Laws.StructEq
import Derived.WalkKit
import Derived.OpenShut
namespace Go.Proofs.YtfgmngfhchfaaaaDoor.AidP
open Go.RowKit Go.Proofs.YtfgmngfhchfaaaaDoor.Aid Go.Proofs.YtfgmngfhchfaaaaDoor.Numeral Go.Proofs.YtfgmngfhchfaaaaDoorW.PrintWords
set_option linter.unusedVariables false
set_option linter.unusedSimpArgs false

/-- The tables and the errors. -/
abbrev TabE (w : World) : Prop := Tab w ∧ Errs w
theorem tabE_below {w w' : World} (h : TabE w) (hb : Below w.heap.size w w') : TabE w' := ⟨tab_below h.1 hb, errs_below h.2 hb⟩
theorem in_true (v : Int) (h : 0 ≤ v ∧ v ≤ 99999) (w : World) : Calls Tryd.prog 50 #[.int .i64 v, .int .i64 0, .int .i64 99999] w fun e w' => e = .returned (.bool true) ∧ Below w.heap.size w w' := by
  have h0 : decide (0 ≤ v) = true := decide_eq_true h.1
  have h1 : decide (v ≤ 99999) = true := decide_eq_true h.2
  clear h
  go_enter Tryd.func50, Tryd.ntmps50
  go_wp2
  go_ret
  exact ⟨rfl, Below.refl _ _⟩
theorem in_false (v : Int) (h : ¬ (0 ≤ v ∧ v ≤ 99999)) (w : World) : Calls Tryd.prog 50 #[.int .i64 v, .int .i64 0, .int .i64 99999] w fun e w' => e = .returned (.bool false) ∧ Below w.heap.size w w' := by
  by_cases h2 : 0 ≤ v
  · have h0 : decide (0 ≤ v) = true := decide_eq_true h2
    have h1 : decide (v ≤ 99999) = false := decide_eq_false (by omega)
    clear h h2
    go_enter Tryd.func50, Tryd.ntmps50
    go_wp2
    go_ret
    exact ⟨rfl, Below.refl _ _⟩
  · have h0 : decide (0 ≤ v) = false := decide_eq_false h2
    clear h h2
    go_enter Tryd.func50, Tryd.ntmps50
    go_wp2
    go_ret
    exact ⟨rfl, Below.refl _ _⟩
theorem str_inj {l : List UInt8} {s : ByteArray} (h : (⟨l.toArray⟩ : ByteArray) = s) : l = s.data.toList := by subst h; rfl

theorem str_eq {a b : ByteArray} (h : (a == b) = true) : a = b := by
  cases a with | mk x => cases b with | mk y =>
    have h : (x == y) = true := h
    rw [eq_of_beq h]
theorem str_ne {a b : ByteArray} (h : a ≠ b) : (a == b) = false := by
  cases e : (a == b) with
  | false => rfl
  | true => exact absurd (str_eq e) h
/-- THE PROGRAM's ParseNum. -/
theorem parseNum (s : ByteArray) (hlim : s.size ≤ 281474976710656) (w : World) (ht : Tab w) (he : Errs w) :
    Calls Tryd.prog 9 #[.string s] w fun e w' => e = .returned (.tuple #[.int .i64 (pv s.data.toList).1, .bool (pv s.data.toList).2]) ∧ Below w.heap.size w w' := by
  have HT := Aside0.mk ht
  obtain ⟨⟨te0, pe0, g0⟩, ⟨te1, pe1, g1⟩⟩ := he
  have G0 := Aside0.mk g0
  have G1 := Aside0.mk g1
  clear ht g0 g1
  cases h : Lib.atoiAll s.data.toList with
  | «syntax» =>
    have hr : pv s.data.toList = (0, false) := pv_not (fun v _ _ _ e => by rw [h] at e; cases e)
    rw [hr]
    have H := Aside0.mk h
    clear h hr
    go_enter Tryd.func9, Tryd.ntmps9
    go_wp2_with (go_at_call 49; refine (Tryd.strconv_Atoi_syntax s hlim H.out _ _ ?_ (Or.inr ⟨te0, pe0, rfl⟩)).mono ?_)
    · exact G0.out
    rintro e W1 ⟨N, rfl, -, -, hb⟩
    have HB := Aside0.mk hb
    clear hb
    go_wp2
    go_ret2
    exact ⟨rfl, HB.out⟩
  | range =>
    have hr : pv s.data.toList = (0, false) := pv_not (fun v _ _ _ e => by rw [h] at e; cases e)
    rw [hr]
    have H := Aside0.mk h
    clear h hr
    go_enter Tryd.func9, Tryd.ntmps9
    go_wp2_with (go_at_call 49; refine (Tryd.strconv_Atoi_range s hlim H.out _ _ ?_ (Or.inr ⟨te1, pe1, rfl⟩)).mono ?_)
    · exact G1.out
    rintro e W1 ⟨N, rfl, -, -, hb⟩
    have HB := Aside0.mk hb
    clear hb
    go_wp2
    go_ret2
    exact ⟨rfl, HB.out⟩
  | ok v =>
    obtain ⟨b0, b1⟩ := Lib.atoiAll_bounds h
    have hat : Calls Tryd.prog 49 #[.string s] w fun e w' => e = .returned (.tuple #[.int .i64 v, .nilIface]) ∧ Below w.heap.size w w' :=
      (Tryd.strconv_Atoi_ok s (by omega) v h w).mono fun e w' ⟨he, hw⟩ => ⟨he, by
        rcases hw with rfl | ⟨t, rfl⟩
        · exact Below.refl _ _
        · exact Lib.bytesWorld_below _ _ _⟩
    by_cases hin : 0 ≤ v ∧ v ≤ 99999
    · by_cases hs : Lib.itoa v = s.data.toList
      · have hr : pv s.data.toList = (v, true) := pv_of hin.1 hin.2 hs
        rw [hr]
        have hst : (⟨(Lib.itoa v).toArray⟩ : ByteArray) = s := by rw [hs]
        have hif := in_true v hin
        have HA := Aside0.mk hat
        have HI := Aside0.mk hif
        have hnt : ∀ w1, Tab w1 → Calls Tryd.prog 11 #[.int .i64 v] w1 fun e w' => e = .returned (.string s) ∧ Below w1.heap.size w1 w' := by
          intro w1 h1; have := numText v b0 b1 w1 h1; rw [hst] at this; exact this
        have HN := Aside0.mk hnt
        clear h hat hif hin hs hr hst hnt b0 b1
        go_enter Tryd.func9, Tryd.ntmps9
        go_wp2_with (first | (go_at_call 49; refine HA.out.mono ?_; rintro e w1 ⟨rfl, hb1⟩; have HB := Aside0.mk hb1; clear hb1) | (go_at_call 50; refine (HI.out _).mono ?_; rintro e w2 ⟨rfl, hb2⟩; have HB2 := Aside0.mk hb2; clear hb2) | (go_at_call 11; refine (HN.out _ (tab_below (tab_below HT.out HB.out) HB2.out)).mono ?_; rintro e w3 ⟨rfl, hb3⟩; have HB3 := Aside0.mk hb3; clear hb3))
        go_ret2
        exact ⟨rfl, (HB.out.trans (HB2.out.mono HB.out.size)).trans (HB3.out.mono (Nat.le_trans HB.out.size HB2.out.size))⟩
      · have hr : pv s.data.toList = (0, false) := pv_not (fun u u0 u1 ui e => by rw [h] at e; cases e; exact hs ui)
        rw [hr]
        have hst2 : ((⟨(Lib.itoa v).toArray⟩ : ByteArray) == s) = false := str_ne (fun e => hs (str_inj e))
        have hst : (ByteArray.toList ⟨(Lib.itoa v).toArray⟩ == s.toList) = false := by rw [← beq_toListBytes]; exact hst2
        have hif := in_true v hin
        have HA := Aside0.mk hat
        have HI := Aside0.mk hif
        obtain ⟨t, et⟩ : ∃ t : ByteArray, t = ⟨(Lib.itoa v).toArray⟩ := ⟨_, rfl⟩
        rw [← et] at hst hst2
        have hnt : ∀ w1, Tab w1 → Calls Tryd.prog 11 #[.int .i64 v] w1 fun e w' => e = .returned (.string t) ∧ Below w1.heap.size w1 w' := by
          intro w1 h1; have := numText v b0 b1 w1 h1; rw [← et] at this; exact this
        have HN := Aside0.mk hnt
        clear h hat hif hin hs hr hnt b0 b1 et
        go_enter Tryd.func9, Tryd.ntmps9
        go_wp2_with (first | (go_at_call 49; refine HA.out.mono ?_; rintro e w1 ⟨rfl, hb1⟩; have HB := Aside0.mk hb1; clear hb1) | (go_at_call 50; refine (HI.out _).mono ?_; rintro e w2 ⟨rfl, hb2⟩; have HB2 := Aside0.mk hb2; clear hb2) | (go_at_call 11; refine (HN.out _ (tab_below (tab_below HT.out HB.out) HB2.out)).mono ?_; rintro e w3 ⟨rfl, hb3⟩; have HB3 := Aside0.mk hb3; clear hb3))
        go_ret2
        exact ⟨rfl, (HB.out.trans (HB2.out.mono HB.out.size)).trans (HB3.out.mono (Nat.le_trans HB.out.size HB2.out.size))⟩
    · have hr : pv s.data.toList = (0, false) := pv_not (fun u u0 u1 ui e => by rw [h] at e; cases e; exact hin ⟨u0, u1⟩)
      rw [hr]
      have hif := in_false v hin
      have HA := Aside0.mk hat
      have HI := Aside0.mk hif
      clear h hat hif hin hr b0 b1
      go_enter Tryd.func9, Tryd.ntmps9
      go_wp2_with (first | (go_at_call 49; refine HA.out.mono ?_; rintro e w1 ⟨rfl, hb1⟩; have HB := Aside0.mk hb1; clear hb1) | (go_at_call 50; refine (HI.out _).mono ?_; rintro e w2 ⟨rfl, hb2⟩; have HB2 := Aside0.mk hb2; clear hb2))
      go_ret2
      exact ⟨rfl, HB.out.trans (HB2.out.mono HB.out.size)⟩

end Go.Proofs.YtfgmngfhchfaaaaDoor.AidP
