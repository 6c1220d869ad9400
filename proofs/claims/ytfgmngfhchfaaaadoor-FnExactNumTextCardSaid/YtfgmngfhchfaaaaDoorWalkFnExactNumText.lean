/- The walk of the law FnExactNumText: the reference's numeral and strconv.Itoa's are one string; condition: the listed package variables read as the program's text lays them. -/
import Derived.Test.YtfgmngfhchfaaaaDoorText
import Derived.WalkKit
import Derived.OpenShut
namespace Go.Proofs.YtfgmngfhchfaaaaDoor.WalkFnExactNumText
open Go.RowKit Go.Proofs.YtfgmngfhchfaaaaDoor.Text Go.Proofs.YtfgmngfhchfaaaaDoor.PFnExactNumText Go.Proofs.YtfgmngfhchfaaaaDoorW.PrintWords
set_option linter.unusedVariables false
set_option linter.unusedSimpArgs false

theorem gPow : Tryd.prog.globalNamed Rows.fnExactNumTextRow.laid[2].1 = some 2 := by kernel_rfl
abbrev Tab (w : World) : Prop := Lib.TabIs Tryd.prog w "internal/strconv.uint64pow10" .u64 Lib.pow10Tab
theorem tab_below {w w' : World} (h : Tab w) (hb : Below w.heap.size w w') : Tab w' := Lib.tabBelow_of_tabIs h w' hb
theorem tab_of_laid {W : World} (h : laidMetH Tryd.prog Rows.fnExactNumTextRow.laid W) : Tab W := by
  rw [MakeChecks.laidMetH_plain _ _ _ (by kernel_rfl)] at h
  have h2 := h.tail.tail
  have e : (Rows.laid_internal_strconv_uint64pow10 : DataW Unit) = Lib.tabData .u64 Lib.pow10Tab := by kernel_rfl
  rw [e] at h2
  exact Lib.tabIs_of_head (g := 2) (t := 120) (e := 101) (n := 20) (by kernel_rfl) (by kernel_rfl) Tryd.underlying120 Tryd.underlying101 (by kernel_rfl) (by kernel_rfl) h2

theorem numText (n : Int) (h0 : -9223372036854775808 ≤ n) (h1 : n ≤ 9223372036854775807) (w : World) (ht : Tab w) :
    Calls Tryd.prog 11 #[.int .i64 n] w fun e w' => e = .returned (.string ⟨(Lib.itoa n).toArray⟩) ∧ Below w.heap.size w w' := by
  have HT := Aside0.mk ht
  clear ht
  go_enter Tryd.func11, Tryd.ntmps11
  go_wp2_with (go_at_call 51; refine (Tryd.strconv_Itoa n h0 h1 _ HT.out).mono ?_; rintro e w' ⟨rfl, k, os, rfl⟩)
  go_ret
  exact ⟨rfl, Lib.below_grow _ _ (Nat.le_refl _) _ _⟩

theorem law_calls (n : Int) (W : World) (hL : laidMetH Tryd.prog Rows.fnExactNumTextRow.laid W) (hw : (Lit.int .i64 n).wf = true) :
    Calls Tryd.prog 4 #[.int .i64 n] W fun e W' => e = .returned (.bool true) ∧ Below W.heap.size W W' := by
  obtain ⟨h0, h1⟩ := bounds_i64 hw
  have HT := Aside0.mk (tab_of_laid hL)
  clear hL hw
  go_enter Tryd.func4, Tryd.ntmps4
  go_wp2_with (go_at_call 10; refine (spec_NumText.calls 60 n _ _ (spec_val 60 n h0 h1 (by omega))).mono ?_; rintro e w1 ⟨rfl, hb1⟩; have HB := Aside0.mk hb1; clear hb1)
  go_wp2_with (go_at_call 11; refine (numText n h0 h1 _ (tab_below HT.out HB.out)).mono ?_; rintro e w2 ⟨rfl, hb2⟩; have HB2 := Aside0.mk hb2; clear hb2)
  go_ret
  exact ⟨rfl, HB.out.trans (HB2.out.mono HB.out.size)⟩
end Go.Proofs.YtfgmngfhchfaaaaDoor.WalkFnExactNumText
