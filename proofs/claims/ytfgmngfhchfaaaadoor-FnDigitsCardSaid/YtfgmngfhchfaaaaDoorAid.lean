/- What the laws over strconv lean on: the listed package variables in the walks' words; the contract of the program's NumText; condition: the listed variables read as the program's text lays them. -/
import Derived.Test.YtfgmngfhchfaaaaDoorShelf
import Derived.Test.YtfgmngfhchfaaaaDoorWWords
import Derived.Test.YtfgmngfhchfaaaaDoorRows
import Derived.Lib.AppendIntMem
import Derived.Lib.AtoiErrMem
import Derived.MakeChecks
import Derived.Stop.LaidErr
import Derived.WalkKit
import Derived.BigCall
namespace Go.Proofs.YtfgmngfhchfaaaaDoor.Aid
open Go.RowKit Go.Proofs.YtfgmngfhchfaaaaDoorW.PrintWords
set_option linter.unusedVariables false
set_option linter.unusedSimpArgs false

abbrev Tab (w : World) : Prop := Lib.TabIs Tryd.prog w "internal/strconv.uint64pow10" .u64 Lib.pow10Tab
theorem tab_below {w w' : World} (h : Tab w) (hb : Below w.heap.size w w') : Tab w' := Lib.tabBelow_of_tabIs h w' hb
theorem tab_of {W : World} {r : List (String × DataW Unit)} (h2 : laidMet Tryd.prog (("internal/strconv.uint64pow10", Rows.laid_internal_strconv_uint64pow10) :: r) W) : Tab W := by
  have e : (Rows.laid_internal_strconv_uint64pow10 : DataW Unit) = Lib.tabData .u64 Lib.pow10Tab := by kernel_rfl
  rw [e] at h2
  exact Lib.tabIs_of_head (g := 2) (t := 120) (e := 101) (n := 20) (by kernel_rfl) (by kernel_rfl) Tryd.underlying120 Tryd.underlying101 (by kernel_rfl) (by kernel_rfl) h2
/-- The laws that list the three tables. -/
theorem tab_of3 {W : World} (h : laidMetH Tryd.prog Rows.fnExactNumTextRow.laid W) : Tab W := by
  rw [MakeChecks.laidMetH_plain _ _ _ (by kernel_rfl)] at h
  exact tab_of h.tail.tail
/-- The two errors of strconv hold values. -/
structure Errs (w : World) : Prop where
  syn : ∃ te pe, w.cell? ⟨0, 0, none⟩ = some (.iface te pe)
  rng : ∃ te pe, w.cell? ⟨1, 0, none⟩ = some (.iface te pe)
theorem star : "*" ++ "errors.errorString" = "*errors.errorString" := by decide
theorem row_err : ∀ u, Tryd.prog.typeName? 3 u = some "*errors.errorString" → u = 115 := fun u h =>
  typeName_ptr_named (nm := "errors.errorString") (by rw [star]; kernel_rfl) (by kernel_rfl) (by decide) u (by rw [star]; exact h)
/-- The laws that list the two errors besides. -/
theorem tab_of5 {W : World} (h : laidMetH Tryd.prog Rows.fnExactParseNumRow.laid W) : Tab W ∧ Errs W := by
  rw [MakeChecks.laidMetH_plain _ _ _ (by kernel_rfl)] at h
  refine ⟨tab_of h.tail.tail, ?_⟩
  have h3 := h.tail.tail.tail
  obtain ⟨a1, s1, hv1, -, -, -⟩ := laid_sentinel h3 (g := 1) (by kernel_rfl) (by kernel_rfl) Tryd.underlying61 row_err Tryd.underlying115 Tryd.underlying117 rfl rfl Tryd.underlying9 (by kernel_rfl) (by kernel_rfl)
  obtain ⟨a0, s0, hv0, -, -, -⟩ := laid_sentinel h3.tail (g := 0) (by kernel_rfl) (by kernel_rfl) Tryd.underlying61 row_err Tryd.underlying115 Tryd.underlying117 rfl rfl Tryd.underlying9 (by kernel_rfl) (by kernel_rfl)
  exact ⟨⟨_, _, by have h0 := World.var?_cell (g := 0) (by kernel_rfl) hv0 0; simpa using h0⟩, ⟨_, _, by have h0 := World.var?_cell (g := 1) (by kernel_rfl) hv1 0; simpa using h0⟩⟩
theorem errs_below {w w' : World} (h : Errs w) (hb : Below w.heap.size w w') : Errs w' := by
  obtain ⟨⟨a, b, h0⟩, ⟨c, d, h1⟩⟩ := h
  exact ⟨⟨a, b, (hb.cell (World.block_lt_of_cell? w _ h0)).trans h0⟩, ⟨c, d, (hb.cell (World.block_lt_of_cell? w _ h1)).trans h1⟩⟩

/-- THE PROGRAM's NumText. -/
theorem numText (n : Int) (h0 : -9223372036854775808 ≤ n) (h1 : n ≤ 9223372036854775807) (w : World) (ht : Tab w) :
    Calls Tryd.prog 11 #[.int .i64 n] w fun e w' => e = .returned (.string ⟨(Lib.itoa n).toArray⟩) ∧ Below w.heap.size w w' := by
  have HT := Aside0.mk ht
  clear ht
  go_enter Tryd.func11, Tryd.ntmps11
  go_wp2_with (go_at_call 51; refine (Tryd.strconv_Itoa n h0 h1 _ HT.out).mono ?_; rintro e w' ⟨rfl, k, os, rfl⟩)
  go_ret
  exact ⟨rfl, Lib.below_grow _ _ (Nat.le_refl _) _ _⟩
end Go.Proofs.YtfgmngfhchfaaaaDoor.Aid
