/- The law FnExactKeyOf: for every input it returns true, and each argument reads afterwards as it read before; no condition. -/
import Derived.Test.YtdeffkhkhpjodaaRows
import Derived.Test.YtdeffkhkhpjodaaPFnExactKeyOfx1
import Derived.Test.YtdeffkhkhpjodaaPureFnExactKeyOf
import Derived.Test.YtdeffkhkhpjodaaOpen
import Derived.WalkKit
import Derived.ProofKit
import Derived.OpenShut
import Derived.ShutString
import Derived.ChangeOld
import Derived.Below
import Derived.SizedLaws
import Derived.Carry
namespace Go.Proofs.Ytdeffkhkhpjodaa.fnExactKeyOf
open Go.ChangeShapes Go.WideShapes Go.ChangeAt Go.RowKit Go.Proofs.YtdeffkhkhpjodaaW.PrintWords Go.Proofs.YtdeffkhkhpjodaaOpen
set_option linter.unusedVariables false
set_option linter.unusedSimpArgs false
theorem own : ownKnob Try.prog.godebug = none := by kernel_rfl
theorem laidOut : laidOutB Try.prog = true := by kernel_rfl
set_option maxRecDepth 100000 in
theorem lifted (os : Os) (started : os.Started) (H : Type) (enc : TypeId × Value → H) :
    ReturnsInHanded {} Try.checked os 13 .any (Rows.fnExactKeyOfSpec.pre6 enc Try.prog Try.f13 Rows.fnExactKeyOfRow.domain false) (Rows.fnExactKeyOfSpec.post enc Try.prog Try.f13 false true false false) := by
  refine returnsInHanded_of_change_sized (C := Try.checked) own started (by kernel_rfl) Try.func13
    (ChangeSpec.witness6 (enc := enc) (C := Try.checked) false ⟨#[], #[.agg #[.int .i64 0, .int .i64 0, .int .i64 0, .int .i64 0]], []⟩ 8 (by kernel_rfl) (by kernel_rfl) (by kernel_rfl) (by kernel_rfl)) ?_
  intro W base args ds gs before hval0 hW hcnd hsz0 _
  have hval : ∀ (j : Nat) t v, Try.f13.params[j]? = some t → args[j]? = some v → Value.okWide Try.prog W .any base t v := hval0
  have hW' := hW
  obtain ⟨p, q, hA0, hV, rfl, hfz, hnd⟩ := hW
  have hA : DataW.TrodAll enc Try.prog W 0 (fun _ => true) true Try.f13.params.toList args.toList ds p := hA0
  rw [Try.params13] at hA hval
  obtain ⟨v0, vs0, d0, ds0, p0, q0, hargs, rfl, rfl, h0, r0⟩ := trodAll_cons hA
  obtain ⟨rfl, rfl, rfl⟩ := trodAll_nil r0
  obtain rfl : args = #[v0] := by cases args; simp_all
  obtain ⟨rfl, rfl⟩ := trodVars_none hV
  have k0 := h0
  have lt0 : ∀ x ∈ p0, x.block < W.heap.size := by obtain ⟨m, hm⟩ := k0; exact DataW.trod_lt m _ _ _ hm
  obtain ⟨a0_0, a0_1, a0_2, a0_3, rfl, w0_0, w0_1, w0_2, w0_3⟩ := val_box Try.underlying23 (el_box Try.underlying23 Try.underlying3 (by kernel_rfl) rfl rfl rfl rfl rfl rfl rfl rfl (by kernel_rfl)) h0 (hval 0 23 v0 rfl rfl)
  clear hA0 hval0 hsz0
  obtain ⟨k, hk⟩ := PureFnExactKeyOf.pure_law a0_0 a0_1 a0_2 a0_3 w0_0 w0_1 w0_2 w0_3
  refine (PFnExactKeyOf.laws_FnExactKeyOf.calls k a0_0 a0_1 a0_2 a0_3 true W  hk).mono ?_
  rintro e W' ⟨rfl, bel0⟩
  have bel : Below W.heap.size W W' := by first | exact bel0 | exact bel0.below
  exact ⟨_, rfl, _, _, _, [], _, [], hW', trodAll_mk1 (shut_bool Try.underlying4 _), (trodAll_cons_mk (Below.trod laidOut (by kernel_rfl) (of_decide_eq_true (by kernel_rfl)) k0 bel lt0) trodAll_mk0), rfl, bel.frame _, fun h => by cases h⟩
theorem over : Rows.fnExactKeyOfRow.holds Try.pinned (OpenSpec.ofChange Rows.fnExactKeyOfSpec) :=
  OpenClaim.holds_of_wide 13 Try.f13 rfl rfl rfl rfl rfl rfl rfl ⟨rfl, rfl, rfl, rfl, rfl⟩ rfl rfl rfl rfl rfl (by kernel_rfl) Try.func13 (by kernel_rfl)
    (of_decide_eq_true (by kernel_rfl)) (by unfold Func.isWrapper; first | (rw [if_pos (by decide +kernel)]; kernel_rfl) | (rw [if_neg (by decide +kernel)]; exact ⟨rfl, rfl⟩))
    (fun os started H enc _ => lifted os started H enc)
theorem proved : Rows.FnExactKeyOfSaid := over
#print axioms proved
end Go.Proofs.Ytdeffkhkhpjodaa.fnExactKeyOf
namespace Go.Proofs.Ytdeffkhkhpjodaa
/-- The row, under a short name, for the claim. -/
theorem fnExactKeyOf_holds : Rows.FnExactKeyOfSaid := fnExactKeyOf.proved
end Go.Proofs.Ytdeffkhkhpjodaa
