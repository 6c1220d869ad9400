/- The law FnExactByKey: for every input it returns true, and each argument reads afterwards as it read before; no condition. -/
import Derived.Test.YtfgmngfhchfaaaaRows
import Derived.Test.YtfgmngfhchfaaaaPFnExactByKeyx8
import Derived.Test.YtfgmngfhchfaaaaPureFnExactByKey
import Derived.Test.YtfgmngfhchfaaaaVExactByKey0
import Derived.WalkKit
import Derived.ProofKit
import Derived.OpenShut
import Derived.ShutString
import Derived.ChangeOld
import Derived.Below
import Derived.SizedLaws
import Derived.Carry
namespace Go.Proofs.Ytfgmngfhchfaaaa.fnExactByKey
open Go.ChangeShapes Go.WideShapes Go.ChangeAt Go.RowKit Go.Proofs.YtfgmngfhchfaaaaW.PrintWords Go.Proofs.YtfgmngfhchfaaaaOpen
set_option linter.unusedVariables false
set_option linter.unusedSimpArgs false
theorem own : ownKnob Try.prog.godebug = none := by kernel_rfl
theorem laidOut : laidOutB Try.prog = true := by kernel_rfl
def gbox (y : Int × Int × Int × Int) : PFnExactByKey.S58 := ⟨y.1, y.2.1, y.2.2.1, y.2.2.2⟩
theorem el58 {H : Type} {enc : TypeId × Value → H} {W : World} : ElOk enc Try.prog W 58 PFnExactByKey.k58 (fun x => okbox (x.f0, x.f1, x.f2, x.f3)) :=
  el_iso (fun x : PFnExactByKey.S58 => (x.f0, x.f1, x.f2, x.f3)) gbox (fun _ => rfl) (el_box Try.underlying58 Try.underlying3 (by kernel_rfl) rfl rfl rfl rfl rfl rfl rfl rfl (by kernel_rfl))
theorem el60 {H : Type} {enc : TypeId × Value → H} {W : World} : ElOk enc Try.prog W 60 PFnExactByKey.k60 (fun x => wf x.f0 ∧ okbox (x.f1.f0, x.f1.f1, x.f1.f2, x.f1.f3)) :=
  el_iso (d := Kd.pair (Kd.int .i64) PFnExactByKey.k58) (ok := fun y => wf y.1 ∧ okbox (y.2.f0, y.2.f1, y.2.f2, y.2.f3)) (fun x : PFnExactByKey.S60 => (x.f0, x.f1)) (fun y => ⟨y.1, y.2⟩) (fun _ => rfl)
    (el_pair (d0 := Kd.int .i64) (d1 := PFnExactByKey.k58) Try.underlying60 rfl rfl (by kernel_rfl) (by kernel_rfl) (by kernel_rfl) (el_int Try.underlying3) el58)
set_option maxRecDepth 100000 in
theorem lifted (os : Os) (started : os.Started) (H : Type) (enc : TypeId × Value → H) :
    ReturnsInHanded {} Try.checked os 3 .any (Rows.fnExactByKeySpec.pre6 enc Try.prog Try.f3 Rows.fnExactByKeyRow.domain false) (Rows.fnExactByKeySpec.post enc Try.prog Try.f3 false true false false) := by
  refine returnsInHanded_of_change_sized (C := Try.checked) own started (by kernel_rfl) Try.func3
    (ChangeSpec.witness6 (enc := enc) (C := Try.checked) false ⟨#[], #[.slice none 0 0], []⟩ 8 (by kernel_rfl) (by kernel_rfl) (by kernel_rfl) (by kernel_rfl)) ?_
  intro W base args ds gs before hval0 hW hcnd hsz0 _
  have hval : ∀ (j : Nat) t v, Try.f3.params[j]? = some t → args[j]? = some v → Value.okWide Try.prog W .any base t v := hval0
  have hW' := hW
  obtain ⟨p, q, hA0, hV, rfl, hfz, hnd⟩ := hW
  have hA : DataW.TrodAll enc Try.prog W 0 (fun _ => true) true Try.f3.params.toList args.toList ds p := hA0
  rw [Try.params3] at hA hval
  obtain ⟨v0, vs0, d0, ds0, p0, q0, hargs, rfl, rfl, h0, r0⟩ := trodAll_cons hA
  obtain ⟨rfl, rfl, rfl⟩ := trodAll_nil r0
  obtain rfl : args = #[v0] := by cases args; simp_all
  obtain ⟨rfl, rfl⟩ := trodVars_none hV
  have k0 := h0
  have lt0 : ∀ x ∈ p0, x.block < W.heap.size := by obtain ⟨m, hm⟩ := k0; exact DataW.trod_lt m _ _ _ hm
  obtain ⟨A0, l0, c0, rfl, hc0, hC0, hm0, hw0⟩ := val_slice Try.underlying22 (by kernel_rfl) el60 h0 (hval 0 22 v0 rfl rfl)
  clear hA0 hval0 hsz0
  obtain ⟨k, hk⟩ := PureFnExactByKey.pure_law l0 hm0
  refine (PFnExactByKey.laws_FnExactByKey.calls k A0 c0 l0 true W hC0 hc0 hk).mono ?_
  rintro e W' ⟨rfl, bel0⟩
  have bel : Below W.heap.size W W' := by first | exact bel0 | exact bel0.below
  exact ⟨_, rfl, _, _, _, [], _, [], hW', trodAll_mk1 (shut_bool Try.underlying4 _), (trodAll_cons_mk (Below.trod laidOut (by kernel_rfl) (of_decide_eq_true (by kernel_rfl)) k0 bel lt0) trodAll_mk0), rfl, bel.frame _, fun h => by cases h⟩
theorem over : Rows.fnExactByKeyRow.holds Try.pinned (OpenSpec.ofChange Rows.fnExactByKeySpec) :=
  OpenClaim.holds_of_wide 3 Try.f3 rfl rfl rfl rfl rfl rfl rfl ⟨rfl, rfl, rfl, rfl, rfl⟩ rfl rfl rfl rfl rfl (by kernel_rfl) Try.func3 (by kernel_rfl)
    (of_decide_eq_true (by kernel_rfl)) (by unfold Func.isWrapper; first | (rw [if_pos (by decide +kernel)]; kernel_rfl) | (rw [if_neg (by decide +kernel)]; exact ⟨rfl, rfl⟩))
    (fun os started H enc _ => lifted os started H enc)
theorem proved : Rows.FnExactByKeySaid := over
#print axioms proved
end Go.Proofs.Ytfgmngfhchfaaaa.fnExactByKey
namespace Go.Proofs.Ytfgmngfhchfaaaa
/-- The row, under a short name, for the claim. -/
theorem fnExactByKey_holds : Rows.FnExactByKeySaid := fnExactByKey.proved
end Go.Proofs.Ytfgmngfhchfaaaa
