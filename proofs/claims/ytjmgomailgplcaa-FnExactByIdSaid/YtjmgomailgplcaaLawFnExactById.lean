/- The law FnExactById: for every input it returns true, and each argument reads afterwards as it read before; no condition. -/
import Derived.Test.YtjmgomailgplcaaRows
import Derived.Test.YtjmgomailgplcaaPFnExactByIdx7
import Derived.Test.YtjmgomailgplcaaPureFnExactById
import Derived.Test.YtjmgomailgplcaaOpen
import Derived.WalkKit
import Derived.ProofKit
import Derived.OpenShut
import Derived.ShutString
import Derived.ChangeOld
import Derived.Below
import Derived.SizedLaws
import Derived.Carry
namespace Go.Proofs.Ytjmgomailgplcaa.fnExactById
open Go.ChangeShapes Go.WideShapes Go.ChangeAt Go.RowKit Go.Proofs.YtjmgomailgplcaaW.PrintWords Go.Proofs.YtjmgomailgplcaaOpen
set_option linter.unusedVariables false
set_option linter.unusedSimpArgs false
theorem own : ownKnob Try.prog.godebug = none := by kernel_rfl
theorem laidOut : laidOutB Try.prog = true := by kernel_rfl
def gbox (y : Int × Int × Int × Int) : PFnExactById.S102 := ⟨y.1, y.2.1, y.2.2.1, y.2.2.2⟩
theorem el102 {H : Type} {enc : TypeId × Value → H} {W : World} : ElOk enc Try.prog W 102 PFnExactById.k102 (fun x => okbox (x.f0, x.f1, x.f2, x.f3)) :=
  el_iso (fun x : PFnExactById.S102 => (x.f0, x.f1, x.f2, x.f3)) gbox (fun _ => rfl) (el_box Try.underlying102 Try.underlying3 (by kernel_rfl) rfl rfl rfl rfl rfl rfl rfl rfl (by kernel_rfl))
theorem el104 {H : Type} {enc : TypeId × Value → H} {W : World} : ElOk enc Try.prog W 104 PFnExactById.k104 (fun x => wf x.f0 ∧ okbox (x.f1.f0, x.f1.f1, x.f1.f2, x.f1.f3)) :=
  el_iso (d := Kd.pair (Kd.int .i64) PFnExactById.k102) (ok := fun y => wf y.1 ∧ okbox (y.2.f0, y.2.f1, y.2.f2, y.2.f3)) (fun x : PFnExactById.S104 => (x.f0, x.f1)) (fun y => ⟨y.1, y.2⟩) (fun _ => rfl)
    (el_pair (d0 := Kd.int .i64) (d1 := PFnExactById.k102) Try.underlying104 rfl rfl (by kernel_rfl) (by kernel_rfl) (by kernel_rfl) (el_int Try.underlying3) el102)
set_option maxRecDepth 100000 in
theorem lifted (os : Os) (started : os.Started) (H : Type) (enc : TypeId × Value → H) :
    ReturnsInHanded {} Try.checked os 10 .any (Rows.fnExactByIdSpec.pre6 enc Try.prog Try.f10 Rows.fnExactByIdRow.domain false) (Rows.fnExactByIdSpec.post enc Try.prog Try.f10 false true false false) := by
  refine returnsInHanded_of_change_sized (C := Try.checked) own started (by kernel_rfl) Try.func10
    (ChangeSpec.witness6 (enc := enc) (C := Try.checked) false ⟨#[], #[.slice none 0 0], []⟩ 8 (by kernel_rfl) (by kernel_rfl) (by kernel_rfl) (by kernel_rfl)) ?_
  intro W base args ds gs before hval0 hW hcnd hsz0 _
  have hval : ∀ (j : Nat) t v, Try.f10.params[j]? = some t → args[j]? = some v → Value.okWide Try.prog W .any base t v := hval0
  have hW' := hW
  obtain ⟨p, q, hA0, hV, rfl, hfz, hnd⟩ := hW
  have hA : DataW.TrodAll enc Try.prog W 0 (fun _ => true) true Try.f10.params.toList args.toList ds p := hA0
  rw [Try.params10] at hA hval
  obtain ⟨v0, vs0, d0, ds0, p0, q0, hargs, rfl, rfl, h0, r0⟩ := trodAll_cons hA
  obtain ⟨rfl, rfl, rfl⟩ := trodAll_nil r0
  obtain rfl : args = #[v0] := by cases args; simp_all
  obtain ⟨rfl, rfl⟩ := trodVars_none hV
  have k0 := h0
  have lt0 : ∀ x ∈ p0, x.block < W.heap.size := by obtain ⟨m, hm⟩ := k0; exact DataW.trod_lt m _ _ _ hm
  obtain ⟨A0, l0, c0, rfl, hc0, hC0, hm0, hw0⟩ := val_slice Try.underlying40 (by kernel_rfl) el104 h0 (hval 0 40 v0 rfl rfl)
  clear hA0 hval0 hsz0
  obtain ⟨k, hk⟩ := PureFnExactById.pure_law l0 hm0
  refine (PFnExactById.laws_FnExactById.calls k A0 c0 l0 true W hC0 hc0 hk).mono ?_
  rintro e W' ⟨rfl, bel0⟩
  have bel : Below W.heap.size W W' := by first | exact bel0 | exact bel0.below
  exact ⟨_, rfl, _, _, _, [], _, [], hW', trodAll_mk1 (shut_bool Try.underlying4 _), (trodAll_cons_mk (Below.trod laidOut (by kernel_rfl) (of_decide_eq_true (by kernel_rfl)) k0 bel lt0) trodAll_mk0), rfl, bel.frame _, fun h => by cases h⟩
theorem over : Rows.fnExactByIdRow.holds Try.pinned (OpenSpec.ofChange Rows.fnExactByIdSpec) :=
  OpenClaim.holds_of_wide 10 Try.f10 rfl rfl rfl rfl rfl rfl rfl ⟨rfl, rfl, rfl, rfl, rfl⟩ rfl rfl rfl rfl rfl (by kernel_rfl) Try.func10 (by kernel_rfl)
    (of_decide_eq_true (by kernel_rfl)) (by unfold Func.isWrapper; first | (rw [if_pos (by decide +kernel)]; kernel_rfl) | (rw [if_neg (by decide +kernel)]; exact ⟨rfl, rfl⟩))
    (fun os started H enc _ => lifted os started H enc)
theorem proved : Rows.FnExactByIdSaid := over
#print axioms proved
end Go.Proofs.Ytjmgomailgplcaa.fnExactById
namespace Go.Proofs.Ytjmgomailgplcaa
/-- The row, under a short name, for the claim. -/
theorem fnExactById_holds : Rows.FnExactByIdSaid := fnExactById.proved
end Go.Proofs.Ytjmgomailgplcaa
