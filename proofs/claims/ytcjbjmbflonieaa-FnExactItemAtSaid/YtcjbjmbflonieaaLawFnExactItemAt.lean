/- The law FnExactItemAt: for every input it returns true, and each argument reads afterwards as it read before; no condition. -/
import Derived.Test.YtcjbjmbflonieaaRows
import Derived.Test.YtcjbjmbflonieaaPFnExactItemAtx2
import Derived.Test.YtcjbjmbflonieaaPureFnExactItemAt
import Derived.Test.YtcjbjmbflonieaaOpen
import Derived.WalkKit
import Derived.ProofKit
import Derived.OpenShut
import Derived.ShutString
import Derived.ChangeOld
import Derived.Below
import Derived.SizedLaws
import Derived.Carry
namespace Go.Proofs.Ytcjbjmbflonieaa.fnExactItemAt
open Go.ChangeShapes Go.WideShapes Go.ChangeAt Go.RowKit Go.Proofs.YtcjbjmbflonieaaW.PrintWords Go.Proofs.YtcjbjmbflonieaaOpen
set_option linter.unusedVariables false
set_option linter.unusedSimpArgs false
theorem own : ownKnob Try.prog.godebug = none := by kernel_rfl
theorem laidOut : laidOutB Try.prog = true := by kernel_rfl
def gbox (y : Int × Int × Int × Int) : PFnExactItemAt.S51 := ⟨y.1, y.2.1, y.2.2.1, y.2.2.2⟩
theorem el51 {H : Type} {enc : TypeId × Value → H} {W : World} : ElOk enc Try.prog W 51 PFnExactItemAt.k51 (fun x => okbox (x.f0, x.f1, x.f2, x.f3)) :=
  el_iso (fun x : PFnExactItemAt.S51 => (x.f0, x.f1, x.f2, x.f3)) gbox (fun _ => rfl) (el_box Try.underlying51 Try.underlying3 (by kernel_rfl) rfl rfl rfl rfl rfl rfl rfl rfl (by kernel_rfl))
theorem el67 {H : Type} {enc : TypeId × Value → H} {W : World} : ElOk enc Try.prog W 67 PFnExactItemAt.k67 (fun x => wf x.f0 ∧ okbox (x.f1.f0, x.f1.f1, x.f1.f2, x.f1.f3)) :=
  el_iso (d := Kd.pair (Kd.int .i64) PFnExactItemAt.k51) (ok := fun y => wf y.1 ∧ okbox (y.2.f0, y.2.f1, y.2.f2, y.2.f3)) (fun x : PFnExactItemAt.S67 => (x.f0, x.f1)) (fun y => ⟨y.1, y.2⟩) (fun _ => rfl)
    (el_pair (d0 := Kd.int .i64) (d1 := PFnExactItemAt.k51) Try.underlying67 rfl rfl (by kernel_rfl) (by kernel_rfl) (by kernel_rfl) (el_int Try.underlying3) el51)
set_option maxRecDepth 100000 in
theorem lifted (os : Os) (started : os.Started) (H : Type) (enc : TypeId × Value → H) :
    ReturnsInHanded {} Try.checked os 6 .any (Rows.fnExactItemAtSpec.pre6 enc Try.prog Try.f6 Rows.fnExactItemAtRow.domain false) (Rows.fnExactItemAtSpec.post enc Try.prog Try.f6 false true false false) := by
  refine returnsInHanded_of_change_sized (C := Try.checked) own started (by kernel_rfl) Try.func6
    (ChangeSpec.witness6 (enc := enc) (C := Try.checked) false ⟨#[], #[.slice none 0 0, .int .i64 0], []⟩ 8 (by kernel_rfl) (by kernel_rfl) (by kernel_rfl) (by kernel_rfl)) ?_
  intro W base args ds gs before hval0 hW hcnd hsz0 _
  have hval : ∀ (j : Nat) t v, Try.f6.params[j]? = some t → args[j]? = some v → Value.okWide Try.prog W .any base t v := hval0
  have hW' := hW
  obtain ⟨p, q, hA0, hV, rfl, hfz, hnd⟩ := hW
  have hA : DataW.TrodAll enc Try.prog W 0 (fun _ => true) true Try.f6.params.toList args.toList ds p := hA0
  rw [Try.params6] at hA hval
  obtain ⟨v0, vs0, d0, ds0, p0, q0, hargs, rfl, rfl, h0, r0⟩ := trodAll_cons hA
  obtain ⟨v1, vs1, d1, ds1, p1, q1, rfl, rfl, rfl, h1, r1⟩ := trodAll_cons r0
  obtain ⟨rfl, rfl, rfl⟩ := trodAll_nil r1
  obtain rfl : args = #[v0, v1] := by cases args; simp_all
  obtain ⟨rfl, rfl⟩ := trodVars_none hV
  have k0 := h0
  have lt0 : ∀ x ∈ p0, x.block < W.heap.size := by obtain ⟨m, hm⟩ := k0; exact DataW.trod_lt m _ _ _ hm
  obtain ⟨A0, l0, c0, rfl, hc0, hC0, hm0, hw0⟩ := val_slice Try.underlying37 (by kernel_rfl) el67 h0 (hval 0 37 v0 rfl rfl)
  obtain ⟨a1, rfl, rfl, rfl, w1⟩ := open_int Try.underlying3 (hval 1 3 v1 rfl rfl) h1
  clear hA0 hval0 hsz0
  obtain ⟨k, hk⟩ := PureFnExactItemAt.pure_law l0 a1 hm0 w1
  refine (PFnExactItemAt.laws_FnExactItemAt.calls k A0 c0 l0 a1 true W hC0 hc0 hk).mono ?_
  rintro e W' ⟨rfl, bel0⟩
  have bel : Below W.heap.size W W' := by first | exact bel0 | exact bel0.below
  exact ⟨_, rfl, _, _, _, [], _, [], hW', trodAll_mk1 (shut_bool Try.underlying4 _), (trodAll_cons_mk (Below.trod laidOut (by kernel_rfl) (of_decide_eq_true (by kernel_rfl)) k0 bel lt0) (trodAll_cons_mk (shut_int Try.underlying3 w1) trodAll_mk0)), rfl, bel.frame _, fun h => by cases h⟩
theorem over : Rows.fnExactItemAtRow.holds Try.pinned (OpenSpec.ofChange Rows.fnExactItemAtSpec) :=
  OpenClaim.holds_of_wide 6 Try.f6 rfl rfl rfl rfl rfl rfl rfl ⟨rfl, rfl, rfl, rfl, rfl⟩ rfl rfl rfl rfl rfl (by kernel_rfl) Try.func6 (by kernel_rfl)
    (of_decide_eq_true (by kernel_rfl)) (by unfold Func.isWrapper; first | (rw [if_pos (by decide +kernel)]; kernel_rfl) | (rw [if_neg (by decide +kernel)]; exact ⟨rfl, rfl⟩))
    (fun os started H enc _ => lifted os started H enc)
theorem proved : Rows.FnExactItemAtSaid := over
#print axioms proved
end Go.Proofs.Ytcjbjmbflonieaa.fnExactItemAt
namespace Go.Proofs.Ytcjbjmbflonieaa
/-- The row, under a short name, for the claim. -/
theorem fnExactItemAt_holds : Rows.FnExactItemAtSaid := fnExactItemAt.proved
end Go.Proofs.Ytcjbjmbflonieaa
