/- The law FnExactNodeAt: for every input it returns true, and each argument reads afterwards as it read before; no condition. -/
import Derived.Test.YtjmgomailgplcaaRows
import Derived.Test.YtjmgomailgplcaaPFnExactNodeAtx5
import Derived.Test.YtjmgomailgplcaaPureFnExactNodeAt
import Derived.Test.YtjmgomailgplcaaOpen
import Derived.WalkKit
import Derived.ProofKit
import Derived.OpenShut
import Derived.ShutString
import Derived.ChangeOld
import Derived.Below
import Derived.SizedLaws
import Derived.Carry
namespace Go.Proofs.Ytjmgomailgplcaa.fnExactNodeAt
open Go.ChangeShapes Go.WideShapes Go.ChangeAt Go.RowKit Go.Proofs.YtjmgomailgplcaaW.PrintWords Go.Proofs.YtjmgomailgplcaaOpen
set_option linter.unusedVariables false
set_option linter.unusedSimpArgs false
theorem own : ownKnob Try.prog.godebug = none := by kernel_rfl
theorem laidOut : laidOutB Try.prog = true := by kernel_rfl
def gbox (y : Int × Int × Int × Int) : PFnExactNodeAt.S102 := ⟨y.1, y.2.1, y.2.2.1, y.2.2.2⟩
theorem el102 {H : Type} {enc : TypeId × Value → H} {W : World} : ElOk enc Try.prog W 102 PFnExactNodeAt.k102 (fun x => okbox (x.f0, x.f1, x.f2, x.f3)) :=
  el_iso (fun x : PFnExactNodeAt.S102 => (x.f0, x.f1, x.f2, x.f3)) gbox (fun _ => rfl) (el_box Try.underlying102 Try.underlying3 (by kernel_rfl) rfl rfl rfl rfl rfl rfl rfl rfl (by kernel_rfl))
theorem el131 {H : Type} {enc : TypeId × Value → H} {W : World} : ElOk enc Try.prog W 131 PFnExactNodeAt.k131 (fun x => wf x.f0 ∧ okbox (x.f1.f0, x.f1.f1, x.f1.f2, x.f1.f3)) :=
  el_iso (d := Kd.pair (Kd.int .i64) PFnExactNodeAt.k102) (ok := fun y => wf y.1 ∧ okbox (y.2.f0, y.2.f1, y.2.f2, y.2.f3)) (fun x : PFnExactNodeAt.S131 => (x.f0, x.f1)) (fun y => ⟨y.1, y.2⟩) (fun _ => rfl)
    (el_pair (d0 := Kd.int .i64) (d1 := PFnExactNodeAt.k102) Try.underlying131 rfl rfl (by kernel_rfl) (by kernel_rfl) (by kernel_rfl) (el_int Try.underlying3) el102)
theorem el24 {H : Type} {enc : TypeId × Value → H} {W : World} : ElOk enc Try.prog W 24 PFnExactNodeAt.k24 (fun x => True ∧ x.f1.length ≤ maxLen ∧ ∀ u ∈ x.f1, wf u.f0 ∧ okbox (u.f1.f0, u.f1.f1, u.f1.f2, u.f1.f3)) :=
  el_iso (d := Kd.pair Kd.bool (Kd.slice 131 PFnExactNodeAt.k131)) (ok := fun y => True ∧ y.2.length ≤ maxLen ∧ ∀ u ∈ y.2, wf u.f0 ∧ okbox (u.f1.f0, u.f1.f1, u.f1.f2, u.f1.f3)) (fun x : PFnExactNodeAt.S24 => (x.f0, x.f1)) (fun y => ⟨y.1, y.2⟩) (fun _ => rfl)
    (el_node 131 Try.underlying24 Try.underlying4 (by kernel_rfl) Try.underlying22 (by kernel_rfl) (by kernel_rfl) rfl rfl rfl rfl (by kernel_rfl) el131)
theorem el138 {H : Type} {enc : TypeId × Value → H} {W : World} : ElOk enc Try.prog W 138 PFnExactNodeAt.k138 (fun x => True ∧ True ∧ x.f1.f1.length ≤ maxLen ∧ ∀ u ∈ x.f1.f1, wf u.f0 ∧ okbox (u.f1.f0, u.f1.f1, u.f1.f2, u.f1.f3)) :=
  el_iso (d := Kd.pair Kd.bool PFnExactNodeAt.k24) (ok := fun y => True ∧ True ∧ y.2.f1.length ≤ maxLen ∧ ∀ u ∈ y.2.f1, wf u.f0 ∧ okbox (u.f1.f0, u.f1.f1, u.f1.f2, u.f1.f3)) (fun x : PFnExactNodeAt.S138 => (x.f0, x.f1)) (fun y => ⟨y.1, y.2⟩) (fun _ => rfl)
    (el_pair (d0 := Kd.bool) (d1 := PFnExactNodeAt.k24) Try.underlying138 rfl rfl (by kernel_rfl) (by kernel_rfl) (by kernel_rfl) (el_bool Try.underlying4) el24)
set_option maxRecDepth 100000 in
theorem lifted (os : Os) (started : os.Started) (H : Type) (enc : TypeId × Value → H) :
    ReturnsInHanded {} Try.checked os 8 .any (Rows.fnExactNodeAtSpec.pre6 enc Try.prog Try.f8 Rows.fnExactNodeAtRow.domain false) (Rows.fnExactNodeAtSpec.post enc Try.prog Try.f8 false true false false) := by
  refine returnsInHanded_of_change_sized (C := Try.checked) own started (by kernel_rfl) Try.func8
    (ChangeSpec.witness6 (enc := enc) (C := Try.checked) false ⟨#[], #[.agg #[.int .i64 0, .slice none 0 0], .int .i64 0], []⟩ 8 (by kernel_rfl) (by kernel_rfl) (by kernel_rfl) (by kernel_rfl)) ?_
  intro W base args ds gs before hval0 hW hcnd hsz0 _
  have hval : ∀ (j : Nat) t v, Try.f8.params[j]? = some t → args[j]? = some v → Value.okWide Try.prog W .any base t v := hval0
  have hW' := hW
  obtain ⟨p, q, hA0, hV, rfl, hfz, hnd⟩ := hW
  have hA : DataW.TrodAll enc Try.prog W 0 (fun _ => true) true Try.f8.params.toList args.toList ds p := hA0
  rw [Try.params8] at hA hval
  obtain ⟨v0, vs0, d0, ds0, p0, q0, hargs, rfl, rfl, h0, r0⟩ := trodAll_cons hA
  obtain ⟨v1, vs1, d1, ds1, p1, q1, rfl, rfl, rfl, h1, r1⟩ := trodAll_cons r0
  obtain ⟨rfl, rfl, rfl⟩ := trodAll_nil r1
  obtain rfl : args = #[v0, v1] := by cases args; simp_all
  obtain ⟨rfl, rfl⟩ := trodVars_none hV
  have k0 := h0
  have lt0 : ∀ x ∈ p0, x.block < W.heap.size := by obtain ⟨m, hm⟩ := k0; exact DataW.trod_lt m _ _ _ hm
  obtain ⟨b0, A0, l0, c0, rfl, hc0, hC0, wn0, hm0, hw0⟩ := val_book (z := 0) Try.underlying52 (el_book 0 Try.underlying52 Try.underlying3 (by kernel_rfl) Try.underlying50 (by kernel_rfl) (by kernel_rfl) rfl rfl rfl rfl (by kernel_rfl) el138) h0 (hval 0 52 v0 rfl rfl)
  obtain ⟨a1, rfl, rfl, rfl, w1⟩ := open_int Try.underlying3 (hval 1 3 v1 rfl rfl) h1
  clear hA0 hval0 hsz0
  obtain ⟨k, hk⟩ := PureFnExactNodeAt.pure_law b0 l0 a1 hm0 (fun x hx => (hw0 x hx).2.2.1) w1
  refine (PFnExactNodeAt.laws_FnExactNodeAt.calls k b0 A0 c0 l0 a1 true W hC0 hc0 hk).mono ?_
  rintro e W' ⟨rfl, bel0⟩
  have bel : Below W.heap.size W W' := by first | exact bel0 | exact bel0.below
  exact ⟨_, rfl, _, _, _, [], _, [], hW', trodAll_mk1 (shut_bool Try.underlying4 _), (trodAll_cons_mk (Below.trod laidOut (by kernel_rfl) (of_decide_eq_true (by kernel_rfl)) k0 bel lt0) (trodAll_cons_mk (shut_int Try.underlying3 w1) trodAll_mk0)), rfl, bel.frame _, fun h => by cases h⟩
theorem over : Rows.fnExactNodeAtRow.holds Try.pinned (OpenSpec.ofChange Rows.fnExactNodeAtSpec) :=
  OpenClaim.holds_of_wide 8 Try.f8 rfl rfl rfl rfl rfl rfl rfl ⟨rfl, rfl, rfl, rfl, rfl⟩ rfl rfl rfl rfl rfl (by kernel_rfl) Try.func8 (by kernel_rfl)
    (of_decide_eq_true (by kernel_rfl)) (by unfold Func.isWrapper; first | (rw [if_pos (by decide +kernel)]; kernel_rfl) | (rw [if_neg (by decide +kernel)]; exact ⟨rfl, rfl⟩))
    (fun os started H enc _ => lifted os started H enc)
theorem proved : Rows.FnExactNodeAtSaid := over
#print axioms proved
end Go.Proofs.Ytjmgomailgplcaa.fnExactNodeAt
namespace Go.Proofs.Ytjmgomailgplcaa
/-- The row, under a short name, for the claim. -/
theorem fnExactNodeAt_holds : Rows.FnExactNodeAtSaid := fnExactNodeAt.proved
end Go.Proofs.Ytjmgomailgplcaa
