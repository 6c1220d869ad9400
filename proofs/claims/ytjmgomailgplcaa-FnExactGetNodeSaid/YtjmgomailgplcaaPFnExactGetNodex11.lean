-- Written by a program of this session; Lean checks it.
import Derived.Test.YtjmgomailgplcaaPFnExactGetNodex0
import Derived.Test.YtjmgomailgplcaaPFnExactGetNodex1
import Derived.Test.YtjmgomailgplcaaPFnExactGetNodex2
import Derived.Test.YtjmgomailgplcaaPFnExactGetNodex6
import Derived.Test.YtjmgomailgplcaaPFnExactGetNodex10
namespace Go.Proofs.Ytjmgomailgplcaa.PFnExactGetNode
open Go.RowKit Go.Proofs.YtjmgomailgplcaaW.PrintWords Go.Proofs.YtjmgomailgplcaaW.PrintLast Go.Proofs.YtjmgomailgplcaaW.PrintMore
attribute [local go_sem] max2_int min2_int max_two min_two max_three min_three max_four min_four   -- for this text's walks alone
set_option linter.unusedVariables false
set_option linter.unusedSimpArgs false

/-! ### laws_FnExactGetNode: function 11 -/
mutual
def laws_FnExactGetNode.j0 : Nat → List Int → Bool → List Int → Bool → Bool → Bool → List (S90) → Bool → List (S90) → Option (Bool)
 | 0, _, _, _, _, _, _, _, _, _ => none
 | k + 1, x0, x4, x5, x7, x37, x343000, x343001, x352000, x352001 => if x37 = true then (some false) else ((laws_toByteS.f k x0).bind fun t353 => ((laws_eqByteS.f k x5 t353).bind fun t356 => (if t356 = true then ((laws_markByteS.f k x5 1).bind fun bt357 => (if bt357.1 < 0 then (laws_FnExactGetNode.j1 k x0 x4 true x343000 x343001 x352000 x352001) else ((laws_eqNode.f k x352000 x352001 x343000 x343001).bind fun t359 => (if t359 = true then (laws_FnExactGetNode.j1 k x0 x4 (x7 != x4) x343000 x343001 x352000 x352001) else (laws_FnExactGetNode.j1 k x0 x4 true x343000 x343001 x352000 x352001))))) else (some false))))
def laws_FnExactGetNode.j1 : Nat → List Int → Bool → Bool → Bool → List (S90) → Bool → List (S90) → Option (Bool)
 | 0, _, _, _, _, _, _, _ => none
 | k + 1, x0, x4, x58, x343000, x343001, x352000, x352001 => if x58 = true then (some false) else ((laws_markNode.f k x352000 x352001 1).bind fun bt360 => ((laws_heldNode.f k x352000 bt360.2 1).bind fun t362 => (if t362 < 0 then (some false) else (if t362 = bt360.1 then ((laws_toByteS.f k x0).bind fun t363 => ((impl_GetNode.f k t363).bind fun bt366 => ((laws_eqNode.f k bt366.1 bt366.2.1 x343000 x343001).bind fun t372 => (if t372 = true then (laws_FnExactGetNode.j2 k bt360.1 (bt366.2.2 != x4) x352000 bt360.2) else (laws_FnExactGetNode.j2 k bt360.1 true x352000 bt360.2))))) else (some false)))))
def laws_FnExactGetNode.j2 : Nat → Int → Bool → Bool → List (S90) → Option (Bool)
 | 0, _, _, _, _ => none
 | k + 1, x9, x84, x352000, x352001 => if x84 = true then (some false) else ((laws_heldNode.f k x352000 x352001 1).bind fun t373 => (if t373 < 0 then (some false) else (if t373 = x9 then (some true) else (some false))))
end
def laws_FnExactGetNode.f (k : Nat) (l0 : List Int) : Option (Bool) := if (l0.length : Int) > 1048576 then (some true) else ((laws_toByteS.f k l0).bind fun t334 => ((spec_GetNode.f k t334).bind fun bt337 => ((laws_toByteS.f k l0).bind fun t343 => ((impl_GetNode.f k t343).bind fun bt346 => ((laws_eqNode.f k bt346.1 bt346.2.1 bt337.1 bt337.2.1).bind fun t352 => (if t352 = true then (laws_FnExactGetNode.j0 k l0 bt337.2.2 t343 bt346.2.2 (bt346.2.2 != bt337.2.2) bt337.1 bt337.2.1 bt346.1 bt346.2.1) else (laws_FnExactGetNode.j0 k l0 bt337.2.2 t343 bt346.2.2 true bt337.1 bt337.2.1 bt346.1 bt346.2.1)))))))
theorem laws_FnExactGetNode.mono_l : ∀ k, (∀ y0 y1 y2 y3 y4 y5 y6 y7 y8, LeO (laws_FnExactGetNode.j0 k y0 y1 y2 y3 y4 y5 y6 y7 y8) (laws_FnExactGetNode.j0 (k + 1) y0 y1 y2 y3 y4 y5 y6 y7 y8)) ∧ (∀ y0 y1 y2 y3 y4 y5 y6, LeO (laws_FnExactGetNode.j1 k y0 y1 y2 y3 y4 y5 y6) (laws_FnExactGetNode.j1 (k + 1) y0 y1 y2 y3 y4 y5 y6)) ∧ (∀ y0 y1 y2 y3, LeO (laws_FnExactGetNode.j2 k y0 y1 y2 y3) (laws_FnExactGetNode.j2 (k + 1) y0 y1 y2 y3))
 | 0 => ⟨fun _ _ _ _ _ _ _ _ _ r h => by simp [laws_FnExactGetNode.j0] at h, fun _ _ _ _ _ _ _ r h => by simp [laws_FnExactGetNode.j1] at h, fun _ _ _ _ r h => by simp [laws_FnExactGetNode.j2] at h⟩
 | k + 1 => by
  obtain ⟨ih0, ih1, ih2⟩ := laws_FnExactGetNode.mono_l k
  refine ⟨?_, ?_, ?_⟩
  ·intro y0 y1 y2 y3 y4 y5 y6 y7 y8
   unfold laws_FnExactGetNode.j0
   repeat' first
   | (with_reducible exact ih0 _ _ _ _ _ _ _ _ _)
   | (with_reducible exact ih1 _ _ _ _ _ _ _)
   | (with_reducible exact ih2 _ _ _ _)
   | (with_reducible exact impl_GetNode.mono _ _)
   | (with_reducible exact laws_eqByteS.mono _ _ _)
   | (with_reducible exact laws_eqNode.mono _ _ _ _ _)
   | (with_reducible exact laws_heldNode.mono _ _ _ _)
   | (with_reducible exact laws_markByteS.mono _ _ _)
   | (with_reducible exact laws_markNode.mono _ _ _ _)
   | (with_reducible exact laws_toByteS.mono _ _)
   | (with_reducible exact spec_GetNode.mono _ _)
   | (with_reducible exact LeO.refl _)
   | (with_reducible exact LeO.none _)
   | (with_reducible refine LeO.ite ?_ ?_)
   | (with_reducible refine LeO.bind ?_ (fun _ => ?_))
   | exact ih0 _ _ _ _ _ _ _ _ _
   | exact ih1 _ _ _ _ _ _ _
   | exact ih2 _ _ _ _
   | exact impl_GetNode.mono _ _
   | exact laws_eqByteS.mono _ _ _
   | exact laws_eqNode.mono _ _ _ _ _
   | exact laws_heldNode.mono _ _ _ _
   | exact laws_markByteS.mono _ _ _
   | exact laws_markNode.mono _ _ _ _
   | exact laws_toByteS.mono _ _
   | exact spec_GetNode.mono _ _
   | exact LeO.none _
   | refine LeO.ite ?_ ?_
   | refine LeO.bind ?_ (fun _ => ?_)
  ·intro y0 y1 y2 y3 y4 y5 y6
   unfold laws_FnExactGetNode.j1
   repeat' first
   | (with_reducible exact ih0 _ _ _ _ _ _ _ _ _)
   | (with_reducible exact ih1 _ _ _ _ _ _ _)
   | (with_reducible exact ih2 _ _ _ _)
   | (with_reducible exact impl_GetNode.mono _ _)
   | (with_reducible exact laws_eqByteS.mono _ _ _)
   | (with_reducible exact laws_eqNode.mono _ _ _ _ _)
   | (with_reducible exact laws_heldNode.mono _ _ _ _)
   | (with_reducible exact laws_markByteS.mono _ _ _)
   | (with_reducible exact laws_markNode.mono _ _ _ _)
   | (with_reducible exact laws_toByteS.mono _ _)
   | (with_reducible exact spec_GetNode.mono _ _)
   | (with_reducible exact LeO.refl _)
   | (with_reducible exact LeO.none _)
   | (with_reducible refine LeO.ite ?_ ?_)
   | (with_reducible refine LeO.bind ?_ (fun _ => ?_))
   | exact ih0 _ _ _ _ _ _ _ _ _
   | exact ih1 _ _ _ _ _ _ _
   | exact ih2 _ _ _ _
   | exact impl_GetNode.mono _ _
   | exact laws_eqByteS.mono _ _ _
   | exact laws_eqNode.mono _ _ _ _ _
   | exact laws_heldNode.mono _ _ _ _
   | exact laws_markByteS.mono _ _ _
   | exact laws_markNode.mono _ _ _ _
   | exact laws_toByteS.mono _ _
   | exact spec_GetNode.mono _ _
   | exact LeO.none _
   | refine LeO.ite ?_ ?_
   | refine LeO.bind ?_ (fun _ => ?_)
  ·intro y0 y1 y2 y3
   unfold laws_FnExactGetNode.j2
   repeat' first
   | (with_reducible exact ih0 _ _ _ _ _ _ _ _ _)
   | (with_reducible exact ih1 _ _ _ _ _ _ _)
   | (with_reducible exact ih2 _ _ _ _)
   | (with_reducible exact impl_GetNode.mono _ _)
   | (with_reducible exact laws_eqByteS.mono _ _ _)
   | (with_reducible exact laws_eqNode.mono _ _ _ _ _)
   | (with_reducible exact laws_heldNode.mono _ _ _ _)
   | (with_reducible exact laws_markByteS.mono _ _ _)
   | (with_reducible exact laws_markNode.mono _ _ _ _)
   | (with_reducible exact laws_toByteS.mono _ _)
   | (with_reducible exact spec_GetNode.mono _ _)
   | (with_reducible exact LeO.refl _)
   | (with_reducible exact LeO.none _)
   | (with_reducible refine LeO.ite ?_ ?_)
   | (with_reducible refine LeO.bind ?_ (fun _ => ?_))
   | exact ih0 _ _ _ _ _ _ _ _ _
   | exact ih1 _ _ _ _ _ _ _
   | exact ih2 _ _ _ _
   | exact impl_GetNode.mono _ _
   | exact laws_eqByteS.mono _ _ _
   | exact laws_eqNode.mono _ _ _ _ _
   | exact laws_heldNode.mono _ _ _ _
   | exact laws_markByteS.mono _ _ _
   | exact laws_markNode.mono _ _ _ _
   | exact laws_toByteS.mono _ _
   | exact spec_GetNode.mono _ _
   | exact LeO.none _
   | refine LeO.ite ?_ ?_
   | refine LeO.bind ?_ (fun _ => ?_)
theorem laws_FnExactGetNode.mono : ∀ a0 k, LeO (laws_FnExactGetNode.f k a0) (laws_FnExactGetNode.f (k + 1) a0) := by
 intro a0 k
 obtain ⟨ih0, ih1, ih2⟩ := laws_FnExactGetNode.mono_l k
 unfold laws_FnExactGetNode.f
 repeat' first
   | (with_reducible exact ih0 _ _ _ _ _ _ _ _ _)
   | (with_reducible exact ih1 _ _ _ _ _ _ _)
   | (with_reducible exact ih2 _ _ _ _)
   | (with_reducible exact impl_GetNode.mono _ _)
   | (with_reducible exact laws_eqByteS.mono _ _ _)
   | (with_reducible exact laws_eqNode.mono _ _ _ _ _)
   | (with_reducible exact laws_heldNode.mono _ _ _ _)
   | (with_reducible exact laws_markByteS.mono _ _ _)
   | (with_reducible exact laws_markNode.mono _ _ _ _)
   | (with_reducible exact laws_toByteS.mono _ _)
   | (with_reducible exact spec_GetNode.mono _ _)
   | (with_reducible exact LeO.refl _)
   | (with_reducible exact LeO.none _)
   | (with_reducible refine LeO.ite ?_ ?_)
   | (with_reducible refine LeO.bind ?_ (fun _ => ?_))
   | exact ih0 _ _ _ _ _ _ _ _ _
   | exact ih1 _ _ _ _ _ _ _
   | exact ih2 _ _ _ _
   | exact impl_GetNode.mono _ _
   | exact laws_eqByteS.mono _ _ _
   | exact laws_eqNode.mono _ _ _ _ _
   | exact laws_heldNode.mono _ _ _ _
   | exact laws_markByteS.mono _ _ _
   | exact laws_markNode.mono _ _ _ _
   | exact laws_toByteS.mono _ _
   | exact spec_GetNode.mono _ _
   | exact LeO.none _
   | refine LeO.ite ?_ ?_
   | refine LeO.bind ?_ (fun _ => ?_)
set_option maxHeartbeats 8000000 in
set_option maxRecDepth 100000 in
theorem laws_FnExactGetNode.calls (k : Nat) (A0 : Option Addr) (c0 : Nat) (l0 : List Int) (r : Bool) (w : World) (hr0 : Kd.C (Kd.int .u8) w A0 l0.length l0) (hc0 : l0.length ≤ c0) (h : laws_FnExactGetNode.f k l0 = some true) :
  Calls Try.prog 11 #[.slice A0 l0.length c0] w fun e w' => e = .returned (.bool true) ∧ Below w.heap.size w w' := by
 have hu29 := Try.underlying29
 have HR0 := Aside0.mk hr0
 have HC0 := Aside0.mk hc0
 clear hr0 hc0
 have HB := Aside0.mk (Below.refl w.heap.size w)
 have H : (if (l0.length : Int) > 1048576 then (some true) else ((laws_toByteS.f k l0).bind fun t334 => ((spec_GetNode.f k t334).bind fun bt337 => ((laws_toByteS.f k l0).bind fun t343 => ((impl_GetNode.f k t343).bind fun bt346 => ((laws_eqNode.f k bt346.1 bt346.2.1 bt337.1 bt337.2.1).bind fun t352 => (if t352 = true then (laws_FnExactGetNode.j0 k l0 bt337.2.2 t343 bt346.2.2 (bt346.2.2 != bt337.2.2) bt337.1 bt337.2.1 bt346.1 bt346.2.1) else (laws_FnExactGetNode.j0 k l0 bt337.2.2 t343 bt346.2.2 true bt337.1 bt337.2.1 bt346.1 bt346.2.1)))))))) = some true := h
 clear h
 by_cases c2 : (l0.length : Int) > 1048576
 ·rw [if_pos c2] at H
  have c2b0 : decide (1048576 < (l0.length : Int)) = true := decide_eq_true c2
  have c2b1 : decide (1048576 < l0.length) = true := decide_eq_true (by omega)
  clear c2
  clear H
  go_enter Try.func11, Try.ntmps11
  go_wp2
  go_ret
  exact ⟨by first | rfl | (simp [errW_none, errW_some] <;> rfl) | (simp [*, errW_none, errW_some] <;> rfl), by repeat (first | (with_reducible first | exact HB.out | apply below_alloc | apply pw_below_drewN | apply below_drew1) | exact HB.out)⟩
 ·rw [if_neg c2] at H
  have c2b0 : decide (1048576 < (l0.length : Int)) = false := decide_eq_false c2
  have c2b1 : decide (1048576 < l0.length) = false := decide_eq_false (by omega)
  clear c2
  replace H := Option.bind_eq_some_iff.mp H
  obtain ⟨t334, A30, H⟩ := H
  replace H : ((spec_GetNode.f k t334).bind fun bt337 => ((laws_toByteS.f k l0).bind fun t343 => ((impl_GetNode.f k t343).bind fun bt346 => ((laws_eqNode.f k bt346.1 bt346.2.1 bt337.1 bt337.2.1).bind fun t352 => (if t352 = true then (laws_FnExactGetNode.j0 k l0 bt337.2.2 t343 bt346.2.2 (bt346.2.2 != bt337.2.2) bt337.1 bt337.2.1 bt346.1 bt346.2.1) else (laws_FnExactGetNode.j0 k l0 bt337.2.2 t343 bt346.2.2 true bt337.1 bt337.2.1 bt346.1 bt346.2.1)))))) = some true := H
  have A3 := Aside0.mk A30
  clear A30
  replace H := Option.bind_eq_some_iff.mp H
  obtain ⟨⟨t337, t338, t341⟩, A40, H⟩ := H
  replace H : ((laws_toByteS.f k l0).bind fun t343 => ((impl_GetNode.f k t343).bind fun bt346 => ((laws_eqNode.f k bt346.1 bt346.2.1 t337 t338).bind fun t352 => (if t352 = true then (laws_FnExactGetNode.j0 k l0 t341 t343 bt346.2.2 (bt346.2.2 != t341) t337 t338 bt346.1 bt346.2.1) else (laws_FnExactGetNode.j0 k l0 t341 t343 bt346.2.2 true t337 t338 bt346.1 bt346.2.1))))) = some true := H
  have A4 := Aside0.mk A40
  clear A40
  replace H := Option.bind_eq_some_iff.mp H
  obtain ⟨t343, A50, H⟩ := H
  replace H : ((impl_GetNode.f k t343).bind fun bt346 => ((laws_eqNode.f k bt346.1 bt346.2.1 t337 t338).bind fun t352 => (if t352 = true then (laws_FnExactGetNode.j0 k l0 t341 t343 bt346.2.2 (bt346.2.2 != t341) t337 t338 bt346.1 bt346.2.1) else (laws_FnExactGetNode.j0 k l0 t341 t343 bt346.2.2 true t337 t338 bt346.1 bt346.2.1)))) = some true := H
  have A5 := Aside0.mk A50
  clear A50
  replace H := Option.bind_eq_some_iff.mp H
  obtain ⟨⟨t346, t347, t350⟩, A60, H⟩ := H
  replace H : ((laws_eqNode.f k t346 t347 t337 t338).bind fun t352 => (if t352 = true then (laws_FnExactGetNode.j0 k l0 t341 t343 t350 (t350 != t341) t337 t338 t346 t347) else (laws_FnExactGetNode.j0 k l0 t341 t343 t350 true t337 t338 t346 t347))) = some true := H
  have A6 := Aside0.mk A60
  clear A60
  have HC7 := Aside0.mk H
  clear H
  go_enter Try.func11, Try.ntmps11
  go_upto_region 6 with (first | ((with_reducible refine gate_callee (f := 50) rfl ?_); refine goesL_ (some 18) rfl rfl Try.func50 (by kernel_rfl) rfl #[.slice A0 l0.length c0] rfl (by (try simp only [List.map_toArray, List.map_cons, List.map_nil]); first | done | rfl | (simp only [List.length_drop, List.length_take]; rfl)) ?_; (with_reducible refine (laws_toByteS.calls k _ _ l0 t334 _ ?side1 ?side2 A3.out).mono ?_); (case side1 => repeat (first | exact HR0.out | (with_reducible refine Kd.C_alloc ?_ _) | (with_reducible refine Kd.C_drewN ?_ _) | (with_reducible refine Kd.C_drew ?_))); (case side2 => exact HC0.out); rintro e w8 ⟨v335, rfl, ho0, hb⟩; refine ⟨_, rfl, ?_⟩; have n0_ := Aside0.mk (Kd.R_lower ho0 (below_size (by repeat (first | (with_reducible first | exact HB.out | apply below_alloc | apply pw_below_drewN | apply below_drew1) | exact HB.out)))); have n1_ := Aside0.mk (below_step (by repeat (first | (with_reducible first | exact HB.out | apply below_alloc | apply pw_below_drewN | apply below_drew1) | exact HB.out)) hb); clear HB; have HO336 := n0_; have HB := n1_; clear n0_ n1_; (try clear hb); (try clear hb2); (try clear hk); (try clear hi); (try clear ho0); obtain ⟨Ao9, co9, eo9⟩ := Kd.R_slice HO336.out; subst eo9) | ((with_reducible refine gate_callee (f := 49) rfl ?_); refine goesL_ (some 19) rfl rfl Try.func49 (by kernel_rfl) rfl #[.slice Ao9 t334.length co9] rfl (by (try simp only [List.map_toArray, List.map_cons, List.map_nil]); first | done | rfl | (simp only [List.length_drop, List.length_take]; rfl)) ?_; (with_reducible refine (spec_GetNode.calls k _ _ t334 t337 t338 t341 _ ?side1 ?side2 A4.out).mono ?_); (case side1 => repeat (first | exact (Kd.R_reads' HO336.out).2.2 | (with_reducible refine Kd.C_alloc ?_ _) | (with_reducible refine Kd.C_drewN ?_ _) | (with_reducible refine Kd.C_drew ?_))); (case side2 => exact (Kd.R_reads' HO336.out).2.1); rintro e w10 ⟨v339, rfl, ho0, hb⟩; refine ⟨_, rfl, ?_⟩; have n0_ := Aside0.mk (Kd.R_below (by (with_reducible repeat (first | apply Kd.R_alloc | apply Kd.R_drewN | apply Kd.R_drew)); exact HO336.out) hb); have n1_ := Aside0.mk (Kd.R_lower ho0 (below_size (by repeat (first | (with_reducible first | exact HB.out | apply below_alloc | apply pw_below_drewN | apply below_drew1) | exact HB.out)))); have n2_ := Aside0.mk (below_step (by repeat (first | (with_reducible first | exact HB.out | apply below_alloc | apply pw_below_drewN | apply below_drew1) | exact HB.out)) hb); clear HO336; clear HB; have HO336 := n0_; have HO340 := n1_; have HB := n2_; clear n0_ n1_ n2_; (try clear hb); (try clear hb2); (try clear hk); (try clear hi); (try clear ho0)) | ((with_reducible refine gate_dst (N := 3) rfl ?_); refine box_event ?hg (N := 3) ?hd (cs := #[.bool false, .slice none 0 0]) (t := 29) ?hr ?_; (case hd => rfl); (case hg => rfl); (case hr => first | (go_simp; done) | (go_simp; rfl)); intro gb342 hg w11 hbox hb; have n0_ := Aside0.mk (Kd.R_below (by (with_reducible repeat (first | apply Kd.R_alloc | apply Kd.R_drewN | apply Kd.R_drew)); exact HO336.out) hb); have n1_ := Aside0.mk (Kd.R_below (by (with_reducible repeat (first | apply Kd.R_alloc | apply Kd.R_drewN | apply Kd.R_drew)); exact HO340.out) hb); have n2_ := Aside0.mk (below_step (by repeat (first | (with_reducible first | exact HB.out | apply below_alloc | apply pw_below_drewN | apply below_drew1) | exact HB.out)) hb); have n3_ := Aside0.mk (hbox); have n4_ := Aside0.mk ((by rw [hg]; exact (below_size (by repeat (first | (with_reducible first | exact HB.out | apply below_alloc | apply pw_below_drewN | apply below_drew1) | exact HB.out))) : w.heap.size ≤ gb342)); have n5_ := Aside0.mk ((by rw [hg]; exact (below_size (by repeat (first | (with_reducible first | exact HB.out | apply below_alloc | apply pw_below_drewN | apply below_drew1) | exact HB.out))) : w.heap.size ≤ gb342)); clear HO336; clear HO340; clear HB; have HO336 := n0_; have HO340 := n1_; have HB := n2_; have BK342 := n3_; have GW342 := n4_; have GE342 := n5_; clear n0_ n1_ n2_ n3_ n4_ n5_; clear hb hbox hg; have hcz12_0 : w11.cell? ⟨gb342, 0, none⟩ = some (.bool false) := (blk_cell BK342.out 0).trans rfl; have hcz12_1 : w11.cell? ⟨gb342, 1, none⟩ = some (.slice none 0 0) := (blk_cell BK342.out 1).trans rfl; have hfz12_0 := blk_frozen BK342.out 0; have hfz12_1 := blk_frozen BK342.out 1; obtain ⟨Ao13, co13, eo13⟩ := Kd.R_slice HO340.out; subst eo13) | ((with_reducible refine gate_callee (f := 50) rfl ?_); refine goesL_ (some 23) rfl rfl Try.func50 (by kernel_rfl) rfl #[.slice A0 l0.length c0] rfl (by (try simp only [List.map_toArray, List.map_cons, List.map_nil]); first | done | rfl | (simp only [List.length_drop, List.length_take]; rfl)) ?_; (with_reducible refine (laws_toByteS.calls k _ _ l0 t343 _ ?side1 ?side2 A5.out).mono ?_); (case side1 => exact Kd.C_below HR0.out (by repeat (first | (with_reducible first | exact HB.out | apply below_alloc | apply pw_below_drewN | apply below_drew1 | refine below_set ?_ GE342.out) | exact HB.out))); (case side2 => exact HC0.out); rintro e w14 ⟨v344, rfl, ho0, hb⟩; refine ⟨_, rfl, ?_⟩; have n0_ := Aside0.mk (Kd.R_elder' (by (with_reducible repeat (first | apply Kd.R_alloc | apply Kd.R_drewN | apply Kd.R_drew)); exact (Kd.R_mono (Kd.R_far (p := ⟨gb342, 1, none⟩) (Kd.R_far (p := ⟨gb342, 0, none⟩) (Kd.R_types HO336.out BK342.out (by decide)) (fun _ hk => hk.2) (.bool t337)) (fun _ hk => hk.2) (.slice Ao13 t338.length co13)) (fun _ h_ => h_.1))) (Kd.R_base ho0) hb); have n1_ := Aside0.mk (Kd.R_below (by (with_reducible repeat (first | apply Kd.R_alloc | apply Kd.R_drewN | apply Kd.R_drew)); exact (Kd.R_mono (Kd.R_far (p := ⟨gb342, 1, none⟩) (Kd.R_far (p := ⟨gb342, 0, none⟩) (Kd.R_types HO340.out BK342.out (by decide)) (fun _ hk => hk.2) (.bool t337)) (fun _ hk => hk.2) (.slice Ao13 t338.length co13)) (fun _ h_ => h_.1))) hb); have n2_ := Aside0.mk (Kd.R_lower (Kd.R_new' ho0 (Kd.R_lt (by (with_reducible repeat (first | apply Kd.R_alloc | apply Kd.R_drewN | apply Kd.R_drew)); exact (Kd.R_mono (Kd.R_far (p := ⟨gb342, 1, none⟩) (Kd.R_far (p := ⟨gb342, 0, none⟩) (Kd.R_types HO336.out BK342.out (by decide)) (fun _ hk => hk.2) (.bool t337)) (fun _ hk => hk.2) (.slice Ao13 t338.length co13)) (fun _ h_ => h_.1))))) (below_size (by repeat (first | (with_reducible first | exact HB.out | apply below_alloc | apply pw_below_drewN | apply below_drew1 | refine below_set ?_ GE342.out) | exact HB.out)))); have n3_ := Aside0.mk (blk_below (g := gb342) (o := .cells #[.bool t337, .slice Ao13 t338.length co13] 29 (0, 0)) (by (with_reducible repeat (first | refine blk_drewN ?_ _ | refine blk_drew ?_ | refine blk_alloc ?_ _)); refine blk_put (cs := #[.bool t337, .slice none 0 0]) ?_ 1 _ rfl; (with_reducible repeat (first | refine blk_drewN ?_ _ | refine blk_drew ?_ | refine blk_alloc ?_ _)); refine blk_put (cs := #[.bool false, .slice none 0 0]) ?_ 0 _ rfl; (with_reducible repeat (first | refine blk_drewN ?_ _ | refine blk_drew ?_ | refine blk_alloc ?_ _)); exact BK342.out) hb); have n4_ := Aside0.mk (below_step (by repeat (first | (with_reducible first | exact HB.out | apply below_alloc | apply pw_below_drewN | apply below_drew1 | refine below_set ?_ GE342.out) | exact HB.out)) hb); clear HO336; clear HO340; clear BK342; clear HB; have HO336 := n0_; have HO340 := n1_; have HO345 := n2_; have BK342 := n3_; have HB := n4_; clear n0_ n1_ n2_ n3_ n4_; (try clear hb); (try clear hb2); (try clear hk); (try clear hi); (try clear ho0); obtain ⟨Ao15, co15, eo15⟩ := Kd.R_slice HO345.out; subst eo15) | ((with_reducible refine gate_callee (f := 51) rfl ?_); refine goesL_ (some 26) rfl rfl Try.func51 (by kernel_rfl) rfl #[.slice Ao15 t343.length co15] rfl (by (try simp only [List.map_toArray, List.map_cons, List.map_nil]); first | done | rfl | (simp only [List.length_drop, List.length_take]; rfl)) ?_; (with_reducible refine (impl_GetNode.calls k _ _ t343 t346 t347 t350 _ ?side1 ?side2 A6.out).mono ?_); (case side1 => repeat (first | exact (Kd.R_reads' HO345.out).2.2 | (with_reducible refine Kd.C_alloc ?_ _) | (with_reducible refine Kd.C_drewN ?_ _) | (with_reducible refine Kd.C_drew ?_))); (case side2 => exact (Kd.R_reads' HO345.out).2.1); rintro e w16 ⟨v348, rfl, ho0, hb⟩; refine ⟨_, rfl, ?_⟩; have n0_ := Aside0.mk (Kd.R_below (by (with_reducible repeat (first | apply Kd.R_alloc | apply Kd.R_drewN | apply Kd.R_drew)); exact HO336.out) hb); have n1_ := Aside0.mk (Kd.R_elder' (by (with_reducible repeat (first | apply Kd.R_alloc | apply Kd.R_drewN | apply Kd.R_drew)); exact HO340.out) (Kd.R_base ho0) hb); have n2_ := Aside0.mk (Kd.R_below (by (with_reducible repeat (first | apply Kd.R_alloc | apply Kd.R_drewN | apply Kd.R_drew)); exact HO345.out) hb); have n3_ := Aside0.mk (Kd.R_lower (Kd.R_new' ho0 (Kd.R_lt (by (with_reducible repeat (first | apply Kd.R_alloc | apply Kd.R_drewN | apply Kd.R_drew)); exact HO340.out))) (below_size (by repeat (first | (with_reducible first | exact HB.out | apply below_alloc | apply pw_below_drewN | apply below_drew1 | refine below_set ?_ GE342.out) | exact HB.out)))); have n4_ := Aside0.mk (blk_below (g := gb342) (o := .cells #[.bool t337, .slice Ao13 t338.length co13] 29 (0, 0)) (by (with_reducible repeat (first | refine blk_drewN ?_ _ | refine blk_drew ?_ | refine blk_alloc ?_ _)); exact BK342.out) hb); have n5_ := Aside0.mk (below_step (by repeat (first | (with_reducible first | exact HB.out | apply below_alloc | apply pw_below_drewN | apply below_drew1 | refine below_set ?_ GE342.out) | exact HB.out)) hb); clear HO336; clear HO340; clear HO345; clear BK342; clear HB; have HO336 := n0_; have HO340 := n1_; have HO345 := n2_; have HO349 := n3_; have BK342 := n4_; have HB := n5_; clear n0_ n1_ n2_ n3_ n4_ n5_; (try clear hb); (try clear hb2); (try clear hk); (try clear hi); (try clear ho0)) | ((with_reducible refine gate_dst (N := 6) rfl ?_); refine box_event ?hg (N := 6) ?hd (cs := #[.bool false, .slice none 0 0]) (t := 29) ?hr ?_; (case hd => rfl); (case hg => rfl); (case hr => first | (go_simp; done) | (go_simp; rfl)); intro gb351 hg w17 hbox hb; have n0_ := Aside0.mk (Kd.R_below (by (with_reducible repeat (first | apply Kd.R_alloc | apply Kd.R_drewN | apply Kd.R_drew)); exact HO336.out) hb); have n1_ := Aside0.mk (Kd.R_below (by (with_reducible repeat (first | apply Kd.R_alloc | apply Kd.R_drewN | apply Kd.R_drew)); exact HO340.out) hb); have n2_ := Aside0.mk (Kd.R_below (by (with_reducible repeat (first | apply Kd.R_alloc | apply Kd.R_drewN | apply Kd.R_drew)); exact HO345.out) hb); have n3_ := Aside0.mk (Kd.R_below (by (with_reducible repeat (first | apply Kd.R_alloc | apply Kd.R_drewN | apply Kd.R_drew)); exact HO349.out) hb); have n4_ := Aside0.mk (blk_below (g := gb342) (o := .cells #[.bool t337, .slice Ao13 t338.length co13] 29 (0, 0)) (by (with_reducible repeat (first | refine blk_drewN ?_ _ | refine blk_drew ?_ | refine blk_alloc ?_ _)); exact BK342.out) hb); have n5_ := Aside0.mk (below_step (by repeat (first | (with_reducible first | exact HB.out | apply below_alloc | apply pw_below_drewN | apply below_drew1 | refine below_set ?_ GE342.out) | exact HB.out)) hb); have n6_ := Aside0.mk (hbox); have n7_ := Aside0.mk ((by rw [hg]; exact (below_size (by repeat (first | (with_reducible first | exact HB.out | apply below_alloc | apply pw_below_drewN | apply below_drew1 | refine below_set ?_ GE342.out) | exact HB.out))) : w.heap.size ≤ gb351)); have n8_ := Aside0.mk ((by rw [hg]; exact (below_size (by repeat (first | (with_reducible first | exact HB.out | apply below_alloc | apply pw_below_drewN | apply below_drew1 | refine below_set ?_ GE342.out) | exact HB.out))) : w.heap.size ≤ gb351)); have n9_ := Aside0.mk ((by rw [hg]; exact Nat.ne_of_lt (blk_lt (g := gb342) (o := .cells #[.bool t337, .slice Ao13 t338.length co13] 29 (0, 0)) (by (with_reducible repeat (first | refine blk_drewN ?_ _ | refine blk_drew ?_ | refine blk_alloc ?_ _)); exact BK342.out)) : gb342 ≠ gb351)); have n10_ := Aside0.mk ((by rw [hg]; exact Nat.ne_of_gt (blk_lt (g := gb342) (o := .cells #[.bool t337, .slice Ao13 t338.length co13] 29 (0, 0)) (by (with_reducible repeat (first | refine blk_drewN ?_ _ | refine blk_drew ?_ | refine blk_alloc ?_ _)); exact BK342.out)) : gb351 ≠ gb342)); clear HO336; clear HO340; clear HO345; clear HO349; clear BK342; clear HB; have HO336 := n0_; have HO340 := n1_; have HO345 := n2_; have HO349 := n3_; have BK342 := n4_; have HB := n5_; have BK351 := n6_; have GW351 := n7_; have GE351 := n8_; have NB342_351 := n9_; have NB351_342 := n10_; clear n0_ n1_ n2_ n3_ n4_ n5_ n6_ n7_ n8_ n9_ n10_; clear hb hbox hg; have hnb18 := NB351_342.out; have hnc18 := NB342_351.out; have hcz19_0 : w17.cell? ⟨gb351, 0, none⟩ = some (.bool false) := (blk_cell BK351.out 0).trans rfl; have hcz19_1 : w17.cell? ⟨gb351, 1, none⟩ = some (.slice none 0 0) := (blk_cell BK351.out 1).trans rfl; have hfz19_0 := blk_frozen BK351.out 0; have hfz19_1 := blk_frozen BK351.out 1; obtain ⟨Ao20, co20, eo20⟩ := Kd.R_slice HO349.out; subst eo20))
  (try simp only [Act.put, List.setIfInBounds_toArray, List.set_cons_zero, List.set_cons_succ])
  go_cut [37] (fun v37 wc => ∃ (kq : Nat) (x37_6 : Bool), v37 = .bool x37_6 ∧ Aside0 (laws_FnExactGetNode.j0 kq l0 t341 t343 t350 x37_6 t337 t338 t346 t347 = some true) ∧ Aside0 (kq ≤ k) ∧ Aside0 (Kd.R (Kd.int .u8) 5 wc w.heap.size (fun _ => True) (.slice Ao15 t343.length co15) t343) ∧ Aside0 (Kd.R k90 90 wc w.heap.size (fun k_ => some k_ ≠ ((.slice Ao20 t347.length co20) : Value).ownBlock) (.slice Ao13 t338.length co13) t338) ∧ Aside0 (Kd.R k90 90 wc w.heap.size (fun k_ => some k_ ≠ ((.slice Ao13 t338.length co13) : Value).ownBlock) (.slice Ao20 t347.length co20) t347) ∧ Aside0 (wc.heap[gb342]? = some (.cells #[.bool t337, (.slice Ao13 t338.length co13)] 29 (0, 0))) ∧ Aside0 (wc.heap[gb351]? = some (.cells #[.bool t346, (.slice Ao20 t347.length co20)] 29 (0, 0))) ∧ Aside0 (Below w.heap.size w wc))
  case first =>
   have H := HC7.out
   clear HC7
   replace H := Option.bind_eq_some_iff.mp H
   obtain ⟨t352, A210, H⟩ := H
   replace H : (if t352 = true then (laws_FnExactGetNode.j0 k l0 t341 t343 t350 (t350 != t341) t337 t338 t346 t347) else (laws_FnExactGetNode.j0 k l0 t341 t343 t350 true t337 t338 t346 t347)) = some true := H
   have A21 := Aside0.mk A210
   clear A210
   by_cases c22 : t352 = true
   ·subst c22
    have H1 : (laws_FnExactGetNode.j0 k l0 t341 t343 t350 (t350 != t341) t337 t338 t346 t347) = some true := by rw [if_pos rfl] at H; exact H
    clear H
    have H := H1
    clear H1
    have H' := Aside0.mk H
    clear H
    have hnb23 := NB351_342.out
    have hnc23 := NB342_351.out
    have hcz24_0 : w17.cell? ⟨gb351, 0, none⟩ = some (.bool false) := (blk_cell BK351.out 0).trans rfl
    have hcz24_1 : w17.cell? ⟨gb351, 1, none⟩ = some (.slice none 0 0) := (blk_cell BK351.out 1).trans rfl
    have hfz24_0 := blk_frozen BK351.out 0
    have hfz24_1 := blk_frozen BK351.out 1
    have hcz25_0 : w17.cell? ⟨gb342, 0, none⟩ = some (.bool t337) := (blk_cell BK342.out 0).trans rfl
    have hcz25_1 : w17.cell? ⟨gb342, 1, none⟩ = some (.slice Ao13 t338.length co13) := (blk_cell BK342.out 1).trans rfl
    have hfz25_0 := blk_frozen BK342.out 0
    have hfz25_1 := blk_frozen BK342.out 1
    go_wp2_with (first | ((with_reducible refine gate_callee (f := 19) rfl ?_); refine goesL_ (some 31) rfl rfl Try.func19 (by kernel_rfl) rfl #[.agg #[.bool t346, .slice Ao20 t347.length co20], .agg #[.bool t337, .slice Ao13 t338.length co13]] rfl (by (try simp only [List.map_toArray, List.map_cons, List.map_nil]); first | done | rfl | (simp only [List.length_drop, List.length_take]; rfl)) ?_; (with_reducible refine (laws_eqNode.calls k t346 _ _ t347 t337 _ _ t338 true _ ?side1 ?side2 ?side3 ?side4 A21.out).mono ?_); (case side1 => refine (Kd.R_reads' (e := 90) (base := w.heap.size) (ok := fun k_ => (True ∧ some k_ ≠ (.slice Ao13 t338.length co13 : Value).ownBlock)) (n := t347.length) (c := co20) ?_).2.2; exact (by (with_reducible repeat (first | apply Kd.R_alloc | apply Kd.R_drewN | apply Kd.R_drew)); exact (Kd.R_mono (Kd.R_far (p := ⟨gb351, 1, none⟩) (Kd.R_far (p := ⟨gb351, 0, none⟩) (Kd.R_types HO349.out BK351.out (by decide)) (fun _ hk => hk.2) (.bool t346)) (fun _ hk => hk.2) (.slice Ao20 t347.length co20)) (fun _ h_ => h_.1)))); (case side2 => exact (Kd.R_reads' HO349.out).2.1); (case side3 => refine (Kd.R_reads' (e := 90) (base := w.heap.size) (ok := fun k_ => (True ∧ some k_ ≠ (.slice Ao20 t347.length co20 : Value).ownBlock)) (n := t338.length) (c := co13) ?_).2.2; exact (by (with_reducible repeat (first | apply Kd.R_alloc | apply Kd.R_drewN | apply Kd.R_drew)); exact (Kd.R_mono (Kd.R_far (p := ⟨gb351, 1, none⟩) (Kd.R_far (p := ⟨gb351, 0, none⟩) (Kd.R_types HO340.out BK351.out (by decide)) (fun _ hk => hk.2) (.bool t346)) (fun _ hk => hk.2) (.slice Ao20 t347.length co20)) (fun _ h_ => h_.1)))); (case side4 => exact (Kd.R_reads' HO340.out).2.1); rintro e w26 ⟨rfl, hb⟩; refine ⟨_, rfl, ?_⟩; have n0_ := Aside0.mk (Kd.R_below (by (with_reducible repeat (first | apply Kd.R_alloc | apply Kd.R_drewN | apply Kd.R_drew)); exact (Kd.R_mono (Kd.R_far (p := ⟨gb351, 1, none⟩) (Kd.R_far (p := ⟨gb351, 0, none⟩) (Kd.R_types HO336.out BK351.out (by decide)) (fun _ hk => hk.2) (.bool t346)) (fun _ hk => hk.2) (.slice Ao20 t347.length co20)) (fun _ h_ => h_.1))) hb); have n1_ := Aside0.mk (Kd.R_below (by (with_reducible repeat (first | apply Kd.R_alloc | apply Kd.R_drewN | apply Kd.R_drew)); exact (Kd.R_mono (Kd.R_far (p := ⟨gb351, 1, none⟩) (Kd.R_far (p := ⟨gb351, 0, none⟩) (Kd.R_types HO340.out BK351.out (by decide)) (fun _ hk => hk.2) (.bool t346)) (fun _ hk => hk.2) (.slice Ao20 t347.length co20)) (fun _ h_ => h_.1))) hb); have n2_ := Aside0.mk (Kd.R_below (by (with_reducible repeat (first | apply Kd.R_alloc | apply Kd.R_drewN | apply Kd.R_drew)); exact (Kd.R_mono (Kd.R_far (p := ⟨gb351, 1, none⟩) (Kd.R_far (p := ⟨gb351, 0, none⟩) (Kd.R_types HO345.out BK351.out (by decide)) (fun _ hk => hk.2) (.bool t346)) (fun _ hk => hk.2) (.slice Ao20 t347.length co20)) (fun _ h_ => h_.1))) hb); have n3_ := Aside0.mk (Kd.R_below (by (with_reducible repeat (first | apply Kd.R_alloc | apply Kd.R_drewN | apply Kd.R_drew)); exact (Kd.R_mono (Kd.R_far (p := ⟨gb351, 1, none⟩) (Kd.R_far (p := ⟨gb351, 0, none⟩) (Kd.R_types HO349.out BK351.out (by decide)) (fun _ hk => hk.2) (.bool t346)) (fun _ hk => hk.2) (.slice Ao20 t347.length co20)) (fun _ h_ => h_.1))) hb); have n4_ := Aside0.mk (blk_below (g := gb342) (o := .cells #[.bool t337, .slice Ao13 t338.length co13] 29 (0, 0)) (by (with_reducible repeat (first | refine blk_drewN ?_ _ | refine blk_drew ?_ | refine blk_alloc ?_ _)); refine blk_far ?_ NB342_351.out _; (with_reducible repeat (first | refine blk_drewN ?_ _ | refine blk_drew ?_ | refine blk_alloc ?_ _)); refine blk_far ?_ NB342_351.out _; (with_reducible repeat (first | refine blk_drewN ?_ _ | refine blk_drew ?_ | refine blk_alloc ?_ _)); exact BK342.out) hb); have n5_ := Aside0.mk (blk_below (g := gb351) (o := .cells #[.bool t346, .slice Ao20 t347.length co20] 29 (0, 0)) (by (with_reducible repeat (first | refine blk_drewN ?_ _ | refine blk_drew ?_ | refine blk_alloc ?_ _)); refine blk_put (cs := #[.bool t346, .slice none 0 0]) ?_ 1 _ rfl; (with_reducible repeat (first | refine blk_drewN ?_ _ | refine blk_drew ?_ | refine blk_alloc ?_ _)); refine blk_put (cs := #[.bool false, .slice none 0 0]) ?_ 0 _ rfl; (with_reducible repeat (first | refine blk_drewN ?_ _ | refine blk_drew ?_ | refine blk_alloc ?_ _)); exact BK351.out) hb); have n6_ := Aside0.mk (below_step (by repeat (first | (with_reducible first | exact HB.out | apply below_alloc | apply pw_below_drewN | apply below_drew1 | refine below_set ?_ GE342.out | refine below_set ?_ GE351.out) | exact HB.out)) hb); clear HO336; clear HO340; clear HO345; clear HO349; clear BK342; clear BK351; clear HB; have HO336 := n0_; have HO340 := n1_; have HO345 := n2_; have HO349 := n3_; have BK342 := n4_; have BK351 := n5_; have HB := n6_; clear n0_ n1_ n2_ n3_ n4_ n5_ n6_; (try clear hb); (try clear hb2); (try clear hk); (try clear hi)))
    go_meet
    case rel => exact ⟨_, ((t350 != t341)), (by first | rfl | (simp; done) | (simp [*]; done)), H', ⟨by first | omega | exact Nat.le_refl _⟩, ⟨by (with_reducible repeat (first | apply Kd.R_alloc | apply Kd.R_drewN | apply Kd.R_drew)); exact Kd.R_mono HO345.out (fun _ hk => trivial)⟩, ⟨by (with_reducible repeat (first | apply Kd.R_alloc | apply Kd.R_drewN | apply Kd.R_drew)); exact Kd.R_mono HO340.out (fun _ hk => hk.2)⟩, ⟨by (with_reducible repeat (first | apply Kd.R_alloc | apply Kd.R_drewN | apply Kd.R_drew)); exact Kd.R_mono HO349.out (fun _ hk => hk.2)⟩, ⟨by (with_reducible repeat (first | refine blk_drewN ?_ _ | refine blk_drew ?_ | refine blk_alloc ?_ _)); exact BK342.out⟩, ⟨by (with_reducible repeat (first | refine blk_drewN ?_ _ | refine blk_drew ?_ | refine blk_alloc ?_ _)); exact BK351.out⟩, ⟨by repeat (first | (with_reducible first | exact HB.out | apply below_alloc | apply pw_below_drewN | apply below_drew1 | refine below_set ?_ GE342.out | refine below_set ?_ GE351.out) | exact HB.out)⟩⟩
   ·replace c22 := Bool.eq_false_iff.mpr c22
    subst c22
    have H1 : (laws_FnExactGetNode.j0 k l0 t341 t343 t350 true t337 t338 t346 t347) = some true := by rw [if_neg (show ¬ (false = true) by decide)] at H; exact H
    clear H
    have H := H1
    clear H1
    have H' := Aside0.mk H
    clear H
    have hnb27 := NB351_342.out
    have hnc27 := NB342_351.out
    have hcz28_0 : w17.cell? ⟨gb351, 0, none⟩ = some (.bool false) := (blk_cell BK351.out 0).trans rfl
    have hcz28_1 : w17.cell? ⟨gb351, 1, none⟩ = some (.slice none 0 0) := (blk_cell BK351.out 1).trans rfl
    have hfz28_0 := blk_frozen BK351.out 0
    have hfz28_1 := blk_frozen BK351.out 1
    have hcz29_0 : w17.cell? ⟨gb342, 0, none⟩ = some (.bool t337) := (blk_cell BK342.out 0).trans rfl
    have hcz29_1 : w17.cell? ⟨gb342, 1, none⟩ = some (.slice Ao13 t338.length co13) := (blk_cell BK342.out 1).trans rfl
    have hfz29_0 := blk_frozen BK342.out 0
    have hfz29_1 := blk_frozen BK342.out 1
    go_wp2_with (first | ((with_reducible refine gate_callee (f := 19) rfl ?_); refine goesL_ (some 31) rfl rfl Try.func19 (by kernel_rfl) rfl #[.agg #[.bool t346, .slice Ao20 t347.length co20], .agg #[.bool t337, .slice Ao13 t338.length co13]] rfl (by (try simp only [List.map_toArray, List.map_cons, List.map_nil]); first | done | rfl | (simp only [List.length_drop, List.length_take]; rfl)) ?_; (with_reducible refine (laws_eqNode.calls k t346 _ _ t347 t337 _ _ t338 false _ ?side1 ?side2 ?side3 ?side4 A21.out).mono ?_); (case side1 => refine (Kd.R_reads' (e := 90) (base := w.heap.size) (ok := fun k_ => (True ∧ some k_ ≠ (.slice Ao13 t338.length co13 : Value).ownBlock)) (n := t347.length) (c := co20) ?_).2.2; exact (by (with_reducible repeat (first | apply Kd.R_alloc | apply Kd.R_drewN | apply Kd.R_drew)); exact (Kd.R_mono (Kd.R_far (p := ⟨gb351, 1, none⟩) (Kd.R_far (p := ⟨gb351, 0, none⟩) (Kd.R_types HO349.out BK351.out (by decide)) (fun _ hk => hk.2) (.bool t346)) (fun _ hk => hk.2) (.slice Ao20 t347.length co20)) (fun _ h_ => h_.1)))); (case side2 => exact (Kd.R_reads' HO349.out).2.1); (case side3 => refine (Kd.R_reads' (e := 90) (base := w.heap.size) (ok := fun k_ => (True ∧ some k_ ≠ (.slice Ao20 t347.length co20 : Value).ownBlock)) (n := t338.length) (c := co13) ?_).2.2; exact (by (with_reducible repeat (first | apply Kd.R_alloc | apply Kd.R_drewN | apply Kd.R_drew)); exact (Kd.R_mono (Kd.R_far (p := ⟨gb351, 1, none⟩) (Kd.R_far (p := ⟨gb351, 0, none⟩) (Kd.R_types HO340.out BK351.out (by decide)) (fun _ hk => hk.2) (.bool t346)) (fun _ hk => hk.2) (.slice Ao20 t347.length co20)) (fun _ h_ => h_.1)))); (case side4 => exact (Kd.R_reads' HO340.out).2.1); rintro e w30 ⟨rfl, hb⟩; refine ⟨_, rfl, ?_⟩; have n0_ := Aside0.mk (Kd.R_below (by (with_reducible repeat (first | apply Kd.R_alloc | apply Kd.R_drewN | apply Kd.R_drew)); exact (Kd.R_mono (Kd.R_far (p := ⟨gb351, 1, none⟩) (Kd.R_far (p := ⟨gb351, 0, none⟩) (Kd.R_types HO336.out BK351.out (by decide)) (fun _ hk => hk.2) (.bool t346)) (fun _ hk => hk.2) (.slice Ao20 t347.length co20)) (fun _ h_ => h_.1))) hb); have n1_ := Aside0.mk (Kd.R_below (by (with_reducible repeat (first | apply Kd.R_alloc | apply Kd.R_drewN | apply Kd.R_drew)); exact (Kd.R_mono (Kd.R_far (p := ⟨gb351, 1, none⟩) (Kd.R_far (p := ⟨gb351, 0, none⟩) (Kd.R_types HO340.out BK351.out (by decide)) (fun _ hk => hk.2) (.bool t346)) (fun _ hk => hk.2) (.slice Ao20 t347.length co20)) (fun _ h_ => h_.1))) hb); have n2_ := Aside0.mk (Kd.R_below (by (with_reducible repeat (first | apply Kd.R_alloc | apply Kd.R_drewN | apply Kd.R_drew)); exact (Kd.R_mono (Kd.R_far (p := ⟨gb351, 1, none⟩) (Kd.R_far (p := ⟨gb351, 0, none⟩) (Kd.R_types HO345.out BK351.out (by decide)) (fun _ hk => hk.2) (.bool t346)) (fun _ hk => hk.2) (.slice Ao20 t347.length co20)) (fun _ h_ => h_.1))) hb); have n3_ := Aside0.mk (Kd.R_below (by (with_reducible repeat (first | apply Kd.R_alloc | apply Kd.R_drewN | apply Kd.R_drew)); exact (Kd.R_mono (Kd.R_far (p := ⟨gb351, 1, none⟩) (Kd.R_far (p := ⟨gb351, 0, none⟩) (Kd.R_types HO349.out BK351.out (by decide)) (fun _ hk => hk.2) (.bool t346)) (fun _ hk => hk.2) (.slice Ao20 t347.length co20)) (fun _ h_ => h_.1))) hb); have n4_ := Aside0.mk (blk_below (g := gb342) (o := .cells #[.bool t337, .slice Ao13 t338.length co13] 29 (0, 0)) (by (with_reducible repeat (first | refine blk_drewN ?_ _ | refine blk_drew ?_ | refine blk_alloc ?_ _)); refine blk_far ?_ NB342_351.out _; (with_reducible repeat (first | refine blk_drewN ?_ _ | refine blk_drew ?_ | refine blk_alloc ?_ _)); refine blk_far ?_ NB342_351.out _; (with_reducible repeat (first | refine blk_drewN ?_ _ | refine blk_drew ?_ | refine blk_alloc ?_ _)); exact BK342.out) hb); have n5_ := Aside0.mk (blk_below (g := gb351) (o := .cells #[.bool t346, .slice Ao20 t347.length co20] 29 (0, 0)) (by (with_reducible repeat (first | refine blk_drewN ?_ _ | refine blk_drew ?_ | refine blk_alloc ?_ _)); refine blk_put (cs := #[.bool t346, .slice none 0 0]) ?_ 1 _ rfl; (with_reducible repeat (first | refine blk_drewN ?_ _ | refine blk_drew ?_ | refine blk_alloc ?_ _)); refine blk_put (cs := #[.bool false, .slice none 0 0]) ?_ 0 _ rfl; (with_reducible repeat (first | refine blk_drewN ?_ _ | refine blk_drew ?_ | refine blk_alloc ?_ _)); exact BK351.out) hb); have n6_ := Aside0.mk (below_step (by repeat (first | (with_reducible first | exact HB.out | apply below_alloc | apply pw_below_drewN | apply below_drew1 | refine below_set ?_ GE342.out | refine below_set ?_ GE351.out) | exact HB.out)) hb); clear HO336; clear HO340; clear HO345; clear HO349; clear BK342; clear BK351; clear HB; have HO336 := n0_; have HO340 := n1_; have HO345 := n2_; have HO349 := n3_; have BK342 := n4_; have BK351 := n5_; have HB := n6_; clear n0_ n1_ n2_ n3_ n4_ n5_ n6_; (try clear hb); (try clear hb2); (try clear hk); (try clear hi)))
    go_meet
    case rel => exact ⟨_, (true), (by first | rfl | (simp; done) | (simp [*]; done)), H', ⟨by first | omega | exact Nat.le_refl _⟩, ⟨by (with_reducible repeat (first | apply Kd.R_alloc | apply Kd.R_drewN | apply Kd.R_drew)); exact Kd.R_mono HO345.out (fun _ hk => trivial)⟩, ⟨by (with_reducible repeat (first | apply Kd.R_alloc | apply Kd.R_drewN | apply Kd.R_drew)); exact Kd.R_mono HO340.out (fun _ hk => hk.2)⟩, ⟨by (with_reducible repeat (first | apply Kd.R_alloc | apply Kd.R_drewN | apply Kd.R_drew)); exact Kd.R_mono HO349.out (fun _ hk => hk.2)⟩, ⟨by (with_reducible repeat (first | refine blk_drewN ?_ _ | refine blk_drew ?_ | refine blk_alloc ?_ _)); exact BK342.out⟩, ⟨by (with_reducible repeat (first | refine blk_drewN ?_ _ | refine blk_drew ?_ | refine blk_alloc ?_ _)); exact BK351.out⟩, ⟨by repeat (first | (with_reducible first | exact HB.out | apply below_alloc | apply pw_below_drewN | apply below_drew1 | refine below_set ?_ GE342.out | refine below_set ?_ GE351.out) | exact HB.out)⟩⟩
  case rest =>
   clear HC7
   try clear c1
   try clear c2
   try clear c2b0
   try clear c2b1
   try clear p2
   try clear c4
   try clear c5
   try clear c11
   try clear c18
   try clear c19
   try clear c22
   try clear c23
   try clear c27
   try clear hcz12_0
   try clear hcz12_1
   try clear hcz19_0
   try clear hcz19_1
   try clear hcz24_0
   try clear hcz24_1
   try clear hcz25_0
   try clear hcz25_1
   try clear hcz28_0
   try clear hcz28_1
   try clear hcz29_0
   try clear hcz29_1
   try clear hfz12_0
   try clear hfz12_1
   try clear hfz19_0
   try clear hfz19_1
   try clear hfz24_0
   try clear hfz24_1
   try clear hfz25_0
   try clear hfz25_1
   try clear hfz28_0
   try clear hfz28_1
   try clear hfz29_0
   try clear hfz29_1
   obtain ⟨kq, x37_6, rfl, HA, HJ6, HO_5, HO_343001, HO_352001, BK342, BK351, HB⟩ := hcut
   cases kq with
   | zero => exact absurd HA.out (by simp [laws_FnExactGetNode.j0])
   | succ kj6 =>
    have H := HA.out
    clear HA
    simp only [laws_FnExactGetNode.j0] at H
    by_cases c31 : x37_6 = true
    ·subst c31
     have H1 : (some false) = some true := by rw [if_pos rfl] at H; exact H
     clear H
     have H := H1
     clear H1
     exact absurd H (by simp)
    ·replace c31 := Bool.eq_false_iff.mpr c31
     subst c31
     have H1 : ((laws_toByteS.f kj6 l0).bind fun t353 => ((laws_eqByteS.f kj6 t343 t353).bind fun t356 => (if t356 = true then ((laws_markByteS.f kj6 t343 1).bind fun bt357 => (if bt357.1 < 0 then (laws_FnExactGetNode.j1 kj6 l0 t341 true t337 t338 t346 t347) else ((laws_eqNode.f kj6 t346 t347 t337 t338).bind fun t359 => (if t359 = true then (laws_FnExactGetNode.j1 kj6 l0 t341 (t350 != t341) t337 t338 t346 t347) else (laws_FnExactGetNode.j1 kj6 l0 t341 true t337 t338 t346 t347))))) else (some false)))) = some true := by rw [if_neg (show ¬ (false = true) by decide)] at H; exact H
     clear H
     have H := H1
     clear H1
     replace H := Option.bind_eq_some_iff.mp H
     obtain ⟨t353, A320, H⟩ := H
     replace H : ((laws_eqByteS.f kj6 t343 t353).bind fun t356 => (if t356 = true then ((laws_markByteS.f kj6 t343 1).bind fun bt357 => (if bt357.1 < 0 then (laws_FnExactGetNode.j1 kj6 l0 t341 true t337 t338 t346 t347) else ((laws_eqNode.f kj6 t346 t347 t337 t338).bind fun t359 => (if t359 = true then (laws_FnExactGetNode.j1 kj6 l0 t341 (t350 != t341) t337 t338 t346 t347) else (laws_FnExactGetNode.j1 kj6 l0 t341 true t337 t338 t346 t347))))) else (some false))) = some true := H
     have A32 := Aside0.mk A320
     clear A320
     replace H := Option.bind_eq_some_iff.mp H
     obtain ⟨t356, A330, H⟩ := H
     replace H : (if t356 = true then ((laws_markByteS.f kj6 t343 1).bind fun bt357 => (if bt357.1 < 0 then (laws_FnExactGetNode.j1 kj6 l0 t341 true t337 t338 t346 t347) else ((laws_eqNode.f kj6 t346 t347 t337 t338).bind fun t359 => (if t359 = true then (laws_FnExactGetNode.j1 kj6 l0 t341 (t350 != t341) t337 t338 t346 t347) else (laws_FnExactGetNode.j1 kj6 l0 t341 true t337 t338 t346 t347))))) else (some false)) = some true := H
     have A33 := Aside0.mk A330
     clear A330
     by_cases c34 : t356 = true
     ·subst c34
      have H1 : ((laws_markByteS.f kj6 t343 1).bind fun bt357 => (if bt357.1 < 0 then (laws_FnExactGetNode.j1 kj6 l0 t341 true t337 t338 t346 t347) else ((laws_eqNode.f kj6 t346 t347 t337 t338).bind fun t359 => (if t359 = true then (laws_FnExactGetNode.j1 kj6 l0 t341 (t350 != t341) t337 t338 t346 t347) else (laws_FnExactGetNode.j1 kj6 l0 t341 true t337 t338 t346 t347))))) = some true := by rw [if_pos rfl] at H; exact H
      clear H
      have H := H1
      clear H1
      replace H := Option.bind_eq_some_iff.mp H
      obtain ⟨⟨t357, t358⟩, A350, H⟩ := H
      replace H : (if t357 < 0 then (laws_FnExactGetNode.j1 kj6 l0 t341 true t337 t338 t346 t347) else ((laws_eqNode.f kj6 t346 t347 t337 t338).bind fun t359 => (if t359 = true then (laws_FnExactGetNode.j1 kj6 l0 t341 (t350 != t341) t337 t338 t346 t347) else (laws_FnExactGetNode.j1 kj6 l0 t341 true t337 t338 t346 t347)))) = some true := H
      have A35 := Aside0.mk A350
      clear A350
      have HC36 := Aside0.mk H
      clear H
      go_upto_region 12 with (first | ((with_reducible refine gate_callee (f := 50) rfl ?_); refine goesL_ (some 40) rfl rfl Try.func50 (by kernel_rfl) rfl #[.slice A0 l0.length c0] rfl (by (try simp only [List.map_toArray, List.map_cons, List.map_nil]); first | done | rfl | (simp only [List.length_drop, List.length_take]; rfl)) ?_; (with_reducible refine (laws_toByteS.calls kj6 _ _ l0 t353 _ ?side1 ?side2 A32.out).mono ?_); (case side1 => repeat (first | exact (Kd.C_below HR0.out HB.out) | (with_reducible refine Kd.C_alloc ?_ _) | (with_reducible refine Kd.C_drewN ?_ _) | (with_reducible refine Kd.C_drew ?_))); (case side2 => exact HC0.out); rintro e w37 ⟨v354, rfl, ho0, hb⟩; refine ⟨_, rfl, ?_⟩; have n0_ := Aside0.mk (Kd.R_elder' (by (with_reducible repeat (first | apply Kd.R_alloc | apply Kd.R_drewN | apply Kd.R_drew)); exact HO_5.out) (Kd.R_base ho0) hb); have n1_ := Aside0.mk (Kd.R_below (by (with_reducible repeat (first | apply Kd.R_alloc | apply Kd.R_drewN | apply Kd.R_drew)); exact HO_343001.out) hb); have n2_ := Aside0.mk (Kd.R_below (by (with_reducible repeat (first | apply Kd.R_alloc | apply Kd.R_drewN | apply Kd.R_drew)); exact HO_352001.out) hb); have n3_ := Aside0.mk (Kd.R_lower (Kd.R_new' ho0 (Kd.R_lt (by (with_reducible repeat (first | apply Kd.R_alloc | apply Kd.R_drewN | apply Kd.R_drew)); exact HO_5.out))) (below_size (by repeat (first | (with_reducible first | exact HB.out | apply below_alloc | apply pw_below_drewN | apply below_drew1 | refine below_set ?_ GE342.out | refine below_set ?_ GE351.out) | exact HB.out)))); have n4_ := Aside0.mk (blk_below (g := gb342) (o := .cells #[.bool t337, .slice Ao13 t338.length co13] 29 (0, 0)) (by (with_reducible repeat (first | refine blk_drewN ?_ _ | refine blk_drew ?_ | refine blk_alloc ?_ _)); exact BK342.out) hb); have n5_ := Aside0.mk (blk_below (g := gb351) (o := .cells #[.bool t346, .slice Ao20 t347.length co20] 29 (0, 0)) (by (with_reducible repeat (first | refine blk_drewN ?_ _ | refine blk_drew ?_ | refine blk_alloc ?_ _)); exact BK351.out) hb); have n6_ := Aside0.mk (below_step (by repeat (first | (with_reducible first | exact HB.out | apply below_alloc | apply pw_below_drewN | apply below_drew1 | refine below_set ?_ GE342.out | refine below_set ?_ GE351.out) | exact HB.out)) hb); clear HO_5; clear HO_343001; clear HO_352001; clear BK342; clear BK351; clear HB; have HO_5 := n0_; have HO_343001 := n1_; have HO_352001 := n2_; have HO355 := n3_; have BK342 := n4_; have BK351 := n5_; have HB := n6_; clear n0_ n1_ n2_ n3_ n4_ n5_ n6_; (try clear hb); (try clear hb2); (try clear hk); (try clear hi); (try clear ho0); obtain ⟨Ao38, co38, eo38⟩ := Kd.R_slice HO355.out; subst eo38) | ((with_reducible refine gate_callee (f := 44) rfl ?_); refine goesL_ (some 41) rfl rfl Try.func44 (by kernel_rfl) rfl #[.slice Ao15 t343.length co15, .slice Ao38 t353.length co38] rfl (by (try simp only [List.map_toArray, List.map_cons, List.map_nil]); first | done | rfl | (simp only [List.length_drop, List.length_take]; rfl)) ?_; (with_reducible refine (laws_eqByteS.calls kj6 _ _ t343 _ _ t353 true _ ?side1 ?side2 ?side3 ?side4 A33.out).mono ?_); (case side1 => repeat (first | exact (Kd.R_reads' HO_5.out).2.2 | (with_reducible refine Kd.C_alloc ?_ _) | (with_reducible refine Kd.C_drewN ?_ _) | (with_reducible refine Kd.C_drew ?_))); (case side2 => exact (Kd.R_reads' HO_5.out).2.1); (case side3 => repeat (first | exact (Kd.R_reads' HO355.out).2.2 | (with_reducible refine Kd.C_alloc ?_ _) | (with_reducible refine Kd.C_drewN ?_ _) | (with_reducible refine Kd.C_drew ?_))); (case side4 => exact (Kd.R_reads' HO355.out).2.1); rintro e w' ⟨rfl, ⟨nd, rfl⟩⟩; refine ⟨_, rfl, ?_⟩) | ((with_reducible refine gate_callee (f := 45) rfl ?_); refine goesL_ (some 45) rfl rfl Try.func45 (by kernel_rfl) rfl #[.slice Ao15 t343.length co15, .int .i64 1] rfl (by (try simp only [List.map_toArray, List.map_cons, List.map_nil]); first | done | rfl | (simp only [List.length_drop, List.length_take]; rfl)) ?_; (with_reducible refine (laws_markByteS.calls kj6 (fun k_ => some k_ = (.slice Ao15 t343.length co15 : Value).ownBlock) (.slice Ao15 t343.length co15) t343 1 t357 t358 w _ ?side1 ?side2 A35.out).mono ?_); (case side1 => repeat (first | (with_reducible first | exact HB.out | apply below_alloc | apply pw_below_drewN | apply below_drew1 | refine below_set ?_ GE342.out | refine below_set ?_ GE351.out) | exact HB.out)); (case side2 => exact Kd.R_tight rfl HO_5.out); rintro e w39 ⟨rfl, hy0, hb, hkp⟩; refine ⟨_, rfl, ?_⟩; have n0_ := Aside0.mk (Kd.R_reok rfl hy0 (fun k_ e_ => HO_5.out.1 k_ e_)); have n1_ := Aside0.mk (Kd.R_mono (ok' := fun k_ => some k_ ≠ (.slice Ao20 t347.length co20 : Value).ownBlock) (Kd.R_keptB ((Kd.R_apart' HO_343001.out (Kd.R_typed HO_5.out) (by decide))) hkp (fun k_ hk_ hs_ => (hk_.2) hs_)) (fun k_ hk_ => hk_.1.1)); have n2_ := Aside0.mk (Kd.R_mono (ok' := fun k_ => some k_ ≠ (.slice Ao13 t338.length co13 : Value).ownBlock) (Kd.R_keptB ((Kd.R_apart' HO_352001.out (Kd.R_typed HO_5.out) (by decide))) hkp (fun k_ hk_ hs_ => (hk_.2) hs_)) (fun k_ hk_ => hk_.1.1)); have n3_ := Aside0.mk (blk_kept (by (with_reducible repeat (first | refine blk_drewN ?_ _ | refine blk_drew ?_ | refine blk_alloc ?_ _)); exact BK342.out) hkp (fun hs_ => (fun e_ => (Kd.R_ne HO_5.out BK342.out (by decide)) e_) hs_)); have n4_ := Aside0.mk (blk_kept (by (with_reducible repeat (first | refine blk_drewN ?_ _ | refine blk_drew ?_ | refine blk_alloc ?_ _)); exact BK351.out) hkp (fun hs_ => (fun e_ => (Kd.R_ne HO_5.out BK351.out (by decide)) e_) hs_)); have n5_ := Aside0.mk (Kd.R_mono (ok' := fun k_ => some k_ ≠ (.slice Ao15 t343.length co15 : Value).ownBlock) (Kd.R_keptB (HO355.out) hkp (fun k_ hk_ hs_ => (hk_.2) hs_)) (fun k_ hk_ => hk_.1.2)); have n6_ := Aside0.mk (hb); clear HO_5; clear HO_343001; clear HO_352001; clear BK342; clear BK351; clear HO355; clear HB; have HO_5 := n0_; have HO_343001 := n1_; have HO_352001 := n2_; have BK342 := n3_; have BK351 := n4_; have HO355 := n5_; have HB := n6_; clear n0_ n1_ n2_ n3_ n4_ n5_ n6_; (try clear hb); (try clear hkp); (try clear hy0)))
      (try simp only [Act.put, List.setIfInBounds_toArray, List.set_cons_zero, List.set_cons_succ])
      go_cut [58] (fun v58 wc => ∃ (kq : Nat) (x58_35 : Bool), v58 = .bool x58_35 ∧ Aside0 (laws_FnExactGetNode.j1 kq l0 t341 x58_35 t337 t338 t346 t347 = some true) ∧ Aside0 (kq ≤ kj6) ∧ Aside0 (Kd.R k90 90 wc w.heap.size (fun k_ => some k_ ≠ ((.slice Ao20 t347.length co20) : Value).ownBlock) (.slice Ao13 t338.length co13) t338) ∧ Aside0 (Kd.R k90 90 wc w.heap.size (fun k_ => some k_ ≠ ((.slice Ao13 t338.length co13) : Value).ownBlock) (.slice Ao20 t347.length co20) t347) ∧ Aside0 (wc.heap[gb342]? = some (.cells #[.bool t337, (.slice Ao13 t338.length co13)] 29 (0, 0))) ∧ Aside0 (wc.heap[gb351]? = some (.cells #[.bool t346, (.slice Ao20 t347.length co20)] 29 (0, 0))) ∧ Aside0 (Below w.heap.size w wc))
      case first =>
       have H := HC36.out
       clear HC36
       by_cases c40 : t357 < 0
       ·rw [if_pos c40] at H
        have c40b0 : decide (t357 < 0) = true := decide_eq_true c40
        clear c40
        (first | rw [c40b0] | (simp only [i64_w, i32_w]; rw [c40b0]) | skip)
        have H' := Aside0.mk H
        clear H
        go_wp2
        go_meet
        case rel => exact ⟨_, (true), (by first | rfl | (simp; done) | (simp [*]; done)), H', ⟨by have := HJ6.out; first | omega | exact Nat.le_refl _⟩, ⟨by (with_reducible repeat (first | apply Kd.R_alloc | apply Kd.R_drewN | apply Kd.R_drew)); exact HO_343001.out⟩, ⟨by (with_reducible repeat (first | apply Kd.R_alloc | apply Kd.R_drewN | apply Kd.R_drew)); exact HO_352001.out⟩, ⟨by (with_reducible repeat (first | refine blk_drewN ?_ _ | refine blk_drew ?_ | refine blk_alloc ?_ _)); exact BK342.out⟩, ⟨by (with_reducible repeat (first | refine blk_drewN ?_ _ | refine blk_drew ?_ | refine blk_alloc ?_ _)); exact BK351.out⟩, ⟨by repeat (first | (with_reducible first | exact HB.out | apply below_alloc | apply pw_below_drewN | apply below_drew1 | refine below_set ?_ GE342.out | refine below_set ?_ GE351.out) | exact HB.out)⟩⟩
       ·rw [if_neg c40] at H
        have c40b0 : decide (t357 < 0) = false := decide_eq_false c40
        clear c40
        (first | rw [c40b0] | (simp only [i64_w, i32_w]; rw [c40b0]) | skip)
        replace H := Option.bind_eq_some_iff.mp H
        obtain ⟨t359, A410, H⟩ := H
        replace H : (if t359 = true then (laws_FnExactGetNode.j1 kj6 l0 t341 (t350 != t341) t337 t338 t346 t347) else (laws_FnExactGetNode.j1 kj6 l0 t341 true t337 t338 t346 t347)) = some true := H
        have A41 := Aside0.mk A410
        clear A410
        by_cases c42 : t359 = true
        ·subst c42
         have H1 : (laws_FnExactGetNode.j1 kj6 l0 t341 (t350 != t341) t337 t338 t346 t347) = some true := by rw [if_pos rfl] at H; exact H
         clear H
         have H := H1
         clear H1
         have H' := Aside0.mk H
         clear H
         have hnb43 := NB351_342.out
         have hnc43 := NB342_351.out
         have hcz44_0 : w39.cell? ⟨gb351, 0, none⟩ = some (.bool t346) := (blk_cell BK351.out 0).trans rfl
         have hcz44_1 : w39.cell? ⟨gb351, 1, none⟩ = some (.slice Ao20 t347.length co20) := (blk_cell BK351.out 1).trans rfl
         have hfz44_0 := blk_frozen BK351.out 0
         have hfz44_1 := blk_frozen BK351.out 1
         have hcz45_0 : w39.cell? ⟨gb342, 0, none⟩ = some (.bool t337) := (blk_cell BK342.out 0).trans rfl
         have hcz45_1 : w39.cell? ⟨gb342, 1, none⟩ = some (.slice Ao13 t338.length co13) := (blk_cell BK342.out 1).trans rfl
         have hfz45_0 := blk_frozen BK342.out 0
         have hfz45_1 := blk_frozen BK342.out 1
         go_wp2_with (first | (go_at_call 19; (with_reducible refine (laws_eqNode.calls kj6 t346 _ _ t347 t337 _ _ t338 true _ ?side1 ?side2 ?side3 ?side4 A41.out).mono ?_); (case side1 => repeat (first | exact (Kd.R_reads' HO_352001.out).2.2 | (with_reducible refine Kd.C_alloc ?_ _) | (with_reducible refine Kd.C_drewN ?_ _) | (with_reducible refine Kd.C_drew ?_))); (case side2 => exact (Kd.R_reads' HO_352001.out).2.1); (case side3 => repeat (first | exact (Kd.R_reads' HO_343001.out).2.2 | (with_reducible refine Kd.C_alloc ?_ _) | (with_reducible refine Kd.C_drewN ?_ _) | (with_reducible refine Kd.C_drew ?_))); (case side4 => exact (Kd.R_reads' HO_343001.out).2.1); rintro e w46 ⟨rfl, hb⟩; have n0_ := Aside0.mk (Kd.R_below (by (with_reducible repeat (first | apply Kd.R_alloc | apply Kd.R_drewN | apply Kd.R_drew)); exact HO_5.out) hb); have n1_ := Aside0.mk (Kd.R_below (by (with_reducible repeat (first | apply Kd.R_alloc | apply Kd.R_drewN | apply Kd.R_drew)); exact HO_343001.out) hb); have n2_ := Aside0.mk (Kd.R_below (by (with_reducible repeat (first | apply Kd.R_alloc | apply Kd.R_drewN | apply Kd.R_drew)); exact HO_352001.out) hb); have n3_ := Aside0.mk (Kd.R_below (by (with_reducible repeat (first | apply Kd.R_alloc | apply Kd.R_drewN | apply Kd.R_drew)); exact HO355.out) hb); have n4_ := Aside0.mk (blk_below (g := gb342) (o := .cells #[.bool t337, .slice Ao13 t338.length co13] 29 (0, 0)) (by (with_reducible repeat (first | refine blk_drewN ?_ _ | refine blk_drew ?_ | refine blk_alloc ?_ _)); exact BK342.out) hb); have n5_ := Aside0.mk (blk_below (g := gb351) (o := .cells #[.bool t346, .slice Ao20 t347.length co20] 29 (0, 0)) (by (with_reducible repeat (first | refine blk_drewN ?_ _ | refine blk_drew ?_ | refine blk_alloc ?_ _)); exact BK351.out) hb); have n6_ := Aside0.mk (below_step (by repeat (first | (with_reducible first | exact HB.out | apply below_alloc | apply pw_below_drewN | apply below_drew1 | refine below_set ?_ GE342.out | refine below_set ?_ GE351.out) | exact HB.out)) hb); clear HO_5; clear HO_343001; clear HO_352001; clear HO355; clear BK342; clear BK351; clear HB; have HO_5 := n0_; have HO_343001 := n1_; have HO_352001 := n2_; have HO355 := n3_; have BK342 := n4_; have BK351 := n5_; have HB := n6_; clear n0_ n1_ n2_ n3_ n4_ n5_ n6_; (try clear hb); (try clear hb2); (try clear hk); (try clear hi)))
         go_meet
         case rel => exact ⟨_, ((t350 != t341)), (by first | rfl | (simp; done) | (simp [*]; done)), H', ⟨by have := HJ6.out; first | omega | exact Nat.le_refl _⟩, ⟨by (with_reducible repeat (first | apply Kd.R_alloc | apply Kd.R_drewN | apply Kd.R_drew)); exact HO_343001.out⟩, ⟨by (with_reducible repeat (first | apply Kd.R_alloc | apply Kd.R_drewN | apply Kd.R_drew)); exact HO_352001.out⟩, ⟨by (with_reducible repeat (first | refine blk_drewN ?_ _ | refine blk_drew ?_ | refine blk_alloc ?_ _)); exact BK342.out⟩, ⟨by (with_reducible repeat (first | refine blk_drewN ?_ _ | refine blk_drew ?_ | refine blk_alloc ?_ _)); exact BK351.out⟩, ⟨by repeat (first | (with_reducible first | exact HB.out | apply below_alloc | apply pw_below_drewN | apply below_drew1 | refine below_set ?_ GE342.out | refine below_set ?_ GE351.out) | exact HB.out)⟩⟩
        ·replace c42 := Bool.eq_false_iff.mpr c42
         subst c42
         have H1 : (laws_FnExactGetNode.j1 kj6 l0 t341 true t337 t338 t346 t347) = some true := by rw [if_neg (show ¬ (false = true) by decide)] at H; exact H
         clear H
         have H := H1
         clear H1
         have H' := Aside0.mk H
         clear H
         have hnb47 := NB351_342.out
         have hnc47 := NB342_351.out
         have hcz48_0 : w39.cell? ⟨gb351, 0, none⟩ = some (.bool t346) := (blk_cell BK351.out 0).trans rfl
         have hcz48_1 : w39.cell? ⟨gb351, 1, none⟩ = some (.slice Ao20 t347.length co20) := (blk_cell BK351.out 1).trans rfl
         have hfz48_0 := blk_frozen BK351.out 0
         have hfz48_1 := blk_frozen BK351.out 1
         have hcz49_0 : w39.cell? ⟨gb342, 0, none⟩ = some (.bool t337) := (blk_cell BK342.out 0).trans rfl
         have hcz49_1 : w39.cell? ⟨gb342, 1, none⟩ = some (.slice Ao13 t338.length co13) := (blk_cell BK342.out 1).trans rfl
         have hfz49_0 := blk_frozen BK342.out 0
         have hfz49_1 := blk_frozen BK342.out 1
         go_wp2_with (first | (go_at_call 19; (with_reducible refine (laws_eqNode.calls kj6 t346 _ _ t347 t337 _ _ t338 false _ ?side1 ?side2 ?side3 ?side4 A41.out).mono ?_); (case side1 => repeat (first | exact (Kd.R_reads' HO_352001.out).2.2 | (with_reducible refine Kd.C_alloc ?_ _) | (with_reducible refine Kd.C_drewN ?_ _) | (with_reducible refine Kd.C_drew ?_))); (case side2 => exact (Kd.R_reads' HO_352001.out).2.1); (case side3 => repeat (first | exact (Kd.R_reads' HO_343001.out).2.2 | (with_reducible refine Kd.C_alloc ?_ _) | (with_reducible refine Kd.C_drewN ?_ _) | (with_reducible refine Kd.C_drew ?_))); (case side4 => exact (Kd.R_reads' HO_343001.out).2.1); rintro e w50 ⟨rfl, hb⟩; have n0_ := Aside0.mk (Kd.R_below (by (with_reducible repeat (first | apply Kd.R_alloc | apply Kd.R_drewN | apply Kd.R_drew)); exact HO_5.out) hb); have n1_ := Aside0.mk (Kd.R_below (by (with_reducible repeat (first | apply Kd.R_alloc | apply Kd.R_drewN | apply Kd.R_drew)); exact HO_343001.out) hb); have n2_ := Aside0.mk (Kd.R_below (by (with_reducible repeat (first | apply Kd.R_alloc | apply Kd.R_drewN | apply Kd.R_drew)); exact HO_352001.out) hb); have n3_ := Aside0.mk (Kd.R_below (by (with_reducible repeat (first | apply Kd.R_alloc | apply Kd.R_drewN | apply Kd.R_drew)); exact HO355.out) hb); have n4_ := Aside0.mk (blk_below (g := gb342) (o := .cells #[.bool t337, .slice Ao13 t338.length co13] 29 (0, 0)) (by (with_reducible repeat (first | refine blk_drewN ?_ _ | refine blk_drew ?_ | refine blk_alloc ?_ _)); exact BK342.out) hb); have n5_ := Aside0.mk (blk_below (g := gb351) (o := .cells #[.bool t346, .slice Ao20 t347.length co20] 29 (0, 0)) (by (with_reducible repeat (first | refine blk_drewN ?_ _ | refine blk_drew ?_ | refine blk_alloc ?_ _)); exact BK351.out) hb); have n6_ := Aside0.mk (below_step (by repeat (first | (with_reducible first | exact HB.out | apply below_alloc | apply pw_below_drewN | apply below_drew1 | refine below_set ?_ GE342.out | refine below_set ?_ GE351.out) | exact HB.out)) hb); clear HO_5; clear HO_343001; clear HO_352001; clear HO355; clear BK342; clear BK351; clear HB; have HO_5 := n0_; have HO_343001 := n1_; have HO_352001 := n2_; have HO355 := n3_; have BK342 := n4_; have BK351 := n5_; have HB := n6_; clear n0_ n1_ n2_ n3_ n4_ n5_ n6_; (try clear hb); (try clear hb2); (try clear hk); (try clear hi)))
         go_meet
         case rel => exact ⟨_, (true), (by first | rfl | (simp; done) | (simp [*]; done)), H', ⟨by have := HJ6.out; first | omega | exact Nat.le_refl _⟩, ⟨by (with_reducible repeat (first | apply Kd.R_alloc | apply Kd.R_drewN | apply Kd.R_drew)); exact HO_343001.out⟩, ⟨by (with_reducible repeat (first | apply Kd.R_alloc | apply Kd.R_drewN | apply Kd.R_drew)); exact HO_352001.out⟩, ⟨by (with_reducible repeat (first | refine blk_drewN ?_ _ | refine blk_drew ?_ | refine blk_alloc ?_ _)); exact BK342.out⟩, ⟨by (with_reducible repeat (first | refine blk_drewN ?_ _ | refine blk_drew ?_ | refine blk_alloc ?_ _)); exact BK351.out⟩, ⟨by repeat (first | (with_reducible first | exact HB.out | apply below_alloc | apply pw_below_drewN | apply below_drew1 | refine below_set ?_ GE342.out | refine below_set ?_ GE351.out) | exact HB.out)⟩⟩
      case rest =>
       clear HC36
       try clear c1
       try clear c2
       try clear c2b0
       try clear c2b1
       try clear p2
       try clear c3
       try clear c4
       try clear c5
       try clear c11
       try clear c18
       try clear c19
       try clear c22
       try clear c23
       try clear c27
       try clear c31
       try clear c34
       try clear c40
       try clear c40b0
       try clear c42
       try clear c43
       try clear c44
       try clear c45
       try clear c47
       try clear c49
       try clear c50
       try clear hcz12_0
       try clear hcz12_1
       try clear hcz19_0
       try clear hcz19_1
       try clear hcz24_0
       try clear hcz24_1
       try clear hcz25_0
       try clear hcz25_1
       try clear hcz28_0
       try clear hcz28_1
       try clear hcz29_0
       try clear hcz29_1
       try clear hcz44_0
       try clear hcz44_1
       try clear hcz45_0
       try clear hcz45_1
       try clear hcz48_0
       try clear hcz48_1
       try clear hcz49_0
       try clear hcz49_1
       try clear hfz12_0
       try clear hfz12_1
       try clear hfz19_0
       try clear hfz19_1
       try clear hfz24_0
       try clear hfz24_1
       try clear hfz25_0
       try clear hfz25_1
       try clear hfz28_0
       try clear hfz28_1
       try clear hfz29_0
       try clear hfz29_1
       try clear hfz44_0
       try clear hfz44_1
       try clear hfz45_0
       try clear hfz45_1
       try clear hfz48_0
       try clear hfz48_1
       try clear hfz49_0
       try clear hfz49_1
       try clear p2
       obtain ⟨kq, x58_35, rfl, HA, HJ35, HO_343001, HO_352001, BK342, BK351, HB⟩ := hcut
       cases kq with
       | zero => exact absurd HA.out (by simp [laws_FnExactGetNode.j1])
       | succ kj35 =>
        have H := HA.out
        clear HA
        simp only [laws_FnExactGetNode.j1] at H
        by_cases c51 : x58_35 = true
        ·subst c51
         have H1 : (some false) = some true := by rw [if_pos rfl] at H; exact H
         clear H
         have H := H1
         clear H1
         exact absurd H (by simp)
        ·replace c51 := Bool.eq_false_iff.mpr c51
         subst c51
         have H1 : ((laws_markNode.f kj35 t346 t347 1).bind fun bt360 => ((laws_heldNode.f kj35 t346 bt360.2 1).bind fun t362 => (if t362 < 0 then (some false) else (if t362 = bt360.1 then ((laws_toByteS.f kj35 l0).bind fun t363 => ((impl_GetNode.f kj35 t363).bind fun bt366 => ((laws_eqNode.f kj35 bt366.1 bt366.2.1 t337 t338).bind fun t372 => (if t372 = true then (laws_FnExactGetNode.j2 kj35 bt360.1 (bt366.2.2 != t341) t346 bt360.2) else (laws_FnExactGetNode.j2 kj35 bt360.1 true t346 bt360.2))))) else (some false))))) = some true := by rw [if_neg (show ¬ (false = true) by decide)] at H; exact H
         clear H
         have H := H1
         clear H1
         replace H := Option.bind_eq_some_iff.mp H
         obtain ⟨⟨t360, t361⟩, A520, H⟩ := H
         replace H : ((laws_heldNode.f kj35 t346 t361 1).bind fun t362 => (if t362 < 0 then (some false) else (if t362 = t360 then ((laws_toByteS.f kj35 l0).bind fun t363 => ((impl_GetNode.f kj35 t363).bind fun bt366 => ((laws_eqNode.f kj35 bt366.1 bt366.2.1 t337 t338).bind fun t372 => (if t372 = true then (laws_FnExactGetNode.j2 kj35 t360 (bt366.2.2 != t341) t346 t361) else (laws_FnExactGetNode.j2 kj35 t360 true t346 t361))))) else (some false)))) = some true := H
         have A52 := Aside0.mk A520
         clear A520
         replace H := Option.bind_eq_some_iff.mp H
         obtain ⟨t362, A530, H⟩ := H
         replace H : (if t362 < 0 then (some false) else (if t362 = t360 then ((laws_toByteS.f kj35 l0).bind fun t363 => ((impl_GetNode.f kj35 t363).bind fun bt366 => ((laws_eqNode.f kj35 bt366.1 bt366.2.1 t337 t338).bind fun t372 => (if t372 = true then (laws_FnExactGetNode.j2 kj35 t360 (bt366.2.2 != t341) t346 t361) else (laws_FnExactGetNode.j2 kj35 t360 true t346 t361))))) else (some false))) = some true := H
         have A53 := Aside0.mk A530
         clear A530
         by_cases c54 : t362 < 0
         ·rw [if_pos c54] at H
          have c54b0 : decide (t362 < 0) = true := decide_eq_true c54
          clear c54
          exact absurd H (by simp)
         ·rw [if_neg c54] at H
          have c54b0 : decide (t362 < 0) = false := decide_eq_false c54
          clear c54
          by_cases c55 : t362 = t360
          ·rw [if_pos c55] at H
           have c55b0 : (t362 == t360) = true := beq_iff_eq.mpr c55
           have c55b1 : (t362 != t360) = false := bne_eq_false_iff_eq.mpr c55
           clear c55
           replace H := Option.bind_eq_some_iff.mp H
           obtain ⟨t363, A560, H⟩ := H
           replace H : ((impl_GetNode.f kj35 t363).bind fun bt366 => ((laws_eqNode.f kj35 bt366.1 bt366.2.1 t337 t338).bind fun t372 => (if t372 = true then (laws_FnExactGetNode.j2 kj35 t360 (bt366.2.2 != t341) t346 t361) else (laws_FnExactGetNode.j2 kj35 t360 true t346 t361)))) = some true := H
           have A56 := Aside0.mk A560
           clear A560
           replace H := Option.bind_eq_some_iff.mp H
           obtain ⟨⟨t366, t367, t370⟩, A570, H⟩ := H
           replace H : ((laws_eqNode.f kj35 t366 t367 t337 t338).bind fun t372 => (if t372 = true then (laws_FnExactGetNode.j2 kj35 t360 (t370 != t341) t346 t361) else (laws_FnExactGetNode.j2 kj35 t360 true t346 t361))) = some true := H
           have A57 := Aside0.mk A570
           clear A570
           have HC58 := Aside0.mk H
           clear H
           have hnb59 := NB351_342.out
           have hnc59 := NB342_351.out
           have hcz60_0 : wc.cell? ⟨gb351, 0, none⟩ = some (.bool t346) := (blk_cell BK351.out 0).trans rfl
           have hcz60_1 : wc.cell? ⟨gb351, 1, none⟩ = some (.slice Ao20 t347.length co20) := (blk_cell BK351.out 1).trans rfl
           have hfz60_0 := blk_frozen BK351.out 0
           have hfz60_1 := blk_frozen BK351.out 1
           go_upto_region 23 with (first | ((with_reducible refine gate_callee (f := 31) rfl ?_); refine goesL_ (some 61) rfl rfl Try.func31 (by kernel_rfl) rfl #[.agg #[.bool t346, .slice Ao20 t347.length co20], .int .i64 1] rfl (by (try simp only [List.map_toArray, List.map_cons, List.map_nil]); first | done | rfl | (simp only [List.length_drop, List.length_take]; rfl)) ?_; (with_reducible refine (laws_markNode.calls kj35 t346 (fun k_ => some k_ = (.slice Ao20 t347.length co20 : Value).ownBlock) (.slice Ao20 t347.length co20) t347 1 t360 t361 w _ ?side1 ?side2 A52.out).mono ?_); (case side1 => repeat (first | (with_reducible first | exact HB.out | apply below_alloc | apply pw_below_drewN | apply below_drew1 | refine below_set ?_ GE342.out | refine below_set ?_ GE351.out) | exact HB.out)); (case side2 => exact Kd.R_tight rfl HO_352001.out); rintro e w61 ⟨rfl, hy0, hb, hkp⟩; refine ⟨_, rfl, ?_⟩; have n0_ := Aside0.mk (Kd.R_mono (ok' := fun k_ => some k_ ≠ (.slice Ao20 t347.length co20 : Value).ownBlock) (Kd.R_keptB (HO_343001.out) hkp (fun k_ hk_ hs_ => (hk_) hs_)) (fun k_ hk_ => hk_.1)); have n1_ := Aside0.mk (Kd.R_reok rfl hy0 (fun k_ e_ => HO_352001.out.1 k_ e_)); have n2_ := Aside0.mk (blk_kept (by (with_reducible repeat (first | refine blk_drewN ?_ _ | refine blk_drew ?_ | refine blk_alloc ?_ _)); exact BK342.out) hkp (fun hs_ => (fun e_ => (Kd.R_ne HO_352001.out BK342.out (by decide)) e_) hs_)); have n3_ := Aside0.mk (blk_kept (by (with_reducible repeat (first | refine blk_drewN ?_ _ | refine blk_drew ?_ | refine blk_alloc ?_ _)); exact BK351.out) hkp (fun hs_ => (fun e_ => (Kd.R_ne HO_352001.out BK351.out (by decide)) e_) hs_)); have n4_ := Aside0.mk (hb); clear HO_343001; clear HO_352001; clear BK342; clear BK351; clear HB; have HO_343001 := n0_; have HO_352001 := n1_; have BK342 := n2_; have BK351 := n3_; have HB := n4_; clear n0_ n1_ n2_ n3_ n4_; (try clear hb); (try clear hkp); (try clear hy0); have hcz62_0 : w61.cell? ⟨gb351, 0, none⟩ = some (.bool t346) := (blk_cell BK351.out 0).trans rfl; have hcz62_1 : w61.cell? ⟨gb351, 1, none⟩ = some (.slice Ao20 t347.length co20) := (blk_cell BK351.out 1).trans rfl; have hfz62_0 := blk_frozen BK351.out 0; have hfz62_1 := blk_frozen BK351.out 1) | ((with_reducible refine gate_callee (f := 32) rfl ?_); refine goesL_ (some 64) rfl rfl Try.func32 (by kernel_rfl) rfl #[.agg #[.bool t346, .slice Ao20 t361.length co20], .int .i64 1] rfl (by (try simp only [List.map_toArray, List.map_cons, List.map_nil]); first | done | (rw [show t361.length = t347.length from (Kd.R_reads' HO_352001.out).1.symm] <;> rfl) | rfl | (simp only [List.length_drop, List.length_take]; rfl)) ?_; (with_reducible refine (laws_heldNode.calls kj35 t346 _ _ t361 1 t362 _ ?side1 ?side2 A53.out).mono ?_); (case side1 => repeat (first | exact (Kd.R_reads' HO_352001.out).2.2 | (with_reducible refine Kd.C_alloc ?_ _) | (with_reducible refine Kd.C_drewN ?_ _) | (with_reducible refine Kd.C_drew ?_))); (case side2 => rw [show t361.length = t347.length from (Kd.R_reads' HO_352001.out).1.symm]; exact (Kd.R_reads' HO_352001.out).2.1); rintro e w63 ⟨rfl, hb⟩; refine ⟨_, rfl, ?_⟩; have n0_ := Aside0.mk (Kd.R_below (by (with_reducible repeat (first | apply Kd.R_alloc | apply Kd.R_drewN | apply Kd.R_drew)); exact HO_343001.out) hb); have n1_ := Aside0.mk (Kd.R_below (by (with_reducible repeat (first | apply Kd.R_alloc | apply Kd.R_drewN | apply Kd.R_drew)); exact HO_352001.out) hb); have n2_ := Aside0.mk (blk_below (g := gb342) (o := .cells #[.bool t337, .slice Ao13 t338.length co13] 29 (0, 0)) (by (with_reducible repeat (first | refine blk_drewN ?_ _ | refine blk_drew ?_ | refine blk_alloc ?_ _)); exact BK342.out) hb); have n3_ := Aside0.mk (blk_below (g := gb351) (o := .cells #[.bool t346, .slice Ao20 t347.length co20] 29 (0, 0)) (by (with_reducible repeat (first | refine blk_drewN ?_ _ | refine blk_drew ?_ | refine blk_alloc ?_ _)); exact BK351.out) hb); have n4_ := Aside0.mk (below_step (by repeat (first | (with_reducible first | exact HB.out | apply below_alloc | apply pw_below_drewN | apply below_drew1 | refine below_set ?_ GE342.out | refine below_set ?_ GE351.out) | exact HB.out)) hb); clear HO_343001; clear HO_352001; clear BK342; clear BK351; clear HB; have HO_343001 := n0_; have HO_352001 := n1_; have BK342 := n2_; have BK351 := n3_; have HB := n4_; clear n0_ n1_ n2_ n3_ n4_; (try clear hb); (try clear hb2); (try clear hk); (try clear hi)) | ((with_reducible refine gate_callee (f := 50) rfl ?_); refine goesL_ (some 72) rfl rfl Try.func50 (by kernel_rfl) rfl #[.slice A0 l0.length c0] rfl (by (try simp only [List.map_toArray, List.map_cons, List.map_nil]); first | done | rfl | (simp only [List.length_drop, List.length_take]; rfl)) ?_; (with_reducible refine (laws_toByteS.calls kj35 _ _ l0 t363 _ ?side1 ?side2 A56.out).mono ?_); (case side1 => repeat (first | exact (Kd.C_below HR0.out HB.out) | (with_reducible refine Kd.C_alloc ?_ _) | (with_reducible refine Kd.C_drewN ?_ _) | (with_reducible refine Kd.C_drew ?_))); (case side2 => exact HC0.out); rintro e w64 ⟨v364, rfl, ho0, hb⟩; refine ⟨_, rfl, ?_⟩; have n0_ := Aside0.mk (Kd.R_below (by (with_reducible repeat (first | apply Kd.R_alloc | apply Kd.R_drewN | apply Kd.R_drew)); exact HO_343001.out) hb); have n1_ := Aside0.mk (Kd.R_below (by (with_reducible repeat (first | apply Kd.R_alloc | apply Kd.R_drewN | apply Kd.R_drew)); exact HO_352001.out) hb); have n2_ := Aside0.mk (Kd.R_lower ho0 (below_size (by repeat (first | (with_reducible first | exact HB.out | apply below_alloc | apply pw_below_drewN | apply below_drew1 | refine below_set ?_ GE342.out | refine below_set ?_ GE351.out) | exact HB.out)))); have n3_ := Aside0.mk (blk_below (g := gb342) (o := .cells #[.bool t337, .slice Ao13 t338.length co13] 29 (0, 0)) (by (with_reducible repeat (first | refine blk_drewN ?_ _ | refine blk_drew ?_ | refine blk_alloc ?_ _)); exact BK342.out) hb); have n4_ := Aside0.mk (blk_below (g := gb351) (o := .cells #[.bool t346, .slice Ao20 t347.length co20] 29 (0, 0)) (by (with_reducible repeat (first | refine blk_drewN ?_ _ | refine blk_drew ?_ | refine blk_alloc ?_ _)); exact BK351.out) hb); have n5_ := Aside0.mk (below_step (by repeat (first | (with_reducible first | exact HB.out | apply below_alloc | apply pw_below_drewN | apply below_drew1 | refine below_set ?_ GE342.out | refine below_set ?_ GE351.out) | exact HB.out)) hb); clear HO_343001; clear HO_352001; clear BK342; clear BK351; clear HB; have HO_343001 := n0_; have HO_352001 := n1_; have HO365 := n2_; have BK342 := n3_; have BK351 := n4_; have HB := n5_; clear n0_ n1_ n2_ n3_ n4_ n5_; (try clear hb); (try clear hb2); (try clear hk); (try clear hi); (try clear ho0); obtain ⟨Ao65, co65, eo65⟩ := Kd.R_slice HO365.out; subst eo65) | ((with_reducible refine gate_callee (f := 51) rfl ?_); refine goesL_ (some 73) rfl rfl Try.func51 (by kernel_rfl) rfl #[.slice Ao65 t363.length co65] rfl (by (try simp only [List.map_toArray, List.map_cons, List.map_nil]); first | done | rfl | (simp only [List.length_drop, List.length_take]; rfl)) ?_; (with_reducible refine (impl_GetNode.calls kj35 _ _ t363 t366 t367 t370 _ ?side1 ?side2 A57.out).mono ?_); (case side1 => repeat (first | exact (Kd.R_reads' HO365.out).2.2 | (with_reducible refine Kd.C_alloc ?_ _) | (with_reducible refine Kd.C_drewN ?_ _) | (with_reducible refine Kd.C_drew ?_))); (case side2 => exact (Kd.R_reads' HO365.out).2.1); rintro e w66 ⟨v368, rfl, ho0, hb⟩; refine ⟨_, rfl, ?_⟩; have n0_ := Aside0.mk (Kd.R_elder' (by (with_reducible repeat (first | apply Kd.R_alloc | apply Kd.R_drewN | apply Kd.R_drew)); exact HO_343001.out) (Kd.R_base ho0) hb); have n1_ := Aside0.mk (Kd.R_elder' (by (with_reducible repeat (first | apply Kd.R_alloc | apply Kd.R_drewN | apply Kd.R_drew)); exact HO_352001.out) (Kd.R_base ho0) hb); have n2_ := Aside0.mk (Kd.R_below (by (with_reducible repeat (first | apply Kd.R_alloc | apply Kd.R_drewN | apply Kd.R_drew)); exact HO365.out) hb); have n3_ := Aside0.mk (Kd.R_lower (Kd.R_new' (Kd.R_new' ho0 (Kd.R_lt (by (with_reducible repeat (first | apply Kd.R_alloc | apply Kd.R_drewN | apply Kd.R_drew)); exact HO_343001.out))) (Kd.R_lt (by (with_reducible repeat (first | apply Kd.R_alloc | apply Kd.R_drewN | apply Kd.R_drew)); exact HO_352001.out))) (below_size (by repeat (first | (with_reducible first | exact HB.out | apply below_alloc | apply pw_below_drewN | apply below_drew1 | refine below_set ?_ GE342.out | refine below_set ?_ GE351.out) | exact HB.out)))); have n4_ := Aside0.mk (blk_below (g := gb342) (o := .cells #[.bool t337, .slice Ao13 t338.length co13] 29 (0, 0)) (by (with_reducible repeat (first | refine blk_drewN ?_ _ | refine blk_drew ?_ | refine blk_alloc ?_ _)); exact BK342.out) hb); have n5_ := Aside0.mk (blk_below (g := gb351) (o := .cells #[.bool t346, .slice Ao20 t347.length co20] 29 (0, 0)) (by (with_reducible repeat (first | refine blk_drewN ?_ _ | refine blk_drew ?_ | refine blk_alloc ?_ _)); exact BK351.out) hb); have n6_ := Aside0.mk (below_step (by repeat (first | (with_reducible first | exact HB.out | apply below_alloc | apply pw_below_drewN | apply below_drew1 | refine below_set ?_ GE342.out | refine below_set ?_ GE351.out) | exact HB.out)) hb); clear HO_343001; clear HO_352001; clear HO365; clear BK342; clear BK351; clear HB; have HO_343001 := n0_; have HO_352001 := n1_; have HO365 := n2_; have HO369 := n3_; have BK342 := n4_; have BK351 := n5_; have HB := n6_; clear n0_ n1_ n2_ n3_ n4_ n5_ n6_; (try clear hb); (try clear hb2); (try clear hk); (try clear hi); (try clear ho0)) | ((with_reducible refine gate_dst (N := 11) rfl ?_); refine box_event ?hg (N := 11) ?hd (cs := #[.bool false, .slice none 0 0]) (t := 29) ?hr ?_; (case hd => rfl); (case hg => rfl); (case hr => first | (go_simp; done) | (go_simp; rfl)); intro gb371 hg w67 hbox hb; have n0_ := Aside0.mk (Kd.R_below (by (with_reducible repeat (first | apply Kd.R_alloc | apply Kd.R_drewN | apply Kd.R_drew)); exact HO_343001.out) hb); have n1_ := Aside0.mk (Kd.R_below (by (with_reducible repeat (first | apply Kd.R_alloc | apply Kd.R_drewN | apply Kd.R_drew)); exact HO_352001.out) hb); have n2_ := Aside0.mk (Kd.R_below (by (with_reducible repeat (first | apply Kd.R_alloc | apply Kd.R_drewN | apply Kd.R_drew)); exact HO365.out) hb); have n3_ := Aside0.mk (Kd.R_below (by (with_reducible repeat (first | apply Kd.R_alloc | apply Kd.R_drewN | apply Kd.R_drew)); exact HO369.out) hb); have n4_ := Aside0.mk (blk_below (g := gb342) (o := .cells #[.bool t337, .slice Ao13 t338.length co13] 29 (0, 0)) (by (with_reducible repeat (first | refine blk_drewN ?_ _ | refine blk_drew ?_ | refine blk_alloc ?_ _)); exact BK342.out) hb); have n5_ := Aside0.mk (blk_below (g := gb351) (o := .cells #[.bool t346, .slice Ao20 t347.length co20] 29 (0, 0)) (by (with_reducible repeat (first | refine blk_drewN ?_ _ | refine blk_drew ?_ | refine blk_alloc ?_ _)); exact BK351.out) hb); have n6_ := Aside0.mk (below_step (by repeat (first | (with_reducible first | exact HB.out | apply below_alloc | apply pw_below_drewN | apply below_drew1 | refine below_set ?_ GE342.out | refine below_set ?_ GE351.out) | exact HB.out)) hb); have n7_ := Aside0.mk (hbox); have n8_ := Aside0.mk ((by rw [hg]; exact (below_size (by repeat (first | (with_reducible first | exact HB.out | apply below_alloc | apply pw_below_drewN | apply below_drew1 | refine below_set ?_ GE342.out | refine below_set ?_ GE351.out) | exact HB.out))) : w.heap.size ≤ gb371)); have n9_ := Aside0.mk ((by rw [hg]; exact (below_size (by repeat (first | (with_reducible first | exact HB.out | apply below_alloc | apply pw_below_drewN | apply below_drew1 | refine below_set ?_ GE342.out | refine below_set ?_ GE351.out) | exact HB.out))) : w.heap.size ≤ gb371)); have n10_ := Aside0.mk ((by rw [hg]; exact Nat.ne_of_lt (blk_lt (g := gb342) (o := .cells #[.bool t337, .slice Ao13 t338.length co13] 29 (0, 0)) (by (with_reducible repeat (first | refine blk_drewN ?_ _ | refine blk_drew ?_ | refine blk_alloc ?_ _)); exact BK342.out)) : gb342 ≠ gb371)); have n11_ := Aside0.mk ((by rw [hg]; exact Nat.ne_of_gt (blk_lt (g := gb342) (o := .cells #[.bool t337, .slice Ao13 t338.length co13] 29 (0, 0)) (by (with_reducible repeat (first | refine blk_drewN ?_ _ | refine blk_drew ?_ | refine blk_alloc ?_ _)); exact BK342.out)) : gb371 ≠ gb342)); have n12_ := Aside0.mk ((by rw [hg]; exact Nat.ne_of_lt (blk_lt (g := gb351) (o := .cells #[.bool t346, .slice Ao20 t347.length co20] 29 (0, 0)) (by (with_reducible repeat (first | refine blk_drewN ?_ _ | refine blk_drew ?_ | refine blk_alloc ?_ _)); exact BK351.out)) : gb351 ≠ gb371)); have n13_ := Aside0.mk ((by rw [hg]; exact Nat.ne_of_gt (blk_lt (g := gb351) (o := .cells #[.bool t346, .slice Ao20 t347.length co20] 29 (0, 0)) (by (with_reducible repeat (first | refine blk_drewN ?_ _ | refine blk_drew ?_ | refine blk_alloc ?_ _)); exact BK351.out)) : gb371 ≠ gb351)); clear HO_343001; clear HO_352001; clear HO365; clear HO369; clear BK342; clear BK351; clear HB; have HO_343001 := n0_; have HO_352001 := n1_; have HO365 := n2_; have HO369 := n3_; have BK342 := n4_; have BK351 := n5_; have HB := n6_; have BK371 := n7_; have GW371 := n8_; have GE371 := n9_; have NB342_371 := n10_; have NB371_342 := n11_; have NB351_371 := n12_; have NB371_351 := n13_; clear n0_ n1_ n2_ n3_ n4_ n5_ n6_ n7_ n8_ n9_ n10_ n11_ n12_ n13_; clear hb hbox hg; have hnb68 := NB371_342.out; have hnc68 := NB342_371.out; have hnb69 := NB371_351.out; have hnc69 := NB351_371.out; have hcz70_0 : w67.cell? ⟨gb371, 0, none⟩ = some (.bool false) := (blk_cell BK371.out 0).trans rfl; have hcz70_1 : w67.cell? ⟨gb371, 1, none⟩ = some (.slice none 0 0) := (blk_cell BK371.out 1).trans rfl; have hfz70_0 := blk_frozen BK371.out 0; have hfz70_1 := blk_frozen BK371.out 1; obtain ⟨Ao71, co71, eo71⟩ := Kd.R_slice HO369.out; subst eo71))
           (try simp only [Act.put, List.setIfInBounds_toArray, List.set_cons_zero, List.set_cons_succ])
           go_cut [84] (fun v84 wc => ∃ (kq : Nat) (x84_57 : Bool), v84 = .bool x84_57 ∧ Aside0 (laws_FnExactGetNode.j2 kq t360 x84_57 t346 t361 = some true) ∧ Aside0 (kq ≤ kj35) ∧ Aside0 (Kd.R k90 90 wc w.heap.size (fun k_ => some k_ ≠ ((.slice Ao20 t347.length co20) : Value).ownBlock ∧ some k_ ≠ ((.slice Ao71 t367.length co71) : Value).ownBlock) (.slice Ao13 t338.length co13) t338) ∧ Aside0 (Kd.R k90 90 wc w.heap.size (fun k_ => some k_ ≠ ((.slice Ao13 t338.length co13) : Value).ownBlock ∧ some k_ ≠ ((.slice Ao71 t367.length co71) : Value).ownBlock) (.slice Ao20 t347.length co20) t361) ∧ Aside0 (Kd.R k90 90 wc w.heap.size (fun k_ => some k_ ≠ ((.slice Ao13 t338.length co13) : Value).ownBlock ∧ some k_ ≠ ((.slice Ao20 t347.length co20) : Value).ownBlock) (.slice Ao71 t367.length co71) t367) ∧ Aside0 (wc.heap[gb342]? = some (.cells #[.bool t337, (.slice Ao13 t338.length co13)] 29 (0, 0))) ∧ Aside0 (wc.heap[gb351]? = some (.cells #[.bool t346, (.slice Ao20 t347.length co20)] 29 (0, 0))) ∧ Aside0 (wc.heap[gb371]? = some (.cells #[.bool t366, (.slice Ao71 t367.length co71)] 29 (0, 0))) ∧ Aside0 (Below w.heap.size w wc))
           case first =>
            have H := HC58.out
            clear HC58
            replace H := Option.bind_eq_some_iff.mp H
            obtain ⟨t372, A720, H⟩ := H
            replace H : (if t372 = true then (laws_FnExactGetNode.j2 kj35 t360 (t370 != t341) t346 t361) else (laws_FnExactGetNode.j2 kj35 t360 true t346 t361)) = some true := H
            have A72 := Aside0.mk A720
            clear A720
            by_cases c73 : t372 = true
            ·subst c73
             have H1 : (laws_FnExactGetNode.j2 kj35 t360 (t370 != t341) t346 t361) = some true := by rw [if_pos rfl] at H; exact H
             clear H
             have H := H1
             clear H1
             have H' := Aside0.mk H
             clear H
             have hnb74 := NB371_342.out
             have hnc74 := NB342_371.out
             have hnb75 := NB371_351.out
             have hnc75 := NB351_371.out
             have hcz76_0 : w67.cell? ⟨gb371, 0, none⟩ = some (.bool false) := (blk_cell BK371.out 0).trans rfl
             have hcz76_1 : w67.cell? ⟨gb371, 1, none⟩ = some (.slice none 0 0) := (blk_cell BK371.out 1).trans rfl
             have hfz76_0 := blk_frozen BK371.out 0
             have hfz76_1 := blk_frozen BK371.out 1
             have hnb77 := NB342_351.out
             have hnc77 := NB351_342.out
             have hcz78_0 : w67.cell? ⟨gb342, 0, none⟩ = some (.bool t337) := (blk_cell BK342.out 0).trans rfl
             have hcz78_1 : w67.cell? ⟨gb342, 1, none⟩ = some (.slice Ao13 t338.length co13) := (blk_cell BK342.out 1).trans rfl
             have hfz78_0 := blk_frozen BK342.out 0
             have hfz78_1 := blk_frozen BK342.out 1
             go_wp2_with (first | ((with_reducible refine gate_callee (f := 19) rfl ?_); refine goesL_ (some 78) rfl rfl Try.func19 (by kernel_rfl) rfl #[.agg #[.bool t366, .slice Ao71 t367.length co71], .agg #[.bool t337, .slice Ao13 t338.length co13]] rfl (by (try simp only [List.map_toArray, List.map_cons, List.map_nil]); first | done | rfl | (simp only [List.length_drop, List.length_take]; rfl)) ?_; (with_reducible refine (laws_eqNode.calls kj35 t366 _ _ t367 t337 _ _ t338 true _ ?side1 ?side2 ?side3 ?side4 A72.out).mono ?_); (case side1 => refine (Kd.R_reads' (e := 90) (base := w.heap.size) (ok := fun k_ => ((True ∧ some k_ ≠ (.slice Ao13 t338.length co13 : Value).ownBlock) ∧ some k_ ≠ (.slice Ao20 t347.length co20 : Value).ownBlock)) (n := t367.length) (c := co71) ?_).2.2; exact (by (with_reducible repeat (first | apply Kd.R_alloc | apply Kd.R_drewN | apply Kd.R_drew)); exact (Kd.R_mono (Kd.R_far (p := ⟨gb371, 1, none⟩) (Kd.R_far (p := ⟨gb371, 0, none⟩) (Kd.R_types HO369.out BK371.out (by decide)) (fun _ hk => hk.2) (.bool t366)) (fun _ hk => hk.2) (.slice Ao71 t367.length co71)) (fun _ h_ => h_.1)))); (case side2 => exact (Kd.R_reads' HO369.out).2.1); (case side3 => refine (Kd.R_reads' (e := 90) (base := w.heap.size) (ok := fun k_ => (some k_ ≠ (.slice Ao20 t347.length co20 : Value).ownBlock ∧ some k_ ≠ (.slice Ao71 t367.length co71 : Value).ownBlock)) (n := t338.length) (c := co13) ?_).2.2; exact (by (with_reducible repeat (first | apply Kd.R_alloc | apply Kd.R_drewN | apply Kd.R_drew)); exact (Kd.R_mono (Kd.R_far (p := ⟨gb371, 1, none⟩) (Kd.R_far (p := ⟨gb371, 0, none⟩) (Kd.R_types HO_343001.out BK371.out (by decide)) (fun _ hk => hk.2) (.bool t366)) (fun _ hk => hk.2) (.slice Ao71 t367.length co71)) (fun _ h_ => h_.1)))); (case side4 => exact (Kd.R_reads' HO_343001.out).2.1); rintro e w79 ⟨rfl, hb⟩; refine ⟨_, rfl, ?_⟩; have n0_ := Aside0.mk (Kd.R_below (by (with_reducible repeat (first | apply Kd.R_alloc | apply Kd.R_drewN | apply Kd.R_drew)); exact (Kd.R_mono (Kd.R_far (p := ⟨gb371, 1, none⟩) (Kd.R_far (p := ⟨gb371, 0, none⟩) (Kd.R_types HO_343001.out BK371.out (by decide)) (fun _ hk => hk.2) (.bool t366)) (fun _ hk => hk.2) (.slice Ao71 t367.length co71)) (fun _ h_ => h_.1))) hb); have n1_ := Aside0.mk (Kd.R_below (by (with_reducible repeat (first | apply Kd.R_alloc | apply Kd.R_drewN | apply Kd.R_drew)); exact (Kd.R_mono (Kd.R_far (p := ⟨gb371, 1, none⟩) (Kd.R_far (p := ⟨gb371, 0, none⟩) (Kd.R_types HO_352001.out BK371.out (by decide)) (fun _ hk => hk.2) (.bool t366)) (fun _ hk => hk.2) (.slice Ao71 t367.length co71)) (fun _ h_ => h_.1))) hb); have n2_ := Aside0.mk (Kd.R_below (by (with_reducible repeat (first | apply Kd.R_alloc | apply Kd.R_drewN | apply Kd.R_drew)); exact (Kd.R_mono (Kd.R_far (p := ⟨gb371, 1, none⟩) (Kd.R_far (p := ⟨gb371, 0, none⟩) (Kd.R_types HO365.out BK371.out (by decide)) (fun _ hk => hk.2) (.bool t366)) (fun _ hk => hk.2) (.slice Ao71 t367.length co71)) (fun _ h_ => h_.1))) hb); have n3_ := Aside0.mk (Kd.R_below (by (with_reducible repeat (first | apply Kd.R_alloc | apply Kd.R_drewN | apply Kd.R_drew)); exact (Kd.R_mono (Kd.R_far (p := ⟨gb371, 1, none⟩) (Kd.R_far (p := ⟨gb371, 0, none⟩) (Kd.R_types HO369.out BK371.out (by decide)) (fun _ hk => hk.2) (.bool t366)) (fun _ hk => hk.2) (.slice Ao71 t367.length co71)) (fun _ h_ => h_.1))) hb); have n4_ := Aside0.mk (blk_below (g := gb342) (o := .cells #[.bool t337, .slice Ao13 t338.length co13] 29 (0, 0)) (by (with_reducible repeat (first | refine blk_drewN ?_ _ | refine blk_drew ?_ | refine blk_alloc ?_ _)); refine blk_far ?_ NB342_371.out _; (with_reducible repeat (first | refine blk_drewN ?_ _ | refine blk_drew ?_ | refine blk_alloc ?_ _)); refine blk_far ?_ NB342_371.out _; (with_reducible repeat (first | refine blk_drewN ?_ _ | refine blk_drew ?_ | refine blk_alloc ?_ _)); exact BK342.out) hb); have n5_ := Aside0.mk (blk_below (g := gb351) (o := .cells #[.bool t346, .slice Ao20 t347.length co20] 29 (0, 0)) (by (with_reducible repeat (first | refine blk_drewN ?_ _ | refine blk_drew ?_ | refine blk_alloc ?_ _)); refine blk_far ?_ NB351_371.out _; (with_reducible repeat (first | refine blk_drewN ?_ _ | refine blk_drew ?_ | refine blk_alloc ?_ _)); refine blk_far ?_ NB351_371.out _; (with_reducible repeat (first | refine blk_drewN ?_ _ | refine blk_drew ?_ | refine blk_alloc ?_ _)); exact BK351.out) hb); have n6_ := Aside0.mk (blk_below (g := gb371) (o := .cells #[.bool t366, .slice Ao71 t367.length co71] 29 (0, 0)) (by (with_reducible repeat (first | refine blk_drewN ?_ _ | refine blk_drew ?_ | refine blk_alloc ?_ _)); refine blk_put (cs := #[.bool t366, .slice none 0 0]) ?_ 1 _ rfl; (with_reducible repeat (first | refine blk_drewN ?_ _ | refine blk_drew ?_ | refine blk_alloc ?_ _)); refine blk_put (cs := #[.bool false, .slice none 0 0]) ?_ 0 _ rfl; (with_reducible repeat (first | refine blk_drewN ?_ _ | refine blk_drew ?_ | refine blk_alloc ?_ _)); exact BK371.out) hb); have n7_ := Aside0.mk (below_step (by repeat (first | (with_reducible first | exact HB.out | apply below_alloc | apply pw_below_drewN | apply below_drew1 | refine below_set ?_ GE342.out | refine below_set ?_ GE351.out | refine below_set ?_ GE371.out) | exact HB.out)) hb); clear HO_343001; clear HO_352001; clear HO365; clear HO369; clear BK342; clear BK351; clear BK371; clear HB; have HO_343001 := n0_; have HO_352001 := n1_; have HO365 := n2_; have HO369 := n3_; have BK342 := n4_; have BK351 := n5_; have BK371 := n6_; have HB := n7_; clear n0_ n1_ n2_ n3_ n4_ n5_ n6_ n7_; (try clear hb); (try clear hb2); (try clear hk); (try clear hi)))
             go_meet
             case rel => exact ⟨_, ((t370 != t341)), (by first | rfl | (simp; done) | (simp [*]; done)), H', ⟨by have := HJ6.out; have := HJ35.out; first | omega | exact Nat.le_refl _⟩, ⟨by (with_reducible repeat (first | apply Kd.R_alloc | apply Kd.R_drewN | apply Kd.R_drew)); exact HO_343001.out⟩, ⟨by (with_reducible repeat (first | apply Kd.R_alloc | apply Kd.R_drewN | apply Kd.R_drew)); exact HO_352001.out⟩, ⟨by (with_reducible repeat (first | apply Kd.R_alloc | apply Kd.R_drewN | apply Kd.R_drew)); exact Kd.R_mono HO369.out (fun _ hk => ⟨hk.1.2, hk.2⟩)⟩, ⟨by (with_reducible repeat (first | refine blk_drewN ?_ _ | refine blk_drew ?_ | refine blk_alloc ?_ _)); exact BK342.out⟩, ⟨by (with_reducible repeat (first | refine blk_drewN ?_ _ | refine blk_drew ?_ | refine blk_alloc ?_ _)); exact BK351.out⟩, ⟨by (with_reducible repeat (first | refine blk_drewN ?_ _ | refine blk_drew ?_ | refine blk_alloc ?_ _)); exact BK371.out⟩, ⟨by repeat (first | (with_reducible first | exact HB.out | apply below_alloc | apply pw_below_drewN | apply below_drew1 | refine below_set ?_ GE342.out | refine below_set ?_ GE351.out | refine below_set ?_ GE371.out) | exact HB.out)⟩⟩
            ·replace c73 := Bool.eq_false_iff.mpr c73
             subst c73
             have H1 : (laws_FnExactGetNode.j2 kj35 t360 true t346 t361) = some true := by rw [if_neg (show ¬ (false = true) by decide)] at H; exact H
             clear H
             have H := H1
             clear H1
             have H' := Aside0.mk H
             clear H
             have hnb80 := NB371_342.out
             have hnc80 := NB342_371.out
             have hnb81 := NB371_351.out
             have hnc81 := NB351_371.out
             have hcz82_0 : w67.cell? ⟨gb371, 0, none⟩ = some (.bool false) := (blk_cell BK371.out 0).trans rfl
             have hcz82_1 : w67.cell? ⟨gb371, 1, none⟩ = some (.slice none 0 0) := (blk_cell BK371.out 1).trans rfl
             have hfz82_0 := blk_frozen BK371.out 0
             have hfz82_1 := blk_frozen BK371.out 1
             have hnb83 := NB342_351.out
             have hnc83 := NB351_342.out
             have hcz84_0 : w67.cell? ⟨gb342, 0, none⟩ = some (.bool t337) := (blk_cell BK342.out 0).trans rfl
             have hcz84_1 : w67.cell? ⟨gb342, 1, none⟩ = some (.slice Ao13 t338.length co13) := (blk_cell BK342.out 1).trans rfl
             have hfz84_0 := blk_frozen BK342.out 0
             have hfz84_1 := blk_frozen BK342.out 1
             go_wp2_with (first | ((with_reducible refine gate_callee (f := 19) rfl ?_); refine goesL_ (some 78) rfl rfl Try.func19 (by kernel_rfl) rfl #[.agg #[.bool t366, .slice Ao71 t367.length co71], .agg #[.bool t337, .slice Ao13 t338.length co13]] rfl (by (try simp only [List.map_toArray, List.map_cons, List.map_nil]); first | done | rfl | (simp only [List.length_drop, List.length_take]; rfl)) ?_; (with_reducible refine (laws_eqNode.calls kj35 t366 _ _ t367 t337 _ _ t338 false _ ?side1 ?side2 ?side3 ?side4 A72.out).mono ?_); (case side1 => refine (Kd.R_reads' (e := 90) (base := w.heap.size) (ok := fun k_ => ((True ∧ some k_ ≠ (.slice Ao13 t338.length co13 : Value).ownBlock) ∧ some k_ ≠ (.slice Ao20 t347.length co20 : Value).ownBlock)) (n := t367.length) (c := co71) ?_).2.2; exact (by (with_reducible repeat (first | apply Kd.R_alloc | apply Kd.R_drewN | apply Kd.R_drew)); exact (Kd.R_mono (Kd.R_far (p := ⟨gb371, 1, none⟩) (Kd.R_far (p := ⟨gb371, 0, none⟩) (Kd.R_types HO369.out BK371.out (by decide)) (fun _ hk => hk.2) (.bool t366)) (fun _ hk => hk.2) (.slice Ao71 t367.length co71)) (fun _ h_ => h_.1)))); (case side2 => exact (Kd.R_reads' HO369.out).2.1); (case side3 => refine (Kd.R_reads' (e := 90) (base := w.heap.size) (ok := fun k_ => (some k_ ≠ (.slice Ao20 t347.length co20 : Value).ownBlock ∧ some k_ ≠ (.slice Ao71 t367.length co71 : Value).ownBlock)) (n := t338.length) (c := co13) ?_).2.2; exact (by (with_reducible repeat (first | apply Kd.R_alloc | apply Kd.R_drewN | apply Kd.R_drew)); exact (Kd.R_mono (Kd.R_far (p := ⟨gb371, 1, none⟩) (Kd.R_far (p := ⟨gb371, 0, none⟩) (Kd.R_types HO_343001.out BK371.out (by decide)) (fun _ hk => hk.2) (.bool t366)) (fun _ hk => hk.2) (.slice Ao71 t367.length co71)) (fun _ h_ => h_.1)))); (case side4 => exact (Kd.R_reads' HO_343001.out).2.1); rintro e w85 ⟨rfl, hb⟩; refine ⟨_, rfl, ?_⟩; have n0_ := Aside0.mk (Kd.R_below (by (with_reducible repeat (first | apply Kd.R_alloc | apply Kd.R_drewN | apply Kd.R_drew)); exact (Kd.R_mono (Kd.R_far (p := ⟨gb371, 1, none⟩) (Kd.R_far (p := ⟨gb371, 0, none⟩) (Kd.R_types HO_343001.out BK371.out (by decide)) (fun _ hk => hk.2) (.bool t366)) (fun _ hk => hk.2) (.slice Ao71 t367.length co71)) (fun _ h_ => h_.1))) hb); have n1_ := Aside0.mk (Kd.R_below (by (with_reducible repeat (first | apply Kd.R_alloc | apply Kd.R_drewN | apply Kd.R_drew)); exact (Kd.R_mono (Kd.R_far (p := ⟨gb371, 1, none⟩) (Kd.R_far (p := ⟨gb371, 0, none⟩) (Kd.R_types HO_352001.out BK371.out (by decide)) (fun _ hk => hk.2) (.bool t366)) (fun _ hk => hk.2) (.slice Ao71 t367.length co71)) (fun _ h_ => h_.1))) hb); have n2_ := Aside0.mk (Kd.R_below (by (with_reducible repeat (first | apply Kd.R_alloc | apply Kd.R_drewN | apply Kd.R_drew)); exact (Kd.R_mono (Kd.R_far (p := ⟨gb371, 1, none⟩) (Kd.R_far (p := ⟨gb371, 0, none⟩) (Kd.R_types HO365.out BK371.out (by decide)) (fun _ hk => hk.2) (.bool t366)) (fun _ hk => hk.2) (.slice Ao71 t367.length co71)) (fun _ h_ => h_.1))) hb); have n3_ := Aside0.mk (Kd.R_below (by (with_reducible repeat (first | apply Kd.R_alloc | apply Kd.R_drewN | apply Kd.R_drew)); exact (Kd.R_mono (Kd.R_far (p := ⟨gb371, 1, none⟩) (Kd.R_far (p := ⟨gb371, 0, none⟩) (Kd.R_types HO369.out BK371.out (by decide)) (fun _ hk => hk.2) (.bool t366)) (fun _ hk => hk.2) (.slice Ao71 t367.length co71)) (fun _ h_ => h_.1))) hb); have n4_ := Aside0.mk (blk_below (g := gb342) (o := .cells #[.bool t337, .slice Ao13 t338.length co13] 29 (0, 0)) (by (with_reducible repeat (first | refine blk_drewN ?_ _ | refine blk_drew ?_ | refine blk_alloc ?_ _)); refine blk_far ?_ NB342_371.out _; (with_reducible repeat (first | refine blk_drewN ?_ _ | refine blk_drew ?_ | refine blk_alloc ?_ _)); refine blk_far ?_ NB342_371.out _; (with_reducible repeat (first | refine blk_drewN ?_ _ | refine blk_drew ?_ | refine blk_alloc ?_ _)); exact BK342.out) hb); have n5_ := Aside0.mk (blk_below (g := gb351) (o := .cells #[.bool t346, .slice Ao20 t347.length co20] 29 (0, 0)) (by (with_reducible repeat (first | refine blk_drewN ?_ _ | refine blk_drew ?_ | refine blk_alloc ?_ _)); refine blk_far ?_ NB351_371.out _; (with_reducible repeat (first | refine blk_drewN ?_ _ | refine blk_drew ?_ | refine blk_alloc ?_ _)); refine blk_far ?_ NB351_371.out _; (with_reducible repeat (first | refine blk_drewN ?_ _ | refine blk_drew ?_ | refine blk_alloc ?_ _)); exact BK351.out) hb); have n6_ := Aside0.mk (blk_below (g := gb371) (o := .cells #[.bool t366, .slice Ao71 t367.length co71] 29 (0, 0)) (by (with_reducible repeat (first | refine blk_drewN ?_ _ | refine blk_drew ?_ | refine blk_alloc ?_ _)); refine blk_put (cs := #[.bool t366, .slice none 0 0]) ?_ 1 _ rfl; (with_reducible repeat (first | refine blk_drewN ?_ _ | refine blk_drew ?_ | refine blk_alloc ?_ _)); refine blk_put (cs := #[.bool false, .slice none 0 0]) ?_ 0 _ rfl; (with_reducible repeat (first | refine blk_drewN ?_ _ | refine blk_drew ?_ | refine blk_alloc ?_ _)); exact BK371.out) hb); have n7_ := Aside0.mk (below_step (by repeat (first | (with_reducible first | exact HB.out | apply below_alloc | apply pw_below_drewN | apply below_drew1 | refine below_set ?_ GE342.out | refine below_set ?_ GE351.out | refine below_set ?_ GE371.out) | exact HB.out)) hb); clear HO_343001; clear HO_352001; clear HO365; clear HO369; clear BK342; clear BK351; clear BK371; clear HB; have HO_343001 := n0_; have HO_352001 := n1_; have HO365 := n2_; have HO369 := n3_; have BK342 := n4_; have BK351 := n5_; have BK371 := n6_; have HB := n7_; clear n0_ n1_ n2_ n3_ n4_ n5_ n6_ n7_; (try clear hb); (try clear hb2); (try clear hk); (try clear hi)))
             go_meet
             case rel => exact ⟨_, (true), (by first | rfl | (simp; done) | (simp [*]; done)), H', ⟨by have := HJ6.out; have := HJ35.out; first | omega | exact Nat.le_refl _⟩, ⟨by (with_reducible repeat (first | apply Kd.R_alloc | apply Kd.R_drewN | apply Kd.R_drew)); exact HO_343001.out⟩, ⟨by (with_reducible repeat (first | apply Kd.R_alloc | apply Kd.R_drewN | apply Kd.R_drew)); exact HO_352001.out⟩, ⟨by (with_reducible repeat (first | apply Kd.R_alloc | apply Kd.R_drewN | apply Kd.R_drew)); exact Kd.R_mono HO369.out (fun _ hk => ⟨hk.1.2, hk.2⟩)⟩, ⟨by (with_reducible repeat (first | refine blk_drewN ?_ _ | refine blk_drew ?_ | refine blk_alloc ?_ _)); exact BK342.out⟩, ⟨by (with_reducible repeat (first | refine blk_drewN ?_ _ | refine blk_drew ?_ | refine blk_alloc ?_ _)); exact BK351.out⟩, ⟨by (with_reducible repeat (first | refine blk_drewN ?_ _ | refine blk_drew ?_ | refine blk_alloc ?_ _)); exact BK371.out⟩, ⟨by repeat (first | (with_reducible first | exact HB.out | apply below_alloc | apply pw_below_drewN | apply below_drew1 | refine below_set ?_ GE342.out | refine below_set ?_ GE351.out | refine below_set ?_ GE371.out) | exact HB.out)⟩⟩
           case rest =>
            clear HC58
            try clear c1
            try clear c2
            try clear c2b0
            try clear c2b1
            try clear p2
            try clear c3
            try clear c4
            try clear c5
            try clear c6
            try clear c7
            try clear c8
            try clear c11
            try clear c18
            try clear c19
            try clear c22
            try clear c23
            try clear c27
            try clear c31
            try clear c32
            try clear c34
            try clear c40
            try clear c40b0
            try clear c42
            try clear c43
            try clear c44
            try clear c45
            try clear c47
            try clear c49
            try clear c50
            try clear c51
            try clear c54
            try clear c54b0
            try clear c55
            try clear c55b0
            try clear c55b1
            try clear c59
            try clear c68
            try clear c69
            try clear c73
            try clear c74
            try clear c75
            try clear c77
            try clear c80
            try clear c81
            try clear c83
            try clear hcz12_0
            try clear hcz12_1
            try clear hcz19_0
            try clear hcz19_1
            try clear hcz24_0
            try clear hcz24_1
            try clear hcz25_0
            try clear hcz25_1
            try clear hcz28_0
            try clear hcz28_1
            try clear hcz29_0
            try clear hcz29_1
            try clear hcz44_0
            try clear hcz44_1
            try clear hcz45_0
            try clear hcz45_1
            try clear hcz48_0
            try clear hcz48_1
            try clear hcz49_0
            try clear hcz49_1
            try clear hcz60_0
            try clear hcz60_1
            try clear hcz62_0
            try clear hcz62_1
            try clear hcz70_0
            try clear hcz70_1
            try clear hcz76_0
            try clear hcz76_1
            try clear hcz78_0
            try clear hcz78_1
            try clear hcz82_0
            try clear hcz82_1
            try clear hcz84_0
            try clear hcz84_1
            try clear hfz12_0
            try clear hfz12_1
            try clear hfz19_0
            try clear hfz19_1
            try clear hfz24_0
            try clear hfz24_1
            try clear hfz25_0
            try clear hfz25_1
            try clear hfz28_0
            try clear hfz28_1
            try clear hfz29_0
            try clear hfz29_1
            try clear hfz44_0
            try clear hfz44_1
            try clear hfz45_0
            try clear hfz45_1
            try clear hfz48_0
            try clear hfz48_1
            try clear hfz49_0
            try clear hfz49_1
            try clear hfz60_0
            try clear hfz60_1
            try clear hfz62_0
            try clear hfz62_1
            try clear hfz70_0
            try clear hfz70_1
            try clear hfz76_0
            try clear hfz76_1
            try clear hfz78_0
            try clear hfz78_1
            try clear hfz82_0
            try clear hfz82_1
            try clear hfz84_0
            try clear hfz84_1
            try clear p2
            obtain ⟨kq, x84_57, rfl, HA, HJ57, HO_343001, HO_352001, HO_372001, BK342, BK351, BK371, HB⟩ := hcut
            have hl352001_57 := (Kd.R_reads' HO_352001.out).1
            rw [hl352001_57] at HO_352001
            (try simp only [hl352001_57])
            (try simp only [hl352001_57] at BK342)
            (try simp only [hl352001_57] at BK351)
            (try simp only [hl352001_57] at BK371)
            (try simp only [hl352001_57] at HO_343001)
            (try simp only [hl352001_57] at HO_372001)
            cases kq with
            | zero => exact absurd HA.out (by simp [laws_FnExactGetNode.j2])
            | succ kj57 =>
             have H := HA.out
             clear HA
             simp only [laws_FnExactGetNode.j2] at H
             by_cases c86 : x84_57 = true
             ·subst c86
              have H1 : (some false) = some true := by rw [if_pos rfl] at H; exact H
              clear H
              have H := H1
              clear H1
              exact absurd H (by simp)
             ·replace c86 := Bool.eq_false_iff.mpr c86
              subst c86
              have H1 : ((laws_heldNode.f kj57 t346 t361 1).bind fun t373 => (if t373 < 0 then (some false) else (if t373 = t360 then (some true) else (some false)))) = some true := by rw [if_neg (show ¬ (false = true) by decide)] at H; exact H
              clear H
              have H := H1
              clear H1
              replace H := Option.bind_eq_some_iff.mp H
              obtain ⟨t373, A870, H⟩ := H
              replace H : (if t373 < 0 then (some false) else (if t373 = t360 then (some true) else (some false))) = some true := H
              have A87 := Aside0.mk A870
              clear A870
              by_cases c88 : t373 < 0
              ·rw [if_pos c88] at H
               have c88b0 : decide (t373 < 0) = true := decide_eq_true c88
               clear c88
               exact absurd H (by simp)
              ·rw [if_neg c88] at H
               have c88b0 : decide (t373 < 0) = false := decide_eq_false c88
               clear c88
               by_cases c89 : t373 = t360
               ·rw [if_pos c89] at H
                have c89b0 : (t373 == t360) = true := beq_iff_eq.mpr c89
                have c89b1 : (t373 != t360) = false := bne_eq_false_iff_eq.mpr c89
                clear c89
                clear H
                have hnb90 := NB351_342.out
                have hnc90 := NB342_351.out
                have hnb91 := NB351_371.out
                have hnc91 := NB371_351.out
                have hcz92_0 : wc.cell? ⟨gb351, 0, none⟩ = some (.bool t346) := (blk_cell BK351.out 0).trans rfl
                have hcz92_1 : wc.cell? ⟨gb351, 1, none⟩ = some (.slice Ao20 t361.length co20) := (blk_cell BK351.out 1).trans rfl
                have hfz92_0 := blk_frozen BK351.out 0
                have hfz92_1 := blk_frozen BK351.out 1
                go_wp2_with (first | ((with_reducible refine gate_callee (f := 32) rfl ?_); refine goesL_ (some 87) rfl rfl Try.func32 (by kernel_rfl) rfl #[.agg #[.bool t346, .slice Ao20 t361.length co20], .int .i64 1] rfl (by (try simp only [List.map_toArray, List.map_cons, List.map_nil]); first | done | rfl | (simp only [List.length_drop, List.length_take]; rfl)) ?_; (with_reducible refine (laws_heldNode.calls kj57 t346 _ _ t361 1 t373 _ ?side1 ?side2 A87.out).mono ?_); (case side1 => repeat (first | exact (Kd.R_reads' HO_352001.out).2.2 | (with_reducible refine Kd.C_alloc ?_ _) | (with_reducible refine Kd.C_drewN ?_ _) | (with_reducible refine Kd.C_drew ?_))); (case side2 => exact (Kd.R_reads' HO_352001.out).2.1); rintro e w93 ⟨rfl, hb⟩; refine ⟨_, rfl, ?_⟩; have n0_ := Aside0.mk (Kd.R_below (by (with_reducible repeat (first | apply Kd.R_alloc | apply Kd.R_drewN | apply Kd.R_drew)); exact HO_343001.out) hb); have n1_ := Aside0.mk (Kd.R_below (by (with_reducible repeat (first | apply Kd.R_alloc | apply Kd.R_drewN | apply Kd.R_drew)); exact HO_352001.out) hb); have n2_ := Aside0.mk (Kd.R_below (by (with_reducible repeat (first | apply Kd.R_alloc | apply Kd.R_drewN | apply Kd.R_drew)); exact HO_372001.out) hb); have n3_ := Aside0.mk (blk_below (g := gb342) (o := .cells #[.bool t337, .slice Ao13 t338.length co13] 29 (0, 0)) (by (with_reducible repeat (first | refine blk_drewN ?_ _ | refine blk_drew ?_ | refine blk_alloc ?_ _)); exact BK342.out) hb); have n4_ := Aside0.mk (blk_below (g := gb351) (o := .cells #[.bool t346, .slice Ao20 t361.length co20] 29 (0, 0)) (by (with_reducible repeat (first | refine blk_drewN ?_ _ | refine blk_drew ?_ | refine blk_alloc ?_ _)); exact BK351.out) hb); have n5_ := Aside0.mk (blk_below (g := gb371) (o := .cells #[.bool t366, .slice Ao71 t367.length co71] 29 (0, 0)) (by (with_reducible repeat (first | refine blk_drewN ?_ _ | refine blk_drew ?_ | refine blk_alloc ?_ _)); exact BK371.out) hb); have n6_ := Aside0.mk (below_step (by repeat (first | (with_reducible first | exact HB.out | apply below_alloc | apply pw_below_drewN | apply below_drew1 | refine below_set ?_ GE342.out | refine below_set ?_ GE351.out | refine below_set ?_ GE371.out) | exact HB.out)) hb); clear HO_343001; clear HO_352001; clear HO_372001; clear BK342; clear BK351; clear BK371; clear HB; have HO_343001 := n0_; have HO_352001 := n1_; have HO_372001 := n2_; have BK342 := n3_; have BK351 := n4_; have BK371 := n5_; have HB := n6_; clear n0_ n1_ n2_ n3_ n4_ n5_ n6_; (try clear hb); (try clear hb2); (try clear hk); (try clear hi)))
                go_ret
                exact ⟨by first | rfl | (simp [errW_none, errW_some] <;> rfl) | (simp [*, errW_none, errW_some] <;> rfl), by repeat (first | (with_reducible first | exact HB.out | apply below_alloc | apply pw_below_drewN | apply below_drew1 | refine below_set ?_ GE342.out | refine below_set ?_ GE351.out | refine below_set ?_ GE371.out) | exact HB.out)⟩
               ·rw [if_neg c89] at H
                have c89b0 : (t373 == t360) = false := beq_eq_false_iff_ne.mpr c89
                have c89b1 : (t373 != t360) = true := bne_iff_ne.mpr c89
                exact absurd H (by simp)
          ·rw [if_neg c55] at H
           have c55b0 : (t362 == t360) = false := beq_eq_false_iff_ne.mpr c55
           have c55b1 : (t362 != t360) = true := bne_iff_ne.mpr c55
           exact absurd H (by simp)
     ·replace c34 := Bool.eq_false_iff.mpr c34
      subst c34
      have H1 : (some false) = some true := by rw [if_neg (show ¬ (false = true) by decide)] at H; exact H
      clear H
      have H := H1
      clear H1
      exact absurd H (by simp)

/-- THE ONE PURE STATEMENT of laws_FnExactGetNode: yours. -/
def laws_FnExactGetNode.Pure : Prop := ∀ (l0 : List Int), l0.length ≤ maxLen → l0.length * 1 ≤ 140737488351232 → (∀ x ∈ l0, (Lit.int .u8 x).wf = true) → ∃ k, laws_FnExactGetNode.f k l0 = some true
theorem laws_FnExactGetNode.walk (P : laws_FnExactGetNode.Pure) (a0 : Option Addr) (len0 cap0 : Nat) (z0 : List Int) (w : World) (w0 : (a0 = none ∧ len0 = 0 ∧ cap0 = 0 ∧ z0 = []) ∨ ∃ x, a0 = some x ∧ len0 ≤ cap0 ∧ cap0 ≤ maxLen ∧ z0.length = cap0 ∧ (∀ i, i < z0.length → w.cell? (x.add i) = some (.int .u8 (z0.getD i 0))) ∧ ∀ n ∈ z0, (Lit.int .u8 n).wf = true) (y0 : len0 * 1 ≤ 140737488351232) :
  Calls Try.prog 11 #[.slice a0 len0 cap0] w fun e w' => e = .returned (.bool true) ∧ Below w.heap.size w w' := by
 obtain ⟨l0, rfl, hr0, hm0, hw0, hc0⟩ := ReadsInt.ofRowC w0
 obtain ⟨k, h⟩ := P l0 hm0 y0 hw0
 refine (laws_FnExactGetNode.calls k _ _ l0 true w (Kd.C_of_reads (d := (0 : Int)) (h1 := fun _ => rfl) hr0) hc0 h).mono ?_
 rintro e w' ⟨rfl, hd⟩
 exact ⟨rfl, hd⟩

end Go.Proofs.Ytjmgomailgplcaa.PFnExactGetNode
-- halved
