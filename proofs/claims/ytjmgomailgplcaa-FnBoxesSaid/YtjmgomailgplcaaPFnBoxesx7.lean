-- Written by a program of this session; Lean checks it.
import Derived.Test.YtjmgomailgplcaaPFnBoxesx0
import Derived.Test.YtjmgomailgplcaaPFnBoxesx1
import Derived.Test.YtjmgomailgplcaaPFnBoxesx2
import Derived.Test.YtjmgomailgplcaaPFnBoxesx3
import Derived.Test.YtjmgomailgplcaaPFnBoxesx4
import Derived.Test.YtjmgomailgplcaaPFnBoxesx5
import Derived.Test.YtjmgomailgplcaaPFnBoxesx6
namespace Go.Proofs.Ytjmgomailgplcaa.PFnBoxes
open Go.RowKit Go.Proofs.YtjmgomailgplcaaW.PrintWords Go.Proofs.YtjmgomailgplcaaW.PrintLast Go.Proofs.YtjmgomailgplcaaW.PrintMore
attribute [local go_sem] max2_int min2_int max_two min_two max_three min_three max_four min_four   -- for this text's walks alone
set_option linter.unusedVariables false
set_option linter.unusedSimpArgs false

attribute [local go_sem high] eqA73
set_option maxHeartbeats 8000000 in
set_option maxRecDepth 100000 in
theorem laws_FnBoxes.calls (k : Nat) (A0 : Option Addr) (c0 : Nat) (l0 : List Int) (r : Bool) (w : World) (hr0 : Kd.C (Kd.int .u8) w A0 l0.length l0) (hc0 : l0.length ≤ c0) (h : laws_FnBoxes.f k l0 = some true) :
  Calls Try.prog 13 #[.slice A0 l0.length c0] w fun e w' => e = .returned (.bool true) ∧ Below w.heap.size w w' := by
 have hu73 := Try.underlying73
 have HR0 := Aside0.mk hr0
 have HC0 := Aside0.mk hc0
 clear hr0 hc0
 have HB := Aside0.mk (Below.refl w.heap.size w)
 have H := h; unfold laws_FnBoxes.f at H
 clear h
 replace H := Option.bind_eq_some_iff.mp H
 obtain ⟨t364, A20, H⟩ := H
 (try dsimp only at H)
 have A2 := Aside0.mk A20
 clear A20
 by_cases c3 : t364 = true
 ·subst c3
  have H1 : (some true) = some true := rfl
  clear H
  have H := H1
  clear H1
  clear H
  go_enter Try.func13, Try.ntmps13
  go_wp2_with (first | ((with_reducible refine gate_callee (f := 52) rfl ?_); refine goesL_ (some 16) rfl rfl Try.func52 (by kernel_rfl) rfl #[.slice A0 l0.length c0] rfl (by (try simp only [List.map_toArray, List.map_cons, List.map_nil]); first | done | rfl | (simp only [List.length_drop, List.length_take]; rfl)) ?_; (with_reducible refine (laws_big.calls _ _ l0 true _ ?side1 ?side2 A2.out).mono ?_); (case side1 => repeat (first | exact HR0.out | (with_reducible refine Kd.C_alloc ?_ _) | (with_reducible refine Kd.C_drewN ?_ _) | (with_reducible refine Kd.C_drew ?_))); (case side2 => exact HC0.out); rintro e w' ⟨rfl, ⟨nd, rfl⟩⟩; refine ⟨_, rfl, ?_⟩))
  go_ret
  exact ⟨by first | rfl | (rw [hrv_.out]; done) | (rw [hrv_.out]; rfl) | (have hrv1_ := hrv_.out; simp [hrv1_]; done) | (simp [errW_none, errW_some] <;> rfl) | (simp [*, errW_none, errW_some] <;> rfl), by repeat (first | (with_reducible first | exact HB.out | apply below_alloc | apply pw_below_drewN | apply below_drew1) | exact HB.out)⟩
 replace c3 := Bool.eq_false_iff.mpr c3
 subst c3
 rw [if_neg (show ¬ (false = true) by decide)] at H
 replace H := Option.bind_eq_some_iff.mp H
 obtain ⟨⟨t365, t366, t367, t368, t369, t370, t371, t372⟩, A40, H⟩ := H
 (try dsimp only at H)
 have A4 := Aside0.mk A40
 clear A40
 replace H := Option.bind_eq_some_iff.mp H
 obtain ⟨⟨t375, t376, t377, t378⟩, A50, H⟩ := H
 (try dsimp only at H)
 have A5 := Aside0.mk A50
 clear A50
 replace H := Option.bind_eq_some_iff.mp H
 obtain ⟨⟨t380, t381, t382, t383, t384, t385, t386, t387⟩, A60, H⟩ := H
 (try dsimp only at H)
 have A6 := Aside0.mk A60
 clear A60
 replace H := Option.bind_eq_some_iff.mp H
 obtain ⟨⟨t390, t391, t392, t393, t394, t395, t396, t397⟩, A70, H⟩ := H
 (try dsimp only at H)
 have A7 := Aside0.mk A70
 clear A70
 replace H := Option.bind_eq_some_iff.mp H
 obtain ⟨⟨t400, t401, t402, t403, t404, t405, t406, t407⟩, A80, H⟩ := H
 (try dsimp only at H)
 have A8 := Aside0.mk A80
 clear A80
 replace H := Option.bind_eq_some_iff.mp H
 obtain ⟨⟨t410, t411, t412, t413⟩, A90, H⟩ := H
 (try dsimp only at H)
 have A9 := Aside0.mk A90
 clear A90
 replace H := Option.bind_eq_some_iff.mp H
 obtain ⟨⟨t415, t416, t417, t418⟩, A100, H⟩ := H
 (try dsimp only at H)
 have A10 := Aside0.mk A100
 clear A100
 have HC11 := Aside0.mk H
 clear H
 go_enter Try.func13, Try.ntmps13
 go_upto_region 10 with (first | ((with_reducible refine gate_callee (f := 52) rfl ?_); refine goesL_ (some 16) rfl rfl Try.func52 (by kernel_rfl) rfl #[.slice A0 l0.length c0] rfl (by (try simp only [List.map_toArray, List.map_cons, List.map_nil]); first | done | rfl | (simp only [List.length_drop, List.length_take]; rfl)) ?_; (with_reducible refine (laws_big.calls _ _ l0 false _ ?side1 ?side2 A2.out).mono ?_); (case side1 => repeat (first | exact HR0.out | (with_reducible refine Kd.C_alloc ?_ _) | (with_reducible refine Kd.C_drewN ?_ _) | (with_reducible refine Kd.C_drew ?_))); (case side2 => exact HC0.out); rintro e w' ⟨rfl, ⟨nd, rfl⟩⟩; refine ⟨_, rfl, ?_⟩) | ((with_reducible refine gate_callee (f := 63) rfl ?_); refine goesL_ (some 19) rfl rfl Try.func63 (by kernel_rfl) rfl #[.slice A0 l0.length c0] rfl (by (try simp only [List.map_toArray, List.map_cons, List.map_nil]); first | done | rfl | (simp only [List.length_drop, List.length_take]; rfl)) ?_; (with_reducible refine (spec_DrawJoin.calls k _ _ l0 t365 t366 t367 t368 t369 t370 t371 t372 _ ?side1 ?side2 A4.out).mono ?_); (case side1 => repeat (first | exact HR0.out | (with_reducible refine Kd.C_alloc ?_ _) | (with_reducible refine Kd.C_drewN ?_ _) | (with_reducible refine Kd.C_drew ?_))); (case side2 => exact HC0.out); rintro e w12 ⟨rfl, hb⟩; refine ⟨_, rfl, ?_⟩; replace HB := Aside0.mk (below_step (by repeat (first | (with_reducible first | exact HB.out | apply below_alloc | apply pw_below_drewN | apply below_drew1) | exact HB.out)) hb); (try clear hb); (try clear hb2); (try clear hk); (try clear hi)) | ((with_reducible refine gate_dst (N := 3) rfl ?_); refine box_event ?hg (N := 3) ?hd (cs := #[.int .i64 0, .int .i64 0, .int .i64 0, .int .i64 0]) (t := 73) ?hr ?_; (case hd => rfl); (case hg => rfl); (case hr => first | (go_simp; done) | (go_simp; rfl)); intro gb373 hg w13 hbox hb; have BK373 := Aside0.mk (hbox); have GW373 := Aside0.mk ((by rw [hg]; exact (below_size (by repeat (first | (with_reducible first | exact HB.out | apply below_alloc | apply pw_below_drewN | apply below_drew1) | exact HB.out))) : w.heap.size ≤ gb373)); have GE373 := Aside0.mk ((by rw [hg]; exact (below_size (by repeat (first | (with_reducible first | exact HB.out | apply below_alloc | apply pw_below_drewN | apply below_drew1) | exact HB.out))) : w.heap.size ≤ gb373)); replace HB := Aside0.mk (below_step (by repeat (first | (with_reducible first | exact HB.out | apply below_alloc | apply pw_below_drewN | apply below_drew1) | exact HB.out)) hb); clear hb hbox hg) | ((with_reducible refine gate_dst (N := 4) rfl ?_); refine box_event ?hg (N := 4) ?hd (cs := #[.int .i64 0, .int .i64 0, .int .i64 0, .int .i64 0]) (t := 73) ?hr ?_; (case hd => rfl); (case hg => rfl); (case hr => first | (go_simp; done) | (go_simp; rfl)); intro gb374 hg w14 hbox hb; have BK374 := Aside0.mk (hbox); have GW374 := Aside0.mk ((by rw [hg]; exact (below_size (by repeat (first | (with_reducible first | exact HB.out | apply below_alloc | apply pw_below_drewN | apply below_drew1 | refine below_set ?_ GE373.out) | exact HB.out))) : w.heap.size ≤ gb374)); have GE374 := Aside0.mk ((by rw [hg]; exact (below_size (by repeat (first | (with_reducible first | exact HB.out | apply below_alloc | apply pw_below_drewN | apply below_drew1 | refine below_set ?_ GE373.out) | exact HB.out))) : w.heap.size ≤ gb374)); have NB373_374 := Aside0.mk ((by rw [hg]; exact Nat.ne_of_lt (blk_lt BK373.out) : gb373 ≠ gb374)); have NB374_373 := Aside0.mk ((by rw [hg]; exact Nat.ne_of_gt (blk_lt BK373.out) : gb374 ≠ gb373)); replace BK373 := Aside0.mk (blk_below BK373.out hb); replace HB := Aside0.mk (below_step (by repeat (first | (with_reducible first | exact HB.out | apply below_alloc | apply pw_below_drewN | apply below_drew1 | refine below_set ?_ GE373.out) | exact HB.out)) hb); clear hb hbox hg; have hnb15 := NB373_374.out; have hnc15 := NB374_373.out; have hcz16_0 : w14.cell? ⟨gb373, 0, none⟩ = some (.int .i64 0) := (blk_cell BK373.out 0).trans rfl; have hcz16_1 : w14.cell? ⟨gb373, 1, none⟩ = some (.int .i64 0) := (blk_cell BK373.out 1).trans rfl; have hcz16_2 : w14.cell? ⟨gb373, 2, none⟩ = some (.int .i64 0) := (blk_cell BK373.out 2).trans rfl; have hcz16_3 : w14.cell? ⟨gb373, 3, none⟩ = some (.int .i64 0) := (blk_cell BK373.out 3).trans rfl; have hfz16_0 := blk_frozen BK373.out 0; have hfz16_1 := blk_frozen BK373.out 1; have hfz16_2 := blk_frozen BK373.out 2; have hfz16_3 := blk_frozen BK373.out 3; have hcz17_0 : w14.cell? ⟨gb374, 0, none⟩ = some (.int .i64 0) := (blk_cell BK374.out 0).trans rfl; have hcz17_1 : w14.cell? ⟨gb374, 1, none⟩ = some (.int .i64 0) := (blk_cell BK374.out 1).trans rfl; have hcz17_2 : w14.cell? ⟨gb374, 2, none⟩ = some (.int .i64 0) := (blk_cell BK374.out 2).trans rfl; have hcz17_3 : w14.cell? ⟨gb374, 3, none⟩ = some (.int .i64 0) := (blk_cell BK374.out 3).trans rfl; have hfz17_0 := blk_frozen BK374.out 0; have hfz17_1 := blk_frozen BK374.out 1; have hfz17_2 := blk_frozen BK374.out 2; have hfz17_3 := blk_frozen BK374.out 3) | ((with_reducible refine gate_callee (f := 64) rfl ?_); refine goesL_ (some 24) rfl rfl Try.func64 (by kernel_rfl) rfl #[.agg #[.int .i64 t365, .int .i64 t366, .int .i64 t367, .int .i64 t368], .agg #[.int .i64 t369, .int .i64 t370, .int .i64 t371, .int .i64 t372]] rfl (by (try simp only [List.map_toArray, List.map_cons, List.map_nil]); first | done | rfl | (simp only [List.length_drop, List.length_take]; rfl)) ?_; (with_reducible refine (impl_Join.calls t365 t366 t367 t368 t369 t370 t371 t372 t375 t376 t377 t378 _ A5.out).mono ?_); rintro e w18 ⟨rfl, hb⟩; refine ⟨_, rfl, ?_⟩; replace BK373 := Aside0.mk (blk_below (g := gb373) (o := .cells #[.int .i64 t365, .int .i64 t366, .int .i64 t367, .int .i64 t368] 73 (0, 0)) (by refine blk_far ?_ NB373_374.out _; refine blk_far ?_ NB373_374.out _; refine blk_far ?_ NB373_374.out _; refine blk_far ?_ NB373_374.out _; refine blk_put (cs := #[.int .i64 t365, .int .i64 t366, .int .i64 t367, .int .i64 0]) ?_ 3 _ rfl; refine blk_put (cs := #[.int .i64 t365, .int .i64 t366, .int .i64 0, .int .i64 0]) ?_ 2 _ rfl; refine blk_put (cs := #[.int .i64 t365, .int .i64 0, .int .i64 0, .int .i64 0]) ?_ 1 _ rfl; refine blk_put (cs := #[.int .i64 0, .int .i64 0, .int .i64 0, .int .i64 0]) ?_ 0 _ rfl; exact BK373.out) hb); replace BK374 := Aside0.mk (blk_below (g := gb374) (o := .cells #[.int .i64 t369, .int .i64 t370, .int .i64 t371, .int .i64 t372] 73 (0, 0)) (by refine blk_put (cs := #[.int .i64 t369, .int .i64 t370, .int .i64 t371, .int .i64 0]) ?_ 3 _ rfl; refine blk_put (cs := #[.int .i64 t369, .int .i64 t370, .int .i64 0, .int .i64 0]) ?_ 2 _ rfl; refine blk_put (cs := #[.int .i64 t369, .int .i64 0, .int .i64 0, .int .i64 0]) ?_ 1 _ rfl; refine blk_put (cs := #[.int .i64 0, .int .i64 0, .int .i64 0, .int .i64 0]) ?_ 0 _ rfl; refine blk_far ?_ NB374_373.out _; refine blk_far ?_ NB374_373.out _; refine blk_far ?_ NB374_373.out _; refine blk_far ?_ NB374_373.out _; exact BK374.out) hb); replace HB := Aside0.mk (below_step (by repeat (first | (with_reducible first | exact HB.out | apply below_alloc | apply pw_below_drewN | apply below_drew1 | refine below_set ?_ GE373.out | refine below_set ?_ GE374.out) | exact HB.out)) hb); (try clear hb); (try clear hb2); (try clear hk); (try clear hi)) | ((with_reducible refine gate_dst (N := 5) rfl ?_); refine box_event ?hg (N := 5) ?hd (cs := #[.int .i64 0, .int .i64 0, .int .i64 0, .int .i64 0]) (t := 73) ?hr ?_; (case hd => rfl); (case hg => rfl); (case hr => first | (go_simp; done) | (go_simp; rfl)); intro gb379 hg w19 hbox hb; have BK379 := Aside0.mk (hbox); have GW379 := Aside0.mk ((by rw [hg]; exact (below_size (by repeat (first | (with_reducible first | exact HB.out | apply below_alloc | apply pw_below_drewN | apply below_drew1 | refine below_set ?_ GE373.out | refine below_set ?_ GE374.out) | exact HB.out))) : w.heap.size ≤ gb379)); have GE379 := Aside0.mk ((by rw [hg]; exact (below_size (by repeat (first | (with_reducible first | exact HB.out | apply below_alloc | apply pw_below_drewN | apply below_drew1 | refine below_set ?_ GE373.out | refine below_set ?_ GE374.out) | exact HB.out))) : w.heap.size ≤ gb379)); have NB373_379 := Aside0.mk ((by rw [hg]; exact Nat.ne_of_lt (blk_lt BK373.out) : gb373 ≠ gb379)); have NB379_373 := Aside0.mk ((by rw [hg]; exact Nat.ne_of_gt (blk_lt BK373.out) : gb379 ≠ gb373)); have NB374_379 := Aside0.mk ((by rw [hg]; exact Nat.ne_of_lt (blk_lt BK374.out) : gb374 ≠ gb379)); have NB379_374 := Aside0.mk ((by rw [hg]; exact Nat.ne_of_gt (blk_lt BK374.out) : gb379 ≠ gb374)); replace BK373 := Aside0.mk (blk_below BK373.out hb); replace BK374 := Aside0.mk (blk_below BK374.out hb); replace HB := Aside0.mk (below_step (by repeat (first | (with_reducible first | exact HB.out | apply below_alloc | apply pw_below_drewN | apply below_drew1 | refine below_set ?_ GE373.out | refine below_set ?_ GE374.out) | exact HB.out)) hb); clear hb hbox hg; have hnb20 := NB379_373.out; have hnc20 := NB373_379.out; have hnb21 := NB379_374.out; have hnc21 := NB374_379.out; have hcz22_0 : w19.cell? ⟨gb379, 0, none⟩ = some (.int .i64 0) := (blk_cell BK379.out 0).trans rfl; have hcz22_1 : w19.cell? ⟨gb379, 1, none⟩ = some (.int .i64 0) := (blk_cell BK379.out 1).trans rfl; have hcz22_2 : w19.cell? ⟨gb379, 2, none⟩ = some (.int .i64 0) := (blk_cell BK379.out 2).trans rfl; have hcz22_3 : w19.cell? ⟨gb379, 3, none⟩ = some (.int .i64 0) := (blk_cell BK379.out 3).trans rfl; have hfz22_0 := blk_frozen BK379.out 0; have hfz22_1 := blk_frozen BK379.out 1; have hfz22_2 := blk_frozen BK379.out 2; have hfz22_3 := blk_frozen BK379.out 3) | ((with_reducible refine gate_callee (f := 65) rfl ?_); refine goesL_ (some 27) rfl rfl Try.func65 (by kernel_rfl) rfl #[.slice A0 l0.length c0] rfl (by (try simp only [List.map_toArray, List.map_cons, List.map_nil]); first | done | rfl | (simp only [List.length_drop, List.length_take]; rfl)) ?_; (with_reducible refine (spec_DrawMeets.calls k _ _ l0 t380 t381 t382 t383 t384 t385 t386 t387 _ ?side1 ?side2 A6.out).mono ?_); (case side1 => exact Kd.C_below HR0.out (by repeat (first | (with_reducible first | exact HB.out | apply below_alloc | apply pw_below_drewN | apply below_drew1 | refine below_set ?_ GE373.out | refine below_set ?_ GE374.out | refine below_set ?_ GE379.out) | exact HB.out))); (case side2 => exact HC0.out); rintro e w23 ⟨rfl, hb⟩; refine ⟨_, rfl, ?_⟩; replace BK373 := Aside0.mk (blk_below (g := gb373) (o := .cells #[.int .i64 t365, .int .i64 t366, .int .i64 t367, .int .i64 t368] 73 (0, 0)) (blk_far (blk_far (blk_far (blk_far BK373.out NB373_379.out _) NB373_379.out _) NB373_379.out _) NB373_379.out _) hb); replace BK374 := Aside0.mk (blk_below (g := gb374) (o := .cells #[.int .i64 t369, .int .i64 t370, .int .i64 t371, .int .i64 t372] 73 (0, 0)) (blk_far (blk_far (blk_far (blk_far BK374.out NB374_379.out _) NB374_379.out _) NB374_379.out _) NB374_379.out _) hb); replace BK379 := Aside0.mk (blk_below (g := gb379) (o := .cells #[.int .i64 t375, .int .i64 t376, .int .i64 t377, .int .i64 t378] 73 (0, 0)) (by refine blk_put (cs := #[.int .i64 t375, .int .i64 t376, .int .i64 t377, .int .i64 0]) ?_ 3 _ rfl; refine blk_put (cs := #[.int .i64 t375, .int .i64 t376, .int .i64 0, .int .i64 0]) ?_ 2 _ rfl; refine blk_put (cs := #[.int .i64 t375, .int .i64 0, .int .i64 0, .int .i64 0]) ?_ 1 _ rfl; refine blk_put (cs := #[.int .i64 0, .int .i64 0, .int .i64 0, .int .i64 0]) ?_ 0 _ rfl; exact BK379.out) hb); replace HB := Aside0.mk (below_step (by repeat (first | (with_reducible first | exact HB.out | apply below_alloc | apply pw_below_drewN | apply below_drew1 | refine below_set ?_ GE373.out | refine below_set ?_ GE374.out | refine below_set ?_ GE379.out) | exact HB.out)) hb); (try clear hb); (try clear hb2); (try clear hk); (try clear hi)) | ((with_reducible refine gate_dst (N := 6) rfl ?_); refine box_event ?hg (N := 6) ?hd (cs := #[.int .i64 0, .int .i64 0, .int .i64 0, .int .i64 0]) (t := 73) ?hr ?_; (case hd => rfl); (case hg => rfl); (case hr => first | (go_simp; done) | (go_simp; rfl)); intro gb388 hg w24 hbox hb; have BK388 := Aside0.mk (hbox); have GW388 := Aside0.mk ((by rw [hg]; exact (below_size (by repeat (first | (with_reducible first | exact HB.out | apply below_alloc | apply pw_below_drewN | apply below_drew1 | refine below_set ?_ GE373.out | refine below_set ?_ GE374.out | refine below_set ?_ GE379.out) | exact HB.out))) : w.heap.size ≤ gb388)); have GE388 := Aside0.mk ((by rw [hg]; exact (below_size (by repeat (first | (with_reducible first | exact HB.out | apply below_alloc | apply pw_below_drewN | apply below_drew1 | refine below_set ?_ GE373.out | refine below_set ?_ GE374.out | refine below_set ?_ GE379.out) | exact HB.out))) : w.heap.size ≤ gb388)); have NB373_388 := Aside0.mk ((by rw [hg]; exact Nat.ne_of_lt (blk_lt BK373.out) : gb373 ≠ gb388)); have NB388_373 := Aside0.mk ((by rw [hg]; exact Nat.ne_of_gt (blk_lt BK373.out) : gb388 ≠ gb373)); have NB374_388 := Aside0.mk ((by rw [hg]; exact Nat.ne_of_lt (blk_lt BK374.out) : gb374 ≠ gb388)); have NB388_374 := Aside0.mk ((by rw [hg]; exact Nat.ne_of_gt (blk_lt BK374.out) : gb388 ≠ gb374)); have NB379_388 := Aside0.mk ((by rw [hg]; exact Nat.ne_of_lt (blk_lt BK379.out) : gb379 ≠ gb388)); have NB388_379 := Aside0.mk ((by rw [hg]; exact Nat.ne_of_gt (blk_lt BK379.out) : gb388 ≠ gb379)); replace BK373 := Aside0.mk (blk_below BK373.out hb); replace BK374 := Aside0.mk (blk_below BK374.out hb); replace BK379 := Aside0.mk (blk_below BK379.out hb); replace HB := Aside0.mk (below_step (by repeat (first | (with_reducible first | exact HB.out | apply below_alloc | apply pw_below_drewN | apply below_drew1 | refine below_set ?_ GE373.out | refine below_set ?_ GE374.out | refine below_set ?_ GE379.out) | exact HB.out)) hb); clear hb hbox hg) | ((with_reducible refine gate_dst (N := 7) rfl ?_); refine box_event ?hg (N := 7) ?hd (cs := #[.int .i64 0, .int .i64 0, .int .i64 0, .int .i64 0]) (t := 73) ?hr ?_; (case hd => rfl); (case hg => rfl); (case hr => first | (go_simp; done) | (go_simp; rfl)); intro gb389 hg w25 hbox hb; have BK389 := Aside0.mk (hbox); have GW389 := Aside0.mk ((by rw [hg]; exact (below_size (by repeat (first | (with_reducible first | exact HB.out | apply below_alloc | apply pw_below_drewN | apply below_drew1 | refine below_set ?_ GE373.out | refine below_set ?_ GE374.out | refine below_set ?_ GE379.out | refine below_set ?_ GE388.out) | exact HB.out))) : w.heap.size ≤ gb389)); have GE389 := Aside0.mk ((by rw [hg]; exact (below_size (by repeat (first | (with_reducible first | exact HB.out | apply below_alloc | apply pw_below_drewN | apply below_drew1 | refine below_set ?_ GE373.out | refine below_set ?_ GE374.out | refine below_set ?_ GE379.out | refine below_set ?_ GE388.out) | exact HB.out))) : w.heap.size ≤ gb389)); have NB373_389 := Aside0.mk ((by rw [hg]; exact Nat.ne_of_lt (blk_lt BK373.out) : gb373 ≠ gb389)); have NB389_373 := Aside0.mk ((by rw [hg]; exact Nat.ne_of_gt (blk_lt BK373.out) : gb389 ≠ gb373)); have NB374_389 := Aside0.mk ((by rw [hg]; exact Nat.ne_of_lt (blk_lt BK374.out) : gb374 ≠ gb389)); have NB389_374 := Aside0.mk ((by rw [hg]; exact Nat.ne_of_gt (blk_lt BK374.out) : gb389 ≠ gb374)); have NB379_389 := Aside0.mk ((by rw [hg]; exact Nat.ne_of_lt (blk_lt BK379.out) : gb379 ≠ gb389)); have NB389_379 := Aside0.mk ((by rw [hg]; exact Nat.ne_of_gt (blk_lt BK379.out) : gb389 ≠ gb379)); have NB388_389 := Aside0.mk ((by rw [hg]; exact Nat.ne_of_lt (blk_lt BK388.out) : gb388 ≠ gb389)); have NB389_388 := Aside0.mk ((by rw [hg]; exact Nat.ne_of_gt (blk_lt BK388.out) : gb389 ≠ gb388)); replace BK373 := Aside0.mk (blk_below BK373.out hb); replace BK374 := Aside0.mk (blk_below BK374.out hb); replace BK379 := Aside0.mk (blk_below BK379.out hb); replace BK388 := Aside0.mk (blk_below BK388.out hb); replace HB := Aside0.mk (below_step (by repeat (first | (with_reducible first | exact HB.out | apply below_alloc | apply pw_below_drewN | apply below_drew1 | refine below_set ?_ GE373.out | refine below_set ?_ GE374.out | refine below_set ?_ GE379.out | refine below_set ?_ GE388.out) | exact HB.out)) hb); clear hb hbox hg; have hnb26 := NB388_373.out; have hnc26 := NB373_388.out; have hnb27 := NB388_374.out; have hnc27 := NB374_388.out; have hnb28 := NB388_379.out; have hnc28 := NB379_388.out; have hnb29 := NB388_389.out; have hnc29 := NB389_388.out; have hcz30_0 : w25.cell? ⟨gb388, 0, none⟩ = some (.int .i64 0) := (blk_cell BK388.out 0).trans rfl; have hcz30_1 : w25.cell? ⟨gb388, 1, none⟩ = some (.int .i64 0) := (blk_cell BK388.out 1).trans rfl; have hcz30_2 : w25.cell? ⟨gb388, 2, none⟩ = some (.int .i64 0) := (blk_cell BK388.out 2).trans rfl; have hcz30_3 : w25.cell? ⟨gb388, 3, none⟩ = some (.int .i64 0) := (blk_cell BK388.out 3).trans rfl; have hfz30_0 := blk_frozen BK388.out 0; have hfz30_1 := blk_frozen BK388.out 1; have hfz30_2 := blk_frozen BK388.out 2; have hfz30_3 := blk_frozen BK388.out 3; have hnb31 := NB389_373.out; have hnc31 := NB373_389.out; have hnb32 := NB389_374.out; have hnc32 := NB374_389.out; have hnb33 := NB389_379.out; have hnc33 := NB379_389.out; have hcz34_0 : w25.cell? ⟨gb389, 0, none⟩ = some (.int .i64 0) := (blk_cell BK389.out 0).trans rfl; have hcz34_1 : w25.cell? ⟨gb389, 1, none⟩ = some (.int .i64 0) := (blk_cell BK389.out 1).trans rfl; have hcz34_2 : w25.cell? ⟨gb389, 2, none⟩ = some (.int .i64 0) := (blk_cell BK389.out 2).trans rfl; have hcz34_3 : w25.cell? ⟨gb389, 3, none⟩ = some (.int .i64 0) := (blk_cell BK389.out 3).trans rfl; have hfz34_0 := blk_frozen BK389.out 0; have hfz34_1 := blk_frozen BK389.out 1; have hfz34_2 := blk_frozen BK389.out 2; have hfz34_3 := blk_frozen BK389.out 3) | ((with_reducible refine gate_callee (f := 66) rfl ?_); refine goesL_ (some 32) rfl rfl Try.func66 (by kernel_rfl) rfl #[.slice A0 l0.length c0] rfl (by (try simp only [List.map_toArray, List.map_cons, List.map_nil]); first | done | rfl | (simp only [List.length_drop, List.length_take]; rfl)) ?_; (with_reducible refine (spec_DrawHolds.calls k _ _ l0 t390 t391 t392 t393 t394 t395 t396 t397 _ ?side1 ?side2 A7.out).mono ?_); (case side1 => exact Kd.C_below HR0.out (by repeat (first | (with_reducible first | exact HB.out | apply below_alloc | apply pw_below_drewN | apply below_drew1 | refine below_set ?_ GE373.out | refine below_set ?_ GE374.out | refine below_set ?_ GE379.out | refine below_set ?_ GE388.out | refine below_set ?_ GE389.out) | exact HB.out))); (case side2 => exact HC0.out); rintro e w35 ⟨rfl, hb⟩; refine ⟨_, rfl, ?_⟩; replace BK373 := Aside0.mk (blk_below (g := gb373) (o := .cells #[.int .i64 t365, .int .i64 t366, .int .i64 t367, .int .i64 t368] 73 (0, 0)) (blk_far (blk_far (blk_far (blk_far (blk_far (blk_far (blk_far (blk_far BK373.out NB373_388.out _) NB373_388.out _) NB373_388.out _) NB373_388.out _) NB373_389.out _) NB373_389.out _) NB373_389.out _) NB373_389.out _) hb); replace BK374 := Aside0.mk (blk_below (g := gb374) (o := .cells #[.int .i64 t369, .int .i64 t370, .int .i64 t371, .int .i64 t372] 73 (0, 0)) (blk_far (blk_far (blk_far (blk_far (blk_far (blk_far (blk_far (blk_far BK374.out NB374_388.out _) NB374_388.out _) NB374_388.out _) NB374_388.out _) NB374_389.out _) NB374_389.out _) NB374_389.out _) NB374_389.out _) hb); replace BK379 := Aside0.mk (blk_below (g := gb379) (o := .cells #[.int .i64 t375, .int .i64 t376, .int .i64 t377, .int .i64 t378] 73 (0, 0)) (blk_far (blk_far (blk_far (blk_far (blk_far (blk_far (blk_far (blk_far BK379.out NB379_388.out _) NB379_388.out _) NB379_388.out _) NB379_388.out _) NB379_389.out _) NB379_389.out _) NB379_389.out _) NB379_389.out _) hb); replace BK388 := Aside0.mk (blk_below (g := gb388) (o := .cells #[.int .i64 t380, .int .i64 t381, .int .i64 t382, .int .i64 t383] 73 (0, 0)) (by refine blk_far ?_ NB388_389.out _; refine blk_far ?_ NB388_389.out _; refine blk_far ?_ NB388_389.out _; refine blk_far ?_ NB388_389.out _; refine blk_put (cs := #[.int .i64 t380, .int .i64 t381, .int .i64 t382, .int .i64 0]) ?_ 3 _ rfl; refine blk_put (cs := #[.int .i64 t380, .int .i64 t381, .int .i64 0, .int .i64 0]) ?_ 2 _ rfl; refine blk_put (cs := #[.int .i64 t380, .int .i64 0, .int .i64 0, .int .i64 0]) ?_ 1 _ rfl; refine blk_put (cs := #[.int .i64 0, .int .i64 0, .int .i64 0, .int .i64 0]) ?_ 0 _ rfl; exact BK388.out) hb); replace BK389 := Aside0.mk (blk_below (g := gb389) (o := .cells #[.int .i64 t384, .int .i64 t385, .int .i64 t386, .int .i64 t387] 73 (0, 0)) (by refine blk_put (cs := #[.int .i64 t384, .int .i64 t385, .int .i64 t386, .int .i64 0]) ?_ 3 _ rfl; refine blk_put (cs := #[.int .i64 t384, .int .i64 t385, .int .i64 0, .int .i64 0]) ?_ 2 _ rfl; refine blk_put (cs := #[.int .i64 t384, .int .i64 0, .int .i64 0, .int .i64 0]) ?_ 1 _ rfl; refine blk_put (cs := #[.int .i64 0, .int .i64 0, .int .i64 0, .int .i64 0]) ?_ 0 _ rfl; refine blk_far ?_ NB389_388.out _; refine blk_far ?_ NB389_388.out _; refine blk_far ?_ NB389_388.out _; refine blk_far ?_ NB389_388.out _; exact BK389.out) hb); replace HB := Aside0.mk (below_step (by repeat (first | (with_reducible first | exact HB.out | apply below_alloc | apply pw_below_drewN | apply below_drew1 | refine below_set ?_ GE373.out | refine below_set ?_ GE374.out | refine below_set ?_ GE379.out | refine below_set ?_ GE388.out | refine below_set ?_ GE389.out) | exact HB.out)) hb); (try clear hb); (try clear hb2); (try clear hk); (try clear hi)) | ((with_reducible refine gate_dst (N := 8) rfl ?_); refine box_event ?hg (N := 8) ?hd (cs := #[.int .i64 0, .int .i64 0, .int .i64 0, .int .i64 0]) (t := 73) ?hr ?_; (case hd => rfl); (case hg => rfl); (case hr => first | (go_simp; done) | (go_simp; rfl)); intro gb398 hg w36 hbox hb; have BK398 := Aside0.mk (hbox); have GW398 := Aside0.mk ((by rw [hg]; exact (below_size (by repeat (first | (with_reducible first | exact HB.out | apply below_alloc | apply pw_below_drewN | apply below_drew1 | refine below_set ?_ GE373.out | refine below_set ?_ GE374.out | refine below_set ?_ GE379.out | refine below_set ?_ GE388.out | refine below_set ?_ GE389.out) | exact HB.out))) : w.heap.size ≤ gb398)); have GE398 := Aside0.mk ((by rw [hg]; exact (below_size (by repeat (first | (with_reducible first | exact HB.out | apply below_alloc | apply pw_below_drewN | apply below_drew1 | refine below_set ?_ GE373.out | refine below_set ?_ GE374.out | refine below_set ?_ GE379.out | refine below_set ?_ GE388.out | refine below_set ?_ GE389.out) | exact HB.out))) : w.heap.size ≤ gb398)); have NB373_398 := Aside0.mk ((by rw [hg]; exact Nat.ne_of_lt (blk_lt BK373.out) : gb373 ≠ gb398)); have NB398_373 := Aside0.mk ((by rw [hg]; exact Nat.ne_of_gt (blk_lt BK373.out) : gb398 ≠ gb373)); have NB374_398 := Aside0.mk ((by rw [hg]; exact Nat.ne_of_lt (blk_lt BK374.out) : gb374 ≠ gb398)); have NB398_374 := Aside0.mk ((by rw [hg]; exact Nat.ne_of_gt (blk_lt BK374.out) : gb398 ≠ gb374)); have NB379_398 := Aside0.mk ((by rw [hg]; exact Nat.ne_of_lt (blk_lt BK379.out) : gb379 ≠ gb398)); have NB398_379 := Aside0.mk ((by rw [hg]; exact Nat.ne_of_gt (blk_lt BK379.out) : gb398 ≠ gb379)); have NB388_398 := Aside0.mk ((by rw [hg]; exact Nat.ne_of_lt (blk_lt BK388.out) : gb388 ≠ gb398)); have NB398_388 := Aside0.mk ((by rw [hg]; exact Nat.ne_of_gt (blk_lt BK388.out) : gb398 ≠ gb388)); have NB389_398 := Aside0.mk ((by rw [hg]; exact Nat.ne_of_lt (blk_lt BK389.out) : gb389 ≠ gb398)); have NB398_389 := Aside0.mk ((by rw [hg]; exact Nat.ne_of_gt (blk_lt BK389.out) : gb398 ≠ gb389)); replace BK373 := Aside0.mk (blk_below BK373.out hb); replace BK374 := Aside0.mk (blk_below BK374.out hb); replace BK379 := Aside0.mk (blk_below BK379.out hb); replace BK388 := Aside0.mk (blk_below BK388.out hb); replace BK389 := Aside0.mk (blk_below BK389.out hb); replace HB := Aside0.mk (below_step (by repeat (first | (with_reducible first | exact HB.out | apply below_alloc | apply pw_below_drewN | apply below_drew1 | refine below_set ?_ GE373.out | refine below_set ?_ GE374.out | refine below_set ?_ GE379.out | refine below_set ?_ GE388.out | refine below_set ?_ GE389.out) | exact HB.out)) hb); clear hb hbox hg) | ((with_reducible refine gate_dst (N := 9) rfl ?_); refine box_event ?hg (N := 9) ?hd (cs := #[.int .i64 0, .int .i64 0, .int .i64 0, .int .i64 0]) (t := 73) ?hr ?_; (case hd => rfl); (case hg => rfl); (case hr => first | (go_simp; done) | (go_simp; rfl)); intro gb399 hg w37 hbox hb; have BK399 := Aside0.mk (hbox); have GW399 := Aside0.mk ((by rw [hg]; exact (below_size (by repeat (first | (with_reducible first | exact HB.out | apply below_alloc | apply pw_below_drewN | apply below_drew1 | refine below_set ?_ GE373.out | refine below_set ?_ GE374.out | refine below_set ?_ GE379.out | refine below_set ?_ GE388.out | refine below_set ?_ GE389.out | refine below_set ?_ GE398.out) | exact HB.out))) : w.heap.size ≤ gb399)); have GE399 := Aside0.mk ((by rw [hg]; exact (below_size (by repeat (first | (with_reducible first | exact HB.out | apply below_alloc | apply pw_below_drewN | apply below_drew1 | refine below_set ?_ GE373.out | refine below_set ?_ GE374.out | refine below_set ?_ GE379.out | refine below_set ?_ GE388.out | refine below_set ?_ GE389.out | refine below_set ?_ GE398.out) | exact HB.out))) : w.heap.size ≤ gb399)); have NB373_399 := Aside0.mk ((by rw [hg]; exact Nat.ne_of_lt (blk_lt BK373.out) : gb373 ≠ gb399)); have NB399_373 := Aside0.mk ((by rw [hg]; exact Nat.ne_of_gt (blk_lt BK373.out) : gb399 ≠ gb373)); have NB374_399 := Aside0.mk ((by rw [hg]; exact Nat.ne_of_lt (blk_lt BK374.out) : gb374 ≠ gb399)); have NB399_374 := Aside0.mk ((by rw [hg]; exact Nat.ne_of_gt (blk_lt BK374.out) : gb399 ≠ gb374)); have NB379_399 := Aside0.mk ((by rw [hg]; exact Nat.ne_of_lt (blk_lt BK379.out) : gb379 ≠ gb399)); have NB399_379 := Aside0.mk ((by rw [hg]; exact Nat.ne_of_gt (blk_lt BK379.out) : gb399 ≠ gb379)); have NB388_399 := Aside0.mk ((by rw [hg]; exact Nat.ne_of_lt (blk_lt BK388.out) : gb388 ≠ gb399)); have NB399_388 := Aside0.mk ((by rw [hg]; exact Nat.ne_of_gt (blk_lt BK388.out) : gb399 ≠ gb388)); have NB389_399 := Aside0.mk ((by rw [hg]; exact Nat.ne_of_lt (blk_lt BK389.out) : gb389 ≠ gb399)); have NB399_389 := Aside0.mk ((by rw [hg]; exact Nat.ne_of_gt (blk_lt BK389.out) : gb399 ≠ gb389)); have NB398_399 := Aside0.mk ((by rw [hg]; exact Nat.ne_of_lt (blk_lt BK398.out) : gb398 ≠ gb399)); have NB399_398 := Aside0.mk ((by rw [hg]; exact Nat.ne_of_gt (blk_lt BK398.out) : gb399 ≠ gb398)); replace BK373 := Aside0.mk (blk_below BK373.out hb); replace BK374 := Aside0.mk (blk_below BK374.out hb); replace BK379 := Aside0.mk (blk_below BK379.out hb); replace BK388 := Aside0.mk (blk_below BK388.out hb); replace BK389 := Aside0.mk (blk_below BK389.out hb); replace BK398 := Aside0.mk (blk_below BK398.out hb); replace HB := Aside0.mk (below_step (by repeat (first | (with_reducible first | exact HB.out | apply below_alloc | apply pw_below_drewN | apply below_drew1 | refine below_set ?_ GE373.out | refine below_set ?_ GE374.out | refine below_set ?_ GE379.out | refine below_set ?_ GE388.out | refine below_set ?_ GE389.out | refine below_set ?_ GE398.out) | exact HB.out)) hb); clear hb hbox hg; have hnb38 := NB398_373.out; have hnc38 := NB373_398.out; have hnb39 := NB398_374.out; have hnc39 := NB374_398.out; have hnb40 := NB398_379.out; have hnc40 := NB379_398.out; have hnb41 := NB398_388.out; have hnc41 := NB388_398.out; have hnb42 := NB398_389.out; have hnc42 := NB389_398.out; have hnb43 := NB398_399.out; have hnc43 := NB399_398.out; have hcz44_0 : w37.cell? ⟨gb398, 0, none⟩ = some (.int .i64 0) := (blk_cell BK398.out 0).trans rfl; have hcz44_1 : w37.cell? ⟨gb398, 1, none⟩ = some (.int .i64 0) := (blk_cell BK398.out 1).trans rfl; have hcz44_2 : w37.cell? ⟨gb398, 2, none⟩ = some (.int .i64 0) := (blk_cell BK398.out 2).trans rfl; have hcz44_3 : w37.cell? ⟨gb398, 3, none⟩ = some (.int .i64 0) := (blk_cell BK398.out 3).trans rfl; have hfz44_0 := blk_frozen BK398.out 0; have hfz44_1 := blk_frozen BK398.out 1; have hfz44_2 := blk_frozen BK398.out 2; have hfz44_3 := blk_frozen BK398.out 3; have hnb45 := NB399_373.out; have hnc45 := NB373_399.out; have hnb46 := NB399_374.out; have hnc46 := NB374_399.out; have hnb47 := NB399_379.out; have hnc47 := NB379_399.out; have hnb48 := NB399_388.out; have hnc48 := NB388_399.out; have hnb49 := NB399_389.out; have hnc49 := NB389_399.out; have hcz50_0 : w37.cell? ⟨gb399, 0, none⟩ = some (.int .i64 0) := (blk_cell BK399.out 0).trans rfl; have hcz50_1 : w37.cell? ⟨gb399, 1, none⟩ = some (.int .i64 0) := (blk_cell BK399.out 1).trans rfl; have hcz50_2 : w37.cell? ⟨gb399, 2, none⟩ = some (.int .i64 0) := (blk_cell BK399.out 2).trans rfl; have hcz50_3 : w37.cell? ⟨gb399, 3, none⟩ = some (.int .i64 0) := (blk_cell BK399.out 3).trans rfl; have hfz50_0 := blk_frozen BK399.out 0; have hfz50_1 := blk_frozen BK399.out 1; have hfz50_2 := blk_frozen BK399.out 2; have hfz50_3 := blk_frozen BK399.out 3) | ((with_reducible refine gate_callee (f := 67) rfl ?_); refine goesL_ (some 37) rfl rfl Try.func67 (by kernel_rfl) rfl #[.slice A0 l0.length c0] rfl (by (try simp only [List.map_toArray, List.map_cons, List.map_nil]); first | done | rfl | (simp only [List.length_drop, List.length_take]; rfl)) ?_; (with_reducible refine (spec_DrawGrowth.calls k _ _ l0 t400 t401 t402 t403 t404 t405 t406 t407 _ ?side1 ?side2 A8.out).mono ?_); (case side1 => exact Kd.C_below HR0.out (by repeat (first | (with_reducible first | exact HB.out | apply below_alloc | apply pw_below_drewN | apply below_drew1 | refine below_set ?_ GE373.out | refine below_set ?_ GE374.out | refine below_set ?_ GE379.out | refine below_set ?_ GE388.out | refine below_set ?_ GE389.out | refine below_set ?_ GE398.out | refine below_set ?_ GE399.out) | exact HB.out))); (case side2 => exact HC0.out); rintro e w51 ⟨rfl, hb⟩; refine ⟨_, rfl, ?_⟩; replace BK373 := Aside0.mk (blk_below (g := gb373) (o := .cells #[.int .i64 t365, .int .i64 t366, .int .i64 t367, .int .i64 t368] 73 (0, 0)) (blk_far (blk_far (blk_far (blk_far (blk_far (blk_far (blk_far (blk_far BK373.out NB373_398.out _) NB373_398.out _) NB373_398.out _) NB373_398.out _) NB373_399.out _) NB373_399.out _) NB373_399.out _) NB373_399.out _) hb); replace BK374 := Aside0.mk (blk_below (g := gb374) (o := .cells #[.int .i64 t369, .int .i64 t370, .int .i64 t371, .int .i64 t372] 73 (0, 0)) (blk_far (blk_far (blk_far (blk_far (blk_far (blk_far (blk_far (blk_far BK374.out NB374_398.out _) NB374_398.out _) NB374_398.out _) NB374_398.out _) NB374_399.out _) NB374_399.out _) NB374_399.out _) NB374_399.out _) hb); replace BK379 := Aside0.mk (blk_below (g := gb379) (o := .cells #[.int .i64 t375, .int .i64 t376, .int .i64 t377, .int .i64 t378] 73 (0, 0)) (blk_far (blk_far (blk_far (blk_far (blk_far (blk_far (blk_far (blk_far BK379.out NB379_398.out _) NB379_398.out _) NB379_398.out _) NB379_398.out _) NB379_399.out _) NB379_399.out _) NB379_399.out _) NB379_399.out _) hb); replace BK388 := Aside0.mk (blk_below (g := gb388) (o := .cells #[.int .i64 t380, .int .i64 t381, .int .i64 t382, .int .i64 t383] 73 (0, 0)) (blk_far (blk_far (blk_far (blk_far (blk_far (blk_far (blk_far (blk_far BK388.out NB388_398.out _) NB388_398.out _) NB388_398.out _) NB388_398.out _) NB388_399.out _) NB388_399.out _) NB388_399.out _) NB388_399.out _) hb); replace BK389 := Aside0.mk (blk_below (g := gb389) (o := .cells #[.int .i64 t384, .int .i64 t385, .int .i64 t386, .int .i64 t387] 73 (0, 0)) (blk_far (blk_far (blk_far (blk_far (blk_far (blk_far (blk_far (blk_far BK389.out NB389_398.out _) NB389_398.out _) NB389_398.out _) NB389_398.out _) NB389_399.out _) NB389_399.out _) NB389_399.out _) NB389_399.out _) hb); replace BK398 := Aside0.mk (blk_below (g := gb398) (o := .cells #[.int .i64 t390, .int .i64 t391, .int .i64 t392, .int .i64 t393] 73 (0, 0)) (by refine blk_far ?_ NB398_399.out _; refine blk_far ?_ NB398_399.out _; refine blk_far ?_ NB398_399.out _; refine blk_far ?_ NB398_399.out _; refine blk_put (cs := #[.int .i64 t390, .int .i64 t391, .int .i64 t392, .int .i64 0]) ?_ 3 _ rfl; refine blk_put (cs := #[.int .i64 t390, .int .i64 t391, .int .i64 0, .int .i64 0]) ?_ 2 _ rfl; refine blk_put (cs := #[.int .i64 t390, .int .i64 0, .int .i64 0, .int .i64 0]) ?_ 1 _ rfl; refine blk_put (cs := #[.int .i64 0, .int .i64 0, .int .i64 0, .int .i64 0]) ?_ 0 _ rfl; exact BK398.out) hb); replace BK399 := Aside0.mk (blk_below (g := gb399) (o := .cells #[.int .i64 t394, .int .i64 t395, .int .i64 t396, .int .i64 t397] 73 (0, 0)) (by refine blk_put (cs := #[.int .i64 t394, .int .i64 t395, .int .i64 t396, .int .i64 0]) ?_ 3 _ rfl; refine blk_put (cs := #[.int .i64 t394, .int .i64 t395, .int .i64 0, .int .i64 0]) ?_ 2 _ rfl; refine blk_put (cs := #[.int .i64 t394, .int .i64 0, .int .i64 0, .int .i64 0]) ?_ 1 _ rfl; refine blk_put (cs := #[.int .i64 0, .int .i64 0, .int .i64 0, .int .i64 0]) ?_ 0 _ rfl; refine blk_far ?_ NB399_398.out _; refine blk_far ?_ NB399_398.out _; refine blk_far ?_ NB399_398.out _; refine blk_far ?_ NB399_398.out _; exact BK399.out) hb); replace HB := Aside0.mk (below_step (by repeat (first | (with_reducible first | exact HB.out | apply below_alloc | apply pw_below_drewN | apply below_drew1 | refine below_set ?_ GE373.out | refine below_set ?_ GE374.out | refine below_set ?_ GE379.out | refine below_set ?_ GE388.out | refine below_set ?_ GE389.out | refine below_set ?_ GE398.out | refine below_set ?_ GE399.out) | exact HB.out)) hb); (try clear hb); (try clear hb2); (try clear hk); (try clear hi)) | ((with_reducible refine gate_dst (N := 10) rfl ?_); refine box_event ?hg (N := 10) ?hd (cs := #[.int .i64 0, .int .i64 0, .int .i64 0, .int .i64 0]) (t := 73) ?hr ?_; (case hd => rfl); (case hg => rfl); (case hr => first | (go_simp; done) | (go_simp; rfl)); intro gb408 hg w52 hbox hb; have BK408 := Aside0.mk (hbox); have GW408 := Aside0.mk ((by rw [hg]; exact (below_size (by repeat (first | (with_reducible first | exact HB.out | apply below_alloc | apply pw_below_drewN | apply below_drew1 | refine below_set ?_ GE373.out | refine below_set ?_ GE374.out | refine below_set ?_ GE379.out | refine below_set ?_ GE388.out | refine below_set ?_ GE389.out | refine below_set ?_ GE398.out | refine below_set ?_ GE399.out) | exact HB.out))) : w.heap.size ≤ gb408)); have GE408 := Aside0.mk ((by rw [hg]; exact (below_size (by repeat (first | (with_reducible first | exact HB.out | apply below_alloc | apply pw_below_drewN | apply below_drew1 | refine below_set ?_ GE373.out | refine below_set ?_ GE374.out | refine below_set ?_ GE379.out | refine below_set ?_ GE388.out | refine below_set ?_ GE389.out | refine below_set ?_ GE398.out | refine below_set ?_ GE399.out) | exact HB.out))) : w.heap.size ≤ gb408)); have NB373_408 := Aside0.mk ((by rw [hg]; exact Nat.ne_of_lt (blk_lt BK373.out) : gb373 ≠ gb408)); have NB408_373 := Aside0.mk ((by rw [hg]; exact Nat.ne_of_gt (blk_lt BK373.out) : gb408 ≠ gb373)); have NB374_408 := Aside0.mk ((by rw [hg]; exact Nat.ne_of_lt (blk_lt BK374.out) : gb374 ≠ gb408)); have NB408_374 := Aside0.mk ((by rw [hg]; exact Nat.ne_of_gt (blk_lt BK374.out) : gb408 ≠ gb374)); have NB379_408 := Aside0.mk ((by rw [hg]; exact Nat.ne_of_lt (blk_lt BK379.out) : gb379 ≠ gb408)); have NB408_379 := Aside0.mk ((by rw [hg]; exact Nat.ne_of_gt (blk_lt BK379.out) : gb408 ≠ gb379)); have NB388_408 := Aside0.mk ((by rw [hg]; exact Nat.ne_of_lt (blk_lt BK388.out) : gb388 ≠ gb408)); have NB408_388 := Aside0.mk ((by rw [hg]; exact Nat.ne_of_gt (blk_lt BK388.out) : gb408 ≠ gb388)); have NB389_408 := Aside0.mk ((by rw [hg]; exact Nat.ne_of_lt (blk_lt BK389.out) : gb389 ≠ gb408)); have NB408_389 := Aside0.mk ((by rw [hg]; exact Nat.ne_of_gt (blk_lt BK389.out) : gb408 ≠ gb389)); have NB398_408 := Aside0.mk ((by rw [hg]; exact Nat.ne_of_lt (blk_lt BK398.out) : gb398 ≠ gb408)); have NB408_398 := Aside0.mk ((by rw [hg]; exact Nat.ne_of_gt (blk_lt BK398.out) : gb408 ≠ gb398)); have NB399_408 := Aside0.mk ((by rw [hg]; exact Nat.ne_of_lt (blk_lt BK399.out) : gb399 ≠ gb408)); have NB408_399 := Aside0.mk ((by rw [hg]; exact Nat.ne_of_gt (blk_lt BK399.out) : gb408 ≠ gb399)); replace BK373 := Aside0.mk (blk_below BK373.out hb); replace BK374 := Aside0.mk (blk_below BK374.out hb); replace BK379 := Aside0.mk (blk_below BK379.out hb); replace BK388 := Aside0.mk (blk_below BK388.out hb); replace BK389 := Aside0.mk (blk_below BK389.out hb); replace BK398 := Aside0.mk (blk_below BK398.out hb); replace BK399 := Aside0.mk (blk_below BK399.out hb); replace HB := Aside0.mk (below_step (by repeat (first | (with_reducible first | exact HB.out | apply below_alloc | apply pw_below_drewN | apply below_drew1 | refine below_set ?_ GE373.out | refine below_set ?_ GE374.out | refine below_set ?_ GE379.out | refine below_set ?_ GE388.out | refine below_set ?_ GE389.out | refine below_set ?_ GE398.out | refine below_set ?_ GE399.out) | exact HB.out)) hb); clear hb hbox hg) | ((with_reducible refine gate_dst (N := 11) rfl ?_); refine box_event ?hg (N := 11) ?hd (cs := #[.int .i64 0, .int .i64 0, .int .i64 0, .int .i64 0]) (t := 73) ?hr ?_; (case hd => rfl); (case hg => rfl); (case hr => first | (go_simp; done) | (go_simp; rfl)); intro gb409 hg w53 hbox hb; have BK409 := Aside0.mk (hbox); have GW409 := Aside0.mk ((by rw [hg]; exact (below_size (by repeat (first | (with_reducible first | exact HB.out | apply below_alloc | apply pw_below_drewN | apply below_drew1 | refine below_set ?_ GE373.out | refine below_set ?_ GE374.out | refine below_set ?_ GE379.out | refine below_set ?_ GE388.out | refine below_set ?_ GE389.out | refine below_set ?_ GE398.out | refine below_set ?_ GE399.out | refine below_set ?_ GE408.out) | exact HB.out))) : w.heap.size ≤ gb409)); have GE409 := Aside0.mk ((by rw [hg]; exact (below_size (by repeat (first | (with_reducible first | exact HB.out | apply below_alloc | apply pw_below_drewN | apply below_drew1 | refine below_set ?_ GE373.out | refine below_set ?_ GE374.out | refine below_set ?_ GE379.out | refine below_set ?_ GE388.out | refine below_set ?_ GE389.out | refine below_set ?_ GE398.out | refine below_set ?_ GE399.out | refine below_set ?_ GE408.out) | exact HB.out))) : w.heap.size ≤ gb409)); have NB373_409 := Aside0.mk ((by rw [hg]; exact Nat.ne_of_lt (blk_lt BK373.out) : gb373 ≠ gb409)); have NB409_373 := Aside0.mk ((by rw [hg]; exact Nat.ne_of_gt (blk_lt BK373.out) : gb409 ≠ gb373)); have NB374_409 := Aside0.mk ((by rw [hg]; exact Nat.ne_of_lt (blk_lt BK374.out) : gb374 ≠ gb409)); have NB409_374 := Aside0.mk ((by rw [hg]; exact Nat.ne_of_gt (blk_lt BK374.out) : gb409 ≠ gb374)); have NB379_409 := Aside0.mk ((by rw [hg]; exact Nat.ne_of_lt (blk_lt BK379.out) : gb379 ≠ gb409)); have NB409_379 := Aside0.mk ((by rw [hg]; exact Nat.ne_of_gt (blk_lt BK379.out) : gb409 ≠ gb379)); have NB388_409 := Aside0.mk ((by rw [hg]; exact Nat.ne_of_lt (blk_lt BK388.out) : gb388 ≠ gb409)); have NB409_388 := Aside0.mk ((by rw [hg]; exact Nat.ne_of_gt (blk_lt BK388.out) : gb409 ≠ gb388)); have NB389_409 := Aside0.mk ((by rw [hg]; exact Nat.ne_of_lt (blk_lt BK389.out) : gb389 ≠ gb409)); have NB409_389 := Aside0.mk ((by rw [hg]; exact Nat.ne_of_gt (blk_lt BK389.out) : gb409 ≠ gb389)); have NB398_409 := Aside0.mk ((by rw [hg]; exact Nat.ne_of_lt (blk_lt BK398.out) : gb398 ≠ gb409)); have NB409_398 := Aside0.mk ((by rw [hg]; exact Nat.ne_of_gt (blk_lt BK398.out) : gb409 ≠ gb398)); have NB399_409 := Aside0.mk ((by rw [hg]; exact Nat.ne_of_lt (blk_lt BK399.out) : gb399 ≠ gb409)); have NB409_399 := Aside0.mk ((by rw [hg]; exact Nat.ne_of_gt (blk_lt BK399.out) : gb409 ≠ gb399)); have NB408_409 := Aside0.mk ((by rw [hg]; exact Nat.ne_of_lt (blk_lt BK408.out) : gb408 ≠ gb409)); have NB409_408 := Aside0.mk ((by rw [hg]; exact Nat.ne_of_gt (blk_lt BK408.out) : gb409 ≠ gb408)); replace BK373 := Aside0.mk (blk_below BK373.out hb); replace BK374 := Aside0.mk (blk_below BK374.out hb); replace BK379 := Aside0.mk (blk_below BK379.out hb); replace BK388 := Aside0.mk (blk_below BK388.out hb); replace BK389 := Aside0.mk (blk_below BK389.out hb); replace BK398 := Aside0.mk (blk_below BK398.out hb); replace BK399 := Aside0.mk (blk_below BK399.out hb); replace BK408 := Aside0.mk (blk_below BK408.out hb); replace HB := Aside0.mk (below_step (by repeat (first | (with_reducible first | exact HB.out | apply below_alloc | apply pw_below_drewN | apply below_drew1 | refine below_set ?_ GE373.out | refine below_set ?_ GE374.out | refine below_set ?_ GE379.out | refine below_set ?_ GE388.out | refine below_set ?_ GE389.out | refine below_set ?_ GE398.out | refine below_set ?_ GE399.out | refine below_set ?_ GE408.out) | exact HB.out)) hb); clear hb hbox hg; have hnb54 := NB408_373.out; have hnc54 := NB373_408.out; have hnb55 := NB408_374.out; have hnc55 := NB374_408.out; have hnb56 := NB408_379.out; have hnc56 := NB379_408.out; have hnb57 := NB408_388.out; have hnc57 := NB388_408.out; have hnb58 := NB408_389.out; have hnc58 := NB389_408.out; have hnb59 := NB408_398.out; have hnc59 := NB398_408.out; have hnb60 := NB408_399.out; have hnc60 := NB399_408.out; have hnb61 := NB408_409.out; have hnc61 := NB409_408.out; have hcz62_0 : w53.cell? ⟨gb408, 0, none⟩ = some (.int .i64 0) := (blk_cell BK408.out 0).trans rfl; have hcz62_1 : w53.cell? ⟨gb408, 1, none⟩ = some (.int .i64 0) := (blk_cell BK408.out 1).trans rfl; have hcz62_2 : w53.cell? ⟨gb408, 2, none⟩ = some (.int .i64 0) := (blk_cell BK408.out 2).trans rfl; have hcz62_3 : w53.cell? ⟨gb408, 3, none⟩ = some (.int .i64 0) := (blk_cell BK408.out 3).trans rfl; have hfz62_0 := blk_frozen BK408.out 0; have hfz62_1 := blk_frozen BK408.out 1; have hfz62_2 := blk_frozen BK408.out 2; have hfz62_3 := blk_frozen BK408.out 3; have hnb63 := NB409_373.out; have hnc63 := NB373_409.out; have hnb64 := NB409_374.out; have hnc64 := NB374_409.out; have hnb65 := NB409_379.out; have hnc65 := NB379_409.out; have hnb66 := NB409_388.out; have hnc66 := NB388_409.out; have hnb67 := NB409_389.out; have hnc67 := NB389_409.out; have hnb68 := NB409_398.out; have hnc68 := NB398_409.out; have hnb69 := NB409_399.out; have hnc69 := NB399_409.out; have hcz70_0 : w53.cell? ⟨gb409, 0, none⟩ = some (.int .i64 0) := (blk_cell BK409.out 0).trans rfl; have hcz70_1 : w53.cell? ⟨gb409, 1, none⟩ = some (.int .i64 0) := (blk_cell BK409.out 1).trans rfl; have hcz70_2 : w53.cell? ⟨gb409, 2, none⟩ = some (.int .i64 0) := (blk_cell BK409.out 2).trans rfl; have hcz70_3 : w53.cell? ⟨gb409, 3, none⟩ = some (.int .i64 0) := (blk_cell BK409.out 3).trans rfl; have hfz70_0 := blk_frozen BK409.out 0; have hfz70_1 := blk_frozen BK409.out 1; have hfz70_2 := blk_frozen BK409.out 2; have hfz70_3 := blk_frozen BK409.out 3) | ((with_reducible refine gate_callee (f := 68) rfl ?_); refine goesL_ (some 41) rfl rfl Try.func68 (by kernel_rfl) rfl #[.slice A0 l0.length c0] rfl (by (try simp only [List.map_toArray, List.map_cons, List.map_nil]); first | done | rfl | (simp only [List.length_drop, List.length_take]; rfl)) ?_; (with_reducible refine (spec_DrawBoxOk.calls k _ _ l0 t410 t411 t412 t413 _ ?side1 ?side2 A9.out).mono ?_); (case side1 => exact Kd.C_below HR0.out (by repeat (first | (with_reducible first | exact HB.out | apply below_alloc | apply pw_below_drewN | apply below_drew1 | refine below_set ?_ GE373.out | refine below_set ?_ GE374.out | refine below_set ?_ GE379.out | refine below_set ?_ GE388.out | refine below_set ?_ GE389.out | refine below_set ?_ GE398.out | refine below_set ?_ GE399.out | refine below_set ?_ GE408.out | refine below_set ?_ GE409.out) | exact HB.out))); (case side2 => exact HC0.out); rintro e w71 ⟨rfl, hb⟩; refine ⟨_, rfl, ?_⟩; replace BK373 := Aside0.mk (blk_below (g := gb373) (o := .cells #[.int .i64 t365, .int .i64 t366, .int .i64 t367, .int .i64 t368] 73 (0, 0)) (blk_far (blk_far (blk_far (blk_far (blk_far (blk_far (blk_far (blk_far BK373.out NB373_408.out _) NB373_408.out _) NB373_408.out _) NB373_408.out _) NB373_409.out _) NB373_409.out _) NB373_409.out _) NB373_409.out _) hb); replace BK374 := Aside0.mk (blk_below (g := gb374) (o := .cells #[.int .i64 t369, .int .i64 t370, .int .i64 t371, .int .i64 t372] 73 (0, 0)) (blk_far (blk_far (blk_far (blk_far (blk_far (blk_far (blk_far (blk_far BK374.out NB374_408.out _) NB374_408.out _) NB374_408.out _) NB374_408.out _) NB374_409.out _) NB374_409.out _) NB374_409.out _) NB374_409.out _) hb); replace BK379 := Aside0.mk (blk_below (g := gb379) (o := .cells #[.int .i64 t375, .int .i64 t376, .int .i64 t377, .int .i64 t378] 73 (0, 0)) (blk_far (blk_far (blk_far (blk_far (blk_far (blk_far (blk_far (blk_far BK379.out NB379_408.out _) NB379_408.out _) NB379_408.out _) NB379_408.out _) NB379_409.out _) NB379_409.out _) NB379_409.out _) NB379_409.out _) hb); replace BK388 := Aside0.mk (blk_below (g := gb388) (o := .cells #[.int .i64 t380, .int .i64 t381, .int .i64 t382, .int .i64 t383] 73 (0, 0)) (blk_far (blk_far (blk_far (blk_far (blk_far (blk_far (blk_far (blk_far BK388.out NB388_408.out _) NB388_408.out _) NB388_408.out _) NB388_408.out _) NB388_409.out _) NB388_409.out _) NB388_409.out _) NB388_409.out _) hb); replace BK389 := Aside0.mk (blk_below (g := gb389) (o := .cells #[.int .i64 t384, .int .i64 t385, .int .i64 t386, .int .i64 t387] 73 (0, 0)) (blk_far (blk_far (blk_far (blk_far (blk_far (blk_far (blk_far (blk_far BK389.out NB389_408.out _) NB389_408.out _) NB389_408.out _) NB389_408.out _) NB389_409.out _) NB389_409.out _) NB389_409.out _) NB389_409.out _) hb); replace BK398 := Aside0.mk (blk_below (g := gb398) (o := .cells #[.int .i64 t390, .int .i64 t391, .int .i64 t392, .int .i64 t393] 73 (0, 0)) (blk_far (blk_far (blk_far (blk_far (blk_far (blk_far (blk_far (blk_far BK398.out NB398_408.out _) NB398_408.out _) NB398_408.out _) NB398_408.out _) NB398_409.out _) NB398_409.out _) NB398_409.out _) NB398_409.out _) hb); replace BK399 := Aside0.mk (blk_below (g := gb399) (o := .cells #[.int .i64 t394, .int .i64 t395, .int .i64 t396, .int .i64 t397] 73 (0, 0)) (blk_far (blk_far (blk_far (blk_far (blk_far (blk_far (blk_far (blk_far BK399.out NB399_408.out _) NB399_408.out _) NB399_408.out _) NB399_408.out _) NB399_409.out _) NB399_409.out _) NB399_409.out _) NB399_409.out _) hb); replace BK408 := Aside0.mk (blk_below (g := gb408) (o := .cells #[.int .i64 t400, .int .i64 t401, .int .i64 t402, .int .i64 t403] 73 (0, 0)) (by refine blk_far ?_ NB408_409.out _; refine blk_far ?_ NB408_409.out _; refine blk_far ?_ NB408_409.out _; refine blk_far ?_ NB408_409.out _; refine blk_put (cs := #[.int .i64 t400, .int .i64 t401, .int .i64 t402, .int .i64 0]) ?_ 3 _ rfl; refine blk_put (cs := #[.int .i64 t400, .int .i64 t401, .int .i64 0, .int .i64 0]) ?_ 2 _ rfl; refine blk_put (cs := #[.int .i64 t400, .int .i64 0, .int .i64 0, .int .i64 0]) ?_ 1 _ rfl; refine blk_put (cs := #[.int .i64 0, .int .i64 0, .int .i64 0, .int .i64 0]) ?_ 0 _ rfl; exact BK408.out) hb); replace BK409 := Aside0.mk (blk_below (g := gb409) (o := .cells #[.int .i64 t404, .int .i64 t405, .int .i64 t406, .int .i64 t407] 73 (0, 0)) (by refine blk_put (cs := #[.int .i64 t404, .int .i64 t405, .int .i64 t406, .int .i64 0]) ?_ 3 _ rfl; refine blk_put (cs := #[.int .i64 t404, .int .i64 t405, .int .i64 0, .int .i64 0]) ?_ 2 _ rfl; refine blk_put (cs := #[.int .i64 t404, .int .i64 0, .int .i64 0, .int .i64 0]) ?_ 1 _ rfl; refine blk_put (cs := #[.int .i64 0, .int .i64 0, .int .i64 0, .int .i64 0]) ?_ 0 _ rfl; refine blk_far ?_ NB409_408.out _; refine blk_far ?_ NB409_408.out _; refine blk_far ?_ NB409_408.out _; refine blk_far ?_ NB409_408.out _; exact BK409.out) hb); replace HB := Aside0.mk (below_step (by repeat (first | (with_reducible first | exact HB.out | apply below_alloc | apply pw_below_drewN | apply below_drew1 | refine below_set ?_ GE373.out | refine below_set ?_ GE374.out | refine below_set ?_ GE379.out | refine below_set ?_ GE388.out | refine below_set ?_ GE389.out | refine below_set ?_ GE398.out | refine below_set ?_ GE399.out | refine below_set ?_ GE408.out | refine below_set ?_ GE409.out) | exact HB.out)) hb); (try clear hb); (try clear hb2); (try clear hk); (try clear hi)) | ((with_reducible refine gate_dst (N := 12) rfl ?_); refine box_event ?hg (N := 12) ?hd (cs := #[.int .i64 0, .int .i64 0, .int .i64 0, .int .i64 0]) (t := 73) ?hr ?_; (case hd => rfl); (case hg => rfl); (case hr => first | (go_simp; done) | (go_simp; rfl)); intro gb414 hg w72 hbox hb; have BK414 := Aside0.mk (hbox); have GW414 := Aside0.mk ((by rw [hg]; exact (below_size (by repeat (first | (with_reducible first | exact HB.out | apply below_alloc | apply pw_below_drewN | apply below_drew1 | refine below_set ?_ GE373.out | refine below_set ?_ GE374.out | refine below_set ?_ GE379.out | refine below_set ?_ GE388.out | refine below_set ?_ GE389.out | refine below_set ?_ GE398.out | refine below_set ?_ GE399.out | refine below_set ?_ GE408.out | refine below_set ?_ GE409.out) | exact HB.out))) : w.heap.size ≤ gb414)); have GE414 := Aside0.mk ((by rw [hg]; exact (below_size (by repeat (first | (with_reducible first | exact HB.out | apply below_alloc | apply pw_below_drewN | apply below_drew1 | refine below_set ?_ GE373.out | refine below_set ?_ GE374.out | refine below_set ?_ GE379.out | refine below_set ?_ GE388.out | refine below_set ?_ GE389.out | refine below_set ?_ GE398.out | refine below_set ?_ GE399.out | refine below_set ?_ GE408.out | refine below_set ?_ GE409.out) | exact HB.out))) : w.heap.size ≤ gb414)); have NB373_414 := Aside0.mk ((by rw [hg]; exact Nat.ne_of_lt (blk_lt BK373.out) : gb373 ≠ gb414)); have NB414_373 := Aside0.mk ((by rw [hg]; exact Nat.ne_of_gt (blk_lt BK373.out) : gb414 ≠ gb373)); have NB374_414 := Aside0.mk ((by rw [hg]; exact Nat.ne_of_lt (blk_lt BK374.out) : gb374 ≠ gb414)); have NB414_374 := Aside0.mk ((by rw [hg]; exact Nat.ne_of_gt (blk_lt BK374.out) : gb414 ≠ gb374)); have NB379_414 := Aside0.mk ((by rw [hg]; exact Nat.ne_of_lt (blk_lt BK379.out) : gb379 ≠ gb414)); have NB414_379 := Aside0.mk ((by rw [hg]; exact Nat.ne_of_gt (blk_lt BK379.out) : gb414 ≠ gb379)); have NB388_414 := Aside0.mk ((by rw [hg]; exact Nat.ne_of_lt (blk_lt BK388.out) : gb388 ≠ gb414)); have NB414_388 := Aside0.mk ((by rw [hg]; exact Nat.ne_of_gt (blk_lt BK388.out) : gb414 ≠ gb388)); have NB389_414 := Aside0.mk ((by rw [hg]; exact Nat.ne_of_lt (blk_lt BK389.out) : gb389 ≠ gb414)); have NB414_389 := Aside0.mk ((by rw [hg]; exact Nat.ne_of_gt (blk_lt BK389.out) : gb414 ≠ gb389)); have NB398_414 := Aside0.mk ((by rw [hg]; exact Nat.ne_of_lt (blk_lt BK398.out) : gb398 ≠ gb414)); have NB414_398 := Aside0.mk ((by rw [hg]; exact Nat.ne_of_gt (blk_lt BK398.out) : gb414 ≠ gb398)); have NB399_414 := Aside0.mk ((by rw [hg]; exact Nat.ne_of_lt (blk_lt BK399.out) : gb399 ≠ gb414)); have NB414_399 := Aside0.mk ((by rw [hg]; exact Nat.ne_of_gt (blk_lt BK399.out) : gb414 ≠ gb399)); have NB408_414 := Aside0.mk ((by rw [hg]; exact Nat.ne_of_lt (blk_lt BK408.out) : gb408 ≠ gb414)); have NB414_408 := Aside0.mk ((by rw [hg]; exact Nat.ne_of_gt (blk_lt BK408.out) : gb414 ≠ gb408)); have NB409_414 := Aside0.mk ((by rw [hg]; exact Nat.ne_of_lt (blk_lt BK409.out) : gb409 ≠ gb414)); have NB414_409 := Aside0.mk ((by rw [hg]; exact Nat.ne_of_gt (blk_lt BK409.out) : gb414 ≠ gb409)); replace BK373 := Aside0.mk (blk_below BK373.out hb); replace BK374 := Aside0.mk (blk_below BK374.out hb); replace BK379 := Aside0.mk (blk_below BK379.out hb); replace BK388 := Aside0.mk (blk_below BK388.out hb); replace BK389 := Aside0.mk (blk_below BK389.out hb); replace BK398 := Aside0.mk (blk_below BK398.out hb); replace BK399 := Aside0.mk (blk_below BK399.out hb); replace BK408 := Aside0.mk (blk_below BK408.out hb); replace BK409 := Aside0.mk (blk_below BK409.out hb); replace HB := Aside0.mk (below_step (by repeat (first | (with_reducible first | exact HB.out | apply below_alloc | apply pw_below_drewN | apply below_drew1 | refine below_set ?_ GE373.out | refine below_set ?_ GE374.out | refine below_set ?_ GE379.out | refine below_set ?_ GE388.out | refine below_set ?_ GE389.out | refine below_set ?_ GE398.out | refine below_set ?_ GE399.out | refine below_set ?_ GE408.out | refine below_set ?_ GE409.out) | exact HB.out)) hb); clear hb hbox hg; have hnb73 := NB414_373.out; have hnc73 := NB373_414.out; have hnb74 := NB414_374.out; have hnc74 := NB374_414.out; have hnb75 := NB414_379.out; have hnc75 := NB379_414.out; have hnb76 := NB414_388.out; have hnc76 := NB388_414.out; have hnb77 := NB414_389.out; have hnc77 := NB389_414.out; have hnb78 := NB414_398.out; have hnc78 := NB398_414.out; have hnb79 := NB414_399.out; have hnc79 := NB399_414.out; have hnb80 := NB414_408.out; have hnc80 := NB408_414.out; have hnb81 := NB414_409.out; have hnc81 := NB409_414.out; have hcz82_0 : w72.cell? ⟨gb414, 0, none⟩ = some (.int .i64 0) := (blk_cell BK414.out 0).trans rfl; have hcz82_1 : w72.cell? ⟨gb414, 1, none⟩ = some (.int .i64 0) := (blk_cell BK414.out 1).trans rfl; have hcz82_2 : w72.cell? ⟨gb414, 2, none⟩ = some (.int .i64 0) := (blk_cell BK414.out 2).trans rfl; have hcz82_3 : w72.cell? ⟨gb414, 3, none⟩ = some (.int .i64 0) := (blk_cell BK414.out 3).trans rfl; have hfz82_0 := blk_frozen BK414.out 0; have hfz82_1 := blk_frozen BK414.out 1; have hfz82_2 := blk_frozen BK414.out 2; have hfz82_3 := blk_frozen BK414.out 3) | ((with_reducible refine gate_callee (f := 69) rfl ?_); refine goesL_ (some 43) rfl rfl Try.func69 (by kernel_rfl) rfl #[.slice A0 l0.length c0] rfl (by (try simp only [List.map_toArray, List.map_cons, List.map_nil]); first | done | rfl | (simp only [List.length_drop, List.length_take]; rfl)) ?_; (with_reducible refine (spec_DrawArea.calls k _ _ l0 t415 t416 t417 t418 _ ?side1 ?side2 A10.out).mono ?_); (case side1 => exact Kd.C_below HR0.out (by repeat (first | (with_reducible first | exact HB.out | apply below_alloc | apply pw_below_drewN | apply below_drew1 | refine below_set ?_ GE373.out | refine below_set ?_ GE374.out | refine below_set ?_ GE379.out | refine below_set ?_ GE388.out | refine below_set ?_ GE389.out | refine below_set ?_ GE398.out | refine below_set ?_ GE399.out | refine below_set ?_ GE408.out | refine below_set ?_ GE409.out | refine below_set ?_ GE414.out) | exact HB.out))); (case side2 => exact HC0.out); rintro e w83 ⟨rfl, hb⟩; refine ⟨_, rfl, ?_⟩; replace BK373 := Aside0.mk (blk_below (g := gb373) (o := .cells #[.int .i64 t365, .int .i64 t366, .int .i64 t367, .int .i64 t368] 73 (0, 0)) (blk_far (blk_far (blk_far (blk_far BK373.out NB373_414.out _) NB373_414.out _) NB373_414.out _) NB373_414.out _) hb); replace BK374 := Aside0.mk (blk_below (g := gb374) (o := .cells #[.int .i64 t369, .int .i64 t370, .int .i64 t371, .int .i64 t372] 73 (0, 0)) (blk_far (blk_far (blk_far (blk_far BK374.out NB374_414.out _) NB374_414.out _) NB374_414.out _) NB374_414.out _) hb); replace BK379 := Aside0.mk (blk_below (g := gb379) (o := .cells #[.int .i64 t375, .int .i64 t376, .int .i64 t377, .int .i64 t378] 73 (0, 0)) (blk_far (blk_far (blk_far (blk_far BK379.out NB379_414.out _) NB379_414.out _) NB379_414.out _) NB379_414.out _) hb); replace BK388 := Aside0.mk (blk_below (g := gb388) (o := .cells #[.int .i64 t380, .int .i64 t381, .int .i64 t382, .int .i64 t383] 73 (0, 0)) (blk_far (blk_far (blk_far (blk_far BK388.out NB388_414.out _) NB388_414.out _) NB388_414.out _) NB388_414.out _) hb); replace BK389 := Aside0.mk (blk_below (g := gb389) (o := .cells #[.int .i64 t384, .int .i64 t385, .int .i64 t386, .int .i64 t387] 73 (0, 0)) (blk_far (blk_far (blk_far (blk_far BK389.out NB389_414.out _) NB389_414.out _) NB389_414.out _) NB389_414.out _) hb); replace BK398 := Aside0.mk (blk_below (g := gb398) (o := .cells #[.int .i64 t390, .int .i64 t391, .int .i64 t392, .int .i64 t393] 73 (0, 0)) (blk_far (blk_far (blk_far (blk_far BK398.out NB398_414.out _) NB398_414.out _) NB398_414.out _) NB398_414.out _) hb); replace BK399 := Aside0.mk (blk_below (g := gb399) (o := .cells #[.int .i64 t394, .int .i64 t395, .int .i64 t396, .int .i64 t397] 73 (0, 0)) (blk_far (blk_far (blk_far (blk_far BK399.out NB399_414.out _) NB399_414.out _) NB399_414.out _) NB399_414.out _) hb); replace BK408 := Aside0.mk (blk_below (g := gb408) (o := .cells #[.int .i64 t400, .int .i64 t401, .int .i64 t402, .int .i64 t403] 73 (0, 0)) (blk_far (blk_far (blk_far (blk_far BK408.out NB408_414.out _) NB408_414.out _) NB408_414.out _) NB408_414.out _) hb); replace BK409 := Aside0.mk (blk_below (g := gb409) (o := .cells #[.int .i64 t404, .int .i64 t405, .int .i64 t406, .int .i64 t407] 73 (0, 0)) (blk_far (blk_far (blk_far (blk_far BK409.out NB409_414.out _) NB409_414.out _) NB409_414.out _) NB409_414.out _) hb); replace BK414 := Aside0.mk (blk_below (g := gb414) (o := .cells #[.int .i64 t410, .int .i64 t411, .int .i64 t412, .int .i64 t413] 73 (0, 0)) (by refine blk_put (cs := #[.int .i64 t410, .int .i64 t411, .int .i64 t412, .int .i64 0]) ?_ 3 _ rfl; refine blk_put (cs := #[.int .i64 t410, .int .i64 t411, .int .i64 0, .int .i64 0]) ?_ 2 _ rfl; refine blk_put (cs := #[.int .i64 t410, .int .i64 0, .int .i64 0, .int .i64 0]) ?_ 1 _ rfl; refine blk_put (cs := #[.int .i64 0, .int .i64 0, .int .i64 0, .int .i64 0]) ?_ 0 _ rfl; exact BK414.out) hb); replace HB := Aside0.mk (below_step (by repeat (first | (with_reducible first | exact HB.out | apply below_alloc | apply pw_below_drewN | apply below_drew1 | refine below_set ?_ GE373.out | refine below_set ?_ GE374.out | refine below_set ?_ GE379.out | refine below_set ?_ GE388.out | refine below_set ?_ GE389.out | refine below_set ?_ GE398.out | refine below_set ?_ GE399.out | refine below_set ?_ GE408.out | refine below_set ?_ GE409.out | refine below_set ?_ GE414.out) | exact HB.out)) hb); (try clear hb); (try clear hb2); (try clear hk); (try clear hi)) | ((with_reducible refine gate_dst (N := 13) rfl ?_); refine box_event ?hg (N := 13) ?hd (cs := #[.int .i64 0, .int .i64 0, .int .i64 0, .int .i64 0]) (t := 73) ?hr ?_; (case hd => rfl); (case hg => rfl); (case hr => first | (go_simp; done) | (go_simp; rfl)); intro gb419 hg w84 hbox hb; have BK419 := Aside0.mk (hbox); have GW419 := Aside0.mk ((by rw [hg]; exact (below_size (by repeat (first | (with_reducible first | exact HB.out | apply below_alloc | apply pw_below_drewN | apply below_drew1 | refine below_set ?_ GE373.out | refine below_set ?_ GE374.out | refine below_set ?_ GE379.out | refine below_set ?_ GE388.out | refine below_set ?_ GE389.out | refine below_set ?_ GE398.out | refine below_set ?_ GE399.out | refine below_set ?_ GE408.out | refine below_set ?_ GE409.out | refine below_set ?_ GE414.out) | exact HB.out))) : w.heap.size ≤ gb419)); have GE419 := Aside0.mk ((by rw [hg]; exact (below_size (by repeat (first | (with_reducible first | exact HB.out | apply below_alloc | apply pw_below_drewN | apply below_drew1 | refine below_set ?_ GE373.out | refine below_set ?_ GE374.out | refine below_set ?_ GE379.out | refine below_set ?_ GE388.out | refine below_set ?_ GE389.out | refine below_set ?_ GE398.out | refine below_set ?_ GE399.out | refine below_set ?_ GE408.out | refine below_set ?_ GE409.out | refine below_set ?_ GE414.out) | exact HB.out))) : w.heap.size ≤ gb419)); have NB373_419 := Aside0.mk ((by rw [hg]; exact Nat.ne_of_lt (blk_lt BK373.out) : gb373 ≠ gb419)); have NB419_373 := Aside0.mk ((by rw [hg]; exact Nat.ne_of_gt (blk_lt BK373.out) : gb419 ≠ gb373)); have NB374_419 := Aside0.mk ((by rw [hg]; exact Nat.ne_of_lt (blk_lt BK374.out) : gb374 ≠ gb419)); have NB419_374 := Aside0.mk ((by rw [hg]; exact Nat.ne_of_gt (blk_lt BK374.out) : gb419 ≠ gb374)); have NB379_419 := Aside0.mk ((by rw [hg]; exact Nat.ne_of_lt (blk_lt BK379.out) : gb379 ≠ gb419)); have NB419_379 := Aside0.mk ((by rw [hg]; exact Nat.ne_of_gt (blk_lt BK379.out) : gb419 ≠ gb379)); have NB388_419 := Aside0.mk ((by rw [hg]; exact Nat.ne_of_lt (blk_lt BK388.out) : gb388 ≠ gb419)); have NB419_388 := Aside0.mk ((by rw [hg]; exact Nat.ne_of_gt (blk_lt BK388.out) : gb419 ≠ gb388)); have NB389_419 := Aside0.mk ((by rw [hg]; exact Nat.ne_of_lt (blk_lt BK389.out) : gb389 ≠ gb419)); have NB419_389 := Aside0.mk ((by rw [hg]; exact Nat.ne_of_gt (blk_lt BK389.out) : gb419 ≠ gb389)); have NB398_419 := Aside0.mk ((by rw [hg]; exact Nat.ne_of_lt (blk_lt BK398.out) : gb398 ≠ gb419)); have NB419_398 := Aside0.mk ((by rw [hg]; exact Nat.ne_of_gt (blk_lt BK398.out) : gb419 ≠ gb398)); have NB399_419 := Aside0.mk ((by rw [hg]; exact Nat.ne_of_lt (blk_lt BK399.out) : gb399 ≠ gb419)); have NB419_399 := Aside0.mk ((by rw [hg]; exact Nat.ne_of_gt (blk_lt BK399.out) : gb419 ≠ gb399)); have NB408_419 := Aside0.mk ((by rw [hg]; exact Nat.ne_of_lt (blk_lt BK408.out) : gb408 ≠ gb419)); have NB419_408 := Aside0.mk ((by rw [hg]; exact Nat.ne_of_gt (blk_lt BK408.out) : gb419 ≠ gb408)); have NB409_419 := Aside0.mk ((by rw [hg]; exact Nat.ne_of_lt (blk_lt BK409.out) : gb409 ≠ gb419)); have NB419_409 := Aside0.mk ((by rw [hg]; exact Nat.ne_of_gt (blk_lt BK409.out) : gb419 ≠ gb409)); have NB414_419 := Aside0.mk ((by rw [hg]; exact Nat.ne_of_lt (blk_lt BK414.out) : gb414 ≠ gb419)); have NB419_414 := Aside0.mk ((by rw [hg]; exact Nat.ne_of_gt (blk_lt BK414.out) : gb419 ≠ gb414)); replace BK373 := Aside0.mk (blk_below BK373.out hb); replace BK374 := Aside0.mk (blk_below BK374.out hb); replace BK379 := Aside0.mk (blk_below BK379.out hb); replace BK388 := Aside0.mk (blk_below BK388.out hb); replace BK389 := Aside0.mk (blk_below BK389.out hb); replace BK398 := Aside0.mk (blk_below BK398.out hb); replace BK399 := Aside0.mk (blk_below BK399.out hb); replace BK408 := Aside0.mk (blk_below BK408.out hb); replace BK409 := Aside0.mk (blk_below BK409.out hb); replace BK414 := Aside0.mk (blk_below BK414.out hb); replace HB := Aside0.mk (below_step (by repeat (first | (with_reducible first | exact HB.out | apply below_alloc | apply pw_below_drewN | apply below_drew1 | refine below_set ?_ GE373.out | refine below_set ?_ GE374.out | refine below_set ?_ GE379.out | refine below_set ?_ GE388.out | refine below_set ?_ GE389.out | refine below_set ?_ GE398.out | refine below_set ?_ GE399.out | refine below_set ?_ GE408.out | refine below_set ?_ GE409.out | refine below_set ?_ GE414.out) | exact HB.out)) hb); clear hb hbox hg; have hnb85 := NB419_373.out; have hnc85 := NB373_419.out; have hnb86 := NB419_374.out; have hnc86 := NB374_419.out; have hnb87 := NB419_379.out; have hnc87 := NB379_419.out; have hnb88 := NB419_388.out; have hnc88 := NB388_419.out; have hnb89 := NB419_389.out; have hnc89 := NB389_419.out; have hnb90 := NB419_398.out; have hnc90 := NB398_419.out; have hnb91 := NB419_399.out; have hnc91 := NB399_419.out; have hnb92 := NB419_408.out; have hnc92 := NB408_419.out; have hnb93 := NB419_409.out; have hnc93 := NB409_419.out; have hnb94 := NB419_414.out; have hnc94 := NB414_419.out; have hcz95_0 : w84.cell? ⟨gb419, 0, none⟩ = some (.int .i64 0) := (blk_cell BK419.out 0).trans rfl; have hcz95_1 : w84.cell? ⟨gb419, 1, none⟩ = some (.int .i64 0) := (blk_cell BK419.out 1).trans rfl; have hcz95_2 : w84.cell? ⟨gb419, 2, none⟩ = some (.int .i64 0) := (blk_cell BK419.out 2).trans rfl; have hcz95_3 : w84.cell? ⟨gb419, 3, none⟩ = some (.int .i64 0) := (blk_cell BK419.out 3).trans rfl; have hfz95_0 := blk_frozen BK419.out 0; have hfz95_1 := blk_frozen BK419.out 1; have hfz95_2 := blk_frozen BK419.out 2; have hfz95_3 := blk_frozen BK419.out 3))
 (try simp only [Act.put, sA_, sB_, sC_])
 go_cut [89] (fun v89 wc => ∃ (kq : Nat) (x89_10 : Bool), v89 = .bool x89_10 ∧ Aside0 (laws_FnBoxes.j0 kq x89_10 t365 t366 t367 t368 t369 t370 t371 t372 t375 t376 t377 t378 t380 t381 t382 t383 t384 t385 t386 t387 t410 t411 t412 t413 = some true) ∧ Aside0 (kq ≤ k) ∧ Aside0 (wc.heap[gb373]? = some (.cells #[.int .i64 t365, .int .i64 t366, .int .i64 t367, .int .i64 t368] 73 (0, 0))) ∧ Aside0 (wc.heap[gb374]? = some (.cells #[.int .i64 t369, .int .i64 t370, .int .i64 t371, .int .i64 t372] 73 (0, 0))) ∧ Aside0 (wc.heap[gb379]? = some (.cells #[.int .i64 t375, .int .i64 t376, .int .i64 t377, .int .i64 t378] 73 (0, 0))) ∧ Aside0 (wc.heap[gb388]? = some (.cells #[.int .i64 t380, .int .i64 t381, .int .i64 t382, .int .i64 t383] 73 (0, 0))) ∧ Aside0 (wc.heap[gb389]? = some (.cells #[.int .i64 t384, .int .i64 t385, .int .i64 t386, .int .i64 t387] 73 (0, 0))) ∧ Aside0 (wc.heap[gb398]? = some (.cells #[.int .i64 t390, .int .i64 t391, .int .i64 t392, .int .i64 t393] 73 (0, 0))) ∧ Aside0 (wc.heap[gb399]? = some (.cells #[.int .i64 t394, .int .i64 t395, .int .i64 t396, .int .i64 t397] 73 (0, 0))) ∧ Aside0 (wc.heap[gb408]? = some (.cells #[.int .i64 t400, .int .i64 t401, .int .i64 t402, .int .i64 t403] 73 (0, 0))) ∧ Aside0 (wc.heap[gb409]? = some (.cells #[.int .i64 t404, .int .i64 t405, .int .i64 t406, .int .i64 t407] 73 (0, 0))) ∧ Aside0 (wc.heap[gb414]? = some (.cells #[.int .i64 t410, .int .i64 t411, .int .i64 t412, .int .i64 t413] 73 (0, 0))) ∧ Aside0 (wc.heap[gb419]? = some (.cells #[.int .i64 t415, .int .i64 t416, .int .i64 t417, .int .i64 t418] 73 (0, 0))) ∧ Aside0 (Below w.heap.size w wc))
 case first => as_aux_lemma =>
  have H := HC11.out
  clear HC11
  replace H := Option.bind_eq_some_iff.mp H
  obtain ⟨⟨t420, t421, t422, t423⟩, A960, H⟩ := H
  (try dsimp only at H)
  have A96 := Aside0.mk A960
  clear A960
  by_cases c97 : (!(t375 == t420) || (!(t376 == t421) || (!(t377 == t422) || (!(t378 == t423))))) = true
  ·rw [if_pos c97] at H
   have c97b0 : (!(t375 == t420) || (!(t376 == t421) || (!(t377 == t422) || (!(t378 == t423))))) = true := c97
   clear c97
   (first | rw [c97b0] | (simp only [i64_w, i32_w]; rw [c97b0]) | skip)
   exact absurd H (laws_FnBoxes.j0_true _ _ _ _ _ _ _ _ _ _ _ _ _ _ _ _ _ _ _ _ _ _ _ _ _)
  rw [if_neg c97] at H
  have c97b0 : (!(t375 == t420) || (!(t376 == t421) || (!(t377 == t422) || (!(t378 == t423))))) = false := by simpa using c97
  clear c97
  (first | rw [c97b0] | (simp only [i64_w, i32_w]; rw [c97b0]) | skip)
  replace H := Option.bind_eq_some_iff.mp H
  obtain ⟨t424, A1010, H⟩ := H
  (try dsimp only at H)
  have A101 := Aside0.mk A1010
  clear A1010
  replace H := Option.bind_eq_some_iff.mp H
  obtain ⟨t425, A1020, H⟩ := H
  (try dsimp only at H)
  have A102 := Aside0.mk A1020
  clear A1020
  by_cases c103 : (t424 != t425) = true
  ·rw [if_pos c103] at H
   have c103b0 : (t424 != t425) = true := c103
   (try (have c103b1 : decide (t424 = t425) = false := by simpa using c103))
   (try (have c103b2 : (t424 == t425) = false := by simpa using c103))
   (try (have c103b3 : ¬ (t424 = t425) := by simpa using c103))
   clear c103
   exact absurd H (laws_FnBoxes.j0_true _ _ _ _ _ _ _ _ _ _ _ _ _ _ _ _ _ _ _ _ _ _ _ _ _)
  rw [if_neg c103] at H
  have c103b0 : (t424 != t425) = false := by simpa using c103
  (try (have c103b1 : decide (t424 = t425) = true := by simpa using c103))
  (try (have c103b2 : (t424 == t425) = true := by simpa using c103))
  clear c103
  replace H := Option.bind_eq_some_iff.mp H
  obtain ⟨t426, A1090, H⟩ := H
  (try dsimp only at H)
  have A109 := Aside0.mk A1090
  clear A1090
  replace H := Option.bind_eq_some_iff.mp H
  obtain ⟨t427, A1100, H⟩ := H
  (try dsimp only at H)
  have A110 := Aside0.mk A1100
  clear A1100
  by_cases c111 : (t426 != t427) = true
  ·rw [if_pos c111] at H
   have c111b0 : (t426 != t427) = true := c111
   (try (have c111b1 : decide (t426 = t427) = false := by simpa using c111))
   (try (have c111b2 : (t426 == t427) = false := by simpa using c111))
   (try (have c111b3 : ¬ (t426 = t427) := by simpa using c111))
   clear c111
   exact absurd H (laws_FnBoxes.j0_true _ _ _ _ _ _ _ _ _ _ _ _ _ _ _ _ _ _ _ _ _ _ _ _ _)
  rw [if_neg c111] at H
  have c111b0 : (t426 != t427) = false := by simpa using c111
  (try (have c111b1 : decide (t426 = t427) = true := by simpa using c111))
  (try (have c111b2 : (t426 == t427) = true := by simpa using c111))
  clear c111
  replace H := Option.bind_eq_some_iff.mp H
  obtain ⟨t428, A1190, H⟩ := H
  (try dsimp only at H)
  have A119 := Aside0.mk A1190
  clear A1190
  replace H := Option.bind_eq_some_iff.mp H
  obtain ⟨t429, A1200, H⟩ := H
  (try dsimp only at H)
  have A120 := Aside0.mk A1200
  clear A1200
  by_cases c121 : t428 = t429
  rotate_left
  ·rw [if_neg c121] at H
   have c121b0 : (t428 == t429) = false := beq_eq_false_iff_ne.mpr c121
   have c121b1 : (t428 != t429) = true := bne_iff_ne.mpr c121
   exact absurd H (laws_FnBoxes.j0_true _ _ _ _ _ _ _ _ _ _ _ _ _ _ _ _ _ _ _ _ _ _ _ _ _)
  rw [if_pos c121] at H
  have c121b0 : (t428 == t429) = true := beq_iff_eq.mpr c121
  have c121b1 : (t428 != t429) = false := bne_eq_false_iff_eq.mpr c121
  clear c121
  replace H := Option.bind_eq_some_iff.mp H
  obtain ⟨t430, A1220, H⟩ := H
  (try dsimp only at H)
  have A122 := Aside0.mk A1220
  clear A1220
  replace H := Option.bind_eq_some_iff.mp H
  obtain ⟨t431, A1230, H⟩ := H
  (try dsimp only at H)
  have A123 := Aside0.mk A1230
  clear A1230
  by_cases c124 : (t430 != t431) = true
  ·rw [if_pos c124] at H
   have c124b0 : (t430 != t431) = true := c124
   (try (have c124b1 : decide (t430 = t431) = false := by simpa using c124))
   (try (have c124b2 : (t430 == t431) = false := by simpa using c124))
   (try (have c124b3 : ¬ (t430 = t431) := by simpa using c124))
   clear c124
   exact absurd H (laws_FnBoxes.j0_true _ _ _ _ _ _ _ _ _ _ _ _ _ _ _ _ _ _ _ _ _ _ _ _ _)
  rw [if_neg c124] at H
  have c124b0 : (t430 != t431) = false := by simpa using c124
  (try (have c124b1 : decide (t430 = t431) = true := by simpa using c124))
  (try (have c124b2 : (t430 == t431) = true := by simpa using c124))
  clear c124
  replace H := Option.bind_eq_some_iff.mp H
  obtain ⟨t432, A1360, H⟩ := H
  (try dsimp only at H)
  have A136 := Aside0.mk A1360
  clear A1360
  replace H := Option.bind_eq_some_iff.mp H
  obtain ⟨t433, A1370, H⟩ := H
  (try dsimp only at H)
  have A137 := Aside0.mk A1370
  clear A1370
  have H' := Aside0.mk H
  clear H
  try go_wp2
  have n0_ : Aside0 (((((w84.setCell ⟨gb419, 0, none⟩ (.int .i64 t415)).setCell ⟨gb419, 1, none⟩ (.int .i64 t416)).setCell ⟨gb419, 2, none⟩ (.int .i64 t417)).setCell ⟨gb419, 3, none⟩ (.int .i64 t418)).heap[gb373]? = some (.cells #[.int .i64 t365, .int .i64 t366, .int .i64 t367, .int .i64 t368] 73 (0, 0))) := ⟨(blk_far (blk_far (blk_far (blk_far BK373.out NB373_419.out _) NB373_419.out _) NB373_419.out _) NB373_419.out _)⟩
  have n1_ : Aside0 (((((w84.setCell ⟨gb419, 0, none⟩ (.int .i64 t415)).setCell ⟨gb419, 1, none⟩ (.int .i64 t416)).setCell ⟨gb419, 2, none⟩ (.int .i64 t417)).setCell ⟨gb419, 3, none⟩ (.int .i64 t418)).heap[gb374]? = some (.cells #[.int .i64 t369, .int .i64 t370, .int .i64 t371, .int .i64 t372] 73 (0, 0))) := ⟨(blk_far (blk_far (blk_far (blk_far BK374.out NB374_419.out _) NB374_419.out _) NB374_419.out _) NB374_419.out _)⟩
  have n2_ : Aside0 (((((w84.setCell ⟨gb419, 0, none⟩ (.int .i64 t415)).setCell ⟨gb419, 1, none⟩ (.int .i64 t416)).setCell ⟨gb419, 2, none⟩ (.int .i64 t417)).setCell ⟨gb419, 3, none⟩ (.int .i64 t418)).heap[gb379]? = some (.cells #[.int .i64 t375, .int .i64 t376, .int .i64 t377, .int .i64 t378] 73 (0, 0))) := ⟨(blk_far (blk_far (blk_far (blk_far BK379.out NB379_419.out _) NB379_419.out _) NB379_419.out _) NB379_419.out _)⟩
  have n3_ : Aside0 (((((w84.setCell ⟨gb419, 0, none⟩ (.int .i64 t415)).setCell ⟨gb419, 1, none⟩ (.int .i64 t416)).setCell ⟨gb419, 2, none⟩ (.int .i64 t417)).setCell ⟨gb419, 3, none⟩ (.int .i64 t418)).heap[gb388]? = some (.cells #[.int .i64 t380, .int .i64 t381, .int .i64 t382, .int .i64 t383] 73 (0, 0))) := ⟨(blk_far (blk_far (blk_far (blk_far BK388.out NB388_419.out _) NB388_419.out _) NB388_419.out _) NB388_419.out _)⟩
  have n4_ : Aside0 (((((w84.setCell ⟨gb419, 0, none⟩ (.int .i64 t415)).setCell ⟨gb419, 1, none⟩ (.int .i64 t416)).setCell ⟨gb419, 2, none⟩ (.int .i64 t417)).setCell ⟨gb419, 3, none⟩ (.int .i64 t418)).heap[gb389]? = some (.cells #[.int .i64 t384, .int .i64 t385, .int .i64 t386, .int .i64 t387] 73 (0, 0))) := ⟨(blk_far (blk_far (blk_far (blk_far BK389.out NB389_419.out _) NB389_419.out _) NB389_419.out _) NB389_419.out _)⟩
  have n5_ : Aside0 (((((w84.setCell ⟨gb419, 0, none⟩ (.int .i64 t415)).setCell ⟨gb419, 1, none⟩ (.int .i64 t416)).setCell ⟨gb419, 2, none⟩ (.int .i64 t417)).setCell ⟨gb419, 3, none⟩ (.int .i64 t418)).heap[gb398]? = some (.cells #[.int .i64 t390, .int .i64 t391, .int .i64 t392, .int .i64 t393] 73 (0, 0))) := ⟨(blk_far (blk_far (blk_far (blk_far BK398.out NB398_419.out _) NB398_419.out _) NB398_419.out _) NB398_419.out _)⟩
  have n6_ : Aside0 (((((w84.setCell ⟨gb419, 0, none⟩ (.int .i64 t415)).setCell ⟨gb419, 1, none⟩ (.int .i64 t416)).setCell ⟨gb419, 2, none⟩ (.int .i64 t417)).setCell ⟨gb419, 3, none⟩ (.int .i64 t418)).heap[gb399]? = some (.cells #[.int .i64 t394, .int .i64 t395, .int .i64 t396, .int .i64 t397] 73 (0, 0))) := ⟨(blk_far (blk_far (blk_far (blk_far BK399.out NB399_419.out _) NB399_419.out _) NB399_419.out _) NB399_419.out _)⟩
  have n7_ : Aside0 (((((w84.setCell ⟨gb419, 0, none⟩ (.int .i64 t415)).setCell ⟨gb419, 1, none⟩ (.int .i64 t416)).setCell ⟨gb419, 2, none⟩ (.int .i64 t417)).setCell ⟨gb419, 3, none⟩ (.int .i64 t418)).heap[gb408]? = some (.cells #[.int .i64 t400, .int .i64 t401, .int .i64 t402, .int .i64 t403] 73 (0, 0))) := ⟨(blk_far (blk_far (blk_far (blk_far BK408.out NB408_419.out _) NB408_419.out _) NB408_419.out _) NB408_419.out _)⟩
  have n8_ : Aside0 (((((w84.setCell ⟨gb419, 0, none⟩ (.int .i64 t415)).setCell ⟨gb419, 1, none⟩ (.int .i64 t416)).setCell ⟨gb419, 2, none⟩ (.int .i64 t417)).setCell ⟨gb419, 3, none⟩ (.int .i64 t418)).heap[gb409]? = some (.cells #[.int .i64 t404, .int .i64 t405, .int .i64 t406, .int .i64 t407] 73 (0, 0))) := ⟨(blk_far (blk_far (blk_far (blk_far BK409.out NB409_419.out _) NB409_419.out _) NB409_419.out _) NB409_419.out _)⟩
  have n9_ : Aside0 (((((w84.setCell ⟨gb419, 0, none⟩ (.int .i64 t415)).setCell ⟨gb419, 1, none⟩ (.int .i64 t416)).setCell ⟨gb419, 2, none⟩ (.int .i64 t417)).setCell ⟨gb419, 3, none⟩ (.int .i64 t418)).heap[gb414]? = some (.cells #[.int .i64 t410, .int .i64 t411, .int .i64 t412, .int .i64 t413] 73 (0, 0))) := ⟨(blk_far (blk_far (blk_far (blk_far BK414.out NB414_419.out _) NB414_419.out _) NB414_419.out _) NB414_419.out _)⟩
  have n10_ : Aside0 (((((w84.setCell ⟨gb419, 0, none⟩ (.int .i64 t415)).setCell ⟨gb419, 1, none⟩ (.int .i64 t416)).setCell ⟨gb419, 2, none⟩ (.int .i64 t417)).setCell ⟨gb419, 3, none⟩ (.int .i64 t418)).heap[gb419]? = some (.cells #[.int .i64 t415, .int .i64 t416, .int .i64 t417, .int .i64 t418] 73 (0, 0))) := ⟨by refine blk_put (cs := #[.int .i64 t415, .int .i64 t416, .int .i64 t417, .int .i64 0]) ?_ 3 _ rfl; refine blk_put (cs := #[.int .i64 t415, .int .i64 t416, .int .i64 0, .int .i64 0]) ?_ 2 _ rfl; refine blk_put (cs := #[.int .i64 t415, .int .i64 0, .int .i64 0, .int .i64 0]) ?_ 1 _ rfl; refine blk_put (cs := #[.int .i64 0, .int .i64 0, .int .i64 0, .int .i64 0]) ?_ 0 _ rfl; exact BK419.out⟩
  have n11_ : Aside0 (Below w.heap.size w ((((w84.setCell ⟨gb419, 0, none⟩ (.int .i64 t415)).setCell ⟨gb419, 1, none⟩ (.int .i64 t416)).setCell ⟨gb419, 2, none⟩ (.int .i64 t417)).setCell ⟨gb419, 3, none⟩ (.int .i64 t418))) := ⟨by repeat (first | (with_reducible first | exact HB.out | apply below_alloc | apply pw_below_drewN | apply below_drew1 | refine below_set ?_ GE373.out | refine below_set ?_ GE374.out | refine below_set ?_ GE379.out | refine below_set ?_ GE388.out | refine below_set ?_ GE389.out | refine below_set ?_ GE398.out | refine below_set ?_ GE399.out | refine below_set ?_ GE408.out | refine below_set ?_ GE409.out | refine below_set ?_ GE414.out | refine below_set ?_ GE419.out) | exact HB.out)⟩
  (try clear BK373)
  (try clear BK374)
  (try clear BK379)
  (try clear BK388)
  (try clear BK389)
  (try clear BK398)
  (try clear BK399)
  (try clear BK408)
  (try clear BK409)
  (try clear BK414)
  (try clear BK419)
  (try clear HB)
  generalize ((((w84.setCell ⟨gb419, 0, none⟩ (.int .i64 t415)).setCell ⟨gb419, 1, none⟩ (.int .i64 t416)).setCell ⟨gb419, 2, none⟩ (.int .i64 t417)).setCell ⟨gb419, 3, none⟩ (.int .i64 t418)) = w138 at n0_ n1_ n2_ n3_ n4_ n5_ n6_ n7_ n8_ n9_ n10_ n11_ ⊢
  have BK373 := n0_
  have BK374 := n1_
  have BK379 := n2_
  have BK388 := n3_
  have BK389 := n4_
  have BK398 := n5_
  have BK399 := n6_
  have BK408 := n7_
  have BK409 := n8_
  have BK414 := n9_
  have BK419 := n10_
  have HB := n11_
  clear n0_ n1_ n2_ n3_ n4_ n5_ n6_ n7_ n8_ n9_ n10_ n11_
  replace BK373 := Aside0.mk (blk_drew BK373.out)
  replace BK374 := Aside0.mk (blk_drew BK374.out)
  replace BK379 := Aside0.mk (blk_drew BK379.out)
  replace BK388 := Aside0.mk (blk_drew BK388.out)
  replace BK389 := Aside0.mk (blk_drew BK389.out)
  replace BK398 := Aside0.mk (blk_drew BK398.out)
  replace BK399 := Aside0.mk (blk_drew BK399.out)
  replace BK408 := Aside0.mk (blk_drew BK408.out)
  replace BK409 := Aside0.mk (blk_drew BK409.out)
  replace BK414 := Aside0.mk (blk_drew BK414.out)
  replace BK419 := Aside0.mk (blk_drew BK419.out)
  replace HB := Aside0.mk (below_drew1 HB.out)
  refine start_ (n := 46) (S := fun w' => w'.cell? ⟨gb379, 0, none⟩ = some (.int .i64 t375) ∧ w'.cell? ⟨gb379, 1, none⟩ = some (.int .i64 t376) ∧ w'.cell? ⟨gb379, 2, none⟩ = some (.int .i64 t377) ∧ w'.cell? ⟨gb379, 3, none⟩ = some (.int .i64 t378) ∧ w'.cell? ⟨gb373, 0, none⟩ = some (.int .i64 t365) ∧ w'.cell? ⟨gb373, 1, none⟩ = some (.int .i64 t366) ∧ w'.cell? ⟨gb373, 2, none⟩ = some (.int .i64 t367) ∧ w'.cell? ⟨gb373, 3, none⟩ = some (.int .i64 t368) ∧ w'.cell? ⟨gb374, 0, none⟩ = some (.int .i64 t369) ∧ w'.cell? ⟨gb374, 1, none⟩ = some (.int .i64 t370) ∧ w'.cell? ⟨gb374, 2, none⟩ = some (.int .i64 t371) ∧ w'.cell? ⟨gb374, 3, none⟩ = some (.int .i64 t372) ∧ w'.cell? ⟨gb388, 0, none⟩ = some (.int .i64 t380) ∧ w'.cell? ⟨gb388, 1, none⟩ = some (.int .i64 t381) ∧ w'.cell? ⟨gb388, 2, none⟩ = some (.int .i64 t382) ∧ w'.cell? ⟨gb388, 3, none⟩ = some (.int .i64 t383) ∧ w'.cell? ⟨gb389, 0, none⟩ = some (.int .i64 t384) ∧ w'.cell? ⟨gb389, 1, none⟩ = some (.int .i64 t385) ∧ w'.cell? ⟨gb389, 2, none⟩ = some (.int .i64 t386) ∧ w'.cell? ⟨gb389, 3, none⟩ = some (.int .i64 t387) ∧ w'.cell? ⟨gb398, 0, none⟩ = some (.int .i64 t390) ∧ w'.cell? ⟨gb398, 1, none⟩ = some (.int .i64 t391) ∧ w'.cell? ⟨gb398, 2, none⟩ = some (.int .i64 t392) ∧ w'.cell? ⟨gb398, 3, none⟩ = some (.int .i64 t393) ∧ w'.cell? ⟨gb399, 0, none⟩ = some (.int .i64 t394) ∧ w'.cell? ⟨gb399, 1, none⟩ = some (.int .i64 t395) ∧ w'.cell? ⟨gb399, 2, none⟩ = some (.int .i64 t396) ∧ w'.cell? ⟨gb399, 3, none⟩ = some (.int .i64 t397) ∧ w'.cell? ⟨gb408, 0, none⟩ = some (.int .i64 t400) ∧ w'.cell? ⟨gb408, 1, none⟩ = some (.int .i64 t401) ∧ w'.cell? ⟨gb408, 2, none⟩ = some (.int .i64 t402) ∧ w'.cell? ⟨gb408, 3, none⟩ = some (.int .i64 t403) ∧ w'.cell? ⟨gb409, 0, none⟩ = some (.int .i64 t404) ∧ w'.cell? ⟨gb409, 1, none⟩ = some (.int .i64 t405) ∧ w'.cell? ⟨gb409, 2, none⟩ = some (.int .i64 t406) ∧ w'.cell? ⟨gb409, 3, none⟩ = some (.int .i64 t407) ∧ w'.cell? ⟨gb414, 0, none⟩ = some (.int .i64 t410) ∧ w'.cell? ⟨gb414, 1, none⟩ = some (.int .i64 t411) ∧ w'.cell? ⟨gb414, 2, none⟩ = some (.int .i64 t412) ∧ w'.cell? ⟨gb414, 3, none⟩ = some (.int .i64 t413) ∧ w'.cell? ⟨gb419, 0, none⟩ = some (.int .i64 t415) ∧ w'.cell? ⟨gb419, 1, none⟩ = some (.int .i64 t416) ∧ w'.cell? ⟨gb419, 2, none⟩ = some (.int .i64 t417) ∧ w'.cell? ⟨gb419, 3, none⟩ = some (.int .i64 t418)) (ds := []) #[false, false, false, false, false, false, false, false, false, false, false, false, false, false, false, false, false, false, false, false, false, false, false, false, false, false, false, false, false, false, false, false, false, false, false, false, false, false, false, false, false, false, false, false, false, false] (by kernel_rfl) rfl rfl ⟨(blk_cell BK379.out 0).trans rfl, (blk_cell BK379.out 1).trans rfl, (blk_cell BK379.out 2).trans rfl, (blk_cell BK379.out 3).trans rfl, (blk_cell BK373.out 0).trans rfl, (blk_cell BK373.out 1).trans rfl, (blk_cell BK373.out 2).trans rfl, (blk_cell BK373.out 3).trans rfl, (blk_cell BK374.out 0).trans rfl, (blk_cell BK374.out 1).trans rfl, (blk_cell BK374.out 2).trans rfl, (blk_cell BK374.out 3).trans rfl, (blk_cell BK388.out 0).trans rfl, (blk_cell BK388.out 1).trans rfl, (blk_cell BK388.out 2).trans rfl, (blk_cell BK388.out 3).trans rfl, (blk_cell BK389.out 0).trans rfl, (blk_cell BK389.out 1).trans rfl, (blk_cell BK389.out 2).trans rfl, (blk_cell BK389.out 3).trans rfl, (blk_cell BK398.out 0).trans rfl, (blk_cell BK398.out 1).trans rfl, (blk_cell BK398.out 2).trans rfl, (blk_cell BK398.out 3).trans rfl, (blk_cell BK399.out 0).trans rfl, (blk_cell BK399.out 1).trans rfl, (blk_cell BK399.out 2).trans rfl, (blk_cell BK399.out 3).trans rfl, (blk_cell BK408.out 0).trans rfl, (blk_cell BK408.out 1).trans rfl, (blk_cell BK408.out 2).trans rfl, (blk_cell BK408.out 3).trans rfl, (blk_cell BK409.out 0).trans rfl, (blk_cell BK409.out 1).trans rfl, (blk_cell BK409.out 2).trans rfl, (blk_cell BK409.out 3).trans rfl, (blk_cell BK414.out 0).trans rfl, (blk_cell BK414.out 1).trans rfl, (blk_cell BK414.out 2).trans rfl, (blk_cell BK414.out 3).trans rfl, (blk_cell BK419.out 0).trans rfl, (blk_cell BK419.out 1).trans rfl, (blk_cell BK419.out 2).trans rfl, (blk_cell BK419.out 3).trans rfl⟩ (fun hHeld => ?_); refine with_tabW laws_FnBoxes.tab10 laws_FnBoxes.bits10 (fun HT_ HW_ => ?_)
  generalize w138.drew = w139 at BK373 BK374 BK379 BK388 BK389 BK398 BK399 BK408 BK409 BK414 BK419 HB hHeld ⊢
  have HBR := Aside0.mk (Below.refl w139.heap.size w139)
  refine take_ (i := 0) (N := some 44) (v := ?_) (a' := ?_) (bm_ 46 1) rfl rfl (take_ofW HT_.out HW_.out (by kernel_rfl)) (fun _ _ _ h => h) (Or.inl ⟨by rfl, ?_⟩) hHeld ?_ ?_
  rotate_left
  ·intro w' hs_; repeat (obtain ⟨_, hs_⟩ := hs_)
   go_simp
   with_reducible rfl
  rotate_left
  ·simp only [Act.put, sA_, sB_, sC_, i64_w, i32_w]
   rfl
  refine take_ (i := 1) (N := some 45) (v := ?_) (a' := ?_) (bm_ 46 3) rfl rfl (take_ofW HT_.out HW_.out (by kernel_rfl)) (fun _ _ _ h => h) (Or.inl ⟨by rfl, ?_⟩) hHeld ?_ ?_
  rotate_left
  ·intro w' hs_; repeat (obtain ⟨_, hs_⟩ := hs_)
   go_simp
   with_reducible rfl
  rotate_left
  ·simp only [Act.put, sA_, sB_, sC_, i64_w, i32_w]
   rfl
  refine take_ (i := 2) (N := some 46) (v := ?_) (a' := ?_) (bm_ 46 7) rfl rfl (take_ofW HT_.out HW_.out (by kernel_rfl)) (fun _ _ _ h => h) (Or.inl ⟨by rfl, ?_⟩) hHeld ?_ ?_
  rotate_left
  ·intro w' hs_; repeat (obtain ⟨_, hs_⟩ := hs_)
   go_simp
   with_reducible rfl
  rotate_left
  ·simp only [Act.put, sA_, sB_, sC_, i64_w, i32_w]
   rfl
  refine one_ (i := 3) (N := some 47) (bm_ 46 15) rfl rfl (one_of HT_.out (by kernel_rfl)) (by decide) (fun K hK => ?_)
  refine goes_ Try.func70 (by kernel_rfl) rfl #[.agg #[.int .i64 t365, .int .i64 t366, .int .i64 t367, .int .i64 t368], .agg #[.int .i64 t369, .int .i64 t370, .int .i64 t371, .int .i64 t372]] (by rfl) rfl rfl (by (try simp only [List.map_toArray, List.map_cons, List.map_nil]); first | done | rfl) ?_
  with_reducible refine (spec_Join.calls t365 t366 t367 t368 t369 t370 t371 t372 t420 t421 t422 t423 _ A96.out).mono ?_
  rintro e w140 ⟨rfl, hb⟩
  refine ⟨_, rfl, ?_⟩
  replace HBR := Aside0.mk (below_step HBR.out hb)
  replace hHeld := keep44_ hb hHeld
  clear hb
  refine hK.out _ _ hHeld (fun hHeld => ?_)
  clear hK K
  refine norm_ (a' := ?_) ?_ ?_
  rotate_left
  ·show Act.put _ (some 47) _ = _
   simp only [Act.put, sA_, sB_, sC_, i64_w, i32_w]
   rfl
  refine pure_ (i := 4) (N := some 48) (v := ?_) (a' := ?_) (bm_ 46 31) rfl rfl (any_of HT_.out (by kernel_rfl)) (fun _ _ _ h => h) (Or.inl ⟨by rfl, ?_⟩) ?_ ?_
  rotate_left
  ·intro w'
   go_simp
   with_reducible rfl
  rotate_left
  ·simp only [Act.put, sA_, sB_, sC_, i64_w, i32_w]
   rfl
  refine pure_ (i := 5) (N := some 49) (v := ?_) (a' := ?_) (bm_ 46 63) rfl rfl (any_of HT_.out (by kernel_rfl)) (fun _ _ _ h => h) (Or.inl ⟨by rfl, ?_⟩) ?_ ?_
  rotate_left
  ·intro w'
   go_simp
   with_reducible rfl
  rotate_left
  ·simp only [Act.put, sA_, sB_, sC_, i64_w, i32_w]
   rfl
  refine take_ (i := 6) (N := some 50) (v := ?_) (a' := ?_) (bm_ 46 127) rfl rfl (take_ofW HT_.out HW_.out (by kernel_rfl)) (fun _ _ _ h => h) (Or.inl ⟨by rfl, ?_⟩) hHeld ?_ ?_
  rotate_left
  ·intro w' hs_; repeat (obtain ⟨_, hs_⟩ := hs_)
   go_simp
   with_reducible rfl
  rotate_left
  ·simp only [Act.put, sA_, sB_, sC_, i64_w, i32_w]
   rfl
  refine take_ (i := 7) (N := some 51) (v := ?_) (a' := ?_) (bm_ 46 255) rfl rfl (take_ofW HT_.out HW_.out (by kernel_rfl)) (fun _ _ _ h => h) (Or.inl ⟨by rfl, ?_⟩) hHeld ?_ ?_
  rotate_left
  ·intro w' hs_; repeat (obtain ⟨_, hs_⟩ := hs_)
   go_simp
   with_reducible rfl
  rotate_left
  ·simp only [Act.put, sA_, sB_, sC_, i64_w, i32_w]
   rfl
  refine take_ (i := 9) (N := some 53) (v := ?_) (a' := ?_) (bm_ 46 767) rfl rfl (take_ofW HT_.out HW_.out (by kernel_rfl)) (fun _ _ _ h => h) (Or.inl ⟨by rfl, ?_⟩) hHeld ?_ ?_
  rotate_left
  ·intro w' hs_; repeat (obtain ⟨_, hs_⟩ := hs_)
   go_simp
   with_reducible rfl
  rotate_left
  ·simp only [Act.put, sA_, sB_, sC_, i64_w, i32_w]
   rfl
  refine take_ (i := 10) (N := some 54) (v := ?_) (a' := ?_) (bm_ 46 1791) rfl rfl (take_ofW HT_.out HW_.out (by kernel_rfl)) (fun _ _ _ h => h) (Or.inl ⟨by rfl, ?_⟩) hHeld ?_ ?_
  rotate_left
  ·intro w' hs_; repeat (obtain ⟨_, hs_⟩ := hs_)
   go_simp
   with_reducible rfl
  rotate_left
  ·simp only [Act.put, sA_, sB_, sC_, i64_w, i32_w]
   rfl
  refine one_ (i := 8) (N := some 52) (bm_ 46 2047) rfl rfl (one_of HT_.out (by kernel_rfl)) (by decide) (fun K hK => ?_)
  refine goes_ Try.func71 (by kernel_rfl) rfl #[.agg #[.int .i64 t380, .int .i64 t381, .int .i64 t382, .int .i64 t383], .agg #[.int .i64 t384, .int .i64 t385, .int .i64 t386, .int .i64 t387]] (by rfl) rfl rfl (by (try simp only [List.map_toArray, List.map_cons, List.map_nil]); first | done | rfl) ?_
  with_reducible refine (impl_Meets.calls t380 t381 t382 t383 t384 t385 t386 t387 t424 _ A101.out).mono ?_
  rintro e w141 ⟨rfl, hb⟩
  refine ⟨_, rfl, ?_⟩
  replace HBR := Aside0.mk (below_step HBR.out hb)
  replace hHeld := keep44_ hb hHeld
  clear hb
  refine hK.out _ _ hHeld (fun hHeld => ?_)
  clear hK K
  refine norm_ (a' := ?_) ?_ ?_
  rotate_left
  ·show Act.put _ (some 52) _ = _
   simp only [Act.put, sA_, sB_, sC_, i64_w, i32_w]
   rfl
  refine one_ (i := 11) (N := some 55) (bm_ 46 4095) rfl rfl (one_of HT_.out (by kernel_rfl)) (by decide) (fun K hK => ?_)
  refine goes_ Try.func72 (by kernel_rfl) rfl #[.agg #[.int .i64 t380, .int .i64 t381, .int .i64 t382, .int .i64 t383], .agg #[.int .i64 t384, .int .i64 t385, .int .i64 t386, .int .i64 t387]] (by rfl) rfl rfl (by (try simp only [List.map_toArray, List.map_cons, List.map_nil]); first | done | rfl) ?_
  with_reducible refine (spec_Meets.calls t380 t381 t382 t383 t384 t385 t386 t387 t425 _ A102.out).mono ?_
  rintro e w142 ⟨rfl, hb⟩
  refine ⟨_, rfl, ?_⟩
  replace HBR := Aside0.mk (below_step HBR.out hb)
  replace hHeld := keep44_ hb hHeld
  clear hb
  refine hK.out _ _ hHeld (fun hHeld => ?_)
  clear hK K
  refine norm_ (a' := ?_) ?_ ?_
  rotate_left
  ·show Act.put _ (some 55) _ = _
   simp only [Act.put, sA_, sB_, sC_, i64_w, i32_w]
   rfl
  refine pure_ (i := 12) (N := some 56) (v := ?_) (a' := ?_) (bm_ 46 8191) rfl rfl (any_of HT_.out (by kernel_rfl)) (fun _ _ _ h => h) (Or.inl ⟨by rfl, ?_⟩) ?_ ?_
  rotate_left
  ·intro w'
   go_simp
   with_reducible rfl
  rotate_left
  ·simp only [Act.put, sA_, sB_, sC_, i64_w, i32_w]
   rfl
  refine pure_ (i := 13) (N := some 57) (v := ?_) (a' := ?_) (bm_ 46 16383) rfl rfl (any_of HT_.out (by kernel_rfl)) (fun _ _ _ h => h) (Or.inl ⟨by rfl, ?_⟩) ?_ ?_
  rotate_left
  ·intro w'
   go_simp
   with_reducible rfl
  rotate_left
  ·simp only [Act.put, sA_, sB_, sC_, i64_w, i32_w]
   rfl
  refine pure_ (i := 14) (N := some 58) (v := ?_) (a' := ?_) (bm_ 46 32767) rfl rfl (any_of HT_.out (by kernel_rfl)) (fun _ _ _ h => h) (Or.inl ⟨by rfl, ?_⟩) ?_ ?_
  rotate_left
  ·intro w'
   go_simp
   with_reducible rfl
  rotate_left
  ·simp only [Act.put, sA_, sB_, sC_, i64_w, i32_w]
   rfl
  refine take_ (i := 15) (N := some 59) (v := ?_) (a' := ?_) (bm_ 46 65535) rfl rfl (take_ofW HT_.out HW_.out (by kernel_rfl)) (fun _ _ _ h => h) (Or.inl ⟨by rfl, ?_⟩) hHeld ?_ ?_
  rotate_left
  ·intro w' hs_; repeat (obtain ⟨_, hs_⟩ := hs_)
   go_simp
   with_reducible rfl
  rotate_left
  ·simp only [Act.put, sA_, sB_, sC_, i64_w, i32_w]
   rfl
  refine take_ (i := 16) (N := some 60) (v := ?_) (a' := ?_) (bm_ 46 131071) rfl rfl (take_ofW HT_.out HW_.out (by kernel_rfl)) (fun _ _ _ h => h) (Or.inl ⟨by rfl, ?_⟩) hHeld ?_ ?_
  rotate_left
  ·intro w' hs_; repeat (obtain ⟨_, hs_⟩ := hs_)
   go_simp
   with_reducible rfl
  rotate_left
  ·simp only [Act.put, sA_, sB_, sC_, i64_w, i32_w]
   rfl
  refine take_ (i := 18) (N := some 62) (v := ?_) (a' := ?_) (bm_ 46 393215) rfl rfl (take_ofW HT_.out HW_.out (by kernel_rfl)) (fun _ _ _ h => h) (Or.inl ⟨by rfl, ?_⟩) hHeld ?_ ?_
  rotate_left
  ·intro w' hs_; repeat (obtain ⟨_, hs_⟩ := hs_)
   go_simp
   with_reducible rfl
  rotate_left
  ·simp only [Act.put, sA_, sB_, sC_, i64_w, i32_w]
   rfl
  refine take_ (i := 19) (N := some 63) (v := ?_) (a' := ?_) (bm_ 46 917503) rfl rfl (take_ofW HT_.out HW_.out (by kernel_rfl)) (fun _ _ _ h => h) (Or.inl ⟨by rfl, ?_⟩) hHeld ?_ ?_
  rotate_left
  ·intro w' hs_; repeat (obtain ⟨_, hs_⟩ := hs_)
   go_simp
   with_reducible rfl
  rotate_left
  ·simp only [Act.put, sA_, sB_, sC_, i64_w, i32_w]
   rfl
  refine one_ (i := 17) (N := some 61) (bm_ 46 1048575) rfl rfl (one_of HT_.out (by kernel_rfl)) (by decide) (fun K hK => ?_)
  refine goes_ Try.func73 (by kernel_rfl) rfl #[.agg #[.int .i64 t390, .int .i64 t391, .int .i64 t392, .int .i64 t393], .agg #[.int .i64 t394, .int .i64 t395, .int .i64 t396, .int .i64 t397]] (by rfl) rfl rfl (by (try simp only [List.map_toArray, List.map_cons, List.map_nil]); first | done | rfl) ?_
  with_reducible refine (impl_Holds.calls t390 t391 t392 t393 t394 t395 t396 t397 t426 _ A109.out).mono ?_
  rintro e w143 ⟨rfl, hb⟩
  refine ⟨_, rfl, ?_⟩
  replace HBR := Aside0.mk (below_step HBR.out hb)
  replace hHeld := keep44_ hb hHeld
  clear hb
  refine hK.out _ _ hHeld (fun hHeld => ?_)
  clear hK K
  refine norm_ (a' := ?_) ?_ ?_
  rotate_left
  ·show Act.put _ (some 61) _ = _
   simp only [Act.put, sA_, sB_, sC_, i64_w, i32_w]
   rfl
  refine one_ (i := 20) (N := some 64) (bm_ 46 2097151) rfl rfl (one_of HT_.out (by kernel_rfl)) (by decide) (fun K hK => ?_)
  refine goes_ Try.func74 (by kernel_rfl) rfl #[.agg #[.int .i64 t390, .int .i64 t391, .int .i64 t392, .int .i64 t393], .agg #[.int .i64 t394, .int .i64 t395, .int .i64 t396, .int .i64 t397]] (by rfl) rfl rfl (by (try simp only [List.map_toArray, List.map_cons, List.map_nil]); first | done | rfl) ?_
  with_reducible refine (spec_Holds.calls t390 t391 t392 t393 t394 t395 t396 t397 t427 _ A110.out).mono ?_
  rintro e w144 ⟨rfl, hb⟩
  refine ⟨_, rfl, ?_⟩
  replace HBR := Aside0.mk (below_step HBR.out hb)
  replace hHeld := keep44_ hb hHeld
  clear hb
  refine hK.out _ _ hHeld (fun hHeld => ?_)
  clear hK K
  refine norm_ (a' := ?_) ?_ ?_
  rotate_left
  ·show Act.put _ (some 64) _ = _
   simp only [Act.put, sA_, sB_, sC_, i64_w, i32_w]
   rfl
  refine pure_ (i := 21) (N := some 65) (v := ?_) (a' := ?_) (bm_ 46 4194303) rfl rfl (any_of HT_.out (by kernel_rfl)) (fun _ _ _ h => h) (Or.inl ⟨by rfl, ?_⟩) ?_ ?_
  rotate_left
  ·intro w'
   go_simp
   with_reducible rfl
  rotate_left
  ·simp only [Act.put, sA_, sB_, sC_, i64_w, i32_w]
   rfl
  refine pure_ (i := 22) (N := some 66) (v := ?_) (a' := ?_) (bm_ 46 8388607) rfl rfl (any_of HT_.out (by kernel_rfl)) (fun _ _ _ h => h) (Or.inl ⟨by rfl, ?_⟩) ?_ ?_
  rotate_left
  ·intro w'
   go_simp
   with_reducible rfl
  rotate_left
  ·simp only [Act.put, sA_, sB_, sC_, i64_w, i32_w]
   rfl
  refine pure_ (i := 23) (N := some 67) (v := ?_) (a' := ?_) (bm_ 46 16777215) rfl rfl (any_of HT_.out (by kernel_rfl)) (fun _ _ _ h => h) (Or.inl ⟨by rfl, ?_⟩) ?_ ?_
  rotate_left
  ·intro w'
   go_simp
   with_reducible rfl
  rotate_left
  ·simp only [Act.put, sA_, sB_, sC_, i64_w, i32_w]
   rfl
  refine take_ (i := 24) (N := some 68) (v := ?_) (a' := ?_) (bm_ 46 33554431) rfl rfl (take_ofW HT_.out HW_.out (by kernel_rfl)) (fun _ _ _ h => h) (Or.inl ⟨by rfl, ?_⟩) hHeld ?_ ?_
  rotate_left
  ·intro w' hs_; repeat (obtain ⟨_, hs_⟩ := hs_)
   go_simp
   with_reducible rfl
  rotate_left
  ·simp only [Act.put, sA_, sB_, sC_, i64_w, i32_w]
   rfl
  refine take_ (i := 25) (N := some 69) (v := ?_) (a' := ?_) (bm_ 46 67108863) rfl rfl (take_ofW HT_.out HW_.out (by kernel_rfl)) (fun _ _ _ h => h) (Or.inl ⟨by rfl, ?_⟩) hHeld ?_ ?_
  rotate_left
  ·intro w' hs_; repeat (obtain ⟨_, hs_⟩ := hs_)
   go_simp
   with_reducible rfl
  rotate_left
  ·simp only [Act.put, sA_, sB_, sC_, i64_w, i32_w]
   rfl
  refine take_ (i := 27) (N := some 71) (v := ?_) (a' := ?_) (bm_ 46 201326591) rfl rfl (take_ofW HT_.out HW_.out (by kernel_rfl)) (fun _ _ _ h => h) (Or.inl ⟨by rfl, ?_⟩) hHeld ?_ ?_
  rotate_left
  ·intro w' hs_; repeat (obtain ⟨_, hs_⟩ := hs_)
   go_simp
   with_reducible rfl
  rotate_left
  ·simp only [Act.put, sA_, sB_, sC_, i64_w, i32_w]
   rfl
  refine take_ (i := 28) (N := some 72) (v := ?_) (a' := ?_) (bm_ 46 469762047) rfl rfl (take_ofW HT_.out HW_.out (by kernel_rfl)) (fun _ _ _ h => h) (Or.inl ⟨by rfl, ?_⟩) hHeld ?_ ?_
  rotate_left
  ·intro w' hs_; repeat (obtain ⟨_, hs_⟩ := hs_)
   go_simp
   with_reducible rfl
  rotate_left
  ·simp only [Act.put, sA_, sB_, sC_, i64_w, i32_w]
   rfl
  refine one_ (i := 26) (N := some 70) (bm_ 46 536870911) rfl rfl (one_of HT_.out (by kernel_rfl)) (by decide) (fun K hK => ?_)
  refine goes_ Try.func75 (by kernel_rfl) rfl #[.agg #[.int .i64 t400, .int .i64 t401, .int .i64 t402, .int .i64 t403], .agg #[.int .i64 t404, .int .i64 t405, .int .i64 t406, .int .i64 t407]] (by rfl) rfl rfl (by (try simp only [List.map_toArray, List.map_cons, List.map_nil]); first | done | rfl) ?_
  with_reducible refine (impl_Growth.calls t400 t401 t402 t403 t404 t405 t406 t407 t428 _ A119.out).mono ?_
  rintro e w145 ⟨rfl, hb⟩
  refine ⟨_, rfl, ?_⟩
  replace HBR := Aside0.mk (below_step HBR.out hb)
  replace hHeld := keep44_ hb hHeld
  clear hb
  refine hK.out _ _ hHeld (fun hHeld => ?_)
  clear hK K
  refine norm_ (a' := ?_) ?_ ?_
  rotate_left
  ·show Act.put _ (some 70) _ = _
   simp only [Act.put, sA_, sB_, sC_, i64_w, i32_w]
   rfl
  refine one_ (i := 29) (N := some 73) (bm_ 46 1073741823) rfl rfl (one_of HT_.out (by kernel_rfl)) (by decide) (fun K hK => ?_)
  refine goes_ Try.func76 (by kernel_rfl) rfl #[.agg #[.int .i64 t400, .int .i64 t401, .int .i64 t402, .int .i64 t403], .agg #[.int .i64 t404, .int .i64 t405, .int .i64 t406, .int .i64 t407]] (by rfl) rfl rfl (by (try simp only [List.map_toArray, List.map_cons, List.map_nil]); first | done | rfl) ?_
  with_reducible refine (spec_Growth.calls t400 t401 t402 t403 t404 t405 t406 t407 t429 _ A120.out).mono ?_
  rintro e w146 ⟨rfl, hb⟩
  refine ⟨_, rfl, ?_⟩
  replace HBR := Aside0.mk (below_step HBR.out hb)
  replace hHeld := keep44_ hb hHeld
  clear hb
  refine hK.out _ _ hHeld (fun hHeld => ?_)
  clear hK K
  refine norm_ (a' := ?_) ?_ ?_
  rotate_left
  ·show Act.put _ (some 73) _ = _
   simp only [Act.put, sA_, sB_, sC_, i64_w, i32_w]
   rfl
  refine pure_ (i := 30) (N := some 74) (v := ?_) (a' := ?_) (bm_ 46 2147483647) rfl rfl (any_of HT_.out (by kernel_rfl)) (fun _ _ _ h => h) (Or.inl ⟨by rfl, ?_⟩) ?_ ?_
  rotate_left
  ·intro w'
   go_simp
   with_reducible rfl
  rotate_left
  ·simp only [Act.put, sA_, sB_, sC_, i64_w, i32_w]
   rfl
  refine pure_ (i := 31) (N := some 75) (v := ?_) (a' := ?_) (bm_ 46 4294967295) rfl rfl (any_of HT_.out (by kernel_rfl)) (fun _ _ _ h => h) (Or.inl ⟨by rfl, ?_⟩) ?_ ?_
  rotate_left
  ·intro w'
   go_simp
   with_reducible rfl
  rotate_left
  ·simp only [Act.put, sA_, sB_, sC_, i64_w, i32_w]
   rfl
  refine pure_ (i := 32) (N := some 76) (v := ?_) (a' := ?_) (bm_ 46 8589934591) rfl rfl (any_of HT_.out (by kernel_rfl)) (fun _ _ _ h => h) (Or.inl ⟨by rfl, ?_⟩) ?_ ?_
  rotate_left
  ·intro w'
   go_simp
   with_reducible rfl
  rotate_left
  ·simp only [Act.put, sA_, sB_, sC_, i64_w, i32_w]
   rfl
  refine take_ (i := 33) (N := some 77) (v := ?_) (a' := ?_) (bm_ 46 17179869183) rfl rfl (take_ofW HT_.out HW_.out (by kernel_rfl)) (fun _ _ _ h => h) (Or.inl ⟨by rfl, ?_⟩) hHeld ?_ ?_
  rotate_left
  ·intro w' hs_; repeat (obtain ⟨_, hs_⟩ := hs_)
   go_simp
   with_reducible rfl
  rotate_left
  ·simp only [Act.put, sA_, sB_, sC_, i64_w, i32_w]
   rfl
  refine take_ (i := 35) (N := some 79) (v := ?_) (a' := ?_) (bm_ 46 51539607551) rfl rfl (take_ofW HT_.out HW_.out (by kernel_rfl)) (fun _ _ _ h => h) (Or.inl ⟨by rfl, ?_⟩) hHeld ?_ ?_
  rotate_left
  ·intro w' hs_; repeat (obtain ⟨_, hs_⟩ := hs_)
   go_simp
   with_reducible rfl
  rotate_left
  ·simp only [Act.put, sA_, sB_, sC_, i64_w, i32_w]
   rfl
  refine one_ (i := 34) (N := some 78) (bm_ 46 68719476735) rfl rfl (one_of HT_.out (by kernel_rfl)) (by decide) (fun K hK => ?_)
  refine goes_ Try.func77 (by kernel_rfl) rfl #[.agg #[.int .i64 t410, .int .i64 t411, .int .i64 t412, .int .i64 t413]] (by rfl) rfl rfl (by (try simp only [List.map_toArray, List.map_cons, List.map_nil]); first | done | rfl) ?_
  with_reducible refine (impl_BoxOk.calls t410 t411 t412 t413 t430 _ A122.out).mono ?_
  rintro e w147 ⟨rfl, hb⟩
  refine ⟨_, rfl, ?_⟩
  replace HBR := Aside0.mk (below_step HBR.out hb)
  replace hHeld := keep44_ hb hHeld
  clear hb
  refine hK.out _ _ hHeld (fun hHeld => ?_)
  clear hK K
  refine norm_ (a' := ?_) ?_ ?_
  rotate_left
  ·show Act.put _ (some 78) _ = _
   simp only [Act.put, sA_, sB_, sC_, i64_w, i32_w]
   rfl
  refine one_ (i := 36) (N := some 80) (bm_ 46 137438953471) rfl rfl (one_of HT_.out (by kernel_rfl)) (by decide) (fun K hK => ?_)
  refine goes_ Try.func78 (by kernel_rfl) rfl #[.agg #[.int .i64 t410, .int .i64 t411, .int .i64 t412, .int .i64 t413]] (by rfl) rfl rfl (by (try simp only [List.map_toArray, List.map_cons, List.map_nil]); first | done | rfl) ?_
  with_reducible refine (spec_BoxOk.calls t410 t411 t412 t413 t431 _ A123.out).mono ?_
  rintro e w148 ⟨rfl, hb⟩
  refine ⟨_, rfl, ?_⟩
  replace HBR := Aside0.mk (below_step HBR.out hb)
  replace hHeld := keep44_ hb hHeld
  clear hb
  refine hK.out _ _ hHeld (fun hHeld => ?_)
  clear hK K
  refine norm_ (a' := ?_) ?_ ?_
  rotate_left
  ·show Act.put _ (some 80) _ = _
   simp only [Act.put, sA_, sB_, sC_, i64_w, i32_w]
   rfl
  refine pure_ (i := 37) (N := some 81) (v := ?_) (a' := ?_) (bm_ 46 274877906943) rfl rfl (any_of HT_.out (by kernel_rfl)) (fun _ _ _ h => h) (Or.inl ⟨by rfl, ?_⟩) ?_ ?_
  rotate_left
  ·intro w'
   go_simp
   with_reducible rfl
  rotate_left
  ·simp only [Act.put, sA_, sB_, sC_, i64_w, i32_w]
   rfl
  refine pure_ (i := 38) (N := some 82) (v := ?_) (a' := ?_) (bm_ 46 549755813887) rfl rfl (any_of HT_.out (by kernel_rfl)) (fun _ _ _ h => h) (Or.inl ⟨by rfl, ?_⟩) ?_ ?_
  rotate_left
  ·intro w'
   go_simp
   with_reducible rfl
  rotate_left
  ·simp only [Act.put, sA_, sB_, sC_, i64_w, i32_w]
   rfl
  refine pure_ (i := 39) (N := some 83) (v := ?_) (a' := ?_) (bm_ 46 1099511627775) rfl rfl (any_of HT_.out (by kernel_rfl)) (fun _ _ _ h => h) (Or.inl ⟨by rfl, ?_⟩) ?_ ?_
  rotate_left
  ·intro w'
   go_simp
   with_reducible rfl
  rotate_left
  ·simp only [Act.put, sA_, sB_, sC_, i64_w, i32_w]
   rfl
  refine take_ (i := 40) (N := some 84) (v := ?_) (a' := ?_) (bm_ 46 2199023255551) rfl rfl (take_ofW HT_.out HW_.out (by kernel_rfl)) (fun _ _ _ h => h) (Or.inl ⟨by rfl, ?_⟩) hHeld ?_ ?_
  rotate_left
  ·intro w' hs_; repeat (obtain ⟨_, hs_⟩ := hs_)
   go_simp
   with_reducible rfl
  rotate_left
  ·simp only [Act.put, sA_, sB_, sC_, i64_w, i32_w]
   rfl
  refine take_ (i := 42) (N := some 86) (v := ?_) (a' := ?_) (bm_ 46 6597069766655) rfl rfl (take_ofW HT_.out HW_.out (by kernel_rfl)) (fun _ _ _ h => h) (Or.inl ⟨by rfl, ?_⟩) hHeld ?_ ?_
  rotate_left
  ·intro w' hs_; repeat (obtain ⟨_, hs_⟩ := hs_)
   go_simp
   with_reducible rfl
  rotate_left
  ·simp only [Act.put, sA_, sB_, sC_, i64_w, i32_w]
   rfl
  refine one_ (i := 41) (N := some 85) (bm_ 46 8796093022207) rfl rfl (one_of HT_.out (by kernel_rfl)) (by decide) (fun K hK => ?_)
  refine goes_ Try.func79 (by kernel_rfl) rfl #[.agg #[.int .i64 t415, .int .i64 t416, .int .i64 t417, .int .i64 t418]] (by rfl) rfl rfl (by (try simp only [List.map_toArray, List.map_cons, List.map_nil]); first | done | rfl) ?_
  with_reducible refine (impl_Area.calls t415 t416 t417 t418 t432 _ A136.out).mono ?_
  rintro e w149 ⟨rfl, hb⟩
  refine ⟨_, rfl, ?_⟩
  replace HBR := Aside0.mk (below_step HBR.out hb)
  replace hHeld := keep44_ hb hHeld
  clear hb
  refine hK.out _ _ hHeld (fun hHeld => ?_)
  clear hK K
  refine norm_ (a' := ?_) ?_ ?_
  rotate_left
  ·show Act.put _ (some 85) _ = _
   simp only [Act.put, sA_, sB_, sC_, i64_w, i32_w]
   rfl
  refine one_ (i := 43) (N := some 87) (bm_ 46 17592186044415) rfl rfl (one_of HT_.out (by kernel_rfl)) (by decide) (fun K hK => ?_)
  refine goes_ Try.func80 (by kernel_rfl) rfl #[.agg #[.int .i64 t415, .int .i64 t416, .int .i64 t417, .int .i64 t418]] (by rfl) rfl rfl (by (try simp only [List.map_toArray, List.map_cons, List.map_nil]); first | done | rfl) ?_
  with_reducible refine (spec_Area.calls t415 t416 t417 t418 t433 _ A137.out).mono ?_
  rintro e w150 ⟨rfl, hb⟩
  refine ⟨_, rfl, ?_⟩
  replace HBR := Aside0.mk (below_step HBR.out hb)
  replace hHeld := keep44_ hb hHeld
  clear hb
  refine hK.out _ _ hHeld (fun hHeld => ?_)
  clear hK K
  refine norm_ (a' := ?_) ?_ ?_
  rotate_left
  ·show Act.put _ (some 87) _ = _
   simp only [Act.put, sA_, sB_, sC_, i64_w, i32_w]
   rfl
  refine pure_ (i := 44) (N := some 88) (v := ?_) (a' := ?_) (bm_ 46 35184372088831) rfl rfl (any_of HT_.out (by kernel_rfl)) (fun _ _ _ h => h) (Or.inl ⟨by rfl, ?_⟩) ?_ ?_
  rotate_left
  ·intro w'
   go_simp
   with_reducible rfl
  rotate_left
  ·simp only [Act.put, sA_, sB_, sC_, i64_w, i32_w]
   rfl
  refine pure_ (i := 45) (N := some 89) (v := ?_) (a' := ?_) (bm_ 46 70368744177663) rfl rfl (any_of HT_.out (by kernel_rfl)) (fun _ _ _ h => h) (Or.inl ⟨by rfl, ?_⟩) ?_ ?_
  rotate_left
  ·intro w'
   go_simp
   with_reducible rfl
  rotate_left
  ·simp only [Act.put, sA_, sB_, sC_, i64_w, i32_w]
   rfl
  replace BK373 := Aside0.mk (blk_below BK373.out HBR.out)
  replace BK374 := Aside0.mk (blk_below BK374.out HBR.out)
  replace BK379 := Aside0.mk (blk_below BK379.out HBR.out)
  replace BK388 := Aside0.mk (blk_below BK388.out HBR.out)
  replace BK389 := Aside0.mk (blk_below BK389.out HBR.out)
  replace BK398 := Aside0.mk (blk_below BK398.out HBR.out)
  replace BK399 := Aside0.mk (blk_below BK399.out HBR.out)
  replace BK408 := Aside0.mk (blk_below BK408.out HBR.out)
  replace BK409 := Aside0.mk (blk_below BK409.out HBR.out)
  replace BK414 := Aside0.mk (blk_below BK414.out HBR.out)
  replace BK419 := Aside0.mk (blk_below BK419.out HBR.out)
  replace HB := Aside0.mk (below_step HB.out HBR.out)
  refine done_ (done_of HT_.out (by kernel_rfl)) ?_
  try go_wp2
  go_meet
  case rel => exact ⟨_, ((t432 != t433)), (by first | rfl | (simp; done) | (simp [*]; done)), H', ⟨by first | omega | exact Nat.le_refl _⟩, ⟨BK373.out⟩, ⟨BK374.out⟩, ⟨BK379.out⟩, ⟨BK388.out⟩, ⟨BK389.out⟩, ⟨BK398.out⟩, ⟨BK399.out⟩, ⟨BK408.out⟩, ⟨BK409.out⟩, ⟨BK414.out⟩, ⟨BK419.out⟩, ⟨by repeat (first | (with_reducible first | exact HB.out | apply below_alloc | apply pw_below_drewN | apply below_drew1 | refine below_set ?_ GE373.out | refine below_set ?_ GE374.out | refine below_set ?_ GE379.out | refine below_set ?_ GE388.out | refine below_set ?_ GE389.out | refine below_set ?_ GE398.out | refine below_set ?_ GE399.out | refine below_set ?_ GE408.out | refine below_set ?_ GE409.out | refine below_set ?_ GE414.out | refine below_set ?_ GE419.out) | exact HB.out)⟩⟩
 case rest =>
  clear HC11
  try clear p2; try clear c7; try clear c71; try clear c72; try clear c73; try clear c74; try clear c75; try clear c76
  obtain ⟨kq, x89_10, rfl, HA, HJ10, BK373, BK374, BK379, BK388, BK389, BK398, BK399, BK408, BK409, BK414, BK419, HB⟩ := hcut
  cases kq with
  | zero => exact absurd HA.out (by simp [laws_FnBoxes.j0])
  | succ kj10 =>
   have H := HA.out
   clear HA
   simp only [laws_FnBoxes.j0] at H
   by_cases c160 : x89_10 = true
   ·as_aux_lemma =>
    subst c160
    rw [if_pos rfl] at H
    exact absurd H (by simp)
   replace c160 := Bool.eq_false_iff.mpr c160
   subst c160
   rw [if_neg (show ¬ (false = true) by decide)] at H
   have HC161 := Aside0.mk H
   clear H
   go_upto_region 12 with (fail)
   go_cut [14] (fun v14 wc => ∃ (kq : Nat) (x14_160 : Bool), v14 = .bool x14_160 ∧ Aside0 (laws_FnBoxes.j1 kq x14_160 t365 t366 t367 t368 t369 t370 t371 t372 t375 t376 t377 t378 t380 t381 t382 t383 t384 t385 t386 t387 t410 t411 t412 t413 = some true) ∧ Aside0 (kq ≤ kj10) ∧ Aside0 (wc.heap[gb373]? = some (.cells #[.int .i64 t365, .int .i64 t366, .int .i64 t367, .int .i64 t368] 73 (0, 0))) ∧ Aside0 (wc.heap[gb374]? = some (.cells #[.int .i64 t369, .int .i64 t370, .int .i64 t371, .int .i64 t372] 73 (0, 0))) ∧ Aside0 (wc.heap[gb379]? = some (.cells #[.int .i64 t375, .int .i64 t376, .int .i64 t377, .int .i64 t378] 73 (0, 0))) ∧ Aside0 (wc.heap[gb388]? = some (.cells #[.int .i64 t380, .int .i64 t381, .int .i64 t382, .int .i64 t383] 73 (0, 0))) ∧ Aside0 (wc.heap[gb389]? = some (.cells #[.int .i64 t384, .int .i64 t385, .int .i64 t386, .int .i64 t387] 73 (0, 0))) ∧ Aside0 (wc.heap[gb398]? = some (.cells #[.int .i64 t390, .int .i64 t391, .int .i64 t392, .int .i64 t393] 73 (0, 0))) ∧ Aside0 (wc.heap[gb399]? = some (.cells #[.int .i64 t394, .int .i64 t395, .int .i64 t396, .int .i64 t397] 73 (0, 0))) ∧ Aside0 (wc.heap[gb408]? = some (.cells #[.int .i64 t400, .int .i64 t401, .int .i64 t402, .int .i64 t403] 73 (0, 0))) ∧ Aside0 (wc.heap[gb409]? = some (.cells #[.int .i64 t404, .int .i64 t405, .int .i64 t406, .int .i64 t407] 73 (0, 0))) ∧ Aside0 (wc.heap[gb414]? = some (.cells #[.int .i64 t410, .int .i64 t411, .int .i64 t412, .int .i64 t413] 73 (0, 0))) ∧ Aside0 (wc.heap[gb419]? = some (.cells #[.int .i64 t415, .int .i64 t416, .int .i64 t417, .int .i64 t418] 73 (0, 0))) ∧ Aside0 (Below w.heap.size w wc))
   case first => as_aux_lemma =>
    have H := HC161.out
    clear HC161
    replace H := Option.bind_eq_some_iff.mp H
    obtain ⟨t434, A1620, H⟩ := H
    (try dsimp only at H)
    have A162 := Aside0.mk A1620
    clear A1620
    by_cases c163 : t434 = true
    ·subst c163
     rw [if_pos rfl] at H
     replace H := Option.bind_eq_some_iff.mp H
     obtain ⟨t435, A1640, H⟩ := H
     (try dsimp only at H)
     have A164 := Aside0.mk A1640
     clear A1640
     have H' := Aside0.mk H
     clear H
     have hnb165 := NB373_374.out
     have hnc165 := NB374_373.out
     have hnb166 := NB373_379.out
     have hnc166 := NB379_373.out
     have hnb167 := NB373_388.out
     have hnc167 := NB388_373.out
     have hnb168 := NB373_389.out
     have hnc168 := NB389_373.out
     have hnb169 := NB373_398.out
     have hnc169 := NB398_373.out
     have hnb170 := NB373_399.out
     have hnc170 := NB399_373.out
     have hnb171 := NB373_408.out
     have hnc171 := NB408_373.out
     have hnb172 := NB373_409.out
     have hnc172 := NB409_373.out
     have hnb173 := NB373_414.out
     have hnc173 := NB414_373.out
     have hnb174 := NB373_419.out
     have hnc174 := NB419_373.out
     have hcz175_0 : wc.cell? ⟨gb373, 0, none⟩ = some (.int .i64 t365) := (blk_cell BK373.out 0).trans rfl
     have hcz175_1 : wc.cell? ⟨gb373, 1, none⟩ = some (.int .i64 t366) := (blk_cell BK373.out 1).trans rfl
     have hcz175_2 : wc.cell? ⟨gb373, 2, none⟩ = some (.int .i64 t367) := (blk_cell BK373.out 2).trans rfl
     have hcz175_3 : wc.cell? ⟨gb373, 3, none⟩ = some (.int .i64 t368) := (blk_cell BK373.out 3).trans rfl
     have hfz175_0 := blk_frozen BK373.out 0
     have hfz175_1 := blk_frozen BK373.out 1
     have hfz175_2 := blk_frozen BK373.out 2
     have hfz175_3 := blk_frozen BK373.out 3
     go_wp2_with (first | ((with_reducible refine gate_callee (f := 77) rfl ?_); refine goesL_ (some 91) rfl rfl Try.func77 (by kernel_rfl) rfl #[.agg #[.int .i64 t365, .int .i64 t366, .int .i64 t367, .int .i64 t368]] rfl (by (try simp only [List.map_toArray, List.map_cons, List.map_nil]); first | done | rfl | (simp only [List.length_drop, List.length_take]; rfl)) ?_; (with_reducible refine (impl_BoxOk.calls t365 t366 t367 t368 true _ A162.out).mono ?_); rintro e w176 ⟨rfl, hb⟩; refine ⟨_, rfl, ?_⟩; replace BK373 := Aside0.mk (blk_below BK373.out hb); replace BK374 := Aside0.mk (blk_below BK374.out hb); replace BK379 := Aside0.mk (blk_below BK379.out hb); replace BK388 := Aside0.mk (blk_below BK388.out hb); replace BK389 := Aside0.mk (blk_below BK389.out hb); replace BK398 := Aside0.mk (blk_below BK398.out hb); replace BK399 := Aside0.mk (blk_below BK399.out hb); replace BK408 := Aside0.mk (blk_below BK408.out hb); replace BK409 := Aside0.mk (blk_below BK409.out hb); replace BK414 := Aside0.mk (blk_below BK414.out hb); replace BK419 := Aside0.mk (blk_below BK419.out hb); replace HB := Aside0.mk (below_step (by repeat (first | (with_reducible first | exact HB.out | apply below_alloc | apply pw_below_drewN | apply below_drew1 | refine below_set ?_ GE373.out | refine below_set ?_ GE374.out | refine below_set ?_ GE379.out | refine below_set ?_ GE388.out | refine below_set ?_ GE389.out | refine below_set ?_ GE398.out | refine below_set ?_ GE399.out | refine below_set ?_ GE408.out | refine below_set ?_ GE409.out | refine below_set ?_ GE414.out | refine below_set ?_ GE419.out) | exact HB.out)) hb); (try clear hb); (try clear hb2); (try clear hk); (try clear hi); have hnb177 := NB374_379.out; have hnc177 := NB379_374.out; have hnb178 := NB374_388.out; have hnc178 := NB388_374.out; have hnb179 := NB374_389.out; have hnc179 := NB389_374.out; have hnb180 := NB374_398.out; have hnc180 := NB398_374.out; have hnb181 := NB374_399.out; have hnc181 := NB399_374.out; have hnb182 := NB374_408.out; have hnc182 := NB408_374.out; have hnb183 := NB374_409.out; have hnc183 := NB409_374.out; have hnb184 := NB374_414.out; have hnc184 := NB414_374.out; have hnb185 := NB374_419.out; have hnc185 := NB419_374.out; have hcz186_0 : w176.cell? ⟨gb374, 0, none⟩ = some (.int .i64 t369) := (blk_cell BK374.out 0).trans rfl; have hcz186_1 : w176.cell? ⟨gb374, 1, none⟩ = some (.int .i64 t370) := (blk_cell BK374.out 1).trans rfl; have hcz186_2 : w176.cell? ⟨gb374, 2, none⟩ = some (.int .i64 t371) := (blk_cell BK374.out 2).trans rfl; have hcz186_3 : w176.cell? ⟨gb374, 3, none⟩ = some (.int .i64 t372) := (blk_cell BK374.out 3).trans rfl; have hfz186_0 := blk_frozen BK374.out 0; have hfz186_1 := blk_frozen BK374.out 1; have hfz186_2 := blk_frozen BK374.out 2; have hfz186_3 := blk_frozen BK374.out 3) | (go_at_call 77; (with_reducible refine (impl_BoxOk.calls t369 t370 t371 t372 t435 _ A164.out).mono ?_); rintro e w187 ⟨rfl, hb⟩; replace BK373 := Aside0.mk (blk_below BK373.out hb); replace BK374 := Aside0.mk (blk_below BK374.out hb); replace BK379 := Aside0.mk (blk_below BK379.out hb); replace BK388 := Aside0.mk (blk_below BK388.out hb); replace BK389 := Aside0.mk (blk_below BK389.out hb); replace BK398 := Aside0.mk (blk_below BK398.out hb); replace BK399 := Aside0.mk (blk_below BK399.out hb); replace BK408 := Aside0.mk (blk_below BK408.out hb); replace BK409 := Aside0.mk (blk_below BK409.out hb); replace BK414 := Aside0.mk (blk_below BK414.out hb); replace BK419 := Aside0.mk (blk_below BK419.out hb); replace HB := Aside0.mk (below_step (by repeat (first | (with_reducible first | exact HB.out | apply below_alloc | apply pw_below_drewN | apply below_drew1 | refine below_set ?_ GE373.out | refine below_set ?_ GE374.out | refine below_set ?_ GE379.out | refine below_set ?_ GE388.out | refine below_set ?_ GE389.out | refine below_set ?_ GE398.out | refine below_set ?_ GE399.out | refine below_set ?_ GE408.out | refine below_set ?_ GE409.out | refine below_set ?_ GE414.out | refine below_set ?_ GE419.out) | exact HB.out)) hb); (try clear hb); (try clear hb2); (try clear hk); (try clear hi)))
     go_meet
     case rel => exact ⟨_, (t435), (by first | rfl | (simp; done) | (simp [*]; done)), H', ⟨by have := HJ10.out; first | omega | exact Nat.le_refl _⟩, ⟨BK373.out⟩, ⟨BK374.out⟩, ⟨BK379.out⟩, ⟨BK388.out⟩, ⟨BK389.out⟩, ⟨BK398.out⟩, ⟨BK399.out⟩, ⟨BK408.out⟩, ⟨BK409.out⟩, ⟨BK414.out⟩, ⟨BK419.out⟩, ⟨by repeat (first | (with_reducible first | exact HB.out | apply below_alloc | apply pw_below_drewN | apply below_drew1 | refine below_set ?_ GE373.out | refine below_set ?_ GE374.out | refine below_set ?_ GE379.out | refine below_set ?_ GE388.out | refine below_set ?_ GE389.out | refine below_set ?_ GE398.out | refine below_set ?_ GE399.out | refine below_set ?_ GE408.out | refine below_set ?_ GE409.out | refine below_set ?_ GE414.out | refine below_set ?_ GE419.out) | exact HB.out)⟩⟩
    ·replace c163 := Bool.eq_false_iff.mpr c163
     subst c163
     rw [if_neg (show ¬ (false = true) by decide)] at H
     have H' := Aside0.mk H
     clear H
     have hnb188 := NB373_374.out
     have hnc188 := NB374_373.out
     have hnb189 := NB373_379.out
     have hnc189 := NB379_373.out
     have hnb190 := NB373_388.out
     have hnc190 := NB388_373.out
     have hnb191 := NB373_389.out
     have hnc191 := NB389_373.out
     have hnb192 := NB373_398.out
     have hnc192 := NB398_373.out
     have hnb193 := NB373_399.out
     have hnc193 := NB399_373.out
     have hnb194 := NB373_408.out
     have hnc194 := NB408_373.out
     have hnb195 := NB373_409.out
     have hnc195 := NB409_373.out
     have hnb196 := NB373_414.out
     have hnc196 := NB414_373.out
     have hnb197 := NB373_419.out
     have hnc197 := NB419_373.out
     have hcz198_0 : wc.cell? ⟨gb373, 0, none⟩ = some (.int .i64 t365) := (blk_cell BK373.out 0).trans rfl
     have hcz198_1 : wc.cell? ⟨gb373, 1, none⟩ = some (.int .i64 t366) := (blk_cell BK373.out 1).trans rfl
     have hcz198_2 : wc.cell? ⟨gb373, 2, none⟩ = some (.int .i64 t367) := (blk_cell BK373.out 2).trans rfl
     have hcz198_3 : wc.cell? ⟨gb373, 3, none⟩ = some (.int .i64 t368) := (blk_cell BK373.out 3).trans rfl
     have hfz198_0 := blk_frozen BK373.out 0
     have hfz198_1 := blk_frozen BK373.out 1
     have hfz198_2 := blk_frozen BK373.out 2
     have hfz198_3 := blk_frozen BK373.out 3
     go_wp2_with (first | ((with_reducible refine gate_callee (f := 77) rfl ?_); refine goesL_ (some 91) rfl rfl Try.func77 (by kernel_rfl) rfl #[.agg #[.int .i64 t365, .int .i64 t366, .int .i64 t367, .int .i64 t368]] rfl (by (try simp only [List.map_toArray, List.map_cons, List.map_nil]); first | done | rfl | (simp only [List.length_drop, List.length_take]; rfl)) ?_; (with_reducible refine (impl_BoxOk.calls t365 t366 t367 t368 false _ A162.out).mono ?_); rintro e w199 ⟨rfl, hb⟩; refine ⟨_, rfl, ?_⟩; replace BK373 := Aside0.mk (blk_below BK373.out hb); replace BK374 := Aside0.mk (blk_below BK374.out hb); replace BK379 := Aside0.mk (blk_below BK379.out hb); replace BK388 := Aside0.mk (blk_below BK388.out hb); replace BK389 := Aside0.mk (blk_below BK389.out hb); replace BK398 := Aside0.mk (blk_below BK398.out hb); replace BK399 := Aside0.mk (blk_below BK399.out hb); replace BK408 := Aside0.mk (blk_below BK408.out hb); replace BK409 := Aside0.mk (blk_below BK409.out hb); replace BK414 := Aside0.mk (blk_below BK414.out hb); replace BK419 := Aside0.mk (blk_below BK419.out hb); replace HB := Aside0.mk (below_step (by repeat (first | (with_reducible first | exact HB.out | apply below_alloc | apply pw_below_drewN | apply below_drew1 | refine below_set ?_ GE373.out | refine below_set ?_ GE374.out | refine below_set ?_ GE379.out | refine below_set ?_ GE388.out | refine below_set ?_ GE389.out | refine below_set ?_ GE398.out | refine below_set ?_ GE399.out | refine below_set ?_ GE408.out | refine below_set ?_ GE409.out | refine below_set ?_ GE414.out | refine below_set ?_ GE419.out) | exact HB.out)) hb); (try clear hb); (try clear hb2); (try clear hk); (try clear hi)))
     go_meet
     case rel => exact ⟨_, (false), (by first | rfl | (simp; done) | (simp [*]; done)), H', ⟨by have := HJ10.out; first | omega | exact Nat.le_refl _⟩, ⟨BK373.out⟩, ⟨BK374.out⟩, ⟨BK379.out⟩, ⟨BK388.out⟩, ⟨BK389.out⟩, ⟨BK398.out⟩, ⟨BK399.out⟩, ⟨BK408.out⟩, ⟨BK409.out⟩, ⟨BK414.out⟩, ⟨BK419.out⟩, ⟨by repeat (first | (with_reducible first | exact HB.out | apply below_alloc | apply pw_below_drewN | apply below_drew1 | refine below_set ?_ GE373.out | refine below_set ?_ GE374.out | refine below_set ?_ GE379.out | refine below_set ?_ GE388.out | refine below_set ?_ GE389.out | refine below_set ?_ GE398.out | refine below_set ?_ GE399.out | refine below_set ?_ GE408.out | refine below_set ?_ GE409.out | refine below_set ?_ GE414.out | refine below_set ?_ GE419.out) | exact HB.out)⟩⟩
   case rest =>
    clear HC161
    try clear c1; try clear p2; try clear c7; try clear c16; try clear c17; try clear c18; try clear c19; try clear c71; try clear c72; try clear c73; try clear c74; try clear c75; try clear c76; try clear c77; try clear c160; try clear c163; try clear c165; try clear c166; try clear c167; try clear c168; try clear c169; try clear c170; try clear c171; try clear c172; try clear c173; try clear c174; try clear c177; try clear c178; try clear c179; try clear c180; try clear c181; try clear c182; try clear c183; try clear c184; try clear c185; try clear c188; try clear c189; try clear c190; try clear c191; try clear c192; try clear c193; try clear c194; try clear c195; try clear c196; try clear c197; try clear hcz175_0; try clear hcz175_1; try clear hcz175_2; try clear hcz175_3; try clear hcz186_0; try clear hcz186_1; try clear hcz186_2; try clear hcz186_3; try clear hcz198_0; try clear hcz198_1; try clear hcz198_2; try clear hcz198_3; try clear hfz175_0; try clear hfz175_1; try clear hfz175_2; try clear hfz175_3; try clear hfz186_0; try clear hfz186_1; try clear hfz186_2; try clear hfz186_3; try clear hfz198_0; try clear hfz198_1; try clear hfz198_2; try clear hfz198_3; try clear p2
    obtain ⟨kq, x14_160, rfl, HA, HJ160, BK373, BK374, BK379, BK388, BK389, BK398, BK399, BK408, BK409, BK414, BK419, HB⟩ := hcut
    cases kq with
    | zero => exact absurd HA.out (by simp [laws_FnBoxes.j1])
    | succ kj160 =>
     have H := HA.out
     clear HA
     simp only [laws_FnBoxes.j1] at H
     replace H := Option.bind_eq_some_iff.mp H
     obtain ⟨t436, A2000, H⟩ := H
     (try dsimp only at H)
     have A200 := Aside0.mk A2000
     clear A2000
     by_cases c201 : t436 = true
     ·subst c201
      rw [if_pos rfl] at H
      replace H := Option.bind_eq_some_iff.mp H
      obtain ⟨t437, A2020, H⟩ := H
      (try dsimp only at H)
      have A202 := Aside0.mk A2020
      clear A2020
      by_cases c203 : t437 = true
      rotate_left
      ·replace c203 := Bool.eq_false_iff.mpr c203
       subst c203
       rw [if_neg (show ¬ (false = true) by decide)] at H
       exact absurd H (by simp)
      subst c203
      rw [if_pos rfl] at H
      replace H := Option.bind_eq_some_iff.mp H
      obtain ⟨⟨t438, t439, t440, t441⟩, A2040, H⟩ := H
      (try dsimp only at H)
      have A204 := Aside0.mk A2040
      clear A2040
      by_cases c205 : (t375 == t438 && (t376 == t439 && (t377 == t440 && (t378 == t441)))) = true
      rotate_left
      ·rw [if_neg c205] at H
       have c205b0 : (t375 == t438 && (t376 == t439 && (t377 == t440 && (t378 == t441)))) = false := by simpa using c205
       (try (have c205b1 : decide (t375 = t438 && (t376 == t439 && (t377 == t440 && (t378 == t441)))) = false := by simpa using c205))
       (try (have c205b2 : (t375 == t438 && (t376 == t439 && (t377 == t440 && (t378 == t441)))) = false := by simpa using c205))
       (try (have c205b3 : ¬ (t375 = t438 && (t376 == t439 && (t377 == t440 && (t378 == t441)))) := by simpa using c205))
       clear c205
       exact absurd H (by simp)
      rw [if_pos c205] at H
      have c205b0 : (t375 == t438 && (t376 == t439 && (t377 == t440 && (t378 == t441)))) = true := c205
      (try (have c205b1 : decide (t375 = t438 && (t376 == t439 && (t377 == t440 && (t378 == t441)))) = true := by simpa using c205))
      (try (have c205b2 : (t375 == t438 && (t376 == t439 && (t377 == t440 && (t378 == t441)))) = true := by simpa using c205))
      clear c205
      replace H := Option.bind_eq_some_iff.mp H
      obtain ⟨⟨t442, t443, t444, t445⟩, A2060, H⟩ := H
      (try dsimp only at H)
      have A206 := Aside0.mk A2060
      clear A2060
      by_cases c207 : (t442 == t365 && (t443 == t366 && (t444 == t367 && (t445 == t368)))) = true
      rotate_left
      ·rw [if_neg c207] at H
       have c207b0 : (t442 == t365 && (t443 == t366 && (t444 == t367 && (t445 == t368)))) = false := by simpa using c207
       (try (have c207b1 : decide (t442 = t365 && (t443 == t366 && (t444 == t367 && (t445 == t368)))) = false := by simpa using c207))
       (try (have c207b2 : (t442 == t365 && (t443 == t366 && (t444 == t367 && (t445 == t368)))) = false := by simpa using c207))
       (try (have c207b3 : ¬ (t442 = t365 && (t443 == t366 && (t444 == t367 && (t445 == t368)))) := by simpa using c207))
       clear c207
       exact absurd H (by simp)
      rw [if_pos c207] at H
      have c207b0 : (t442 == t365 && (t443 == t366 && (t444 == t367 && (t445 == t368)))) = true := c207
      (try (have c207b1 : decide (t442 = t365 && (t443 == t366 && (t444 == t367 && (t445 == t368)))) = true := by simpa using c207))
      (try (have c207b2 : (t442 == t365 && (t443 == t366 && (t444 == t367 && (t445 == t368)))) = true := by simpa using c207))
      clear c207
      by_cases c208 : x14_160 = true
      ·as_aux_lemma =>
       subst c208
       rw [if_pos rfl] at H
       replace H := Option.bind_eq_some_iff.mp H
       obtain ⟨t446, A2090, H⟩ := H
       (try dsimp only at H)
       have A209 := Aside0.mk A2090
       clear A2090
       by_cases c210 : t446 = true
       rotate_left
       ·replace c210 := Bool.eq_false_iff.mpr c210
        subst c210
        rw [if_neg (show ¬ (false = true) by decide)] at H
        exact absurd H (by simp)
       subst c210
       rw [if_pos rfl] at H
       replace H := Option.bind_eq_some_iff.mp H
       obtain ⟨t447, A2110, H⟩ := H
       (try dsimp only at H)
       have A211 := Aside0.mk A2110
       clear A2110
       replace H := Option.bind_eq_some_iff.mp H
       obtain ⟨t448, A2120, H⟩ := H
       (try dsimp only at H)
       have A212 := Aside0.mk A2120
       clear A2120
       by_cases c213 : t447 ≥ t448
       rotate_left
       ·rw [if_neg c213] at H
        have c213b0 : decide (t448 ≤ t447) = false := decide_eq_false c213
        clear c213
        exact absurd H (by simp)
       rw [if_pos c213] at H
       have c213b0 : decide (t448 ≤ t447) = true := decide_eq_true c213
       clear c213
       replace H := Option.bind_eq_some_iff.mp H
       obtain ⟨t449, A2140, H⟩ := H
       (try dsimp only at H)
       have A214 := Aside0.mk A2140
       clear A2140
       by_cases c215 : t449 ≥ 0
       rotate_left
       ·rw [if_neg c215] at H
        have c215b0 : decide (0 ≤ t449) = false := decide_eq_false c215
        clear c215
        exact absurd H (by simp)
       rw [if_pos c215] at H
       have c215b0 : decide (0 ≤ t449) = true := decide_eq_true c215
       clear c215
       replace H := Option.bind_eq_some_iff.mp H
       obtain ⟨t450, A2160, H⟩ := H
       (try dsimp only at H)
       have A216 := Aside0.mk A2160
       clear A2160
       replace H := Option.bind_eq_some_iff.mp H
       obtain ⟨t451, A2170, H⟩ := H
       (try dsimp only at H)
       have A217 := Aside0.mk A2170
       clear A2170
       by_cases c218 : (t450 == t451) = true
       rotate_left
       ·rw [if_neg c218] at H
        have c218b0 : (t450 == t451) = false := by simpa using c218
        (try (have c218b1 : decide (t450 = t451) = false := by simpa using c218))
        (try (have c218b2 : (t450 == t451) = false := by simpa using c218))
        (try (have c218b3 : ¬ (t450 = t451) := by simpa using c218))
        clear c218
        exact absurd H (by simp)
       rw [if_pos c218] at H
       have c218b0 : (t450 == t451) = true := c218
       (try (have c218b1 : decide (t450 = t451) = true := by simpa using c218))
       (try (have c218b2 : (t450 == t451) = true := by simpa using c218))
       clear c218
       replace H := Option.bind_eq_some_iff.mp H
       obtain ⟨t452, A2190, H⟩ := H
       (try dsimp only at H)
       have A219 := Aside0.mk A2190
       clear A2190
       by_cases c220 : t452 = true
       ·subst c220
        rw [if_pos rfl] at H
        replace H := Option.bind_eq_some_iff.mp H
        obtain ⟨t453, A2210, H⟩ := H
        (try dsimp only at H)
        have A221 := Aside0.mk A2210
        clear A2210
        by_cases c222 : t453 ≥ 1
        rotate_left
        ·rw [if_neg c222] at H
         have c222b0 : decide (1 ≤ t453) = false := decide_eq_false c222
         clear c222
         exact absurd H (by simp)
        rw [if_pos c222] at H
        have c222b0 : decide (1 ≤ t453) = true := decide_eq_true c222
        clear c222
        replace H := Option.bind_eq_some_iff.mp H
        obtain ⟨t454, A2230, H⟩ := H
        (try dsimp only at H)
        have A223 := Aside0.mk A2230
        clear A2230
        obtain rfl := Option.some.inj H
        try go_wp2
        replace BK373 := Aside0.mk (blk_drew BK373.out)
        replace BK374 := Aside0.mk (blk_drew BK374.out)
        replace BK379 := Aside0.mk (blk_drew BK379.out)
        replace BK388 := Aside0.mk (blk_drew BK388.out)
        replace BK389 := Aside0.mk (blk_drew BK389.out)
        replace BK398 := Aside0.mk (blk_drew BK398.out)
        replace BK399 := Aside0.mk (blk_drew BK399.out)
        replace BK408 := Aside0.mk (blk_drew BK408.out)
        replace BK409 := Aside0.mk (blk_drew BK409.out)
        replace BK414 := Aside0.mk (blk_drew BK414.out)
        replace BK419 := Aside0.mk (blk_drew BK419.out)
        replace HB := Aside0.mk (below_drew1 HB.out)
        refine start_ (n := 68) (S := fun w' => w'.cell? ⟨gb379, 0, none⟩ = some (.int .i64 t375) ∧ w'.cell? ⟨gb379, 1, none⟩ = some (.int .i64 t376) ∧ w'.cell? ⟨gb379, 2, none⟩ = some (.int .i64 t377) ∧ w'.cell? ⟨gb379, 3, none⟩ = some (.int .i64 t378) ∧ w'.cell? ⟨gb373, 0, none⟩ = some (.int .i64 t365) ∧ w'.cell? ⟨gb373, 1, none⟩ = some (.int .i64 t366) ∧ w'.cell? ⟨gb373, 2, none⟩ = some (.int .i64 t367) ∧ w'.cell? ⟨gb373, 3, none⟩ = some (.int .i64 t368) ∧ w'.cell? ⟨gb374, 0, none⟩ = some (.int .i64 t369) ∧ w'.cell? ⟨gb374, 1, none⟩ = some (.int .i64 t370) ∧ w'.cell? ⟨gb374, 2, none⟩ = some (.int .i64 t371) ∧ w'.cell? ⟨gb374, 3, none⟩ = some (.int .i64 t372) ∧ w'.cell? ⟨gb388, 0, none⟩ = some (.int .i64 t380) ∧ w'.cell? ⟨gb388, 1, none⟩ = some (.int .i64 t381) ∧ w'.cell? ⟨gb388, 2, none⟩ = some (.int .i64 t382) ∧ w'.cell? ⟨gb388, 3, none⟩ = some (.int .i64 t383) ∧ w'.cell? ⟨gb389, 0, none⟩ = some (.int .i64 t384) ∧ w'.cell? ⟨gb389, 1, none⟩ = some (.int .i64 t385) ∧ w'.cell? ⟨gb389, 2, none⟩ = some (.int .i64 t386) ∧ w'.cell? ⟨gb389, 3, none⟩ = some (.int .i64 t387) ∧ w'.cell? ⟨gb414, 0, none⟩ = some (.int .i64 t410) ∧ w'.cell? ⟨gb414, 1, none⟩ = some (.int .i64 t411) ∧ w'.cell? ⟨gb414, 2, none⟩ = some (.int .i64 t412) ∧ w'.cell? ⟨gb414, 3, none⟩ = some (.int .i64 t413)) (ds := []) #[false, false, false, false, false, false, false, false, false, false, false, false, false, false, false, false, false, false, false, false, false, false, false, false, false, false, false, false, false, false, false, false, false, false, false, false, false, false, false, false, false, false, false, false, false, false, false, false, false, false, false, false, false, false, false, false, false, false, false, false, false, false, false, false, false, false, false, false] (by kernel_rfl) rfl rfl ⟨(blk_cell BK379.out 0).trans rfl, (blk_cell BK379.out 1).trans rfl, (blk_cell BK379.out 2).trans rfl, (blk_cell BK379.out 3).trans rfl, (blk_cell BK373.out 0).trans rfl, (blk_cell BK373.out 1).trans rfl, (blk_cell BK373.out 2).trans rfl, (blk_cell BK373.out 3).trans rfl, (blk_cell BK374.out 0).trans rfl, (blk_cell BK374.out 1).trans rfl, (blk_cell BK374.out 2).trans rfl, (blk_cell BK374.out 3).trans rfl, (blk_cell BK388.out 0).trans rfl, (blk_cell BK388.out 1).trans rfl, (blk_cell BK388.out 2).trans rfl, (blk_cell BK388.out 3).trans rfl, (blk_cell BK389.out 0).trans rfl, (blk_cell BK389.out 1).trans rfl, (blk_cell BK389.out 2).trans rfl, (blk_cell BK389.out 3).trans rfl, (blk_cell BK414.out 0).trans rfl, (blk_cell BK414.out 1).trans rfl, (blk_cell BK414.out 2).trans rfl, (blk_cell BK414.out 3).trans rfl⟩ (fun hHeld => ?_); refine with_tabW laws_FnBoxes.tab13 laws_FnBoxes.bits13 (fun HT_ HW_ => ?_)
        generalize wc.drew = w224 at BK373 BK374 BK379 BK388 BK389 BK398 BK399 BK408 BK409 BK414 BK419 HB hHeld ⊢
        have HBR := Aside0.mk (Below.refl w224.heap.size w224)
        refine take_ (i := 0) (N := some 96) (v := ?_) (a' := ?_) (bm_ 68 1) rfl rfl (take_ofW HT_.out HW_.out (by kernel_rfl)) (fun _ _ _ h => h) (Or.inl ⟨by rfl, ?_⟩) hHeld ?_ ?_
        rotate_left
        ·intro w' hs_; repeat (obtain ⟨_, hs_⟩ := hs_)
         go_simp
         with_reducible rfl
        rotate_left
        ·simp only [Act.put, sA_, sB_, sC_, i64_w, i32_w]
         rfl
        refine take_ (i := 1) (N := some 97) (v := ?_) (a' := ?_) (bm_ 68 3) rfl rfl (take_ofW HT_.out HW_.out (by kernel_rfl)) (fun _ _ _ h => h) (Or.inl ⟨by rfl, ?_⟩) hHeld ?_ ?_
        rotate_left
        ·intro w' hs_; repeat (obtain ⟨_, hs_⟩ := hs_)
         go_simp
         with_reducible rfl
        rotate_left
        ·simp only [Act.put, sA_, sB_, sC_, i64_w, i32_w]
         rfl
        refine one_ (i := 2) (N := some 98) (bm_ 68 7) rfl rfl (one_of HT_.out (by kernel_rfl)) (by decide) (fun K hK => ?_)
        refine goes_ Try.func73 (by kernel_rfl) rfl #[.agg #[.int .i64 t375, .int .i64 t376, .int .i64 t377, .int .i64 t378], .agg #[.int .i64 t365, .int .i64 t366, .int .i64 t367, .int .i64 t368]] (by rfl) rfl rfl (by (try simp only [List.map_toArray, List.map_cons, List.map_nil]); first | done | rfl) ?_
        with_reducible refine (impl_Holds.calls t375 t376 t377 t378 t365 t366 t367 t368 true _ A200.out).mono ?_
        rintro e w225 ⟨rfl, hb⟩
        refine ⟨_, rfl, ?_⟩
        replace HBR := Aside0.mk (below_step HBR.out hb)
        replace hHeld := keep24_ hb hHeld
        clear hb
        refine hK.out _ _ hHeld (fun hHeld => ?_)
        clear hK K
        refine norm_ (a' := ?_) ?_ ?_
        rotate_left
        ·show Act.put _ (some 98) _ = _
         simp only [Act.put, sA_, sB_, sC_, i64_w, i32_w]
         rfl
        refine pure_ (i := 3) (N := some 99) (v := ?_) (a' := ?_) (bm_ 68 15) rfl rfl (any_of HT_.out (by kernel_rfl)) (fun _ _ _ h => h) (Or.inl ⟨by rfl, ?_⟩) ?_ ?_
        rotate_left
        ·intro w'
         go_simp
         with_reducible rfl
        rotate_left
        ·simp only [Act.put, sA_, sB_, sC_, i64_w, i32_w]
         rfl
        refine take_ (i := 4) (N := some 100) (v := ?_) (a' := ?_) (bm_ 68 31) rfl rfl (take_ofW HT_.out HW_.out (by kernel_rfl)) (fun _ _ _ h => h) (Or.inl ⟨by rfl, ?_⟩) hHeld ?_ ?_
        rotate_left
        ·intro w' hs_; repeat (obtain ⟨_, hs_⟩ := hs_)
         go_simp
         with_reducible rfl
        rotate_left
        ·simp only [Act.put, sA_, sB_, sC_, i64_w, i32_w]
         rfl
        refine take_ (i := 5) (N := some 101) (v := ?_) (a' := ?_) (bm_ 68 63) rfl rfl (take_ofW HT_.out HW_.out (by kernel_rfl)) (fun _ _ _ h => h) (Or.inl ⟨by rfl, ?_⟩) hHeld ?_ ?_
        rotate_left
        ·intro w' hs_; repeat (obtain ⟨_, hs_⟩ := hs_)
         go_simp
         with_reducible rfl
        rotate_left
        ·simp only [Act.put, sA_, sB_, sC_, i64_w, i32_w]
         rfl
        refine one_ (i := 6) (N := some 102) (bm_ 68 127) rfl rfl (one_of HT_.out (by kernel_rfl)) (by decide) (fun K hK => ?_)
        refine goes_ Try.func73 (by kernel_rfl) rfl #[.agg #[.int .i64 t375, .int .i64 t376, .int .i64 t377, .int .i64 t378], .agg #[.int .i64 t369, .int .i64 t370, .int .i64 t371, .int .i64 t372]] (by rfl) rfl rfl (by (try simp only [List.map_toArray, List.map_cons, List.map_nil]); first | done | rfl) ?_
        with_reducible refine (impl_Holds.calls t375 t376 t377 t378 t369 t370 t371 t372 true _ A202.out).mono ?_
        rintro e w226 ⟨rfl, hb⟩
        refine ⟨_, rfl, ?_⟩
        replace HBR := Aside0.mk (below_step HBR.out hb)
        replace hHeld := keep24_ hb hHeld
        clear hb
        refine hK.out _ _ hHeld (fun hHeld => ?_)
        clear hK K
        refine norm_ (a' := ?_) ?_ ?_
        rotate_left
        ·show Act.put _ (some 102) _ = _
         simp only [Act.put, sA_, sB_, sC_, i64_w, i32_w]
         rfl
        refine pure_ (i := 7) (N := some 103) (v := ?_) (a' := ?_) (bm_ 68 255) rfl rfl (any_of HT_.out (by kernel_rfl)) (fun _ _ _ h => h) (Or.inl ⟨by rfl, ?_⟩) ?_ ?_
        rotate_left
        ·intro w'
         go_simp
         with_reducible rfl
        rotate_left
        ·simp only [Act.put, sA_, sB_, sC_, i64_w, i32_w]
         rfl
        refine pure_ (i := 8) (N := some 104) (v := ?_) (a' := ?_) (bm_ 68 511) rfl rfl (any_of HT_.out (by kernel_rfl)) (fun _ _ _ h => h) (Or.inl ⟨by rfl, ?_⟩) ?_ ?_
        rotate_left
        ·intro w'
         go_simp
         with_reducible rfl
        rotate_left
        ·simp only [Act.put, sA_, sB_, sC_, i64_w, i32_w]
         rfl
        refine take_ (i := 9) (N := some 105) (v := ?_) (a' := ?_) (bm_ 68 1023) rfl rfl (take_ofW HT_.out HW_.out (by kernel_rfl)) (fun _ _ _ h => h) (Or.inl ⟨by rfl, ?_⟩) hHeld ?_ ?_
        rotate_left
        ·intro w' hs_; repeat (obtain ⟨_, hs_⟩ := hs_)
         go_simp
         with_reducible rfl
        rotate_left
        ·simp only [Act.put, sA_, sB_, sC_, i64_w, i32_w]
         rfl
        refine take_ (i := 10) (N := some 106) (v := ?_) (a' := ?_) (bm_ 68 2047) rfl rfl (take_ofW HT_.out HW_.out (by kernel_rfl)) (fun _ _ _ h => h) (Or.inl ⟨by rfl, ?_⟩) hHeld ?_ ?_
        rotate_left
        ·intro w' hs_; repeat (obtain ⟨_, hs_⟩ := hs_)
         go_simp
         with_reducible rfl
        rotate_left
        ·simp only [Act.put, sA_, sB_, sC_, i64_w, i32_w]
         rfl
        refine take_ (i := 11) (N := some 107) (v := ?_) (a' := ?_) (bm_ 68 4095) rfl rfl (take_ofW HT_.out HW_.out (by kernel_rfl)) (fun _ _ _ h => h) (Or.inl ⟨by rfl, ?_⟩) hHeld ?_ ?_
        rotate_left
        ·intro w' hs_; repeat (obtain ⟨_, hs_⟩ := hs_)
         go_simp
         with_reducible rfl
        rotate_left
        ·simp only [Act.put, sA_, sB_, sC_, i64_w, i32_w]
         rfl
        refine one_ (i := 12) (N := some 108) (bm_ 68 8191) rfl rfl (one_of HT_.out (by kernel_rfl)) (by decide) (fun K hK => ?_)
        refine goes_ Try.func64 (by kernel_rfl) rfl #[.agg #[.int .i64 t369, .int .i64 t370, .int .i64 t371, .int .i64 t372], .agg #[.int .i64 t365, .int .i64 t366, .int .i64 t367, .int .i64 t368]] (by rfl) rfl rfl (by (try simp only [List.map_toArray, List.map_cons, List.map_nil]); first | done | rfl) ?_
        with_reducible refine (impl_Join.calls t369 t370 t371 t372 t365 t366 t367 t368 t438 t439 t440 t441 _ A204.out).mono ?_
        rintro e w227 ⟨rfl, hb⟩
        refine ⟨_, rfl, ?_⟩
        replace HBR := Aside0.mk (below_step HBR.out hb)
        replace hHeld := keep24_ hb hHeld
        clear hb
        refine hK.out _ _ hHeld (fun hHeld => ?_)
        clear hK K
        refine norm_ (a' := ?_) ?_ ?_
        rotate_left
        ·show Act.put _ (some 108) _ = _
         simp only [Act.put, sA_, sB_, sC_, i64_w, i32_w]
         rfl
        refine pure_ (i := 13) (N := some 109) (v := ?_) (a' := ?_) (bm_ 68 16383) rfl rfl (any_of HT_.out (by kernel_rfl)) (fun _ _ _ h => h) (Or.inl ⟨by rfl, ?_⟩) ?_ ?_
        rotate_left
        ·intro w'
         go_simp
         with_reducible rfl
        rotate_left
        ·simp only [Act.put, sA_, sB_, sC_, i64_w, i32_w]
         rfl
        refine pure_ (i := 14) (N := some 110) (v := ?_) (a' := ?_) (bm_ 68 32767) rfl rfl (any_of HT_.out (by kernel_rfl)) (fun _ _ _ h => h) (Or.inl ⟨by rfl, ?_⟩) ?_ ?_
        rotate_left
        ·intro w'
         go_simp
         with_reducible rfl
        rotate_left
        ·simp only [Act.put, sA_, sB_, sC_, i64_w, i32_w]
         rfl
        refine pure_ (i := 15) (N := some 111) (v := ?_) (a' := ?_) (bm_ 68 65535) rfl rfl (any_of HT_.out (by kernel_rfl)) (fun _ _ _ h => h) (Or.inl ⟨by rfl, ?_⟩) ?_ ?_
        rotate_left
        ·intro w'
         go_simp
         with_reducible rfl
        rotate_left
        ·simp only [Act.put, sA_, sB_, sC_, i64_w, i32_w]
         rfl
        refine take_ (i := 16) (N := some 112) (v := ?_) (a' := ?_) (bm_ 68 131071) rfl rfl (take_ofW HT_.out HW_.out (by kernel_rfl)) (fun _ _ _ h => h) (Or.inl ⟨by rfl, ?_⟩) hHeld ?_ ?_
        rotate_left
        ·intro w' hs_; repeat (obtain ⟨_, hs_⟩ := hs_)
         go_simp
         with_reducible rfl
        rotate_left
        ·simp only [Act.put, sA_, sB_, sC_, i64_w, i32_w]
         rfl
        refine take_ (i := 17) (N := some 113) (v := ?_) (a' := ?_) (bm_ 68 262143) rfl rfl (take_ofW HT_.out HW_.out (by kernel_rfl)) (fun _ _ _ h => h) (Or.inl ⟨by rfl, ?_⟩) hHeld ?_ ?_
        rotate_left
        ·intro w' hs_; repeat (obtain ⟨_, hs_⟩ := hs_)
         go_simp
         with_reducible rfl
        rotate_left
        ·simp only [Act.put, sA_, sB_, sC_, i64_w, i32_w]
         rfl
        refine take_ (i := 19) (N := some 115) (v := ?_) (a' := ?_) (bm_ 68 786431) rfl rfl (take_ofW HT_.out HW_.out (by kernel_rfl)) (fun _ _ _ h => h) (Or.inl ⟨by rfl, ?_⟩) hHeld ?_ ?_
        rotate_left
        ·intro w' hs_; repeat (obtain ⟨_, hs_⟩ := hs_)
         go_simp
         with_reducible rfl
        rotate_left
        ·simp only [Act.put, sA_, sB_, sC_, i64_w, i32_w]
         rfl
        refine one_ (i := 18) (N := some 114) (bm_ 68 1048575) rfl rfl (one_of HT_.out (by kernel_rfl)) (by decide) (fun K hK => ?_)
        refine goes_ Try.func64 (by kernel_rfl) rfl #[.agg #[.int .i64 t365, .int .i64 t366, .int .i64 t367, .int .i64 t368], .agg #[.int .i64 t365, .int .i64 t366, .int .i64 t367, .int .i64 t368]] (by rfl) rfl rfl (by (try simp only [List.map_toArray, List.map_cons, List.map_nil]); first | done | rfl) ?_
        with_reducible refine (impl_Join.calls t365 t366 t367 t368 t365 t366 t367 t368 t442 t443 t444 t445 _ A206.out).mono ?_
        rintro e w228 ⟨rfl, hb⟩
        refine ⟨_, rfl, ?_⟩
        replace HBR := Aside0.mk (below_step HBR.out hb)
        replace hHeld := keep24_ hb hHeld
        clear hb
        refine hK.out _ _ hHeld (fun hHeld => ?_)
        clear hK K
        refine norm_ (a' := ?_) ?_ ?_
        rotate_left
        ·show Act.put _ (some 114) _ = _
         simp only [Act.put, sA_, sB_, sC_, i64_w, i32_w]
         rfl
        refine pure_ (i := 20) (N := some 116) (v := ?_) (a' := ?_) (bm_ 68 2097151) rfl rfl (any_of HT_.out (by kernel_rfl)) (fun _ _ _ h => h) (Or.inl ⟨by rfl, ?_⟩) ?_ ?_
        rotate_left
        ·intro w'
         go_simp
         with_reducible rfl
        rotate_left
        ·simp only [Act.put, sA_, sB_, sC_, i64_w, i32_w]
         rfl
        refine pure_ (i := 21) (N := some 117) (v := ?_) (a' := ?_) (bm_ 68 4194303) rfl rfl (any_of HT_.out (by kernel_rfl)) (fun _ _ _ h => h) (Or.inl ⟨by rfl, ?_⟩) ?_ ?_
        rotate_left
        ·intro w'
         go_simp
         with_reducible rfl
        rotate_left
        ·simp only [Act.put, sA_, sB_, sC_, i64_w, i32_w]
         rfl
        refine pure_ (i := 22) (N := some 118) (v := ?_) (a' := ?_) (bm_ 68 8388607) rfl rfl (any_of HT_.out (by kernel_rfl)) (fun _ _ _ h => h) (Or.inl ⟨by rfl, ?_⟩) ?_ ?_
        rotate_left
        ·intro w'
         go_simp
         with_reducible rfl
        rotate_left
        ·simp only [Act.put, sA_, sB_, sC_, i64_w, i32_w]
         rfl
        refine pure_ (i := 23) (N := some 119) (v := ?_) (a' := ?_) (bm_ 68 16777215) rfl rfl (any_of HT_.out (by kernel_rfl)) (fun _ _ _ h => h) (Or.inl ⟨by rfl, ?_⟩) ?_ ?_
        rotate_left
        ·intro w'
         go_simp
         with_reducible rfl
        rotate_left
        ·simp only [Act.put, sA_, sB_, sC_, i64_w, i32_w]
         rfl
        refine pure_ (i := 24) (N := some 120) (v := ?_) (a' := ?_) (bm_ 68 33554431) rfl rfl (any_of HT_.out (by kernel_rfl)) (fun _ _ _ h => h) (Or.inl ⟨by rfl, ?_⟩) ?_ ?_
        rotate_left
        ·intro w'
         go_simp
         with_reducible rfl
        rotate_left
        ·simp only [Act.put, sA_, sB_, sC_, i64_w, i32_w]
         rfl
        refine pure_ (i := 25) (N := some 121) (v := ?_) (a' := ?_) (bm_ 68 67108863) rfl rfl (any_of HT_.out (by kernel_rfl)) (fun _ _ _ h => h) (Or.inl ⟨by rfl, ?_⟩) ?_ ?_
        rotate_left
        ·intro w'
         go_simp
         with_reducible rfl
        rotate_left
        ·simp only [Act.put, sA_, sB_, sC_, i64_w, i32_w]
         rfl
        refine take_ (i := 26) (N := some 122) (v := ?_) (a' := ?_) (bm_ 68 134217727) rfl rfl (take_ofW HT_.out HW_.out (by kernel_rfl)) (fun _ _ _ h => h) (Or.inl ⟨by rfl, ?_⟩) hHeld ?_ ?_
        rotate_left
        ·intro w' hs_; repeat (obtain ⟨_, hs_⟩ := hs_)
         go_simp
         with_reducible rfl
        rotate_left
        ·simp only [Act.put, sA_, sB_, sC_, i64_w, i32_w]
         rfl
        refine one_ (i := 27) (N := some 123) (bm_ 68 268435455) rfl rfl (one_of HT_.out (by kernel_rfl)) (by decide) (fun K hK => ?_)
        refine goes_ Try.func77 (by kernel_rfl) rfl #[.agg #[.int .i64 t375, .int .i64 t376, .int .i64 t377, .int .i64 t378]] (by rfl) rfl rfl (by (try simp only [List.map_toArray, List.map_cons, List.map_nil]); first | done | rfl) ?_
        with_reducible refine (impl_BoxOk.calls t375 t376 t377 t378 true _ A209.out).mono ?_
        rintro e w229 ⟨rfl, hb⟩
        refine ⟨_, rfl, ?_⟩
        replace HBR := Aside0.mk (below_step HBR.out hb)
        replace hHeld := keep24_ hb hHeld
        clear hb
        refine hK.out _ _ hHeld (fun hHeld => ?_)
        clear hK K
        refine norm_ (a' := ?_) ?_ ?_
        rotate_left
        ·show Act.put _ (some 123) _ = _
         simp only [Act.put, sA_, sB_, sC_, i64_w, i32_w]
         rfl
        refine pure_ (i := 28) (N := some 124) (v := ?_) (a' := ?_) (bm_ 68 536870911) rfl rfl (any_of HT_.out (by kernel_rfl)) (fun _ _ _ h => h) (Or.inl ⟨by rfl, ?_⟩) ?_ ?_
        rotate_left
        ·intro w'
         go_simp
         with_reducible rfl
        rotate_left
        ·simp only [Act.put, sA_, sB_, sC_, i64_w, i32_w]
         rfl
        refine take_ (i := 29) (N := some 125) (v := ?_) (a' := ?_) (bm_ 68 1073741823) rfl rfl (take_ofW HT_.out HW_.out (by kernel_rfl)) (fun _ _ _ h => h) (Or.inl ⟨by rfl, ?_⟩) hHeld ?_ ?_
        rotate_left
        ·intro w' hs_; repeat (obtain ⟨_, hs_⟩ := hs_)
         go_simp
         with_reducible rfl
        rotate_left
        ·simp only [Act.put, sA_, sB_, sC_, i64_w, i32_w]
         rfl
        refine take_ (i := 31) (N := some 127) (v := ?_) (a' := ?_) (bm_ 68 3221225471) rfl rfl (take_ofW HT_.out HW_.out (by kernel_rfl)) (fun _ _ _ h => h) (Or.inl ⟨by rfl, ?_⟩) hHeld ?_ ?_
        rotate_left
        ·intro w' hs_; repeat (obtain ⟨_, hs_⟩ := hs_)
         go_simp
         with_reducible rfl
        rotate_left
        ·simp only [Act.put, sA_, sB_, sC_, i64_w, i32_w]
         rfl
        refine one_ (i := 30) (N := some 126) (bm_ 68 4294967295) rfl rfl (one_of HT_.out (by kernel_rfl)) (by decide) (fun K hK => ?_)
        refine goes_ Try.func79 (by kernel_rfl) rfl #[.agg #[.int .i64 t375, .int .i64 t376, .int .i64 t377, .int .i64 t378]] (by rfl) rfl rfl (by (try simp only [List.map_toArray, List.map_cons, List.map_nil]); first | done | rfl) ?_
        with_reducible refine (impl_Area.calls t375 t376 t377 t378 t447 _ A211.out).mono ?_
        rintro e w230 ⟨rfl, hb⟩
        refine ⟨_, rfl, ?_⟩
        replace HBR := Aside0.mk (below_step HBR.out hb)
        replace hHeld := keep24_ hb hHeld
        clear hb
        refine hK.out _ _ hHeld (fun hHeld => ?_)
        clear hK K
        refine norm_ (a' := ?_) ?_ ?_
        rotate_left
        ·show Act.put _ (some 126) _ = _
         simp only [Act.put, sA_, sB_, sC_, i64_w, i32_w]
         rfl
        refine one_ (i := 32) (N := some 128) (bm_ 68 8589934591) rfl rfl (one_of HT_.out (by kernel_rfl)) (by decide) (fun K hK => ?_)
        refine goes_ Try.func79 (by kernel_rfl) rfl #[.agg #[.int .i64 t365, .int .i64 t366, .int .i64 t367, .int .i64 t368]] (by rfl) rfl rfl (by (try simp only [List.map_toArray, List.map_cons, List.map_nil]); first | done | rfl) ?_
        with_reducible refine (impl_Area.calls t365 t366 t367 t368 t448 _ A212.out).mono ?_
        rintro e w231 ⟨rfl, hb⟩
        refine ⟨_, rfl, ?_⟩
        replace HBR := Aside0.mk (below_step HBR.out hb)
        replace hHeld := keep24_ hb hHeld
        clear hb
        refine hK.out _ _ hHeld (fun hHeld => ?_)
        clear hK K
        refine norm_ (a' := ?_) ?_ ?_
        rotate_left
        ·show Act.put _ (some 128) _ = _
         simp only [Act.put, sA_, sB_, sC_, i64_w, i32_w]
         rfl
        refine pure_ (i := 33) (N := some 129) (v := ?_) (a' := ?_) (bm_ 68 17179869183) rfl rfl (any_of HT_.out (by kernel_rfl)) (fun _ _ _ h => h) (Or.inl ⟨by rfl, ?_⟩) ?_ ?_
        rotate_left
        ·intro w'
         go_simp
         with_reducible rfl
        rotate_left
        ·simp only [Act.put, sA_, sB_, sC_, i64_w, i32_w]
         rfl
        refine pure_ (i := 34) (N := some 130) (v := ?_) (a' := ?_) (bm_ 68 34359738367) rfl rfl (any_of HT_.out (by kernel_rfl)) (fun _ _ _ h => h) (Or.inl ⟨by rfl, ?_⟩) ?_ ?_
        rotate_left
        ·intro w'
         go_simp
         with_reducible rfl
        rotate_left
        ·simp only [Act.put, sA_, sB_, sC_, i64_w, i32_w]
         rfl
        refine pure_ (i := 35) (N := some 131) (v := ?_) (a' := ?_) (bm_ 68 68719476735) rfl rfl (any_of HT_.out (by kernel_rfl)) (fun _ _ _ h => h) (Or.inl ⟨by rfl, ?_⟩) ?_ ?_
        rotate_left
        ·intro w'
         go_simp
         with_reducible rfl
        rotate_left
        ·simp only [Act.put, sA_, sB_, sC_, i64_w, i32_w]
         rfl
        refine take_ (i := 36) (N := some 132) (v := ?_) (a' := ?_) (bm_ 68 137438953471) rfl rfl (take_ofW HT_.out HW_.out (by kernel_rfl)) (fun _ _ _ h => h) (Or.inl ⟨by rfl, ?_⟩) hHeld ?_ ?_
        rotate_left
        ·intro w' hs_; repeat (obtain ⟨_, hs_⟩ := hs_)
         go_simp
         with_reducible rfl
        rotate_left
        ·simp only [Act.put, sA_, sB_, sC_, i64_w, i32_w]
         rfl
        refine take_ (i := 37) (N := some 133) (v := ?_) (a' := ?_) (bm_ 68 274877906943) rfl rfl (take_ofW HT_.out HW_.out (by kernel_rfl)) (fun _ _ _ h => h) (Or.inl ⟨by rfl, ?_⟩) hHeld ?_ ?_
        rotate_left
        ·intro w' hs_; repeat (obtain ⟨_, hs_⟩ := hs_)
         go_simp
         with_reducible rfl
        rotate_left
        ·simp only [Act.put, sA_, sB_, sC_, i64_w, i32_w]
         rfl
        refine one_ (i := 38) (N := some 134) (bm_ 68 549755813887) rfl rfl (one_of HT_.out (by kernel_rfl)) (by decide) (fun K hK => ?_)
        refine goes_ Try.func75 (by kernel_rfl) rfl #[.agg #[.int .i64 t365, .int .i64 t366, .int .i64 t367, .int .i64 t368], .agg #[.int .i64 t369, .int .i64 t370, .int .i64 t371, .int .i64 t372]] (by rfl) rfl rfl (by (try simp only [List.map_toArray, List.map_cons, List.map_nil]); first | done | rfl) ?_
        with_reducible refine (impl_Growth.calls t365 t366 t367 t368 t369 t370 t371 t372 t449 _ A214.out).mono ?_
        rintro e w232 ⟨rfl, hb⟩
        refine ⟨_, rfl, ?_⟩
        replace HBR := Aside0.mk (below_step HBR.out hb)
        replace hHeld := keep24_ hb hHeld
        clear hb
        refine hK.out _ _ hHeld (fun hHeld => ?_)
        clear hK K
        refine norm_ (a' := ?_) ?_ ?_
        rotate_left
        ·show Act.put _ (some 134) _ = _
         simp only [Act.put, sA_, sB_, sC_, i64_w, i32_w]
         rfl
        refine pure_ (i := 39) (N := some 135) (v := ?_) (a' := ?_) (bm_ 68 1099511627775) rfl rfl (any_of HT_.out (by kernel_rfl)) (fun _ _ _ h => h) (Or.inl ⟨by rfl, ?_⟩) ?_ ?_
        rotate_left
        ·intro w'
         go_simp
         with_reducible rfl
        rotate_left
        ·simp only [Act.put, sA_, sB_, sC_, i64_w, i32_w]
         rfl
        refine pure_ (i := 40) (N := some 136) (v := ?_) (a' := ?_) (bm_ 68 2199023255551) rfl rfl (any_of HT_.out (by kernel_rfl)) (fun _ _ _ h => h) (Or.inl ⟨by rfl, ?_⟩) ?_ ?_
        rotate_left
        ·intro w'
         go_simp
         with_reducible rfl
        rotate_left
        ·simp only [Act.put, sA_, sB_, sC_, i64_w, i32_w]
         rfl
        refine pure_ (i := 41) (N := some 137) (v := ?_) (a' := ?_) (bm_ 68 4398046511103) rfl rfl (any_of HT_.out (by kernel_rfl)) (fun _ _ _ h => h) (Or.inl ⟨by rfl, ?_⟩) ?_ ?_
        rotate_left
        ·intro w'
         go_simp
         with_reducible rfl
        rotate_left
        ·simp only [Act.put, sA_, sB_, sC_, i64_w, i32_w]
         rfl
        refine pure_ (i := 42) (N := some 138) (v := ?_) (a' := ?_) (bm_ 68 8796093022207) rfl rfl (any_of HT_.out (by kernel_rfl)) (fun _ _ _ h => h) (Or.inl ⟨by rfl, ?_⟩) ?_ ?_
        rotate_left
        ·intro w'
         go_simp
         with_reducible rfl
        rotate_left
        ·simp only [Act.put, sA_, sB_, sC_, i64_w, i32_w]
         rfl
        refine pure_ (i := 43) (N := some 139) (v := ?_) (a' := ?_) (bm_ 68 17592186044415) rfl rfl (any_of HT_.out (by kernel_rfl)) (fun _ _ _ h => h) (Or.inl ⟨by rfl, ?_⟩) ?_ ?_
        rotate_left
        ·intro w'
         go_simp
         with_reducible rfl
        rotate_left
        ·simp only [Act.put, sA_, sB_, sC_, i64_w, i32_w]
         rfl
        refine take_ (i := 44) (N := some 140) (v := ?_) (a' := ?_) (bm_ 68 35184372088831) rfl rfl (take_ofW HT_.out HW_.out (by kernel_rfl)) (fun _ _ _ h => h) (Or.inl ⟨by rfl, ?_⟩) hHeld ?_ ?_
        rotate_left
        ·intro w' hs_; repeat (obtain ⟨_, hs_⟩ := hs_)
         go_simp
         with_reducible rfl
        rotate_left
        ·simp only [Act.put, sA_, sB_, sC_, i64_w, i32_w]
         rfl
        refine take_ (i := 45) (N := some 141) (v := ?_) (a' := ?_) (bm_ 68 70368744177663) rfl rfl (take_ofW HT_.out HW_.out (by kernel_rfl)) (fun _ _ _ h => h) (Or.inl ⟨by rfl, ?_⟩) hHeld ?_ ?_
        rotate_left
        ·intro w' hs_; repeat (obtain ⟨_, hs_⟩ := hs_)
         go_simp
         with_reducible rfl
        rotate_left
        ·simp only [Act.put, sA_, sB_, sC_, i64_w, i32_w]
         rfl
        refine take_ (i := 47) (N := some 143) (v := ?_) (a' := ?_) (bm_ 68 211106232532991) rfl rfl (take_ofW HT_.out HW_.out (by kernel_rfl)) (fun _ _ _ h => h) (Or.inl ⟨by rfl, ?_⟩) hHeld ?_ ?_
        rotate_left
        ·intro w' hs_; repeat (obtain ⟨_, hs_⟩ := hs_)
         go_simp
         with_reducible rfl
        rotate_left
        ·simp only [Act.put, sA_, sB_, sC_, i64_w, i32_w]
         rfl
        refine take_ (i := 48) (N := some 144) (v := ?_) (a' := ?_) (bm_ 68 492581209243647) rfl rfl (take_ofW HT_.out HW_.out (by kernel_rfl)) (fun _ _ _ h => h) (Or.inl ⟨by rfl, ?_⟩) hHeld ?_ ?_
        rotate_left
        ·intro w' hs_; repeat (obtain ⟨_, hs_⟩ := hs_)
         go_simp
         with_reducible rfl
        rotate_left
        ·simp only [Act.put, sA_, sB_, sC_, i64_w, i32_w]
         rfl
        refine one_ (i := 46) (N := some 142) (bm_ 68 562949953421311) rfl rfl (one_of HT_.out (by kernel_rfl)) (by decide) (fun K hK => ?_)
        refine goes_ Try.func71 (by kernel_rfl) rfl #[.agg #[.int .i64 t380, .int .i64 t381, .int .i64 t382, .int .i64 t383], .agg #[.int .i64 t384, .int .i64 t385, .int .i64 t386, .int .i64 t387]] (by rfl) rfl rfl (by (try simp only [List.map_toArray, List.map_cons, List.map_nil]); first | done | rfl) ?_
        with_reducible refine (impl_Meets.calls t380 t381 t382 t383 t384 t385 t386 t387 t450 _ A216.out).mono ?_
        rintro e w233 ⟨rfl, hb⟩
        refine ⟨_, rfl, ?_⟩
        replace HBR := Aside0.mk (below_step HBR.out hb)
        replace hHeld := keep24_ hb hHeld
        clear hb
        refine hK.out _ _ hHeld (fun hHeld => ?_)
        clear hK K
        refine norm_ (a' := ?_) ?_ ?_
        rotate_left
        ·show Act.put _ (some 142) _ = _
         simp only [Act.put, sA_, sB_, sC_, i64_w, i32_w]
         rfl
        refine one_ (i := 49) (N := some 145) (bm_ 68 1125899906842623) rfl rfl (one_of HT_.out (by kernel_rfl)) (by decide) (fun K hK => ?_)
        refine goes_ Try.func71 (by kernel_rfl) rfl #[.agg #[.int .i64 t384, .int .i64 t385, .int .i64 t386, .int .i64 t387], .agg #[.int .i64 t380, .int .i64 t381, .int .i64 t382, .int .i64 t383]] (by rfl) rfl rfl (by (try simp only [List.map_toArray, List.map_cons, List.map_nil]); first | done | rfl) ?_
        with_reducible refine (impl_Meets.calls t384 t385 t386 t387 t380 t381 t382 t383 t451 _ A217.out).mono ?_
        rintro e w234 ⟨rfl, hb⟩
        refine ⟨_, rfl, ?_⟩
        replace HBR := Aside0.mk (below_step HBR.out hb)
        replace hHeld := keep24_ hb hHeld
        clear hb
        refine hK.out _ _ hHeld (fun hHeld => ?_)
        clear hK K
        refine norm_ (a' := ?_) ?_ ?_
        rotate_left
        ·show Act.put _ (some 145) _ = _
         simp only [Act.put, sA_, sB_, sC_, i64_w, i32_w]
         rfl
        refine pure_ (i := 50) (N := some 146) (v := ?_) (a' := ?_) (bm_ 68 2251799813685247) rfl rfl (any_of HT_.out (by kernel_rfl)) (fun _ _ _ h => h) (Or.inl ⟨by rfl, ?_⟩) ?_ ?_
        rotate_left
        ·intro w'
         go_simp
         with_reducible rfl
        rotate_left
        ·simp only [Act.put, sA_, sB_, sC_, i64_w, i32_w]
         rfl
        refine pure_ (i := 51) (N := some 147) (v := ?_) (a' := ?_) (bm_ 68 4503599627370495) rfl rfl (any_of HT_.out (by kernel_rfl)) (fun _ _ _ h => h) (Or.inl ⟨by rfl, ?_⟩) ?_ ?_
        rotate_left
        ·intro w'
         go_simp
         with_reducible rfl
        rotate_left
        ·simp only [Act.put, sA_, sB_, sC_, i64_w, i32_w]
         rfl
        refine pure_ (i := 52) (N := some 148) (v := ?_) (a' := ?_) (bm_ 68 9007199254740991) rfl rfl (any_of HT_.out (by kernel_rfl)) (fun _ _ _ h => h) (Or.inl ⟨by rfl, ?_⟩) ?_ ?_
        rotate_left
        ·intro w'
         go_simp
         with_reducible rfl
        rotate_left
        ·simp only [Act.put, sA_, sB_, sC_, i64_w, i32_w]
         rfl
        refine take_ (i := 53) (N := some 149) (v := ?_) (a' := ?_) (bm_ 68 18014398509481983) rfl rfl (take_ofW HT_.out HW_.out (by kernel_rfl)) (fun _ _ _ h => h) (Or.inl ⟨by rfl, ?_⟩) hHeld ?_ ?_
        rotate_left
        ·intro w' hs_; repeat (obtain ⟨_, hs_⟩ := hs_)
         go_simp
         with_reducible rfl
        rotate_left
        ·simp only [Act.put, sA_, sB_, sC_, i64_w, i32_w]
         rfl
        refine one_ (i := 54) (N := some 150) (bm_ 68 36028797018963967) rfl rfl (one_of HT_.out (by kernel_rfl)) (by decide) (fun K hK => ?_)
        refine goes_ Try.func77 (by kernel_rfl) rfl #[.agg #[.int .i64 t410, .int .i64 t411, .int .i64 t412, .int .i64 t413]] (by rfl) rfl rfl (by (try simp only [List.map_toArray, List.map_cons, List.map_nil]); first | done | rfl) ?_
        with_reducible refine (impl_BoxOk.calls t410 t411 t412 t413 true _ A219.out).mono ?_
        rintro e w235 ⟨rfl, hb⟩
        refine ⟨_, rfl, ?_⟩
        replace HBR := Aside0.mk (below_step HBR.out hb)
        replace hHeld := keep24_ hb hHeld
        clear hb
        refine hK.out _ _ hHeld (fun hHeld => ?_)
        clear hK K
        refine norm_ (a' := ?_) ?_ ?_
        rotate_left
        ·show Act.put _ (some 150) _ = _
         simp only [Act.put, sA_, sB_, sC_, i64_w, i32_w]
         rfl
        refine pure_ (i := 55) (N := some 151) (v := ?_) (a' := ?_) (bm_ 68 72057594037927935) rfl rfl (any_of HT_.out (by kernel_rfl)) (fun _ _ _ h => h) (Or.inl ⟨by rfl, ?_⟩) ?_ ?_
        rotate_left
        ·intro w'
         go_simp
         with_reducible rfl
        rotate_left
        ·simp only [Act.put, sA_, sB_, sC_, i64_w, i32_w]
         rfl
        refine pure_ (i := 56) (N := some 152) (v := ?_) (a' := ?_) (bm_ 68 144115188075855871) rfl rfl (any_of HT_.out (by kernel_rfl)) (fun _ _ _ h => h) (Or.inl ⟨by rfl, ?_⟩) ?_ ?_
        rotate_left
        ·intro w'
         go_simp
         with_reducible rfl
        rotate_left
        ·simp only [Act.put, sA_, sB_, sC_, i64_w, i32_w]
         rfl
        refine take_ (i := 57) (N := some 153) (v := ?_) (a' := ?_) (bm_ 68 288230376151711743) rfl rfl (take_ofW HT_.out HW_.out (by kernel_rfl)) (fun _ _ _ h => h) (Or.inl ⟨by rfl, ?_⟩) hHeld ?_ ?_
        rotate_left
        ·intro w' hs_; repeat (obtain ⟨_, hs_⟩ := hs_)
         go_simp
         with_reducible rfl
        rotate_left
        ·simp only [Act.put, sA_, sB_, sC_, i64_w, i32_w]
         rfl
        refine one_ (i := 58) (N := some 154) (bm_ 68 576460752303423487) rfl rfl (one_of HT_.out (by kernel_rfl)) (by decide) (fun K hK => ?_)
        refine goes_ Try.func79 (by kernel_rfl) rfl #[.agg #[.int .i64 t410, .int .i64 t411, .int .i64 t412, .int .i64 t413]] (by rfl) rfl rfl (by (try simp only [List.map_toArray, List.map_cons, List.map_nil]); first | done | rfl) ?_
        with_reducible refine (impl_Area.calls t410 t411 t412 t413 t453 _ A221.out).mono ?_
        rintro e w236 ⟨rfl, hb⟩
        refine ⟨_, rfl, ?_⟩
        replace HBR := Aside0.mk (below_step HBR.out hb)
        replace hHeld := keep24_ hb hHeld
        clear hb
        refine hK.out _ _ hHeld (fun hHeld => ?_)
        clear hK K
        refine norm_ (a' := ?_) ?_ ?_
        rotate_left
        ·show Act.put _ (some 154) _ = _
         simp only [Act.put, sA_, sB_, sC_, i64_w, i32_w]
         rfl
        refine pure_ (i := 59) (N := some 155) (v := ?_) (a' := ?_) (bm_ 68 1152921504606846975) rfl rfl (any_of HT_.out (by kernel_rfl)) (fun _ _ _ h => h) (Or.inl ⟨by rfl, ?_⟩) ?_ ?_
        rotate_left
        ·intro w'
         go_simp
         with_reducible rfl
        rotate_left
        ·simp only [Act.put, sA_, sB_, sC_, i64_w, i32_w]
         rfl
        refine pure_ (i := 60) (N := some 156) (v := ?_) (a' := ?_) (bm_ 68 2305843009213693951) rfl rfl (any_of HT_.out (by kernel_rfl)) (fun _ _ _ h => h) (Or.inl ⟨by rfl, ?_⟩) ?_ ?_
        rotate_left
        ·intro w'
         go_simp
         with_reducible rfl
        rotate_left
        ·simp only [Act.put, sA_, sB_, sC_, i64_w, i32_w]
         rfl
        refine take_ (i := 61) (N := some 157) (v := ?_) (a' := ?_) (bm_ 68 4611686018427387903) rfl rfl (take_ofW HT_.out HW_.out (by kernel_rfl)) (fun _ _ _ h => h) (Or.inl ⟨by rfl, ?_⟩) hHeld ?_ ?_
        rotate_left
        ·intro w' hs_; repeat (obtain ⟨_, hs_⟩ := hs_)
         go_simp
         with_reducible rfl
        rotate_left
        ·simp only [Act.put, sA_, sB_, sC_, i64_w, i32_w]
         rfl
        refine take_ (i := 62) (N := some 158) (v := ?_) (a' := ?_) (bm_ 68 9223372036854775807) rfl rfl (take_ofW HT_.out HW_.out (by kernel_rfl)) (fun _ _ _ h => h) (Or.inl ⟨by rfl, ?_⟩) hHeld ?_ ?_
        rotate_left
        ·intro w' hs_; repeat (obtain ⟨_, hs_⟩ := hs_)
         go_simp
         with_reducible rfl
        rotate_left
        ·simp only [Act.put, sA_, sB_, sC_, i64_w, i32_w]
         rfl
        refine one_ (i := 63) (N := some 159) (bm_ 68 18446744073709551615) rfl rfl (one_of HT_.out (by kernel_rfl)) (by decide) (fun K hK => ?_)
        refine goes_ Try.func71 (by kernel_rfl) rfl #[.agg #[.int .i64 t410, .int .i64 t411, .int .i64 t412, .int .i64 t413], .agg #[.int .i64 t410, .int .i64 t411, .int .i64 t412, .int .i64 t413]] (by rfl) rfl rfl (by (try simp only [List.map_toArray, List.map_cons, List.map_nil]); first | done | rfl) ?_
        with_reducible refine (impl_Meets.calls t410 t411 t412 t413 t410 t411 t412 t413 true _ A223.out).mono ?_
        rintro e w237 ⟨rfl, hb⟩
        refine ⟨_, rfl, ?_⟩
        replace HBR := Aside0.mk (below_step HBR.out hb)
        replace hHeld := keep24_ hb hHeld
        clear hb
        refine hK.out _ _ hHeld (fun hHeld => ?_)
        clear hK K
        refine norm_ (a' := ?_) ?_ ?_
        rotate_left
        ·show Act.put _ (some 159) _ = _
         simp only [Act.put, sA_, sB_, sC_, i64_w, i32_w]
         rfl
        refine pure_ (i := 64) (N := some 160) (v := ?_) (a' := ?_) (bm_ 68 36893488147419103231) rfl rfl (any_of HT_.out (by kernel_rfl)) (fun _ _ _ h => h) (Or.inl ⟨by rfl, ?_⟩) ?_ ?_
        rotate_left
        ·intro w'
         go_simp
         with_reducible rfl
        rotate_left
        ·simp only [Act.put, sA_, sB_, sC_, i64_w, i32_w]
         rfl
        refine pure_ (i := 65) (N := some 161) (v := ?_) (a' := ?_) (bm_ 68 73786976294838206463) rfl rfl (any_of HT_.out (by kernel_rfl)) (fun _ _ _ h => h) (Or.inl ⟨by rfl, ?_⟩) ?_ ?_
        rotate_left
        ·intro w'
         go_simp
         with_reducible rfl
        rotate_left
        ·simp only [Act.put, sA_, sB_, sC_, i64_w, i32_w]
         rfl
        refine pure_ (i := 66) (N := some 162) (v := ?_) (a' := ?_) (bm_ 68 147573952589676412927) rfl rfl (any_of HT_.out (by kernel_rfl)) (fun _ _ _ h => h) (Or.inl ⟨by rfl, ?_⟩) ?_ ?_
        rotate_left
        ·intro w'
         go_simp
         with_reducible rfl
        rotate_left
        ·simp only [Act.put, sA_, sB_, sC_, i64_w, i32_w]
         rfl
        refine pure_ (i := 67) (N := some 2) (v := ?_) (a' := ?_) (bm_ 68 295147905179352825855) rfl rfl (any_of HT_.out (by kernel_rfl)) (fun _ _ _ h => h) (Or.inl ⟨by rfl, ?_⟩) ?_ ?_
        rotate_left
        ·intro w'
         go_simp
         with_reducible rfl
        rotate_left
        ·simp only [Act.put, sA_, sB_, sC_, i64_w, i32_w]
         rfl
        replace BK373 := Aside0.mk (blk_below BK373.out HBR.out)
        replace BK374 := Aside0.mk (blk_below BK374.out HBR.out)
        replace BK379 := Aside0.mk (blk_below BK379.out HBR.out)
        replace BK388 := Aside0.mk (blk_below BK388.out HBR.out)
        replace BK389 := Aside0.mk (blk_below BK389.out HBR.out)
        replace BK398 := Aside0.mk (blk_below BK398.out HBR.out)
        replace BK399 := Aside0.mk (blk_below BK399.out HBR.out)
        replace BK408 := Aside0.mk (blk_below BK408.out HBR.out)
        replace BK409 := Aside0.mk (blk_below BK409.out HBR.out)
        replace BK414 := Aside0.mk (blk_below BK414.out HBR.out)
        replace BK419 := Aside0.mk (blk_below BK419.out HBR.out)
        replace HB := Aside0.mk (below_step HB.out HBR.out)
        refine done_ (done_of HT_.out (by kernel_rfl)) ?_
        try go_wp2
        go_ret
        exact ⟨by first | rfl | (rw [hrv_.out]; done) | (rw [hrv_.out]; rfl) | (have hrv1_ := hrv_.out; simp [hrv1_]; done) | (simp [errW_none, errW_some] <;> rfl) | (simp [*, errW_none, errW_some] <;> rfl), by repeat (first | (with_reducible first | exact HB.out | apply below_alloc | apply pw_below_drewN | apply below_drew1 | refine below_set ?_ GE373.out | refine below_set ?_ GE374.out | refine below_set ?_ GE379.out | refine below_set ?_ GE388.out | refine below_set ?_ GE389.out | refine below_set ?_ GE398.out | refine below_set ?_ GE399.out | refine below_set ?_ GE408.out | refine below_set ?_ GE409.out | refine below_set ?_ GE414.out | refine below_set ?_ GE419.out) | exact HB.out)⟩
       ·replace c220 := Bool.eq_false_iff.mpr c220
        subst c220
        have H1 : (some true) = some true := rfl
        clear H
        have H := H1
        clear H1
        clear H
        try go_wp2
        replace BK373 := Aside0.mk (blk_drew BK373.out)
        replace BK374 := Aside0.mk (blk_drew BK374.out)
        replace BK379 := Aside0.mk (blk_drew BK379.out)
        replace BK388 := Aside0.mk (blk_drew BK388.out)
        replace BK389 := Aside0.mk (blk_drew BK389.out)
        replace BK398 := Aside0.mk (blk_drew BK398.out)
        replace BK399 := Aside0.mk (blk_drew BK399.out)
        replace BK408 := Aside0.mk (blk_drew BK408.out)
        replace BK409 := Aside0.mk (blk_drew BK409.out)
        replace BK414 := Aside0.mk (blk_drew BK414.out)
        replace BK419 := Aside0.mk (blk_drew BK419.out)
        replace HB := Aside0.mk (below_drew1 HB.out)
        refine start_ (n := 68) (S := fun w' => w'.cell? ⟨gb379, 0, none⟩ = some (.int .i64 t375) ∧ w'.cell? ⟨gb379, 1, none⟩ = some (.int .i64 t376) ∧ w'.cell? ⟨gb379, 2, none⟩ = some (.int .i64 t377) ∧ w'.cell? ⟨gb379, 3, none⟩ = some (.int .i64 t378) ∧ w'.cell? ⟨gb373, 0, none⟩ = some (.int .i64 t365) ∧ w'.cell? ⟨gb373, 1, none⟩ = some (.int .i64 t366) ∧ w'.cell? ⟨gb373, 2, none⟩ = some (.int .i64 t367) ∧ w'.cell? ⟨gb373, 3, none⟩ = some (.int .i64 t368) ∧ w'.cell? ⟨gb374, 0, none⟩ = some (.int .i64 t369) ∧ w'.cell? ⟨gb374, 1, none⟩ = some (.int .i64 t370) ∧ w'.cell? ⟨gb374, 2, none⟩ = some (.int .i64 t371) ∧ w'.cell? ⟨gb374, 3, none⟩ = some (.int .i64 t372) ∧ w'.cell? ⟨gb388, 0, none⟩ = some (.int .i64 t380) ∧ w'.cell? ⟨gb388, 1, none⟩ = some (.int .i64 t381) ∧ w'.cell? ⟨gb388, 2, none⟩ = some (.int .i64 t382) ∧ w'.cell? ⟨gb388, 3, none⟩ = some (.int .i64 t383) ∧ w'.cell? ⟨gb389, 0, none⟩ = some (.int .i64 t384) ∧ w'.cell? ⟨gb389, 1, none⟩ = some (.int .i64 t385) ∧ w'.cell? ⟨gb389, 2, none⟩ = some (.int .i64 t386) ∧ w'.cell? ⟨gb389, 3, none⟩ = some (.int .i64 t387) ∧ w'.cell? ⟨gb414, 0, none⟩ = some (.int .i64 t410) ∧ w'.cell? ⟨gb414, 1, none⟩ = some (.int .i64 t411) ∧ w'.cell? ⟨gb414, 2, none⟩ = some (.int .i64 t412) ∧ w'.cell? ⟨gb414, 3, none⟩ = some (.int .i64 t413)) (ds := []) #[false, false, false, false, false, false, false, false, false, false, false, false, false, false, false, false, false, false, false, false, false, false, false, false, false, false, false, false, false, false, false, false, false, false, false, false, false, false, false, false, false, false, false, false, false, false, false, false, false, false, false, false, false, false, false, false, false, false, false, false, false, false, false, false, false, false, false, false] (by kernel_rfl) rfl rfl ⟨(blk_cell BK379.out 0).trans rfl, (blk_cell BK379.out 1).trans rfl, (blk_cell BK379.out 2).trans rfl, (blk_cell BK379.out 3).trans rfl, (blk_cell BK373.out 0).trans rfl, (blk_cell BK373.out 1).trans rfl, (blk_cell BK373.out 2).trans rfl, (blk_cell BK373.out 3).trans rfl, (blk_cell BK374.out 0).trans rfl, (blk_cell BK374.out 1).trans rfl, (blk_cell BK374.out 2).trans rfl, (blk_cell BK374.out 3).trans rfl, (blk_cell BK388.out 0).trans rfl, (blk_cell BK388.out 1).trans rfl, (blk_cell BK388.out 2).trans rfl, (blk_cell BK388.out 3).trans rfl, (blk_cell BK389.out 0).trans rfl, (blk_cell BK389.out 1).trans rfl, (blk_cell BK389.out 2).trans rfl, (blk_cell BK389.out 3).trans rfl, (blk_cell BK414.out 0).trans rfl, (blk_cell BK414.out 1).trans rfl, (blk_cell BK414.out 2).trans rfl, (blk_cell BK414.out 3).trans rfl⟩ (fun hHeld => ?_); refine with_tabW laws_FnBoxes.tab13 laws_FnBoxes.bits13 (fun HT_ HW_ => ?_)
        generalize wc.drew = w238 at BK373 BK374 BK379 BK388 BK389 BK398 BK399 BK408 BK409 BK414 BK419 HB hHeld ⊢
        have HBR := Aside0.mk (Below.refl w238.heap.size w238)
        refine take_ (i := 0) (N := some 96) (v := ?_) (a' := ?_) (bm_ 68 1) rfl rfl (take_ofW HT_.out HW_.out (by kernel_rfl)) (fun _ _ _ h => h) (Or.inl ⟨by rfl, ?_⟩) hHeld ?_ ?_
        rotate_left
        ·intro w' hs_; repeat (obtain ⟨_, hs_⟩ := hs_)
         go_simp
         with_reducible rfl
        rotate_left
        ·simp only [Act.put, sA_, sB_, sC_, i64_w, i32_w]
         rfl
        refine take_ (i := 1) (N := some 97) (v := ?_) (a' := ?_) (bm_ 68 3) rfl rfl (take_ofW HT_.out HW_.out (by kernel_rfl)) (fun _ _ _ h => h) (Or.inl ⟨by rfl, ?_⟩) hHeld ?_ ?_
        rotate_left
        ·intro w' hs_; repeat (obtain ⟨_, hs_⟩ := hs_)
         go_simp
         with_reducible rfl
        rotate_left
        ·simp only [Act.put, sA_, sB_, sC_, i64_w, i32_w]
         rfl
        refine one_ (i := 2) (N := some 98) (bm_ 68 7) rfl rfl (one_of HT_.out (by kernel_rfl)) (by decide) (fun K hK => ?_)
        refine goes_ Try.func73 (by kernel_rfl) rfl #[.agg #[.int .i64 t375, .int .i64 t376, .int .i64 t377, .int .i64 t378], .agg #[.int .i64 t365, .int .i64 t366, .int .i64 t367, .int .i64 t368]] (by rfl) rfl rfl (by (try simp only [List.map_toArray, List.map_cons, List.map_nil]); first | done | rfl) ?_
        with_reducible refine (impl_Holds.calls t375 t376 t377 t378 t365 t366 t367 t368 true _ A200.out).mono ?_
        rintro e w239 ⟨rfl, hb⟩
        refine ⟨_, rfl, ?_⟩
        replace HBR := Aside0.mk (below_step HBR.out hb)
        replace hHeld := keep24_ hb hHeld
        clear hb
        refine hK.out _ _ hHeld (fun hHeld => ?_)
        clear hK K
        refine norm_ (a' := ?_) ?_ ?_
        rotate_left
        ·show Act.put _ (some 98) _ = _
         simp only [Act.put, sA_, sB_, sC_, i64_w, i32_w]
         rfl
        refine pure_ (i := 3) (N := some 99) (v := ?_) (a' := ?_) (bm_ 68 15) rfl rfl (any_of HT_.out (by kernel_rfl)) (fun _ _ _ h => h) (Or.inl ⟨by rfl, ?_⟩) ?_ ?_
        rotate_left
        ·intro w'
         go_simp
         with_reducible rfl
        rotate_left
        ·simp only [Act.put, sA_, sB_, sC_, i64_w, i32_w]
         rfl
        refine take_ (i := 4) (N := some 100) (v := ?_) (a' := ?_) (bm_ 68 31) rfl rfl (take_ofW HT_.out HW_.out (by kernel_rfl)) (fun _ _ _ h => h) (Or.inl ⟨by rfl, ?_⟩) hHeld ?_ ?_
        rotate_left
        ·intro w' hs_; repeat (obtain ⟨_, hs_⟩ := hs_)
         go_simp
         with_reducible rfl
        rotate_left
        ·simp only [Act.put, sA_, sB_, sC_, i64_w, i32_w]
         rfl
        refine take_ (i := 5) (N := some 101) (v := ?_) (a' := ?_) (bm_ 68 63) rfl rfl (take_ofW HT_.out HW_.out (by kernel_rfl)) (fun _ _ _ h => h) (Or.inl ⟨by rfl, ?_⟩) hHeld ?_ ?_
        rotate_left
        ·intro w' hs_; repeat (obtain ⟨_, hs_⟩ := hs_)
         go_simp
         with_reducible rfl
        rotate_left
        ·simp only [Act.put, sA_, sB_, sC_, i64_w, i32_w]
         rfl
        refine one_ (i := 6) (N := some 102) (bm_ 68 127) rfl rfl (one_of HT_.out (by kernel_rfl)) (by decide) (fun K hK => ?_)
        refine goes_ Try.func73 (by kernel_rfl) rfl #[.agg #[.int .i64 t375, .int .i64 t376, .int .i64 t377, .int .i64 t378], .agg #[.int .i64 t369, .int .i64 t370, .int .i64 t371, .int .i64 t372]] (by rfl) rfl rfl (by (try simp only [List.map_toArray, List.map_cons, List.map_nil]); first | done | rfl) ?_
        with_reducible refine (impl_Holds.calls t375 t376 t377 t378 t369 t370 t371 t372 true _ A202.out).mono ?_
        rintro e w240 ⟨rfl, hb⟩
        refine ⟨_, rfl, ?_⟩
        replace HBR := Aside0.mk (below_step HBR.out hb)
        replace hHeld := keep24_ hb hHeld
        clear hb
        refine hK.out _ _ hHeld (fun hHeld => ?_)
        clear hK K
        refine norm_ (a' := ?_) ?_ ?_
        rotate_left
        ·show Act.put _ (some 102) _ = _
         simp only [Act.put, sA_, sB_, sC_, i64_w, i32_w]
         rfl
        refine pure_ (i := 7) (N := some 103) (v := ?_) (a' := ?_) (bm_ 68 255) rfl rfl (any_of HT_.out (by kernel_rfl)) (fun _ _ _ h => h) (Or.inl ⟨by rfl, ?_⟩) ?_ ?_
        rotate_left
        ·intro w'
         go_simp
         with_reducible rfl
        rotate_left
        ·simp only [Act.put, sA_, sB_, sC_, i64_w, i32_w]
         rfl
        refine pure_ (i := 8) (N := some 104) (v := ?_) (a' := ?_) (bm_ 68 511) rfl rfl (any_of HT_.out (by kernel_rfl)) (fun _ _ _ h => h) (Or.inl ⟨by rfl, ?_⟩) ?_ ?_
        rotate_left
        ·intro w'
         go_simp
         with_reducible rfl
        rotate_left
        ·simp only [Act.put, sA_, sB_, sC_, i64_w, i32_w]
         rfl
        refine take_ (i := 9) (N := some 105) (v := ?_) (a' := ?_) (bm_ 68 1023) rfl rfl (take_ofW HT_.out HW_.out (by kernel_rfl)) (fun _ _ _ h => h) (Or.inl ⟨by rfl, ?_⟩) hHeld ?_ ?_
        rotate_left
        ·intro w' hs_; repeat (obtain ⟨_, hs_⟩ := hs_)
         go_simp
         with_reducible rfl
        rotate_left
        ·simp only [Act.put, sA_, sB_, sC_, i64_w, i32_w]
         rfl
        refine take_ (i := 10) (N := some 106) (v := ?_) (a' := ?_) (bm_ 68 2047) rfl rfl (take_ofW HT_.out HW_.out (by kernel_rfl)) (fun _ _ _ h => h) (Or.inl ⟨by rfl, ?_⟩) hHeld ?_ ?_
        rotate_left
        ·intro w' hs_; repeat (obtain ⟨_, hs_⟩ := hs_)
         go_simp
         with_reducible rfl
        rotate_left
        ·simp only [Act.put, sA_, sB_, sC_, i64_w, i32_w]
         rfl
        refine take_ (i := 11) (N := some 107) (v := ?_) (a' := ?_) (bm_ 68 4095) rfl rfl (take_ofW HT_.out HW_.out (by kernel_rfl)) (fun _ _ _ h => h) (Or.inl ⟨by rfl, ?_⟩) hHeld ?_ ?_
        rotate_left
        ·intro w' hs_; repeat (obtain ⟨_, hs_⟩ := hs_)
         go_simp
         with_reducible rfl
        rotate_left
        ·simp only [Act.put, sA_, sB_, sC_, i64_w, i32_w]
         rfl
        refine one_ (i := 12) (N := some 108) (bm_ 68 8191) rfl rfl (one_of HT_.out (by kernel_rfl)) (by decide) (fun K hK => ?_)
        refine goes_ Try.func64 (by kernel_rfl) rfl #[.agg #[.int .i64 t369, .int .i64 t370, .int .i64 t371, .int .i64 t372], .agg #[.int .i64 t365, .int .i64 t366, .int .i64 t367, .int .i64 t368]] (by rfl) rfl rfl (by (try simp only [List.map_toArray, List.map_cons, List.map_nil]); first | done | rfl) ?_
        with_reducible refine (impl_Join.calls t369 t370 t371 t372 t365 t366 t367 t368 t438 t439 t440 t441 _ A204.out).mono ?_
        rintro e w241 ⟨rfl, hb⟩
        refine ⟨_, rfl, ?_⟩
        replace HBR := Aside0.mk (below_step HBR.out hb)
        replace hHeld := keep24_ hb hHeld
        clear hb
        refine hK.out _ _ hHeld (fun hHeld => ?_)
        clear hK K
        refine norm_ (a' := ?_) ?_ ?_
        rotate_left
        ·show Act.put _ (some 108) _ = _
         simp only [Act.put, sA_, sB_, sC_, i64_w, i32_w]
         rfl
        refine pure_ (i := 13) (N := some 109) (v := ?_) (a' := ?_) (bm_ 68 16383) rfl rfl (any_of HT_.out (by kernel_rfl)) (fun _ _ _ h => h) (Or.inl ⟨by rfl, ?_⟩) ?_ ?_
        rotate_left
        ·intro w'
         go_simp
         with_reducible rfl
        rotate_left
        ·simp only [Act.put, sA_, sB_, sC_, i64_w, i32_w]
         rfl
        refine pure_ (i := 14) (N := some 110) (v := ?_) (a' := ?_) (bm_ 68 32767) rfl rfl (any_of HT_.out (by kernel_rfl)) (fun _ _ _ h => h) (Or.inl ⟨by rfl, ?_⟩) ?_ ?_
        rotate_left
        ·intro w'
         go_simp
         with_reducible rfl
        rotate_left
        ·simp only [Act.put, sA_, sB_, sC_, i64_w, i32_w]
         rfl
        refine pure_ (i := 15) (N := some 111) (v := ?_) (a' := ?_) (bm_ 68 65535) rfl rfl (any_of HT_.out (by kernel_rfl)) (fun _ _ _ h => h) (Or.inl ⟨by rfl, ?_⟩) ?_ ?_
        rotate_left
        ·intro w'
         go_simp
         with_reducible rfl
        rotate_left
        ·simp only [Act.put, sA_, sB_, sC_, i64_w, i32_w]
         rfl
        refine take_ (i := 16) (N := some 112) (v := ?_) (a' := ?_) (bm_ 68 131071) rfl rfl (take_ofW HT_.out HW_.out (by kernel_rfl)) (fun _ _ _ h => h) (Or.inl ⟨by rfl, ?_⟩) hHeld ?_ ?_
        rotate_left
        ·intro w' hs_; repeat (obtain ⟨_, hs_⟩ := hs_)
         go_simp
         with_reducible rfl
        rotate_left
        ·simp only [Act.put, sA_, sB_, sC_, i64_w, i32_w]
         rfl
        refine take_ (i := 17) (N := some 113) (v := ?_) (a' := ?_) (bm_ 68 262143) rfl rfl (take_ofW HT_.out HW_.out (by kernel_rfl)) (fun _ _ _ h => h) (Or.inl ⟨by rfl, ?_⟩) hHeld ?_ ?_
        rotate_left
        ·intro w' hs_; repeat (obtain ⟨_, hs_⟩ := hs_)
         go_simp
         with_reducible rfl
        rotate_left
        ·simp only [Act.put, sA_, sB_, sC_, i64_w, i32_w]
         rfl
        refine take_ (i := 19) (N := some 115) (v := ?_) (a' := ?_) (bm_ 68 786431) rfl rfl (take_ofW HT_.out HW_.out (by kernel_rfl)) (fun _ _ _ h => h) (Or.inl ⟨by rfl, ?_⟩) hHeld ?_ ?_
        rotate_left
        ·intro w' hs_; repeat (obtain ⟨_, hs_⟩ := hs_)
         go_simp
         with_reducible rfl
        rotate_left
        ·simp only [Act.put, sA_, sB_, sC_, i64_w, i32_w]
         rfl
        refine one_ (i := 18) (N := some 114) (bm_ 68 1048575) rfl rfl (one_of HT_.out (by kernel_rfl)) (by decide) (fun K hK => ?_)
        refine goes_ Try.func64 (by kernel_rfl) rfl #[.agg #[.int .i64 t365, .int .i64 t366, .int .i64 t367, .int .i64 t368], .agg #[.int .i64 t365, .int .i64 t366, .int .i64 t367, .int .i64 t368]] (by rfl) rfl rfl (by (try simp only [List.map_toArray, List.map_cons, List.map_nil]); first | done | rfl) ?_
        with_reducible refine (impl_Join.calls t365 t366 t367 t368 t365 t366 t367 t368 t442 t443 t444 t445 _ A206.out).mono ?_
        rintro e w242 ⟨rfl, hb⟩
        refine ⟨_, rfl, ?_⟩
        replace HBR := Aside0.mk (below_step HBR.out hb)
        replace hHeld := keep24_ hb hHeld
        clear hb
        refine hK.out _ _ hHeld (fun hHeld => ?_)
        clear hK K
        refine norm_ (a' := ?_) ?_ ?_
        rotate_left
        ·show Act.put _ (some 114) _ = _
         simp only [Act.put, sA_, sB_, sC_, i64_w, i32_w]
         rfl
        refine pure_ (i := 20) (N := some 116) (v := ?_) (a' := ?_) (bm_ 68 2097151) rfl rfl (any_of HT_.out (by kernel_rfl)) (fun _ _ _ h => h) (Or.inl ⟨by rfl, ?_⟩) ?_ ?_
        rotate_left
        ·intro w'
         go_simp
         with_reducible rfl
        rotate_left
        ·simp only [Act.put, sA_, sB_, sC_, i64_w, i32_w]
         rfl
        refine pure_ (i := 21) (N := some 117) (v := ?_) (a' := ?_) (bm_ 68 4194303) rfl rfl (any_of HT_.out (by kernel_rfl)) (fun _ _ _ h => h) (Or.inl ⟨by rfl, ?_⟩) ?_ ?_
        rotate_left
        ·intro w'
         go_simp
         with_reducible rfl
        rotate_left
        ·simp only [Act.put, sA_, sB_, sC_, i64_w, i32_w]
         rfl
        refine pure_ (i := 22) (N := some 118) (v := ?_) (a' := ?_) (bm_ 68 8388607) rfl rfl (any_of HT_.out (by kernel_rfl)) (fun _ _ _ h => h) (Or.inl ⟨by rfl, ?_⟩) ?_ ?_
        rotate_left
        ·intro w'
         go_simp
         with_reducible rfl
        rotate_left
        ·simp only [Act.put, sA_, sB_, sC_, i64_w, i32_w]
         rfl
        refine pure_ (i := 23) (N := some 119) (v := ?_) (a' := ?_) (bm_ 68 16777215) rfl rfl (any_of HT_.out (by kernel_rfl)) (fun _ _ _ h => h) (Or.inl ⟨by rfl, ?_⟩) ?_ ?_
        rotate_left
        ·intro w'
         go_simp
         with_reducible rfl
        rotate_left
        ·simp only [Act.put, sA_, sB_, sC_, i64_w, i32_w]
         rfl
        refine pure_ (i := 24) (N := some 120) (v := ?_) (a' := ?_) (bm_ 68 33554431) rfl rfl (any_of HT_.out (by kernel_rfl)) (fun _ _ _ h => h) (Or.inl ⟨by rfl, ?_⟩) ?_ ?_
        rotate_left
        ·intro w'
         go_simp
         with_reducible rfl
        rotate_left
        ·simp only [Act.put, sA_, sB_, sC_, i64_w, i32_w]
         rfl
        refine pure_ (i := 25) (N := some 121) (v := ?_) (a' := ?_) (bm_ 68 67108863) rfl rfl (any_of HT_.out (by kernel_rfl)) (fun _ _ _ h => h) (Or.inl ⟨by rfl, ?_⟩) ?_ ?_
        rotate_left
        ·intro w'
         go_simp
         with_reducible rfl
        rotate_left
        ·simp only [Act.put, sA_, sB_, sC_, i64_w, i32_w]
         rfl
        refine take_ (i := 26) (N := some 122) (v := ?_) (a' := ?_) (bm_ 68 134217727) rfl rfl (take_ofW HT_.out HW_.out (by kernel_rfl)) (fun _ _ _ h => h) (Or.inl ⟨by rfl, ?_⟩) hHeld ?_ ?_
        rotate_left
        ·intro w' hs_; repeat (obtain ⟨_, hs_⟩ := hs_)
         go_simp
         with_reducible rfl
        rotate_left
        ·simp only [Act.put, sA_, sB_, sC_, i64_w, i32_w]
         rfl
        refine one_ (i := 27) (N := some 123) (bm_ 68 268435455) rfl rfl (one_of HT_.out (by kernel_rfl)) (by decide) (fun K hK => ?_)
        refine goes_ Try.func77 (by kernel_rfl) rfl #[.agg #[.int .i64 t375, .int .i64 t376, .int .i64 t377, .int .i64 t378]] (by rfl) rfl rfl (by (try simp only [List.map_toArray, List.map_cons, List.map_nil]); first | done | rfl) ?_
        with_reducible refine (impl_BoxOk.calls t375 t376 t377 t378 true _ A209.out).mono ?_
        rintro e w243 ⟨rfl, hb⟩
        refine ⟨_, rfl, ?_⟩
        replace HBR := Aside0.mk (below_step HBR.out hb)
        replace hHeld := keep24_ hb hHeld
        clear hb
        refine hK.out _ _ hHeld (fun hHeld => ?_)
        clear hK K
        refine norm_ (a' := ?_) ?_ ?_
        rotate_left
        ·show Act.put _ (some 123) _ = _
         simp only [Act.put, sA_, sB_, sC_, i64_w, i32_w]
         rfl
        refine pure_ (i := 28) (N := some 124) (v := ?_) (a' := ?_) (bm_ 68 536870911) rfl rfl (any_of HT_.out (by kernel_rfl)) (fun _ _ _ h => h) (Or.inl ⟨by rfl, ?_⟩) ?_ ?_
        rotate_left
        ·intro w'
         go_simp
         with_reducible rfl
        rotate_left
        ·simp only [Act.put, sA_, sB_, sC_, i64_w, i32_w]
         rfl
        refine take_ (i := 29) (N := some 125) (v := ?_) (a' := ?_) (bm_ 68 1073741823) rfl rfl (take_ofW HT_.out HW_.out (by kernel_rfl)) (fun _ _ _ h => h) (Or.inl ⟨by rfl, ?_⟩) hHeld ?_ ?_
        rotate_left
        ·intro w' hs_; repeat (obtain ⟨_, hs_⟩ := hs_)
         go_simp
         with_reducible rfl
        rotate_left
        ·simp only [Act.put, sA_, sB_, sC_, i64_w, i32_w]
         rfl
        refine take_ (i := 31) (N := some 127) (v := ?_) (a' := ?_) (bm_ 68 3221225471) rfl rfl (take_ofW HT_.out HW_.out (by kernel_rfl)) (fun _ _ _ h => h) (Or.inl ⟨by rfl, ?_⟩) hHeld ?_ ?_
        rotate_left
        ·intro w' hs_; repeat (obtain ⟨_, hs_⟩ := hs_)
         go_simp
         with_reducible rfl
        rotate_left
        ·simp only [Act.put, sA_, sB_, sC_, i64_w, i32_w]
         rfl
        refine one_ (i := 30) (N := some 126) (bm_ 68 4294967295) rfl rfl (one_of HT_.out (by kernel_rfl)) (by decide) (fun K hK => ?_)
        refine goes_ Try.func79 (by kernel_rfl) rfl #[.agg #[.int .i64 t375, .int .i64 t376, .int .i64 t377, .int .i64 t378]] (by rfl) rfl rfl (by (try simp only [List.map_toArray, List.map_cons, List.map_nil]); first | done | rfl) ?_
        with_reducible refine (impl_Area.calls t375 t376 t377 t378 t447 _ A211.out).mono ?_
        rintro e w244 ⟨rfl, hb⟩
        refine ⟨_, rfl, ?_⟩
        replace HBR := Aside0.mk (below_step HBR.out hb)
        replace hHeld := keep24_ hb hHeld
        clear hb
        refine hK.out _ _ hHeld (fun hHeld => ?_)
        clear hK K
        refine norm_ (a' := ?_) ?_ ?_
        rotate_left
        ·show Act.put _ (some 126) _ = _
         simp only [Act.put, sA_, sB_, sC_, i64_w, i32_w]
         rfl
        refine one_ (i := 32) (N := some 128) (bm_ 68 8589934591) rfl rfl (one_of HT_.out (by kernel_rfl)) (by decide) (fun K hK => ?_)
        refine goes_ Try.func79 (by kernel_rfl) rfl #[.agg #[.int .i64 t365, .int .i64 t366, .int .i64 t367, .int .i64 t368]] (by rfl) rfl rfl (by (try simp only [List.map_toArray, List.map_cons, List.map_nil]); first | done | rfl) ?_
        with_reducible refine (impl_Area.calls t365 t366 t367 t368 t448 _ A212.out).mono ?_
        rintro e w245 ⟨rfl, hb⟩
        refine ⟨_, rfl, ?_⟩
        replace HBR := Aside0.mk (below_step HBR.out hb)
        replace hHeld := keep24_ hb hHeld
        clear hb
        refine hK.out _ _ hHeld (fun hHeld => ?_)
        clear hK K
        refine norm_ (a' := ?_) ?_ ?_
        rotate_left
        ·show Act.put _ (some 128) _ = _
         simp only [Act.put, sA_, sB_, sC_, i64_w, i32_w]
         rfl
        refine pure_ (i := 33) (N := some 129) (v := ?_) (a' := ?_) (bm_ 68 17179869183) rfl rfl (any_of HT_.out (by kernel_rfl)) (fun _ _ _ h => h) (Or.inl ⟨by rfl, ?_⟩) ?_ ?_
        rotate_left
        ·intro w'
         go_simp
         with_reducible rfl
        rotate_left
        ·simp only [Act.put, sA_, sB_, sC_, i64_w, i32_w]
         rfl
        refine pure_ (i := 34) (N := some 130) (v := ?_) (a' := ?_) (bm_ 68 34359738367) rfl rfl (any_of HT_.out (by kernel_rfl)) (fun _ _ _ h => h) (Or.inl ⟨by rfl, ?_⟩) ?_ ?_
        rotate_left
        ·intro w'
         go_simp
         with_reducible rfl
        rotate_left
        ·simp only [Act.put, sA_, sB_, sC_, i64_w, i32_w]
         rfl
        refine pure_ (i := 35) (N := some 131) (v := ?_) (a' := ?_) (bm_ 68 68719476735) rfl rfl (any_of HT_.out (by kernel_rfl)) (fun _ _ _ h => h) (Or.inl ⟨by rfl, ?_⟩) ?_ ?_
        rotate_left
        ·intro w'
         go_simp
         with_reducible rfl
        rotate_left
        ·simp only [Act.put, sA_, sB_, sC_, i64_w, i32_w]
         rfl
        refine take_ (i := 36) (N := some 132) (v := ?_) (a' := ?_) (bm_ 68 137438953471) rfl rfl (take_ofW HT_.out HW_.out (by kernel_rfl)) (fun _ _ _ h => h) (Or.inl ⟨by rfl, ?_⟩) hHeld ?_ ?_
        rotate_left
        ·intro w' hs_; repeat (obtain ⟨_, hs_⟩ := hs_)
         go_simp
         with_reducible rfl
        rotate_left
        ·simp only [Act.put, sA_, sB_, sC_, i64_w, i32_w]
         rfl
        refine take_ (i := 37) (N := some 133) (v := ?_) (a' := ?_) (bm_ 68 274877906943) rfl rfl (take_ofW HT_.out HW_.out (by kernel_rfl)) (fun _ _ _ h => h) (Or.inl ⟨by rfl, ?_⟩) hHeld ?_ ?_
        rotate_left
        ·intro w' hs_; repeat (obtain ⟨_, hs_⟩ := hs_)
         go_simp
         with_reducible rfl
        rotate_left
        ·simp only [Act.put, sA_, sB_, sC_, i64_w, i32_w]
         rfl
        refine one_ (i := 38) (N := some 134) (bm_ 68 549755813887) rfl rfl (one_of HT_.out (by kernel_rfl)) (by decide) (fun K hK => ?_)
        refine goes_ Try.func75 (by kernel_rfl) rfl #[.agg #[.int .i64 t365, .int .i64 t366, .int .i64 t367, .int .i64 t368], .agg #[.int .i64 t369, .int .i64 t370, .int .i64 t371, .int .i64 t372]] (by rfl) rfl rfl (by (try simp only [List.map_toArray, List.map_cons, List.map_nil]); first | done | rfl) ?_
        with_reducible refine (impl_Growth.calls t365 t366 t367 t368 t369 t370 t371 t372 t449 _ A214.out).mono ?_
        rintro e w246 ⟨rfl, hb⟩
        refine ⟨_, rfl, ?_⟩
        replace HBR := Aside0.mk (below_step HBR.out hb)
        replace hHeld := keep24_ hb hHeld
        clear hb
        refine hK.out _ _ hHeld (fun hHeld => ?_)
        clear hK K
        refine norm_ (a' := ?_) ?_ ?_
        rotate_left
        ·show Act.put _ (some 134) _ = _
         simp only [Act.put, sA_, sB_, sC_, i64_w, i32_w]
         rfl
        refine pure_ (i := 39) (N := some 135) (v := ?_) (a' := ?_) (bm_ 68 1099511627775) rfl rfl (any_of HT_.out (by kernel_rfl)) (fun _ _ _ h => h) (Or.inl ⟨by rfl, ?_⟩) ?_ ?_
        rotate_left
        ·intro w'
         go_simp
         with_reducible rfl
        rotate_left
        ·simp only [Act.put, sA_, sB_, sC_, i64_w, i32_w]
         rfl
        refine pure_ (i := 40) (N := some 136) (v := ?_) (a' := ?_) (bm_ 68 2199023255551) rfl rfl (any_of HT_.out (by kernel_rfl)) (fun _ _ _ h => h) (Or.inl ⟨by rfl, ?_⟩) ?_ ?_
        rotate_left
        ·intro w'
         go_simp
         with_reducible rfl
        rotate_left
        ·simp only [Act.put, sA_, sB_, sC_, i64_w, i32_w]
         rfl
        refine pure_ (i := 41) (N := some 137) (v := ?_) (a' := ?_) (bm_ 68 4398046511103) rfl rfl (any_of HT_.out (by kernel_rfl)) (fun _ _ _ h => h) (Or.inl ⟨by rfl, ?_⟩) ?_ ?_
        rotate_left
        ·intro w'
         go_simp
         with_reducible rfl
        rotate_left
        ·simp only [Act.put, sA_, sB_, sC_, i64_w, i32_w]
         rfl
        refine pure_ (i := 42) (N := some 138) (v := ?_) (a' := ?_) (bm_ 68 8796093022207) rfl rfl (any_of HT_.out (by kernel_rfl)) (fun _ _ _ h => h) (Or.inl ⟨by rfl, ?_⟩) ?_ ?_
        rotate_left
        ·intro w'
         go_simp
         with_reducible rfl
        rotate_left
        ·simp only [Act.put, sA_, sB_, sC_, i64_w, i32_w]
         rfl
        refine pure_ (i := 43) (N := some 139) (v := ?_) (a' := ?_) (bm_ 68 17592186044415) rfl rfl (any_of HT_.out (by kernel_rfl)) (fun _ _ _ h => h) (Or.inl ⟨by rfl, ?_⟩) ?_ ?_
        rotate_left
        ·intro w'
         go_simp
         with_reducible rfl
        rotate_left
        ·simp only [Act.put, sA_, sB_, sC_, i64_w, i32_w]
         rfl
        refine take_ (i := 44) (N := some 140) (v := ?_) (a' := ?_) (bm_ 68 35184372088831) rfl rfl (take_ofW HT_.out HW_.out (by kernel_rfl)) (fun _ _ _ h => h) (Or.inl ⟨by rfl, ?_⟩) hHeld ?_ ?_
        rotate_left
        ·intro w' hs_; repeat (obtain ⟨_, hs_⟩ := hs_)
         go_simp
         with_reducible rfl
        rotate_left
        ·simp only [Act.put, sA_, sB_, sC_, i64_w, i32_w]
         rfl
        refine take_ (i := 45) (N := some 141) (v := ?_) (a' := ?_) (bm_ 68 70368744177663) rfl rfl (take_ofW HT_.out HW_.out (by kernel_rfl)) (fun _ _ _ h => h) (Or.inl ⟨by rfl, ?_⟩) hHeld ?_ ?_
        rotate_left
        ·intro w' hs_; repeat (obtain ⟨_, hs_⟩ := hs_)
         go_simp
         with_reducible rfl
        rotate_left
        ·simp only [Act.put, sA_, sB_, sC_, i64_w, i32_w]
         rfl
        refine take_ (i := 47) (N := some 143) (v := ?_) (a' := ?_) (bm_ 68 211106232532991) rfl rfl (take_ofW HT_.out HW_.out (by kernel_rfl)) (fun _ _ _ h => h) (Or.inl ⟨by rfl, ?_⟩) hHeld ?_ ?_
        rotate_left
        ·intro w' hs_; repeat (obtain ⟨_, hs_⟩ := hs_)
         go_simp
         with_reducible rfl
        rotate_left
        ·simp only [Act.put, sA_, sB_, sC_, i64_w, i32_w]
         rfl
        refine take_ (i := 48) (N := some 144) (v := ?_) (a' := ?_) (bm_ 68 492581209243647) rfl rfl (take_ofW HT_.out HW_.out (by kernel_rfl)) (fun _ _ _ h => h) (Or.inl ⟨by rfl, ?_⟩) hHeld ?_ ?_
        rotate_left
        ·intro w' hs_; repeat (obtain ⟨_, hs_⟩ := hs_)
         go_simp
         with_reducible rfl
        rotate_left
        ·simp only [Act.put, sA_, sB_, sC_, i64_w, i32_w]
         rfl
        refine one_ (i := 46) (N := some 142) (bm_ 68 562949953421311) rfl rfl (one_of HT_.out (by kernel_rfl)) (by decide) (fun K hK => ?_)
        refine goes_ Try.func71 (by kernel_rfl) rfl #[.agg #[.int .i64 t380, .int .i64 t381, .int .i64 t382, .int .i64 t383], .agg #[.int .i64 t384, .int .i64 t385, .int .i64 t386, .int .i64 t387]] (by rfl) rfl rfl (by (try simp only [List.map_toArray, List.map_cons, List.map_nil]); first | done | rfl) ?_
        with_reducible refine (impl_Meets.calls t380 t381 t382 t383 t384 t385 t386 t387 t450 _ A216.out).mono ?_
        rintro e w247 ⟨rfl, hb⟩
        refine ⟨_, rfl, ?_⟩
        replace HBR := Aside0.mk (below_step HBR.out hb)
        replace hHeld := keep24_ hb hHeld
        clear hb
        refine hK.out _ _ hHeld (fun hHeld => ?_)
        clear hK K
        refine norm_ (a' := ?_) ?_ ?_
        rotate_left
        ·show Act.put _ (some 142) _ = _
         simp only [Act.put, sA_, sB_, sC_, i64_w, i32_w]
         rfl
        refine one_ (i := 49) (N := some 145) (bm_ 68 1125899906842623) rfl rfl (one_of HT_.out (by kernel_rfl)) (by decide) (fun K hK => ?_)
        refine goes_ Try.func71 (by kernel_rfl) rfl #[.agg #[.int .i64 t384, .int .i64 t385, .int .i64 t386, .int .i64 t387], .agg #[.int .i64 t380, .int .i64 t381, .int .i64 t382, .int .i64 t383]] (by rfl) rfl rfl (by (try simp only [List.map_toArray, List.map_cons, List.map_nil]); first | done | rfl) ?_
        with_reducible refine (impl_Meets.calls t384 t385 t386 t387 t380 t381 t382 t383 t451 _ A217.out).mono ?_
        rintro e w248 ⟨rfl, hb⟩
        refine ⟨_, rfl, ?_⟩
        replace HBR := Aside0.mk (below_step HBR.out hb)
        replace hHeld := keep24_ hb hHeld
        clear hb
        refine hK.out _ _ hHeld (fun hHeld => ?_)
        clear hK K
        refine norm_ (a' := ?_) ?_ ?_
        rotate_left
        ·show Act.put _ (some 145) _ = _
         simp only [Act.put, sA_, sB_, sC_, i64_w, i32_w]
         rfl
        refine pure_ (i := 50) (N := some 146) (v := ?_) (a' := ?_) (bm_ 68 2251799813685247) rfl rfl (any_of HT_.out (by kernel_rfl)) (fun _ _ _ h => h) (Or.inl ⟨by rfl, ?_⟩) ?_ ?_
        rotate_left
        ·intro w'
         go_simp
         with_reducible rfl
        rotate_left
        ·simp only [Act.put, sA_, sB_, sC_, i64_w, i32_w]
         rfl
        refine pure_ (i := 51) (N := some 147) (v := ?_) (a' := ?_) (bm_ 68 4503599627370495) rfl rfl (any_of HT_.out (by kernel_rfl)) (fun _ _ _ h => h) (Or.inl ⟨by rfl, ?_⟩) ?_ ?_
        rotate_left
        ·intro w'
         go_simp
         with_reducible rfl
        rotate_left
        ·simp only [Act.put, sA_, sB_, sC_, i64_w, i32_w]
         rfl
        refine pure_ (i := 52) (N := some 148) (v := ?_) (a' := ?_) (bm_ 68 9007199254740991) rfl rfl (any_of HT_.out (by kernel_rfl)) (fun _ _ _ h => h) (Or.inl ⟨by rfl, ?_⟩) ?_ ?_
        rotate_left
        ·intro w'
         go_simp
         with_reducible rfl
        rotate_left
        ·simp only [Act.put, sA_, sB_, sC_, i64_w, i32_w]
         rfl
        refine take_ (i := 53) (N := some 149) (v := ?_) (a' := ?_) (bm_ 68 18014398509481983) rfl rfl (take_ofW HT_.out HW_.out (by kernel_rfl)) (fun _ _ _ h => h) (Or.inl ⟨by rfl, ?_⟩) hHeld ?_ ?_
        rotate_left
        ·intro w' hs_; repeat (obtain ⟨_, hs_⟩ := hs_)
         go_simp
         with_reducible rfl
        rotate_left
        ·simp only [Act.put, sA_, sB_, sC_, i64_w, i32_w]
         rfl
        refine one_ (i := 54) (N := some 150) (bm_ 68 36028797018963967) rfl rfl (one_of HT_.out (by kernel_rfl)) (by decide) (fun K hK => ?_)
        refine goes_ Try.func77 (by kernel_rfl) rfl #[.agg #[.int .i64 t410, .int .i64 t411, .int .i64 t412, .int .i64 t413]] (by rfl) rfl rfl (by (try simp only [List.map_toArray, List.map_cons, List.map_nil]); first | done | rfl) ?_
        with_reducible refine (impl_BoxOk.calls t410 t411 t412 t413 false _ A219.out).mono ?_
        rintro e w249 ⟨rfl, hb⟩
        refine ⟨_, rfl, ?_⟩
        replace HBR := Aside0.mk (below_step HBR.out hb)
        replace hHeld := keep24_ hb hHeld
        clear hb
        refine hK.out _ _ hHeld (fun hHeld => ?_)
        clear hK K
        refine norm_ (a' := ?_) ?_ ?_
        rotate_left
        ·show Act.put _ (some 150) _ = _
         simp only [Act.put, sA_, sB_, sC_, i64_w, i32_w]
         rfl
        refine pure_ (i := 55) (N := some 151) (v := ?_) (a' := ?_) (bm_ 68 72057594037927935) rfl rfl (any_of HT_.out (by kernel_rfl)) (fun _ _ _ h => h) (Or.inl ⟨by rfl, ?_⟩) ?_ ?_
        rotate_left
        ·intro w'
         go_simp
         with_reducible rfl
        rotate_left
        ·simp only [Act.put, sA_, sB_, sC_, i64_w, i32_w]
         rfl
        refine pure_ (i := 56) (N := some 152) (v := ?_) (a' := ?_) (bm_ 68 144115188075855871) rfl rfl (any_of HT_.out (by kernel_rfl)) (fun _ _ _ h => h) (Or.inl ⟨by rfl, ?_⟩) ?_ ?_
        rotate_left
        ·intro w'
         go_simp
         with_reducible rfl
        rotate_left
        ·simp only [Act.put, sA_, sB_, sC_, i64_w, i32_w]
         rfl
        refine pure_ (i := 57) (N := some 153) (v := undef) (a' := ?_) (bm_ 68 288230376151711743) rfl rfl (any_of HT_.out (by kernel_rfl)) (fun _ _ _ h => h) (Or.inr ⟨by rfl, rfl⟩) ?_ ?_
        rotate_left
        ·simp only [Act.put, sA_, sB_, sC_, i64_w, i32_w]
         rfl
        refine pure_ (i := 58) (N := some 154) (v := undef) (a' := ?_) (bm_ 68 576460752303423487) rfl rfl (any_of HT_.out (by kernel_rfl)) (fun _ _ _ h => h) (Or.inr ⟨by rfl, rfl⟩) ?_ ?_
        rotate_left
        ·simp only [Act.put, sA_, sB_, sC_, i64_w, i32_w]
         rfl
        refine pure_ (i := 59) (N := some 155) (v := undef) (a' := ?_) (bm_ 68 1152921504606846975) rfl rfl (any_of HT_.out (by kernel_rfl)) (fun _ _ _ h => h) (Or.inr ⟨by rfl, rfl⟩) ?_ ?_
        rotate_left
        ·simp only [Act.put, sA_, sB_, sC_, i64_w, i32_w]
         rfl
        refine pure_ (i := 60) (N := some 156) (v := undef) (a' := ?_) (bm_ 68 2305843009213693951) rfl rfl (any_of HT_.out (by kernel_rfl)) (fun _ _ _ h => h) (Or.inr ⟨by rfl, rfl⟩) ?_ ?_
        rotate_left
        ·simp only [Act.put, sA_, sB_, sC_, i64_w, i32_w]
         rfl
        refine pure_ (i := 61) (N := some 157) (v := undef) (a' := ?_) (bm_ 68 4611686018427387903) rfl rfl (any_of HT_.out (by kernel_rfl)) (fun _ _ _ h => h) (Or.inr ⟨by rfl, rfl⟩) ?_ ?_
        rotate_left
        ·simp only [Act.put, sA_, sB_, sC_, i64_w, i32_w]
         rfl
        refine pure_ (i := 62) (N := some 158) (v := undef) (a' := ?_) (bm_ 68 9223372036854775807) rfl rfl (any_of HT_.out (by kernel_rfl)) (fun _ _ _ h => h) (Or.inr ⟨by rfl, rfl⟩) ?_ ?_
        rotate_left
        ·simp only [Act.put, sA_, sB_, sC_, i64_w, i32_w]
         rfl
        refine pure_ (i := 63) (N := some 159) (v := undef) (a' := ?_) (bm_ 68 18446744073709551615) rfl rfl (any_of HT_.out (by kernel_rfl)) (fun _ _ _ h => h) (Or.inr ⟨by rfl, rfl⟩) ?_ ?_
        rotate_left
        ·simp only [Act.put, sA_, sB_, sC_, i64_w, i32_w]
         rfl
        refine pure_ (i := 64) (N := some 160) (v := undef) (a' := ?_) (bm_ 68 36893488147419103231) rfl rfl (any_of HT_.out (by kernel_rfl)) (fun _ _ _ h => h) (Or.inr ⟨by rfl, rfl⟩) ?_ ?_
        rotate_left
        ·simp only [Act.put, sA_, sB_, sC_, i64_w, i32_w]
         rfl
        refine pure_ (i := 65) (N := some 161) (v := ?_) (a' := ?_) (bm_ 68 73786976294838206463) rfl rfl (any_of HT_.out (by kernel_rfl)) (fun _ _ _ h => h) (Or.inl ⟨by rfl, ?_⟩) ?_ ?_
        rotate_left
        ·intro w'
         go_simp
         with_reducible rfl
        rotate_left
        ·simp only [Act.put, sA_, sB_, sC_, i64_w, i32_w]
         rfl
        refine pure_ (i := 66) (N := some 162) (v := ?_) (a' := ?_) (bm_ 68 147573952589676412927) rfl rfl (any_of HT_.out (by kernel_rfl)) (fun _ _ _ h => h) (Or.inl ⟨by rfl, ?_⟩) ?_ ?_
        rotate_left
        ·intro w'
         go_simp
         with_reducible rfl
        rotate_left
        ·simp only [Act.put, sA_, sB_, sC_, i64_w, i32_w]
         rfl
        refine pure_ (i := 67) (N := some 2) (v := ?_) (a' := ?_) (bm_ 68 295147905179352825855) rfl rfl (any_of HT_.out (by kernel_rfl)) (fun _ _ _ h => h) (Or.inl ⟨by rfl, ?_⟩) ?_ ?_
        rotate_left
        ·intro w'
         go_simp
         with_reducible rfl
        rotate_left
        ·simp only [Act.put, sA_, sB_, sC_, i64_w, i32_w]
         rfl
        replace BK373 := Aside0.mk (blk_below BK373.out HBR.out)
        replace BK374 := Aside0.mk (blk_below BK374.out HBR.out)
        replace BK379 := Aside0.mk (blk_below BK379.out HBR.out)
        replace BK388 := Aside0.mk (blk_below BK388.out HBR.out)
        replace BK389 := Aside0.mk (blk_below BK389.out HBR.out)
        replace BK398 := Aside0.mk (blk_below BK398.out HBR.out)
        replace BK399 := Aside0.mk (blk_below BK399.out HBR.out)
        replace BK408 := Aside0.mk (blk_below BK408.out HBR.out)
        replace BK409 := Aside0.mk (blk_below BK409.out HBR.out)
        replace BK414 := Aside0.mk (blk_below BK414.out HBR.out)
        replace BK419 := Aside0.mk (blk_below BK419.out HBR.out)
        replace HB := Aside0.mk (below_step HB.out HBR.out)
        refine done_ (done_of HT_.out (by kernel_rfl)) ?_
        try go_wp2
        go_ret
        exact ⟨by first | rfl | (rw [hrv_.out]; done) | (rw [hrv_.out]; rfl) | (have hrv1_ := hrv_.out; simp [hrv1_]; done) | (simp [errW_none, errW_some] <;> rfl) | (simp [*, errW_none, errW_some] <;> rfl), by repeat (first | (with_reducible first | exact HB.out | apply below_alloc | apply pw_below_drewN | apply below_drew1 | refine below_set ?_ GE373.out | refine below_set ?_ GE374.out | refine below_set ?_ GE379.out | refine below_set ?_ GE388.out | refine below_set ?_ GE389.out | refine below_set ?_ GE398.out | refine below_set ?_ GE399.out | refine below_set ?_ GE408.out | refine below_set ?_ GE409.out | refine below_set ?_ GE414.out | refine below_set ?_ GE419.out) | exact HB.out)⟩
      ·as_aux_lemma =>
       replace c208 := Bool.eq_false_iff.mpr c208
       subst c208
       rw [if_neg (show ¬ (false = true) by decide)] at H
       replace H := Option.bind_eq_some_iff.mp H
       obtain ⟨t455, A2500, H⟩ := H
       (try dsimp only at H)
       have A250 := Aside0.mk A2500
       clear A2500
       replace H := Option.bind_eq_some_iff.mp H
       obtain ⟨t456, A2510, H⟩ := H
       (try dsimp only at H)
       have A251 := Aside0.mk A2510
       clear A2510
       by_cases c252 : (t455 == t456) = true
       rotate_left
       ·rw [if_neg c252] at H
        have c252b0 : (t455 == t456) = false := by simpa using c252
        (try (have c252b1 : decide (t455 = t456) = false := by simpa using c252))
        (try (have c252b2 : (t455 == t456) = false := by simpa using c252))
        (try (have c252b3 : ¬ (t455 = t456) := by simpa using c252))
        clear c252
        exact absurd H (by simp)
       rw [if_pos c252] at H
       have c252b0 : (t455 == t456) = true := c252
       (try (have c252b1 : decide (t455 = t456) = true := by simpa using c252))
       (try (have c252b2 : (t455 == t456) = true := by simpa using c252))
       clear c252
       replace H := Option.bind_eq_some_iff.mp H
       obtain ⟨t457, A2530, H⟩ := H
       (try dsimp only at H)
       have A253 := Aside0.mk A2530
       clear A2530
       by_cases c254 : t457 = true
       ·subst c254
        rw [if_pos rfl] at H
        replace H := Option.bind_eq_some_iff.mp H
        obtain ⟨t458, A2550, H⟩ := H
        (try dsimp only at H)
        have A255 := Aside0.mk A2550
        clear A2550
        by_cases c256 : t458 ≥ 1
        rotate_left
        ·rw [if_neg c256] at H
         have c256b0 : decide (1 ≤ t458) = false := decide_eq_false c256
         clear c256
         exact absurd H (by simp)
        rw [if_pos c256] at H
        have c256b0 : decide (1 ≤ t458) = true := decide_eq_true c256
        clear c256
        replace H := Option.bind_eq_some_iff.mp H
        obtain ⟨t459, A2570, H⟩ := H
        (try dsimp only at H)
        have A257 := Aside0.mk A2570
        clear A2570
        obtain rfl := Option.some.inj H
        try go_wp2
        replace BK373 := Aside0.mk (blk_drew BK373.out)
        replace BK374 := Aside0.mk (blk_drew BK374.out)
        replace BK379 := Aside0.mk (blk_drew BK379.out)
        replace BK388 := Aside0.mk (blk_drew BK388.out)
        replace BK389 := Aside0.mk (blk_drew BK389.out)
        replace BK398 := Aside0.mk (blk_drew BK398.out)
        replace BK399 := Aside0.mk (blk_drew BK399.out)
        replace BK408 := Aside0.mk (blk_drew BK408.out)
        replace BK409 := Aside0.mk (blk_drew BK409.out)
        replace BK414 := Aside0.mk (blk_drew BK414.out)
        replace BK419 := Aside0.mk (blk_drew BK419.out)
        replace HB := Aside0.mk (below_drew1 HB.out)
        refine start_ (n := 68) (S := fun w' => w'.cell? ⟨gb379, 0, none⟩ = some (.int .i64 t375) ∧ w'.cell? ⟨gb379, 1, none⟩ = some (.int .i64 t376) ∧ w'.cell? ⟨gb379, 2, none⟩ = some (.int .i64 t377) ∧ w'.cell? ⟨gb379, 3, none⟩ = some (.int .i64 t378) ∧ w'.cell? ⟨gb373, 0, none⟩ = some (.int .i64 t365) ∧ w'.cell? ⟨gb373, 1, none⟩ = some (.int .i64 t366) ∧ w'.cell? ⟨gb373, 2, none⟩ = some (.int .i64 t367) ∧ w'.cell? ⟨gb373, 3, none⟩ = some (.int .i64 t368) ∧ w'.cell? ⟨gb374, 0, none⟩ = some (.int .i64 t369) ∧ w'.cell? ⟨gb374, 1, none⟩ = some (.int .i64 t370) ∧ w'.cell? ⟨gb374, 2, none⟩ = some (.int .i64 t371) ∧ w'.cell? ⟨gb374, 3, none⟩ = some (.int .i64 t372) ∧ w'.cell? ⟨gb388, 0, none⟩ = some (.int .i64 t380) ∧ w'.cell? ⟨gb388, 1, none⟩ = some (.int .i64 t381) ∧ w'.cell? ⟨gb388, 2, none⟩ = some (.int .i64 t382) ∧ w'.cell? ⟨gb388, 3, none⟩ = some (.int .i64 t383) ∧ w'.cell? ⟨gb389, 0, none⟩ = some (.int .i64 t384) ∧ w'.cell? ⟨gb389, 1, none⟩ = some (.int .i64 t385) ∧ w'.cell? ⟨gb389, 2, none⟩ = some (.int .i64 t386) ∧ w'.cell? ⟨gb389, 3, none⟩ = some (.int .i64 t387) ∧ w'.cell? ⟨gb414, 0, none⟩ = some (.int .i64 t410) ∧ w'.cell? ⟨gb414, 1, none⟩ = some (.int .i64 t411) ∧ w'.cell? ⟨gb414, 2, none⟩ = some (.int .i64 t412) ∧ w'.cell? ⟨gb414, 3, none⟩ = some (.int .i64 t413)) (ds := []) #[false, false, false, false, false, false, false, false, false, false, false, false, false, false, false, false, false, false, false, false, false, false, false, false, false, false, false, false, false, false, false, false, false, false, false, false, false, false, false, false, false, false, false, false, false, false, false, false, false, false, false, false, false, false, false, false, false, false, false, false, false, false, false, false, false, false, false, false] (by kernel_rfl) rfl rfl ⟨(blk_cell BK379.out 0).trans rfl, (blk_cell BK379.out 1).trans rfl, (blk_cell BK379.out 2).trans rfl, (blk_cell BK379.out 3).trans rfl, (blk_cell BK373.out 0).trans rfl, (blk_cell BK373.out 1).trans rfl, (blk_cell BK373.out 2).trans rfl, (blk_cell BK373.out 3).trans rfl, (blk_cell BK374.out 0).trans rfl, (blk_cell BK374.out 1).trans rfl, (blk_cell BK374.out 2).trans rfl, (blk_cell BK374.out 3).trans rfl, (blk_cell BK388.out 0).trans rfl, (blk_cell BK388.out 1).trans rfl, (blk_cell BK388.out 2).trans rfl, (blk_cell BK388.out 3).trans rfl, (blk_cell BK389.out 0).trans rfl, (blk_cell BK389.out 1).trans rfl, (blk_cell BK389.out 2).trans rfl, (blk_cell BK389.out 3).trans rfl, (blk_cell BK414.out 0).trans rfl, (blk_cell BK414.out 1).trans rfl, (blk_cell BK414.out 2).trans rfl, (blk_cell BK414.out 3).trans rfl⟩ (fun hHeld => ?_); refine with_tabW laws_FnBoxes.tab13 laws_FnBoxes.bits13 (fun HT_ HW_ => ?_)
        generalize wc.drew = w258 at BK373 BK374 BK379 BK388 BK389 BK398 BK399 BK408 BK409 BK414 BK419 HB hHeld ⊢
        have HBR := Aside0.mk (Below.refl w258.heap.size w258)
        refine take_ (i := 0) (N := some 96) (v := ?_) (a' := ?_) (bm_ 68 1) rfl rfl (take_ofW HT_.out HW_.out (by kernel_rfl)) (fun _ _ _ h => h) (Or.inl ⟨by rfl, ?_⟩) hHeld ?_ ?_
        rotate_left
        ·intro w' hs_; repeat (obtain ⟨_, hs_⟩ := hs_)
         go_simp
         with_reducible rfl
        rotate_left
        ·simp only [Act.put, sA_, sB_, sC_, i64_w, i32_w]
         rfl
        refine take_ (i := 1) (N := some 97) (v := ?_) (a' := ?_) (bm_ 68 3) rfl rfl (take_ofW HT_.out HW_.out (by kernel_rfl)) (fun _ _ _ h => h) (Or.inl ⟨by rfl, ?_⟩) hHeld ?_ ?_
        rotate_left
        ·intro w' hs_; repeat (obtain ⟨_, hs_⟩ := hs_)
         go_simp
         with_reducible rfl
        rotate_left
        ·simp only [Act.put, sA_, sB_, sC_, i64_w, i32_w]
         rfl
        refine one_ (i := 2) (N := some 98) (bm_ 68 7) rfl rfl (one_of HT_.out (by kernel_rfl)) (by decide) (fun K hK => ?_)
        refine goes_ Try.func73 (by kernel_rfl) rfl #[.agg #[.int .i64 t375, .int .i64 t376, .int .i64 t377, .int .i64 t378], .agg #[.int .i64 t365, .int .i64 t366, .int .i64 t367, .int .i64 t368]] (by rfl) rfl rfl (by (try simp only [List.map_toArray, List.map_cons, List.map_nil]); first | done | rfl) ?_
        with_reducible refine (impl_Holds.calls t375 t376 t377 t378 t365 t366 t367 t368 true _ A200.out).mono ?_
        rintro e w259 ⟨rfl, hb⟩
        refine ⟨_, rfl, ?_⟩
        replace HBR := Aside0.mk (below_step HBR.out hb)
        replace hHeld := keep24_ hb hHeld
        clear hb
        refine hK.out _ _ hHeld (fun hHeld => ?_)
        clear hK K
        refine norm_ (a' := ?_) ?_ ?_
        rotate_left
        ·show Act.put _ (some 98) _ = _
         simp only [Act.put, sA_, sB_, sC_, i64_w, i32_w]
         rfl
        refine pure_ (i := 3) (N := some 99) (v := ?_) (a' := ?_) (bm_ 68 15) rfl rfl (any_of HT_.out (by kernel_rfl)) (fun _ _ _ h => h) (Or.inl ⟨by rfl, ?_⟩) ?_ ?_
        rotate_left
        ·intro w'
         go_simp
         with_reducible rfl
        rotate_left
        ·simp only [Act.put, sA_, sB_, sC_, i64_w, i32_w]
         rfl
        refine take_ (i := 4) (N := some 100) (v := ?_) (a' := ?_) (bm_ 68 31) rfl rfl (take_ofW HT_.out HW_.out (by kernel_rfl)) (fun _ _ _ h => h) (Or.inl ⟨by rfl, ?_⟩) hHeld ?_ ?_
        rotate_left
        ·intro w' hs_; repeat (obtain ⟨_, hs_⟩ := hs_)
         go_simp
         with_reducible rfl
        rotate_left
        ·simp only [Act.put, sA_, sB_, sC_, i64_w, i32_w]
         rfl
        refine take_ (i := 5) (N := some 101) (v := ?_) (a' := ?_) (bm_ 68 63) rfl rfl (take_ofW HT_.out HW_.out (by kernel_rfl)) (fun _ _ _ h => h) (Or.inl ⟨by rfl, ?_⟩) hHeld ?_ ?_
        rotate_left
        ·intro w' hs_; repeat (obtain ⟨_, hs_⟩ := hs_)
         go_simp
         with_reducible rfl
        rotate_left
        ·simp only [Act.put, sA_, sB_, sC_, i64_w, i32_w]
         rfl
        refine one_ (i := 6) (N := some 102) (bm_ 68 127) rfl rfl (one_of HT_.out (by kernel_rfl)) (by decide) (fun K hK => ?_)
        refine goes_ Try.func73 (by kernel_rfl) rfl #[.agg #[.int .i64 t375, .int .i64 t376, .int .i64 t377, .int .i64 t378], .agg #[.int .i64 t369, .int .i64 t370, .int .i64 t371, .int .i64 t372]] (by rfl) rfl rfl (by (try simp only [List.map_toArray, List.map_cons, List.map_nil]); first | done | rfl) ?_
        with_reducible refine (impl_Holds.calls t375 t376 t377 t378 t369 t370 t371 t372 true _ A202.out).mono ?_
        rintro e w260 ⟨rfl, hb⟩
        refine ⟨_, rfl, ?_⟩
        replace HBR := Aside0.mk (below_step HBR.out hb)
        replace hHeld := keep24_ hb hHeld
        clear hb
        refine hK.out _ _ hHeld (fun hHeld => ?_)
        clear hK K
        refine norm_ (a' := ?_) ?_ ?_
        rotate_left
        ·show Act.put _ (some 102) _ = _
         simp only [Act.put, sA_, sB_, sC_, i64_w, i32_w]
         rfl
        refine pure_ (i := 7) (N := some 103) (v := ?_) (a' := ?_) (bm_ 68 255) rfl rfl (any_of HT_.out (by kernel_rfl)) (fun _ _ _ h => h) (Or.inl ⟨by rfl, ?_⟩) ?_ ?_
        rotate_left
        ·intro w'
         go_simp
         with_reducible rfl
        rotate_left
        ·simp only [Act.put, sA_, sB_, sC_, i64_w, i32_w]
         rfl
        refine pure_ (i := 8) (N := some 104) (v := ?_) (a' := ?_) (bm_ 68 511) rfl rfl (any_of HT_.out (by kernel_rfl)) (fun _ _ _ h => h) (Or.inl ⟨by rfl, ?_⟩) ?_ ?_
        rotate_left
        ·intro w'
         go_simp
         with_reducible rfl
        rotate_left
        ·simp only [Act.put, sA_, sB_, sC_, i64_w, i32_w]
         rfl
        refine take_ (i := 9) (N := some 105) (v := ?_) (a' := ?_) (bm_ 68 1023) rfl rfl (take_ofW HT_.out HW_.out (by kernel_rfl)) (fun _ _ _ h => h) (Or.inl ⟨by rfl, ?_⟩) hHeld ?_ ?_
        rotate_left
        ·intro w' hs_; repeat (obtain ⟨_, hs_⟩ := hs_)
         go_simp
         with_reducible rfl
        rotate_left
        ·simp only [Act.put, sA_, sB_, sC_, i64_w, i32_w]
         rfl
        refine take_ (i := 10) (N := some 106) (v := ?_) (a' := ?_) (bm_ 68 2047) rfl rfl (take_ofW HT_.out HW_.out (by kernel_rfl)) (fun _ _ _ h => h) (Or.inl ⟨by rfl, ?_⟩) hHeld ?_ ?_
        rotate_left
        ·intro w' hs_; repeat (obtain ⟨_, hs_⟩ := hs_)
         go_simp
         with_reducible rfl
        rotate_left
        ·simp only [Act.put, sA_, sB_, sC_, i64_w, i32_w]
         rfl
        refine take_ (i := 11) (N := some 107) (v := ?_) (a' := ?_) (bm_ 68 4095) rfl rfl (take_ofW HT_.out HW_.out (by kernel_rfl)) (fun _ _ _ h => h) (Or.inl ⟨by rfl, ?_⟩) hHeld ?_ ?_
        rotate_left
        ·intro w' hs_; repeat (obtain ⟨_, hs_⟩ := hs_)
         go_simp
         with_reducible rfl
        rotate_left
        ·simp only [Act.put, sA_, sB_, sC_, i64_w, i32_w]
         rfl
        refine one_ (i := 12) (N := some 108) (bm_ 68 8191) rfl rfl (one_of HT_.out (by kernel_rfl)) (by decide) (fun K hK => ?_)
        refine goes_ Try.func64 (by kernel_rfl) rfl #[.agg #[.int .i64 t369, .int .i64 t370, .int .i64 t371, .int .i64 t372], .agg #[.int .i64 t365, .int .i64 t366, .int .i64 t367, .int .i64 t368]] (by rfl) rfl rfl (by (try simp only [List.map_toArray, List.map_cons, List.map_nil]); first | done | rfl) ?_
        with_reducible refine (impl_Join.calls t369 t370 t371 t372 t365 t366 t367 t368 t438 t439 t440 t441 _ A204.out).mono ?_
        rintro e w261 ⟨rfl, hb⟩
        refine ⟨_, rfl, ?_⟩
        replace HBR := Aside0.mk (below_step HBR.out hb)
        replace hHeld := keep24_ hb hHeld
        clear hb
        refine hK.out _ _ hHeld (fun hHeld => ?_)
        clear hK K
        refine norm_ (a' := ?_) ?_ ?_
        rotate_left
        ·show Act.put _ (some 108) _ = _
         simp only [Act.put, sA_, sB_, sC_, i64_w, i32_w]
         rfl
        refine pure_ (i := 13) (N := some 109) (v := ?_) (a' := ?_) (bm_ 68 16383) rfl rfl (any_of HT_.out (by kernel_rfl)) (fun _ _ _ h => h) (Or.inl ⟨by rfl, ?_⟩) ?_ ?_
        rotate_left
        ·intro w'
         go_simp
         with_reducible rfl
        rotate_left
        ·simp only [Act.put, sA_, sB_, sC_, i64_w, i32_w]
         rfl
        refine pure_ (i := 14) (N := some 110) (v := ?_) (a' := ?_) (bm_ 68 32767) rfl rfl (any_of HT_.out (by kernel_rfl)) (fun _ _ _ h => h) (Or.inl ⟨by rfl, ?_⟩) ?_ ?_
        rotate_left
        ·intro w'
         go_simp
         with_reducible rfl
        rotate_left
        ·simp only [Act.put, sA_, sB_, sC_, i64_w, i32_w]
         rfl
        refine pure_ (i := 15) (N := some 111) (v := ?_) (a' := ?_) (bm_ 68 65535) rfl rfl (any_of HT_.out (by kernel_rfl)) (fun _ _ _ h => h) (Or.inl ⟨by rfl, ?_⟩) ?_ ?_
        rotate_left
        ·intro w'
         go_simp
         with_reducible rfl
        rotate_left
        ·simp only [Act.put, sA_, sB_, sC_, i64_w, i32_w]
         rfl
        refine take_ (i := 16) (N := some 112) (v := ?_) (a' := ?_) (bm_ 68 131071) rfl rfl (take_ofW HT_.out HW_.out (by kernel_rfl)) (fun _ _ _ h => h) (Or.inl ⟨by rfl, ?_⟩) hHeld ?_ ?_
        rotate_left
        ·intro w' hs_; repeat (obtain ⟨_, hs_⟩ := hs_)
         go_simp
         with_reducible rfl
        rotate_left
        ·simp only [Act.put, sA_, sB_, sC_, i64_w, i32_w]
         rfl
        refine take_ (i := 17) (N := some 113) (v := ?_) (a' := ?_) (bm_ 68 262143) rfl rfl (take_ofW HT_.out HW_.out (by kernel_rfl)) (fun _ _ _ h => h) (Or.inl ⟨by rfl, ?_⟩) hHeld ?_ ?_
        rotate_left
        ·intro w' hs_; repeat (obtain ⟨_, hs_⟩ := hs_)
         go_simp
         with_reducible rfl
        rotate_left
        ·simp only [Act.put, sA_, sB_, sC_, i64_w, i32_w]
         rfl
        refine take_ (i := 19) (N := some 115) (v := ?_) (a' := ?_) (bm_ 68 786431) rfl rfl (take_ofW HT_.out HW_.out (by kernel_rfl)) (fun _ _ _ h => h) (Or.inl ⟨by rfl, ?_⟩) hHeld ?_ ?_
        rotate_left
        ·intro w' hs_; repeat (obtain ⟨_, hs_⟩ := hs_)
         go_simp
         with_reducible rfl
        rotate_left
        ·simp only [Act.put, sA_, sB_, sC_, i64_w, i32_w]
         rfl
        refine one_ (i := 18) (N := some 114) (bm_ 68 1048575) rfl rfl (one_of HT_.out (by kernel_rfl)) (by decide) (fun K hK => ?_)
        refine goes_ Try.func64 (by kernel_rfl) rfl #[.agg #[.int .i64 t365, .int .i64 t366, .int .i64 t367, .int .i64 t368], .agg #[.int .i64 t365, .int .i64 t366, .int .i64 t367, .int .i64 t368]] (by rfl) rfl rfl (by (try simp only [List.map_toArray, List.map_cons, List.map_nil]); first | done | rfl) ?_
        with_reducible refine (impl_Join.calls t365 t366 t367 t368 t365 t366 t367 t368 t442 t443 t444 t445 _ A206.out).mono ?_
        rintro e w262 ⟨rfl, hb⟩
        refine ⟨_, rfl, ?_⟩
        replace HBR := Aside0.mk (below_step HBR.out hb)
        replace hHeld := keep24_ hb hHeld
        clear hb
        refine hK.out _ _ hHeld (fun hHeld => ?_)
        clear hK K
        refine norm_ (a' := ?_) ?_ ?_
        rotate_left
        ·show Act.put _ (some 114) _ = _
         simp only [Act.put, sA_, sB_, sC_, i64_w, i32_w]
         rfl
        refine pure_ (i := 20) (N := some 116) (v := ?_) (a' := ?_) (bm_ 68 2097151) rfl rfl (any_of HT_.out (by kernel_rfl)) (fun _ _ _ h => h) (Or.inl ⟨by rfl, ?_⟩) ?_ ?_
        rotate_left
        ·intro w'
         go_simp
         with_reducible rfl
        rotate_left
        ·simp only [Act.put, sA_, sB_, sC_, i64_w, i32_w]
         rfl
        refine pure_ (i := 21) (N := some 117) (v := ?_) (a' := ?_) (bm_ 68 4194303) rfl rfl (any_of HT_.out (by kernel_rfl)) (fun _ _ _ h => h) (Or.inl ⟨by rfl, ?_⟩) ?_ ?_
        rotate_left
        ·intro w'
         go_simp
         with_reducible rfl
        rotate_left
        ·simp only [Act.put, sA_, sB_, sC_, i64_w, i32_w]
         rfl
        refine pure_ (i := 22) (N := some 118) (v := ?_) (a' := ?_) (bm_ 68 8388607) rfl rfl (any_of HT_.out (by kernel_rfl)) (fun _ _ _ h => h) (Or.inl ⟨by rfl, ?_⟩) ?_ ?_
        rotate_left
        ·intro w'
         go_simp
         with_reducible rfl
        rotate_left
        ·simp only [Act.put, sA_, sB_, sC_, i64_w, i32_w]
         rfl
        refine pure_ (i := 23) (N := some 119) (v := ?_) (a' := ?_) (bm_ 68 16777215) rfl rfl (any_of HT_.out (by kernel_rfl)) (fun _ _ _ h => h) (Or.inl ⟨by rfl, ?_⟩) ?_ ?_
        rotate_left
        ·intro w'
         go_simp
         with_reducible rfl
        rotate_left
        ·simp only [Act.put, sA_, sB_, sC_, i64_w, i32_w]
         rfl
        refine pure_ (i := 24) (N := some 120) (v := ?_) (a' := ?_) (bm_ 68 33554431) rfl rfl (any_of HT_.out (by kernel_rfl)) (fun _ _ _ h => h) (Or.inl ⟨by rfl, ?_⟩) ?_ ?_
        rotate_left
        ·intro w'
         go_simp
         with_reducible rfl
        rotate_left
        ·simp only [Act.put, sA_, sB_, sC_, i64_w, i32_w]
         rfl
        refine pure_ (i := 25) (N := some 121) (v := ?_) (a' := ?_) (bm_ 68 67108863) rfl rfl (any_of HT_.out (by kernel_rfl)) (fun _ _ _ h => h) (Or.inl ⟨by rfl, ?_⟩) ?_ ?_
        rotate_left
        ·intro w'
         go_simp
         with_reducible rfl
        rotate_left
        ·simp only [Act.put, sA_, sB_, sC_, i64_w, i32_w]
         rfl
        refine pure_ (i := 26) (N := some 122) (v := undef) (a' := ?_) (bm_ 68 134217727) rfl rfl (any_of HT_.out (by kernel_rfl)) (fun _ _ _ h => h) (Or.inr ⟨by rfl, rfl⟩) ?_ ?_
        rotate_left
        ·simp only [Act.put, sA_, sB_, sC_, i64_w, i32_w]
         rfl
        refine pure_ (i := 27) (N := some 123) (v := undef) (a' := ?_) (bm_ 68 268435455) rfl rfl (any_of HT_.out (by kernel_rfl)) (fun _ _ _ h => h) (Or.inr ⟨by rfl, rfl⟩) ?_ ?_
        rotate_left
        ·simp only [Act.put, sA_, sB_, sC_, i64_w, i32_w]
         rfl
        refine pure_ (i := 28) (N := some 124) (v := undef) (a' := ?_) (bm_ 68 536870911) rfl rfl (any_of HT_.out (by kernel_rfl)) (fun _ _ _ h => h) (Or.inr ⟨by rfl, rfl⟩) ?_ ?_
        rotate_left
        ·simp only [Act.put, sA_, sB_, sC_, i64_w, i32_w]
         rfl
        refine pure_ (i := 29) (N := some 125) (v := undef) (a' := ?_) (bm_ 68 1073741823) rfl rfl (any_of HT_.out (by kernel_rfl)) (fun _ _ _ h => h) (Or.inr ⟨by rfl, rfl⟩) ?_ ?_
        rotate_left
        ·simp only [Act.put, sA_, sB_, sC_, i64_w, i32_w]
         rfl
        refine pure_ (i := 30) (N := some 126) (v := undef) (a' := ?_) (bm_ 68 2147483647) rfl rfl (any_of HT_.out (by kernel_rfl)) (fun _ _ _ h => h) (Or.inr ⟨by rfl, rfl⟩) ?_ ?_
        rotate_left
        ·simp only [Act.put, sA_, sB_, sC_, i64_w, i32_w]
         rfl
        refine pure_ (i := 31) (N := some 127) (v := undef) (a' := ?_) (bm_ 68 4294967295) rfl rfl (any_of HT_.out (by kernel_rfl)) (fun _ _ _ h => h) (Or.inr ⟨by rfl, rfl⟩) ?_ ?_
        rotate_left
        ·simp only [Act.put, sA_, sB_, sC_, i64_w, i32_w]
         rfl
        refine pure_ (i := 32) (N := some 128) (v := undef) (a' := ?_) (bm_ 68 8589934591) rfl rfl (any_of HT_.out (by kernel_rfl)) (fun _ _ _ h => h) (Or.inr ⟨by rfl, rfl⟩) ?_ ?_
        rotate_left
        ·simp only [Act.put, sA_, sB_, sC_, i64_w, i32_w]
         rfl
        refine pure_ (i := 33) (N := some 129) (v := undef) (a' := ?_) (bm_ 68 17179869183) rfl rfl (any_of HT_.out (by kernel_rfl)) (fun _ _ _ h => h) (Or.inr ⟨by rfl, rfl⟩) ?_ ?_
        rotate_left
        ·simp only [Act.put, sA_, sB_, sC_, i64_w, i32_w]
         rfl
        refine pure_ (i := 34) (N := some 130) (v := undef) (a' := ?_) (bm_ 68 34359738367) rfl rfl (any_of HT_.out (by kernel_rfl)) (fun _ _ _ h => h) (Or.inr ⟨by rfl, rfl⟩) ?_ ?_
        rotate_left
        ·simp only [Act.put, sA_, sB_, sC_, i64_w, i32_w]
         rfl
        refine pure_ (i := 35) (N := some 131) (v := undef) (a' := ?_) (bm_ 68 68719476735) rfl rfl (any_of HT_.out (by kernel_rfl)) (fun _ _ _ h => h) (Or.inr ⟨by rfl, rfl⟩) ?_ ?_
        rotate_left
        ·simp only [Act.put, sA_, sB_, sC_, i64_w, i32_w]
         rfl
        refine pure_ (i := 36) (N := some 132) (v := undef) (a' := ?_) (bm_ 68 137438953471) rfl rfl (any_of HT_.out (by kernel_rfl)) (fun _ _ _ h => h) (Or.inr ⟨by rfl, rfl⟩) ?_ ?_
        rotate_left
        ·simp only [Act.put, sA_, sB_, sC_, i64_w, i32_w]
         rfl
        refine pure_ (i := 37) (N := some 133) (v := undef) (a' := ?_) (bm_ 68 274877906943) rfl rfl (any_of HT_.out (by kernel_rfl)) (fun _ _ _ h => h) (Or.inr ⟨by rfl, rfl⟩) ?_ ?_
        rotate_left
        ·simp only [Act.put, sA_, sB_, sC_, i64_w, i32_w]
         rfl
        refine pure_ (i := 38) (N := some 134) (v := undef) (a' := ?_) (bm_ 68 549755813887) rfl rfl (any_of HT_.out (by kernel_rfl)) (fun _ _ _ h => h) (Or.inr ⟨by rfl, rfl⟩) ?_ ?_
        rotate_left
        ·simp only [Act.put, sA_, sB_, sC_, i64_w, i32_w]
         rfl
        refine pure_ (i := 39) (N := some 135) (v := undef) (a' := ?_) (bm_ 68 1099511627775) rfl rfl (any_of HT_.out (by kernel_rfl)) (fun _ _ _ h => h) (Or.inr ⟨by rfl, rfl⟩) ?_ ?_
        rotate_left
        ·simp only [Act.put, sA_, sB_, sC_, i64_w, i32_w]
         rfl
        refine pure_ (i := 40) (N := some 136) (v := undef) (a' := ?_) (bm_ 68 2199023255551) rfl rfl (any_of HT_.out (by kernel_rfl)) (fun _ _ _ h => h) (Or.inr ⟨by rfl, rfl⟩) ?_ ?_
        rotate_left
        ·simp only [Act.put, sA_, sB_, sC_, i64_w, i32_w]
         rfl
        refine pure_ (i := 41) (N := some 137) (v := ?_) (a' := ?_) (bm_ 68 4398046511103) rfl rfl (any_of HT_.out (by kernel_rfl)) (fun _ _ _ h => h) (Or.inl ⟨by rfl, ?_⟩) ?_ ?_
        rotate_left
        ·intro w'
         go_simp
         with_reducible rfl
        rotate_left
        ·simp only [Act.put, sA_, sB_, sC_, i64_w, i32_w]
         rfl
        refine pure_ (i := 42) (N := some 138) (v := ?_) (a' := ?_) (bm_ 68 8796093022207) rfl rfl (any_of HT_.out (by kernel_rfl)) (fun _ _ _ h => h) (Or.inl ⟨by rfl, ?_⟩) ?_ ?_
        rotate_left
        ·intro w'
         go_simp
         with_reducible rfl
        rotate_left
        ·simp only [Act.put, sA_, sB_, sC_, i64_w, i32_w]
         rfl
        refine pure_ (i := 43) (N := some 139) (v := ?_) (a' := ?_) (bm_ 68 17592186044415) rfl rfl (any_of HT_.out (by kernel_rfl)) (fun _ _ _ h => h) (Or.inl ⟨by rfl, ?_⟩) ?_ ?_
        rotate_left
        ·intro w'
         go_simp
         with_reducible rfl
        rotate_left
        ·simp only [Act.put, sA_, sB_, sC_, i64_w, i32_w]
         rfl
        refine take_ (i := 44) (N := some 140) (v := ?_) (a' := ?_) (bm_ 68 35184372088831) rfl rfl (take_ofW HT_.out HW_.out (by kernel_rfl)) (fun _ _ _ h => h) (Or.inl ⟨by rfl, ?_⟩) hHeld ?_ ?_
        rotate_left
        ·intro w' hs_; repeat (obtain ⟨_, hs_⟩ := hs_)
         go_simp
         with_reducible rfl
        rotate_left
        ·simp only [Act.put, sA_, sB_, sC_, i64_w, i32_w]
         rfl
        refine take_ (i := 45) (N := some 141) (v := ?_) (a' := ?_) (bm_ 68 70368744177663) rfl rfl (take_ofW HT_.out HW_.out (by kernel_rfl)) (fun _ _ _ h => h) (Or.inl ⟨by rfl, ?_⟩) hHeld ?_ ?_
        rotate_left
        ·intro w' hs_; repeat (obtain ⟨_, hs_⟩ := hs_)
         go_simp
         with_reducible rfl
        rotate_left
        ·simp only [Act.put, sA_, sB_, sC_, i64_w, i32_w]
         rfl
        refine take_ (i := 47) (N := some 143) (v := ?_) (a' := ?_) (bm_ 68 211106232532991) rfl rfl (take_ofW HT_.out HW_.out (by kernel_rfl)) (fun _ _ _ h => h) (Or.inl ⟨by rfl, ?_⟩) hHeld ?_ ?_
        rotate_left
        ·intro w' hs_; repeat (obtain ⟨_, hs_⟩ := hs_)
         go_simp
         with_reducible rfl
        rotate_left
        ·simp only [Act.put, sA_, sB_, sC_, i64_w, i32_w]
         rfl
        refine take_ (i := 48) (N := some 144) (v := ?_) (a' := ?_) (bm_ 68 492581209243647) rfl rfl (take_ofW HT_.out HW_.out (by kernel_rfl)) (fun _ _ _ h => h) (Or.inl ⟨by rfl, ?_⟩) hHeld ?_ ?_
        rotate_left
        ·intro w' hs_; repeat (obtain ⟨_, hs_⟩ := hs_)
         go_simp
         with_reducible rfl
        rotate_left
        ·simp only [Act.put, sA_, sB_, sC_, i64_w, i32_w]
         rfl
        refine one_ (i := 46) (N := some 142) (bm_ 68 562949953421311) rfl rfl (one_of HT_.out (by kernel_rfl)) (by decide) (fun K hK => ?_)
        refine goes_ Try.func71 (by kernel_rfl) rfl #[.agg #[.int .i64 t380, .int .i64 t381, .int .i64 t382, .int .i64 t383], .agg #[.int .i64 t384, .int .i64 t385, .int .i64 t386, .int .i64 t387]] (by rfl) rfl rfl (by (try simp only [List.map_toArray, List.map_cons, List.map_nil]); first | done | rfl) ?_
        with_reducible refine (impl_Meets.calls t380 t381 t382 t383 t384 t385 t386 t387 t455 _ A250.out).mono ?_
        rintro e w263 ⟨rfl, hb⟩
        refine ⟨_, rfl, ?_⟩
        replace HBR := Aside0.mk (below_step HBR.out hb)
        replace hHeld := keep24_ hb hHeld
        clear hb
        refine hK.out _ _ hHeld (fun hHeld => ?_)
        clear hK K
        refine norm_ (a' := ?_) ?_ ?_
        rotate_left
        ·show Act.put _ (some 142) _ = _
         simp only [Act.put, sA_, sB_, sC_, i64_w, i32_w]
         rfl
        refine one_ (i := 49) (N := some 145) (bm_ 68 1125899906842623) rfl rfl (one_of HT_.out (by kernel_rfl)) (by decide) (fun K hK => ?_)
        refine goes_ Try.func71 (by kernel_rfl) rfl #[.agg #[.int .i64 t384, .int .i64 t385, .int .i64 t386, .int .i64 t387], .agg #[.int .i64 t380, .int .i64 t381, .int .i64 t382, .int .i64 t383]] (by rfl) rfl rfl (by (try simp only [List.map_toArray, List.map_cons, List.map_nil]); first | done | rfl) ?_
        with_reducible refine (impl_Meets.calls t384 t385 t386 t387 t380 t381 t382 t383 t456 _ A251.out).mono ?_
        rintro e w264 ⟨rfl, hb⟩
        refine ⟨_, rfl, ?_⟩
        replace HBR := Aside0.mk (below_step HBR.out hb)
        replace hHeld := keep24_ hb hHeld
        clear hb
        refine hK.out _ _ hHeld (fun hHeld => ?_)
        clear hK K
        refine norm_ (a' := ?_) ?_ ?_
        rotate_left
        ·show Act.put _ (some 145) _ = _
         simp only [Act.put, sA_, sB_, sC_, i64_w, i32_w]
         rfl
        refine pure_ (i := 50) (N := some 146) (v := ?_) (a' := ?_) (bm_ 68 2251799813685247) rfl rfl (any_of HT_.out (by kernel_rfl)) (fun _ _ _ h => h) (Or.inl ⟨by rfl, ?_⟩) ?_ ?_
        rotate_left
        ·intro w'
         go_simp
         with_reducible rfl
        rotate_left
        ·simp only [Act.put, sA_, sB_, sC_, i64_w, i32_w]
         rfl
        refine pure_ (i := 51) (N := some 147) (v := ?_) (a' := ?_) (bm_ 68 4503599627370495) rfl rfl (any_of HT_.out (by kernel_rfl)) (fun _ _ _ h => h) (Or.inl ⟨by rfl, ?_⟩) ?_ ?_
        rotate_left
        ·intro w'
         go_simp
         with_reducible rfl
        rotate_left
        ·simp only [Act.put, sA_, sB_, sC_, i64_w, i32_w]
         rfl
        refine pure_ (i := 52) (N := some 148) (v := ?_) (a' := ?_) (bm_ 68 9007199254740991) rfl rfl (any_of HT_.out (by kernel_rfl)) (fun _ _ _ h => h) (Or.inl ⟨by rfl, ?_⟩) ?_ ?_
        rotate_left
        ·intro w'
         go_simp
         with_reducible rfl
        rotate_left
        ·simp only [Act.put, sA_, sB_, sC_, i64_w, i32_w]
         rfl
        refine take_ (i := 53) (N := some 149) (v := ?_) (a' := ?_) (bm_ 68 18014398509481983) rfl rfl (take_ofW HT_.out HW_.out (by kernel_rfl)) (fun _ _ _ h => h) (Or.inl ⟨by rfl, ?_⟩) hHeld ?_ ?_
        rotate_left
        ·intro w' hs_; repeat (obtain ⟨_, hs_⟩ := hs_)
         go_simp
         with_reducible rfl
        rotate_left
        ·simp only [Act.put, sA_, sB_, sC_, i64_w, i32_w]
         rfl
        refine one_ (i := 54) (N := some 150) (bm_ 68 36028797018963967) rfl rfl (one_of HT_.out (by kernel_rfl)) (by decide) (fun K hK => ?_)
        refine goes_ Try.func77 (by kernel_rfl) rfl #[.agg #[.int .i64 t410, .int .i64 t411, .int .i64 t412, .int .i64 t413]] (by rfl) rfl rfl (by (try simp only [List.map_toArray, List.map_cons, List.map_nil]); first | done | rfl) ?_
        with_reducible refine (impl_BoxOk.calls t410 t411 t412 t413 true _ A253.out).mono ?_
        rintro e w265 ⟨rfl, hb⟩
        refine ⟨_, rfl, ?_⟩
        replace HBR := Aside0.mk (below_step HBR.out hb)
        replace hHeld := keep24_ hb hHeld
        clear hb
        refine hK.out _ _ hHeld (fun hHeld => ?_)
        clear hK K
        refine norm_ (a' := ?_) ?_ ?_
        rotate_left
        ·show Act.put _ (some 150) _ = _
         simp only [Act.put, sA_, sB_, sC_, i64_w, i32_w]
         rfl
        refine pure_ (i := 55) (N := some 151) (v := ?_) (a' := ?_) (bm_ 68 72057594037927935) rfl rfl (any_of HT_.out (by kernel_rfl)) (fun _ _ _ h => h) (Or.inl ⟨by rfl, ?_⟩) ?_ ?_
        rotate_left
        ·intro w'
         go_simp
         with_reducible rfl
        rotate_left
        ·simp only [Act.put, sA_, sB_, sC_, i64_w, i32_w]
         rfl
        refine pure_ (i := 56) (N := some 152) (v := ?_) (a' := ?_) (bm_ 68 144115188075855871) rfl rfl (any_of HT_.out (by kernel_rfl)) (fun _ _ _ h => h) (Or.inl ⟨by rfl, ?_⟩) ?_ ?_
        rotate_left
        ·intro w'
         go_simp
         with_reducible rfl
        rotate_left
        ·simp only [Act.put, sA_, sB_, sC_, i64_w, i32_w]
         rfl
        refine take_ (i := 57) (N := some 153) (v := ?_) (a' := ?_) (bm_ 68 288230376151711743) rfl rfl (take_ofW HT_.out HW_.out (by kernel_rfl)) (fun _ _ _ h => h) (Or.inl ⟨by rfl, ?_⟩) hHeld ?_ ?_
        rotate_left
        ·intro w' hs_; repeat (obtain ⟨_, hs_⟩ := hs_)
         go_simp
         with_reducible rfl
        rotate_left
        ·simp only [Act.put, sA_, sB_, sC_, i64_w, i32_w]
         rfl
        refine one_ (i := 58) (N := some 154) (bm_ 68 576460752303423487) rfl rfl (one_of HT_.out (by kernel_rfl)) (by decide) (fun K hK => ?_)
        refine goes_ Try.func79 (by kernel_rfl) rfl #[.agg #[.int .i64 t410, .int .i64 t411, .int .i64 t412, .int .i64 t413]] (by rfl) rfl rfl (by (try simp only [List.map_toArray, List.map_cons, List.map_nil]); first | done | rfl) ?_
        with_reducible refine (impl_Area.calls t410 t411 t412 t413 t458 _ A255.out).mono ?_
        rintro e w266 ⟨rfl, hb⟩
        refine ⟨_, rfl, ?_⟩
        replace HBR := Aside0.mk (below_step HBR.out hb)
        replace hHeld := keep24_ hb hHeld
        clear hb
        refine hK.out _ _ hHeld (fun hHeld => ?_)
        clear hK K
        refine norm_ (a' := ?_) ?_ ?_
        rotate_left
        ·show Act.put _ (some 154) _ = _
         simp only [Act.put, sA_, sB_, sC_, i64_w, i32_w]
         rfl
        refine pure_ (i := 59) (N := some 155) (v := ?_) (a' := ?_) (bm_ 68 1152921504606846975) rfl rfl (any_of HT_.out (by kernel_rfl)) (fun _ _ _ h => h) (Or.inl ⟨by rfl, ?_⟩) ?_ ?_
        rotate_left
        ·intro w'
         go_simp
         with_reducible rfl
        rotate_left
        ·simp only [Act.put, sA_, sB_, sC_, i64_w, i32_w]
         rfl
        refine pure_ (i := 60) (N := some 156) (v := ?_) (a' := ?_) (bm_ 68 2305843009213693951) rfl rfl (any_of HT_.out (by kernel_rfl)) (fun _ _ _ h => h) (Or.inl ⟨by rfl, ?_⟩) ?_ ?_
        rotate_left
        ·intro w'
         go_simp
         with_reducible rfl
        rotate_left
        ·simp only [Act.put, sA_, sB_, sC_, i64_w, i32_w]
         rfl
        refine take_ (i := 61) (N := some 157) (v := ?_) (a' := ?_) (bm_ 68 4611686018427387903) rfl rfl (take_ofW HT_.out HW_.out (by kernel_rfl)) (fun _ _ _ h => h) (Or.inl ⟨by rfl, ?_⟩) hHeld ?_ ?_
        rotate_left
        ·intro w' hs_; repeat (obtain ⟨_, hs_⟩ := hs_)
         go_simp
         with_reducible rfl
        rotate_left
        ·simp only [Act.put, sA_, sB_, sC_, i64_w, i32_w]
         rfl
        refine take_ (i := 62) (N := some 158) (v := ?_) (a' := ?_) (bm_ 68 9223372036854775807) rfl rfl (take_ofW HT_.out HW_.out (by kernel_rfl)) (fun _ _ _ h => h) (Or.inl ⟨by rfl, ?_⟩) hHeld ?_ ?_
        rotate_left
        ·intro w' hs_; repeat (obtain ⟨_, hs_⟩ := hs_)
         go_simp
         with_reducible rfl
        rotate_left
        ·simp only [Act.put, sA_, sB_, sC_, i64_w, i32_w]
         rfl
        refine one_ (i := 63) (N := some 159) (bm_ 68 18446744073709551615) rfl rfl (one_of HT_.out (by kernel_rfl)) (by decide) (fun K hK => ?_)
        refine goes_ Try.func71 (by kernel_rfl) rfl #[.agg #[.int .i64 t410, .int .i64 t411, .int .i64 t412, .int .i64 t413], .agg #[.int .i64 t410, .int .i64 t411, .int .i64 t412, .int .i64 t413]] (by rfl) rfl rfl (by (try simp only [List.map_toArray, List.map_cons, List.map_nil]); first | done | rfl) ?_
        with_reducible refine (impl_Meets.calls t410 t411 t412 t413 t410 t411 t412 t413 true _ A257.out).mono ?_
        rintro e w267 ⟨rfl, hb⟩
        refine ⟨_, rfl, ?_⟩
        replace HBR := Aside0.mk (below_step HBR.out hb)
        replace hHeld := keep24_ hb hHeld
        clear hb
        refine hK.out _ _ hHeld (fun hHeld => ?_)
        clear hK K
        refine norm_ (a' := ?_) ?_ ?_
        rotate_left
        ·show Act.put _ (some 159) _ = _
         simp only [Act.put, sA_, sB_, sC_, i64_w, i32_w]
         rfl
        refine pure_ (i := 64) (N := some 160) (v := ?_) (a' := ?_) (bm_ 68 36893488147419103231) rfl rfl (any_of HT_.out (by kernel_rfl)) (fun _ _ _ h => h) (Or.inl ⟨by rfl, ?_⟩) ?_ ?_
        rotate_left
        ·intro w'
         go_simp
         with_reducible rfl
        rotate_left
        ·simp only [Act.put, sA_, sB_, sC_, i64_w, i32_w]
         rfl
        refine pure_ (i := 65) (N := some 161) (v := ?_) (a' := ?_) (bm_ 68 73786976294838206463) rfl rfl (any_of HT_.out (by kernel_rfl)) (fun _ _ _ h => h) (Or.inl ⟨by rfl, ?_⟩) ?_ ?_
        rotate_left
        ·intro w'
         go_simp
         with_reducible rfl
        rotate_left
        ·simp only [Act.put, sA_, sB_, sC_, i64_w, i32_w]
         rfl
        refine pure_ (i := 66) (N := some 162) (v := ?_) (a' := ?_) (bm_ 68 147573952589676412927) rfl rfl (any_of HT_.out (by kernel_rfl)) (fun _ _ _ h => h) (Or.inl ⟨by rfl, ?_⟩) ?_ ?_
        rotate_left
        ·intro w'
         go_simp
         with_reducible rfl
        rotate_left
        ·simp only [Act.put, sA_, sB_, sC_, i64_w, i32_w]
         rfl
        refine pure_ (i := 67) (N := some 2) (v := ?_) (a' := ?_) (bm_ 68 295147905179352825855) rfl rfl (any_of HT_.out (by kernel_rfl)) (fun _ _ _ h => h) (Or.inl ⟨by rfl, ?_⟩) ?_ ?_
        rotate_left
        ·intro w'
         go_simp
         with_reducible rfl
        rotate_left
        ·simp only [Act.put, sA_, sB_, sC_, i64_w, i32_w]
         rfl
        replace BK373 := Aside0.mk (blk_below BK373.out HBR.out)
        replace BK374 := Aside0.mk (blk_below BK374.out HBR.out)
        replace BK379 := Aside0.mk (blk_below BK379.out HBR.out)
        replace BK388 := Aside0.mk (blk_below BK388.out HBR.out)
        replace BK389 := Aside0.mk (blk_below BK389.out HBR.out)
        replace BK398 := Aside0.mk (blk_below BK398.out HBR.out)
        replace BK399 := Aside0.mk (blk_below BK399.out HBR.out)
        replace BK408 := Aside0.mk (blk_below BK408.out HBR.out)
        replace BK409 := Aside0.mk (blk_below BK409.out HBR.out)
        replace BK414 := Aside0.mk (blk_below BK414.out HBR.out)
        replace BK419 := Aside0.mk (blk_below BK419.out HBR.out)
        replace HB := Aside0.mk (below_step HB.out HBR.out)
        refine done_ (done_of HT_.out (by kernel_rfl)) ?_
        try go_wp2
        go_ret
        exact ⟨by first | rfl | (rw [hrv_.out]; done) | (rw [hrv_.out]; rfl) | (have hrv1_ := hrv_.out; simp [hrv1_]; done) | (simp [errW_none, errW_some] <;> rfl) | (simp [*, errW_none, errW_some] <;> rfl), by repeat (first | (with_reducible first | exact HB.out | apply below_alloc | apply pw_below_drewN | apply below_drew1 | refine below_set ?_ GE373.out | refine below_set ?_ GE374.out | refine below_set ?_ GE379.out | refine below_set ?_ GE388.out | refine below_set ?_ GE389.out | refine below_set ?_ GE398.out | refine below_set ?_ GE399.out | refine below_set ?_ GE408.out | refine below_set ?_ GE409.out | refine below_set ?_ GE414.out | refine below_set ?_ GE419.out) | exact HB.out)⟩
       ·replace c254 := Bool.eq_false_iff.mpr c254
        subst c254
        have H1 : (some true) = some true := rfl
        clear H
        have H := H1
        clear H1
        clear H
        try go_wp2
        replace BK373 := Aside0.mk (blk_drew BK373.out)
        replace BK374 := Aside0.mk (blk_drew BK374.out)
        replace BK379 := Aside0.mk (blk_drew BK379.out)
        replace BK388 := Aside0.mk (blk_drew BK388.out)
        replace BK389 := Aside0.mk (blk_drew BK389.out)
        replace BK398 := Aside0.mk (blk_drew BK398.out)
        replace BK399 := Aside0.mk (blk_drew BK399.out)
        replace BK408 := Aside0.mk (blk_drew BK408.out)
        replace BK409 := Aside0.mk (blk_drew BK409.out)
        replace BK414 := Aside0.mk (blk_drew BK414.out)
        replace BK419 := Aside0.mk (blk_drew BK419.out)
        replace HB := Aside0.mk (below_drew1 HB.out)
        refine start_ (n := 68) (S := fun w' => w'.cell? ⟨gb379, 0, none⟩ = some (.int .i64 t375) ∧ w'.cell? ⟨gb379, 1, none⟩ = some (.int .i64 t376) ∧ w'.cell? ⟨gb379, 2, none⟩ = some (.int .i64 t377) ∧ w'.cell? ⟨gb379, 3, none⟩ = some (.int .i64 t378) ∧ w'.cell? ⟨gb373, 0, none⟩ = some (.int .i64 t365) ∧ w'.cell? ⟨gb373, 1, none⟩ = some (.int .i64 t366) ∧ w'.cell? ⟨gb373, 2, none⟩ = some (.int .i64 t367) ∧ w'.cell? ⟨gb373, 3, none⟩ = some (.int .i64 t368) ∧ w'.cell? ⟨gb374, 0, none⟩ = some (.int .i64 t369) ∧ w'.cell? ⟨gb374, 1, none⟩ = some (.int .i64 t370) ∧ w'.cell? ⟨gb374, 2, none⟩ = some (.int .i64 t371) ∧ w'.cell? ⟨gb374, 3, none⟩ = some (.int .i64 t372) ∧ w'.cell? ⟨gb388, 0, none⟩ = some (.int .i64 t380) ∧ w'.cell? ⟨gb388, 1, none⟩ = some (.int .i64 t381) ∧ w'.cell? ⟨gb388, 2, none⟩ = some (.int .i64 t382) ∧ w'.cell? ⟨gb388, 3, none⟩ = some (.int .i64 t383) ∧ w'.cell? ⟨gb389, 0, none⟩ = some (.int .i64 t384) ∧ w'.cell? ⟨gb389, 1, none⟩ = some (.int .i64 t385) ∧ w'.cell? ⟨gb389, 2, none⟩ = some (.int .i64 t386) ∧ w'.cell? ⟨gb389, 3, none⟩ = some (.int .i64 t387) ∧ w'.cell? ⟨gb414, 0, none⟩ = some (.int .i64 t410) ∧ w'.cell? ⟨gb414, 1, none⟩ = some (.int .i64 t411) ∧ w'.cell? ⟨gb414, 2, none⟩ = some (.int .i64 t412) ∧ w'.cell? ⟨gb414, 3, none⟩ = some (.int .i64 t413)) (ds := []) #[false, false, false, false, false, false, false, false, false, false, false, false, false, false, false, false, false, false, false, false, false, false, false, false, false, false, false, false, false, false, false, false, false, false, false, false, false, false, false, false, false, false, false, false, false, false, false, false, false, false, false, false, false, false, false, false, false, false, false, false, false, false, false, false, false, false, false, false] (by kernel_rfl) rfl rfl ⟨(blk_cell BK379.out 0).trans rfl, (blk_cell BK379.out 1).trans rfl, (blk_cell BK379.out 2).trans rfl, (blk_cell BK379.out 3).trans rfl, (blk_cell BK373.out 0).trans rfl, (blk_cell BK373.out 1).trans rfl, (blk_cell BK373.out 2).trans rfl, (blk_cell BK373.out 3).trans rfl, (blk_cell BK374.out 0).trans rfl, (blk_cell BK374.out 1).trans rfl, (blk_cell BK374.out 2).trans rfl, (blk_cell BK374.out 3).trans rfl, (blk_cell BK388.out 0).trans rfl, (blk_cell BK388.out 1).trans rfl, (blk_cell BK388.out 2).trans rfl, (blk_cell BK388.out 3).trans rfl, (blk_cell BK389.out 0).trans rfl, (blk_cell BK389.out 1).trans rfl, (blk_cell BK389.out 2).trans rfl, (blk_cell BK389.out 3).trans rfl, (blk_cell BK414.out 0).trans rfl, (blk_cell BK414.out 1).trans rfl, (blk_cell BK414.out 2).trans rfl, (blk_cell BK414.out 3).trans rfl⟩ (fun hHeld => ?_); refine with_tabW laws_FnBoxes.tab13 laws_FnBoxes.bits13 (fun HT_ HW_ => ?_)
        generalize wc.drew = w268 at BK373 BK374 BK379 BK388 BK389 BK398 BK399 BK408 BK409 BK414 BK419 HB hHeld ⊢
        have HBR := Aside0.mk (Below.refl w268.heap.size w268)
        refine take_ (i := 0) (N := some 96) (v := ?_) (a' := ?_) (bm_ 68 1) rfl rfl (take_ofW HT_.out HW_.out (by kernel_rfl)) (fun _ _ _ h => h) (Or.inl ⟨by rfl, ?_⟩) hHeld ?_ ?_
        rotate_left
        ·intro w' hs_; repeat (obtain ⟨_, hs_⟩ := hs_)
         go_simp
         with_reducible rfl
        rotate_left
        ·simp only [Act.put, sA_, sB_, sC_, i64_w, i32_w]
         rfl
        refine take_ (i := 1) (N := some 97) (v := ?_) (a' := ?_) (bm_ 68 3) rfl rfl (take_ofW HT_.out HW_.out (by kernel_rfl)) (fun _ _ _ h => h) (Or.inl ⟨by rfl, ?_⟩) hHeld ?_ ?_
        rotate_left
        ·intro w' hs_; repeat (obtain ⟨_, hs_⟩ := hs_)
         go_simp
         with_reducible rfl
        rotate_left
        ·simp only [Act.put, sA_, sB_, sC_, i64_w, i32_w]
         rfl
        refine one_ (i := 2) (N := some 98) (bm_ 68 7) rfl rfl (one_of HT_.out (by kernel_rfl)) (by decide) (fun K hK => ?_)
        refine goes_ Try.func73 (by kernel_rfl) rfl #[.agg #[.int .i64 t375, .int .i64 t376, .int .i64 t377, .int .i64 t378], .agg #[.int .i64 t365, .int .i64 t366, .int .i64 t367, .int .i64 t368]] (by rfl) rfl rfl (by (try simp only [List.map_toArray, List.map_cons, List.map_nil]); first | done | rfl) ?_
        with_reducible refine (impl_Holds.calls t375 t376 t377 t378 t365 t366 t367 t368 true _ A200.out).mono ?_
        rintro e w269 ⟨rfl, hb⟩
        refine ⟨_, rfl, ?_⟩
        replace HBR := Aside0.mk (below_step HBR.out hb)
        replace hHeld := keep24_ hb hHeld
        clear hb
        refine hK.out _ _ hHeld (fun hHeld => ?_)
        clear hK K
        refine norm_ (a' := ?_) ?_ ?_
        rotate_left
        ·show Act.put _ (some 98) _ = _
         simp only [Act.put, sA_, sB_, sC_, i64_w, i32_w]
         rfl
        refine pure_ (i := 3) (N := some 99) (v := ?_) (a' := ?_) (bm_ 68 15) rfl rfl (any_of HT_.out (by kernel_rfl)) (fun _ _ _ h => h) (Or.inl ⟨by rfl, ?_⟩) ?_ ?_
        rotate_left
        ·intro w'
         go_simp
         with_reducible rfl
        rotate_left
        ·simp only [Act.put, sA_, sB_, sC_, i64_w, i32_w]
         rfl
        refine take_ (i := 4) (N := some 100) (v := ?_) (a' := ?_) (bm_ 68 31) rfl rfl (take_ofW HT_.out HW_.out (by kernel_rfl)) (fun _ _ _ h => h) (Or.inl ⟨by rfl, ?_⟩) hHeld ?_ ?_
        rotate_left
        ·intro w' hs_; repeat (obtain ⟨_, hs_⟩ := hs_)
         go_simp
         with_reducible rfl
        rotate_left
        ·simp only [Act.put, sA_, sB_, sC_, i64_w, i32_w]
         rfl
        refine take_ (i := 5) (N := some 101) (v := ?_) (a' := ?_) (bm_ 68 63) rfl rfl (take_ofW HT_.out HW_.out (by kernel_rfl)) (fun _ _ _ h => h) (Or.inl ⟨by rfl, ?_⟩) hHeld ?_ ?_
        rotate_left
        ·intro w' hs_; repeat (obtain ⟨_, hs_⟩ := hs_)
         go_simp
         with_reducible rfl
        rotate_left
        ·simp only [Act.put, sA_, sB_, sC_, i64_w, i32_w]
         rfl
        refine one_ (i := 6) (N := some 102) (bm_ 68 127) rfl rfl (one_of HT_.out (by kernel_rfl)) (by decide) (fun K hK => ?_)
        refine goes_ Try.func73 (by kernel_rfl) rfl #[.agg #[.int .i64 t375, .int .i64 t376, .int .i64 t377, .int .i64 t378], .agg #[.int .i64 t369, .int .i64 t370, .int .i64 t371, .int .i64 t372]] (by rfl) rfl rfl (by (try simp only [List.map_toArray, List.map_cons, List.map_nil]); first | done | rfl) ?_
        with_reducible refine (impl_Holds.calls t375 t376 t377 t378 t369 t370 t371 t372 true _ A202.out).mono ?_
        rintro e w270 ⟨rfl, hb⟩
        refine ⟨_, rfl, ?_⟩
        replace HBR := Aside0.mk (below_step HBR.out hb)
        replace hHeld := keep24_ hb hHeld
        clear hb
        refine hK.out _ _ hHeld (fun hHeld => ?_)
        clear hK K
        refine norm_ (a' := ?_) ?_ ?_
        rotate_left
        ·show Act.put _ (some 102) _ = _
         simp only [Act.put, sA_, sB_, sC_, i64_w, i32_w]
         rfl
        refine pure_ (i := 7) (N := some 103) (v := ?_) (a' := ?_) (bm_ 68 255) rfl rfl (any_of HT_.out (by kernel_rfl)) (fun _ _ _ h => h) (Or.inl ⟨by rfl, ?_⟩) ?_ ?_
        rotate_left
        ·intro w'
         go_simp
         with_reducible rfl
        rotate_left
        ·simp only [Act.put, sA_, sB_, sC_, i64_w, i32_w]
         rfl
        refine pure_ (i := 8) (N := some 104) (v := ?_) (a' := ?_) (bm_ 68 511) rfl rfl (any_of HT_.out (by kernel_rfl)) (fun _ _ _ h => h) (Or.inl ⟨by rfl, ?_⟩) ?_ ?_
        rotate_left
        ·intro w'
         go_simp
         with_reducible rfl
        rotate_left
        ·simp only [Act.put, sA_, sB_, sC_, i64_w, i32_w]
         rfl
        refine take_ (i := 9) (N := some 105) (v := ?_) (a' := ?_) (bm_ 68 1023) rfl rfl (take_ofW HT_.out HW_.out (by kernel_rfl)) (fun _ _ _ h => h) (Or.inl ⟨by rfl, ?_⟩) hHeld ?_ ?_
        rotate_left
        ·intro w' hs_; repeat (obtain ⟨_, hs_⟩ := hs_)
         go_simp
         with_reducible rfl
        rotate_left
        ·simp only [Act.put, sA_, sB_, sC_, i64_w, i32_w]
         rfl
        refine take_ (i := 10) (N := some 106) (v := ?_) (a' := ?_) (bm_ 68 2047) rfl rfl (take_ofW HT_.out HW_.out (by kernel_rfl)) (fun _ _ _ h => h) (Or.inl ⟨by rfl, ?_⟩) hHeld ?_ ?_
        rotate_left
        ·intro w' hs_; repeat (obtain ⟨_, hs_⟩ := hs_)
         go_simp
         with_reducible rfl
        rotate_left
        ·simp only [Act.put, sA_, sB_, sC_, i64_w, i32_w]
         rfl
        refine take_ (i := 11) (N := some 107) (v := ?_) (a' := ?_) (bm_ 68 4095) rfl rfl (take_ofW HT_.out HW_.out (by kernel_rfl)) (fun _ _ _ h => h) (Or.inl ⟨by rfl, ?_⟩) hHeld ?_ ?_
        rotate_left
        ·intro w' hs_; repeat (obtain ⟨_, hs_⟩ := hs_)
         go_simp
         with_reducible rfl
        rotate_left
        ·simp only [Act.put, sA_, sB_, sC_, i64_w, i32_w]
         rfl
        refine one_ (i := 12) (N := some 108) (bm_ 68 8191) rfl rfl (one_of HT_.out (by kernel_rfl)) (by decide) (fun K hK => ?_)
        refine goes_ Try.func64 (by kernel_rfl) rfl #[.agg #[.int .i64 t369, .int .i64 t370, .int .i64 t371, .int .i64 t372], .agg #[.int .i64 t365, .int .i64 t366, .int .i64 t367, .int .i64 t368]] (by rfl) rfl rfl (by (try simp only [List.map_toArray, List.map_cons, List.map_nil]); first | done | rfl) ?_
        with_reducible refine (impl_Join.calls t369 t370 t371 t372 t365 t366 t367 t368 t438 t439 t440 t441 _ A204.out).mono ?_
        rintro e w271 ⟨rfl, hb⟩
        refine ⟨_, rfl, ?_⟩
        replace HBR := Aside0.mk (below_step HBR.out hb)
        replace hHeld := keep24_ hb hHeld
        clear hb
        refine hK.out _ _ hHeld (fun hHeld => ?_)
        clear hK K
        refine norm_ (a' := ?_) ?_ ?_
        rotate_left
        ·show Act.put _ (some 108) _ = _
         simp only [Act.put, sA_, sB_, sC_, i64_w, i32_w]
         rfl
        refine pure_ (i := 13) (N := some 109) (v := ?_) (a' := ?_) (bm_ 68 16383) rfl rfl (any_of HT_.out (by kernel_rfl)) (fun _ _ _ h => h) (Or.inl ⟨by rfl, ?_⟩) ?_ ?_
        rotate_left
        ·intro w'
         go_simp
         with_reducible rfl
        rotate_left
        ·simp only [Act.put, sA_, sB_, sC_, i64_w, i32_w]
         rfl
        refine pure_ (i := 14) (N := some 110) (v := ?_) (a' := ?_) (bm_ 68 32767) rfl rfl (any_of HT_.out (by kernel_rfl)) (fun _ _ _ h => h) (Or.inl ⟨by rfl, ?_⟩) ?_ ?_
        rotate_left
        ·intro w'
         go_simp
         with_reducible rfl
        rotate_left
        ·simp only [Act.put, sA_, sB_, sC_, i64_w, i32_w]
         rfl
        refine pure_ (i := 15) (N := some 111) (v := ?_) (a' := ?_) (bm_ 68 65535) rfl rfl (any_of HT_.out (by kernel_rfl)) (fun _ _ _ h => h) (Or.inl ⟨by rfl, ?_⟩) ?_ ?_
        rotate_left
        ·intro w'
         go_simp
         with_reducible rfl
        rotate_left
        ·simp only [Act.put, sA_, sB_, sC_, i64_w, i32_w]
         rfl
        refine take_ (i := 16) (N := some 112) (v := ?_) (a' := ?_) (bm_ 68 131071) rfl rfl (take_ofW HT_.out HW_.out (by kernel_rfl)) (fun _ _ _ h => h) (Or.inl ⟨by rfl, ?_⟩) hHeld ?_ ?_
        rotate_left
        ·intro w' hs_; repeat (obtain ⟨_, hs_⟩ := hs_)
         go_simp
         with_reducible rfl
        rotate_left
        ·simp only [Act.put, sA_, sB_, sC_, i64_w, i32_w]
         rfl
        refine take_ (i := 17) (N := some 113) (v := ?_) (a' := ?_) (bm_ 68 262143) rfl rfl (take_ofW HT_.out HW_.out (by kernel_rfl)) (fun _ _ _ h => h) (Or.inl ⟨by rfl, ?_⟩) hHeld ?_ ?_
        rotate_left
        ·intro w' hs_; repeat (obtain ⟨_, hs_⟩ := hs_)
         go_simp
         with_reducible rfl
        rotate_left
        ·simp only [Act.put, sA_, sB_, sC_, i64_w, i32_w]
         rfl
        refine take_ (i := 19) (N := some 115) (v := ?_) (a' := ?_) (bm_ 68 786431) rfl rfl (take_ofW HT_.out HW_.out (by kernel_rfl)) (fun _ _ _ h => h) (Or.inl ⟨by rfl, ?_⟩) hHeld ?_ ?_
        rotate_left
        ·intro w' hs_; repeat (obtain ⟨_, hs_⟩ := hs_)
         go_simp
         with_reducible rfl
        rotate_left
        ·simp only [Act.put, sA_, sB_, sC_, i64_w, i32_w]
         rfl
        refine one_ (i := 18) (N := some 114) (bm_ 68 1048575) rfl rfl (one_of HT_.out (by kernel_rfl)) (by decide) (fun K hK => ?_)
        refine goes_ Try.func64 (by kernel_rfl) rfl #[.agg #[.int .i64 t365, .int .i64 t366, .int .i64 t367, .int .i64 t368], .agg #[.int .i64 t365, .int .i64 t366, .int .i64 t367, .int .i64 t368]] (by rfl) rfl rfl (by (try simp only [List.map_toArray, List.map_cons, List.map_nil]); first | done | rfl) ?_
        with_reducible refine (impl_Join.calls t365 t366 t367 t368 t365 t366 t367 t368 t442 t443 t444 t445 _ A206.out).mono ?_
        rintro e w272 ⟨rfl, hb⟩
        refine ⟨_, rfl, ?_⟩
        replace HBR := Aside0.mk (below_step HBR.out hb)
        replace hHeld := keep24_ hb hHeld
        clear hb
        refine hK.out _ _ hHeld (fun hHeld => ?_)
        clear hK K
        refine norm_ (a' := ?_) ?_ ?_
        rotate_left
        ·show Act.put _ (some 114) _ = _
         simp only [Act.put, sA_, sB_, sC_, i64_w, i32_w]
         rfl
        refine pure_ (i := 20) (N := some 116) (v := ?_) (a' := ?_) (bm_ 68 2097151) rfl rfl (any_of HT_.out (by kernel_rfl)) (fun _ _ _ h => h) (Or.inl ⟨by rfl, ?_⟩) ?_ ?_
        rotate_left
        ·intro w'
         go_simp
         with_reducible rfl
        rotate_left
        ·simp only [Act.put, sA_, sB_, sC_, i64_w, i32_w]
         rfl
        refine pure_ (i := 21) (N := some 117) (v := ?_) (a' := ?_) (bm_ 68 4194303) rfl rfl (any_of HT_.out (by kernel_rfl)) (fun _ _ _ h => h) (Or.inl ⟨by rfl, ?_⟩) ?_ ?_
        rotate_left
        ·intro w'
         go_simp
         with_reducible rfl
        rotate_left
        ·simp only [Act.put, sA_, sB_, sC_, i64_w, i32_w]
         rfl
        refine pure_ (i := 22) (N := some 118) (v := ?_) (a' := ?_) (bm_ 68 8388607) rfl rfl (any_of HT_.out (by kernel_rfl)) (fun _ _ _ h => h) (Or.inl ⟨by rfl, ?_⟩) ?_ ?_
        rotate_left
        ·intro w'
         go_simp
         with_reducible rfl
        rotate_left
        ·simp only [Act.put, sA_, sB_, sC_, i64_w, i32_w]
         rfl
        refine pure_ (i := 23) (N := some 119) (v := ?_) (a' := ?_) (bm_ 68 16777215) rfl rfl (any_of HT_.out (by kernel_rfl)) (fun _ _ _ h => h) (Or.inl ⟨by rfl, ?_⟩) ?_ ?_
        rotate_left
        ·intro w'
         go_simp
         with_reducible rfl
        rotate_left
        ·simp only [Act.put, sA_, sB_, sC_, i64_w, i32_w]
         rfl
        refine pure_ (i := 24) (N := some 120) (v := ?_) (a' := ?_) (bm_ 68 33554431) rfl rfl (any_of HT_.out (by kernel_rfl)) (fun _ _ _ h => h) (Or.inl ⟨by rfl, ?_⟩) ?_ ?_
        rotate_left
        ·intro w'
         go_simp
         with_reducible rfl
        rotate_left
        ·simp only [Act.put, sA_, sB_, sC_, i64_w, i32_w]
         rfl
        refine pure_ (i := 25) (N := some 121) (v := ?_) (a' := ?_) (bm_ 68 67108863) rfl rfl (any_of HT_.out (by kernel_rfl)) (fun _ _ _ h => h) (Or.inl ⟨by rfl, ?_⟩) ?_ ?_
        rotate_left
        ·intro w'
         go_simp
         with_reducible rfl
        rotate_left
        ·simp only [Act.put, sA_, sB_, sC_, i64_w, i32_w]
         rfl
        refine pure_ (i := 26) (N := some 122) (v := undef) (a' := ?_) (bm_ 68 134217727) rfl rfl (any_of HT_.out (by kernel_rfl)) (fun _ _ _ h => h) (Or.inr ⟨by rfl, rfl⟩) ?_ ?_
        rotate_left
        ·simp only [Act.put, sA_, sB_, sC_, i64_w, i32_w]
         rfl
        refine pure_ (i := 27) (N := some 123) (v := undef) (a' := ?_) (bm_ 68 268435455) rfl rfl (any_of HT_.out (by kernel_rfl)) (fun _ _ _ h => h) (Or.inr ⟨by rfl, rfl⟩) ?_ ?_
        rotate_left
        ·simp only [Act.put, sA_, sB_, sC_, i64_w, i32_w]
         rfl
        refine pure_ (i := 28) (N := some 124) (v := undef) (a' := ?_) (bm_ 68 536870911) rfl rfl (any_of HT_.out (by kernel_rfl)) (fun _ _ _ h => h) (Or.inr ⟨by rfl, rfl⟩) ?_ ?_
        rotate_left
        ·simp only [Act.put, sA_, sB_, sC_, i64_w, i32_w]
         rfl
        refine pure_ (i := 29) (N := some 125) (v := undef) (a' := ?_) (bm_ 68 1073741823) rfl rfl (any_of HT_.out (by kernel_rfl)) (fun _ _ _ h => h) (Or.inr ⟨by rfl, rfl⟩) ?_ ?_
        rotate_left
        ·simp only [Act.put, sA_, sB_, sC_, i64_w, i32_w]
         rfl
        refine pure_ (i := 30) (N := some 126) (v := undef) (a' := ?_) (bm_ 68 2147483647) rfl rfl (any_of HT_.out (by kernel_rfl)) (fun _ _ _ h => h) (Or.inr ⟨by rfl, rfl⟩) ?_ ?_
        rotate_left
        ·simp only [Act.put, sA_, sB_, sC_, i64_w, i32_w]
         rfl
        refine pure_ (i := 31) (N := some 127) (v := undef) (a' := ?_) (bm_ 68 4294967295) rfl rfl (any_of HT_.out (by kernel_rfl)) (fun _ _ _ h => h) (Or.inr ⟨by rfl, rfl⟩) ?_ ?_
        rotate_left
        ·simp only [Act.put, sA_, sB_, sC_, i64_w, i32_w]
         rfl
        refine pure_ (i := 32) (N := some 128) (v := undef) (a' := ?_) (bm_ 68 8589934591) rfl rfl (any_of HT_.out (by kernel_rfl)) (fun _ _ _ h => h) (Or.inr ⟨by rfl, rfl⟩) ?_ ?_
        rotate_left
        ·simp only [Act.put, sA_, sB_, sC_, i64_w, i32_w]
         rfl
        refine pure_ (i := 33) (N := some 129) (v := undef) (a' := ?_) (bm_ 68 17179869183) rfl rfl (any_of HT_.out (by kernel_rfl)) (fun _ _ _ h => h) (Or.inr ⟨by rfl, rfl⟩) ?_ ?_
        rotate_left
        ·simp only [Act.put, sA_, sB_, sC_, i64_w, i32_w]
         rfl
        refine pure_ (i := 34) (N := some 130) (v := undef) (a' := ?_) (bm_ 68 34359738367) rfl rfl (any_of HT_.out (by kernel_rfl)) (fun _ _ _ h => h) (Or.inr ⟨by rfl, rfl⟩) ?_ ?_
        rotate_left
        ·simp only [Act.put, sA_, sB_, sC_, i64_w, i32_w]
         rfl
        refine pure_ (i := 35) (N := some 131) (v := undef) (a' := ?_) (bm_ 68 68719476735) rfl rfl (any_of HT_.out (by kernel_rfl)) (fun _ _ _ h => h) (Or.inr ⟨by rfl, rfl⟩) ?_ ?_
        rotate_left
        ·simp only [Act.put, sA_, sB_, sC_, i64_w, i32_w]
         rfl
        refine pure_ (i := 36) (N := some 132) (v := undef) (a' := ?_) (bm_ 68 137438953471) rfl rfl (any_of HT_.out (by kernel_rfl)) (fun _ _ _ h => h) (Or.inr ⟨by rfl, rfl⟩) ?_ ?_
        rotate_left
        ·simp only [Act.put, sA_, sB_, sC_, i64_w, i32_w]
         rfl
        refine pure_ (i := 37) (N := some 133) (v := undef) (a' := ?_) (bm_ 68 274877906943) rfl rfl (any_of HT_.out (by kernel_rfl)) (fun _ _ _ h => h) (Or.inr ⟨by rfl, rfl⟩) ?_ ?_
        rotate_left
        ·simp only [Act.put, sA_, sB_, sC_, i64_w, i32_w]
         rfl
        refine pure_ (i := 38) (N := some 134) (v := undef) (a' := ?_) (bm_ 68 549755813887) rfl rfl (any_of HT_.out (by kernel_rfl)) (fun _ _ _ h => h) (Or.inr ⟨by rfl, rfl⟩) ?_ ?_
        rotate_left
        ·simp only [Act.put, sA_, sB_, sC_, i64_w, i32_w]
         rfl
        refine pure_ (i := 39) (N := some 135) (v := undef) (a' := ?_) (bm_ 68 1099511627775) rfl rfl (any_of HT_.out (by kernel_rfl)) (fun _ _ _ h => h) (Or.inr ⟨by rfl, rfl⟩) ?_ ?_
        rotate_left
        ·simp only [Act.put, sA_, sB_, sC_, i64_w, i32_w]
         rfl
        refine pure_ (i := 40) (N := some 136) (v := undef) (a' := ?_) (bm_ 68 2199023255551) rfl rfl (any_of HT_.out (by kernel_rfl)) (fun _ _ _ h => h) (Or.inr ⟨by rfl, rfl⟩) ?_ ?_
        rotate_left
        ·simp only [Act.put, sA_, sB_, sC_, i64_w, i32_w]
         rfl
        refine pure_ (i := 41) (N := some 137) (v := ?_) (a' := ?_) (bm_ 68 4398046511103) rfl rfl (any_of HT_.out (by kernel_rfl)) (fun _ _ _ h => h) (Or.inl ⟨by rfl, ?_⟩) ?_ ?_
        rotate_left
        ·intro w'
         go_simp
         with_reducible rfl
        rotate_left
        ·simp only [Act.put, sA_, sB_, sC_, i64_w, i32_w]
         rfl
        refine pure_ (i := 42) (N := some 138) (v := ?_) (a' := ?_) (bm_ 68 8796093022207) rfl rfl (any_of HT_.out (by kernel_rfl)) (fun _ _ _ h => h) (Or.inl ⟨by rfl, ?_⟩) ?_ ?_
        rotate_left
        ·intro w'
         go_simp
         with_reducible rfl
        rotate_left
        ·simp only [Act.put, sA_, sB_, sC_, i64_w, i32_w]
         rfl
        refine pure_ (i := 43) (N := some 139) (v := ?_) (a' := ?_) (bm_ 68 17592186044415) rfl rfl (any_of HT_.out (by kernel_rfl)) (fun _ _ _ h => h) (Or.inl ⟨by rfl, ?_⟩) ?_ ?_
        rotate_left
        ·intro w'
         go_simp
         with_reducible rfl
        rotate_left
        ·simp only [Act.put, sA_, sB_, sC_, i64_w, i32_w]
         rfl
        refine take_ (i := 44) (N := some 140) (v := ?_) (a' := ?_) (bm_ 68 35184372088831) rfl rfl (take_ofW HT_.out HW_.out (by kernel_rfl)) (fun _ _ _ h => h) (Or.inl ⟨by rfl, ?_⟩) hHeld ?_ ?_
        rotate_left
        ·intro w' hs_; repeat (obtain ⟨_, hs_⟩ := hs_)
         go_simp
         with_reducible rfl
        rotate_left
        ·simp only [Act.put, sA_, sB_, sC_, i64_w, i32_w]
         rfl
        refine take_ (i := 45) (N := some 141) (v := ?_) (a' := ?_) (bm_ 68 70368744177663) rfl rfl (take_ofW HT_.out HW_.out (by kernel_rfl)) (fun _ _ _ h => h) (Or.inl ⟨by rfl, ?_⟩) hHeld ?_ ?_
        rotate_left
        ·intro w' hs_; repeat (obtain ⟨_, hs_⟩ := hs_)
         go_simp
         with_reducible rfl
        rotate_left
        ·simp only [Act.put, sA_, sB_, sC_, i64_w, i32_w]
         rfl
        refine take_ (i := 47) (N := some 143) (v := ?_) (a' := ?_) (bm_ 68 211106232532991) rfl rfl (take_ofW HT_.out HW_.out (by kernel_rfl)) (fun _ _ _ h => h) (Or.inl ⟨by rfl, ?_⟩) hHeld ?_ ?_
        rotate_left
        ·intro w' hs_; repeat (obtain ⟨_, hs_⟩ := hs_)
         go_simp
         with_reducible rfl
        rotate_left
        ·simp only [Act.put, sA_, sB_, sC_, i64_w, i32_w]
         rfl
        refine take_ (i := 48) (N := some 144) (v := ?_) (a' := ?_) (bm_ 68 492581209243647) rfl rfl (take_ofW HT_.out HW_.out (by kernel_rfl)) (fun _ _ _ h => h) (Or.inl ⟨by rfl, ?_⟩) hHeld ?_ ?_
        rotate_left
        ·intro w' hs_; repeat (obtain ⟨_, hs_⟩ := hs_)
         go_simp
         with_reducible rfl
        rotate_left
        ·simp only [Act.put, sA_, sB_, sC_, i64_w, i32_w]
         rfl
        refine one_ (i := 46) (N := some 142) (bm_ 68 562949953421311) rfl rfl (one_of HT_.out (by kernel_rfl)) (by decide) (fun K hK => ?_)
        refine goes_ Try.func71 (by kernel_rfl) rfl #[.agg #[.int .i64 t380, .int .i64 t381, .int .i64 t382, .int .i64 t383], .agg #[.int .i64 t384, .int .i64 t385, .int .i64 t386, .int .i64 t387]] (by rfl) rfl rfl (by (try simp only [List.map_toArray, List.map_cons, List.map_nil]); first | done | rfl) ?_
        with_reducible refine (impl_Meets.calls t380 t381 t382 t383 t384 t385 t386 t387 t455 _ A250.out).mono ?_
        rintro e w273 ⟨rfl, hb⟩
        refine ⟨_, rfl, ?_⟩
        replace HBR := Aside0.mk (below_step HBR.out hb)
        replace hHeld := keep24_ hb hHeld
        clear hb
        refine hK.out _ _ hHeld (fun hHeld => ?_)
        clear hK K
        refine norm_ (a' := ?_) ?_ ?_
        rotate_left
        ·show Act.put _ (some 142) _ = _
         simp only [Act.put, sA_, sB_, sC_, i64_w, i32_w]
         rfl
        refine one_ (i := 49) (N := some 145) (bm_ 68 1125899906842623) rfl rfl (one_of HT_.out (by kernel_rfl)) (by decide) (fun K hK => ?_)
        refine goes_ Try.func71 (by kernel_rfl) rfl #[.agg #[.int .i64 t384, .int .i64 t385, .int .i64 t386, .int .i64 t387], .agg #[.int .i64 t380, .int .i64 t381, .int .i64 t382, .int .i64 t383]] (by rfl) rfl rfl (by (try simp only [List.map_toArray, List.map_cons, List.map_nil]); first | done | rfl) ?_
        with_reducible refine (impl_Meets.calls t384 t385 t386 t387 t380 t381 t382 t383 t456 _ A251.out).mono ?_
        rintro e w274 ⟨rfl, hb⟩
        refine ⟨_, rfl, ?_⟩
        replace HBR := Aside0.mk (below_step HBR.out hb)
        replace hHeld := keep24_ hb hHeld
        clear hb
        refine hK.out _ _ hHeld (fun hHeld => ?_)
        clear hK K
        refine norm_ (a' := ?_) ?_ ?_
        rotate_left
        ·show Act.put _ (some 145) _ = _
         simp only [Act.put, sA_, sB_, sC_, i64_w, i32_w]
         rfl
        refine pure_ (i := 50) (N := some 146) (v := ?_) (a' := ?_) (bm_ 68 2251799813685247) rfl rfl (any_of HT_.out (by kernel_rfl)) (fun _ _ _ h => h) (Or.inl ⟨by rfl, ?_⟩) ?_ ?_
        rotate_left
        ·intro w'
         go_simp
         with_reducible rfl
        rotate_left
        ·simp only [Act.put, sA_, sB_, sC_, i64_w, i32_w]
         rfl
        refine pure_ (i := 51) (N := some 147) (v := ?_) (a' := ?_) (bm_ 68 4503599627370495) rfl rfl (any_of HT_.out (by kernel_rfl)) (fun _ _ _ h => h) (Or.inl ⟨by rfl, ?_⟩) ?_ ?_
        rotate_left
        ·intro w'
         go_simp
         with_reducible rfl
        rotate_left
        ·simp only [Act.put, sA_, sB_, sC_, i64_w, i32_w]
         rfl
        refine pure_ (i := 52) (N := some 148) (v := ?_) (a' := ?_) (bm_ 68 9007199254740991) rfl rfl (any_of HT_.out (by kernel_rfl)) (fun _ _ _ h => h) (Or.inl ⟨by rfl, ?_⟩) ?_ ?_
        rotate_left
        ·intro w'
         go_simp
         with_reducible rfl
        rotate_left
        ·simp only [Act.put, sA_, sB_, sC_, i64_w, i32_w]
         rfl
        refine take_ (i := 53) (N := some 149) (v := ?_) (a' := ?_) (bm_ 68 18014398509481983) rfl rfl (take_ofW HT_.out HW_.out (by kernel_rfl)) (fun _ _ _ h => h) (Or.inl ⟨by rfl, ?_⟩) hHeld ?_ ?_
        rotate_left
        ·intro w' hs_; repeat (obtain ⟨_, hs_⟩ := hs_)
         go_simp
         with_reducible rfl
        rotate_left
        ·simp only [Act.put, sA_, sB_, sC_, i64_w, i32_w]
         rfl
        refine one_ (i := 54) (N := some 150) (bm_ 68 36028797018963967) rfl rfl (one_of HT_.out (by kernel_rfl)) (by decide) (fun K hK => ?_)
        refine goes_ Try.func77 (by kernel_rfl) rfl #[.agg #[.int .i64 t410, .int .i64 t411, .int .i64 t412, .int .i64 t413]] (by rfl) rfl rfl (by (try simp only [List.map_toArray, List.map_cons, List.map_nil]); first | done | rfl) ?_
        with_reducible refine (impl_BoxOk.calls t410 t411 t412 t413 false _ A253.out).mono ?_
        rintro e w275 ⟨rfl, hb⟩
        refine ⟨_, rfl, ?_⟩
        replace HBR := Aside0.mk (below_step HBR.out hb)
        replace hHeld := keep24_ hb hHeld
        clear hb
        refine hK.out _ _ hHeld (fun hHeld => ?_)
        clear hK K
        refine norm_ (a' := ?_) ?_ ?_
        rotate_left
        ·show Act.put _ (some 150) _ = _
         simp only [Act.put, sA_, sB_, sC_, i64_w, i32_w]
         rfl
        refine pure_ (i := 55) (N := some 151) (v := ?_) (a' := ?_) (bm_ 68 72057594037927935) rfl rfl (any_of HT_.out (by kernel_rfl)) (fun _ _ _ h => h) (Or.inl ⟨by rfl, ?_⟩) ?_ ?_
        rotate_left
        ·intro w'
         go_simp
         with_reducible rfl
        rotate_left
        ·simp only [Act.put, sA_, sB_, sC_, i64_w, i32_w]
         rfl
        refine pure_ (i := 56) (N := some 152) (v := ?_) (a' := ?_) (bm_ 68 144115188075855871) rfl rfl (any_of HT_.out (by kernel_rfl)) (fun _ _ _ h => h) (Or.inl ⟨by rfl, ?_⟩) ?_ ?_
        rotate_left
        ·intro w'
         go_simp
         with_reducible rfl
        rotate_left
        ·simp only [Act.put, sA_, sB_, sC_, i64_w, i32_w]
         rfl
        refine pure_ (i := 57) (N := some 153) (v := undef) (a' := ?_) (bm_ 68 288230376151711743) rfl rfl (any_of HT_.out (by kernel_rfl)) (fun _ _ _ h => h) (Or.inr ⟨by rfl, rfl⟩) ?_ ?_
        rotate_left
        ·simp only [Act.put, sA_, sB_, sC_, i64_w, i32_w]
         rfl
        refine pure_ (i := 58) (N := some 154) (v := undef) (a' := ?_) (bm_ 68 576460752303423487) rfl rfl (any_of HT_.out (by kernel_rfl)) (fun _ _ _ h => h) (Or.inr ⟨by rfl, rfl⟩) ?_ ?_
        rotate_left
        ·simp only [Act.put, sA_, sB_, sC_, i64_w, i32_w]
         rfl
        refine pure_ (i := 59) (N := some 155) (v := undef) (a' := ?_) (bm_ 68 1152921504606846975) rfl rfl (any_of HT_.out (by kernel_rfl)) (fun _ _ _ h => h) (Or.inr ⟨by rfl, rfl⟩) ?_ ?_
        rotate_left
        ·simp only [Act.put, sA_, sB_, sC_, i64_w, i32_w]
         rfl
        refine pure_ (i := 60) (N := some 156) (v := undef) (a' := ?_) (bm_ 68 2305843009213693951) rfl rfl (any_of HT_.out (by kernel_rfl)) (fun _ _ _ h => h) (Or.inr ⟨by rfl, rfl⟩) ?_ ?_
        rotate_left
        ·simp only [Act.put, sA_, sB_, sC_, i64_w, i32_w]
         rfl
        refine pure_ (i := 61) (N := some 157) (v := undef) (a' := ?_) (bm_ 68 4611686018427387903) rfl rfl (any_of HT_.out (by kernel_rfl)) (fun _ _ _ h => h) (Or.inr ⟨by rfl, rfl⟩) ?_ ?_
        rotate_left
        ·simp only [Act.put, sA_, sB_, sC_, i64_w, i32_w]
         rfl
        refine pure_ (i := 62) (N := some 158) (v := undef) (a' := ?_) (bm_ 68 9223372036854775807) rfl rfl (any_of HT_.out (by kernel_rfl)) (fun _ _ _ h => h) (Or.inr ⟨by rfl, rfl⟩) ?_ ?_
        rotate_left
        ·simp only [Act.put, sA_, sB_, sC_, i64_w, i32_w]
         rfl
        refine pure_ (i := 63) (N := some 159) (v := undef) (a' := ?_) (bm_ 68 18446744073709551615) rfl rfl (any_of HT_.out (by kernel_rfl)) (fun _ _ _ h => h) (Or.inr ⟨by rfl, rfl⟩) ?_ ?_
        rotate_left
        ·simp only [Act.put, sA_, sB_, sC_, i64_w, i32_w]
         rfl
        refine pure_ (i := 64) (N := some 160) (v := undef) (a' := ?_) (bm_ 68 36893488147419103231) rfl rfl (any_of HT_.out (by kernel_rfl)) (fun _ _ _ h => h) (Or.inr ⟨by rfl, rfl⟩) ?_ ?_
        rotate_left
        ·simp only [Act.put, sA_, sB_, sC_, i64_w, i32_w]
         rfl
        refine pure_ (i := 65) (N := some 161) (v := ?_) (a' := ?_) (bm_ 68 73786976294838206463) rfl rfl (any_of HT_.out (by kernel_rfl)) (fun _ _ _ h => h) (Or.inl ⟨by rfl, ?_⟩) ?_ ?_
        rotate_left
        ·intro w'
         go_simp
         with_reducible rfl
        rotate_left
        ·simp only [Act.put, sA_, sB_, sC_, i64_w, i32_w]
         rfl
        refine pure_ (i := 66) (N := some 162) (v := ?_) (a' := ?_) (bm_ 68 147573952589676412927) rfl rfl (any_of HT_.out (by kernel_rfl)) (fun _ _ _ h => h) (Or.inl ⟨by rfl, ?_⟩) ?_ ?_
        rotate_left
        ·intro w'
         go_simp
         with_reducible rfl
        rotate_left
        ·simp only [Act.put, sA_, sB_, sC_, i64_w, i32_w]
         rfl
        refine pure_ (i := 67) (N := some 2) (v := ?_) (a' := ?_) (bm_ 68 295147905179352825855) rfl rfl (any_of HT_.out (by kernel_rfl)) (fun _ _ _ h => h) (Or.inl ⟨by rfl, ?_⟩) ?_ ?_
        rotate_left
        ·intro w'
         go_simp
         with_reducible rfl
        rotate_left
        ·simp only [Act.put, sA_, sB_, sC_, i64_w, i32_w]
         rfl
        replace BK373 := Aside0.mk (blk_below BK373.out HBR.out)
        replace BK374 := Aside0.mk (blk_below BK374.out HBR.out)
        replace BK379 := Aside0.mk (blk_below BK379.out HBR.out)
        replace BK388 := Aside0.mk (blk_below BK388.out HBR.out)
        replace BK389 := Aside0.mk (blk_below BK389.out HBR.out)
        replace BK398 := Aside0.mk (blk_below BK398.out HBR.out)
        replace BK399 := Aside0.mk (blk_below BK399.out HBR.out)
        replace BK408 := Aside0.mk (blk_below BK408.out HBR.out)
        replace BK409 := Aside0.mk (blk_below BK409.out HBR.out)
        replace BK414 := Aside0.mk (blk_below BK414.out HBR.out)
        replace BK419 := Aside0.mk (blk_below BK419.out HBR.out)
        replace HB := Aside0.mk (below_step HB.out HBR.out)
        refine done_ (done_of HT_.out (by kernel_rfl)) ?_
        try go_wp2
        go_ret
        exact ⟨by first | rfl | (rw [hrv_.out]; done) | (rw [hrv_.out]; rfl) | (have hrv1_ := hrv_.out; simp [hrv1_]; done) | (simp [errW_none, errW_some] <;> rfl) | (simp [*, errW_none, errW_some] <;> rfl), by repeat (first | (with_reducible first | exact HB.out | apply below_alloc | apply pw_below_drewN | apply below_drew1 | refine below_set ?_ GE373.out | refine below_set ?_ GE374.out | refine below_set ?_ GE379.out | refine below_set ?_ GE388.out | refine below_set ?_ GE389.out | refine below_set ?_ GE398.out | refine below_set ?_ GE399.out | refine below_set ?_ GE408.out | refine below_set ?_ GE409.out | refine below_set ?_ GE414.out | refine below_set ?_ GE419.out) | exact HB.out)⟩
     ·replace c201 := Bool.eq_false_iff.mpr c201
      subst c201
      rw [if_neg (show ¬ (false = true) by decide)] at H
      exact absurd H (by simp)
 
/-- THE ONE PURE STATEMENT of laws_FnBoxes: yours. -/

def laws_FnBoxes.Pure : Prop := ∀ (l0 : List Int), l0.length ≤ maxLen → l0.length * 1 ≤ 140737488351232 → (∀ x ∈ l0, (Lit.int .u8 x).wf = true) → ∃ k, laws_FnBoxes.f k l0 = some true

end Go.Proofs.Ytjmgomailgplcaa.PFnBoxes
