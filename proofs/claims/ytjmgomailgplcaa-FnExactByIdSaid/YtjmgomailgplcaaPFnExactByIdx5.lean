-- Written by a program of this session; Lean checks it.
import Derived.Test.YtjmgomailgplcaaPFnExactByIdx0
namespace Go.Proofs.Ytjmgomailgplcaa.PFnExactById
open Go.RowKit Go.Proofs.YtjmgomailgplcaaW.PrintWords Go.Proofs.YtjmgomailgplcaaW.PrintLast Go.Proofs.YtjmgomailgplcaaW.PrintMore
attribute [local go_sem] max2_int min2_int max_two min_two max_three min_three max_four min_four   -- for this text's walks alone
set_option linter.unusedVariables false
set_option linter.unusedSimpArgs false

/-! ### impl_Item_161: function 161 -/
def impl_Item_161.l0 : Nat → List (S100) → Int → Int → Int → Int → Option ((List (S100)))
  | 0, _, _, _, _, _ => none
  | k + 1, x0, x1, x2, x3, x10 => if x10 < x3 then (if 0 ≤ (wrap64 (x2 + x10)) then (if (wrap64 (x2 + x10)) < (x0.length : Int) then (if 0 ≤ (wrap64 (x1 + x10)) then (if (wrap64 (x1 + x10)) < (x0.length : Int) then (if (wrap64 (x1 + x10)) = (wrap64 (x2 + x10)) then none else (impl_Item_161.l0 k ((x0.set ((wrap64 (x1 + x10)) : Int).toNat (⟨(rd_T100 x0 (wrap64 (x2 + x10))).f0, (⟨(rd_T100 x0 (wrap64 (x2 + x10))).f1.f0, (rd_T100 x0 (wrap64 (x2 + x10))).f1.f1, (rd_T100 x0 (wrap64 (x2 + x10))).f1.f2, (rd_T100 x0 (wrap64 (x2 + x10))).f1.f3⟩ : S73)⟩ : S100)).set ((wrap64 (x2 + x10)) : Int).toNat (⟨(rd_T100 x0 (wrap64 (x1 + x10))).f0, (⟨(rd_T100 x0 (wrap64 (x1 + x10))).f1.f0, (rd_T100 x0 (wrap64 (x1 + x10))).f1.f1, (rd_T100 x0 (wrap64 (x1 + x10))).f1.f2, (rd_T100 x0 (wrap64 (x1 + x10))).f1.f3⟩ : S73)⟩ : S100)) x1 x2 x3 (wrap64 (x10 + 1)))) else (none)) else (none)) else (none)) else (none)) else (some x0)
def impl_Item_161.f (k : Nat) (l0 : List (S100)) (a1 : Int) (a2 : Int) (a3 : Int) : Option ((List (S100))) := impl_Item_161.l0 k l0 a1 a2 a3 0
theorem impl_Item_161.mono_l : ∀ k, (∀ y0 y1 y2 y3 y4, LeO (impl_Item_161.l0 k y0 y1 y2 y3 y4) (impl_Item_161.l0 (k + 1) y0 y1 y2 y3 y4))
  | 0 => fun _ _ _ _ _ r h => by simp [impl_Item_161.l0] at h
  | k + 1 => by
    have ih0 := impl_Item_161.mono_l k
    · intro y0 y1 y2 y3 y4
      unfold impl_Item_161.l0
      repeat' first
      | (with_reducible exact ih0 _ _ _ _ _)
      | (with_reducible exact LeO.refl _)
      | (with_reducible exact LeO.none _)
      | (with_reducible refine LeO.ite ?_ ?_)
      | (with_reducible refine LeO.bind ?_ (fun _ => ?_))
      | exact ih0 _ _ _ _ _
      | exact LeO.none _
      | refine LeO.ite ?_ ?_
      | refine LeO.bind ?_ (fun _ => ?_)
theorem impl_Item_161.mono : ∀ a0 a1 a2 a3 k, LeO (impl_Item_161.f k a0 a1 a2 a3) (impl_Item_161.f (k + 1) a0 a1 a2 a3) := by
  intro a0 a1 a2 a3 k
  have ih0 := impl_Item_161.mono_l k
  unfold impl_Item_161.f
  repeat' first
      | (with_reducible exact ih0 _ _ _ _ _)
      | (with_reducible exact LeO.refl _)
      | (with_reducible exact LeO.none _)
      | (with_reducible refine LeO.ite ?_ ?_)
      | (with_reducible refine LeO.bind ?_ (fun _ => ?_))
      | exact ih0 _ _ _ _ _
      | exact LeO.none _
      | refine LeO.ite ?_ ?_
      | refine LeO.bind ?_ (fun _ => ?_)
def impl_Item_161.T3 : Bool × List (List Nat × List Nat) := (true, [([], []), ([], []), ([], []), ([1, 2], [1, 2]), ([], []), ([], []), ([], []), ([5, 6], [5, 6]), ([], []), ([], []), ([], []), ([9, 10], [9, 10]), ([8, 11], [8, 11]), ([12], [12]), ([], []), ([], []), ([], []), ([15, 16], [15, 16]), ([14, 17], [14, 17]), ([18], [18]), ([0, 3, 0, 1, 2, 3, 8, 9, 10, 11, 12, 13, 19], [0, 3]), ([20, 13, 0, 1, 2, 3, 8, 9, 10, 11, 12, 13, 19], [13, 20]), ([4, 7, 0, 1, 2, 3, 4, 5, 6, 7, 8, 9, 10, 11, 12, 13, 14, 15, 16, 17, 18, 19, 20, 21], [4, 7]), ([22, 19, 21, 0, 1, 2, 3, 4, 5, 6, 7, 8, 9, 10, 11, 12, 13, 14, 15, 16, 17, 18, 19, 20, 21], [19, 22])])
def impl_Item_161.B3 : List Nat := [0, 0, 0, 6, 0, 0, 0, 96, 0, 0, 0, 1536, 3840, 7936, 0, 0, 0, 98304, 245760, 507904, 1048335, 2096911, 4194303, 8388607]
theorem impl_Item_161.tab3 : rtab .any (opsOf Try.f161 3) = impl_Item_161.T3 := by kernel_rfl
theorem impl_Item_161.bits3 : waitsOk impl_Item_161.T3.2 impl_Item_161.B3 = true := by kernel_rfl
set_option maxHeartbeats 8000000 in
set_option maxRecDepth 100000 in
theorem impl_Item_161.calls (k : Nat) (P0_ : Nat → Prop) (u9000_ : Value) (l0 : List (S100)) (a1 : Int) (a2 : Int) (a3 : Int) (r : List (S100)) (w0 w : World) (hB : Below w0.heap.size w0 w) (ho0 : Kd.R k100 100 w w0.heap.size P0_ u9000_ l0) (h : impl_Item_161.f k l0 a1 a2 a3 = some r) :
    Calls Try.prog 161 #[u9000_, .int .i64 a1, .int .i64 a2, .int .i64 a3, .func (.func 123) #[] #[]] w fun e w' => e = .returned (.tuple #[]) ∧ Kd.R k100 100 w' w0.heap.size (fun k_ => (P0_ k_ ∨ w.heap.size ≤ k_)) u9000_ r ∧ Below w0.heap.size w0 w' ∧ Kept w w' (fun k_ => P0_ k_) := by
  have hu100 := Try.underlying100
  have HO0 := Aside0.mk (show Kd.R k100 100 w w0.heap.size (fun k_ => (P0_ k_ ∨ w.heap.size ≤ k_)) u9000_ l0 from Kd.R_mono ho0 (fun k_ hk => (.inl hk)))
  have HK := Aside0.mk (Kept.refl w (fun k_ => P0_ k_))
  have HW0 := Aside0.mk hB.size
  have HB := Aside0.mk hB
  clear hB
  have H : (impl_Item_161.l0 k l0 a1 a2 a3 0) = some r := h
  clear h
  have H' := Aside0.mk H
  clear H
  go_enter Try.func161, Try.ntmps161
  go_wp2
  go_loopg [10] k (fun kq v10 w' => ∃ (x0_1 : List (S100)) (x10_1 : Int), v10 = .int .i64 x10_1 ∧ Aside0 (impl_Item_161.l0 kq x0_1 a1 a2 a3 x10_1 = some r) ∧ Aside0 (kq ≤ k) ∧ Aside0 (Kd.R k100 100 w' w0.heap.size (fun k_ => (P0_ k_ ∨ w.heap.size ≤ k_)) u9000_ x0_1) ∧ Aside0 (Kept w w' (fun k_ => P0_ k_)) ∧ Aside0 (Below w0.heap.size w0 w'))
  case atStart => exact ⟨(l0), (0), (by first | rfl | (simp; done) | (simp [*]; done)), H', ⟨Nat.le_refl _⟩, ⟨by (with_reducible repeat (first | apply Kd.R_alloc | apply Kd.R_drewN | apply Kd.R_drew)); exact HO0.out⟩, ⟨by repeat (first | (with_reducible first | exact HK.out | apply Kept.alloc | apply Kept.drewN | apply Kept.drew) | exact HK.out)⟩, ⟨by repeat (first | (with_reducible first | exact HB.out | apply below_alloc | apply pw_below_drewN | apply below_drew1) | exact HB.out)⟩⟩
  case round =>
    clear H'
    try clear c1
    try clear p2
    obtain ⟨x0_1, x10_1, rfl, HA, HK1, HO_0, HK, HB⟩ := hrel
    cases gk with
    | zero => exact absurd HA.out (by simp [impl_Item_161.l0])
    | succ k1 =>
      have H := HA.out
      clear HA
      simp only [impl_Item_161.l0] at H
      by_cases c5 : x10_1 < a3
      · rw [if_pos c5] at H
        have c5b0 : decide (x10_1 < a3) = true := decide_eq_true c5
        clear c5
        obtain ⟨ji6, hji6⟩ : ∃ j_ : Int, (wrap64 (a2 + x10_1)) = j_ := ⟨_, rfl⟩
        replace H : (if 0 ≤ (ji6) then (if (ji6) < (x0_1.length : Int) then (if 0 ≤ (wrap64 (a1 + x10_1)) then (if (wrap64 (a1 + x10_1)) < (x0_1.length : Int) then (if (wrap64 (a1 + x10_1)) = (ji6) then none else (impl_Item_161.l0 k1 ((x0_1.set ((wrap64 (a1 + x10_1)) : Int).toNat (⟨(rd_T100 x0_1 (ji6)).f0, (⟨(rd_T100 x0_1 (ji6)).f1.f0, (rd_T100 x0_1 (ji6)).f1.f1, (rd_T100 x0_1 (ji6)).f1.f2, (rd_T100 x0_1 (ji6)).f1.f3⟩ : S73)⟩ : S100)).set ((ji6) : Int).toNat (⟨(rd_T100 x0_1 (wrap64 (a1 + x10_1))).f0, (⟨(rd_T100 x0_1 (wrap64 (a1 + x10_1))).f1.f0, (rd_T100 x0_1 (wrap64 (a1 + x10_1))).f1.f1, (rd_T100 x0_1 (wrap64 (a1 + x10_1))).f1.f2, (rd_T100 x0_1 (wrap64 (a1 + x10_1))).f1.f3⟩ : S73)⟩ : S100)) a1 a2 a3 (wrap64 (x10_1 + 1)))) else (none)) else (none)) else (none)) else (none)) = some r := by first | (rw [hji6] at H; exact H) | (simp only [hji6] at H ⊢; exact H)
        have hji6w : (IntKind.i64.wrap (a2 + x10_1)) = ji6 := (i64_w _).trans hji6
        by_cases c7 : 0 ≤ (ji6)
        · rw [if_pos c7] at H
          have c7b0 : decide (0 ≤ (ji6)) = true := decide_eq_true c7
          clear c7
          by_cases c8 : (ji6) < (x0_1.length : Int)
          · rw [if_pos c8] at H
            have c8b0 : decide ((ji6) < (x0_1.length : Int)) = true := decide_eq_true c8
            clear c8
            obtain ⟨ji9, hji9⟩ : ∃ j_ : Int, (wrap64 (a1 + x10_1)) = j_ := ⟨_, rfl⟩
            replace H : (if 0 ≤ (ji9) then (if (ji9) < (x0_1.length : Int) then (if (ji9) = (ji6) then none else (impl_Item_161.l0 k1 ((x0_1.set ((ji9) : Int).toNat (⟨(rd_T100 x0_1 (ji6)).f0, (⟨(rd_T100 x0_1 (ji6)).f1.f0, (rd_T100 x0_1 (ji6)).f1.f1, (rd_T100 x0_1 (ji6)).f1.f2, (rd_T100 x0_1 (ji6)).f1.f3⟩ : S73)⟩ : S100)).set ((ji6) : Int).toNat (⟨(rd_T100 x0_1 (ji9)).f0, (⟨(rd_T100 x0_1 (ji9)).f1.f0, (rd_T100 x0_1 (ji9)).f1.f1, (rd_T100 x0_1 (ji9)).f1.f2, (rd_T100 x0_1 (ji9)).f1.f3⟩ : S73)⟩ : S100)) a1 a2 a3 (wrap64 (x10_1 + 1)))) else (none)) else (none)) = some r := by first | (rw [hji9] at H; exact H) | (simp only [hji9] at H ⊢; exact H)
            have hji9w : (IntKind.i64.wrap (a1 + x10_1)) = ji9 := (i64_w _).trans hji9
            (try (have hji6x_ := hji6; rw [hji9] at hji6x_; have hji6y_ := (i64_w _).trans hji6x_))
            by_cases c10 : 0 ≤ (ji9)
            · rw [if_pos c10] at H
              have c10b0 : decide (0 ≤ (ji9)) = true := decide_eq_true c10
              clear c10
              by_cases c11 : (ji9) < (x0_1.length : Int)
              · rw [if_pos c11] at H
                have c11b0 : decide ((ji9) < (x0_1.length : Int)) = true := decide_eq_true c11
                clear c11
                by_cases hne_ : (ji9) = (ji6)
                · rw [if_pos hne_] at H; exact absurd H (by simp)
                rw [if_neg hne_] at H
                have hn0_ : 0 ≤ ((ji9) : Int) := of_decide_eq_true (by first | (with_reducible assumption) | assumption)
                have hn1_ : 0 ≤ ((ji6) : Int) := of_decide_eq_true (by first | (with_reducible assumption) | assumption)
                have hnA_ : (((ji9) : Int).toNat = ((ji6) : Int).toNat) = False := eq_false (by omega)
                have hnB_ : (((ji6) : Int).toNat = ((ji9) : Int).toNat) = False := eq_false (by omega)
                have hnA0_ : (((ji9) : Int).toNat * 5 = ((ji6) : Int).toNat * 5) = False := eq_false (by omega)
                have hnB0_ : (((ji6) : Int).toNat * 5 = ((ji9) : Int).toNat * 5) = False := eq_false (by omega)
                have hnA1_ : (((ji9) : Int).toNat * 5 + 1 = ((ji6) : Int).toNat * 5 + 1) = False := eq_false (by omega)
                have hnB1_ : (((ji6) : Int).toNat * 5 + 1 = ((ji9) : Int).toNat * 5 + 1) = False := eq_false (by omega)
                have hnA2_ : (((ji9) : Int).toNat * 5 + 2 = ((ji6) : Int).toNat * 5 + 2) = False := eq_false (by omega)
                have hnB2_ : (((ji6) : Int).toNat * 5 + 2 = ((ji9) : Int).toNat * 5 + 2) = False := eq_false (by omega)
                have hnA3_ : (((ji9) : Int).toNat * 5 + 3 = ((ji6) : Int).toNat * 5 + 3) = False := eq_false (by omega)
                have hnB3_ : (((ji6) : Int).toNat * 5 + 3 = ((ji9) : Int).toNat * 5 + 3) = False := eq_false (by omega)
                have hnA4_ : (((ji9) : Int).toNat * 5 + 4 = ((ji6) : Int).toNat * 5 + 4) = False := eq_false (by omega)
                have hnB4_ : (((ji6) : Int).toNat * 5 + 4 = ((ji9) : Int).toNat * 5 + 4) = False := eq_false (by omega)
                clear hn0_ hn1_ hne_
                obtain ⟨y196, hy196⟩ : ∃ y_ : List (S100), y_ = (x0_1.set ((ji9) : Int).toNat (⟨(rd_T100 x0_1 (ji6)).f0, (⟨(rd_T100 x0_1 (ji6)).f1.f0, (rd_T100 x0_1 (ji6)).f1.f1, (rd_T100 x0_1 (ji6)).f1.f2, (rd_T100 x0_1 (ji6)).f1.f3⟩ : S73)⟩ : S100)) := ⟨_, rfl⟩
                replace H : (impl_Item_161.l0 k1 (y196.set ((ji6) : Int).toNat (⟨(rd_T100 x0_1 (ji9)).f0, (⟨(rd_T100 x0_1 (ji9)).f1.f0, (rd_T100 x0_1 (ji9)).f1.f1, (rd_T100 x0_1 (ji9)).f1.f2, (rd_T100 x0_1 (ji9)).f1.f3⟩ : S73)⟩ : S100)) a1 a2 a3 (wrap64 (x10_1 + 1))) = some r := by first | (rw [hy196]; with_reducible exact H) | (have H2_ := (Option.bind_some _ _).symm.trans H; rw [hy196]; with_reducible exact H2_) | (have H2_ := (Option.bind_some _ _).symm.trans H; with_reducible exact H2_) | with_reducible exact H | (rw [hy196]; exact H) | exact H
                have Ny196 := Aside0.mk hy196
                clear hy196
                obtain ⟨y197, hy197⟩ : ∃ y_ : List (S100), y_ = (y196.set ((ji6) : Int).toNat (⟨(rd_T100 x0_1 (ji9)).f0, (⟨(rd_T100 x0_1 (ji9)).f1.f0, (rd_T100 x0_1 (ji9)).f1.f1, (rd_T100 x0_1 (ji9)).f1.f2, (rd_T100 x0_1 (ji9)).f1.f3⟩ : S73)⟩ : S100)) := ⟨_, rfl⟩
                replace H : (impl_Item_161.l0 k1 y197 a1 a2 a3 (wrap64 (x10_1 + 1))) = some r := by first | (rw [hy197]; with_reducible exact H) | (have H2_ := (Option.bind_some _ _).symm.trans H; rw [hy197]; with_reducible exact H2_) | (have H2_ := (Option.bind_some _ _).symm.trans H; with_reducible exact H2_) | with_reducible exact H | (rw [hy197]; exact H) | exact H
                have Ny197 := Aside0.mk hy197
                clear hy197
                have H' := Aside0.mk H
                clear H
                try go_wp2
                have n0_ := Aside0.mk (Kd.R_drew HO_0.out)
                have n1_ := Aside0.mk (Kept.drew HK.out)
                have n2_ := Aside0.mk (below_drew1 HB.out)
                clear HO_0
                clear HK
                clear HB
                have HO_0 := n0_
                have HK := n1_
                have HB := n2_
                clear n0_ n1_ n2_
                obtain ⟨Ao15, co15, eo15⟩ := Kd.R_slice HO_0.out
                (first | subst eo15 | (injection eo15 with f1_ f2_ f3_; have f4_ := f1_.symm; have f5_ := f3_.symm; clear f1_ f2_ f3_; subst f4_; subst f5_))
                have p194 : 0 ≤ ((ji6) : Int) := of_decide_eq_true (by first | (with_reducible assumption) | assumption)
                have q194 : (ji6) < (x0_1.length : Int) := of_decide_eq_true (by first | (with_reducible assumption) | assumption)
                obtain ⟨ad194, e194, hx194_0, hx194_1, hx194_2, hx194_3, hx194_4⟩ := at_T100 (Kd.R_reads' HO_0.out).2.2 (ji6) p194 q194
                cases e194
                replace p194 := eq_true p194
                replace q194 := eq_true q194
                have p195 : 0 ≤ ((ji9) : Int) := of_decide_eq_true (by first | (with_reducible assumption) | assumption)
                have q195 : (ji9) < (x0_1.length : Int) := of_decide_eq_true (by first | (with_reducible assumption) | assumption)
                obtain ⟨ad195, e195, hx195_0, hx195_1, hx195_2, hx195_3, hx195_4⟩ := at_T100 (Kd.R_reads' HO_0.out).2.2 (ji9) p195 q195
                obtain rfl : ad194 = ad195 := (by injection e195)
                replace p195 := eq_true p195
                replace q195 := eq_true q195
                have p12 : 0 ≤ ((ji9) : Int) := of_decide_eq_true (by first | (with_reducible assumption) | assumption)
                have q12 : ((ji9) : Int) < ((x0_1.length : Int) : Int) := of_decide_eq_true (by first | (with_reducible assumption) | assumption)
                obtain ⟨go12, co12, eo12, gb12, gl12, cl12, HG12⟩ := Kd.R_form HO_0.out (by omega)
                (first | cases eo12 | (injection eo12 with ea_ en_ ec_; (first | subst ea_ | (injection ea_ with ea_; subst ea_)); subst ec_; clear en_))
                have GB12 := Aside0.mk gb12
                have GG12 := Aside0.mk HG12
                clear gb12 gl12 HG12
                have HMgo12 := Aside0.mk (show (P0_ go12 ∨ w.heap.size ≤ go12) from (HO_0.out.1 _ rfl))
                (first | simp only [add_plain] at hx194_0 | skip)
                (first | simp only [add_plain] at hx194_1 | skip)
                (first | simp only [add_plain] at hx194_2 | skip)
                (first | simp only [add_plain] at hx194_3 | skip)
                (first | simp only [add_plain] at hx194_4 | skip)
                (first | simp only [add_plain] at hx195_0 | skip)
                (first | simp only [add_plain] at hx195_1 | skip)
                (first | simp only [add_plain] at hx195_2 | skip)
                (first | simp only [add_plain] at hx195_3 | skip)
                (first | simp only [add_plain] at hx195_4 | skip)
                obtain ⟨ce12, hcl12, hM12, hcc12, hfr12⟩ := Kd.R_elem HO_0.out z100 ((ji9) : Int) p12 q12
                obtain rfl := k100_openM hM12
                have hx12_0 : World.cell? _ ⟨go12, ((ji9) : Int).toNat * 5, none⟩ = some (.int .i64 ((rd_T100 x0_1 (ji9)).f0)) := hcc12 0 _ rfl
                have hx12_1 : World.cell? _ ⟨go12, ((ji9) : Int).toNat * 5 + 1, none⟩ = some (.int .i64 ((rd_T100 x0_1 (ji9)).f1.f0)) := hcc12 1 _ rfl
                have hx12_2 : World.cell? _ ⟨go12, ((ji9) : Int).toNat * 5 + 2, none⟩ = some (.int .i64 ((rd_T100 x0_1 (ji9)).f1.f1)) := hcc12 2 _ rfl
                have hx12_3 : World.cell? _ ⟨go12, ((ji9) : Int).toNat * 5 + 3, none⟩ = some (.int .i64 ((rd_T100 x0_1 (ji9)).f1.f2)) := hcc12 3 _ rfl
                have hx12_4 : World.cell? _ ⟨go12, ((ji9) : Int).toNat * 5 + 4, none⟩ = some (.int .i64 ((rd_T100 x0_1 (ji9)).f1.f3)) := hcc12 4 _ rfl
                have hf12_0 : World.frozen? _ ⟨go12, ((ji9) : Int).toNat * 5, none⟩ = false := hfr12 0
                have hf12_1 : World.frozen? _ ⟨go12, ((ji9) : Int).toNat * 5 + 1, none⟩ = false := hfr12 1
                have hf12_2 : World.frozen? _ ⟨go12, ((ji9) : Int).toNat * 5 + 2, none⟩ = false := hfr12 2
                have hf12_3 : World.frozen? _ ⟨go12, ((ji9) : Int).toNat * 5 + 3, none⟩ = false := hfr12 3
                have hf12_4 : World.frozen? _ ⟨go12, ((ji9) : Int).toNat * 5 + 4, none⟩ = false := hfr12 4
                clear hcl12 hcc12 hfr12 hM12
                replace p12 := eq_true p12
                replace q12 := eq_true q12
                obtain ⟨ce16, hcl16, hM16, hcc16, hfr16⟩ := Kd.R_elem HO_0.out z100 ((ji9) : Int) (of_decide_eq_true (by first | (with_reducible assumption) | assumption)) (by have h_ : ((ji9) : Int) < ((x0_1.length : Int) : Int) := of_decide_eq_true (by first | (with_reducible assumption) | assumption); first | exact h_ | (have e_ := (Kd.R_reads' HO_0.out).1; omega) | simpa using h_)
                obtain rfl := k100_openM hM16
                have HP16 := (Kd.R_seg HO_0.out ((ji9) : Int) (of_decide_eq_true (by first | (with_reducible assumption) | assumption)) (by have h_ : ((ji9) : Int) < ((x0_1.length : Int) : Int) := of_decide_eq_true (by first | (with_reducible assumption) | assumption); first | exact h_ | (have e_ := (Kd.R_reads' HO_0.out).1; omega) | simpa using h_) (seg := [.int .i64 ((rd_T100 x0_1 (ji6)).f0), .int .i64 ((rd_T100 x0_1 (ji6)).f1.f0), .int .i64 ((rd_T100 x0_1 (ji6)).f1.f1), .int .i64 ((rd_T100 x0_1 (ji6)).f1.f2), .int .i64 ((rd_T100 x0_1 (ji6)).f1.f3)]) (j := 0) hcl16 hcc16 (show 5 ≤ 5 from by decide) (x' := (⟨(rd_T100 x0_1 (ji6)).f0, (⟨(rd_T100 x0_1 (ji6)).f1.f0, (rd_T100 x0_1 (ji6)).f1.f1, (rd_T100 x0_1 (ji6)).f1.f2, (rd_T100 x0_1 (ji6)).f1.f3⟩ : S73)⟩ : S100)) (k100_mkM _ _ _ (⟨(rd_T100 x0_1 (ji6)).f0, (⟨(rd_T100 x0_1 (ji6)).f1.f0, (rd_T100 x0_1 (ji6)).f1.f1, (rd_T100 x0_1 (ji6)).f1.f2, (rd_T100 x0_1 (ji6)).f1.f3⟩ : S73)⟩ : S100) ) (fun _ hk => hk)).1
                rw [← Ny196.out] at HP16
                have HQ16 := Aside0.mk HP16
                clear hcl16 hcc16 hfr16 hM16 HP16
                have p13 : 0 ≤ ((ji6) : Int) := of_decide_eq_true (by first | (with_reducible assumption) | assumption)
                have q13 : ((ji6) : Int) < ((x0_1.length : Int) : Int) := of_decide_eq_true (by first | (with_reducible assumption) | assumption)
                obtain ⟨ce13, hcl13, hM13, hcc13, hfr13⟩ := Kd.R_elem HQ16.out z100 ((ji6) : Int) p13 q13
                obtain rfl := k100_openM hM13
                have hx13_0 : World.cell? _ ⟨go12, ((ji6) : Int).toNat * 5, none⟩ = some (.int .i64 ((rd_T100 y196 (ji6)).f0)) := hcc13 0 _ rfl
                have hx13_1 : World.cell? _ ⟨go12, ((ji6) : Int).toNat * 5 + 1, none⟩ = some (.int .i64 ((rd_T100 y196 (ji6)).f1.f0)) := hcc13 1 _ rfl
                have hx13_2 : World.cell? _ ⟨go12, ((ji6) : Int).toNat * 5 + 2, none⟩ = some (.int .i64 ((rd_T100 y196 (ji6)).f1.f1)) := hcc13 2 _ rfl
                have hx13_3 : World.cell? _ ⟨go12, ((ji6) : Int).toNat * 5 + 3, none⟩ = some (.int .i64 ((rd_T100 y196 (ji6)).f1.f2)) := hcc13 3 _ rfl
                have hx13_4 : World.cell? _ ⟨go12, ((ji6) : Int).toNat * 5 + 4, none⟩ = some (.int .i64 ((rd_T100 y196 (ji6)).f1.f3)) := hcc13 4 _ rfl
                have hf13_0 : World.frozen? _ ⟨go12, ((ji6) : Int).toNat * 5, none⟩ = false := hfr13 0
                have hf13_1 : World.frozen? _ ⟨go12, ((ji6) : Int).toNat * 5 + 1, none⟩ = false := hfr13 1
                have hf13_2 : World.frozen? _ ⟨go12, ((ji6) : Int).toNat * 5 + 2, none⟩ = false := hfr13 2
                have hf13_3 : World.frozen? _ ⟨go12, ((ji6) : Int).toNat * 5 + 3, none⟩ = false := hfr13 3
                have hf13_4 : World.frozen? _ ⟨go12, ((ji6) : Int).toNat * 5 + 4, none⟩ = false := hfr13 4
                clear hcl13 hcc13 hfr13 hM13
                replace p13 := eq_true p13
                replace q13 := eq_true q13
                obtain ⟨ce17, hcl17, hM17, hcc17, hfr17⟩ := Kd.R_elem HQ16.out z100 ((ji6) : Int) (of_decide_eq_true (by first | (with_reducible assumption) | assumption)) (by have h_ : ((ji6) : Int) < ((x0_1.length : Int) : Int) := of_decide_eq_true (by first | (with_reducible assumption) | assumption); first | exact h_ | (have e_ := (Kd.R_reads' HO_0.out).1; omega) | simpa using h_)
                obtain rfl := k100_openM hM17
                have HP17 := (Kd.R_seg HQ16.out ((ji6) : Int) (of_decide_eq_true (by first | (with_reducible assumption) | assumption)) (by have h_ : ((ji6) : Int) < ((x0_1.length : Int) : Int) := of_decide_eq_true (by first | (with_reducible assumption) | assumption); first | exact h_ | (have e_ := (Kd.R_reads' HO_0.out).1; omega) | simpa using h_) (seg := [.int .i64 ((rd_T100 x0_1 (ji9)).f0), .int .i64 ((rd_T100 x0_1 (ji9)).f1.f0), .int .i64 ((rd_T100 x0_1 (ji9)).f1.f1), .int .i64 ((rd_T100 x0_1 (ji9)).f1.f2), .int .i64 ((rd_T100 x0_1 (ji9)).f1.f3)]) (j := 0) hcl17 hcc17 (show 5 ≤ 5 from by decide) (x' := (⟨(rd_T100 x0_1 (ji9)).f0, (⟨(rd_T100 x0_1 (ji9)).f1.f0, (rd_T100 x0_1 (ji9)).f1.f1, (rd_T100 x0_1 (ji9)).f1.f2, (rd_T100 x0_1 (ji9)).f1.f3⟩ : S73)⟩ : S100)) (k100_mkM _ _ _ (⟨(rd_T100 x0_1 (ji9)).f0, (⟨(rd_T100 x0_1 (ji9)).f1.f0, (rd_T100 x0_1 (ji9)).f1.f1, (rd_T100 x0_1 (ji9)).f1.f2, (rd_T100 x0_1 (ji9)).f1.f3⟩ : S73)⟩ : S100) ) (fun _ hk => hk)).1
                rw [← Ny197.out] at HP17
                have HQ17 := Aside0.mk HP17
                clear hcl17 hcc17 hfr17 hM17 HP17
                obtain ⟨ceZ_, hclZ_, hMZ_, hccZ_, hfrZ_⟩ := Kd.R_elem HO_0.out z100 ((ji6) : Int) (of_eq_true p13) (of_eq_true q13)
                have hfZ0_ : World.frozen? _ ⟨go12, ((ji6) : Int).toNat * 5, none⟩ = false := hfrZ_ 0
                have hfZ1_ : World.frozen? _ ⟨go12, ((ji6) : Int).toNat * 5 + 1, none⟩ = false := hfrZ_ 1
                have hfZ2_ : World.frozen? _ ⟨go12, ((ji6) : Int).toNat * 5 + 2, none⟩ = false := hfrZ_ 2
                have hfZ3_ : World.frozen? _ ⟨go12, ((ji6) : Int).toNat * 5 + 3, none⟩ = false := hfrZ_ 3
                have hfZ4_ : World.frozen? _ ⟨go12, ((ji6) : Int).toNat * 5 + 4, none⟩ = false := hfrZ_ 4
                clear hclZ_ hccZ_ hfrZ_ hMZ_
                refine start_ (n := 24) (S := fun w' => w'.cell? ⟨go12, (((ji6)).toNat * 5), none⟩ = some (.int .i64 ((rd_T100 x0_1 (ji6)).f0)) ∧ w'.cell? ⟨go12, (((ji6)).toNat * 5) + 1, none⟩ = some (.int .i64 ((rd_T100 x0_1 (ji6)).f1.f0)) ∧ w'.cell? ⟨go12, (((ji6)).toNat * 5) + 2, none⟩ = some (.int .i64 ((rd_T100 x0_1 (ji6)).f1.f1)) ∧ w'.cell? ⟨go12, (((ji6)).toNat * 5) + 3, none⟩ = some (.int .i64 ((rd_T100 x0_1 (ji6)).f1.f2)) ∧ w'.cell? ⟨go12, (((ji6)).toNat * 5) + 4, none⟩ = some (.int .i64 ((rd_T100 x0_1 (ji6)).f1.f3)) ∧ w'.cell? ⟨go12, (((ji9)).toNat * 5), none⟩ = some (.int .i64 ((rd_T100 x0_1 (ji9)).f0)) ∧ w'.cell? ⟨go12, (((ji9)).toNat * 5) + 1, none⟩ = some (.int .i64 ((rd_T100 x0_1 (ji9)).f1.f0)) ∧ w'.cell? ⟨go12, (((ji9)).toNat * 5) + 2, none⟩ = some (.int .i64 ((rd_T100 x0_1 (ji9)).f1.f1)) ∧ w'.cell? ⟨go12, (((ji9)).toNat * 5) + 3, none⟩ = some (.int .i64 ((rd_T100 x0_1 (ji9)).f1.f2)) ∧ w'.cell? ⟨go12, (((ji9)).toNat * 5) + 4, none⟩ = some (.int .i64 ((rd_T100 x0_1 (ji9)).f1.f3))) (ds := [21, 23]) #[false, false, false, false, false, false, false, false, false, false, false, false, false, false, false, false, false, false, false, false, false, false, false, false] (by kernel_rfl) rfl rfl ⟨hx194_0, hx194_1, hx194_2, hx194_3, hx194_4, hx195_0, hx195_1, hx195_2, hx195_3, hx195_4⟩ (fun hHeld => ?_); refine with_tabW impl_Item_161.tab3 impl_Item_161.bits3 (fun HT_ HW_ => ?_)
                generalize wr.drew = w14 at HO_0 HK HB GG12 HQ16 HQ17 hf12_0 hf12_1 hf12_2 hf12_3 hf12_4 hf13_0 hf13_1 hf13_2 hf13_3 hf13_4 hx12_0 hx12_1 hx12_2 hx12_3 hx12_4 hx13_0 hx13_1 hx13_2 hx13_3 hx13_4 hx194_0 hx194_1 hx194_2 hx194_3 hx194_4 hx195_0 hx195_1 hx195_2 hx195_3 hx195_4 hfZ0_ hfZ1_ hfZ2_ hfZ3_ hfZ4_ hHeld ⊢
                refine pure_ (i := 0) (N := some 16) (v := ?_) (a' := ?_) #[true, false, false, false, false, false, false, false, false, false, false, false, false, false, false, false, false, false, false, false, false, false, false, false] rfl rfl (any_of HT_.out (by kernel_rfl)) (fun _ _ _ h => h) (Or.inl ⟨by rfl, ?_⟩) ?_ ?_
                rotate_left
                · intro w'
                  go_simp
                  with_reducible rfl
                rotate_left
                · simp only [Act.put, List.setIfInBounds_toArray, List.set_cons_zero, List.set_cons_succ, i64_w, i32_w]
                  rfl
                refine pure_ (i := 1) (N := some 17) (v := ?_) (a' := ?_) #[true, true, false, false, false, false, false, false, false, false, false, false, false, false, false, false, false, false, false, false, false, false, false, false] rfl rfl (any_of HT_.out (by kernel_rfl)) (fun _ _ _ h => h) (Or.inl ⟨by rfl, ?_⟩) ?_ ?_
                rotate_left
                · intro w'
                  go_simp
                  with_reducible rfl
                rotate_left
                · simp only [Act.put, List.setIfInBounds_toArray, List.set_cons_zero, List.set_cons_succ, i64_w, i32_w]
                  rfl
                refine pure_ (i := 2) (N := some 18) (v := ?_) (a' := ?_) #[true, true, true, false, false, false, false, false, false, false, false, false, false, false, false, false, false, false, false, false, false, false, false, false] rfl rfl (any_of HT_.out (by kernel_rfl)) (fun _ _ _ h => h) (Or.inl ⟨by rfl, ?_⟩) ?_ ?_
                rotate_left
                · intro w'
                  go_simp
                  with_reducible rfl
                rotate_left
                · simp only [Act.put, List.setIfInBounds_toArray, List.set_cons_zero, List.set_cons_succ, i64_w, i32_w]
                  rfl
                refine pure_ (i := 3) (N := some 19) (v := ?_) (a' := ?_) #[true, true, true, true, false, false, false, false, false, false, false, false, false, false, false, false, false, false, false, false, false, false, false, false] rfl rfl (any_of HT_.out (by kernel_rfl)) (fun _ _ _ h => h) (Or.inl ⟨by rfl, ?_⟩) ?_ ?_
                rotate_left
                · intro w'
                  go_simp
                  with_reducible rfl
                rotate_left
                · simp only [Act.put, List.setIfInBounds_toArray, List.set_cons_zero, List.set_cons_succ, i64_w, i32_w]
                  rfl
                refine pure_ (i := 4) (N := some 20) (v := ?_) (a' := ?_) #[true, true, true, true, true, false, false, false, false, false, false, false, false, false, false, false, false, false, false, false, false, false, false, false] rfl rfl (any_of HT_.out (by kernel_rfl)) (fun _ _ _ h => h) (Or.inl ⟨by rfl, ?_⟩) ?_ ?_
                rotate_left
                · intro w'
                  go_simp
                  with_reducible rfl
                rotate_left
                · simp only [Act.put, List.setIfInBounds_toArray, List.set_cons_zero, List.set_cons_succ, i64_w, i32_w]
                  rfl
                refine pure_ (i := 5) (N := some 21) (v := ?_) (a' := ?_) #[true, true, true, true, true, true, false, false, false, false, false, false, false, false, false, false, false, false, false, false, false, false, false, false] rfl rfl (any_of HT_.out (by kernel_rfl)) (fun _ _ _ h => h) (Or.inl ⟨by rfl, ?_⟩) ?_ ?_
                rotate_left
                · intro w'
                  go_simp
                  with_reducible rfl
                rotate_left
                · simp only [Act.put, List.setIfInBounds_toArray, List.set_cons_zero, List.set_cons_succ, i64_w, i32_w]
                  rfl
                refine pure_ (i := 6) (N := some 22) (v := ?_) (a' := ?_) #[true, true, true, true, true, true, true, false, false, false, false, false, false, false, false, false, false, false, false, false, false, false, false, false] rfl rfl (any_of HT_.out (by kernel_rfl)) (fun _ _ _ h => h) (Or.inl ⟨by rfl, ?_⟩) ?_ ?_
                rotate_left
                · intro w'
                  go_simp
                  with_reducible rfl
                rotate_left
                · simp only [Act.put, List.setIfInBounds_toArray, List.set_cons_zero, List.set_cons_succ, i64_w, i32_w]
                  rfl
                refine pure_ (i := 7) (N := some 23) (v := ?_) (a' := ?_) #[true, true, true, true, true, true, true, true, false, false, false, false, false, false, false, false, false, false, false, false, false, false, false, false] rfl rfl (any_of HT_.out (by kernel_rfl)) (fun _ _ _ h => h) (Or.inl ⟨by rfl, ?_⟩) ?_ ?_
                rotate_left
                · intro w'
                  go_simp
                  with_reducible rfl
                rotate_left
                · simp only [Act.put, List.setIfInBounds_toArray, List.set_cons_zero, List.set_cons_succ, i64_w, i32_w]
                  rfl
                refine pure_ (i := 8) (N := some 24) (v := ?_) (a' := ?_) #[true, true, true, true, true, true, true, true, true, false, false, false, false, false, false, false, false, false, false, false, false, false, false, false] rfl rfl (any_of HT_.out (by kernel_rfl)) (fun _ _ _ h => h) (Or.inl ⟨by rfl, ?_⟩) ?_ ?_
                rotate_left
                · intro w'
                  go_simp
                  with_reducible rfl
                rotate_left
                · simp only [Act.put, List.setIfInBounds_toArray, List.set_cons_zero, List.set_cons_succ, i64_w, i32_w]
                  rfl
                refine pure_ (i := 9) (N := some 25) (v := ?_) (a' := ?_) #[true, true, true, true, true, true, true, true, true, true, false, false, false, false, false, false, false, false, false, false, false, false, false, false] rfl rfl (any_of HT_.out (by kernel_rfl)) (fun _ _ _ h => h) (Or.inl ⟨by rfl, ?_⟩) ?_ ?_
                rotate_left
                · intro w'
                  go_simp
                  with_reducible rfl
                rotate_left
                · simp only [Act.put, List.setIfInBounds_toArray, List.set_cons_zero, List.set_cons_succ, i64_w, i32_w]
                  rfl
                refine pure_ (i := 10) (N := some 26) (v := ?_) (a' := ?_) #[true, true, true, true, true, true, true, true, true, true, true, false, false, false, false, false, false, false, false, false, false, false, false, false] rfl rfl (any_of HT_.out (by kernel_rfl)) (fun _ _ _ h => h) (Or.inl ⟨by rfl, ?_⟩) ?_ ?_
                rotate_left
                · intro w'
                  go_simp
                  with_reducible rfl
                rotate_left
                · simp only [Act.put, List.setIfInBounds_toArray, List.set_cons_zero, List.set_cons_succ, i64_w, i32_w]
                  rfl
                refine pure_ (i := 11) (N := some 27) (v := ?_) (a' := ?_) #[true, true, true, true, true, true, true, true, true, true, true, true, false, false, false, false, false, false, false, false, false, false, false, false] rfl rfl (any_of HT_.out (by kernel_rfl)) (fun _ _ _ h => h) (Or.inl ⟨by rfl, ?_⟩) ?_ ?_
                rotate_left
                · intro w'
                  go_simp
                  with_reducible rfl
                rotate_left
                · simp only [Act.put, List.setIfInBounds_toArray, List.set_cons_zero, List.set_cons_succ, i64_w, i32_w]
                  rfl
                refine pure_ (i := 12) (N := some 28) (v := ?_) (a' := ?_) #[true, true, true, true, true, true, true, true, true, true, true, true, true, false, false, false, false, false, false, false, false, false, false, false] rfl rfl (any_of HT_.out (by kernel_rfl)) (fun _ _ _ h => h) (Or.inl ⟨by rfl, ?_⟩) ?_ ?_
                rotate_left
                · intro w'
                  go_simp
                  with_reducible rfl
                rotate_left
                · simp only [Act.put, List.setIfInBounds_toArray, List.set_cons_zero, List.set_cons_succ, i64_w, i32_w]
                  rfl
                refine pure_ (i := 14) (N := some 30) (v := ?_) (a' := ?_) #[true, true, true, true, true, true, true, true, true, true, true, true, true, false, true, false, false, false, false, false, false, false, false, false] rfl rfl (any_of HT_.out (by kernel_rfl)) (fun _ _ _ h => h) (Or.inl ⟨by rfl, ?_⟩) ?_ ?_
                rotate_left
                · intro w'
                  go_simp
                  with_reducible rfl
                rotate_left
                · simp only [Act.put, List.setIfInBounds_toArray, List.set_cons_zero, List.set_cons_succ, i64_w, i32_w]
                  rfl
                refine pure_ (i := 15) (N := some 31) (v := ?_) (a' := ?_) #[true, true, true, true, true, true, true, true, true, true, true, true, true, false, true, true, false, false, false, false, false, false, false, false] rfl rfl (any_of HT_.out (by kernel_rfl)) (fun _ _ _ h => h) (Or.inl ⟨by rfl, ?_⟩) ?_ ?_
                rotate_left
                · intro w'
                  go_simp
                  with_reducible rfl
                rotate_left
                · simp only [Act.put, List.setIfInBounds_toArray, List.set_cons_zero, List.set_cons_succ, i64_w, i32_w]
                  rfl
                refine pure_ (i := 16) (N := some 32) (v := ?_) (a' := ?_) #[true, true, true, true, true, true, true, true, true, true, true, true, true, false, true, true, true, false, false, false, false, false, false, false] rfl rfl (any_of HT_.out (by kernel_rfl)) (fun _ _ _ h => h) (Or.inl ⟨by rfl, ?_⟩) ?_ ?_
                rotate_left
                · intro w'
                  go_simp
                  with_reducible rfl
                rotate_left
                · simp only [Act.put, List.setIfInBounds_toArray, List.set_cons_zero, List.set_cons_succ, i64_w, i32_w]
                  rfl
                refine pure_ (i := 17) (N := some 33) (v := ?_) (a' := ?_) #[true, true, true, true, true, true, true, true, true, true, true, true, true, false, true, true, true, true, false, false, false, false, false, false] rfl rfl (any_of HT_.out (by kernel_rfl)) (fun _ _ _ h => h) (Or.inl ⟨by rfl, ?_⟩) ?_ ?_
                rotate_left
                · intro w'
                  go_simp
                  with_reducible rfl
                rotate_left
                · simp only [Act.put, List.setIfInBounds_toArray, List.set_cons_zero, List.set_cons_succ, i64_w, i32_w]
                  rfl
                refine pure_ (i := 18) (N := some 34) (v := ?_) (a' := ?_) #[true, true, true, true, true, true, true, true, true, true, true, true, true, false, true, true, true, true, true, false, false, false, false, false] rfl rfl (any_of HT_.out (by kernel_rfl)) (fun _ _ _ h => h) (Or.inl ⟨by rfl, ?_⟩) ?_ ?_
                rotate_left
                · intro w'
                  go_simp
                  with_reducible rfl
                rotate_left
                · simp only [Act.put, List.setIfInBounds_toArray, List.set_cons_zero, List.set_cons_succ, i64_w, i32_w]
                  rfl
                refine take_ (i := 13) (N := some 29) (v := ?_) (a' := ?_) #[true, true, true, true, true, true, true, true, true, true, true, true, true, true, true, true, true, true, true, false, false, false, false, false] rfl rfl (take_ofW HT_.out HW_.out (by kernel_rfl)) (fun _ _ _ h => h) (Or.inl ⟨by rfl, ?_⟩) hHeld ?_ ?_
                rotate_left
                · rintro w' ⟨s0, s1, s2, s3, s4, s5, s6, s7, s8, s9⟩
                  go_simp
                  with_reducible rfl
                rotate_left
                · simp only [Act.put, List.setIfInBounds_toArray, List.set_cons_zero, List.set_cons_succ, i64_w, i32_w]
                  rfl
                refine take_ (i := 19) (N := some 35) (v := ?_) (a' := ?_) #[true, true, true, true, true, true, true, true, true, true, true, true, true, true, true, true, true, true, true, true, false, false, false, false] rfl rfl (take_ofW HT_.out HW_.out (by kernel_rfl)) (fun _ _ _ h => h) (Or.inl ⟨by rfl, ?_⟩) hHeld ?_ ?_
                rotate_left
                · rintro w' ⟨s0, s1, s2, s3, s4, s5, s6, s7, s8, s9⟩
                  go_simp
                  with_reducible rfl
                rotate_left
                · simp only [Act.put, List.setIfInBounds_toArray, List.set_cons_zero, List.set_cons_succ, i64_w, i32_w]
                  rfl
                refine pure_ (i := 20) (N := some 36) (v := ?_) (a' := ?_) #[true, true, true, true, true, true, true, true, true, true, true, true, true, true, true, true, true, true, true, true, true, false, false, false] rfl rfl (any_of HT_.out (by kernel_rfl)) (fun _ _ _ h => h) (Or.inl ⟨by rfl, ?_⟩) ?_ ?_
                rotate_left
                · intro w'
                  go_simp
                  with_reducible rfl
                rotate_left
                · simp only [Act.put, List.setIfInBounds_toArray, List.set_cons_zero, List.set_cons_succ, i64_w, i32_w]
                  rfl
                refine last_ (i := 21) (N := none) #[true, true, true, true, true, true, true, true, true, true, true, true, true, true, true, true, true, true, true, true, true, true, false, false] rfl rfl (one_of HT_.out (by kernel_rfl)) (by decide) (fun K hK => ?_)
                refine skip_ (w1 := ?_) (by rfl) rfl ?_ ?_
                rotate_left
                · go_simp
                  rfl
                refine hK.out _ _ ?_
                clear hK K
                refine pure_ (i := 22) (N := some 37) (v := ?_) (a' := ?_) #[true, true, true, true, true, true, true, true, true, true, true, true, true, true, true, true, true, true, true, true, true, true, true, false] rfl rfl (any_of HT_.out (by kernel_rfl)) (fun _ _ _ h => h) (Or.inl ⟨by rfl, ?_⟩) ?_ ?_
                rotate_left
                · intro w'
                  go_simp
                  with_reducible rfl
                rotate_left
                · simp only [Act.put, List.setIfInBounds_toArray, List.set_cons_zero, List.set_cons_succ, i64_w, i32_w]
                  rfl
                refine last_ (i := 23) (N := none) #[true, true, true, true, true, true, true, true, true, true, true, true, true, true, true, true, true, true, true, true, true, true, true, true] rfl rfl (one_of HT_.out (by kernel_rfl)) (by decide) (fun K hK => ?_)
                refine skip_ (w1 := ?_) (by rfl) rfl ?_ ?_
                rotate_left
                · go_simp
                  rfl
                refine hK.out _ _ ?_
                clear hK K
                refine done_ (done_of HT_.out (by kernel_rfl)) ?_
                try go_wp2
                go_roundg k1
                case measure => have := HK1.out; omega
                case rel => exact ⟨(y197), (wrap64 (x10_1 + 1)), (by first | rfl | (simp; done) | (simp [*]; done)), H', ⟨by have := HK1.out; omega⟩, ⟨by (with_reducible repeat (first | apply Kd.R_alloc | apply Kd.R_drewN | apply Kd.R_drew)); exact HQ17.out⟩, ⟨by repeat (first | (with_reducible first | exact HK.out | apply Kept.alloc | apply Kept.drewN | apply Kept.drew | refine Kept.setCell ?_ HMgo12.out _ | refine Kept.setCell ?_ HMgo12.out _ | refine Kept.setCell ?_ HMgo12.out _ | refine Kept.setCell ?_ HMgo12.out _ | refine Kept.setCell ?_ HMgo12.out _ | refine Kept.setCell ?_ HMgo12.out _ | refine Kept.setCell ?_ HMgo12.out _ | refine Kept.setCell ?_ HMgo12.out _ | refine Kept.setCell ?_ HMgo12.out _ | refine Kept.setCell ?_ HMgo12.out _) | exact HK.out)⟩, ⟨by repeat (first | (with_reducible first | exact HB.out | apply below_alloc | apply pw_below_drewN | apply below_drew1 | refine below_set ?_ GB12.out | refine below_set ?_ GB12.out | refine below_set ?_ GB12.out | refine below_set ?_ GB12.out | refine below_set ?_ GB12.out | refine below_set ?_ GB12.out | refine below_set ?_ GB12.out | refine below_set ?_ GB12.out | refine below_set ?_ GB12.out | refine below_set ?_ GB12.out) | exact HB.out)⟩⟩
              · rw [if_neg c11] at H
                exact absurd H (by simp)
            · rw [if_neg c10] at H
              exact absurd H (by simp)
          · rw [if_neg c8] at H
            exact absurd H (by simp)
        · rw [if_neg c7] at H
          exact absurd H (by simp)
      · rw [if_neg c5] at H
        have c5b0 : decide (x10_1 < a3) = false := decide_eq_false c5
        clear c5
        obtain rfl := Option.some.inj H
        go_wp2
        first | go_end0 | ((try simp only [Exit.inBlock, Exit.then]); refine bodyPost_ret (results_none rfl _ _ _) rfl ?_)
        exact ⟨by first | rfl | (simp [errW_none, errW_some] <;> rfl) | (simp [*, errW_none, errW_some] <;> rfl), by (with_reducible repeat (first | apply Kd.R_alloc | apply Kd.R_drewN | apply Kd.R_drew)); exact HO_0.out, by repeat (first | (with_reducible first | exact HB.out | apply below_alloc | apply pw_below_drewN | apply below_drew1) | exact HB.out), by repeat (first | (with_reducible first | exact HK.out | apply Kept.alloc | apply Kept.drewN | apply Kept.drew) | exact HK.out)⟩

/-! ### impl_Item_160: function 160 -/
def impl_Item_160.l0 : Nat → List (S100) → Int → Int → Int → Option ((List (S100)))
  | 0, _, _, _, _ => none
  | k + 1, x0, x2, x10, x11 => if x10 = x11 then ((impl_Item_161.f k x0 (wrap64 (x2 - x10)) x2 x10).bind fun t198 => (some t198)) else (if x10 > x11 then ((impl_Item_161.f k x0 (wrap64 (x2 - x10)) x2 x11).bind fun t199 => (impl_Item_160.l0 k t199 x2 (wrap64 (x10 - x11)) x11)) else ((impl_Item_161.f k x0 (wrap64 (x2 - x10)) (wrap64 ((wrap64 (x2 + x11)) - x10)) x10).bind fun t200 => (impl_Item_160.l0 k t200 x2 x10 (wrap64 (x11 - x10)))))
def impl_Item_160.f (k : Nat) (l0 : List (S100)) (a1 : Int) (a2 : Int) (a3 : Int) : Option ((List (S100))) := impl_Item_160.l0 k l0 a2 (wrap64 (a2 - a1)) (wrap64 (a3 - a2))
theorem impl_Item_160.mono_l : ∀ k, (∀ y0 y1 y2 y3, LeO (impl_Item_160.l0 k y0 y1 y2 y3) (impl_Item_160.l0 (k + 1) y0 y1 y2 y3))
  | 0 => fun _ _ _ _ r h => by simp [impl_Item_160.l0] at h
  | k + 1 => by
    have ih0 := impl_Item_160.mono_l k
    · intro y0 y1 y2 y3
      unfold impl_Item_160.l0
      repeat' first
      | (with_reducible exact ih0 _ _ _ _)
      | (with_reducible exact impl_Item_161.mono _ _ _ _ _)
      | (with_reducible exact LeO.refl _)
      | (with_reducible exact LeO.none _)
      | (with_reducible refine LeO.ite ?_ ?_)
      | (with_reducible refine LeO.bind ?_ (fun _ => ?_))
      | exact ih0 _ _ _ _
      | exact impl_Item_161.mono _ _ _ _ _
      | exact LeO.none _
      | refine LeO.ite ?_ ?_
      | refine LeO.bind ?_ (fun _ => ?_)
theorem impl_Item_160.mono : ∀ a0 a1 a2 a3 k, LeO (impl_Item_160.f k a0 a1 a2 a3) (impl_Item_160.f (k + 1) a0 a1 a2 a3) := by
  intro a0 a1 a2 a3 k
  have ih0 := impl_Item_160.mono_l k
  unfold impl_Item_160.f
  repeat' first
      | (with_reducible exact ih0 _ _ _ _)
      | (with_reducible exact impl_Item_161.mono _ _ _ _ _)
      | (with_reducible exact LeO.refl _)
      | (with_reducible exact LeO.none _)
      | (with_reducible refine LeO.ite ?_ ?_)
      | (with_reducible refine LeO.bind ?_ (fun _ => ?_))
      | exact ih0 _ _ _ _
      | exact impl_Item_161.mono _ _ _ _ _
      | exact LeO.none _
      | refine LeO.ite ?_ ?_
      | refine LeO.bind ?_ (fun _ => ?_)
set_option maxHeartbeats 8000000 in
set_option maxRecDepth 100000 in
theorem impl_Item_160.calls (k : Nat) (P0_ : Nat → Prop) (u9000_ : Value) (l0 : List (S100)) (a1 : Int) (a2 : Int) (a3 : Int) (r : List (S100)) (w0 w : World) (hB : Below w0.heap.size w0 w) (ho0 : Kd.R k100 100 w w0.heap.size P0_ u9000_ l0) (h : impl_Item_160.f k l0 a1 a2 a3 = some r) :
    Calls Try.prog 160 #[u9000_, .int .i64 a1, .int .i64 a2, .int .i64 a3, .func (.func 123) #[] #[]] w fun e w' => e = .returned (.tuple #[]) ∧ Kd.R k100 100 w' w0.heap.size (fun k_ => (P0_ k_ ∨ w.heap.size ≤ k_)) u9000_ r ∧ Below w0.heap.size w0 w' ∧ Kept w w' (fun k_ => P0_ k_) := by
  have HO0 := Aside0.mk (show Kd.R k100 100 w w0.heap.size (fun k_ => (P0_ k_ ∨ w.heap.size ≤ k_)) u9000_ l0 from Kd.R_mono ho0 (fun k_ hk => (.inl hk)))
  have HK := Aside0.mk (Kept.refl w (fun k_ => P0_ k_))
  have HW0 := Aside0.mk hB.size
  have HB := Aside0.mk hB
  clear hB
  have H : (impl_Item_160.l0 k l0 a2 (wrap64 (a2 - a1)) (wrap64 (a3 - a2))) = some r := h
  clear h
  have H' := Aside0.mk H
  clear H
  go_enter Try.func160, Try.ntmps160
  go_wp2
  go_loopg [10, 11] k (fun kq v10 v11 w' => ∃ (x0_1 : List (S100)) (x10_1 : Int) (x11_1 : Int), v10 = .int .i64 x10_1 ∧ v11 = .int .i64 x11_1 ∧ Aside0 (impl_Item_160.l0 kq x0_1 a2 x10_1 x11_1 = some r) ∧ Aside0 (kq ≤ k) ∧ Aside0 (Kd.R k100 100 w' w0.heap.size (fun k_ => (P0_ k_ ∨ w.heap.size ≤ k_)) u9000_ x0_1) ∧ Aside0 (Kept w w' (fun k_ => P0_ k_)) ∧ Aside0 (Below w0.heap.size w0 w'))
  case atStart => exact ⟨(l0), (wrap64 (a2 - a1)), (wrap64 (a3 - a2)), (by first | rfl | (simp; done) | (simp [*]; done)), (by first | rfl | (simp; done) | (simp [*]; done)), H', ⟨Nat.le_refl _⟩, ⟨by (with_reducible repeat (first | apply Kd.R_alloc | apply Kd.R_drewN | apply Kd.R_drew)); exact HO0.out⟩, ⟨by repeat (first | (with_reducible first | exact HK.out | apply Kept.alloc | apply Kept.drewN | apply Kept.drew) | exact HK.out)⟩, ⟨by repeat (first | (with_reducible first | exact HB.out | apply below_alloc | apply pw_below_drewN | apply below_drew1) | exact HB.out)⟩⟩
  case round =>
    clear H'
    try clear c1
    try clear p2
    obtain ⟨x0_1, x10_1, x11_1, rfl, rfl, HA, HK1, HO_0, HK, HB⟩ := hrel
    cases gk with
    | zero => exact absurd HA.out (by simp [impl_Item_160.l0])
    | succ k1 =>
      have H := HA.out
      clear HA
      simp only [impl_Item_160.l0] at H
      by_cases c5 : x10_1 = x11_1
      · rw [if_pos c5] at H
        have c5b0 : (x10_1 == x11_1) = true := beq_iff_eq.mpr c5
        have c5b1 : (x10_1 != x11_1) = false := bne_eq_false_iff_eq.mpr c5
        clear c5
        replace H := Option.bind_eq_some_iff.mp H
        obtain ⟨t198, A60, H⟩ := H
        replace H : (some t198) = some r := H
        have A6 := Aside0.mk A60
        clear A60
        obtain rfl := Option.some.inj H
        obtain ⟨Ao7, co7, eo7⟩ := Kd.R_slice HO_0.out
        subst eo7
        go_wp2_with (first | ((with_reducible refine gate_callee (f := 161) rfl ?_); refine goesL_ (some 57) rfl rfl Try.func161 (by kernel_rfl) rfl #[.slice Ao7 x0_1.length co7, .int .i64 (wrap64 (a2 - x10_1)), .int .i64 a2, .int .i64 x10_1, .func (.func 123) #[] #[]] rfl (by (try simp only [List.map_toArray, List.map_cons, List.map_nil]); first | done | rfl | (simp only [List.length_drop, List.length_take]; rfl)) ?_; (with_reducible refine (impl_Item_161.calls k1 (fun k_ => some k_ = (.slice Ao7 x0_1.length co7 : Value).ownBlock) (.slice Ao7 x0_1.length co7) x0_1 (wrap64 (a2 - x10_1)) a2 x10_1 t198 w0 _ ?side1 ?side2 A6.out).mono ?_); (case side1 => repeat (first | (with_reducible first | exact HB.out | apply below_alloc | apply pw_below_drewN | apply below_drew1) | exact HB.out)); (case side2 => exact Kd.R_tight rfl HO_0.out); rintro e w8 ⟨rfl, hy0, hb, hkp⟩; refine ⟨_, rfl, ?_⟩; have n0_ := Aside0.mk (Kd.R_reok rfl hy0 (fun k_ e_ => HO_0.out.1 k_ e_)); have n1_ := Aside0.mk (Kept.then_ (S := (fun k_ => P0_ k_)) (by repeat (first | (with_reducible first | exact HK.out | apply Kept.alloc | apply Kept.drewN | apply Kept.drew) | exact HK.out)) hkp (fun k_ hs_ => (fun e_ => (HO_0.out.1 k_ e_.symm)) hs_)); have n2_ := Aside0.mk (hb); clear HO_0; clear HK; clear HB; have HO_0 := n0_; have HK := n1_; have HB := n2_; clear n0_ n1_ n2_; (try clear hb); (try clear hkp); (try clear hy0)))
        first | go_end0 | ((try simp only [Exit.inBlock, Exit.then]); refine bodyPost_ret (results_none rfl _ _ _) rfl ?_)
        exact ⟨by first | rfl | (simp [errW_none, errW_some] <;> rfl) | (simp [*, errW_none, errW_some] <;> rfl), by (with_reducible repeat (first | apply Kd.R_alloc | apply Kd.R_drewN | apply Kd.R_drew)); exact HO_0.out, by repeat (first | (with_reducible first | exact HB.out | apply below_alloc | apply pw_below_drewN | apply below_drew1) | exact HB.out), by repeat (first | (with_reducible first | exact HK.out | apply Kept.alloc | apply Kept.drewN | apply Kept.drew) | exact HK.out)⟩
      · rw [if_neg c5] at H
        have c5b0 : (x10_1 == x11_1) = false := beq_eq_false_iff_ne.mpr c5
        have c5b1 : (x10_1 != x11_1) = true := bne_iff_ne.mpr c5
        by_cases c9 : x10_1 > x11_1
        · rw [if_pos c9] at H
          have c9b0 : decide (x11_1 < x10_1) = true := decide_eq_true c9
          clear c9
          replace H := Option.bind_eq_some_iff.mp H
          obtain ⟨t199, A100, H⟩ := H
          replace H : (impl_Item_160.l0 k1 t199 a2 (wrap64 (x10_1 - x11_1)) x11_1) = some r := H
          have A10 := Aside0.mk A100
          clear A100
          have H' := Aside0.mk H
          clear H
          obtain ⟨Ao11, co11, eo11⟩ := Kd.R_slice HO_0.out
          subst eo11
          go_wp2_with (first | ((with_reducible refine gate_callee (f := 161) rfl ?_); refine goesL_ (some 31) rfl rfl Try.func161 (by kernel_rfl) rfl #[.slice Ao11 x0_1.length co11, .int .i64 (wrap64 (a2 - x10_1)), .int .i64 a2, .int .i64 x11_1, .func (.func 123) #[] #[]] rfl (by (try simp only [List.map_toArray, List.map_cons, List.map_nil]); first | done | rfl | (simp only [List.length_drop, List.length_take]; rfl)) ?_; (with_reducible refine (impl_Item_161.calls k1 (fun k_ => some k_ = (.slice Ao11 x0_1.length co11 : Value).ownBlock) (.slice Ao11 x0_1.length co11) x0_1 (wrap64 (a2 - x10_1)) a2 x11_1 t199 w0 _ ?side1 ?side2 A10.out).mono ?_); (case side1 => repeat (first | (with_reducible first | exact HB.out | apply below_alloc | apply pw_below_drewN | apply below_drew1) | exact HB.out)); (case side2 => exact Kd.R_tight rfl HO_0.out); rintro e w12 ⟨rfl, hy0, hb, hkp⟩; refine ⟨_, rfl, ?_⟩; have n0_ := Aside0.mk (Kd.R_reok rfl hy0 (fun k_ e_ => HO_0.out.1 k_ e_)); have n1_ := Aside0.mk (Kept.then_ (S := (fun k_ => P0_ k_)) (by repeat (first | (with_reducible first | exact HK.out | apply Kept.alloc | apply Kept.drewN | apply Kept.drew) | exact HK.out)) hkp (fun k_ hs_ => (fun e_ => (HO_0.out.1 k_ e_.symm)) hs_)); have n2_ := Aside0.mk (hb); clear HO_0; clear HK; clear HB; have HO_0 := n0_; have HK := n1_; have HB := n2_; clear n0_ n1_ n2_; (try clear hb); (try clear hkp); (try clear hy0)))
          go_roundg k1
          case measure => have := HK1.out; omega
          case rel => exact ⟨(t199), (wrap64 (x10_1 - x11_1)), (x11_1), (by first | rfl | (simp; done) | (simp [*]; done)), (by first | rfl | (simp; done) | (simp [*]; done)), H', ⟨by have := HK1.out; omega⟩, ⟨by (with_reducible repeat (first | apply Kd.R_alloc | apply Kd.R_drewN | apply Kd.R_drew)); exact HO_0.out⟩, ⟨by repeat (first | (with_reducible first | exact HK.out | apply Kept.alloc | apply Kept.drewN | apply Kept.drew) | exact HK.out)⟩, ⟨by repeat (first | (with_reducible first | exact HB.out | apply below_alloc | apply pw_below_drewN | apply below_drew1) | exact HB.out)⟩⟩
        · rw [if_neg c9] at H
          have c9b0 : decide (x11_1 < x10_1) = false := decide_eq_false c9
          clear c9
          replace H := Option.bind_eq_some_iff.mp H
          obtain ⟨t200, A130, H⟩ := H
          replace H : (impl_Item_160.l0 k1 t200 a2 x10_1 (wrap64 (x11_1 - x10_1))) = some r := H
          have A13 := Aside0.mk A130
          clear A130
          have H' := Aside0.mk H
          clear H
          obtain ⟨Ao14, co14, eo14⟩ := Kd.R_slice HO_0.out
          subst eo14
          go_wp2_with (first | ((with_reducible refine gate_callee (f := 161) rfl ?_); refine goesL_ (some 46) rfl rfl Try.func161 (by kernel_rfl) rfl #[.slice Ao14 x0_1.length co14, .int .i64 (wrap64 (a2 - x10_1)), .int .i64 (wrap64 ((wrap64 (a2 + x11_1)) - x10_1)), .int .i64 x10_1, .func (.func 123) #[] #[]] rfl (by (try simp only [List.map_toArray, List.map_cons, List.map_nil]); first | done | rfl | (simp only [List.length_drop, List.length_take]; rfl)) ?_; (with_reducible refine (impl_Item_161.calls k1 (fun k_ => some k_ = (.slice Ao14 x0_1.length co14 : Value).ownBlock) (.slice Ao14 x0_1.length co14) x0_1 (wrap64 (a2 - x10_1)) (wrap64 ((wrap64 (a2 + x11_1)) - x10_1)) x10_1 t200 w0 _ ?side1 ?side2 A13.out).mono ?_); (case side1 => repeat (first | (with_reducible first | exact HB.out | apply below_alloc | apply pw_below_drewN | apply below_drew1) | exact HB.out)); (case side2 => exact Kd.R_tight rfl HO_0.out); rintro e w15 ⟨rfl, hy0, hb, hkp⟩; refine ⟨_, rfl, ?_⟩; have n0_ := Aside0.mk (Kd.R_reok rfl hy0 (fun k_ e_ => HO_0.out.1 k_ e_)); have n1_ := Aside0.mk (Kept.then_ (S := (fun k_ => P0_ k_)) (by repeat (first | (with_reducible first | exact HK.out | apply Kept.alloc | apply Kept.drewN | apply Kept.drew) | exact HK.out)) hkp (fun k_ hs_ => (fun e_ => (HO_0.out.1 k_ e_.symm)) hs_)); have n2_ := Aside0.mk (hb); clear HO_0; clear HK; clear HB; have HO_0 := n0_; have HK := n1_; have HB := n2_; clear n0_ n1_ n2_; (try clear hb); (try clear hkp); (try clear hy0)))
          go_roundg k1
          case measure => have := HK1.out; omega
          case rel => exact ⟨(t200), (x10_1), (wrap64 (x11_1 - x10_1)), (by first | rfl | (simp; done) | (simp [*]; done)), (by first | rfl | (simp; done) | (simp [*]; done)), H', ⟨by have := HK1.out; omega⟩, ⟨by (with_reducible repeat (first | apply Kd.R_alloc | apply Kd.R_drewN | apply Kd.R_drew)); exact HO_0.out⟩, ⟨by repeat (first | (with_reducible first | exact HK.out | apply Kept.alloc | apply Kept.drewN | apply Kept.drew) | exact HK.out)⟩, ⟨by repeat (first | (with_reducible first | exact HB.out | apply below_alloc | apply pw_below_drewN | apply below_drew1) | exact HB.out)⟩⟩

end Go.Proofs.Ytjmgomailgplcaa.PFnExactById
