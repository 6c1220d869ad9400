-- PRINTED BY print.sh 35421559b90ae4d0a3588c463048766b98c2df88dd9212a6774a882060cdf62d: not written by this session
import Derived.Test.YtdeffkhkhpjodaaPFnExactPointAtx0
namespace Go.Proofs.Ytdeffkhkhpjodaa.PFnExactPointAt
open Go.RowKit Go.Proofs.YtdeffkhkhpjodaaW.PrintWords Go.Proofs.YtdeffkhkhpjodaaW.PrintLast Go.Proofs.YtdeffkhkhpjodaaW.PrintMore
attribute [local go_sem] max2_int min2_int max_two min_two max_three min_three max_four min_four   -- for this text's walks alone
set_option linter.unusedVariables false
set_option linter.unusedSimpArgs false

/-! ### spec_l1In: function 46 -/
def spec_l1In.f (a0 : Int) (a1 : Int) (a2 : Int) : Option (Bool) := if a0 ≥ a1 then (some (decide (a0 ≤ a2))) else (some false)
set_option maxHeartbeats 8000000 in
set_option maxRecDepth 100000 in
theorem spec_l1In.calls (a0 : Int) (a1 : Int) (a2 : Int) (r : Bool) (w : World) (h : spec_l1In.f a0 a1 a2 = some r) :
    Calls Try.prog 46 #[.int .i64 a0, .int .i64 a1, .int .i64 a2] w fun e w' => e = .returned (.bool r) ∧ Drawn0 w w' := by
  have H : (if a0 ≥ a1 then (some (decide (a0 ≤ a2))) else (some false)) = some r := h
  clear h
  by_cases c4 : a0 ≥ a1
  · rw [if_pos c4] at H
    have c4b0 : decide (a1 ≤ a0) = true := decide_eq_true c4
    clear c4
    obtain rfl := Option.some.inj H
    go_enter Try.func46, Try.ntmps46
    go_wp2
    go_ret
    exact ⟨by first | rfl | (simp; done) | (simp [*]; done), by repeat (first | exact Drawn0.refl _ | apply Drawn0.step)⟩
  · rw [if_neg c4] at H
    have c4b0 : decide (a1 ≤ a0) = false := decide_eq_false c4
    clear c4
    obtain rfl := Option.some.inj H
    go_enter Try.func46, Try.ntmps46
    go_wp2
    go_ret
    exact ⟨by first | rfl | (simp; done) | (simp [*]; done), by repeat (first | exact Drawn0.refl _ | apply Drawn0.step)⟩

/-! ### spec_PointAt: function 36 -/
def spec_PointAt.l0 : Nat → Int → Int → Int → Int → Option (Int × Int)
  | 0, _, _, _, _ => none
  | k + 1, x0, x4, x5, x6 => if x6 < 256 then (if (Int.tmod (Go.bits .xor .i64 x0 (Int.tmod (wrap64 (Int.tdiv x0 2)) 2)) 2) = 0 then (if (Int.tmod (wrap64 (Int.tdiv x0 2)) 2) = 1 then (spec_PointAt.l0 k (wrap64 (Int.tdiv x0 4)) (wrap64 ((wrap64 ((wrap64 (x6 - 1)) - x5)) + (wrap64 (x6 * (Int.tmod (wrap64 (Int.tdiv x0 2)) 2))))) (wrap64 ((wrap64 ((wrap64 (x6 - 1)) - x4)) + (wrap64 (x6 * (Int.tmod (Go.bits .xor .i64 x0 (Int.tmod (wrap64 (Int.tdiv x0 2)) 2)) 2))))) (wrap64 (2 * x6))) else (spec_PointAt.l0 k (wrap64 (Int.tdiv x0 4)) (wrap64 (x5 + (wrap64 (x6 * (Int.tmod (wrap64 (Int.tdiv x0 2)) 2))))) (wrap64 (x4 + (wrap64 (x6 * (Int.tmod (Go.bits .xor .i64 x0 (Int.tmod (wrap64 (Int.tdiv x0 2)) 2)) 2))))) (wrap64 (2 * x6)))) else (spec_PointAt.l0 k (wrap64 (Int.tdiv x0 4)) (wrap64 (x4 + (wrap64 (x6 * (Int.tmod (wrap64 (Int.tdiv x0 2)) 2))))) (wrap64 (x5 + (wrap64 (x6 * (Int.tmod (Go.bits .xor .i64 x0 (Int.tmod (wrap64 (Int.tdiv x0 2)) 2)) 2))))) (wrap64 (2 * x6)))) else (some (x4, x5))
def spec_PointAt.f (k : Nat) (a0 : Int) : Option (Int × Int) := (spec_l1In.f a0 0 65535).bind fun t101 => (if t101 = true then (spec_PointAt.l0 k a0 0 0 1) else (some (0, 0)))
theorem spec_PointAt.mono_l : ∀ k, (∀ y0 y1 y2 y3, LeO (spec_PointAt.l0 k y0 y1 y2 y3) (spec_PointAt.l0 (k + 1) y0 y1 y2 y3))
  | 0 => fun _ _ _ _ r h => by simp [spec_PointAt.l0] at h
  | k + 1 => by
    have ih0 := spec_PointAt.mono_l k
    · intro y0 y1 y2 y3
      unfold spec_PointAt.l0
      repeat' first
      | (with_reducible exact ih0 _ _ _ _)
      | (with_reducible exact LeO.refl _)
      | (with_reducible exact LeO.none _)
      | (with_reducible refine LeO.ite ?_ ?_)
      | (with_reducible refine LeO.bind ?_ (fun _ => ?_))
      | exact ih0 _ _ _ _
      | exact LeO.none _
      | refine LeO.ite ?_ ?_
      | refine LeO.bind ?_ (fun _ => ?_)
theorem spec_PointAt.mono : ∀ a0 k, LeO (spec_PointAt.f k a0) (spec_PointAt.f (k + 1) a0) := by
  intro a0 k
  have ih0 := spec_PointAt.mono_l k
  unfold spec_PointAt.f
  repeat' first
      | (with_reducible exact ih0 _ _ _ _)
      | (with_reducible exact LeO.refl _)
      | (with_reducible exact LeO.none _)
      | (with_reducible refine LeO.ite ?_ ?_)
      | (with_reducible refine LeO.bind ?_ (fun _ => ?_))
      | exact ih0 _ _ _ _
      | exact LeO.none _
      | refine LeO.ite ?_ ?_
      | refine LeO.bind ?_ (fun _ => ?_)
set_option maxHeartbeats 8000000 in
set_option maxRecDepth 100000 in
theorem spec_PointAt.calls (k : Nat) (a0 : Int) (r1 : Int) (r2 : Int) (w : World) (h : spec_PointAt.f k a0 = some (r1, r2)) :
    Calls Try.prog 36 #[.int .i64 a0] w fun e w' => e = .returned (.tuple #[.int .i64 r1, .int .i64 r2]) ∧ Drawn0 w w' := by
  have H : ((spec_l1In.f a0 0 65535).bind fun t101 => (if t101 = true then (spec_PointAt.l0 k a0 0 0 1) else (some (0, 0)))) = some (r1, r2) := h
  clear h
  replace H := Option.bind_eq_some_iff.mp H
  obtain ⟨t101, A20, H⟩ := H
  replace H : (if t101 = true then (spec_PointAt.l0 k a0 0 0 1) else (some (0, 0))) = some (r1, r2) := H
  have A2 := Aside0.mk A20
  clear A20
  by_cases c3 : t101 = true
  · subst c3
    have H1 : (spec_PointAt.l0 k a0 0 0 1) = some (r1, r2) := by rw [if_pos rfl] at H; exact H
    clear H
    have H := H1
    clear H1
    have H' := Aside0.mk H
    clear H
    go_enter Try.func36, Try.ntmps36
    go_wp2_with (first | ((with_reducible refine gate_callee (f := 46) rfl ?_); refine goesL_ (some 10) rfl rfl Try.func46 (by kernel_rfl) rfl #[.int .i64 a0, .int .i64 0, .int .i64 65535] rfl (by (try simp only [List.map_toArray, List.map_cons, List.map_nil]); first | done | rfl | (simp only [List.length_drop, List.length_take]; rfl)) ?_; (with_reducible refine (spec_l1In.calls a0 0 65535 true _ A2.out).mono ?_); rintro e w' ⟨rfl, ⟨nd, rfl⟩⟩; refine ⟨_, rfl, ?_⟩))
    go_loopg [0, 4, 5, 6] k (fun kq v0 v4 v5 v6 w' => ∃ (x0_1 : Int) (x4_1 : Int) (x5_1 : Int) (x6_1 : Int), v0 = .int .i64 x0_1 ∧ v4 = .int .i64 x4_1 ∧ v5 = .int .i64 x5_1 ∧ v6 = .int .i64 x6_1 ∧ Aside0 (spec_PointAt.l0 kq x0_1 x4_1 x5_1 x6_1 = some (r1, r2)) ∧ Aside0 (kq ≤ k) ∧ Drawn0 w w')
    case atStart => exact ⟨(a0), (0), (0), (1), (by first | rfl | (simp; done) | (simp [*]; done)), (by first | rfl | (simp; done) | (simp [*]; done)), (by first | rfl | (simp; done) | (simp [*]; done)), (by first | rfl | (simp; done) | (simp [*]; done)), H', ⟨Nat.le_refl _⟩, by repeat (first | exact Drawn0.refl _ | apply Drawn0.step)⟩
    case round =>
      clear H'
      try clear p2
      try clear c3
      obtain ⟨x0_1, x4_1, x5_1, x6_1, rfl, rfl, rfl, rfl, HA, HK1, ⟨m1, rfl⟩⟩ := hrel
      cases gk with
      | zero => exact absurd HA.out (by simp [spec_PointAt.l0])
      | succ k1 =>
        have H := HA.out
        clear HA
        simp only [spec_PointAt.l0] at H
        by_cases c4 : x6_1 < 256
        · rw [if_pos c4] at H
          have c4b0 : decide (x6_1 < 256) = true := decide_eq_true c4
          clear c4
          by_cases c5 : (Int.tmod (Go.bits .xor .i64 x0_1 (Int.tmod (wrap64 (Int.tdiv x0_1 2)) 2)) 2) = 0
          · rw [if_pos c5] at H
            have c5b0 : ((Int.tmod (Go.bits .xor .i64 x0_1 (Int.tmod (wrap64 (Int.tdiv x0_1 2)) 2)) 2) == 0) = true := beq_iff_eq.mpr c5
            have c5b1 : ((Int.tmod (Go.bits .xor .i64 x0_1 (Int.tmod (wrap64 (Int.tdiv x0_1 2)) 2)) 2) != 0) = false := bne_eq_false_iff_eq.mpr c5
            clear c5
            by_cases c6 : (Int.tmod (wrap64 (Int.tdiv x0_1 2)) 2) = 1
            · rw [if_pos c6] at H
              have c6b0 : ((Int.tmod (wrap64 (Int.tdiv x0_1 2)) 2) == 1) = true := beq_iff_eq.mpr c6
              have c6b1 : ((Int.tmod (wrap64 (Int.tdiv x0_1 2)) 2) != 1) = false := bne_eq_false_iff_eq.mpr c6
              clear c6
              have H' := Aside0.mk H
              clear H
              go_wp2
              go_roundg k1
              case measure => have := HK1.out; omega
              case rel => exact ⟨(wrap64 (Int.tdiv x0_1 4)), (wrap64 ((wrap64 ((wrap64 (x6_1 - 1)) - x5_1)) + (wrap64 (x6_1 * (Int.tmod (wrap64 (Int.tdiv x0_1 2)) 2))))), (wrap64 ((wrap64 ((wrap64 (x6_1 - 1)) - x4_1)) + (wrap64 (x6_1 * (Int.tmod (Go.bits .xor .i64 x0_1 (Int.tmod (wrap64 (Int.tdiv x0_1 2)) 2)) 2))))), (wrap64 (2 * x6_1)), (by first | rfl | (simp; done) | (simp [*]; done)), (by first | rfl | (simp; done) | (simp [*]; done)), (by first | rfl | (simp; done) | (simp [*]; done)), (by first | rfl | (simp; done) | (simp [*]; done)), H', ⟨by have := HK1.out; omega⟩, by repeat (first | exact Drawn0.refl _ | apply Drawn0.step)⟩
            · rw [if_neg c6] at H
              have c6b0 : ((Int.tmod (wrap64 (Int.tdiv x0_1 2)) 2) == 1) = false := beq_eq_false_iff_ne.mpr c6
              have c6b1 : ((Int.tmod (wrap64 (Int.tdiv x0_1 2)) 2) != 1) = true := bne_iff_ne.mpr c6
              have H' := Aside0.mk H
              clear H
              go_wp2
              go_roundg k1
              case measure => have := HK1.out; omega
              case rel => exact ⟨(wrap64 (Int.tdiv x0_1 4)), (wrap64 (x5_1 + (wrap64 (x6_1 * (Int.tmod (wrap64 (Int.tdiv x0_1 2)) 2))))), (wrap64 (x4_1 + (wrap64 (x6_1 * (Int.tmod (Go.bits .xor .i64 x0_1 (Int.tmod (wrap64 (Int.tdiv x0_1 2)) 2)) 2))))), (wrap64 (2 * x6_1)), (by first | rfl | (simp; done) | (simp [*]; done)), (by first | rfl | (simp; done) | (simp [*]; done)), (by first | rfl | (simp; done) | (simp [*]; done)), (by first | rfl | (simp; done) | (simp [*]; done)), H', ⟨by have := HK1.out; omega⟩, by repeat (first | exact Drawn0.refl _ | apply Drawn0.step)⟩
          · rw [if_neg c5] at H
            have c5b0 : ((Int.tmod (Go.bits .xor .i64 x0_1 (Int.tmod (wrap64 (Int.tdiv x0_1 2)) 2)) 2) == 0) = false := beq_eq_false_iff_ne.mpr c5
            have c5b1 : ((Int.tmod (Go.bits .xor .i64 x0_1 (Int.tmod (wrap64 (Int.tdiv x0_1 2)) 2)) 2) != 0) = true := bne_iff_ne.mpr c5
            have H' := Aside0.mk H
            clear H
            go_wp2
            go_roundg k1
            case measure => have := HK1.out; omega
            case rel => exact ⟨(wrap64 (Int.tdiv x0_1 4)), (wrap64 (x4_1 + (wrap64 (x6_1 * (Int.tmod (wrap64 (Int.tdiv x0_1 2)) 2))))), (wrap64 (x5_1 + (wrap64 (x6_1 * (Int.tmod (Go.bits .xor .i64 x0_1 (Int.tmod (wrap64 (Int.tdiv x0_1 2)) 2)) 2))))), (wrap64 (2 * x6_1)), (by first | rfl | (simp; done) | (simp [*]; done)), (by first | rfl | (simp; done) | (simp [*]; done)), (by first | rfl | (simp; done) | (simp [*]; done)), (by first | rfl | (simp; done) | (simp [*]; done)), H', ⟨by have := HK1.out; omega⟩, by repeat (first | exact Drawn0.refl _ | apply Drawn0.step)⟩
        · rw [if_neg c4] at H
          have c4b0 : decide (x6_1 < 256) = false := decide_eq_false c4
          clear c4
          simp only [Option.some.injEq, Prod.mk.injEq] at H
          obtain ⟨rfl, rfl⟩ := H
          go_wp2
          go_ret2
          exact ⟨by first | rfl | (simp; done) | (simp [*]; done), by repeat (first | exact Drawn0.refl _ | apply Drawn0.step)⟩
  · replace c3 := Bool.eq_false_iff.mpr c3
    subst c3
    have H1 : (some (0, 0)) = some (r1, r2) := by rw [if_neg (show ¬ (false = true) by decide)] at H; exact H
    clear H
    have H := H1
    clear H1
    simp only [Option.some.injEq, Prod.mk.injEq] at H
    obtain ⟨rfl, rfl⟩ := H
    go_enter Try.func36, Try.ntmps36
    go_wp2_with (first | ((with_reducible refine gate_callee (f := 46) rfl ?_); refine goesL_ (some 10) rfl rfl Try.func46 (by kernel_rfl) rfl #[.int .i64 a0, .int .i64 0, .int .i64 65535] rfl (by (try simp only [List.map_toArray, List.map_cons, List.map_nil]); first | done | rfl | (simp only [List.length_drop, List.length_take]; rfl)) ?_; (with_reducible refine (spec_l1In.calls a0 0 65535 false _ A2.out).mono ?_); rintro e w' ⟨rfl, ⟨nd, rfl⟩⟩; refine ⟨_, rfl, ?_⟩))
    go_ret2
    exact ⟨by first | rfl | (simp; done) | (simp [*]; done), by repeat (first | exact Drawn0.refl _ | apply Drawn0.step)⟩

/-! ### impl_in: function 47 -/
def impl_in.f (a0 : Int) (a1 : Int) (a2 : Int) : Option (Bool) := if a1 ≤ a0 then (some (decide (a0 ≤ a2))) else (some false)
set_option maxHeartbeats 8000000 in
set_option maxRecDepth 100000 in
theorem impl_in.calls (a0 : Int) (a1 : Int) (a2 : Int) (r : Bool) (w : World) (h : impl_in.f a0 a1 a2 = some r) :
    Calls Try.prog 47 #[.int .i64 a0, .int .i64 a1, .int .i64 a2] w fun e w' => e = .returned (.bool r) ∧ Drawn0 w w' := by
  have H : (if a1 ≤ a0 then (some (decide (a0 ≤ a2))) else (some false)) = some r := h
  clear h
  by_cases c4 : a1 ≤ a0
  · rw [if_pos c4] at H
    have c4b0 : decide (a1 ≤ a0) = true := decide_eq_true c4
    clear c4
    obtain rfl := Option.some.inj H
    go_enter Try.func47, Try.ntmps47
    go_wp2
    go_ret
    exact ⟨by first | rfl | (simp; done) | (simp [*]; done), by repeat (first | exact Drawn0.refl _ | apply Drawn0.step)⟩
  · rw [if_neg c4] at H
    have c4b0 : decide (a1 ≤ a0) = false := decide_eq_false c4
    clear c4
    obtain rfl := Option.some.inj H
    go_enter Try.func47, Try.ntmps47
    go_wp2
    go_ret
    exact ⟨by first | rfl | (simp; done) | (simp [*]; done), by repeat (first | exact Drawn0.refl _ | apply Drawn0.step)⟩

/-! ### impl_PointAt: function 37 -/
def impl_PointAt.l0 : Nat → Int → Int → Int → Int → Option (Int × Int)
  | 0, _, _, _, _ => none
  | k + 1, x0, x4, x5, x6 => if x6 < 256 then (if (Int.tmod (Go.bits .xor .i64 x0 (Int.tmod (wrap64 (Int.tdiv x0 2)) 2)) 2) = 0 then (if (Int.tmod (wrap64 (Int.tdiv x0 2)) 2) = 1 then (impl_PointAt.l0 k (wrap64 (Int.tdiv x0 4)) (wrap64 ((wrap64 ((wrap64 (x6 - 1)) - x5)) + (wrap64 (x6 * (Int.tmod (wrap64 (Int.tdiv x0 2)) 2))))) (wrap64 ((wrap64 ((wrap64 (x6 - 1)) - x4)) + (wrap64 (x6 * (Int.tmod (Go.bits .xor .i64 x0 (Int.tmod (wrap64 (Int.tdiv x0 2)) 2)) 2))))) (wrap64 (x6 * 2))) else (impl_PointAt.l0 k (wrap64 (Int.tdiv x0 4)) (wrap64 (x5 + (wrap64 (x6 * (Int.tmod (wrap64 (Int.tdiv x0 2)) 2))))) (wrap64 (x4 + (wrap64 (x6 * (Int.tmod (Go.bits .xor .i64 x0 (Int.tmod (wrap64 (Int.tdiv x0 2)) 2)) 2))))) (wrap64 (x6 * 2)))) else (impl_PointAt.l0 k (wrap64 (Int.tdiv x0 4)) (wrap64 (x4 + (wrap64 (x6 * (Int.tmod (wrap64 (Int.tdiv x0 2)) 2))))) (wrap64 (x5 + (wrap64 (x6 * (Int.tmod (Go.bits .xor .i64 x0 (Int.tmod (wrap64 (Int.tdiv x0 2)) 2)) 2))))) (wrap64 (x6 * 2)))) else (some (x4, x5))
def impl_PointAt.f (k : Nat) (a0 : Int) : Option (Int × Int) := (impl_in.f a0 0 65535).bind fun t102 => (if t102 = true then (impl_PointAt.l0 k a0 0 0 1) else (some (0, 0)))
theorem impl_PointAt.mono_l : ∀ k, (∀ y0 y1 y2 y3, LeO (impl_PointAt.l0 k y0 y1 y2 y3) (impl_PointAt.l0 (k + 1) y0 y1 y2 y3))
  | 0 => fun _ _ _ _ r h => by simp [impl_PointAt.l0] at h
  | k + 1 => by
    have ih0 := impl_PointAt.mono_l k
    · intro y0 y1 y2 y3
      unfold impl_PointAt.l0
      repeat' first
      | (with_reducible exact ih0 _ _ _ _)
      | (with_reducible exact LeO.refl _)
      | (with_reducible exact LeO.none _)
      | (with_reducible refine LeO.ite ?_ ?_)
      | (with_reducible refine LeO.bind ?_ (fun _ => ?_))
      | exact ih0 _ _ _ _
      | exact LeO.none _
      | refine LeO.ite ?_ ?_
      | refine LeO.bind ?_ (fun _ => ?_)
theorem impl_PointAt.mono : ∀ a0 k, LeO (impl_PointAt.f k a0) (impl_PointAt.f (k + 1) a0) := by
  intro a0 k
  have ih0 := impl_PointAt.mono_l k
  unfold impl_PointAt.f
  repeat' first
      | (with_reducible exact ih0 _ _ _ _)
      | (with_reducible exact LeO.refl _)
      | (with_reducible exact LeO.none _)
      | (with_reducible refine LeO.ite ?_ ?_)
      | (with_reducible refine LeO.bind ?_ (fun _ => ?_))
      | exact ih0 _ _ _ _
      | exact LeO.none _
      | refine LeO.ite ?_ ?_
      | refine LeO.bind ?_ (fun _ => ?_)
set_option maxHeartbeats 8000000 in
set_option maxRecDepth 100000 in
theorem impl_PointAt.calls (k : Nat) (a0 : Int) (r1 : Int) (r2 : Int) (w : World) (h : impl_PointAt.f k a0 = some (r1, r2)) :
    Calls Try.prog 37 #[.int .i64 a0] w fun e w' => e = .returned (.tuple #[.int .i64 r1, .int .i64 r2]) ∧ Drawn0 w w' := by
  have H : ((impl_in.f a0 0 65535).bind fun t102 => (if t102 = true then (impl_PointAt.l0 k a0 0 0 1) else (some (0, 0)))) = some (r1, r2) := h
  clear h
  replace H := Option.bind_eq_some_iff.mp H
  obtain ⟨t102, A20, H⟩ := H
  replace H : (if t102 = true then (impl_PointAt.l0 k a0 0 0 1) else (some (0, 0))) = some (r1, r2) := H
  have A2 := Aside0.mk A20
  clear A20
  by_cases c3 : t102 = true
  · subst c3
    have H1 : (impl_PointAt.l0 k a0 0 0 1) = some (r1, r2) := by rw [if_pos rfl] at H; exact H
    clear H
    have H := H1
    clear H1
    have H' := Aside0.mk H
    clear H
    go_enter Try.func37, Try.ntmps37
    go_wp2_with (first | ((with_reducible refine gate_callee (f := 47) rfl ?_); refine goesL_ (some 10) rfl rfl Try.func47 (by kernel_rfl) rfl #[.int .i64 a0, .int .i64 0, .int .i64 65535] rfl (by (try simp only [List.map_toArray, List.map_cons, List.map_nil]); first | done | rfl | (simp only [List.length_drop, List.length_take]; rfl)) ?_; (with_reducible refine (impl_in.calls a0 0 65535 true _ A2.out).mono ?_); rintro e w' ⟨rfl, ⟨nd, rfl⟩⟩; refine ⟨_, rfl, ?_⟩))
    go_loopg [0, 4, 5, 6] k (fun kq v0 v4 v5 v6 w' => ∃ (x0_1 : Int) (x4_1 : Int) (x5_1 : Int) (x6_1 : Int), v0 = .int .i64 x0_1 ∧ v4 = .int .i64 x4_1 ∧ v5 = .int .i64 x5_1 ∧ v6 = .int .i64 x6_1 ∧ Aside0 (impl_PointAt.l0 kq x0_1 x4_1 x5_1 x6_1 = some (r1, r2)) ∧ Aside0 (kq ≤ k) ∧ Drawn0 w w')
    case atStart => exact ⟨(a0), (0), (0), (1), (by first | rfl | (simp; done) | (simp [*]; done)), (by first | rfl | (simp; done) | (simp [*]; done)), (by first | rfl | (simp; done) | (simp [*]; done)), (by first | rfl | (simp; done) | (simp [*]; done)), H', ⟨Nat.le_refl _⟩, by repeat (first | exact Drawn0.refl _ | apply Drawn0.step)⟩
    case round =>
      clear H'
      try clear p2
      try clear c3
      obtain ⟨x0_1, x4_1, x5_1, x6_1, rfl, rfl, rfl, rfl, HA, HK1, ⟨m1, rfl⟩⟩ := hrel
      cases gk with
      | zero => exact absurd HA.out (by simp [impl_PointAt.l0])
      | succ k1 =>
        have H := HA.out
        clear HA
        simp only [impl_PointAt.l0] at H
        by_cases c4 : x6_1 < 256
        · rw [if_pos c4] at H
          have c4b0 : decide (x6_1 < 256) = true := decide_eq_true c4
          clear c4
          by_cases c5 : (Int.tmod (Go.bits .xor .i64 x0_1 (Int.tmod (wrap64 (Int.tdiv x0_1 2)) 2)) 2) = 0
          · rw [if_pos c5] at H
            have c5b0 : ((Int.tmod (Go.bits .xor .i64 x0_1 (Int.tmod (wrap64 (Int.tdiv x0_1 2)) 2)) 2) == 0) = true := beq_iff_eq.mpr c5
            have c5b1 : ((Int.tmod (Go.bits .xor .i64 x0_1 (Int.tmod (wrap64 (Int.tdiv x0_1 2)) 2)) 2) != 0) = false := bne_eq_false_iff_eq.mpr c5
            clear c5
            by_cases c6 : (Int.tmod (wrap64 (Int.tdiv x0_1 2)) 2) = 1
            · rw [if_pos c6] at H
              have c6b0 : ((Int.tmod (wrap64 (Int.tdiv x0_1 2)) 2) == 1) = true := beq_iff_eq.mpr c6
              have c6b1 : ((Int.tmod (wrap64 (Int.tdiv x0_1 2)) 2) != 1) = false := bne_eq_false_iff_eq.mpr c6
              clear c6
              have H' := Aside0.mk H
              clear H
              go_wp2
              go_roundg k1
              case measure => have := HK1.out; omega
              case rel => exact ⟨(wrap64 (Int.tdiv x0_1 4)), (wrap64 ((wrap64 ((wrap64 (x6_1 - 1)) - x5_1)) + (wrap64 (x6_1 * (Int.tmod (wrap64 (Int.tdiv x0_1 2)) 2))))), (wrap64 ((wrap64 ((wrap64 (x6_1 - 1)) - x4_1)) + (wrap64 (x6_1 * (Int.tmod (Go.bits .xor .i64 x0_1 (Int.tmod (wrap64 (Int.tdiv x0_1 2)) 2)) 2))))), (wrap64 (x6_1 * 2)), (by first | rfl | (simp; done) | (simp [*]; done)), (by first | rfl | (simp; done) | (simp [*]; done)), (by first | rfl | (simp; done) | (simp [*]; done)), (by first | rfl | (simp; done) | (simp [*]; done)), H', ⟨by have := HK1.out; omega⟩, by repeat (first | exact Drawn0.refl _ | apply Drawn0.step)⟩
            · rw [if_neg c6] at H
              have c6b0 : ((Int.tmod (wrap64 (Int.tdiv x0_1 2)) 2) == 1) = false := beq_eq_false_iff_ne.mpr c6
              have c6b1 : ((Int.tmod (wrap64 (Int.tdiv x0_1 2)) 2) != 1) = true := bne_iff_ne.mpr c6
              have H' := Aside0.mk H
              clear H
              go_wp2
              go_roundg k1
              case measure => have := HK1.out; omega
              case rel => exact ⟨(wrap64 (Int.tdiv x0_1 4)), (wrap64 (x5_1 + (wrap64 (x6_1 * (Int.tmod (wrap64 (Int.tdiv x0_1 2)) 2))))), (wrap64 (x4_1 + (wrap64 (x6_1 * (Int.tmod (Go.bits .xor .i64 x0_1 (Int.tmod (wrap64 (Int.tdiv x0_1 2)) 2)) 2))))), (wrap64 (x6_1 * 2)), (by first | rfl | (simp; done) | (simp [*]; done)), (by first | rfl | (simp; done) | (simp [*]; done)), (by first | rfl | (simp; done) | (simp [*]; done)), (by first | rfl | (simp; done) | (simp [*]; done)), H', ⟨by have := HK1.out; omega⟩, by repeat (first | exact Drawn0.refl _ | apply Drawn0.step)⟩
          · rw [if_neg c5] at H
            have c5b0 : ((Int.tmod (Go.bits .xor .i64 x0_1 (Int.tmod (wrap64 (Int.tdiv x0_1 2)) 2)) 2) == 0) = false := beq_eq_false_iff_ne.mpr c5
            have c5b1 : ((Int.tmod (Go.bits .xor .i64 x0_1 (Int.tmod (wrap64 (Int.tdiv x0_1 2)) 2)) 2) != 0) = true := bne_iff_ne.mpr c5
            have H' := Aside0.mk H
            clear H
            go_wp2
            go_roundg k1
            case measure => have := HK1.out; omega
            case rel => exact ⟨(wrap64 (Int.tdiv x0_1 4)), (wrap64 (x4_1 + (wrap64 (x6_1 * (Int.tmod (wrap64 (Int.tdiv x0_1 2)) 2))))), (wrap64 (x5_1 + (wrap64 (x6_1 * (Int.tmod (Go.bits .xor .i64 x0_1 (Int.tmod (wrap64 (Int.tdiv x0_1 2)) 2)) 2))))), (wrap64 (x6_1 * 2)), (by first | rfl | (simp; done) | (simp [*]; done)), (by first | rfl | (simp; done) | (simp [*]; done)), (by first | rfl | (simp; done) | (simp [*]; done)), (by first | rfl | (simp; done) | (simp [*]; done)), H', ⟨by have := HK1.out; omega⟩, by repeat (first | exact Drawn0.refl _ | apply Drawn0.step)⟩
        · rw [if_neg c4] at H
          have c4b0 : decide (x6_1 < 256) = false := decide_eq_false c4
          clear c4
          simp only [Option.some.injEq, Prod.mk.injEq] at H
          obtain ⟨rfl, rfl⟩ := H
          go_wp2
          go_ret2
          exact ⟨by first | rfl | (simp; done) | (simp [*]; done), by repeat (first | exact Drawn0.refl _ | apply Drawn0.step)⟩
  · replace c3 := Bool.eq_false_iff.mpr c3
    subst c3
    have H1 : (some (0, 0)) = some (r1, r2) := by rw [if_neg (show ¬ (false = true) by decide)] at H; exact H
    clear H
    have H := H1
    clear H1
    simp only [Option.some.injEq, Prod.mk.injEq] at H
    obtain ⟨rfl, rfl⟩ := H
    go_enter Try.func37, Try.ntmps37
    go_wp2_with (first | ((with_reducible refine gate_callee (f := 47) rfl ?_); refine goesL_ (some 10) rfl rfl Try.func47 (by kernel_rfl) rfl #[.int .i64 a0, .int .i64 0, .int .i64 65535] rfl (by (try simp only [List.map_toArray, List.map_cons, List.map_nil]); first | done | rfl | (simp only [List.length_drop, List.length_take]; rfl)) ?_; (with_reducible refine (impl_in.calls a0 0 65535 false _ A2.out).mono ?_); rintro e w' ⟨rfl, ⟨nd, rfl⟩⟩; refine ⟨_, rfl, ?_⟩))
    go_ret2
    exact ⟨by first | rfl | (simp; done) | (simp [*]; done), by repeat (first | exact Drawn0.refl _ | apply Drawn0.step)⟩

/-! ### laws_FnExactPointAt: function 11 -/
def laws_FnExactPointAt.f (k : Nat) (a0 : Int) : Option (Bool) := (spec_PointAt.f k a0).bind fun bt103 => ((impl_PointAt.f k a0).bind fun bt105 => (if bt105.1 = bt103.1 then (if bt105.2 = bt103.2 then (some true) else (some false)) else (some false)))
theorem laws_FnExactPointAt.mono : ∀ a0 k, LeO (laws_FnExactPointAt.f k a0) (laws_FnExactPointAt.f (k + 1) a0) := by
  intro a0 k
  unfold laws_FnExactPointAt.f
  repeat' first
      | (with_reducible exact impl_PointAt.mono _ _)
      | (with_reducible exact spec_PointAt.mono _ _)
      | (with_reducible exact LeO.refl _)
      | (with_reducible exact LeO.none _)
      | (with_reducible refine LeO.ite ?_ ?_)
      | (with_reducible refine LeO.bind ?_ (fun _ => ?_))
      | exact impl_PointAt.mono _ _
      | exact spec_PointAt.mono _ _
      | exact LeO.none _
      | refine LeO.ite ?_ ?_
      | refine LeO.bind ?_ (fun _ => ?_)
set_option maxHeartbeats 8000000 in
set_option maxRecDepth 100000 in
theorem laws_FnExactPointAt.calls (k : Nat) (a0 : Int) (r : Bool) (w : World) (h : laws_FnExactPointAt.f k a0 = some r) :
    Calls Try.prog 11 #[.int .i64 a0] w fun e w' => e = .returned (.bool r) ∧ Drawn0 w w' := by
  have H : ((spec_PointAt.f k a0).bind fun bt103 => ((impl_PointAt.f k a0).bind fun bt105 => (if bt105.1 = bt103.1 then (if bt105.2 = bt103.2 then (some true) else (some false)) else (some false)))) = some r := h
  clear h
  replace H := Option.bind_eq_some_iff.mp H
  obtain ⟨⟨t103, t104⟩, A20, H⟩ := H
  replace H : ((impl_PointAt.f k a0).bind fun bt105 => (if bt105.1 = t103 then (if bt105.2 = t104 then (some true) else (some false)) else (some false))) = some r := H
  have A2 := Aside0.mk A20
  clear A20
  replace H := Option.bind_eq_some_iff.mp H
  obtain ⟨⟨t105, t106⟩, A30, H⟩ := H
  replace H : (if t105 = t103 then (if t106 = t104 then (some true) else (some false)) else (some false)) = some r := H
  have A3 := Aside0.mk A30
  clear A30
  by_cases c4 : t105 = t103
  · rw [if_pos c4] at H
    have c4b0 : (t105 == t103) = true := beq_iff_eq.mpr c4
    have c4b1 : (t105 != t103) = false := bne_eq_false_iff_eq.mpr c4
    clear c4
    by_cases c5 : t106 = t104
    · rw [if_pos c5] at H
      have c5b0 : (t106 == t104) = true := beq_iff_eq.mpr c5
      have c5b1 : (t106 != t104) = false := bne_eq_false_iff_eq.mpr c5
      clear c5
      obtain rfl := Option.some.inj H
      go_enter Try.func11, Try.ntmps11
      go_wp2_with (first | ((with_reducible refine gate_callee (f := 36) rfl ?_); refine goesL_ (some 9) rfl rfl Try.func36 (by kernel_rfl) rfl #[.int .i64 a0] rfl (by (try simp only [List.map_toArray, List.map_cons, List.map_nil]); first | done | rfl | (simp only [List.length_drop, List.length_take]; rfl)) ?_; (with_reducible refine (spec_PointAt.calls k a0 t103 t104 _ A2.out).mono ?_); rintro e w' ⟨rfl, ⟨nd, rfl⟩⟩; refine ⟨_, rfl, ?_⟩) | ((with_reducible refine gate_callee (f := 37) rfl ?_); refine goesL_ (some 14) rfl rfl Try.func37 (by kernel_rfl) rfl #[.int .i64 a0] rfl (by (try simp only [List.map_toArray, List.map_cons, List.map_nil]); first | done | rfl | (simp only [List.length_drop, List.length_take]; rfl)) ?_; (with_reducible refine (impl_PointAt.calls k a0 t105 t106 _ A3.out).mono ?_); rintro e w' ⟨rfl, ⟨nd, rfl⟩⟩; refine ⟨_, rfl, ?_⟩))
      go_ret
      exact ⟨by first | rfl | (simp; done) | (simp [*]; done), by repeat (first | exact Drawn0.refl _ | apply Drawn0.step)⟩
    · rw [if_neg c5] at H
      have c5b0 : (t106 == t104) = false := beq_eq_false_iff_ne.mpr c5
      have c5b1 : (t106 != t104) = true := bne_iff_ne.mpr c5
      obtain rfl := Option.some.inj H
      go_enter Try.func11, Try.ntmps11
      go_wp2_with (first | ((with_reducible refine gate_callee (f := 36) rfl ?_); refine goesL_ (some 9) rfl rfl Try.func36 (by kernel_rfl) rfl #[.int .i64 a0] rfl (by (try simp only [List.map_toArray, List.map_cons, List.map_nil]); first | done | rfl | (simp only [List.length_drop, List.length_take]; rfl)) ?_; (with_reducible refine (spec_PointAt.calls k a0 t103 t104 _ A2.out).mono ?_); rintro e w' ⟨rfl, ⟨nd, rfl⟩⟩; refine ⟨_, rfl, ?_⟩) | ((with_reducible refine gate_callee (f := 37) rfl ?_); refine goesL_ (some 14) rfl rfl Try.func37 (by kernel_rfl) rfl #[.int .i64 a0] rfl (by (try simp only [List.map_toArray, List.map_cons, List.map_nil]); first | done | rfl | (simp only [List.length_drop, List.length_take]; rfl)) ?_; (with_reducible refine (impl_PointAt.calls k a0 t105 t106 _ A3.out).mono ?_); rintro e w' ⟨rfl, ⟨nd, rfl⟩⟩; refine ⟨_, rfl, ?_⟩))
      go_ret
      exact ⟨by first | rfl | (simp; done) | (simp [*]; done), by repeat (first | exact Drawn0.refl _ | apply Drawn0.step)⟩
  · rw [if_neg c4] at H
    have c4b0 : (t105 == t103) = false := beq_eq_false_iff_ne.mpr c4
    have c4b1 : (t105 != t103) = true := bne_iff_ne.mpr c4
    obtain rfl := Option.some.inj H
    go_enter Try.func11, Try.ntmps11
    go_wp2_with (first | ((with_reducible refine gate_callee (f := 36) rfl ?_); refine goesL_ (some 9) rfl rfl Try.func36 (by kernel_rfl) rfl #[.int .i64 a0] rfl (by (try simp only [List.map_toArray, List.map_cons, List.map_nil]); first | done | rfl | (simp only [List.length_drop, List.length_take]; rfl)) ?_; (with_reducible refine (spec_PointAt.calls k a0 t103 t104 _ A2.out).mono ?_); rintro e w' ⟨rfl, ⟨nd, rfl⟩⟩; refine ⟨_, rfl, ?_⟩) | ((with_reducible refine gate_callee (f := 37) rfl ?_); refine goesL_ (some 14) rfl rfl Try.func37 (by kernel_rfl) rfl #[.int .i64 a0] rfl (by (try simp only [List.map_toArray, List.map_cons, List.map_nil]); first | done | rfl | (simp only [List.length_drop, List.length_take]; rfl)) ?_; (with_reducible refine (impl_PointAt.calls k a0 t105 t106 _ A3.out).mono ?_); rintro e w' ⟨rfl, ⟨nd, rfl⟩⟩; refine ⟨_, rfl, ?_⟩))
    go_ret
    exact ⟨by first | rfl | (simp; done) | (simp [*]; done), by repeat (first | exact Drawn0.refl _ | apply Drawn0.step)⟩

/-- THE ONE PURE STATEMENT of laws_FnExactPointAt: yours. -/
def laws_FnExactPointAt.Pure : Prop := ∀ (a0 : Int), (Lit.int .i64 a0).wf = true → ∃ k, laws_FnExactPointAt.f k a0 = some true
theorem laws_FnExactPointAt.walk (P : laws_FnExactPointAt.Pure) (a0 : Int) (w : World) (w0 : (Lit.int .i64 a0).wf = true) :
    Calls Try.prog 11 #[.int .i64 a0] w fun e w' => e = .returned (.bool true) ∧ Below w.heap.size w w' := by
  obtain ⟨k, h⟩ := P a0 w0
  refine (laws_FnExactPointAt.calls k a0 true w h).mono ?_
  rintro e w' ⟨rfl, hd⟩
  exact ⟨rfl, hd.below⟩

end Go.Proofs.Ytdeffkhkhpjodaa.PFnExactPointAt
