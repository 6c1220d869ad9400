-- Written by a program of this session; Lean checks it.
import Derived.Test.YtfgmngfhchfaaaaPFnExactByKeyx0
import Derived.Test.YtfgmngfhchfaaaaPFnExactByKeyx3
namespace Go.Proofs.Ytfgmngfhchfaaaa.PFnExactByKey
open Go.RowKit Go.Proofs.YtfgmngfhchfaaaaW.PrintWords Go.Proofs.YtfgmngfhchfaaaaW.PrintLast Go.Proofs.YtfgmngfhchfaaaaW.PrintMore
attribute [local go_sem] max2_int min2_int max_two min_two max_three min_three max_four min_four   -- for this text's walks alone
set_option linter.unusedVariables false
set_option linter.unusedSimpArgs false

/-! ### impl_Item_79: function 79 -/
theorem goesV_ {P : Program} {ops : Array Oper} {Q : Exit → Act → World → Prop} {oi : Oper} {N : Option Tmp} {a : Act} {w : World} {K : Act → World → Prop} {f : FuncId} {fn : Func} {c : Operand} {ags : Array Operand} {ts : Array TypeId} (hf : P.funcs[f]? = some fn) (hname : (fn.name == "runtime.NumGoroutine") = false) (hb : fn.body.isSome = true) (args : Array Value)
  (hw : Region.wanted oi (yielded ops a.tmps) = true) (hN : oi.dst = N) (hop : oi.op = .call { callee := .value c, args := ags, argTypes := ts }) (hargs : ags.map a.eval = args)
  (h : Calls P f args w fun e w' => ∃ v, e = .returned v ∧ K (a.put N v) w') (hc : a.eval c = .func (.func f) #[] #[] := by rfl) : if Region.wanted oi (yielded ops a.tmps) = true then Oper.wp P oi a w K Q else K (a.put N undef) w := by
 refine call_ f args hw hN ?_ h
 have he := enters_ hf hname hb args w
 unfold execOp
 simp [hop, resolve, Deferred.ofValue, invoke, hargs, he, hc]
mutual
def impl_Item_79.l0 : Nat → List (S55) → Int → Int → Int → Option ((List (S55)))
 | 0, _, _, _, _ => none
 | k + 1, x0, x1, x2, x8 => if x8 < x2 then (impl_Item_79.l1 k x0 x1 x2 x8 x8) else (some x0)
def impl_Item_79.l1 : Nat → List (S55) → Int → Int → Int → Int → Option ((List (S55)))
 | 0, _, _, _, _, _ => none
 | k + 1, x0, x1, x2, x8, x9 => if x9 > x1 then (if 0 ≤ x9 then (if x9 < (x0.length : Int) then (if 0 ≤ (wrap64 (x9 - 1)) then (if (wrap64 (x9 - 1)) < (x0.length : Int) then ((impl_order.f k ((rd_T55 x0 x9).f0) ((rd_T55 x0 x9).f1.f0) ((rd_T55 x0 x9).f1.f1) ((rd_T55 x0 x9).f1.f2) ((rd_T55 x0 x9).f1.f3) ((rd_T55 x0 (wrap64 (x9 - 1))).f0) ((rd_T55 x0 (wrap64 (x9 - 1))).f1.f0) ((rd_T55 x0 (wrap64 (x9 - 1))).f1.f1) ((rd_T55 x0 (wrap64 (x9 - 1))).f1.f2) ((rd_T55 x0 (wrap64 (x9 - 1))).f1.f3)).bind fun t198 => (if t198 < 0 then (if x9 = (wrap64 (x9 - 1)) then none else (impl_Item_79.l1 k ((x0.set (x9 : Int).toNat (⟨(rd_T55 x0 (wrap64 (x9 - 1))).f0, (⟨(rd_T55 x0 (wrap64 (x9 - 1))).f1.f0, (rd_T55 x0 (wrap64 (x9 - 1))).f1.f1, (rd_T55 x0 (wrap64 (x9 - 1))).f1.f2, (rd_T55 x0 (wrap64 (x9 - 1))).f1.f3⟩ : S41)⟩ : S55)).set ((wrap64 (x9 - 1)) : Int).toNat (⟨(rd_T55 x0 x9).f0, (⟨(rd_T55 x0 x9).f1.f0, (rd_T55 x0 x9).f1.f1, (rd_T55 x0 x9).f1.f2, (rd_T55 x0 x9).f1.f3⟩ : S41)⟩ : S55)) x1 x2 x8 (wrap64 (x9 - 1)))) else (impl_Item_79.l0 k x0 x1 x2 (wrap64 (x8 + 1))))) else (none)) else (none)) else (none)) else (none)) else (impl_Item_79.l0 k x0 x1 x2 (wrap64 (x8 + 1)))
end
def impl_Item_79.f (k : Nat) (l0 : List (S55)) (a1 : Int) (a2 : Int) : Option ((List (S55))) := impl_Item_79.l0 k l0 a1 a2 (wrap64 (a1 + 1))
theorem impl_Item_79.mono_l : ∀ k, (∀ y0 y1 y2 y3, LeO (impl_Item_79.l0 k y0 y1 y2 y3) (impl_Item_79.l0 (k + 1) y0 y1 y2 y3)) ∧ (∀ y0 y1 y2 y3 y4, LeO (impl_Item_79.l1 k y0 y1 y2 y3 y4) (impl_Item_79.l1 (k + 1) y0 y1 y2 y3 y4))
 | 0 => ⟨fun _ _ _ _ r h => by simp [impl_Item_79.l0] at h, fun _ _ _ _ _ r h => by simp [impl_Item_79.l1] at h⟩
 | k + 1 => by
  obtain ⟨ih0, ih1⟩ := impl_Item_79.mono_l k
  refine ⟨?_, ?_⟩
  ·intro y0 y1 y2 y3
   unfold impl_Item_79.l0
   repeat' first
   | (with_reducible exact ih0 _ _ _ _)
   | (with_reducible exact ih1 _ _ _ _ _)
   | (with_reducible exact impl_order.mono _ _ _ _ _ _ _ _ _ _ _)
   | (with_reducible exact LeO.refl _)
   | (with_reducible exact LeO.none _)
   | (with_reducible refine LeO.ite ?_ ?_)
   | (with_reducible refine LeO.bind ?_ (fun _ => ?_))
   | exact ih0 _ _ _ _
   | exact ih1 _ _ _ _ _
   | exact impl_order.mono _ _ _ _ _ _ _ _ _ _ _
   | exact LeO.none _
   | refine LeO.ite ?_ ?_
   | refine LeO.bind ?_ (fun _ => ?_)
  ·intro y0 y1 y2 y3 y4
   unfold impl_Item_79.l1
   repeat' first
   | (with_reducible exact ih0 _ _ _ _)
   | (with_reducible exact ih1 _ _ _ _ _)
   | (with_reducible exact impl_order.mono _ _ _ _ _ _ _ _ _ _ _)
   | (with_reducible exact LeO.refl _)
   | (with_reducible exact LeO.none _)
   | (with_reducible refine LeO.ite ?_ ?_)
   | (with_reducible refine LeO.bind ?_ (fun _ => ?_))
   | exact ih0 _ _ _ _
   | exact ih1 _ _ _ _ _
   | exact impl_order.mono _ _ _ _ _ _ _ _ _ _ _
   | exact LeO.none _
   | refine LeO.ite ?_ ?_
   | refine LeO.bind ?_ (fun _ => ?_)
theorem impl_Item_79.mono : ∀ a0 a1 a2 k, LeO (impl_Item_79.f k a0 a1 a2) (impl_Item_79.f (k + 1) a0 a1 a2) := by
 intro a0 a1 a2 k
 obtain ⟨ih0, ih1⟩ := impl_Item_79.mono_l k
 unfold impl_Item_79.f
 repeat' first
   | (with_reducible exact ih0 _ _ _ _)
   | (with_reducible exact ih1 _ _ _ _ _)
   | (with_reducible exact impl_order.mono _ _ _ _ _ _ _ _ _ _ _)
   | (with_reducible exact LeO.refl _)
   | (with_reducible exact LeO.none _)
   | (with_reducible refine LeO.ite ?_ ?_)
   | (with_reducible refine LeO.bind ?_ (fun _ => ?_))
   | exact ih0 _ _ _ _
   | exact ih1 _ _ _ _ _
   | exact impl_order.mono _ _ _ _ _ _ _ _ _ _ _
   | exact LeO.none _
   | refine LeO.ite ?_ ?_
   | refine LeO.bind ?_ (fun _ => ?_)
def impl_Item_79.T4 : Bool × List (List Nat × List Nat) := (true, [([], []), ([], []), ([0, 1], [0, 1]), ([2], [2]), ([3], [3]), ([3], [3]), ([3], [3]), ([5, 6, 3], [3, 5, 6]), ([7, 3], [3, 7]), ([3], [3]), ([3], [3]), ([10, 3], [3, 10]), ([9, 11, 3], [3, 9, 11]), ([12, 3], [3, 12]), ([4, 8, 13, 3, 3], [3, 4, 8, 13]), ([14, 3], [3, 14]), ([3, 15], [3, 15])])
def impl_Item_79.B4 : List Nat := [0, 0, 3, 7, 15, 15, 15, 111, 239, 15, 15, 1039, 3599, 7695, 16383, 32767, 65535]
theorem impl_Item_79.tab4 : rtab .any (opsOf Try.f79 4) = impl_Item_79.T4 := by kernel_rfl
theorem impl_Item_79.bits4 : waitsOk impl_Item_79.T4.2 impl_Item_79.B4 = true := by kernel_rfl
def impl_Item_79.T6 : Bool × List (List Nat × List Nat) := (true, [([], []), ([], []), ([], []), ([], []), ([3], [3]), ([], []), ([], []), ([6], [6]), ([5, 7], [5, 7]), ([8], [8]), ([], []), ([], []), ([10, 11], [10, 11]), ([12], [12]), ([0, 1, 0, 1, 5, 6, 7, 8, 9, 13], [0, 1]), ([14, 9, 0, 1, 5, 6, 7, 8, 9, 13], [9, 14]), ([2, 4, 0, 1, 2, 3, 4, 5, 6, 7, 8, 9, 10, 11, 12, 13, 14, 15], [2, 4]), ([16, 13, 15, 0, 1, 2, 3, 4, 5, 6, 7, 8, 9, 10, 11, 12, 13, 14, 15], [13, 16])])
def impl_Item_79.B6 : List Nat := [0, 0, 0, 0, 8, 0, 0, 64, 224, 480, 0, 0, 3072, 7168, 16355, 32739, 65535, 131071]
theorem impl_Item_79.tab6 : rtab .any (opsOf Try.f79 6) = impl_Item_79.T6 := by kernel_rfl
theorem impl_Item_79.bits6 : waitsOk impl_Item_79.T6.2 impl_Item_79.B6 = true := by kernel_rfl
set_option maxHeartbeats 8000000 in
set_option maxRecDepth 100000 in
theorem impl_Item_79.calls (k : Nat) (P0_ : Nat → Prop) (u9000_ : Value) (l0 : List (S55)) (a1 : Int) (a2 : Int) (r : List (S55)) (w0 w : World) (hB : Below w0.heap.size w0 w) (ho0 : Kd.R k55 55 w w0.heap.size P0_ u9000_ l0) (h : impl_Item_79.f k l0 a1 a2 = some r) :
  Calls Try.prog 79 #[u9000_, .int .i64 a1, .int .i64 a2, .func (.func 33) #[] #[]] w fun e w' => e = .returned (.tuple #[]) ∧ Kd.R k55 55 w' w0.heap.size (fun k_ => (P0_ k_ ∨ w.heap.size ≤ k_)) u9000_ r ∧ Below w0.heap.size w0 w' ∧ Kept w w' (fun k_ => P0_ k_) := by
 have hu55 := Try.underlying55
 have HO0 := Aside0.mk (show Kd.R k55 55 w w0.heap.size (fun k_ => (P0_ k_ ∨ w.heap.size ≤ k_)) u9000_ l0 from Kd.R_mono ho0 (fun k_ hk => (.inl hk)))
 have HK := Aside0.mk (Kept.refl w (fun k_ => P0_ k_))
 have HW0 := Aside0.mk hB.size
 have HB := Aside0.mk hB
 clear hB
 have H : (impl_Item_79.l0 k l0 a1 a2 (wrap64 (a1 + 1))) = some r := h
 clear h
 have H' := Aside0.mk H
 clear H
 go_enter Try.func79, Try.ntmps79
 go_wp2
 go_loopg [8] k (fun kq v8 w' => ∃ (x0_1 : List (S55)) (x8_1 : Int), v8 = .int .i64 x8_1 ∧ Aside0 (impl_Item_79.l0 kq x0_1 a1 a2 x8_1 = some r) ∧ Aside0 (kq ≤ k) ∧ Aside0 (Kd.R k55 55 w' w0.heap.size (fun k_ => (P0_ k_ ∨ w.heap.size ≤ k_)) u9000_ x0_1) ∧ Aside0 (Kept w w' (fun k_ => P0_ k_)) ∧ Aside0 (Below w0.heap.size w0 w'))
 case atStart => exact ⟨(l0), (wrap64 (a1 + 1)), (by first | rfl | (simp; done) | (simp [*]; done)), H', ⟨Nat.le_refl _⟩, ⟨by (with_reducible repeat (first | apply Kd.R_alloc | apply Kd.R_drewN | apply Kd.R_drew)); exact HO0.out⟩, ⟨by repeat (first | (with_reducible first | exact HK.out | apply Kept.alloc | apply Kept.drewN | apply Kept.drew) | exact HK.out)⟩, ⟨by repeat (first | (with_reducible first | exact HB.out | apply below_alloc | apply pw_below_drewN | apply below_drew1) | exact HB.out)⟩⟩
 case round =>
  clear H'
  try clear p2
  obtain ⟨x0_1, x8_1, rfl, HA, HK1, HO_0, HK, HB⟩ := hrel
  cases gk with
  | zero => exact absurd HA.out (by simp [impl_Item_79.l0])
  | succ k1 =>
   have H := HA.out
   clear HA
   simp only [impl_Item_79.l0] at H
   by_cases c4 : x8_1 < a2
   ·rw [if_pos c4] at H
    have c4b0 : decide (x8_1 < a2) = true := decide_eq_true c4
    clear c4
    have H' := Aside0.mk H
    clear H
    go_wp2
    go_loopg [9] k1 (fun kq v9 w' => ∃ (x0_2 : List (S55)) (x9_2 : Int), v9 = .int .i64 x9_2 ∧ Aside0 (impl_Item_79.l1 kq x0_2 a1 a2 x8_1 x9_2 = some r) ∧ Aside0 (kq ≤ k1) ∧ Aside0 (Kd.R k55 55 w' w0.heap.size (fun k_ => (P0_ k_ ∨ w.heap.size ≤ k_)) u9000_ x0_2) ∧ Aside0 (Kept w w' (fun k_ => P0_ k_)) ∧ Aside0 (Below w0.heap.size w0 w'))
    case atStart => exact ⟨(x0_1), (x8_1), (by first | rfl | (simp; done) | (simp [*]; done)), H', ⟨Nat.le_refl _⟩, ⟨by (with_reducible repeat (first | apply Kd.R_alloc | apply Kd.R_drewN | apply Kd.R_drew)); exact HO_0.out⟩, ⟨by repeat (first | (with_reducible first | exact HK.out | apply Kept.alloc | apply Kept.drewN | apply Kept.drew) | exact HK.out)⟩, ⟨by repeat (first | (with_reducible first | exact HB.out | apply below_alloc | apply pw_below_drewN | apply below_drew1) | exact HB.out)⟩⟩
    case round =>
     clear H'
     try clear p2
     try clear c4
     try clear c4b0
     try clear p2
     obtain ⟨x0_2, x9_2, rfl, HA, HK2, HO_0, HK, HB⟩ := hrel
     cases gk with
     | zero => exact absurd HA.out (by simp [impl_Item_79.l1])
     | succ k2 =>
      have H := HA.out
      clear HA
      simp only [impl_Item_79.l1] at H
      by_cases c5 : x9_2 > a1
      ·rw [if_pos c5] at H
       have c5b0 : decide (a1 < x9_2) = true := decide_eq_true c5
       clear c5
       by_cases c6 : 0 ≤ x9_2
       ·rw [if_pos c6] at H
        have c6b0 : decide (0 ≤ x9_2) = true := decide_eq_true c6
        clear c6
        by_cases c7 : x9_2 < (x0_2.length : Int)
        ·rw [if_pos c7] at H
         have c7b0 : decide (x9_2 < (x0_2.length : Int)) = true := decide_eq_true c7
         clear c7
         obtain ⟨ji8, hji8⟩ : ∃ j_ : Int, (wrap64 (x9_2 - 1)) = j_ := ⟨_, rfl⟩
         replace H : (if 0 ≤ (ji8) then (if (ji8) < (x0_2.length : Int) then ((impl_order.f k2 ((rd_T55 x0_2 x9_2).f0) ((rd_T55 x0_2 x9_2).f1.f0) ((rd_T55 x0_2 x9_2).f1.f1) ((rd_T55 x0_2 x9_2).f1.f2) ((rd_T55 x0_2 x9_2).f1.f3) ((rd_T55 x0_2 (ji8)).f0) ((rd_T55 x0_2 (ji8)).f1.f0) ((rd_T55 x0_2 (ji8)).f1.f1) ((rd_T55 x0_2 (ji8)).f1.f2) ((rd_T55 x0_2 (ji8)).f1.f3)).bind fun t198 => (if t198 < 0 then (if x9_2 = (ji8) then none else (impl_Item_79.l1 k2 ((x0_2.set (x9_2 : Int).toNat (⟨(rd_T55 x0_2 (ji8)).f0, (⟨(rd_T55 x0_2 (ji8)).f1.f0, (rd_T55 x0_2 (ji8)).f1.f1, (rd_T55 x0_2 (ji8)).f1.f2, (rd_T55 x0_2 (ji8)).f1.f3⟩ : S41)⟩ : S55)).set ((ji8) : Int).toNat (⟨(rd_T55 x0_2 x9_2).f0, (⟨(rd_T55 x0_2 x9_2).f1.f0, (rd_T55 x0_2 x9_2).f1.f1, (rd_T55 x0_2 x9_2).f1.f2, (rd_T55 x0_2 x9_2).f1.f3⟩ : S41)⟩ : S55)) a1 a2 x8_1 ji8)) else (impl_Item_79.l0 k2 x0_2 a1 a2 (wrap64 (x8_1 + 1))))) else (none)) else (none)) = some r := by first | (rw [hji8] at H; exact H) | (simp only [hji8] at H ⊢; exact H)
         have hji8w : (IntKind.i64.wrap (x9_2 - 1)) = ji8 := (i64_w _).trans hji8
         by_cases c9 : 0 ≤ (ji8)
         ·rw [if_pos c9] at H
          have c9b0 : decide (0 ≤ (ji8)) = true := decide_eq_true c9
          clear c9
          by_cases c10 : (ji8) < (x0_2.length : Int)
          ·rw [if_pos c10] at H
           have c10b0 : decide ((ji8) < (x0_2.length : Int)) = true := decide_eq_true c10
           clear c10
           replace H := Option.bind_eq_some_iff.mp H
           obtain ⟨t198, A110, H⟩ := H
           replace H : (if t198 < 0 then (if x9_2 = (ji8) then none else (impl_Item_79.l1 k2 ((x0_2.set (x9_2 : Int).toNat (⟨(rd_T55 x0_2 (ji8)).f0, (⟨(rd_T55 x0_2 (ji8)).f1.f0, (rd_T55 x0_2 (ji8)).f1.f1, (rd_T55 x0_2 (ji8)).f1.f2, (rd_T55 x0_2 (ji8)).f1.f3⟩ : S41)⟩ : S55)).set ((ji8) : Int).toNat (⟨(rd_T55 x0_2 x9_2).f0, (⟨(rd_T55 x0_2 x9_2).f1.f0, (rd_T55 x0_2 x9_2).f1.f1, (rd_T55 x0_2 x9_2).f1.f2, (rd_T55 x0_2 x9_2).f1.f3⟩ : S41)⟩ : S55)) a1 a2 x8_1 ji8)) else (impl_Item_79.l0 k2 x0_2 a1 a2 (wrap64 (x8_1 + 1)))) = some r := H
           have A11 := Aside0.mk A110
           clear A110
           by_cases c12 : t198 < 0
           ·rw [if_pos c12] at H
            have c12b0 : decide (t198 < 0) = true := decide_eq_true c12
            clear c12
            by_cases hne_ : x9_2 = (ji8)
            ·rw [if_pos hne_] at H; exact absurd H (by simp)
            rw [if_neg hne_] at H
            have hn0_ : 0 ≤ (x9_2 : Int) := of_decide_eq_true (by first | (with_reducible assumption) | assumption)
            have hn1_ : 0 ≤ ((ji8) : Int) := of_decide_eq_true (by first | (with_reducible assumption) | assumption)
            have hnA_ : ((x9_2 : Int).toNat = ((ji8) : Int).toNat) = False := eq_false (by omega)
            have hnB_ : (((ji8) : Int).toNat = (x9_2 : Int).toNat) = False := eq_false (by omega)
            have hnA0_ : ((x9_2 : Int).toNat * 5 = ((ji8) : Int).toNat * 5) = False := eq_false (by omega)
            have hnB0_ : (((ji8) : Int).toNat * 5 = (x9_2 : Int).toNat * 5) = False := eq_false (by omega)
            have hnA1_ : ((x9_2 : Int).toNat * 5 + 1 = ((ji8) : Int).toNat * 5 + 1) = False := eq_false (by omega)
            have hnB1_ : (((ji8) : Int).toNat * 5 + 1 = (x9_2 : Int).toNat * 5 + 1) = False := eq_false (by omega)
            have hnA2_ : ((x9_2 : Int).toNat * 5 + 2 = ((ji8) : Int).toNat * 5 + 2) = False := eq_false (by omega)
            have hnB2_ : (((ji8) : Int).toNat * 5 + 2 = (x9_2 : Int).toNat * 5 + 2) = False := eq_false (by omega)
            have hnA3_ : ((x9_2 : Int).toNat * 5 + 3 = ((ji8) : Int).toNat * 5 + 3) = False := eq_false (by omega)
            have hnB3_ : (((ji8) : Int).toNat * 5 + 3 = (x9_2 : Int).toNat * 5 + 3) = False := eq_false (by omega)
            have hnA4_ : ((x9_2 : Int).toNat * 5 + 4 = ((ji8) : Int).toNat * 5 + 4) = False := eq_false (by omega)
            have hnB4_ : (((ji8) : Int).toNat * 5 + 4 = (x9_2 : Int).toNat * 5 + 4) = False := eq_false (by omega)
            clear hn0_ hn1_ hne_
            obtain ⟨y201, hy201⟩ : ∃ y_ : List (S55), y_ = (x0_2.set (x9_2 : Int).toNat (⟨(rd_T55 x0_2 (ji8)).f0, (⟨(rd_T55 x0_2 (ji8)).f1.f0, (rd_T55 x0_2 (ji8)).f1.f1, (rd_T55 x0_2 (ji8)).f1.f2, (rd_T55 x0_2 (ji8)).f1.f3⟩ : S41)⟩ : S55)) := ⟨_, rfl⟩
            replace H : (impl_Item_79.l1 k2 (y201.set ((ji8) : Int).toNat (⟨(rd_T55 x0_2 x9_2).f0, (⟨(rd_T55 x0_2 x9_2).f1.f0, (rd_T55 x0_2 x9_2).f1.f1, (rd_T55 x0_2 x9_2).f1.f2, (rd_T55 x0_2 x9_2).f1.f3⟩ : S41)⟩ : S55)) a1 a2 x8_1 ji8) = some r := by first | (rw [hy201]; with_reducible exact H) | (have H2_ := (Option.bind_some _ _).symm.trans H; rw [hy201]; with_reducible exact H2_) | (have H2_ := (Option.bind_some _ _).symm.trans H; with_reducible exact H2_) | with_reducible exact H | (rw [hy201]; exact H) | exact H
            have Ny201 := Aside0.mk hy201
            clear hy201
            obtain ⟨y202, hy202⟩ : ∃ y_ : List (S55), y_ = (y201.set ((ji8) : Int).toNat (⟨(rd_T55 x0_2 x9_2).f0, (⟨(rd_T55 x0_2 x9_2).f1.f0, (rd_T55 x0_2 x9_2).f1.f1, (rd_T55 x0_2 x9_2).f1.f2, (rd_T55 x0_2 x9_2).f1.f3⟩ : S41)⟩ : S55)) := ⟨_, rfl⟩
            replace H : (impl_Item_79.l1 k2 y202 a1 a2 x8_1 ji8) = some r := by first | (rw [hy202]; with_reducible exact H) | (have H2_ := (Option.bind_some _ _).symm.trans H; rw [hy202]; with_reducible exact H2_) | (have H2_ := (Option.bind_some _ _).symm.trans H; with_reducible exact H2_) | with_reducible exact H | (rw [hy202]; exact H) | exact H
            have Ny202 := Aside0.mk hy202
            clear hy202
            have H' := Aside0.mk H
            clear H
            try go_wp2
            have n0_ := Aside0.mk (Kd.R_drew HO_0.out)
            have n1_ := Aside0.mk (Kept.drew HK.out)
            have n2_ := Aside0.mk (below_drew1 HB.out)
            clear HO_0
            clear HK
            clear HB
            have HO_0 := n0_
            have HK := n1_
            have HB := n2_
            clear n0_ n1_ n2_
            obtain ⟨Ao16, co16, eo16⟩ := Kd.R_slice HO_0.out
            (first | subst eo16 | (injection eo16 with f1_ f2_ f3_; have f4_ := f1_.symm; have f5_ := f3_.symm; clear f1_ f2_ f3_; subst f4_; subst f5_))
            have p196 : 0 ≤ (x9_2 : Int) := of_decide_eq_true (by first | (with_reducible assumption) | assumption)
            have q196 : x9_2 < (x0_2.length : Int) := of_decide_eq_true (by first | (with_reducible assumption) | assumption)
            obtain ⟨ad196, e196, hx196_0, hx196_1, hx196_2, hx196_3, hx196_4⟩ := at_T55 (Kd.R_reads' HO_0.out).2.2 x9_2 p196 q196
            cases e196
            replace p196 := eq_true p196
            replace q196 := eq_true q196
            have p197 : 0 ≤ ((ji8) : Int) := of_decide_eq_true (by first | (with_reducible assumption) | assumption)
            have q197 : (ji8) < (x0_2.length : Int) := of_decide_eq_true (by first | (with_reducible assumption) | assumption)
            obtain ⟨ad197, e197, hx197_0, hx197_1, hx197_2, hx197_3, hx197_4⟩ := at_T55 (Kd.R_reads' HO_0.out).2.2 (ji8) p197 q197
            obtain rfl : ad196 = ad197 := (by injection e197)
            replace p197 := eq_true p197
            replace q197 := eq_true q197
            refine start_ (n := 17) (S := fun w' => w'.cell? (ad196.add ((x9_2).toNat * 5)) = some (.int .i64 ((rd_T55 x0_2 x9_2).f0)) ∧ w'.cell? ⟨(ad196.add ((x9_2).toNat * 5)).block, (ad196.add ((x9_2).toNat * 5)).off + 1, none⟩ = some (.int .i64 ((rd_T55 x0_2 x9_2).f1.f0)) ∧ w'.cell? ⟨(ad196.add ((x9_2).toNat * 5)).block, (ad196.add ((x9_2).toNat * 5)).off + 2, none⟩ = some (.int .i64 ((rd_T55 x0_2 x9_2).f1.f1)) ∧ w'.cell? ⟨(ad196.add ((x9_2).toNat * 5)).block, (ad196.add ((x9_2).toNat * 5)).off + 3, none⟩ = some (.int .i64 ((rd_T55 x0_2 x9_2).f1.f2)) ∧ w'.cell? ⟨(ad196.add ((x9_2).toNat * 5)).block, (ad196.add ((x9_2).toNat * 5)).off + 4, none⟩ = some (.int .i64 ((rd_T55 x0_2 x9_2).f1.f3)) ∧ w'.cell? (ad196.add (((ji8)).toNat * 5)) = some (.int .i64 ((rd_T55 x0_2 (ji8)).f0)) ∧ w'.cell? ⟨(ad196.add (((ji8)).toNat * 5)).block, (ad196.add (((ji8)).toNat * 5)).off + 1, none⟩ = some (.int .i64 ((rd_T55 x0_2 (ji8)).f1.f0)) ∧ w'.cell? ⟨(ad196.add (((ji8)).toNat * 5)).block, (ad196.add (((ji8)).toNat * 5)).off + 2, none⟩ = some (.int .i64 ((rd_T55 x0_2 (ji8)).f1.f1)) ∧ w'.cell? ⟨(ad196.add (((ji8)).toNat * 5)).block, (ad196.add (((ji8)).toNat * 5)).off + 3, none⟩ = some (.int .i64 ((rd_T55 x0_2 (ji8)).f1.f2)) ∧ w'.cell? ⟨(ad196.add (((ji8)).toNat * 5)).block, (ad196.add (((ji8)).toNat * 5)).off + 4, none⟩ = some (.int .i64 ((rd_T55 x0_2 (ji8)).f1.f3))) (ds := []) #[false, false, false, false, false, false, false, false, false, false, false, false, false, false, false, false, false] (by kernel_rfl) rfl rfl ⟨hx196_0, hx196_1, hx196_2, hx196_3, hx196_4, hx197_0, hx197_1, hx197_2, hx197_3, hx197_4⟩ (fun hHeld => ?_); refine with_tabW impl_Item_79.tab4 impl_Item_79.bits4 (fun HT_ HW_ => ?_)
            generalize wr.drew = w15 at HO_0 HK HB hx196_0 hx196_1 hx196_2 hx196_3 hx196_4 hx197_0 hx197_1 hx197_2 hx197_3 hx197_4 hHeld ⊢
            refine pure_ (i := 0) (N := some 18) (v := ?_) (a' := ?_) #[true, false, false, false, false, false, false, false, false, false, false, false, false, false, false, false, false] rfl rfl (any_of HT_.out (by kernel_rfl)) (fun _ _ _ h => h) (Or.inl ⟨by rfl, ?_⟩) ?_ ?_
            rotate_left
            ·intro w'
             go_simp
             with_reducible rfl
            rotate_left
            ·simp only [Act.put, List.setIfInBounds_toArray, List.set_cons_zero, List.set_cons_succ, i64_w, i32_w]
             rfl
            refine pure_ (i := 1) (N := some 19) (v := ?_) (a' := ?_) #[true, true, false, false, false, false, false, false, false, false, false, false, false, false, false, false, false] rfl rfl (any_of HT_.out (by kernel_rfl)) (fun _ _ _ h => h) (Or.inl ⟨by rfl, ?_⟩) ?_ ?_
            rotate_left
            ·intro w'
             go_simp
             with_reducible rfl
            rotate_left
            ·simp only [Act.put, List.setIfInBounds_toArray, List.set_cons_zero, List.set_cons_succ, i64_w, i32_w]
             rfl
            refine pure_ (i := 2) (N := some 20) (v := ?_) (a' := ?_) #[true, true, true, false, false, false, false, false, false, false, false, false, false, false, false, false, false] rfl rfl (any_of HT_.out (by kernel_rfl)) (fun _ _ _ h => h) (Or.inl ⟨by rfl, ?_⟩) ?_ ?_
            rotate_left
            ·intro w'
             go_simp
             with_reducible rfl
            rotate_left
            ·simp only [Act.put, List.setIfInBounds_toArray, List.set_cons_zero, List.set_cons_succ, i64_w, i32_w]
             rfl
            refine pure_ (i := 3) (N := some 21) (v := ?_) (a' := ?_) #[true, true, true, true, false, false, false, false, false, false, false, false, false, false, false, false, false] rfl rfl (any_of HT_.out (by kernel_rfl)) (fun _ _ _ h => h) (Or.inl ⟨by rfl, ?_⟩) ?_ ?_
            rotate_left
            ·intro w'
             go_simp
             with_reducible rfl
            rotate_left
            ·simp only [Act.put, List.setIfInBounds_toArray, List.set_cons_zero, List.set_cons_succ, i64_w, i32_w]
             rfl
            refine pure_ (i := 4) (N := some 22) (v := ?_) (a' := ?_) #[true, true, true, true, true, false, false, false, false, false, false, false, false, false, false, false, false] rfl rfl (any_of HT_.out (by kernel_rfl)) (fun _ _ _ h => h) (Or.inl ⟨by rfl, ?_⟩) ?_ ?_
            rotate_left
            ·intro w'
             go_simp
             with_reducible rfl
            rotate_left
            ·simp only [Act.put, List.setIfInBounds_toArray, List.set_cons_zero, List.set_cons_succ, i64_w, i32_w]
             rfl
            refine pure_ (i := 5) (N := some 23) (v := ?_) (a' := ?_) #[true, true, true, true, true, true, false, false, false, false, false, false, false, false, false, false, false] rfl rfl (any_of HT_.out (by kernel_rfl)) (fun _ _ _ h => h) (Or.inl ⟨by rfl, ?_⟩) ?_ ?_
            rotate_left
            ·intro w'
             go_simp
             with_reducible rfl
            rotate_left
            ·simp only [Act.put, List.setIfInBounds_toArray, List.set_cons_zero, List.set_cons_succ, i64_w, i32_w]
             rfl
            refine pure_ (i := 6) (N := some 24) (v := ?_) (a' := ?_) #[true, true, true, true, true, true, true, false, false, false, false, false, false, false, false, false, false] rfl rfl (any_of HT_.out (by kernel_rfl)) (fun _ _ _ h => h) (Or.inl ⟨by rfl, ?_⟩) ?_ ?_
            rotate_left
            ·intro w'
             go_simp
             with_reducible rfl
            rotate_left
            ·simp only [Act.put, List.setIfInBounds_toArray, List.set_cons_zero, List.set_cons_succ, i64_w, i32_w]
             rfl
            refine pure_ (i := 7) (N := some 25) (v := ?_) (a' := ?_) #[true, true, true, true, true, true, true, true, false, false, false, false, false, false, false, false, false] rfl rfl (any_of HT_.out (by kernel_rfl)) (fun _ _ _ h => h) (Or.inl ⟨by rfl, ?_⟩) ?_ ?_
            rotate_left
            ·intro w'
             go_simp
             with_reducible rfl
            rotate_left
            ·simp only [Act.put, List.setIfInBounds_toArray, List.set_cons_zero, List.set_cons_succ, i64_w, i32_w]
             rfl
            refine pure_ (i := 9) (N := some 27) (v := ?_) (a' := ?_) #[true, true, true, true, true, true, true, true, false, true, false, false, false, false, false, false, false] rfl rfl (any_of HT_.out (by kernel_rfl)) (fun _ _ _ h => h) (Or.inl ⟨by rfl, ?_⟩) ?_ ?_
            rotate_left
            ·intro w'
             go_simp
             with_reducible rfl
            rotate_left
            ·simp only [Act.put, List.setIfInBounds_toArray, List.set_cons_zero, List.set_cons_succ, i64_w, i32_w]
             rfl
            refine pure_ (i := 10) (N := some 28) (v := ?_) (a' := ?_) #[true, true, true, true, true, true, true, true, false, true, true, false, false, false, false, false, false] rfl rfl (any_of HT_.out (by kernel_rfl)) (fun _ _ _ h => h) (Or.inl ⟨by rfl, ?_⟩) ?_ ?_
            rotate_left
            ·intro w'
             go_simp
             with_reducible rfl
            rotate_left
            ·simp only [Act.put, List.setIfInBounds_toArray, List.set_cons_zero, List.set_cons_succ, i64_w, i32_w]
             rfl
            refine pure_ (i := 11) (N := some 29) (v := ?_) (a' := ?_) #[true, true, true, true, true, true, true, true, false, true, true, true, false, false, false, false, false] rfl rfl (any_of HT_.out (by kernel_rfl)) (fun _ _ _ h => h) (Or.inl ⟨by rfl, ?_⟩) ?_ ?_
            rotate_left
            ·intro w'
             go_simp
             with_reducible rfl
            rotate_left
            ·simp only [Act.put, List.setIfInBounds_toArray, List.set_cons_zero, List.set_cons_succ, i64_w, i32_w]
             rfl
            refine pure_ (i := 12) (N := some 30) (v := ?_) (a' := ?_) #[true, true, true, true, true, true, true, true, false, true, true, true, true, false, false, false, false] rfl rfl (any_of HT_.out (by kernel_rfl)) (fun _ _ _ h => h) (Or.inl ⟨by rfl, ?_⟩) ?_ ?_
            rotate_left
            ·intro w'
             go_simp
             with_reducible rfl
            rotate_left
            ·simp only [Act.put, List.setIfInBounds_toArray, List.set_cons_zero, List.set_cons_succ, i64_w, i32_w]
             rfl
            refine take_ (i := 8) (N := some 26) (v := ?_) (a' := ?_) #[true, true, true, true, true, true, true, true, true, true, true, true, true, false, false, false, false] rfl rfl (take_ofW HT_.out HW_.out (by kernel_rfl)) (fun _ _ _ h => h) (Or.inl ⟨by rfl, ?_⟩) hHeld ?_ ?_
            rotate_left
            ·rintro w' ⟨s0, s1, s2, s3, s4, s5, s6, s7, s8, s9⟩
             go_simp
             with_reducible rfl
            rotate_left
            ·simp only [Act.put, List.setIfInBounds_toArray, List.set_cons_zero, List.set_cons_succ, i64_w, i32_w]
             rfl
            refine take_ (i := 13) (N := some 31) (v := ?_) (a' := ?_) #[true, true, true, true, true, true, true, true, true, true, true, true, true, true, false, false, false] rfl rfl (take_ofW HT_.out HW_.out (by kernel_rfl)) (fun _ _ _ h => h) (Or.inl ⟨by rfl, ?_⟩) hHeld ?_ ?_
            rotate_left
            ·rintro w' ⟨s0, s1, s2, s3, s4, s5, s6, s7, s8, s9⟩
             go_simp
             with_reducible rfl
            rotate_left
            ·simp only [Act.put, List.setIfInBounds_toArray, List.set_cons_zero, List.set_cons_succ, i64_w, i32_w]
             rfl
            refine one_ (i := 14) (N := some 32) #[true, true, true, true, true, true, true, true, true, true, true, true, true, true, true, false, false] rfl rfl (one_of HT_.out (by kernel_rfl)) (by decide) (fun K hK => ?_)
            refine goesV_ Try.func33 (by kernel_rfl) rfl #[.agg #[.int .i64 ((rd_T55 x0_2 x9_2).f0), .int .i64 ((rd_T55 x0_2 x9_2).f1.f0), .int .i64 ((rd_T55 x0_2 x9_2).f1.f1), .int .i64 ((rd_T55 x0_2 x9_2).f1.f2), .int .i64 ((rd_T55 x0_2 x9_2).f1.f3)], .agg #[.int .i64 ((rd_T55 x0_2 (ji8)).f0), .int .i64 ((rd_T55 x0_2 (ji8)).f1.f0), .int .i64 ((rd_T55 x0_2 (ji8)).f1.f1), .int .i64 ((rd_T55 x0_2 (ji8)).f1.f2), .int .i64 ((rd_T55 x0_2 (ji8)).f1.f3)]] (by rfl) rfl rfl (by (try simp only [List.map_toArray, List.map_cons, List.map_nil]); first | done | (simp only [hji8]; rfl) | rfl | (simp only [List.length_drop, List.length_take]; rfl)) ?_
            with_reducible refine (impl_order.calls k2 ((rd_T55 x0_2 x9_2).f0) ((rd_T55 x0_2 x9_2).f1.f0) ((rd_T55 x0_2 x9_2).f1.f1) ((rd_T55 x0_2 x9_2).f1.f2) ((rd_T55 x0_2 x9_2).f1.f3) ((rd_T55 x0_2 (ji8)).f0) ((rd_T55 x0_2 (ji8)).f1.f0) ((rd_T55 x0_2 (ji8)).f1.f1) ((rd_T55 x0_2 (ji8)).f1.f2) ((rd_T55 x0_2 (ji8)).f1.f3) t198 _ A11.out).mono ?_
            rintro e w17 ⟨rfl, hb⟩
            have HS0_ := (hb.cell (World.block_lt_of_cell? _ _ (hHeld.1))).trans (hHeld.1)
            have HS1_ := (hb.cell (World.block_lt_of_cell? _ _ (hHeld.2.1))).trans (hHeld.2.1)
            have HS2_ := (hb.cell (World.block_lt_of_cell? _ _ (hHeld.2.2.1))).trans (hHeld.2.2.1)
            have HS3_ := (hb.cell (World.block_lt_of_cell? _ _ (hHeld.2.2.2.1))).trans (hHeld.2.2.2.1)
            have HS4_ := (hb.cell (World.block_lt_of_cell? _ _ (hHeld.2.2.2.2.1))).trans (hHeld.2.2.2.2.1)
            have HS5_ := (hb.cell (World.block_lt_of_cell? _ _ (hHeld.2.2.2.2.2.1))).trans (hHeld.2.2.2.2.2.1)
            have HS6_ := (hb.cell (World.block_lt_of_cell? _ _ (hHeld.2.2.2.2.2.2.1))).trans (hHeld.2.2.2.2.2.2.1)
            have HS7_ := (hb.cell (World.block_lt_of_cell? _ _ (hHeld.2.2.2.2.2.2.2.1))).trans (hHeld.2.2.2.2.2.2.2.1)
            have HS8_ := (hb.cell (World.block_lt_of_cell? _ _ (hHeld.2.2.2.2.2.2.2.2.1))).trans (hHeld.2.2.2.2.2.2.2.2.1)
            have HS9_ := (hb.cell (World.block_lt_of_cell? _ _ (hHeld.2.2.2.2.2.2.2.2.2))).trans (hHeld.2.2.2.2.2.2.2.2.2)
            refine ⟨_, rfl, ?_⟩
            have n0_ := Aside0.mk (Kd.R_below (by (with_reducible repeat (first | apply Kd.R_alloc | apply Kd.R_drewN | apply Kd.R_drew)); exact HO_0.out) hb)
            have n1_ := Aside0.mk (Kept.below (S := (fun k_ => P0_ k_)) (by repeat (first | (with_reducible first | exact HK.out | apply Kept.alloc | apply Kept.drewN | apply Kept.drew) | exact HK.out)) hb)
            have n2_ := Aside0.mk (below_step (by repeat (first | (with_reducible first | exact HB.out | apply below_alloc | apply pw_below_drewN | apply below_drew1) | exact HB.out)) hb)
            clear HO_0
            clear HK
            clear HB
            have HO_0 := n0_
            have HK := n1_
            have HB := n2_
            clear n0_ n1_ n2_
            (try clear hb)
            (try clear hb2)
            (try clear hk)
            (try clear hi)
            refine hK.out _ _ ⟨HS0_, HS1_, HS2_, HS3_, HS4_, HS5_, HS6_, HS7_, HS8_, HS9_⟩ (fun hHeld => ?_)
            clear hK K
            refine norm_ (a' := ?_) ?_ ?_
            rotate_left
            ·show Act.put _ (some 32) _ = _
             simp only [Act.put, List.setIfInBounds_toArray, List.set_cons_zero, List.set_cons_succ, i64_w, i32_w]
             rfl
            refine pure_ (i := 15) (N := some 33) (v := ?_) (a' := ?_) #[true, true, true, true, true, true, true, true, true, true, true, true, true, true, true, true, false] rfl rfl (any_of HT_.out (by kernel_rfl)) (fun _ _ _ h => h) (Or.inl ⟨by rfl, ?_⟩) ?_ ?_
            rotate_left
            ·intro w'
             go_simp
             with_reducible rfl
            rotate_left
            ·simp only [Act.put, List.setIfInBounds_toArray, List.set_cons_zero, List.set_cons_succ, i64_w, i32_w]
             rfl
            refine pure_ (i := 16) (N := some 34) (v := ?_) (a' := ?_) #[true, true, true, true, true, true, true, true, true, true, true, true, true, true, true, true, true] rfl rfl (any_of HT_.out (by kernel_rfl)) (fun _ _ _ h => h) (Or.inl ⟨by rfl, ?_⟩) ?_ ?_
            rotate_left
            ·intro w'
             go_simp
             with_reducible rfl
            rotate_left
            ·simp only [Act.put, List.setIfInBounds_toArray, List.set_cons_zero, List.set_cons_succ, i64_w, i32_w]
             rfl
            refine done_ (done_of HT_.out (by kernel_rfl)) ?_
            try go_wp2
            have n0_ := Aside0.mk (Kd.R_drew HO_0.out)
            have n1_ := Aside0.mk (Kept.drew HK.out)
            have n2_ := Aside0.mk (below_drew1 HB.out)
            clear HO_0
            clear HK
            clear HB
            have HO_0 := n0_
            have HK := n1_
            have HB := n2_
            clear n0_ n1_ n2_
            have p199 : 0 ≤ ((ji8) : Int) := of_decide_eq_true (by first | (with_reducible assumption) | assumption)
            have q199 : (ji8) < (x0_2.length : Int) := of_decide_eq_true (by first | (with_reducible assumption) | assumption)
            obtain ⟨ad199, e199, hx199_0, hx199_1, hx199_2, hx199_3, hx199_4⟩ := at_T55 (Kd.R_reads' HO_0.out).2.2 (ji8) p199 q199
            obtain rfl : ad196 = ad199 := (by injection e199)
            replace p199 := eq_true p199
            replace q199 := eq_true q199
            have p200 : 0 ≤ (x9_2 : Int) := of_decide_eq_true (by first | (with_reducible assumption) | assumption)
            have q200 : x9_2 < (x0_2.length : Int) := of_decide_eq_true (by first | (with_reducible assumption) | assumption)
            obtain ⟨ad200, e200, hx200_0, hx200_1, hx200_2, hx200_3, hx200_4⟩ := at_T55 (Kd.R_reads' HO_0.out).2.2 x9_2 p200 q200
            obtain rfl : ad196 = ad200 := (by injection e200)
            replace p200 := eq_true p200
            replace q200 := eq_true q200
            have p13 : 0 ≤ (x9_2 : Int) := of_decide_eq_true (by first | (with_reducible assumption) | assumption)
            have q13 : (x9_2 : Int) < ((x0_2.length : Int) : Int) := of_decide_eq_true (by first | (with_reducible assumption) | assumption)
            obtain ⟨go13, co13, eo13, gb13, gl13, cl13, HG13⟩ := Kd.R_form HO_0.out (by omega)
            (first | cases eo13 | (injection eo13 with ea_ en_ ec_; (first | subst ea_ | (injection ea_ with ea_; subst ea_)); subst ec_; clear en_))
            have GB13 := Aside0.mk gb13
            have GG13 := Aside0.mk HG13
            clear gb13 gl13 HG13
            have HMgo13 := Aside0.mk (show (P0_ go13 ∨ w.heap.size ≤ go13) from (HO_0.out.1 _ rfl))
            (first | simp only [add_plain] at hx196_0 | skip)
            (first | simp only [add_plain] at hx196_1 | skip)
            (first | simp only [add_plain] at hx196_2 | skip)
            (first | simp only [add_plain] at hx196_3 | skip)
            (first | simp only [add_plain] at hx196_4 | skip)
            (first | simp only [add_plain] at hx197_0 | skip)
            (first | simp only [add_plain] at hx197_1 | skip)
            (first | simp only [add_plain] at hx197_2 | skip)
            (first | simp only [add_plain] at hx197_3 | skip)
            (first | simp only [add_plain] at hx197_4 | skip)
            (first | simp only [add_plain] at hx199_0 | skip)
            (first | simp only [add_plain] at hx199_1 | skip)
            (first | simp only [add_plain] at hx199_2 | skip)
            (first | simp only [add_plain] at hx199_3 | skip)
            (first | simp only [add_plain] at hx199_4 | skip)
            (first | simp only [add_plain] at hx200_0 | skip)
            (first | simp only [add_plain] at hx200_1 | skip)
            (first | simp only [add_plain] at hx200_2 | skip)
            (first | simp only [add_plain] at hx200_3 | skip)
            (first | simp only [add_plain] at hx200_4 | skip)
            obtain ⟨ce13, hcl13, hM13, hcc13, hfr13⟩ := Kd.R_elem HO_0.out z55 (x9_2 : Int) p13 q13
            obtain rfl := k55_openM hM13
            have hx13_0 : World.cell? _ ⟨go13, (x9_2 : Int).toNat * 5, none⟩ = some (.int .i64 ((rd_T55 x0_2 x9_2).f0)) := hcc13 0 _ rfl
            have hx13_1 : World.cell? _ ⟨go13, (x9_2 : Int).toNat * 5 + 1, none⟩ = some (.int .i64 ((rd_T55 x0_2 x9_2).f1.f0)) := hcc13 1 _ rfl
            have hx13_2 : World.cell? _ ⟨go13, (x9_2 : Int).toNat * 5 + 2, none⟩ = some (.int .i64 ((rd_T55 x0_2 x9_2).f1.f1)) := hcc13 2 _ rfl
            have hx13_3 : World.cell? _ ⟨go13, (x9_2 : Int).toNat * 5 + 3, none⟩ = some (.int .i64 ((rd_T55 x0_2 x9_2).f1.f2)) := hcc13 3 _ rfl
            have hx13_4 : World.cell? _ ⟨go13, (x9_2 : Int).toNat * 5 + 4, none⟩ = some (.int .i64 ((rd_T55 x0_2 x9_2).f1.f3)) := hcc13 4 _ rfl
            have hf13_0 : World.frozen? _ ⟨go13, (x9_2 : Int).toNat * 5, none⟩ = false := hfr13 0
            have hf13_1 : World.frozen? _ ⟨go13, (x9_2 : Int).toNat * 5 + 1, none⟩ = false := hfr13 1
            have hf13_2 : World.frozen? _ ⟨go13, (x9_2 : Int).toNat * 5 + 2, none⟩ = false := hfr13 2
            have hf13_3 : World.frozen? _ ⟨go13, (x9_2 : Int).toNat * 5 + 3, none⟩ = false := hfr13 3
            have hf13_4 : World.frozen? _ ⟨go13, (x9_2 : Int).toNat * 5 + 4, none⟩ = false := hfr13 4
            clear hcl13 hcc13 hfr13 hM13
            replace p13 := eq_true p13
            replace q13 := eq_true q13
            obtain ⟨ce19, hcl19, hM19, hcc19, hfr19⟩ := Kd.R_elem HO_0.out z55 (x9_2 : Int) (of_decide_eq_true (by first | (with_reducible assumption) | assumption)) (by have h_ : (x9_2 : Int) < ((x0_2.length : Int) : Int) := of_decide_eq_true (by first | (with_reducible assumption) | assumption); first | exact h_ | (have e_ := (Kd.R_reads' HO_0.out).1; omega) | simpa using h_)
            obtain rfl := k55_openM hM19
            have HP19 := (Kd.R_seg HO_0.out (x9_2 : Int) (of_decide_eq_true (by first | (with_reducible assumption) | assumption)) (by have h_ : (x9_2 : Int) < ((x0_2.length : Int) : Int) := of_decide_eq_true (by first | (with_reducible assumption) | assumption); first | exact h_ | (have e_ := (Kd.R_reads' HO_0.out).1; omega) | simpa using h_) (seg := [.int .i64 ((rd_T55 x0_2 (ji8)).f0), .int .i64 ((rd_T55 x0_2 (ji8)).f1.f0), .int .i64 ((rd_T55 x0_2 (ji8)).f1.f1), .int .i64 ((rd_T55 x0_2 (ji8)).f1.f2), .int .i64 ((rd_T55 x0_2 (ji8)).f1.f3)]) (j := 0) hcl19 hcc19 (show 5 ≤ 5 from by decide) (x' := (⟨(rd_T55 x0_2 (ji8)).f0, (⟨(rd_T55 x0_2 (ji8)).f1.f0, (rd_T55 x0_2 (ji8)).f1.f1, (rd_T55 x0_2 (ji8)).f1.f2, (rd_T55 x0_2 (ji8)).f1.f3⟩ : S41)⟩ : S55)) (k55_mkM _ _ _ (⟨(rd_T55 x0_2 (ji8)).f0, (⟨(rd_T55 x0_2 (ji8)).f1.f0, (rd_T55 x0_2 (ji8)).f1.f1, (rd_T55 x0_2 (ji8)).f1.f2, (rd_T55 x0_2 (ji8)).f1.f3⟩ : S41)⟩ : S55) ) (fun _ hk => hk)).1
            rw [← Ny201.out] at HP19
            have HQ19 := Aside0.mk HP19
            clear hcl19 hcc19 hfr19 hM19 HP19
            have p14 : 0 ≤ ((ji8) : Int) := of_decide_eq_true (by first | (with_reducible assumption) | assumption)
            have q14 : ((ji8) : Int) < ((x0_2.length : Int) : Int) := of_decide_eq_true (by first | (with_reducible assumption) | assumption)
            obtain ⟨ce14, hcl14, hM14, hcc14, hfr14⟩ := Kd.R_elem HQ19.out z55 ((ji8) : Int) p14 q14
            obtain rfl := k55_openM hM14
            have hx14_0 : World.cell? _ ⟨go13, ((ji8) : Int).toNat * 5, none⟩ = some (.int .i64 ((rd_T55 y201 (ji8)).f0)) := hcc14 0 _ rfl
            have hx14_1 : World.cell? _ ⟨go13, ((ji8) : Int).toNat * 5 + 1, none⟩ = some (.int .i64 ((rd_T55 y201 (ji8)).f1.f0)) := hcc14 1 _ rfl
            have hx14_2 : World.cell? _ ⟨go13, ((ji8) : Int).toNat * 5 + 2, none⟩ = some (.int .i64 ((rd_T55 y201 (ji8)).f1.f1)) := hcc14 2 _ rfl
            have hx14_3 : World.cell? _ ⟨go13, ((ji8) : Int).toNat * 5 + 3, none⟩ = some (.int .i64 ((rd_T55 y201 (ji8)).f1.f2)) := hcc14 3 _ rfl
            have hx14_4 : World.cell? _ ⟨go13, ((ji8) : Int).toNat * 5 + 4, none⟩ = some (.int .i64 ((rd_T55 y201 (ji8)).f1.f3)) := hcc14 4 _ rfl
            have hf14_0 : World.frozen? _ ⟨go13, ((ji8) : Int).toNat * 5, none⟩ = false := hfr14 0
            have hf14_1 : World.frozen? _ ⟨go13, ((ji8) : Int).toNat * 5 + 1, none⟩ = false := hfr14 1
            have hf14_2 : World.frozen? _ ⟨go13, ((ji8) : Int).toNat * 5 + 2, none⟩ = false := hfr14 2
            have hf14_3 : World.frozen? _ ⟨go13, ((ji8) : Int).toNat * 5 + 3, none⟩ = false := hfr14 3
            have hf14_4 : World.frozen? _ ⟨go13, ((ji8) : Int).toNat * 5 + 4, none⟩ = false := hfr14 4
            clear hcl14 hcc14 hfr14 hM14
            replace p14 := eq_true p14
            replace q14 := eq_true q14
            obtain ⟨ce20, hcl20, hM20, hcc20, hfr20⟩ := Kd.R_elem HQ19.out z55 ((ji8) : Int) (of_decide_eq_true (by first | (with_reducible assumption) | assumption)) (by have h_ : ((ji8) : Int) < ((x0_2.length : Int) : Int) := of_decide_eq_true (by first | (with_reducible assumption) | assumption); first | exact h_ | (have e_ := (Kd.R_reads' HO_0.out).1; omega) | simpa using h_)
            obtain rfl := k55_openM hM20
            have HP20 := (Kd.R_seg HQ19.out ((ji8) : Int) (of_decide_eq_true (by first | (with_reducible assumption) | assumption)) (by have h_ : ((ji8) : Int) < ((x0_2.length : Int) : Int) := of_decide_eq_true (by first | (with_reducible assumption) | assumption); first | exact h_ | (have e_ := (Kd.R_reads' HO_0.out).1; omega) | simpa using h_) (seg := [.int .i64 ((rd_T55 x0_2 x9_2).f0), .int .i64 ((rd_T55 x0_2 x9_2).f1.f0), .int .i64 ((rd_T55 x0_2 x9_2).f1.f1), .int .i64 ((rd_T55 x0_2 x9_2).f1.f2), .int .i64 ((rd_T55 x0_2 x9_2).f1.f3)]) (j := 0) hcl20 hcc20 (show 5 ≤ 5 from by decide) (x' := (⟨(rd_T55 x0_2 x9_2).f0, (⟨(rd_T55 x0_2 x9_2).f1.f0, (rd_T55 x0_2 x9_2).f1.f1, (rd_T55 x0_2 x9_2).f1.f2, (rd_T55 x0_2 x9_2).f1.f3⟩ : S41)⟩ : S55)) (k55_mkM _ _ _ (⟨(rd_T55 x0_2 x9_2).f0, (⟨(rd_T55 x0_2 x9_2).f1.f0, (rd_T55 x0_2 x9_2).f1.f1, (rd_T55 x0_2 x9_2).f1.f2, (rd_T55 x0_2 x9_2).f1.f3⟩ : S41)⟩ : S55) ) (fun _ hk => hk)).1
            rw [← Ny202.out] at HP20
            have HQ20 := Aside0.mk HP20
            clear hcl20 hcc20 hfr20 hM20 HP20
            obtain ⟨ceZ_, hclZ_, hMZ_, hccZ_, hfrZ_⟩ := Kd.R_elem HO_0.out z55 ((ji8) : Int) (of_eq_true p14) (of_eq_true q14)
            have hfZ0_ : World.frozen? _ ⟨go13, ((ji8) : Int).toNat * 5, none⟩ = false := hfrZ_ 0
            have hfZ1_ : World.frozen? _ ⟨go13, ((ji8) : Int).toNat * 5 + 1, none⟩ = false := hfrZ_ 1
            have hfZ2_ : World.frozen? _ ⟨go13, ((ji8) : Int).toNat * 5 + 2, none⟩ = false := hfrZ_ 2
            have hfZ3_ : World.frozen? _ ⟨go13, ((ji8) : Int).toNat * 5 + 3, none⟩ = false := hfrZ_ 3
            have hfZ4_ : World.frozen? _ ⟨go13, ((ji8) : Int).toNat * 5 + 4, none⟩ = false := hfrZ_ 4
            clear hclZ_ hccZ_ hfrZ_ hMZ_
            refine start_ (n := 18) (S := fun w' => w'.cell? ⟨go13, (((ji8)).toNat * 5), none⟩ = some (.int .i64 ((rd_T55 x0_2 (ji8)).f0)) ∧ w'.cell? ⟨go13, (((ji8)).toNat * 5) + 1, none⟩ = some (.int .i64 ((rd_T55 x0_2 (ji8)).f1.f0)) ∧ w'.cell? ⟨go13, (((ji8)).toNat * 5) + 2, none⟩ = some (.int .i64 ((rd_T55 x0_2 (ji8)).f1.f1)) ∧ w'.cell? ⟨go13, (((ji8)).toNat * 5) + 3, none⟩ = some (.int .i64 ((rd_T55 x0_2 (ji8)).f1.f2)) ∧ w'.cell? ⟨go13, (((ji8)).toNat * 5) + 4, none⟩ = some (.int .i64 ((rd_T55 x0_2 (ji8)).f1.f3)) ∧ w'.cell? ⟨go13, ((x9_2).toNat * 5), none⟩ = some (.int .i64 ((rd_T55 x0_2 x9_2).f0)) ∧ w'.cell? ⟨go13, ((x9_2).toNat * 5) + 1, none⟩ = some (.int .i64 ((rd_T55 x0_2 x9_2).f1.f0)) ∧ w'.cell? ⟨go13, ((x9_2).toNat * 5) + 2, none⟩ = some (.int .i64 ((rd_T55 x0_2 x9_2).f1.f1)) ∧ w'.cell? ⟨go13, ((x9_2).toNat * 5) + 3, none⟩ = some (.int .i64 ((rd_T55 x0_2 x9_2).f1.f2)) ∧ w'.cell? ⟨go13, ((x9_2).toNat * 5) + 4, none⟩ = some (.int .i64 ((rd_T55 x0_2 x9_2).f1.f3))) (ds := [15, 17]) #[false, false, false, false, false, false, false, false, false, false, false, false, false, false, false, false, false, false] (by kernel_rfl) rfl rfl ⟨hx199_0, hx199_1, hx199_2, hx199_3, hx199_4, hx200_0, hx200_1, hx200_2, hx200_3, hx200_4⟩ (fun hHeld => ?_); refine with_tabW impl_Item_79.tab6 impl_Item_79.bits6 (fun HT_ HW_ => ?_)
            generalize w17.drew = w18 at HO_0 HK HB GG13 HQ19 HQ20 hf13_0 hf13_1 hf13_2 hf13_3 hf13_4 hf14_0 hf14_1 hf14_2 hf14_3 hf14_4 hx13_0 hx13_1 hx13_2 hx13_3 hx13_4 hx14_0 hx14_1 hx14_2 hx14_3 hx14_4 hx196_0 hx196_1 hx196_2 hx196_3 hx196_4 hx197_0 hx197_1 hx197_2 hx197_3 hx197_4 hx199_0 hx199_1 hx199_2 hx199_3 hx199_4 hx200_0 hx200_1 hx200_2 hx200_3 hx200_4 hfZ0_ hfZ1_ hfZ2_ hfZ3_ hfZ4_ hHeld ⊢
            refine pure_ (i := 0) (N := some 37) (v := ?_) (a' := ?_) #[true, false, false, false, false, false, false, false, false, false, false, false, false, false, false, false, false, false] rfl rfl (any_of HT_.out (by kernel_rfl)) (fun _ _ _ h => h) (Or.inl ⟨by rfl, ?_⟩) ?_ ?_
            rotate_left
            ·intro w'
             go_simp
             with_reducible rfl
            rotate_left
            ·simp only [Act.put, List.setIfInBounds_toArray, List.set_cons_zero, List.set_cons_succ, i64_w, i32_w]
             rfl
            refine pure_ (i := 1) (N := some 38) (v := ?_) (a' := ?_) #[true, true, false, false, false, false, false, false, false, false, false, false, false, false, false, false, false, false] rfl rfl (any_of HT_.out (by kernel_rfl)) (fun _ _ _ h => h) (Or.inl ⟨by rfl, ?_⟩) ?_ ?_
            rotate_left
            ·intro w'
             go_simp
             with_reducible rfl
            rotate_left
            ·simp only [Act.put, List.setIfInBounds_toArray, List.set_cons_zero, List.set_cons_succ, i64_w, i32_w]
             rfl
            refine pure_ (i := 2) (N := some 39) (v := ?_) (a' := ?_) #[true, true, true, false, false, false, false, false, false, false, false, false, false, false, false, false, false, false] rfl rfl (any_of HT_.out (by kernel_rfl)) (fun _ _ _ h => h) (Or.inl ⟨by rfl, ?_⟩) ?_ ?_
            rotate_left
            ·intro w'
             go_simp
             with_reducible rfl
            rotate_left
            ·simp only [Act.put, List.setIfInBounds_toArray, List.set_cons_zero, List.set_cons_succ, i64_w, i32_w]
             rfl
            refine pure_ (i := 3) (N := some 40) (v := ?_) (a' := ?_) #[true, true, true, true, false, false, false, false, false, false, false, false, false, false, false, false, false, false] rfl rfl (any_of HT_.out (by kernel_rfl)) (fun _ _ _ h => h) (Or.inl ⟨by rfl, ?_⟩) ?_ ?_
            rotate_left
            ·intro w'
             go_simp
             with_reducible rfl
            rotate_left
            ·simp only [Act.put, List.setIfInBounds_toArray, List.set_cons_zero, List.set_cons_succ, i64_w, i32_w]
             rfl
            refine pure_ (i := 4) (N := some 41) (v := ?_) (a' := ?_) #[true, true, true, true, true, false, false, false, false, false, false, false, false, false, false, false, false, false] rfl rfl (any_of HT_.out (by kernel_rfl)) (fun _ _ _ h => h) (Or.inl ⟨by rfl, ?_⟩) ?_ ?_
            rotate_left
            ·intro w'
             go_simp
             with_reducible rfl
            rotate_left
            ·simp only [Act.put, List.setIfInBounds_toArray, List.set_cons_zero, List.set_cons_succ, i64_w, i32_w]
             rfl
            refine pure_ (i := 5) (N := some 42) (v := ?_) (a' := ?_) #[true, true, true, true, true, true, false, false, false, false, false, false, false, false, false, false, false, false] rfl rfl (any_of HT_.out (by kernel_rfl)) (fun _ _ _ h => h) (Or.inl ⟨by rfl, ?_⟩) ?_ ?_
            rotate_left
            ·intro w'
             go_simp
             with_reducible rfl
            rotate_left
            ·simp only [Act.put, List.setIfInBounds_toArray, List.set_cons_zero, List.set_cons_succ, i64_w, i32_w]
             rfl
            refine pure_ (i := 6) (N := some 43) (v := ?_) (a' := ?_) #[true, true, true, true, true, true, true, false, false, false, false, false, false, false, false, false, false, false] rfl rfl (any_of HT_.out (by kernel_rfl)) (fun _ _ _ h => h) (Or.inl ⟨by rfl, ?_⟩) ?_ ?_
            rotate_left
            ·intro w'
             go_simp
             with_reducible rfl
            rotate_left
            ·simp only [Act.put, List.setIfInBounds_toArray, List.set_cons_zero, List.set_cons_succ, i64_w, i32_w]
             rfl
            refine pure_ (i := 7) (N := some 44) (v := ?_) (a' := ?_) #[true, true, true, true, true, true, true, true, false, false, false, false, false, false, false, false, false, false] rfl rfl (any_of HT_.out (by kernel_rfl)) (fun _ _ _ h => h) (Or.inl ⟨by rfl, ?_⟩) ?_ ?_
            rotate_left
            ·intro w'
             go_simp
             with_reducible rfl
            rotate_left
            ·simp only [Act.put, List.setIfInBounds_toArray, List.set_cons_zero, List.set_cons_succ, i64_w, i32_w]
             rfl
            refine pure_ (i := 8) (N := some 45) (v := ?_) (a' := ?_) #[true, true, true, true, true, true, true, true, true, false, false, false, false, false, false, false, false, false] rfl rfl (any_of HT_.out (by kernel_rfl)) (fun _ _ _ h => h) (Or.inl ⟨by rfl, ?_⟩) ?_ ?_
            rotate_left
            ·intro w'
             go_simp
             with_reducible rfl
            rotate_left
            ·simp only [Act.put, List.setIfInBounds_toArray, List.set_cons_zero, List.set_cons_succ, i64_w, i32_w]
             rfl
            refine pure_ (i := 10) (N := some 47) (v := ?_) (a' := ?_) #[true, true, true, true, true, true, true, true, true, false, true, false, false, false, false, false, false, false] rfl rfl (any_of HT_.out (by kernel_rfl)) (fun _ _ _ h => h) (Or.inl ⟨by rfl, ?_⟩) ?_ ?_
            rotate_left
            ·intro w'
             go_simp
             with_reducible rfl
            rotate_left
            ·simp only [Act.put, List.setIfInBounds_toArray, List.set_cons_zero, List.set_cons_succ, i64_w, i32_w]
             rfl
            refine pure_ (i := 11) (N := some 48) (v := ?_) (a' := ?_) #[true, true, true, true, true, true, true, true, true, false, true, true, false, false, false, false, false, false] rfl rfl (any_of HT_.out (by kernel_rfl)) (fun _ _ _ h => h) (Or.inl ⟨by rfl, ?_⟩) ?_ ?_
            rotate_left
            ·intro w'
             go_simp
             with_reducible rfl
            rotate_left
            ·simp only [Act.put, List.setIfInBounds_toArray, List.set_cons_zero, List.set_cons_succ, i64_w, i32_w]
             rfl
            refine pure_ (i := 12) (N := some 49) (v := ?_) (a' := ?_) #[true, true, true, true, true, true, true, true, true, false, true, true, true, false, false, false, false, false] rfl rfl (any_of HT_.out (by kernel_rfl)) (fun _ _ _ h => h) (Or.inl ⟨by rfl, ?_⟩) ?_ ?_
            rotate_left
            ·intro w'
             go_simp
             with_reducible rfl
            rotate_left
            ·simp only [Act.put, List.setIfInBounds_toArray, List.set_cons_zero, List.set_cons_succ, i64_w, i32_w]
             rfl
            refine take_ (i := 9) (N := some 46) (v := ?_) (a' := ?_) #[true, true, true, true, true, true, true, true, true, true, true, true, true, false, false, false, false, false] rfl rfl (take_ofW HT_.out HW_.out (by kernel_rfl)) (fun _ _ _ h => h) (Or.inl ⟨by rfl, ?_⟩) hHeld ?_ ?_
            rotate_left
            ·rintro w' ⟨s0, s1, s2, s3, s4, s5, s6, s7, s8, s9⟩
             go_simp
             with_reducible rfl
            rotate_left
            ·simp only [Act.put, List.setIfInBounds_toArray, List.set_cons_zero, List.set_cons_succ, i64_w, i32_w]
             rfl
            refine take_ (i := 13) (N := some 50) (v := ?_) (a' := ?_) #[true, true, true, true, true, true, true, true, true, true, true, true, true, true, false, false, false, false] rfl rfl (take_ofW HT_.out HW_.out (by kernel_rfl)) (fun _ _ _ h => h) (Or.inl ⟨by rfl, ?_⟩) hHeld ?_ ?_
            rotate_left
            ·rintro w' ⟨s0, s1, s2, s3, s4, s5, s6, s7, s8, s9⟩
             go_simp
             with_reducible rfl
            rotate_left
            ·simp only [Act.put, List.setIfInBounds_toArray, List.set_cons_zero, List.set_cons_succ, i64_w, i32_w]
             rfl
            refine pure_ (i := 14) (N := some 51) (v := ?_) (a' := ?_) #[true, true, true, true, true, true, true, true, true, true, true, true, true, true, true, false, false, false] rfl rfl (any_of HT_.out (by kernel_rfl)) (fun _ _ _ h => h) (Or.inl ⟨by rfl, ?_⟩) ?_ ?_
            rotate_left
            ·intro w'
             go_simp
             with_reducible rfl
            rotate_left
            ·simp only [Act.put, List.setIfInBounds_toArray, List.set_cons_zero, List.set_cons_succ, i64_w, i32_w]
             rfl
            refine last_ (i := 15) (N := none) #[true, true, true, true, true, true, true, true, true, true, true, true, true, true, true, true, false, false] rfl rfl (one_of HT_.out (by kernel_rfl)) (by decide) (fun K hK => ?_)
            refine skip_ (w1 := ?_) (by rfl) rfl ?_ ?_
            rotate_left
            ·go_simp
             rfl
            refine hK.out _ _ ?_
            clear hK K
            refine pure_ (i := 16) (N := some 52) (v := ?_) (a' := ?_) #[true, true, true, true, true, true, true, true, true, true, true, true, true, true, true, true, true, false] rfl rfl (any_of HT_.out (by kernel_rfl)) (fun _ _ _ h => h) (Or.inl ⟨by rfl, ?_⟩) ?_ ?_
            rotate_left
            ·intro w'
             go_simp
             with_reducible rfl
            rotate_left
            ·simp only [Act.put, List.setIfInBounds_toArray, List.set_cons_zero, List.set_cons_succ, i64_w, i32_w]
             rfl
            refine last_ (i := 17) (N := none) #[true, true, true, true, true, true, true, true, true, true, true, true, true, true, true, true, true, true] rfl rfl (one_of HT_.out (by kernel_rfl)) (by decide) (fun K hK => ?_)
            refine skip_ (w1 := ?_) (by rfl) rfl ?_ ?_
            rotate_left
            ·go_simp
             rfl
            refine hK.out _ _ ?_
            clear hK K
            refine done_ (done_of HT_.out (by kernel_rfl)) ?_
            try go_wp2
            go_roundg k2
            case measure => have := HK1.out; have := HK2.out; omega
            case rel => exact ⟨(y202), (ji8), (by first | rfl | (simp; done) | (simp only [← hji8] <;> (first | rfl | simp)) | (simp [*]; done)), H', ⟨by have := HK1.out; have := HK2.out; omega⟩, ⟨by (with_reducible repeat (first | apply Kd.R_alloc | apply Kd.R_drewN | apply Kd.R_drew)); exact HQ20.out⟩, ⟨by repeat (first | (with_reducible first | exact HK.out | apply Kept.alloc | apply Kept.drewN | apply Kept.drew | refine Kept.setCell ?_ HMgo13.out _ | refine Kept.setCell ?_ HMgo13.out _ | refine Kept.setCell ?_ HMgo13.out _ | refine Kept.setCell ?_ HMgo13.out _ | refine Kept.setCell ?_ HMgo13.out _ | refine Kept.setCell ?_ HMgo13.out _ | refine Kept.setCell ?_ HMgo13.out _ | refine Kept.setCell ?_ HMgo13.out _ | refine Kept.setCell ?_ HMgo13.out _ | refine Kept.setCell ?_ HMgo13.out _) | exact HK.out)⟩, ⟨by repeat (first | (with_reducible first | exact HB.out | apply below_alloc | apply pw_below_drewN | apply below_drew1 | refine below_set ?_ GB13.out | refine below_set ?_ GB13.out | refine below_set ?_ GB13.out | refine below_set ?_ GB13.out | refine below_set ?_ GB13.out | refine below_set ?_ GB13.out | refine below_set ?_ GB13.out | refine below_set ?_ GB13.out | refine below_set ?_ GB13.out | refine below_set ?_ GB13.out) | exact HB.out)⟩⟩
           ·rw [if_neg c12] at H
            have c12b0 : decide (t198 < 0) = false := decide_eq_false c12
            clear c12
            have H' := Aside0.mk H
            clear H
            try go_wp2
            have n0_ := Aside0.mk (Kd.R_drew HO_0.out)
            have n1_ := Aside0.mk (Kept.drew HK.out)
            have n2_ := Aside0.mk (below_drew1 HB.out)
            clear HO_0
            clear HK
            clear HB
            have HO_0 := n0_
            have HK := n1_
            have HB := n2_
            clear n0_ n1_ n2_
            obtain ⟨Ao22, co22, eo22⟩ := Kd.R_slice HO_0.out
            (first | subst eo22 | (injection eo22 with f1_ f2_ f3_; have f4_ := f1_.symm; have f5_ := f3_.symm; clear f1_ f2_ f3_; subst f4_; subst f5_))
            have p196 : 0 ≤ (x9_2 : Int) := of_decide_eq_true (by first | (with_reducible assumption) | assumption)
            have q196 : x9_2 < (x0_2.length : Int) := of_decide_eq_true (by first | (with_reducible assumption) | assumption)
            obtain ⟨ad196, e196, hx196_0, hx196_1, hx196_2, hx196_3, hx196_4⟩ := at_T55 (Kd.R_reads' HO_0.out).2.2 x9_2 p196 q196
            cases e196
            replace p196 := eq_true p196
            replace q196 := eq_true q196
            have p197 : 0 ≤ ((ji8) : Int) := of_decide_eq_true (by first | (with_reducible assumption) | assumption)
            have q197 : (ji8) < (x0_2.length : Int) := of_decide_eq_true (by first | (with_reducible assumption) | assumption)
            obtain ⟨ad197, e197, hx197_0, hx197_1, hx197_2, hx197_3, hx197_4⟩ := at_T55 (Kd.R_reads' HO_0.out).2.2 (ji8) p197 q197
            obtain rfl : ad196 = ad197 := (by injection e197)
            replace p197 := eq_true p197
            replace q197 := eq_true q197
            refine start_ (n := 17) (S := fun w' => w'.cell? (ad196.add ((x9_2).toNat * 5)) = some (.int .i64 ((rd_T55 x0_2 x9_2).f0)) ∧ w'.cell? ⟨(ad196.add ((x9_2).toNat * 5)).block, (ad196.add ((x9_2).toNat * 5)).off + 1, none⟩ = some (.int .i64 ((rd_T55 x0_2 x9_2).f1.f0)) ∧ w'.cell? ⟨(ad196.add ((x9_2).toNat * 5)).block, (ad196.add ((x9_2).toNat * 5)).off + 2, none⟩ = some (.int .i64 ((rd_T55 x0_2 x9_2).f1.f1)) ∧ w'.cell? ⟨(ad196.add ((x9_2).toNat * 5)).block, (ad196.add ((x9_2).toNat * 5)).off + 3, none⟩ = some (.int .i64 ((rd_T55 x0_2 x9_2).f1.f2)) ∧ w'.cell? ⟨(ad196.add ((x9_2).toNat * 5)).block, (ad196.add ((x9_2).toNat * 5)).off + 4, none⟩ = some (.int .i64 ((rd_T55 x0_2 x9_2).f1.f3)) ∧ w'.cell? (ad196.add (((ji8)).toNat * 5)) = some (.int .i64 ((rd_T55 x0_2 (ji8)).f0)) ∧ w'.cell? ⟨(ad196.add (((ji8)).toNat * 5)).block, (ad196.add (((ji8)).toNat * 5)).off + 1, none⟩ = some (.int .i64 ((rd_T55 x0_2 (ji8)).f1.f0)) ∧ w'.cell? ⟨(ad196.add (((ji8)).toNat * 5)).block, (ad196.add (((ji8)).toNat * 5)).off + 2, none⟩ = some (.int .i64 ((rd_T55 x0_2 (ji8)).f1.f1)) ∧ w'.cell? ⟨(ad196.add (((ji8)).toNat * 5)).block, (ad196.add (((ji8)).toNat * 5)).off + 3, none⟩ = some (.int .i64 ((rd_T55 x0_2 (ji8)).f1.f2)) ∧ w'.cell? ⟨(ad196.add (((ji8)).toNat * 5)).block, (ad196.add (((ji8)).toNat * 5)).off + 4, none⟩ = some (.int .i64 ((rd_T55 x0_2 (ji8)).f1.f3))) (ds := []) #[false, false, false, false, false, false, false, false, false, false, false, false, false, false, false, false, false] (by kernel_rfl) rfl rfl ⟨hx196_0, hx196_1, hx196_2, hx196_3, hx196_4, hx197_0, hx197_1, hx197_2, hx197_3, hx197_4⟩ (fun hHeld => ?_); refine with_tabW impl_Item_79.tab4 impl_Item_79.bits4 (fun HT_ HW_ => ?_)
            generalize wr.drew = w21 at HO_0 HK HB hx196_0 hx196_1 hx196_2 hx196_3 hx196_4 hx197_0 hx197_1 hx197_2 hx197_3 hx197_4 hHeld ⊢
            refine pure_ (i := 0) (N := some 18) (v := ?_) (a' := ?_) #[true, false, false, false, false, false, false, false, false, false, false, false, false, false, false, false, false] rfl rfl (any_of HT_.out (by kernel_rfl)) (fun _ _ _ h => h) (Or.inl ⟨by rfl, ?_⟩) ?_ ?_
            rotate_left
            ·intro w'
             go_simp
             with_reducible rfl
            rotate_left
            ·simp only [Act.put, List.setIfInBounds_toArray, List.set_cons_zero, List.set_cons_succ, i64_w, i32_w]
             rfl
            refine pure_ (i := 1) (N := some 19) (v := ?_) (a' := ?_) #[true, true, false, false, false, false, false, false, false, false, false, false, false, false, false, false, false] rfl rfl (any_of HT_.out (by kernel_rfl)) (fun _ _ _ h => h) (Or.inl ⟨by rfl, ?_⟩) ?_ ?_
            rotate_left
            ·intro w'
             go_simp
             with_reducible rfl
            rotate_left
            ·simp only [Act.put, List.setIfInBounds_toArray, List.set_cons_zero, List.set_cons_succ, i64_w, i32_w]
             rfl
            refine pure_ (i := 2) (N := some 20) (v := ?_) (a' := ?_) #[true, true, true, false, false, false, false, false, false, false, false, false, false, false, false, false, false] rfl rfl (any_of HT_.out (by kernel_rfl)) (fun _ _ _ h => h) (Or.inl ⟨by rfl, ?_⟩) ?_ ?_
            rotate_left
            ·intro w'
             go_simp
             with_reducible rfl
            rotate_left
            ·simp only [Act.put, List.setIfInBounds_toArray, List.set_cons_zero, List.set_cons_succ, i64_w, i32_w]
             rfl
            refine pure_ (i := 3) (N := some 21) (v := ?_) (a' := ?_) #[true, true, true, true, false, false, false, false, false, false, false, false, false, false, false, false, false] rfl rfl (any_of HT_.out (by kernel_rfl)) (fun _ _ _ h => h) (Or.inl ⟨by rfl, ?_⟩) ?_ ?_
            rotate_left
            ·intro w'
             go_simp
             with_reducible rfl
            rotate_left
            ·simp only [Act.put, List.setIfInBounds_toArray, List.set_cons_zero, List.set_cons_succ, i64_w, i32_w]
             rfl
            refine pure_ (i := 4) (N := some 22) (v := ?_) (a' := ?_) #[true, true, true, true, true, false, false, false, false, false, false, false, false, false, false, false, false] rfl rfl (any_of HT_.out (by kernel_rfl)) (fun _ _ _ h => h) (Or.inl ⟨by rfl, ?_⟩) ?_ ?_
            rotate_left
            ·intro w'
             go_simp
             with_reducible rfl
            rotate_left
            ·simp only [Act.put, List.setIfInBounds_toArray, List.set_cons_zero, List.set_cons_succ, i64_w, i32_w]
             rfl
            refine pure_ (i := 5) (N := some 23) (v := ?_) (a' := ?_) #[true, true, true, true, true, true, false, false, false, false, false, false, false, false, false, false, false] rfl rfl (any_of HT_.out (by kernel_rfl)) (fun _ _ _ h => h) (Or.inl ⟨by rfl, ?_⟩) ?_ ?_
            rotate_left
            ·intro w'
             go_simp
             with_reducible rfl
            rotate_left
            ·simp only [Act.put, List.setIfInBounds_toArray, List.set_cons_zero, List.set_cons_succ, i64_w, i32_w]
             rfl
            refine pure_ (i := 6) (N := some 24) (v := ?_) (a' := ?_) #[true, true, true, true, true, true, true, false, false, false, false, false, false, false, false, false, false] rfl rfl (any_of HT_.out (by kernel_rfl)) (fun _ _ _ h => h) (Or.inl ⟨by rfl, ?_⟩) ?_ ?_
            rotate_left
            ·intro w'
             go_simp
             with_reducible rfl
            rotate_left
            ·simp only [Act.put, List.setIfInBounds_toArray, List.set_cons_zero, List.set_cons_succ, i64_w, i32_w]
             rfl
            refine pure_ (i := 7) (N := some 25) (v := ?_) (a' := ?_) #[true, true, true, true, true, true, true, true, false, false, false, false, false, false, false, false, false] rfl rfl (any_of HT_.out (by kernel_rfl)) (fun _ _ _ h => h) (Or.inl ⟨by rfl, ?_⟩) ?_ ?_
            rotate_left
            ·intro w'
             go_simp
             with_reducible rfl
            rotate_left
            ·simp only [Act.put, List.setIfInBounds_toArray, List.set_cons_zero, List.set_cons_succ, i64_w, i32_w]
             rfl
            refine pure_ (i := 9) (N := some 27) (v := ?_) (a' := ?_) #[true, true, true, true, true, true, true, true, false, true, false, false, false, false, false, false, false] rfl rfl (any_of HT_.out (by kernel_rfl)) (fun _ _ _ h => h) (Or.inl ⟨by rfl, ?_⟩) ?_ ?_
            rotate_left
            ·intro w'
             go_simp
             with_reducible rfl
            rotate_left
            ·simp only [Act.put, List.setIfInBounds_toArray, List.set_cons_zero, List.set_cons_succ, i64_w, i32_w]
             rfl
            refine pure_ (i := 10) (N := some 28) (v := ?_) (a' := ?_) #[true, true, true, true, true, true, true, true, false, true, true, false, false, false, false, false, false] rfl rfl (any_of HT_.out (by kernel_rfl)) (fun _ _ _ h => h) (Or.inl ⟨by rfl, ?_⟩) ?_ ?_
            rotate_left
            ·intro w'
             go_simp
             with_reducible rfl
            rotate_left
            ·simp only [Act.put, List.setIfInBounds_toArray, List.set_cons_zero, List.set_cons_succ, i64_w, i32_w]
             rfl
            refine pure_ (i := 11) (N := some 29) (v := ?_) (a' := ?_) #[true, true, true, true, true, true, true, true, false, true, true, true, false, false, false, false, false] rfl rfl (any_of HT_.out (by kernel_rfl)) (fun _ _ _ h => h) (Or.inl ⟨by rfl, ?_⟩) ?_ ?_
            rotate_left
            ·intro w'
             go_simp
             with_reducible rfl
            rotate_left
            ·simp only [Act.put, List.setIfInBounds_toArray, List.set_cons_zero, List.set_cons_succ, i64_w, i32_w]
             rfl
            refine pure_ (i := 12) (N := some 30) (v := ?_) (a' := ?_) #[true, true, true, true, true, true, true, true, false, true, true, true, true, false, false, false, false] rfl rfl (any_of HT_.out (by kernel_rfl)) (fun _ _ _ h => h) (Or.inl ⟨by rfl, ?_⟩) ?_ ?_
            rotate_left
            ·intro w'
             go_simp
             with_reducible rfl
            rotate_left
            ·simp only [Act.put, List.setIfInBounds_toArray, List.set_cons_zero, List.set_cons_succ, i64_w, i32_w]
             rfl
            refine take_ (i := 8) (N := some 26) (v := ?_) (a' := ?_) #[true, true, true, true, true, true, true, true, true, true, true, true, true, false, false, false, false] rfl rfl (take_ofW HT_.out HW_.out (by kernel_rfl)) (fun _ _ _ h => h) (Or.inl ⟨by rfl, ?_⟩) hHeld ?_ ?_
            rotate_left
            ·rintro w' ⟨s0, s1, s2, s3, s4, s5, s6, s7, s8, s9⟩
             go_simp
             with_reducible rfl
            rotate_left
            ·simp only [Act.put, List.setIfInBounds_toArray, List.set_cons_zero, List.set_cons_succ, i64_w, i32_w]
             rfl
            refine take_ (i := 13) (N := some 31) (v := ?_) (a' := ?_) #[true, true, true, true, true, true, true, true, true, true, true, true, true, true, false, false, false] rfl rfl (take_ofW HT_.out HW_.out (by kernel_rfl)) (fun _ _ _ h => h) (Or.inl ⟨by rfl, ?_⟩) hHeld ?_ ?_
            rotate_left
            ·rintro w' ⟨s0, s1, s2, s3, s4, s5, s6, s7, s8, s9⟩
             go_simp
             with_reducible rfl
            rotate_left
            ·simp only [Act.put, List.setIfInBounds_toArray, List.set_cons_zero, List.set_cons_succ, i64_w, i32_w]
             rfl
            refine one_ (i := 14) (N := some 32) #[true, true, true, true, true, true, true, true, true, true, true, true, true, true, true, false, false] rfl rfl (one_of HT_.out (by kernel_rfl)) (by decide) (fun K hK => ?_)
            refine goesV_ Try.func33 (by kernel_rfl) rfl #[.agg #[.int .i64 ((rd_T55 x0_2 x9_2).f0), .int .i64 ((rd_T55 x0_2 x9_2).f1.f0), .int .i64 ((rd_T55 x0_2 x9_2).f1.f1), .int .i64 ((rd_T55 x0_2 x9_2).f1.f2), .int .i64 ((rd_T55 x0_2 x9_2).f1.f3)], .agg #[.int .i64 ((rd_T55 x0_2 (ji8)).f0), .int .i64 ((rd_T55 x0_2 (ji8)).f1.f0), .int .i64 ((rd_T55 x0_2 (ji8)).f1.f1), .int .i64 ((rd_T55 x0_2 (ji8)).f1.f2), .int .i64 ((rd_T55 x0_2 (ji8)).f1.f3)]] (by rfl) rfl rfl (by (try simp only [List.map_toArray, List.map_cons, List.map_nil]); first | done | (simp only [hji8]; rfl) | rfl | (simp only [List.length_drop, List.length_take]; rfl)) ?_
            with_reducible refine (impl_order.calls k2 ((rd_T55 x0_2 x9_2).f0) ((rd_T55 x0_2 x9_2).f1.f0) ((rd_T55 x0_2 x9_2).f1.f1) ((rd_T55 x0_2 x9_2).f1.f2) ((rd_T55 x0_2 x9_2).f1.f3) ((rd_T55 x0_2 (ji8)).f0) ((rd_T55 x0_2 (ji8)).f1.f0) ((rd_T55 x0_2 (ji8)).f1.f1) ((rd_T55 x0_2 (ji8)).f1.f2) ((rd_T55 x0_2 (ji8)).f1.f3) t198 _ A11.out).mono ?_
            rintro e w23 ⟨rfl, hb⟩
            have HS0_ := (hb.cell (World.block_lt_of_cell? _ _ (hHeld.1))).trans (hHeld.1)
            have HS1_ := (hb.cell (World.block_lt_of_cell? _ _ (hHeld.2.1))).trans (hHeld.2.1)
            have HS2_ := (hb.cell (World.block_lt_of_cell? _ _ (hHeld.2.2.1))).trans (hHeld.2.2.1)
            have HS3_ := (hb.cell (World.block_lt_of_cell? _ _ (hHeld.2.2.2.1))).trans (hHeld.2.2.2.1)
            have HS4_ := (hb.cell (World.block_lt_of_cell? _ _ (hHeld.2.2.2.2.1))).trans (hHeld.2.2.2.2.1)
            have HS5_ := (hb.cell (World.block_lt_of_cell? _ _ (hHeld.2.2.2.2.2.1))).trans (hHeld.2.2.2.2.2.1)
            have HS6_ := (hb.cell (World.block_lt_of_cell? _ _ (hHeld.2.2.2.2.2.2.1))).trans (hHeld.2.2.2.2.2.2.1)
            have HS7_ := (hb.cell (World.block_lt_of_cell? _ _ (hHeld.2.2.2.2.2.2.2.1))).trans (hHeld.2.2.2.2.2.2.2.1)
            have HS8_ := (hb.cell (World.block_lt_of_cell? _ _ (hHeld.2.2.2.2.2.2.2.2.1))).trans (hHeld.2.2.2.2.2.2.2.2.1)
            have HS9_ := (hb.cell (World.block_lt_of_cell? _ _ (hHeld.2.2.2.2.2.2.2.2.2))).trans (hHeld.2.2.2.2.2.2.2.2.2)
            refine ⟨_, rfl, ?_⟩
            have n0_ := Aside0.mk (Kd.R_below (by (with_reducible repeat (first | apply Kd.R_alloc | apply Kd.R_drewN | apply Kd.R_drew)); exact HO_0.out) hb)
            have n1_ := Aside0.mk (Kept.below (S := (fun k_ => P0_ k_)) (by repeat (first | (with_reducible first | exact HK.out | apply Kept.alloc | apply Kept.drewN | apply Kept.drew) | exact HK.out)) hb)
            have n2_ := Aside0.mk (below_step (by repeat (first | (with_reducible first | exact HB.out | apply below_alloc | apply pw_below_drewN | apply below_drew1) | exact HB.out)) hb)
            clear HO_0
            clear HK
            clear HB
            have HO_0 := n0_
            have HK := n1_
            have HB := n2_
            clear n0_ n1_ n2_
            (try clear hb)
            (try clear hb2)
            (try clear hk)
            (try clear hi)
            refine hK.out _ _ ⟨HS0_, HS1_, HS2_, HS3_, HS4_, HS5_, HS6_, HS7_, HS8_, HS9_⟩ (fun hHeld => ?_)
            clear hK K
            refine norm_ (a' := ?_) ?_ ?_
            rotate_left
            ·show Act.put _ (some 32) _ = _
             simp only [Act.put, List.setIfInBounds_toArray, List.set_cons_zero, List.set_cons_succ, i64_w, i32_w]
             rfl
            refine pure_ (i := 15) (N := some 33) (v := ?_) (a' := ?_) #[true, true, true, true, true, true, true, true, true, true, true, true, true, true, true, true, false] rfl rfl (any_of HT_.out (by kernel_rfl)) (fun _ _ _ h => h) (Or.inl ⟨by rfl, ?_⟩) ?_ ?_
            rotate_left
            ·intro w'
             go_simp
             with_reducible rfl
            rotate_left
            ·simp only [Act.put, List.setIfInBounds_toArray, List.set_cons_zero, List.set_cons_succ, i64_w, i32_w]
             rfl
            refine pure_ (i := 16) (N := some 34) (v := ?_) (a' := ?_) #[true, true, true, true, true, true, true, true, true, true, true, true, true, true, true, true, true] rfl rfl (any_of HT_.out (by kernel_rfl)) (fun _ _ _ h => h) (Or.inl ⟨by rfl, ?_⟩) ?_ ?_
            rotate_left
            ·intro w'
             go_simp
             with_reducible rfl
            rotate_left
            ·simp only [Act.put, List.setIfInBounds_toArray, List.set_cons_zero, List.set_cons_succ, i64_w, i32_w]
             rfl
            refine done_ (done_of HT_.out (by kernel_rfl)) ?_
            try go_wp2
            go_roundg k2
            case measure => have := HK1.out; have := HK2.out; omega
            case rel => exact ⟨(x0_2), (wrap64 (x8_1 + 1)), (by first | rfl | (simp; done) | (simp [*]; done)), H', ⟨by have := HK1.out; have := HK2.out; omega⟩, ⟨by (with_reducible repeat (first | apply Kd.R_alloc | apply Kd.R_drewN | apply Kd.R_drew)); exact HO_0.out⟩, ⟨by repeat (first | (with_reducible first | exact HK.out | apply Kept.alloc | apply Kept.drewN | apply Kept.drew) | exact HK.out)⟩, ⟨by repeat (first | (with_reducible first | exact HB.out | apply below_alloc | apply pw_below_drewN | apply below_drew1) | exact HB.out)⟩⟩
          ·rw [if_neg c10] at H
           exact absurd H (by simp)
         ·rw [if_neg c9] at H
          exact absurd H (by simp)
        ·rw [if_neg c7] at H
         exact absurd H (by simp)
       ·rw [if_neg c6] at H
        exact absurd H (by simp)
      ·rw [if_neg c5] at H
       have c5b0 : decide (a1 < x9_2) = false := decide_eq_false c5
       clear c5
       have H' := Aside0.mk H
       clear H
       try go_wp2
       have n0_ := Aside0.mk (Kd.R_drew HO_0.out)
       have n1_ := Aside0.mk (Kept.drew HK.out)
       have n2_ := Aside0.mk (below_drew1 HB.out)
       clear HO_0
       clear HK
       clear HB
       have HO_0 := n0_
       have HK := n1_
       have HB := n2_
       clear n0_ n1_ n2_
       refine start_ (n := 17) (S := fun w' => True) (ds := []) #[false, false, false, false, false, false, false, false, false, false, false, false, false, false, false, false, false] (by kernel_rfl) rfl rfl trivial (fun hHeld => ?_); refine with_tabW impl_Item_79.tab4 impl_Item_79.bits4 (fun HT_ HW_ => ?_)
       generalize wr.drew = w24 at HO_0 HK HB hHeld ⊢
       refine pure_ (i := 0) (N := some 18) (v := ?_) (a' := ?_) #[true, false, false, false, false, false, false, false, false, false, false, false, false, false, false, false, false] rfl rfl (any_of HT_.out (by kernel_rfl)) (fun _ _ _ h => h) (Or.inl ⟨by rfl, ?_⟩) ?_ ?_
       rotate_left
       ·intro w'
        go_simp
        with_reducible rfl
       rotate_left
       ·simp only [Act.put, List.setIfInBounds_toArray, List.set_cons_zero, List.set_cons_succ, i64_w, i32_w]
        rfl
       refine pure_ (i := 1) (N := some 19) (v := ?_) (a' := ?_) #[true, true, false, false, false, false, false, false, false, false, false, false, false, false, false, false, false] rfl rfl (any_of HT_.out (by kernel_rfl)) (fun _ _ _ h => h) (Or.inl ⟨by rfl, ?_⟩) ?_ ?_
       rotate_left
       ·intro w'
        go_simp
        with_reducible rfl
       rotate_left
       ·simp only [Act.put, List.setIfInBounds_toArray, List.set_cons_zero, List.set_cons_succ, i64_w, i32_w]
        rfl
       refine pure_ (i := 2) (N := some 20) (v := ?_) (a' := ?_) #[true, true, true, false, false, false, false, false, false, false, false, false, false, false, false, false, false] rfl rfl (any_of HT_.out (by kernel_rfl)) (fun _ _ _ h => h) (Or.inl ⟨by rfl, ?_⟩) ?_ ?_
       rotate_left
       ·intro w'
        go_simp
        with_reducible rfl
       rotate_left
       ·simp only [Act.put, List.setIfInBounds_toArray, List.set_cons_zero, List.set_cons_succ, i64_w, i32_w]
        rfl
       refine pure_ (i := 3) (N := some 21) (v := ?_) (a' := ?_) #[true, true, true, true, false, false, false, false, false, false, false, false, false, false, false, false, false] rfl rfl (any_of HT_.out (by kernel_rfl)) (fun _ _ _ h => h) (Or.inl ⟨by rfl, ?_⟩) ?_ ?_
       rotate_left
       ·intro w'
        go_simp
        with_reducible rfl
       rotate_left
       ·simp only [Act.put, List.setIfInBounds_toArray, List.set_cons_zero, List.set_cons_succ, i64_w, i32_w]
        rfl
       refine pure_ (i := 4) (N := some 22) (v := undef) (a' := ?_) #[true, true, true, true, true, false, false, false, false, false, false, false, false, false, false, false, false] rfl rfl (any_of HT_.out (by kernel_rfl)) (fun _ _ _ h => h) (Or.inr ⟨by rfl, rfl⟩) ?_ ?_
       rotate_left
       ·simp only [Act.put, List.setIfInBounds_toArray, List.set_cons_zero, List.set_cons_succ, i64_w, i32_w]
        rfl
       refine pure_ (i := 5) (N := some 23) (v := undef) (a' := ?_) #[true, true, true, true, true, true, false, false, false, false, false, false, false, false, false, false, false] rfl rfl (any_of HT_.out (by kernel_rfl)) (fun _ _ _ h => h) (Or.inr ⟨by rfl, rfl⟩) ?_ ?_
       rotate_left
       ·simp only [Act.put, List.setIfInBounds_toArray, List.set_cons_zero, List.set_cons_succ, i64_w, i32_w]
        rfl
       refine pure_ (i := 6) (N := some 24) (v := undef) (a' := ?_) #[true, true, true, true, true, true, true, false, false, false, false, false, false, false, false, false, false] rfl rfl (any_of HT_.out (by kernel_rfl)) (fun _ _ _ h => h) (Or.inr ⟨by rfl, rfl⟩) ?_ ?_
       rotate_left
       ·simp only [Act.put, List.setIfInBounds_toArray, List.set_cons_zero, List.set_cons_succ, i64_w, i32_w]
        rfl
       refine pure_ (i := 7) (N := some 25) (v := undef) (a' := ?_) #[true, true, true, true, true, true, true, true, false, false, false, false, false, false, false, false, false] rfl rfl (any_of HT_.out (by kernel_rfl)) (fun _ _ _ h => h) (Or.inr ⟨by rfl, rfl⟩) ?_ ?_
       rotate_left
       ·simp only [Act.put, List.setIfInBounds_toArray, List.set_cons_zero, List.set_cons_succ, i64_w, i32_w]
        rfl
       refine pure_ (i := 8) (N := some 26) (v := undef) (a' := ?_) #[true, true, true, true, true, true, true, true, true, false, false, false, false, false, false, false, false] rfl rfl (any_of HT_.out (by kernel_rfl)) (fun _ _ _ h => h) (Or.inr ⟨by rfl, rfl⟩) ?_ ?_
       rotate_left
       ·simp only [Act.put, List.setIfInBounds_toArray, List.set_cons_zero, List.set_cons_succ, i64_w, i32_w]
        rfl
       refine pure_ (i := 9) (N := some 27) (v := undef) (a' := ?_) #[true, true, true, true, true, true, true, true, true, true, false, false, false, false, false, false, false] rfl rfl (any_of HT_.out (by kernel_rfl)) (fun _ _ _ h => h) (Or.inr ⟨by rfl, rfl⟩) ?_ ?_
       rotate_left
       ·simp only [Act.put, List.setIfInBounds_toArray, List.set_cons_zero, List.set_cons_succ, i64_w, i32_w]
        rfl
       refine pure_ (i := 10) (N := some 28) (v := undef) (a' := ?_) #[true, true, true, true, true, true, true, true, true, true, true, false, false, false, false, false, false] rfl rfl (any_of HT_.out (by kernel_rfl)) (fun _ _ _ h => h) (Or.inr ⟨by rfl, rfl⟩) ?_ ?_
       rotate_left
       ·simp only [Act.put, List.setIfInBounds_toArray, List.set_cons_zero, List.set_cons_succ, i64_w, i32_w]
        rfl
       refine pure_ (i := 11) (N := some 29) (v := undef) (a' := ?_) #[true, true, true, true, true, true, true, true, true, true, true, true, false, false, false, false, false] rfl rfl (any_of HT_.out (by kernel_rfl)) (fun _ _ _ h => h) (Or.inr ⟨by rfl, rfl⟩) ?_ ?_
       rotate_left
       ·simp only [Act.put, List.setIfInBounds_toArray, List.set_cons_zero, List.set_cons_succ, i64_w, i32_w]
        rfl
       refine pure_ (i := 12) (N := some 30) (v := undef) (a' := ?_) #[true, true, true, true, true, true, true, true, true, true, true, true, true, false, false, false, false] rfl rfl (any_of HT_.out (by kernel_rfl)) (fun _ _ _ h => h) (Or.inr ⟨by rfl, rfl⟩) ?_ ?_
       rotate_left
       ·simp only [Act.put, List.setIfInBounds_toArray, List.set_cons_zero, List.set_cons_succ, i64_w, i32_w]
        rfl
       refine pure_ (i := 13) (N := some 31) (v := undef) (a' := ?_) #[true, true, true, true, true, true, true, true, true, true, true, true, true, true, false, false, false] rfl rfl (any_of HT_.out (by kernel_rfl)) (fun _ _ _ h => h) (Or.inr ⟨by rfl, rfl⟩) ?_ ?_
       rotate_left
       ·simp only [Act.put, List.setIfInBounds_toArray, List.set_cons_zero, List.set_cons_succ, i64_w, i32_w]
        rfl
       refine pure_ (i := 14) (N := some 32) (v := undef) (a' := ?_) #[true, true, true, true, true, true, true, true, true, true, true, true, true, true, true, false, false] rfl rfl (any_of HT_.out (by kernel_rfl)) (fun _ _ _ h => h) (Or.inr ⟨by rfl, rfl⟩) ?_ ?_
       rotate_left
       ·simp only [Act.put, List.setIfInBounds_toArray, List.set_cons_zero, List.set_cons_succ, i64_w, i32_w]
        rfl
       refine pure_ (i := 15) (N := some 33) (v := undef) (a' := ?_) #[true, true, true, true, true, true, true, true, true, true, true, true, true, true, true, true, false] rfl rfl (any_of HT_.out (by kernel_rfl)) (fun _ _ _ h => h) (Or.inr ⟨by rfl, rfl⟩) ?_ ?_
       rotate_left
       ·simp only [Act.put, List.setIfInBounds_toArray, List.set_cons_zero, List.set_cons_succ, i64_w, i32_w]
        rfl
       refine pure_ (i := 16) (N := some 34) (v := ?_) (a' := ?_) #[true, true, true, true, true, true, true, true, true, true, true, true, true, true, true, true, true] rfl rfl (any_of HT_.out (by kernel_rfl)) (fun _ _ _ h => h) (Or.inl ⟨by rfl, ?_⟩) ?_ ?_
       rotate_left
       ·intro w'
        go_simp
        with_reducible rfl
       rotate_left
       ·simp only [Act.put, List.setIfInBounds_toArray, List.set_cons_zero, List.set_cons_succ, i64_w, i32_w]
        rfl
       refine done_ (done_of HT_.out (by kernel_rfl)) ?_
       try go_wp2
       go_roundg k2
       case measure => have := HK1.out; have := HK2.out; omega
       case rel => exact ⟨(x0_2), (wrap64 (x8_1 + 1)), (by first | rfl | (simp; done) | (simp [*]; done)), H', ⟨by have := HK1.out; have := HK2.out; omega⟩, ⟨by (with_reducible repeat (first | apply Kd.R_alloc | apply Kd.R_drewN | apply Kd.R_drew)); exact HO_0.out⟩, ⟨by repeat (first | (with_reducible first | exact HK.out | apply Kept.alloc | apply Kept.drewN | apply Kept.drew) | exact HK.out)⟩, ⟨by repeat (first | (with_reducible first | exact HB.out | apply below_alloc | apply pw_below_drewN | apply below_drew1) | exact HB.out)⟩⟩
   ·rw [if_neg c4] at H
    have c4b0 : decide (x8_1 < a2) = false := decide_eq_false c4
    clear c4
    obtain rfl := Option.some.inj H
    go_wp2
    first | go_end0 | ((try simp only [Exit.inBlock, Exit.then]); refine bodyPost_ret (results_none rfl _ _ _) rfl ?_)
    exact ⟨by first | rfl | (simp [errW_none, errW_some] <;> rfl) | (simp [*, errW_none, errW_some] <;> rfl), by (with_reducible repeat (first | apply Kd.R_alloc | apply Kd.R_drewN | apply Kd.R_drew)); exact HO_0.out, by repeat (first | (with_reducible first | exact HB.out | apply below_alloc | apply pw_below_drewN | apply below_drew1) | exact HB.out), by repeat (first | (with_reducible first | exact HK.out | apply Kept.alloc | apply Kept.drewN | apply Kept.drew) | exact HK.out)⟩

end Go.Proofs.Ytfgmngfhchfaaaa.PFnExactByKey
-- halved
