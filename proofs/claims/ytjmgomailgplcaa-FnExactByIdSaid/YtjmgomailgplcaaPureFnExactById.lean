/- The pure statement of FnExactById: the items are sorted as the reference sorts them, and are no memory of others, for all lists of items; condition: the list's length is a length. -/
import Derived.Test.YtjmgomailgplcaaPFnExactByIdx7
import Derived.OpenShut
namespace Go.Proofs.Ytjmgomailgplcaa.PureFnExactById
open Go.RowKit Go.Proofs.Ytjmgomailgplcaa.PFnExactById Go.Proofs.YtjmgomailgplcaaW.PrintWords Go.Proofs.YtjmgomailgplcaaW.PrintLast Go.Proofs.YtjmgomailgplcaaW.PrintMore
set_option linter.unusedVariables false
set_option linter.unusedSimpArgs false

/-! ### stable -/
structure WO {α : Type} (lt : α → α → Bool) : Prop where
  irr : ∀ a, lt a a = false
  asy : ∀ a b, lt a b = true → lt b a = false
  tr : ∀ a b c, lt a b = false → lt b c = false → lt a c = false
/-- As great as. -/
def eqv {α : Type} (lt : α → α → Bool) (x y : α) : Bool := !lt x y && !lt y x
/-- None behind a greater one. -/
def Srt {α : Type} (lt : α → α → Bool) (l : List α) : Prop := l.Pairwise fun a b => lt b a = false
/-- The same elements, and those that are as great as each other in the same order. -/
def St {α : Type} (lt : α → α → Bool) (l l' : List α) : Prop := ∀ x, l.filter (eqv lt x) = l'.filter (eqv lt x)
section
variable {α : Type} {lt : α → α → Bool}
theorem eqv_iff {x y : α} : eqv lt x y = true ↔ lt x y = false ∧ lt y x = false := by unfold eqv; simp
theorem eqv_self (w : WO lt) (x : α) : eqv lt x x = true := eqv_iff.2 ⟨w.irr x, w.irr x⟩
theorem St.refl (l : List α) : St lt l l := fun _ => rfl
theorem St.trans {a b c : List α} (h : St lt a b) (h' : St lt b c) : St lt a c := fun x => (h x).trans (h' x)
theorem St.symm {a b : List α} (h : St lt a b) : St lt b a := fun x => (h x).symm
theorem St.app {a b a' b' : List α} (h : St lt a a') (h' : St lt b b') : St lt (a ++ b) (a' ++ b') := fun x => by
  rw [List.filter_append, List.filter_append, h x, h' x]
theorem St.mem (w : WO lt) {l l' : List α} (h : St lt l l') {x : α} (hx : x ∈ l) : x ∈ l' := by
  have h1 : x ∈ l.filter (eqv lt x) := List.mem_filter.2 ⟨hx, eqv_self w x⟩
  rw [h x] at h1
  exact (List.mem_filter.1 h1).1
theorem St.swap (w : WO lt) {u v : List α} (h : ∀ a ∈ u, ∀ b ∈ v, lt b a = true) : St lt (u ++ v) (v ++ u) := fun x => by
  rw [List.filter_append, List.filter_append]
  by_cases hu : ∃ a ∈ u, eqv lt x a = true
  · obtain ⟨a, ha, ea⟩ := hu
    have hv : v.filter (eqv lt x) = [] := by
      rw [List.filter_eq_nil_iff]
      intro b hb eb
      have h1 := eqv_iff.1 ea
      have h2 := eqv_iff.1 eb
      have h3 := w.tr b x a h2.2 h1.1
      rw [h a ha b hb] at h3
      cases h3
    rw [hv, List.append_nil, List.nil_append]
  · have hu' : u.filter (eqv lt x) = [] := by
      rw [List.filter_eq_nil_iff]
      intro a ha ea
      exact hu ⟨a, ha, ea⟩
    rw [hu', List.append_nil, List.nil_append]
theorem Srt.nil : Srt lt ([] : List α) := List.Pairwise.nil
theorem Srt.one (x : α) : Srt lt [x] := List.pairwise_singleton _ _
theorem srt_app {a b : List α} : Srt lt (a ++ b) ↔ Srt lt a ∧ Srt lt b ∧ ∀ x ∈ a, ∀ y ∈ b, lt y x = false := List.pairwise_append
theorem srt_cons {a : α} {b : List α} : Srt lt (a :: b) ↔ (∀ y ∈ b, lt y a = false) ∧ Srt lt b := List.pairwise_cons
theorem srt_uniq (w : WO lt) : ∀ (l l' : List α), Srt lt l → Srt lt l' → St lt l l' → l = l'
  | [], l', _, _, h => by
    cases l' with
    | nil => rfl
    | cons b r => exact absurd (h.symm.mem w List.mem_cons_self) (by simp)
  | a :: r, l', hs, hs', h => by
    cases l' with
    | nil => exact absurd (h.mem w List.mem_cons_self) (by simp)
    | cons b r' =>
      have hb : b ∈ a :: r := h.symm.mem w List.mem_cons_self
      have ha : a ∈ b :: r' := h.mem w List.mem_cons_self
      have h1 := srt_cons.1 hs
      have h2 := srt_cons.1 hs'
      have e1 : lt b a = false := by
        rcases List.mem_cons.1 hb with e | e
        · rw [e]; exact w.irr a
        · exact h1.1 b e
      have e2 : lt a b = false := by
        rcases List.mem_cons.1 ha with e | e
        · rw [e]; exact w.irr b
        · exact h2.1 a e
      have hf := h a
      rw [List.filter_cons_of_pos (eqv_self w a), List.filter_cons_of_pos (eqv_iff.2 ⟨e2, e1⟩)] at hf
      have hab : a = b := (List.cons.inj hf).1
      subst hab
      have hr : St lt r r' := fun x => by
        have hx := h x
        by_cases hp : eqv lt x a = true
        · rw [List.filter_cons_of_pos hp, List.filter_cons_of_pos hp] at hx; exact (List.cons.inj hx).2
        · rw [List.filter_cons_of_neg hp, List.filter_cons_of_neg hp] at hx; exact hx
      rw [srt_uniq w r r' h1.2 h2.2 hr]
/-- One element put into what is sorted, behind all that are not greater. -/
theorem ins_ok (w : WO lt) {o1 o2 : List α} {x : α} (hs : Srt lt (o1 ++ o2)) (h1 : ∀ y ∈ o1, lt x y = false) (h2 : ∀ y ∈ o2, lt x y = true) :
    Srt lt (o1 ++ x :: o2) ∧ St lt ((o1 ++ o2) ++ [x]) (o1 ++ x :: o2) := by
  obtain ⟨a, b, c⟩ := srt_app.1 hs
  refine ⟨srt_app.2 ⟨a, srt_cons.2 ⟨fun y hy => w.asy _ _ (h2 y hy), b⟩, fun y hy z hz => ?_⟩, ?_⟩
  · rcases List.mem_cons.1 hz with e | e
    · rw [e]; exact h1 y hy
    · exact c y hy z e
  · rw [List.append_assoc]
    exact (St.refl o1).app (St.swap w fun y hy z hz => by rw [List.mem_singleton.1 hz]; exact h2 y hy)
theorem last_le (w : WO lt) {o : List α} {u x : α} (hs : Srt lt (o ++ [u])) (h : lt x u = false) : ∀ y ∈ o ++ [u], lt x y = false := by
  obtain ⟨a, b, c⟩ := srt_app.1 hs
  intro y hy
  rcases List.mem_append.1 hy with e | e
  · exact w.tr x u y h (c y e u List.mem_cons_self)
  · rw [List.mem_singleton.1 e]; exact h
/-- Two sorted lists, each cut in two so that what lies ahead of both cuts is not greater than what lies behind, and what is moved ahead is smaller than what it passes. -/
theorem cross_ok (w : WO lt) {u1 u2 v1 v2 w1 w2 : List α} (hu : Srt lt (u1 ++ u2)) (hv : Srt lt (v1 ++ v2))
    (h1 : ∀ a ∈ u1, ∀ b ∈ v2, lt b a = false) (h2 : ∀ a ∈ u2, ∀ b ∈ v1, lt b a = true)
    (s1 : Srt lt w1) (t1 : St lt (u1 ++ v1) w1) (s2 : Srt lt w2) (t2 : St lt (u2 ++ v2) w2) :
    Srt lt (w1 ++ w2) ∧ St lt ((u1 ++ u2) ++ (v1 ++ v2)) (w1 ++ w2) := by
  obtain ⟨_, _, cu⟩ := srt_app.1 hu
  obtain ⟨_, _, cv⟩ := srt_app.1 hv
  refine ⟨srt_app.2 ⟨s1, s2, fun x hx y hy => ?_⟩, ?_⟩
  · have hx := t1.symm.mem w hx
    have hy := t2.symm.mem w hy
    rcases List.mem_append.1 hx with ex | ex
    · rcases List.mem_append.1 hy with ey | ey
      · exact cu x ex y ey
      · exact h1 x ex y ey
    · rcases List.mem_append.1 hy with ey | ey
      · exact w.asy _ _ (h2 y ey x ex)
      · exact cv x ex y ey
  · have e1 : (u1 ++ u2) ++ (v1 ++ v2) = u1 ++ ((u2 ++ v1) ++ v2) := by simp only [List.append_assoc]
    have e2 : u1 ++ ((v1 ++ u2) ++ v2) = (u1 ++ v1) ++ (u2 ++ v2) := by simp only [List.append_assoc]
    rw [e1]
    refine ((St.refl u1).app ((St.swap w h2).app (St.refl v2))).trans ?_
    rw [e2]
    exact t1.app t2
/-- All of one list lies ahead of one of another, where its last does. -/
theorem all_lt (w : WO lt) {u v : List α} {a b : α} (hu : Srt lt (a :: u)) (hv : Srt lt (v ++ [b])) (h : lt b a = true) : ∀ x ∈ a :: u, ∀ y ∈ v ++ [b], lt y x = true := by
  intro x hx y hy
  have h1 : lt x a = false := by
    rcases List.mem_cons.1 hx with e | e
    · rw [e]; exact w.irr a
    · exact (srt_cons.1 hu).1 x e
  have h2 : lt b y = false := by
    rcases List.mem_append.1 hy with e | e
    · exact (srt_app.1 hv).2.2 y e b List.mem_cons_self
    · rw [List.mem_singleton.1 e]; exact w.irr b
  cases e : lt y x with
  | true => rfl
  | false =>
    have h3 := w.tr b x a (w.tr b y x h2 e) h1
    rw [h] at h3; cases h3
theorem all_ge (w : WO lt) {u v : List α} {a b : α} (hu : Srt lt (u ++ [a])) (hv : Srt lt (b :: v)) (h : lt b a = false) : ∀ x ∈ u ++ [a], ∀ y ∈ b :: v, lt y x = false := by
  intro x hx y hy
  have h1 : lt a x = false := by
    rcases List.mem_append.1 hx with e | e
    · exact (srt_app.1 hu).2.2 x e a List.mem_cons_self
    · rw [List.mem_singleton.1 e]; exact w.irr a
  have h2 : lt y b = false := by
    rcases List.mem_cons.1 hy with e | e
    · rw [e]; exact w.irr b
    · exact (srt_cons.1 hv).1 y e
  exact w.tr y b x h2 (w.tr b a x h h1)
end
/-- Where what holds ahead of a place holds no more behind it. -/
structure Bound (p : Nat → Bool) (lo hi r : Nat) : Prop where
  ge : lo ≤ r
  le : r ≤ hi
  iff : ∀ h, lo ≤ h → h < hi → (p h = true ↔ h < r)
theorem bound_ex (p : Nat → Bool) (hp : ∀ i j, i ≤ j → p j = true → p i = true) (lo : Nat) : ∀ d hi, hi = lo + d → ∃ r, Bound p lo hi r := by
  intro d
  induction d with
  | zero => intro hi h; exact ⟨lo, Nat.le_refl _, by omega, fun x a b => by omega⟩
  | succ d ih =>
    intro hi h
    obtain ⟨r, a, b, c⟩ := ih (lo + d) rfl
    by_cases e : r = lo + d ∧ p r = true
    · refine ⟨r + 1, by omega, by omega, fun x x1 x2 => ⟨fun _ => by omega, fun _ => hp x r (by omega) e.2⟩⟩
    · refine ⟨r, a, by omega, fun x x1 x2 => ?_⟩
      by_cases hx : x < lo + d
      · exact c x x1 hx
      · have ex : x = lo + d := by omega
        subst ex
        refine ⟨fun hpx => ?_, fun hlt => by omega⟩
        by_cases hr : r = lo + d
        · exact absurd ⟨hr, by rw [hr]; exact hpx⟩ e
        · exact absurd ((c r a (by omega)).1 (hp r (lo + d) (by omega) hpx)) (by omega)
theorem bound_ex' (p : Nat → Bool) (lo hi : Nat) (hl : lo ≤ hi) (hp : ∀ i j, lo ≤ i → i ≤ j → j < hi → p j = true → p i = true) : ∃ r, Bound p lo hi r := by
  obtain ⟨r, a, b, c⟩ := bound_ex (fun h => decide (lo ≤ h → p h = true) && decide (h < hi)) (fun i j hij h => by
    simp only [Bool.and_eq_true, decide_eq_true_eq] at h ⊢
    exact ⟨fun hi' => hp i j hi' hij h.2 (h.1 (by omega)), by omega⟩) lo (hi - lo) hi (by omega)
  refine ⟨r, a, b, fun h h1 h2 => ?_⟩
  rw [← c h h1 h2]
  simp only [Bool.and_eq_true, decide_eq_true_eq]
  exact ⟨fun x => ⟨fun _ => x, h2⟩, fun x => x.1 h1⟩
/-- From some number of rounds on the answer is r. -/
def Evt {β : Type} (f : Nat → Option β) (r : β) : Prop := ∃ K, ∀ k, K ≤ k → f k = some r
theorem Evt.same {β : Type} {f : Nat → Option β} {r : β} (h : ∀ k, f k = some r) : Evt f r := ⟨0, fun k _ => h k⟩
theorem Evt.eq {β : Type} {f g : Nat → Option β} {r : β} (hg : Evt g r) (h : ∀ k, f k = g k) : Evt f r := by
  obtain ⟨K, hK⟩ := hg
  exact ⟨K, fun k hk => (h k).trans (hK k hk)⟩
theorem Evt.step {β : Type} {f g : Nat → Option β} {r : β} (hg : Evt g r) (h : ∀ k, f (k + 1) = g k) : Evt f r := by
  obtain ⟨K, hK⟩ := hg
  refine ⟨K + 1, fun k hk => ?_⟩
  obtain ⟨k, rfl⟩ : ∃ m, k = m + 1 := ⟨k - 1, by omega⟩
  exact (h k).trans (hK k (by omega))
theorem Evt.bind {β γ : Type} {f : Nat → Option β} {g : Nat → β → Option γ} {a : β} {r : γ} (h : Evt f a) (h' : Evt (fun k => g k a) r) : Evt (fun k => (f k).bind (g k)) r := by
  obtain ⟨K, hK⟩ := h
  obtain ⟨K', hK'⟩ := h'
  exact ⟨K + K', fun k hk => by show (f k).bind (g k) = _; rw [hK k (by omega)]; exact hK' k (by omega)⟩
theorem Evt.from {β : Type} {f : Nat → Option β} {r : β} (n : Nat) (h : ∀ k, f (k + n) = some r) : Evt f r := ⟨n, fun k hk => by
  obtain ⟨m, rfl⟩ : ∃ m, k = m + n := ⟨k - n, by omega⟩
  exact h m⟩
theorem Evt.both {β γ : Type} {f : Nat → Option β} {g : Nat → Option γ} {r : β} {s : γ} (h : Evt f r) (h' : Evt g s) : ∃ K, ∀ k, K ≤ k → f k = some r ∧ g k = some s := by
  obtain ⟨K, hK⟩ := h
  obtain ⟨K', hK'⟩ := h'
  exact ⟨K + K', fun k hk => ⟨hK k (by omega), hK' k (by omega)⟩⟩
theorem set_mid {α : Type} (p r : List α) (x y : α) : (p ++ x :: r).set p.length y = p ++ y :: r := by
  rw [List.set_append_right _ _ (Nat.le_refl _), Nat.sub_self]; rfl

/-! ### wrap -/
theorem wr {n : Int} (h0 : -9223372036854775808 ≤ n) (h1 : n ≤ 9223372036854775807) : wrap64 n = n := by
  unfold wrap64; omega
theorem wf64 {n : Int} (h : (Lit.int .i64 n).wf = true) : -9223372036854775808 ≤ n ∧ n ≤ 9223372036854775807 := bounds_i64 h

/-! ### cmpById -/
def lt (x y : S100) : Bool := decide (x.f0 < y.f0)
theorem lt_wo : WO lt := ⟨fun a => by unfold lt; simp, fun a b h => by
  unfold lt at h ⊢
  rw [decide_eq_true_eq] at h
  rw [decide_eq_false_iff_not]; omega, fun a b c h1 h2 => by
  unfold lt at h1 h2 ⊢
  rw [decide_eq_false_iff_not] at h1 h2 ⊢; omega⟩
theorem cmp_lt (x y : S100) : ∃ N : Nat, ∀ k : Nat, 100 ≤ k → ∃ t : Int, impl_ById_1.f x.f0 x.f1.f0 x.f1.f1 x.f1.f2 x.f1.f3 y.f0 y.f1.f0 y.f1.f1 y.f1.f2 y.f1.f3 = some t ∧ (t < 0 ↔ lt x y = true) := by
  refine ⟨0, fun k hk => ?_⟩
  unfold impl_ById_1.f cmp_Compare_int.f cmp_isNaN_int.f lt
  simp only [Option.bind_some, bne_self_eq_false]
  rw [if_neg (by simp), if_neg (by simp)]
  by_cases h : x.f0 < y.f0
  · rw [if_pos h]; exact ⟨-1, rfl, by simp [h]⟩
  · rw [if_neg h]
    by_cases h2 : x.f0 > y.f0
    · rw [if_pos h2]; exact ⟨1, rfl, by simp [h]⟩
    · rw [if_neg h2]; exact ⟨0, rfl, by simp [h]⟩

/-! ### sorting:ById -/
theorem Evt.stepN {β : Type} {f g : Nat → Option β} {r : β} (n : Nat) (hg : Evt g r) (h : ∀ k, n ≤ k → f (k + 1) = g k) : Evt f r := by
  obtain ⟨K, hK⟩ := hg
  refine ⟨K + n + 1, fun k hk => ?_⟩
  obtain ⟨k, rfl⟩ : ∃ m, k = m + 1 := ⟨k - 1, by omega⟩
  exact (h k (by omega)).trans (hK k (by omega))
theorem rd_mid (P R : List S100) (x : S100) (i : Int) (h : i = P.length) : rd_T100 (P ++ x :: R) i = x := by
  subst h
  unfold rd_T100
  rw [Int.toNat_natCast, List.getD_eq_getElem?_getD, List.getElem?_append_right (Nat.le_refl _), Nat.sub_self]; rfl
theorem rd_in (A B C : List S100) (i : Int) (j : Nat) (h : i = A.length + j) (hj : j < B.length) : rd_T100 (A ++ (B ++ C)) i = B[j] := by
  have e : i = ((A.length + j : Nat) : Int) := by omega
  subst e
  unfold rd_T100
  rw [Int.toNat_natCast, List.getD_eq_getElem?_getD, List.getElem?_append_right (by omega), Nat.add_sub_cancel_left, List.getElem?_append_left hj, List.getElem?_eq_getElem hj]; rfl
theorem swap_far (P M R : List S100) (u v : S100) (a b : Int) (ha : a = P.length) (hb : b = P.length + 1 + M.length) :
    ((P ++ u :: (M ++ v :: R)).set a.toNat v).set b.toNat u = P ++ v :: (M ++ u :: R) := by
  have ea : a.toNat = P.length := by omega
  have eb : b.toNat = (P ++ v :: M).length := by rw [List.length_append, List.length_cons]; omega
  rw [ea, set_mid]
  have e1 : P ++ v :: (M ++ v :: R) = (P ++ v :: M) ++ v :: R := by simp
  rw [e1, eb, set_mid]; simp
theorem swap_back (P M R : List S100) (u v : S100) (a b : Int) (ha : a = P.length) (hb : b = P.length + 1 + M.length) :
    ((P ++ u :: (M ++ v :: R)).set b.toNat u).set a.toNat v = P ++ v :: (M ++ u :: R) := by
  have ea : a.toNat = P.length := by omega
  have eb : b.toNat = (P ++ u :: M).length := by rw [List.length_append, List.length_cons]; omega
  have e1 : P ++ u :: (M ++ v :: R) = (P ++ u :: M) ++ v :: R := by simp
  rw [e1, eb, set_mid]
  have e2 : (P ++ u :: M) ++ u :: R = P ++ u :: (M ++ u :: R) := by simp
  rw [e2, ea, set_mid]
theorem mid_eq {s : Int} (h0 : 0 ≤ s) (h1 : s ≤ 4000000000000) : wrap64 ((IntKind.u64.wrap (wrap64 s)) / 2) = s / 2 := by
  have e : IntKind.u64.wrap s = s := by
    show s % 18446744073709551616 = s
    omega
  have e0 : wrap64 s = s := wr (by omega) (by omega)
  rw [e0, e, wr (by omega) (by omega)]

/-! #### the exchange of two ranges -/
theorem sw_run (A : List S100) : ∀ (B P M S : List S100) (a b n i : Int), A.length = B.length → a + i = P.length → b + i = P.length + A.length + M.length → n = i + A.length → 0 ≤ i → 0 ≤ a → 0 ≤ b → 0 < A.length + M.length ∨ A = [] →
    (P.length + A.length + M.length + B.length + S.length : Int) ≤ 1000000000000 →
    Evt (fun k => impl_Item_161.l0 k (P ++ (A ++ (M ++ (B ++ S)))) a b n i) (P ++ (B ++ (M ++ (A ++ S)))) := by
  induction A with
  | nil =>
    intro B P M S a b n i hl ha hb hn h0 h1 h2 hne hlen
    have : B = [] := List.length_eq_zero_iff.1 (by rw [← hl]; rfl)
    subst this
    refine Evt.from 1 fun k => ?_
    simp only [impl_Item_161.l0]
    rw [if_neg (by simp only [List.length_nil] at hn; omega)]
    try rfl
  | cons u A ih =>
    intro B P M S a b n i hl ha hb hn h0 h1 h2 hne hlen
    match B, hl with
    | v :: B, hl =>
      simp only [List.length_cons] at hl hb hn hlen
      have ea : wrap64 (a + i) = a + i := wr (by omega) (by omega)
      have eb : wrap64 (b + i) = b + i := wr (by omega) (by omega)
      have ei : wrap64 (i + 1) = i + 1 := wr (by omega) (by omega)
      have hx : P ++ ((u :: A) ++ (M ++ ((v :: B) ++ S))) = P ++ u :: ((A ++ M) ++ v :: (B ++ S)) := by simp
      have hlx : (P ++ u :: ((A ++ M) ++ v :: (B ++ S))).length = P.length + 1 + A.length + M.length + 1 + B.length + S.length := by simp only [List.length_append, List.length_cons]; omega
      have r1 : rd_T100 (P ++ u :: ((A ++ M) ++ v :: (B ++ S))) (a + i) = u := rd_mid P _ u _ ha
      have r2 : rd_T100 (P ++ u :: ((A ++ M) ++ v :: (B ++ S))) (b + i) = v := by
        have e : P ++ u :: ((A ++ M) ++ v :: (B ++ S)) = (P ++ u :: (A ++ M)) ++ v :: (B ++ S) := by simp
        rw [e]; exact rd_mid _ _ v _ (by simp only [List.length_append, List.length_cons]; omega)
      have hs := swap_far P (A ++ M) (B ++ S) u v (a + i) (b + i) ha (by simp only [List.length_append]; omega)
      have hi := ih B (P ++ [v]) (M ++ [u]) S a b n (i + 1) (by omega) (by simp only [List.length_append, List.length_cons, List.length_nil]; omega) (by simp only [List.length_append, List.length_cons, List.length_nil]; omega) (by omega) (by omega) h1 h2
        (by left; simp only [List.length_append, List.length_cons, List.length_nil]; omega) (by simp only [List.length_append, List.length_cons, List.length_nil]; omega)
      have g1 : (P ++ [v]) ++ (A ++ ((M ++ [u]) ++ (B ++ S))) = P ++ v :: ((A ++ M) ++ u :: (B ++ S)) := by simp
      have g2 : (P ++ [v]) ++ (B ++ ((M ++ [u]) ++ (A ++ S))) = P ++ ((v :: B) ++ (M ++ ((u :: A) ++ S))) := by simp
      rw [g1, g2] at hi
      refine Evt.step hi fun k => ?_
      rw [hx]
      simp only [impl_Item_161.l0]
      rw [ea, eb, ei, if_pos (by omega), if_pos (by omega), if_pos (by rw [hlx]; omega), if_pos (by omega), if_pos (by rw [hlx]; omega), if_neg (by omega)]
      rw [← hs]
      congr 1
      rw [r1, r2]

/-! #### two neighbouring pieces change their places -/
theorem ro_run : ∀ (d : Nat) (U V P S : List S100) (m i j : Int), U.length + V.length ≤ d → U ≠ [] → V ≠ [] → i = U.length → j = V.length → m = P.length + U.length → (P.length + U.length + V.length + S.length : Int) ≤ 1000000000000 →
    Evt (fun k => impl_Item_160.l0 k (P ++ (U ++ (V ++ S))) m i j) (P ++ (V ++ (U ++ S))) := by
  intro d
  induction d with
  | zero =>
    intro U V P S m i j hd hU
    exact absurd (List.length_eq_zero_iff.1 (by omega)) hU
  | succ d ih =>
    intro U V P S m i j hd hU hV hi hj hm hlen
    have lU : 0 < U.length := List.length_pos_iff.2 hU
    have lV : 0 < V.length := List.length_pos_iff.2 hV
    have e1 : wrap64 (m - i) = m - i := wr (by omega) (by omega)
    by_cases hij : i = j
    · have hs := sw_run U V P [] S (m - i) m i 0 (by omega) (by omega) (by simp only [List.length_nil]; omega) (by omega) (by omega) (by omega) (by omega) (Or.inl (by omega)) (by simp only [List.length_nil]; omega)
      simp only [List.nil_append] at hs
      refine Evt.step (g := fun k => (impl_Item_161.f k (P ++ (U ++ (V ++ S))) (m - i) m i).bind fun t => some t) (Evt.bind (f := fun k => impl_Item_161.f k (P ++ (U ++ (V ++ S))) (m - i) m i) (g := fun _ t => some t) hs (Evt.same fun _ => rfl)) fun k => ?_
      simp only [impl_Item_160.l0]
      rw [if_pos hij, e1]
    · by_cases hgt : i > j
      · obtain ⟨U1, U2, rfl, l1⟩ : ∃ U1 U2, U = U1 ++ U2 ∧ U1.length = V.length := ⟨U.take V.length, U.drop V.length, (List.take_append_drop _ _).symm, by rw [List.length_take]; omega⟩
        simp only [List.length_append] at hi hm hlen hd lU
        have l2 : 0 < U2.length := by omega
        have e2 : wrap64 (i - j) = i - j := wr (by omega) (by omega)
        have hs := sw_run U1 V P U2 S (m - i) m j 0 l1 (by omega) (by omega) (by omega) (by omega) (by omega) (by omega) (Or.inl (by omega)) (by omega)
        have hr := ih U2 U1 (P ++ V) S m (i - j) j (by omega) (fun e => by rw [e] at l2; exact absurd l2 (by decide)) (fun e => by rw [e] at l1; simp at l1; omega) (by omega) (by omega) (by simp only [List.length_append]; omega) (by simp only [List.length_append]; omega)
        have g1 : (P ++ V) ++ (U2 ++ (U1 ++ S)) = P ++ (V ++ (U2 ++ (U1 ++ S))) := by simp
        have g2 : (P ++ V) ++ (U1 ++ (U2 ++ S)) = P ++ (V ++ ((U1 ++ U2) ++ S)) := by simp
        have g3 : P ++ ((U1 ++ U2) ++ (V ++ S)) = P ++ (U1 ++ (U2 ++ (V ++ S))) := by simp
        rw [g1, g2] at hr
        rw [g3]
        refine Evt.step (g := fun k => (impl_Item_161.f k (P ++ (U1 ++ (U2 ++ (V ++ S)))) (m - i) m j).bind fun t => impl_Item_160.l0 k t m (i - j) j) (Evt.bind (f := fun k => impl_Item_161.f k (P ++ (U1 ++ (U2 ++ (V ++ S)))) (m - i) m j) (g := fun k t => impl_Item_160.l0 k t m (i - j) j) hs hr) fun k => ?_
        simp only [impl_Item_160.l0]
        rw [if_neg hij, if_pos hgt, e1, e2]
      · obtain ⟨V1, V2, rfl, l2⟩ : ∃ V1 V2, V = V1 ++ V2 ∧ V2.length = U.length := ⟨V.take (V.length - U.length), V.drop (V.length - U.length), (List.take_append_drop _ _).symm, by rw [List.length_drop]; omega⟩
        simp only [List.length_append] at hj hlen hd lV
        have l1 : 0 < V1.length := by omega
        have e2 : wrap64 (j - i) = j - i := wr (by omega) (by omega)
        have e3 : wrap64 (m + j) = m + j := wr (by omega) (by omega)
        have e4 : wrap64 (m + j - i) = m + j - i := wr (by omega) (by omega)
        have hs := sw_run U V2 P V1 S (m - i) (m + j - i) i 0 l2.symm (by omega) (by omega) (by omega) (by omega) (by omega) (by omega) (Or.inl (by omega)) (by omega)
        have hr := ih V2 V1 P (U ++ S) m i (j - i) (by omega) (fun e => by rw [e] at l2; simp at l2; omega) (fun e => by rw [e] at l1; exact absurd l1 (by decide)) (by omega) (by omega) (by omega) (by simp only [List.length_append]; omega)
        have g2 : P ++ (V1 ++ (V2 ++ (U ++ S))) = P ++ ((V1 ++ V2) ++ (U ++ S)) := by simp
        have g3 : P ++ (U ++ ((V1 ++ V2) ++ S)) = P ++ (U ++ (V1 ++ (V2 ++ S))) := by simp
        rw [g2] at hr
        rw [g3]
        refine Evt.step (g := fun k => (impl_Item_161.f k (P ++ (U ++ (V1 ++ (V2 ++ S)))) (m - i) (m + j - i) i).bind fun t => impl_Item_160.l0 k t m i (j - i)) (Evt.bind (f := fun k => impl_Item_161.f k (P ++ (U ++ (V1 ++ (V2 ++ S)))) (m - i) (m + j - i) i) (g := fun k t => impl_Item_160.l0 k t m i (j - i)) hs hr) fun k => ?_
        simp only [impl_Item_160.l0]
        rw [if_neg hij, if_neg hgt, e1, e2, e3, e4]
theorem ro_ok (U V P S : List S100) (s m e : Int) (hU : U ≠ []) (hV : V ≠ []) (hs : s = P.length) (hm : m = s + U.length) (he : e = m + V.length) (hlen : (P.length + U.length + V.length + S.length : Int) ≤ 1000000000000) :
    Evt (fun k => impl_Item_160.f k (P ++ (U ++ (V ++ S))) s m e) (P ++ (V ++ (U ++ S))) := by
  refine Evt.eq (ro_run _ U V P S m (m - s) (e - m) (Nat.le_refl _) hU hV (by omega) (by omega) (by omega) hlen) fun k => ?_
  unfold impl_Item_160.f
  rw [wr (n := m - s) (by omega) (by omega), wr (n := e - m) (by omega) (by omega)]

/-! ### sorting2:ById -/
/-! #### a sorted range takes up one element more -/
theorem split_ge {lt : S100 → S100 → Bool} (w : WO lt) (v : S100) : ∀ D : List S100, Srt lt D → ∃ A B, D = A ++ B ∧ (∀ y ∈ A, lt v y = false) ∧ (∀ y ∈ B, lt v y = true)
  | [], _ => ⟨[], [], rfl, by simp, by simp⟩
  | d :: D, h => by
    obtain ⟨h1, h2⟩ := srt_cons.1 h
    obtain ⟨A, B, rfl, ha, hb⟩ := split_ge w v D h2
    cases A with
    | nil =>
      by_cases e : lt v d = true
      · refine ⟨[], d :: B, rfl, by simp, fun y hy => ?_⟩
        rcases List.mem_cons.1 hy with q | q
        · rw [q]; exact e
        · exact hb y q
      · exact ⟨[d], B, rfl, fun y hy => by rw [List.mem_singleton.1 hy]; simpa using e, hb⟩
    | cons a A =>
      refine ⟨d :: a :: A, B, rfl, fun y hy => ?_, hb⟩
      rcases List.mem_cons.1 hy with q | q
      · rw [q]; exact w.tr v a d (ha a List.mem_cons_self) (h1 a (by simp))
      · exact ha y q
theorem split_lt {lt : S100 → S100 → Bool} (w : WO lt) (u : S100) : ∀ V : List S100, Srt lt V → ∃ A B, V = A ++ B ∧ (∀ y ∈ A, lt y u = true) ∧ (∀ y ∈ B, lt y u = false)
  | [], _ => ⟨[], [], rfl, by simp, by simp⟩
  | d :: D, h => by
    obtain ⟨h1, h2⟩ := srt_cons.1 h
    obtain ⟨A, B, rfl, ha, hb⟩ := split_lt w u D h2
    by_cases e : lt d u = true
    · refine ⟨d :: A, B, rfl, fun y hy => ?_, hb⟩
      rcases List.mem_cons.1 hy with q | q
      · rw [q]; exact e
      · exact ha y q
    · refine ⟨[], d :: (A ++ B), rfl, by simp, fun y hy => ?_⟩
      have e : lt d u = false := by simpa using e
      rcases List.mem_cons.1 hy with q | q
      · rw [q]; exact e
      · exact w.tr y d u (h1 y q) e
theorem is_l1 (n : Nat) : ∀ (A M : List S100), M.length = n → ∀ (P L S : List S100) (v : S100) (a b i j : Int) (W : List S100), (∀ y ∈ M, lt v y = true) → (∀ y ∈ A, lt v y = false) → a = P.length → j = P.length + A.length + M.length → 0 ≤ i → i ≤ 1000000000000 →
    (P.length + A.length + M.length + L.length + S.length : Int) ≤ 1000000000000 → Evt (fun k => impl_Item_158.l0 k (P ++ (A ++ v :: (M ++ (L ++ S)))) a b (i + 1)) W → Evt (fun k => impl_Item_158.l1 k (P ++ ((A ++ M) ++ v :: (L ++ S))) a b i j) W := by
  induction n with
  | zero =>
    intro A M hM P L S v a b i j W h1 h2 ha hj hi0 hi1 hlen hW
    have : M = [] := List.length_eq_zero_iff.1 hM
    subst this
    have ei : wrap64 (i + 1) = i + 1 := wr (by omega) (by omega)
    simp only [List.nil_append] at hW
    rw [List.append_nil]
    simp only [List.length_nil] at hj
    rcases List.eq_nil_or_concat A with rfl | ⟨A', u, rfl⟩
    · refine Evt.step hW fun k => ?_
      simp only [impl_Item_158.l1]
      simp only [List.length_nil] at hj
      rw [if_neg (by omega), ei]
    · simp only [List.concat_eq_append, List.length_append, List.length_cons, List.length_nil] at hj hlen h2 hW ⊢
      obtain ⟨N, hN⟩ := cmp_lt v u
      have ej : wrap64 (j - 1) = j - 1 := wr (by omega) (by omega)
      have hl : (P ++ ((A' ++ [u]) ++ v :: (L ++ S))).length = P.length + A'.length + 1 + 1 + L.length + S.length := by simp only [List.length_append, List.length_cons, List.length_nil]; omega
      have r1 : rd_T100 (P ++ ((A' ++ [u]) ++ v :: (L ++ S))) j = v := by
        have e : P ++ ((A' ++ [u]) ++ v :: (L ++ S)) = (P ++ (A' ++ [u])) ++ v :: (L ++ S) := by simp
        rw [e]; exact rd_mid _ _ _ _ (by simp only [List.length_append, List.length_cons, List.length_nil]; omega)
      have r2 : rd_T100 (P ++ ((A' ++ [u]) ++ v :: (L ++ S))) (j - 1) = u := by
        have e : P ++ ((A' ++ [u]) ++ v :: (L ++ S)) = (P ++ A') ++ u :: (v :: (L ++ S)) := by simp
        rw [e]; exact rd_mid _ _ _ _ (by simp only [List.length_append]; omega)
      have hvu : lt v u = false := h2 u (by simp)
      refine Evt.stepN 100 hW fun k hk => ?_
      obtain ⟨t, e1, e2⟩ := hN k hk
      simp only [impl_Item_158.l1]
      rw [ej, if_pos (by omega), if_pos (by omega), if_pos (by rw [hl]; omega), if_pos (by omega), if_pos (by rw [hl]; omega), r1, r2, e1]
      simp only [Option.bind_some]
      rw [if_neg (by rw [e2, hvu]; simp), ei]
  | succ n ih =>
    intro A M hM P L S v a b i j W h1 h2 ha hj hi0 hi1 hlen hW
    rcases List.eq_nil_or_concat M with rfl | ⟨M', u, rfl⟩
    · exact absurd hM (by simp)
    · simp only [List.concat_eq_append, List.length_append, List.length_cons, List.length_nil] at hM hj hlen h1 hW ⊢
      have hi := ih A M' (by omega) P (u :: L) S v a b i (j - 1) W (fun y hy => h1 y (by simp [hy])) h2 ha (by omega) hi0 hi1 (by simp only [List.length_cons]; omega)
        (by have e : P ++ (A ++ v :: (M' ++ (u :: L ++ S))) = P ++ (A ++ v :: ((M' ++ [u]) ++ (L ++ S))) := by simp
            rw [e]; exact hW)
      obtain ⟨N, hN⟩ := cmp_lt v u
      have ej : wrap64 (j - 1) = j - 1 := wr (by omega) (by omega)
      have hl : (P ++ ((A ++ (M' ++ [u])) ++ v :: (L ++ S))).length = P.length + A.length + M'.length + 1 + 1 + L.length + S.length := by simp only [List.length_append, List.length_cons, List.length_nil]; omega
      have e0 : P ++ ((A ++ (M' ++ [u])) ++ v :: (L ++ S)) = (P ++ (A ++ M')) ++ u :: ([] ++ v :: (L ++ S)) := by simp
      have r1 : rd_T100 (P ++ ((A ++ (M' ++ [u])) ++ v :: (L ++ S))) j = v := by
        have e : P ++ ((A ++ (M' ++ [u])) ++ v :: (L ++ S)) = (P ++ (A ++ (M' ++ [u]))) ++ v :: (L ++ S) := by simp
        rw [e]; exact rd_mid _ _ _ _ (by simp only [List.length_append, List.length_cons, List.length_nil]; omega)
      have r2 : rd_T100 (P ++ ((A ++ (M' ++ [u])) ++ v :: (L ++ S))) (j - 1) = u := by
        rw [e0]; exact rd_mid _ _ _ _ (by simp only [List.length_append]; omega)
      have hs := swap_back (P ++ (A ++ M')) [] (L ++ S) u v (j - 1) j (by simp only [List.length_append]; omega) (by simp only [List.length_append, List.length_nil]; omega)
      have hvu : lt v u = true := h1 u (by simp)
      refine Evt.stepN 100 hi fun k hk => ?_
      obtain ⟨t, e1, e2⟩ := hN k hk
      simp only [impl_Item_158.l1]
      rw [ej, if_pos (by omega), if_pos (by omega), if_pos (by rw [hl]; omega), if_pos (by omega), if_pos (by rw [hl]; omega), r1, r2, e1]
      simp only [Option.bind_some]
      rw [if_pos (by rw [e2, hvu]), if_neg (by omega), e0]
      have g : P ++ ((A ++ M') ++ v :: (u :: L ++ S)) = (P ++ (A ++ M')) ++ v :: ([] ++ u :: (L ++ S)) := by simp
      rw [g, ← hs]
      try rfl
theorem is_l0 : ∀ (R D P S : List S100) (a b i : Int), a = P.length → i = P.length + D.length → b = i + R.length → Srt lt D → (P.length + D.length + R.length + S.length : Int) ≤ 1000000000000 →
    ∃ D', Srt lt D' ∧ St lt (D ++ R) D' ∧ D'.length = D.length + R.length ∧ Evt (fun k => impl_Item_158.l0 k (P ++ (D ++ (R ++ S))) a b i) (P ++ (D' ++ S))
  | [], D, P, S, a, b, i, ha, hi, hb, hD, hlen => by
    refine ⟨D, hD, by rw [List.append_nil]; exact St.refl D, rfl, Evt.from 1 fun k => ?_⟩
    simp only [impl_Item_158.l0]
    simp only [List.length_nil] at hb
    rw [if_neg (by omega)]
    try rfl
  | v :: R, D, P, S, a, b, i, ha, hi, hb, hD, hlen => by
    simp only [List.length_cons] at hb hlen
    obtain ⟨A, B, rfl, h1, h2⟩ := split_ge lt_wo v D hD
    obtain ⟨s1, s2⟩ := ins_ok lt_wo hD h1 h2
    simp only [List.length_append] at hi hlen
    obtain ⟨D', d1, d2, d3, d4⟩ := is_l0 R (A ++ v :: B) P S a b (i + 1) ha (by simp only [List.length_append, List.length_cons]; omega) (by omega) s1 (by simp only [List.length_append, List.length_cons]; omega)
    refine ⟨D', d1, ?_, ?_, ?_⟩
    · have e : (A ++ B) ++ v :: R = ((A ++ B) ++ [v]) ++ R := by simp
      rw [e]; exact (s2.app (St.refl R)).trans d2
    · rw [d3]; simp only [List.length_append, List.length_cons]; omega
    · have g1 : P ++ ((A ++ v :: B) ++ (R ++ S)) = P ++ (A ++ v :: (B ++ ([] ++ (R ++ S)))) := by simp
      rw [g1] at d4
      have h := is_l1 B.length A B rfl P [] (R ++ S) v a b i i (P ++ (D' ++ S)) h2 h1 ha (by omega) (by omega) (by omega) (by simp only [List.length_append, List.length_nil]; omega) d4
      have g2 : P ++ ((A ++ B) ++ ((v :: R) ++ S)) = P ++ ((A ++ B) ++ v :: ([] ++ (R ++ S))) := by simp
      rw [g2]
      refine Evt.step h fun k => ?_
      simp only [impl_Item_158.l0]
      rw [if_pos (by omega)]
theorem is_ok (L P S : List S100) (a b : Int) (ha : a = P.length) (hb : b = a + L.length) (hlen : (P.length + L.length + S.length : Int) ≤ 1000000000000) :
    ∃ D, Srt lt D ∧ St lt L D ∧ D.length = L.length ∧ Evt (fun k => impl_Item_158.f k (P ++ (L ++ S)) a b) (P ++ (D ++ S)) := by
  have ea : wrap64 (a + 1) = a + 1 := wr (by omega) (by omega)
  cases L with
  | nil =>
    refine ⟨[], Srt.nil, St.refl _, rfl, Evt.from 1 fun k => ?_⟩
    unfold impl_Item_158.f
    simp only [impl_Item_158.l0]
    simp only [List.length_nil] at hb
    rw [ea, if_neg (by omega)]
  | cons v R =>
    simp only [List.length_cons] at hb hlen
    obtain ⟨D', d1, d2, d3, d4⟩ := is_l0 R [v] P S a b (a + 1) ha (by simp only [List.length_cons, List.length_nil]; omega) (by omega) (Srt.one v) (by simp only [List.length_cons, List.length_nil]; omega)
    refine ⟨D', d1, d2, by rw [d3]; simp only [List.length_cons, List.length_nil]; omega, Evt.eq d4 fun k => ?_⟩
    unfold impl_Item_158.f
    rw [ea]
    try rfl

/-! ### sorting3:ById -/
/-! #### two sorted neighbours become one -/
theorem srt_at {l : List S100} (h : Srt lt l) (i j : Nat) (hij : i ≤ j) (hj : j < l.length) : lt l[j] (l[i]'(by omega)) = false := by
  by_cases e : i = j
  · subst e; exact lt_wo.irr _
  · exact List.pairwise_iff_getElem.1 h i j (by omega) hj (by omega)
theorem sm_l1 (V : List S100) : ∀ (P S : List S100) (u : S100) (i t : Int), t = P.length → i - 1 = t + V.length → (P.length + V.length + S.length : Int) ≤ 1000000000000 →
    Evt (fun k => impl_Item_159.l1 k (P ++ u :: (V ++ S)) i t) (P ++ (V ++ u :: S)) := by
  induction V with
  | nil =>
    intro P S u i t ht hi hlen
    refine Evt.from 1 fun k => ?_
    simp only [impl_Item_159.l1]
    simp only [List.length_nil] at hi hlen
    rw [wr (n := i - 1) (by omega) (by omega), if_neg (by omega)]
    try rfl
  | cons v V ih =>
    intro P S u i t ht hi hlen
    simp only [List.length_cons] at hi hlen
    have hh := ih (P ++ [v]) S u i (t + 1) (by simp only [List.length_append, List.length_cons, List.length_nil]; omega) (by omega) (by simp only [List.length_append, List.length_cons, List.length_nil]; omega)
    have g1 : (P ++ [v]) ++ u :: (V ++ S) = P ++ v :: ([] ++ u :: (V ++ S)) := by simp
    have g2 : (P ++ [v]) ++ (V ++ u :: S) = P ++ ((v :: V) ++ u :: S) := by simp
    rw [g1, g2] at hh
    have e0 : P ++ u :: ((v :: V) ++ S) = P ++ u :: ([] ++ v :: (V ++ S)) := by simp
    have hl : (P ++ u :: ([] ++ v :: (V ++ S))).length = P.length + 1 + 1 + V.length + S.length := by simp only [List.length_append, List.length_cons, List.length_nil]; omega
    have r1 : rd_T100 (P ++ u :: ([] ++ v :: (V ++ S))) t = u := rd_mid _ _ _ _ ht
    have r2 : rd_T100 (P ++ u :: ([] ++ v :: (V ++ S))) (t + 1) = v := by
      have e : P ++ u :: ([] ++ v :: (V ++ S)) = (P ++ [u]) ++ v :: (V ++ S) := by simp
      rw [e]; exact rd_mid _ _ _ _ (by simp only [List.length_append, List.length_cons, List.length_nil]; omega)
    have hs := swap_far P [] (V ++ S) u v t (t + 1) ht (by simp only [List.length_nil]; omega)
    have e1 : wrap64 (i - 1) = i - 1 := wr (by omega) (by omega)
    have e2 : wrap64 (t + 1) = t + 1 := wr (by omega) (by omega)
    refine Evt.step hh fun k => ?_
    rw [e0]
    simp only [impl_Item_159.l1]
    rw [e1, e2, if_pos (by omega), if_pos (by omega), if_pos (by rw [hl]; omega), if_pos (by omega), if_pos (by rw [hl]; omega), if_neg (by omega), r1, r2, ← hs]
theorem sm_l3 (n : Nat) : ∀ (U : List S100), U.length = n → ∀ (P S : List S100) (v : S100) (i t : Int), i = P.length → t = i + U.length → (P.length + U.length + S.length : Int) ≤ 1000000000000 →
    Evt (fun k => impl_Item_159.l3 k (P ++ (U ++ v :: S)) i t) (P ++ v :: (U ++ S)) := by
  induction n with
  | zero =>
    intro U hU P S v i t hi ht hlen
    have : U = [] := List.length_eq_zero_iff.1 hU
    subst this
    refine Evt.from 1 fun k => ?_
    simp only [impl_Item_159.l3]
    simp only [List.length_nil] at ht
    rw [if_neg (by omega)]
    try rfl
  | succ n ih =>
    intro U hU P S v i t hi ht hlen
    rcases List.eq_nil_or_concat U with rfl | ⟨U', u, rfl⟩
    · exact absurd hU (by simp)
    · simp only [List.concat_eq_append, List.length_append, List.length_cons, List.length_nil] at hU ht hlen ⊢
      have hh := ih U' (by omega) P (u :: S) v i (t - 1) hi (by omega) (by simp only [List.length_cons]; omega)
      have g2 : P ++ v :: (U' ++ u :: S) = P ++ v :: ((U' ++ [u]) ++ S) := by simp
      rw [g2] at hh
      have e0 : P ++ ((U' ++ [u]) ++ v :: S) = (P ++ U') ++ u :: ([] ++ v :: S) := by simp
      have g1 : P ++ (U' ++ v :: (u :: S)) = (P ++ U') ++ v :: ([] ++ u :: S) := by simp
      have hl : ((P ++ U') ++ u :: ([] ++ v :: S)).length = P.length + U'.length + 1 + 1 + S.length := by simp only [List.length_append, List.length_cons, List.length_nil]; omega
      have r1 : rd_T100 ((P ++ U') ++ u :: ([] ++ v :: S)) t = v := by
        have e : (P ++ U') ++ u :: ([] ++ v :: S) = (P ++ (U' ++ [u])) ++ v :: S := by simp
        rw [e]; exact rd_mid _ _ _ _ (by simp only [List.length_append, List.length_cons, List.length_nil]; omega)
      have r2 : rd_T100 ((P ++ U') ++ u :: ([] ++ v :: S)) (t - 1) = u := rd_mid _ _ _ _ (by simp only [List.length_append]; omega)
      have hs := swap_back (P ++ U') [] S u v (t - 1) t (by simp only [List.length_append]; omega) (by simp only [List.length_append, List.length_nil]; omega)
      have e2 : wrap64 (t - 1) = t - 1 := wr (by omega) (by omega)
      refine Evt.step hh fun k => ?_
      rw [e0, g1]
      simp only [impl_Item_159.l3]
      rw [e2, if_pos (by omega), if_pos (by omega), if_pos (by rw [hl]; omega), if_pos (by omega), if_pos (by rw [hl]; omega), if_neg (by omega), r1, r2, ← hs]
theorem sm_l0 (x : List S100) (a r : Nat) (W : List S100) (hx : (x.length : Int) ≤ 1000000000000) (ha : a < x.length) : ∀ (d lo hi : Nat), hi - lo ≤ d → hi ≤ x.length → Bound (fun h => lt (rd_T100 x h) (rd_T100 x a)) lo hi r →
    Evt (fun k => impl_Item_159.l1 k x r a) W → Evt (fun k => impl_Item_159.l0 k x a lo hi) W := by
  intro d
  induction d with
  | zero =>
    intro lo hi hd hhi hb hW
    have : r = lo := by have := hb.ge; have := hb.le; omega
    subst this
    refine Evt.step hW fun k => ?_
    simp only [impl_Item_159.l0]
    rw [if_neg (by have := hb.le; omega)]
  | succ d ih =>
    intro lo hi hd hhi hb hW
    by_cases hlt : lo < hi
    · obtain ⟨h, eh⟩ : ∃ h : Nat, h = (lo + hi) / 2 := ⟨_, rfl⟩
      have em : wrap64 ((IntKind.u64.wrap (wrap64 ((lo : Int) + hi))) / 2) = (h : Int) := by rw [mid_eq (by omega) (by omega)]; omega
      have em1 : wrap64 ((h : Int) + 1) = ((h + 1 : Nat) : Int) := by rw [wr (by omega) (by omega)]; omega
      have hbh := hb.iff h (by omega) (by omega)
      obtain ⟨N, hN⟩ := cmp_lt (rd_T100 x h) (rd_T100 x a)
      by_cases hp : lt (rd_T100 x h) (rd_T100 x a) = true
      · have hr := hbh.1 hp
        have hb' : Bound (fun h => lt (rd_T100 x h) (rd_T100 x a)) (h + 1) hi r := ⟨by omega, hb.le, fun g g1 g2 => hb.iff g (by omega) g2⟩
        refine Evt.stepN 100 (ih (h + 1) hi (by omega) hhi hb' hW) fun k hk => ?_
        obtain ⟨t, e1, e2⟩ := hN k hk
        simp only [impl_Item_159.l0]
        rw [em, if_pos (by omega), if_pos (by omega), if_pos (by omega), if_pos (by omega), if_pos (by omega), e1]
        simp only [Option.bind_some]
        rw [if_pos (e2.2 hp), em1]
      · have hr : ¬ h < r := fun q => hp (hbh.2 q)
        have hb' : Bound (fun h => lt (rd_T100 x h) (rd_T100 x a)) lo h r := ⟨hb.ge, by omega, fun g g1 g2 => hb.iff g g1 (by omega)⟩
        refine Evt.stepN 100 (ih lo h (by omega) (by omega) hb' hW) fun k hk => ?_
        obtain ⟨t, e1, e2⟩ := hN k hk
        simp only [impl_Item_159.l0]
        rw [em, if_pos (by omega), if_pos (by omega), if_pos (by omega), if_pos (by omega), if_pos (by omega), e1]
        simp only [Option.bind_some]
        rw [if_neg (fun q => hp (e2.1 q))]
    · have : r = lo := by have := hb.ge; have := hb.le; omega
      subst this
      refine Evt.step hW fun k => ?_
      simp only [impl_Item_159.l0]
      rw [if_neg (by omega)]
theorem sm_l2 (x : List S100) (m r : Nat) (W : List S100) (hx : (x.length : Int) ≤ 1000000000000) (hm : m < x.length) : ∀ (d lo hi : Nat), hi - lo ≤ d → hi ≤ x.length → Bound (fun h => !lt (rd_T100 x m) (rd_T100 x h)) lo hi r →
    Evt (fun k => impl_Item_159.l3 k x r m) W → Evt (fun k => impl_Item_159.l2 k x m lo hi) W := by
  intro d
  induction d with
  | zero =>
    intro lo hi hd hhi hb hW
    have : r = lo := by have := hb.ge; have := hb.le; omega
    subst this
    refine Evt.step hW fun k => ?_
    simp only [impl_Item_159.l2]
    rw [if_neg (by have := hb.le; omega)]
  | succ d ih =>
    intro lo hi hd hhi hb hW
    by_cases hlt : lo < hi
    · obtain ⟨h, eh⟩ : ∃ h : Nat, h = (lo + hi) / 2 := ⟨_, rfl⟩
      have em : wrap64 ((IntKind.u64.wrap (wrap64 ((lo : Int) + hi))) / 2) = (h : Int) := by rw [mid_eq (by omega) (by omega)]; omega
      have em1 : wrap64 ((h : Int) + 1) = ((h + 1 : Nat) : Int) := by rw [wr (by omega) (by omega)]; omega
      have hbh := hb.iff h (by omega) (by omega)
      simp only [Bool.not_eq_true'] at hbh
      obtain ⟨N, hN⟩ := cmp_lt (rd_T100 x m) (rd_T100 x h)
      by_cases hp : lt (rd_T100 x m) (rd_T100 x h) = true
      · have hr : ¬ h < r := fun q => by have := hbh.2 q; rw [hp] at this; cases this
        have hb' : Bound (fun h => !lt (rd_T100 x m) (rd_T100 x h)) lo h r := ⟨hb.ge, by omega, fun g g1 g2 => hb.iff g g1 (by omega)⟩
        refine Evt.stepN 100 (ih lo h (by omega) (by omega) hb' hW) fun k hk => ?_
        obtain ⟨t, e1, e2⟩ := hN k hk
        simp only [impl_Item_159.l2]
        rw [em, if_pos (by omega), if_pos (by omega), if_pos (by omega), if_pos (by omega), if_pos (by omega), e1]
        simp only [Option.bind_some]
        rw [if_pos (e2.2 hp)]
      · have hr : h < r := hbh.1 (by simpa using hp)
        have hb' : Bound (fun h => !lt (rd_T100 x m) (rd_T100 x h)) (h + 1) hi r := ⟨by omega, hb.le, fun g g1 g2 => hb.iff g (by omega) g2⟩
        refine Evt.stepN 100 (ih (h + 1) hi (by omega) hhi hb' hW) fun k hk => ?_
        obtain ⟨t, e1, e2⟩ := hN k hk
        simp only [impl_Item_159.l2]
        rw [em, if_pos (by omega), if_pos (by omega), if_pos (by omega), if_pos (by omega), if_pos (by omega), e1]
        simp only [Option.bind_some]
        rw [if_neg (fun q => hp (e2.1 q)), em1]
    · have : r = lo := by have := hb.ge; have := hb.le; omega
      subst this
      refine Evt.step hW fun k => ?_
      simp only [impl_Item_159.l2]
      rw [if_neg (by omega)]
theorem mid_nat (lo hi : Nat) (h : (hi : Int) ≤ 1000000000000) (hl : lo ≤ hi) : wrap64 ((IntKind.u64.wrap (wrap64 ((lo : Int) + hi))) / 2) = (((lo + hi) / 2 : Nat) : Int) := by
  rw [mid_eq (by omega) (by omega)]; omega
theorem sm_l4 (x : List S100) (a m b mid n s p : Nat) (W : List S100) (hx : (x.length : Int) ≤ 1000000000000) (hn : n ≤ 3 * x.length) (hs : s ≤ n) : ∀ (d lo hi : Nat), hi - lo ≤ d → hi ≤ x.length → hi ≤ p → p < lo + x.length → Bound (fun c => !lt (rd_T100 x ((p - c : Nat) : Int)) (rd_T100 x c)) lo hi s →
    Evt (fun k => impl_Item_159.j6 k x a m b mid s ((n - s : Nat) : Int) (decide (s < m ∧ m < n - s))) W → Evt (fun k => impl_Item_159.l4 k x a m b mid n lo hi p) W := by
  have exit : Evt (fun k => impl_Item_159.j6 k x a m b mid s ((n - s : Nat) : Int) (decide (s < m ∧ m < n - s))) W → ∀ hi : Nat, hi ≤ s → Evt (fun k => impl_Item_159.l4 k x a m b mid n s hi p) W := by
    intro hW hi hhi
    have en : wrap64 ((n : Int) - s) = ((n - s : Nat) : Int) := by rw [wr (by omega) (by omega)]; omega
    refine Evt.step hW fun k => ?_
    simp only [impl_Item_159.l4]
    rw [if_neg (by omega), en]
    by_cases h1 : s < m
    · have e1 : decide (s < m ∧ m < n - s) = decide ((m : Int) < ((n - s : Nat) : Int)) := decide_eq_decide.2 ⟨fun q => Int.ofNat_lt.2 q.2, fun q => ⟨h1, Int.ofNat_lt.1 q⟩⟩
      rw [if_pos (Int.ofNat_lt.2 h1), e1]
    · have e1 : decide (s < m ∧ m < n - s) = false := decide_eq_false fun q => h1 q.1
      rw [if_neg (fun q => h1 (Int.ofNat_lt.1 q)), e1]
  clear hn hs
  intro d
  induction d with
  | zero =>
    intro lo hi hd hhi hhp hpl hb hW
    have : s = lo := by have := hb.ge; have := hb.le; omega
    subst this
    exact exit hW hi (by omega)
  | succ d ih =>
    intro lo hi hd hhi hhp hpl hb hW
    by_cases hlt : lo < hi
    · obtain ⟨h, eh⟩ : ∃ h : Nat, h = (lo + hi) / 2 := ⟨_, rfl⟩
      have em : wrap64 ((IntKind.u64.wrap (wrap64 ((lo : Int) + hi))) / 2) = (h : Int) := by rw [mid_nat lo hi (Int.le_trans (Int.ofNat_le.2 hhi) hx) (Nat.le_of_lt hlt), eh]
      have em1 : wrap64 ((h : Int) + 1) = ((h + 1 : Nat) : Int) := by rw [wr (by omega) (by omega)]; omega
      have ep : wrap64 ((p : Int) - h) = ((p - h : Nat) : Int) := by rw [wr (by omega) (by omega)]; omega
      have hbh := hb.iff h (by omega) (by omega)
      simp only [Bool.not_eq_true'] at hbh
      obtain ⟨N, hN⟩ := cmp_lt (rd_T100 x ((p - h : Nat) : Int)) (rd_T100 x h)
      by_cases hp : lt (rd_T100 x ((p - h : Nat) : Int)) (rd_T100 x h) = true
      · have hr : ¬ h < s := fun q => by have := hbh.2 q; rw [hp] at this; cases this
        have hb' : Bound (fun c => !lt (rd_T100 x ((p - c : Nat) : Int)) (rd_T100 x c)) lo h s := ⟨hb.ge, by omega, fun g g1 g2 => hb.iff g g1 (by omega)⟩
        refine Evt.stepN 100 (ih lo h (by omega) (by omega) (by omega) hpl hb' hW) fun k hk => ?_
        obtain ⟨t, e1, e2⟩ := hN k hk
        simp only [impl_Item_159.l4]
        rw [em, ep, if_pos (by omega), if_pos (by omega), if_pos (by omega), if_pos (by omega), if_pos (by omega), e1]
        simp only [Option.bind_some]
        rw [if_pos (e2.2 hp)]
      · have hr : h < s := hbh.1 (by simpa using hp)
        have hb' : Bound (fun c => !lt (rd_T100 x ((p - c : Nat) : Int)) (rd_T100 x c)) (h + 1) hi s := ⟨by omega, hb.le, fun g g1 g2 => hb.iff g (by omega) g2⟩
        refine Evt.stepN 100 (ih (h + 1) hi (by omega) hhi hhp (by omega) hb' hW) fun k hk => ?_
        obtain ⟨t, e1, e2⟩ := hN k hk
        simp only [impl_Item_159.l4]
        rw [em, ep, if_pos (by omega), if_pos (by omega), if_pos (by omega), if_pos (by omega), if_pos (by omega), e1]
        simp only [Option.bind_some]
        rw [if_neg (fun q => hp (e2.1 q)), em1]
    · have : s = lo := by have := hb.ge; have := hb.le; omega
      subst this
      exact exit hW hi (by omega)

/-! ### sorting4:ById -/
theorem sm_j8 {x Y W : List S100} {a b mid s e : Int} {fl : Bool} (h1 : fl = true → Evt (fun k => impl_Item_159.f k x a s mid) Y) (h1' : fl = false → x = Y)
    (h2 : mid < e → e < b → Evt (fun k => impl_Item_159.f k Y mid e b) W) (h2' : ¬ (mid < e ∧ e < b) → Y = W) : Evt (fun k => impl_Item_159.j8 k x a b mid s e fl) W := by
  have tail : Evt (fun k => if mid < e then (if e < b then (impl_Item_159.f k Y mid e b).bind fun t => some t else some Y) else some Y) W := by
    by_cases p : mid < e
    · by_cases q : e < b
      · refine Evt.eq (Evt.bind (h2 p q) (g := fun _ t => some t) (Evt.same fun _ => rfl)) fun k => ?_
        rw [if_pos p, if_pos q]
      · have := h2' (fun z => q z.2)
        subst this
        exact Evt.same fun k => by rw [if_pos p, if_neg q]
    · have := h2' (fun z => p z.1)
      subst this
      exact Evt.same fun k => by rw [if_neg p]
  cases fl with
  | true =>
    refine Evt.step (g := fun k => (impl_Item_159.f k x a s mid).bind fun t => if mid < e then (if e < b then (impl_Item_159.f k t mid e b).bind fun t => some t else some t) else some t) (Evt.bind (f := fun k => impl_Item_159.f k x a s mid) (g := fun k t => if mid < e then (if e < b then (impl_Item_159.f k t mid e b).bind fun t => some t else some t) else some t) (h1 rfl) tail) fun k => ?_
    simp only [impl_Item_159.j8, if_true]
  | false =>
    have := h1' rfl
    subst this
    refine Evt.step tail fun k => ?_
    simp only [impl_Item_159.j8]
    try rfl
theorem bound_split (x P0 A B S : List S100) (p : S100 → Bool) (hx : x = P0 ++ (A ++ (B ++ S))) (hA : ∀ y ∈ A, p y = true) (hB : ∀ y ∈ B, p y = false) :
    Bound (fun h => p (rd_T100 x h)) P0.length (P0.length + A.length + B.length) (P0.length + A.length) := by
  subst hx
  refine ⟨by omega, by omega, fun h h1 h2 => ?_⟩
  by_cases q : h < P0.length + A.length
  · have e : rd_T100 (P0 ++ (A ++ (B ++ S))) h = A[h - P0.length]'(by omega) := rd_in P0 A (B ++ S) h (h - P0.length) (by omega) (by omega)
    rw [e]
    exact ⟨fun _ => q, fun _ => hA _ (List.getElem_mem _)⟩
  · have e0 : P0 ++ (A ++ (B ++ S)) = (P0 ++ A) ++ (B ++ S) := by simp
    have e : rd_T100 (P0 ++ (A ++ (B ++ S))) h = B[h - P0.length - A.length]'(by omega) := by
      rw [e0]; exact rd_in (P0 ++ A) B S h (h - P0.length - A.length) (by rw [List.length_append]; omega) (by omega)
    rw [e, hB _ (List.getElem_mem _)]
    exact ⟨fun z => (by cases z), fun z => absurd z q⟩
theorem sm_one_left (u : S100) (P V S : List S100) (hV : Srt lt V) (hlen : (P.length + 1 + V.length + S.length : Int) ≤ 1000000000000) :
    ∃ W, Srt lt W ∧ St lt ([u] ++ V) W ∧ W.length = 1 + V.length ∧ ∀ a m b : Int, a = P.length → m = P.length + 1 → b = P.length + 1 + V.length → Evt (fun k => impl_Item_159.f k (P ++ ([u] ++ (V ++ S))) a m b) (P ++ (W ++ S)) := by
  obtain ⟨A, B, rfl, hA, hB⟩ := split_lt lt_wo u V hV
  obtain ⟨sA, sB, sAB⟩ := srt_app.1 hV
  simp only [List.length_append] at hlen ⊢
  refine ⟨A ++ u :: B, srt_app.2 ⟨sA, srt_cons.2 ⟨hB, sB⟩, fun x hx y hy => ?_⟩, ?_, by simp only [List.length_append, List.length_cons]; omega, ?_⟩
  · rcases List.mem_cons.1 hy with q | q
    · rw [q]; exact lt_wo.asy _ _ (hA x hx)
    · exact sAB x hx y q
  · have e1 : [u] ++ (A ++ B) = ([u] ++ A) ++ B := by simp
    have e2 : A ++ u :: B = (A ++ [u]) ++ B := by simp
    rw [e1, e2]
    exact (St.swap lt_wo fun x hx y hy => by rw [List.mem_singleton.1 hx]; exact hA y hy).app (St.refl B)
  · intro a m b ha hm hb
    have h1 := sm_l1 A P (B ++ S) u (((P.length + 1 + A.length : Nat)) : Int) (P.length : Int) rfl (by omega) (by simp only [List.length_append]; omega)
    have hl : (P ++ u :: (A ++ (B ++ S))).length = P.length + 1 + A.length + B.length + S.length := by simp only [List.length_append, List.length_cons]; omega
    have ra : rd_T100 (P ++ u :: (A ++ (B ++ S))) (P.length : Int) = u := rd_mid _ _ _ _ rfl
    have hb2 := bound_split (P ++ u :: (A ++ (B ++ S))) (P ++ [u]) A B S (fun y => lt y (rd_T100 (P ++ u :: (A ++ (B ++ S))) (P.length : Int))) (by simp) (by rw [ra]; exact hA) (by rw [ra]; exact hB)
    simp only [List.length_append, List.length_cons, List.length_nil] at hb2
    have h0 := sm_l0 (P ++ u :: (A ++ (B ++ S))) P.length (P.length + 1 + A.length) (P ++ (A ++ u :: (B ++ S))) (by rw [hl]; omega) (by rw [hl]; omega) _ (P.length + 1) (P.length + 1 + A.length + B.length) (Nat.le_refl _) (by rw [hl]; omega) hb2 h1
    have g1 : P ++ ([u] ++ ((A ++ B) ++ S)) = P ++ u :: (A ++ (B ++ S)) := by simp
    have g2 : P ++ ((A ++ u :: B) ++ S) = P ++ (A ++ u :: (B ++ S)) := by simp
    rw [g1, g2]
    refine Evt.step h0 fun k => ?_
    simp only [impl_Item_159.f]
    have em : m = ((P.length + 1 : Nat) : Int) := by omega
    have eb : b = ((P.length + 1 + A.length + B.length : Nat) : Int) := by omega
    rw [wr (n := m - a) (by omega) (by omega), if_pos (by omega), ha, em, eb]
theorem sm_one_right (v : S100) (P U S : List S100) (hU : Srt lt U) (h2 : 2 ≤ U.length) (hlen : (P.length + U.length + 1 + S.length : Int) ≤ 1000000000000) :
    ∃ W, Srt lt W ∧ St lt (U ++ [v]) W ∧ W.length = U.length + 1 ∧ ∀ a m b : Int, a = P.length → m = P.length + U.length → b = P.length + U.length + 1 → Evt (fun k => impl_Item_159.f k (P ++ (U ++ ([v] ++ S))) a m b) (P ++ (W ++ S)) := by
  obtain ⟨A, B, rfl, hA, hB⟩ := split_ge lt_wo v U hU
  obtain ⟨s1, s2⟩ := ins_ok lt_wo hU hA hB
  simp only [List.length_append] at hlen h2 ⊢
  refine ⟨A ++ v :: B, s1, s2, by simp only [List.length_append, List.length_cons]; omega, ?_⟩
  intro a m b ha hm hb
  have h1 := sm_l3 B.length B rfl (P ++ A) S v (((P.length + A.length : Nat)) : Int) (((P.length + A.length + B.length : Nat)) : Int) (by simp only [List.length_append]) (by omega) (by simp only [List.length_append]; omega)
  have hl : ((P ++ A) ++ (B ++ v :: S)).length = P.length + A.length + B.length + 1 + S.length := by simp only [List.length_append, List.length_cons]; omega
  have ra : rd_T100 ((P ++ A) ++ (B ++ v :: S)) ((P.length + A.length + B.length : Nat) : Int) = v := by
    have e : (P ++ A) ++ (B ++ v :: S) = ((P ++ A) ++ B) ++ v :: S := by simp
    rw [e]; exact rd_mid _ _ _ _ (by simp only [List.length_append])
  have hb2 := bound_split ((P ++ A) ++ (B ++ v :: S)) P A B ([v] ++ S) (fun y => !lt (rd_T100 ((P ++ A) ++ (B ++ v :: S)) ((P.length + A.length + B.length : Nat) : Int)) y) (by simp) (by rw [ra]; intro y hy; rw [hA y hy]; rfl) (by rw [ra]; intro y hy; rw [hB y hy]; rfl)
  have h0 := sm_l2 ((P ++ A) ++ (B ++ v :: S)) (P.length + A.length + B.length) (P.length + A.length) ((P ++ A) ++ v :: (B ++ S)) (by rw [hl]; omega) (by rw [hl]; omega) _ P.length (P.length + A.length + B.length) (Nat.le_refl _) (by rw [hl]; omega) hb2 h1
  have g1 : P ++ ((A ++ B) ++ ([v] ++ S)) = (P ++ A) ++ (B ++ v :: S) := by simp
  have g2 : P ++ ((A ++ v :: B) ++ S) = (P ++ A) ++ v :: (B ++ S) := by simp
  rw [g1, g2]
  refine Evt.step h0 fun k => ?_
  simp only [impl_Item_159.f]
  have em : m = ((P.length + A.length + B.length : Nat) : Int) := by omega
  rw [wr (n := m - a) (by omega) (by omega), if_neg (by omega), wr (n := b - m) (by omega) (by omega), if_pos (by omega), ha, em]

/-! ### sorting5:ById -/
def SmP (d : Nat) : Prop := ∀ P U V S : List S100, U.length + V.length ≤ d → 0 < U.length → 0 < V.length → Srt lt U → Srt lt V → (P.length + U.length + V.length + S.length : Int) ≤ 1000000000000 →
    ∃ W, Srt lt W ∧ St lt (U ++ V) W ∧ W.length = U.length + V.length ∧ ∀ a m b : Int, a = P.length → m = P.length + U.length → b = P.length + U.length + V.length → Evt (fun k => impl_Item_159.f k (P ++ (U ++ (V ++ S))) a m b) (P ++ (W ++ S))
theorem sm_part (d : Nat) (ih : SmP d) (P U V S : List S100) (h : U.length + V.length ≤ d) (hU : Srt lt U) (hV : Srt lt V) (hlen : (P.length + U.length + V.length + S.length : Int) ≤ 1000000000000) :
    ∃ W, Srt lt W ∧ St lt (U ++ V) W ∧ W.length = U.length + V.length ∧ (0 < U.length → 0 < V.length → ∀ a m b : Int, a = P.length → m = P.length + U.length → b = P.length + U.length + V.length → Evt (fun k => impl_Item_159.f k (P ++ (U ++ (V ++ S))) a m b) (P ++ (W ++ S))) ∧ (¬ (0 < U.length ∧ 0 < V.length) → W = U ++ V) := by
  by_cases q : 0 < U.length ∧ 0 < V.length
  · obtain ⟨W, w1, w2, w3, w4⟩ := ih P U V S h q.1 q.2 hU hV hlen
    exact ⟨W, w1, w2, w3, fun _ _ => w4, fun z => absurd q z⟩
  · refine ⟨U ++ V, ?_, St.refl _, by rw [List.length_append], fun z1 z2 => absurd ⟨z1, z2⟩ q, fun _ => rfl⟩
    by_cases qu : 0 < U.length
    · have : V = [] := List.length_eq_zero_iff.1 (by omega)
      subst this
      rw [List.append_nil]; exact hU
    · have : U = [] := List.length_eq_zero_iff.1 (by omega)
      subst this
      rw [List.nil_append]; exact hV
theorem sm_tail {P U1 U2 V1 V2 W1 W2 S : List S100} {a m b mid s e : Nat} (ea : a = P.length) (es : s = a + U1.length) (emid : mid = s + V1.length) (em : m = s + U2.length) (ee : e = mid + U2.length) (eb : b = e + V2.length)
    (hlen : (b + S.length : Int) ≤ 1000000000000) (l1 : W1.length = U1.length + V1.length)
    (x1 : 0 < U1.length → 0 < V1.length → ∀ a m b : Int, a = P.length → m = P.length + U1.length → b = P.length + U1.length + V1.length → Evt (fun k => impl_Item_159.f k (P ++ (U1 ++ (V1 ++ (U2 ++ (V2 ++ S))))) a m b) (P ++ (W1 ++ (U2 ++ (V2 ++ S)))))
    (x1' : ¬ (0 < U1.length ∧ 0 < V1.length) → W1 = U1 ++ V1)
    (x2 : 0 < U2.length → 0 < V2.length → ∀ a m b : Int, a = (P ++ W1).length → m = (P ++ W1).length + U2.length → b = (P ++ W1).length + U2.length + V2.length → Evt (fun k => impl_Item_159.f k ((P ++ W1) ++ (U2 ++ (V2 ++ S))) a m b) ((P ++ W1) ++ (W2 ++ S)))
    (x2' : ¬ (0 < U2.length ∧ 0 < V2.length) → W2 = U2 ++ V2) :
    Evt (fun k => impl_Item_159.j6 k (P ++ ((U1 ++ U2) ++ ((V1 ++ V2) ++ S))) a m b mid s e (decide (s < m ∧ m < e))) (P ++ ((W1 ++ W2) ++ S)) := by
  have e8 : ∀ fl : Bool, (fl = true ↔ (a < s ∧ s < mid)) → Evt (fun k => impl_Item_159.j8 k (P ++ (U1 ++ (V1 ++ (U2 ++ (V2 ++ S))))) a b mid s e fl) (P ++ ((W1 ++ W2) ++ S)) := by
    intro fl hfl
    refine sm_j8 (Y := P ++ (W1 ++ (U2 ++ (V2 ++ S)))) (fun h => ?_) (fun h => ?_) (fun h h' => ?_) (fun h => ?_)
    · have := hfl.1 h
      exact x1 (by omega) (by omega) _ _ _ (by omega) (by omega) (by omega)
    · have hn : ¬ (a < s ∧ s < mid) := fun z => by rw [hfl.2 z] at h; cases h
      rw [x1' (by omega)]; simp
    · have := x2 (by omega) (by omega) (mid : Int) (e : Int) (b : Int) (by rw [List.length_append]; omega) (by rw [List.length_append]; omega) (by rw [List.length_append]; omega)
      have g1 : (P ++ W1) ++ (U2 ++ (V2 ++ S)) = P ++ (W1 ++ (U2 ++ (V2 ++ S))) := by simp
      have g2 : (P ++ W1) ++ (W2 ++ S) = P ++ ((W1 ++ W2) ++ S) := by simp
      rw [g1, g2] at this
      exact this
    · rw [x2' (by omega)]; simp
  have e7 : Evt (fun k => impl_Item_159.j7 k (P ++ (U1 ++ (V1 ++ (U2 ++ (V2 ++ S))))) a b mid s e) (P ++ ((W1 ++ W2) ++ S)) := by
    by_cases q : a < s
    · refine Evt.step (e8 (decide ((s : Int) < mid)) (by rw [decide_eq_true_eq]; omega)) fun k => ?_
      simp only [impl_Item_159.j7]
      rw [if_pos (by omega)]
    · refine Evt.step (e8 false (by constructor; · intro z; cases z
                                    · intro z; omega)) fun k => ?_
      simp only [impl_Item_159.j7]
      rw [if_neg (by omega)]
  by_cases q : s < m ∧ m < e
  · have hr := ro_ok U2 V1 (P ++ U1) (V2 ++ S) (s : Int) (m : Int) (e : Int) (fun z => by rw [z] at em; simp only [List.length_nil] at em; omega) (fun z => by rw [z] at emid; simp only [List.length_nil] at emid; omega) (by rw [List.length_append]; omega) (by omega) (by omega) (by simp only [List.length_append]; omega)
    have g1 : (P ++ U1) ++ (U2 ++ (V1 ++ (V2 ++ S))) = P ++ ((U1 ++ U2) ++ ((V1 ++ V2) ++ S)) := by simp
    have g2 : (P ++ U1) ++ (V1 ++ (U2 ++ (V2 ++ S))) = P ++ (U1 ++ (V1 ++ (U2 ++ (V2 ++ S)))) := by simp
    rw [g1, g2] at hr
    rw [decide_eq_true q]
    refine Evt.step (g := fun k => (impl_Item_160.f k (P ++ ((U1 ++ U2) ++ ((V1 ++ V2) ++ S))) s m e).bind fun t => impl_Item_159.j7 k t a b mid s e) (Evt.bind (f := fun k => impl_Item_160.f k (P ++ ((U1 ++ U2) ++ ((V1 ++ V2) ++ S))) s m e) (g := fun k t => impl_Item_159.j7 k t a b mid s e) hr e7) fun k => ?_
    simp only [impl_Item_159.j6, if_true]
  · have g : P ++ ((U1 ++ U2) ++ ((V1 ++ V2) ++ S)) = P ++ (U1 ++ (V1 ++ (U2 ++ (V2 ++ S)))) := by
      by_cases q2 : s < m
      · have : V1 = [] := List.length_eq_zero_iff.1 (by omega)
        subst this; simp
      · have : U2 = [] := List.length_eq_zero_iff.1 (by omega)
        subst this; simp
    rw [decide_eq_false q, g]
    refine Evt.step e7 fun k => ?_
    simp only [impl_Item_159.j6]
    try rfl
def Lh (mid m lo b n hi a : Nat) : Prop := (mid < m ∧ lo + b = n ∧ hi = mid) ∨ (¬ mid < m ∧ lo = a ∧ hi = m)
def Md (mid a b : Nat) : Prop := mid = (a + b) / 2
theorem wr_add (x y z : Nat) (h : z = x + y) (hz : z ≤ 4000000000000) : wrap64 ((x : Int) + y) = (z : Int) := by
  rw [wr (by omega) (by omega)]; omega
theorem wr_sub (x y z : Nat) (h : x = z + y) (hz : x ≤ 4000000000000) : wrap64 ((x : Int) - y) = (z : Int) := by
  rw [wr (by omega) (by omega)]; omega
theorem sm_gen (d : Nat) (ih : SmP d) (P U V S : List S100) (hd : U.length + V.length ≤ d + 1) (lU : 2 ≤ U.length) (lV : 2 ≤ V.length) (hU : Srt lt U) (hV : Srt lt V) (hlen : (P.length + U.length + V.length + S.length : Int) ≤ 1000000000000) :
    ∃ W, Srt lt W ∧ St lt (U ++ V) W ∧ W.length = U.length + V.length ∧ ∀ a m b : Int, a = P.length → m = P.length + U.length → b = P.length + U.length + V.length → Evt (fun k => impl_Item_159.f k (P ++ (U ++ (V ++ S))) a m b) (P ++ (W ++ S)) := by
  obtain ⟨a, ea⟩ : ∃ a : Nat, a = P.length := ⟨_, rfl⟩
  obtain ⟨m, em⟩ : ∃ m : Nat, m = a + U.length := ⟨_, rfl⟩
  obtain ⟨b, eb⟩ : ∃ b : Nat, b = m + V.length := ⟨_, rfl⟩
  obtain ⟨mid, emid, em1, em2⟩ : ∃ mid : Nat, Md mid a b ∧ 2 * mid ≤ a + b ∧ a + b ≤ 2 * mid + 1 := ⟨(a + b) / 2, rfl, by omega, by omega⟩
  obtain ⟨n, en⟩ : ∃ n : Nat, n = mid + m := ⟨_, rfl⟩
  obtain ⟨lo, hi, hlh⟩ : ∃ lo hi : Nat, Lh mid m lo b n hi a := by
    by_cases q : mid < m
    · exact ⟨n - b, mid, Or.inl ⟨q, by omega, rfl⟩⟩
    · exact ⟨a, m, Or.inr ⟨q, rfl, rfl⟩⟩
  have k1 : lo ≤ hi ∧ hi ≤ m ∧ hi ≤ mid ∧ a ≤ lo ∧ n ≤ lo + b := by rcases (show (_ ∨ _) from hlh) with q | q <;> omega
  obtain ⟨k1, k2, k3, k4, k5⟩ := k1
  obtain ⟨x, ex⟩ : ∃ x, x = P ++ (U ++ (V ++ S)) := ⟨_, rfl⟩
  have hx : x.length = b + S.length := by rw [ex]; simp only [List.length_append]; omega
  have rdU : ∀ c : Nat, a ≤ c → ∀ h : c - a < U.length, rd_T100 x c = U[c - a] := fun c h1 h2 => by
    rw [ex]; exact rd_in P U (V ++ S) c (c - a) (by omega) h2
  have rdV : ∀ c : Nat, m ≤ c → ∀ h : c - m < V.length, rd_T100 x c = V[c - m] := fun c h1 h2 => by
    have e : x = (P ++ U) ++ (V ++ S) := by rw [ex]; simp
    rw [e]; exact rd_in (P ++ U) V S c (c - m) (by rw [List.length_append]; omega) h2
  have hmono : ∀ i j, lo ≤ i → i ≤ j → j < hi → (!lt (rd_T100 x ((n - 1 - j : Nat) : Int)) (rd_T100 x j)) = true → (!lt (rd_T100 x ((n - 1 - i : Nat) : Int)) (rd_T100 x i)) = true := by
    intro i j h1 h2 h3 h4
    rw [Bool.not_eq_true'] at h4 ⊢
    rw [rdV (n - 1 - j) (by omega) (by omega), rdU j (by omega) (by omega)] at h4
    rw [rdV (n - 1 - i) (by omega) (by omega), rdU i (by omega) (by omega)]
    have a1 := srt_at hU (i - a) (j - a) (by omega) (by omega)
    have a2 := srt_at hV (n - 1 - j - m) (n - 1 - i - m) (by omega) (by omega)
    exact lt_wo.tr _ _ _ (lt_wo.tr _ _ _ a2 h4) a1
  obtain ⟨s, hs⟩ := bound_ex' (fun c => !lt (rd_T100 x ((n - 1 - c : Nat) : Int)) (rd_T100 x c)) lo hi k1 hmono
  have s1 := hs.ge
  have s2 := hs.le
  have hq1 : lo < s → lt (rd_T100 x ((n - s : Nat) : Int)) (rd_T100 x ((s - 1 : Nat) : Int)) = false := fun h => by
    have := (hs.iff (s - 1) (by omega) (by omega)).2 (by omega)
    rw [Bool.not_eq_true'] at this
    have e : n - 1 - (s - 1) = n - s := by omega
    rw [e] at this; exact this
  have hq2 : s < hi → lt (rd_T100 x ((n - 1 - s : Nat) : Int)) (rd_T100 x s) = true := fun h => by
    have := hs.iff s s1 h
    cases q : lt (rd_T100 x ((n - 1 - s : Nat) : Int)) (rd_T100 x s) with
    | true => rfl
    | false => exact absurd (this.1 (by rw [q]; rfl)) (by omega)
  obtain ⟨U1, U2, rfl, lu1⟩ : ∃ U1 U2, U = U1 ++ U2 ∧ U1.length = s - a := ⟨U.take (s - a), U.drop (s - a), (List.take_append_drop _ _).symm, by rw [List.length_take]; omega⟩
  obtain ⟨V1, V2, rfl, lv1⟩ : ∃ V1 V2, V = V1 ++ V2 ∧ V1.length = mid - s := ⟨V.take (mid - s), V.drop (mid - s), (List.take_append_drop _ _).symm, by rw [List.length_take]; omega⟩
  clear rdU rdV hmono
  obtain ⟨hu1, hu2, _⟩ := srt_app.1 hU
  obtain ⟨hv1, hv2, _⟩ := srt_app.1 hV
  simp only [List.length_append] at em eb lU lV hd hlen
  have h1 : ∀ y ∈ U1, ∀ z ∈ V2, lt z y = false := by
    rcases List.eq_nil_or_concat U1 with rfl | ⟨u, y1, rfl⟩
    · intro y hy; cases hy
    · simp only [List.concat_eq_append] at *
      cases V2 with
      | nil => intro y _ z hz; cases hz
      | cons z1 v =>
        simp only [List.length_append, List.length_cons, List.length_nil] at em eb lu1 lU lV hd hlen
        have r1 : rd_T100 x ((s - 1 : Nat) : Int) = y1 := by
          have e : x = (P ++ u) ++ y1 :: (U2 ++ ((V1 ++ z1 :: v) ++ S)) := by rw [ex]; simp
          rw [e]; exact rd_mid _ _ _ _ (by rw [List.length_append]; omega)
        have r2 : rd_T100 x ((n - s : Nat) : Int) = z1 := by
          have e : x = (P ++ (((u ++ [y1]) ++ U2) ++ V1)) ++ z1 :: (v ++ S) := by rw [ex]; simp
          rw [e]; exact rd_mid _ _ _ _ (by simp only [List.length_append, List.length_cons, List.length_nil]; omega)
        have h := hq1 (by rcases (show (_ ∨ _) from hlh) with q | q <;> omega)
        rw [r1, r2] at h
        exact all_ge lt_wo hu1 hv2 h
  have h2 : ∀ y ∈ U2, ∀ z ∈ V1, lt z y = true := by
    rcases List.eq_nil_or_concat V1 with rfl | ⟨v, z1, rfl⟩
    · intro y _ z hz; cases hz
    · simp only [List.concat_eq_append] at *
      cases U2 with
      | nil => intro y hy; cases hy
      | cons y1 u =>
        simp only [List.length_append, List.length_cons, List.length_nil] at em eb lv1 lU lV hd hlen
        have r1 : rd_T100 x (s : Int) = y1 := by
          have e : x = (P ++ U1) ++ y1 :: (u ++ (((v ++ [z1]) ++ V2) ++ S)) := by rw [ex]; simp
          rw [e]; exact rd_mid _ _ _ _ (by rw [List.length_append]; omega)
        have r2 : rd_T100 x ((n - 1 - s : Nat) : Int) = z1 := by
          have e : x = (P ++ ((U1 ++ y1 :: u) ++ v)) ++ z1 :: (V2 ++ S) := by rw [ex]; simp
          rw [e]; exact rd_mid _ _ _ _ (by simp only [List.length_append, List.length_cons, List.length_nil]; omega)
        have h := hq2 (by rcases (show (_ ∨ _) from hlh) with q | q <;> omega)
        rw [r1, r2] at h
        exact all_lt lt_wo hu2 hv1 h
  obtain ⟨W1, w1, t1, c1, x1, x1'⟩ := sm_part d ih P U1 V1 (U2 ++ (V2 ++ S)) (by omega) hu1 hv1 (by simp only [List.length_append]; omega)
  obtain ⟨W2, w2, t2, c2, x2, x2'⟩ := sm_part d ih (P ++ W1) U2 V2 S (by omega) hu2 hv2 (by simp only [List.length_append]; omega)
  obtain ⟨o1, o2⟩ := cross_ok lt_wo hU hV h1 h2 w1 t1 w2 t2
  have bn : n ≤ 4000000000000 := by clear hq1 hq2 hs; omega
  have n1 : 1 ≤ n := by clear hq1 hq2 hs; omega
  have ua : wrap64 ((m : Int) - a) = ((m - a : Nat) : Int) := wr_sub m a (m - a) (by omega) (by omega)
  have vb : wrap64 ((b : Int) - m) = ((b - m : Nat) : Int) := wr_sub b m (b - m) (by omega) (by omega)
  have ua2 : 2 ≤ m - a := by omega
  have vb2 : 2 ≤ b - m := by omega
  have bb : (b : Int) ≤ 1000000000000 := by omega
  have ab : a ≤ b := by omega
  refine ⟨W1 ++ W2, o1, o2, by simp only [List.length_append]; omega, ?_⟩
  have e6 := sm_tail (a := a) (m := m) (b := b) (mid := mid) (s := s) (e := n - s) ea (by omega) (by omega) (by omega) (by omega) (by omega) (by omega) c1 x1 x1' x2 x2'
  rw [← ex] at e6
  have e4 := sm_l4 x a m b mid n s (n - 1) _ (by omega) (by omega) (by omega) _ lo hi (Nat.le_refl _) (by omega) (by omega) (by omega) hs e6
  have e3 : Evt (fun k => impl_Item_159.j4 k x a m b mid n lo hi) (P ++ ((W1 ++ W2) ++ S)) := by
    refine Evt.step e4 fun k => ?_
    simp only [impl_Item_159.j4]
    have e : wrap64 ((n : Int) - 1) = ((n - 1 : Nat) : Int) := wr_sub n 1 (n - 1) (Nat.sub_add_cancel n1).symm bn
    rw [e]
  intro a' m' b' ha hm hb
  simp only [List.length_append] at hm hb
  obtain rfl : a' = (a : Int) := by omega
  obtain rfl : m' = (m : Int) := by omega
  obtain rfl : b' = (b : Int) := by omega
  rw [← ex]
  refine Evt.step e3 fun k => ?_
  have q1 : wrap64 ((IntKind.u64.wrap (wrap64 ((a : Int) + b))) / 2) = (mid : Int) := by rw [mid_nat a b bb ab, ← (show mid = (a + b) / 2 from emid)]
  have q2 : wrap64 ((mid : Int) + m) = (n : Int) := wr_add mid m n en bn
  simp only [impl_Item_159.f]
  rw [ua, if_neg (by clear hq1 hq2 hs; omega), vb, if_neg (by clear hq1 hq2 hs; omega), q1, q2]
  rcases (show (_ ∨ _) from hlh) with q | q
  · have q3 : wrap64 ((n : Int) - b) = (lo : Int) := wr_sub n b lo q.2.1.symm bn
    rw [if_pos (Int.ofNat_lt.2 q.1), q3, q.2.2]
  · rw [if_neg (fun z => q.1 (Int.ofNat_lt.1 z)), q.2.1, q.2.2]
theorem sm_ok : ∀ d : Nat, SmP d := by
  intro d
  induction d with
  | zero => intro P U V S h lU lV; omega
  | succ d ih =>
    intro P U V S h lU lV hU hV hlen
    match U, V, lU, lV with
    | [u], V, _, _ =>
      obtain ⟨W, w1, w2, w3, w4⟩ := sm_one_left u P V S hV (by simp only [List.length_cons, List.length_nil] at hlen; omega)
      exact ⟨W, w1, w2, by rw [w3]; rfl, fun a m b h1 h2 h3 => w4 a m b h1 (by simp only [List.length_cons, List.length_nil] at h2; omega) (by simp only [List.length_cons, List.length_nil] at h3; omega)⟩
    | u1 :: u2 :: U, [v], _, _ =>
      obtain ⟨W, w1, w2, w3, w4⟩ := sm_one_right v P (u1 :: u2 :: U) S hU (by simp only [List.length_cons]; omega) (by simp only [List.length_cons, List.length_nil] at hlen ⊢; omega)
      exact ⟨W, w1, w2, by rw [w3]; rfl, fun a m b h1 h2 h3 => w4 a m b h1 h2 (by simp only [List.length_cons, List.length_nil] at h3 ⊢; omega)⟩
    | u1 :: u2 :: U, v1 :: v2 :: V, _, _ =>
      exact sm_gen d ih P (u1 :: u2 :: U) (v1 :: v2 :: V) S h (by simp only [List.length_cons]; omega) (by simp only [List.length_cons]; omega) hU hV hlen

/-! ### sorting6:ById -/
/-! #### blocks -/
inductive Blk (s : Nat) : List S100 → Prop
  | tail {T : List S100} (h : T.length < s) (hs : Srt lt T) : Blk s T
  | cons {B Q : List S100} (h : B.length = s) (hs : Srt lt B) (hq : Blk s Q) : Blk s (B ++ Q)
theorem blk_big {s : Nat} {R : List S100} (h : Blk s R) (hl : s ≤ R.length) : ∃ B Q, R = B ++ Q ∧ B.length = s ∧ Srt lt B ∧ Blk s Q := by
  cases h with
  | tail h hs => omega
  | cons h hs hq => exact ⟨_, _, rfl, h, hs, hq⟩
theorem blk_small {s : Nat} {R : List S100} (h : Blk s R) (hs0 : 0 < s) (hl : R.length ≤ s) : Srt lt R := by
  cases h with
  | tail h hs => exact hs
  | cons h hs hq =>
    rename_i B Q
    have : Q = [] := List.length_eq_zero_iff.1 (by rw [List.length_append] at hl; omega)
    rw [this, List.append_nil]; exact hs
theorem sb_l0 : ∀ (d : Nat) (R P : List S100) (n a b : Int), R.length ≤ d → a = P.length → b = a + 20 → n = P.length + R.length → n ≤ 1000000000000 →
    ∃ Q, Blk 20 Q ∧ St lt R Q ∧ Q.length = R.length ∧ ∀ W, Evt (fun k => impl_Item_154.l1 k (P ++ Q) n 20) W → Evt (fun k => impl_Item_154.l0 k (P ++ R) n 20 a b) W := by
  intro d
  induction d with
  | zero =>
    intro R P n a b hd ha hb hn hlen
    obtain ⟨D, d1, d2, d3, d4⟩ := is_ok R P [] a n ha (by omega) (by simp only [List.length_nil]; omega)
    simp only [List.append_nil] at d4
    refine ⟨D, Blk.tail (by omega) d1, d2, d3, fun W hW => ?_⟩
    refine Evt.step (g := fun k => (impl_Item_158.f k (P ++ R) a n).bind fun t => impl_Item_154.l1 k t n 20) (Evt.bind (f := fun k => impl_Item_158.f k (P ++ R) a n) (g := fun k t => impl_Item_154.l1 k t n 20) d4 hW) fun k => ?_
    simp only [impl_Item_154.l0]
    rw [if_neg (by omega)]
  | succ d ih =>
    intro R P n a b hd ha hb hn hlen
    by_cases q : 20 ≤ R.length
    · obtain ⟨L, R', rfl, lL⟩ : ∃ L R', R = L ++ R' ∧ L.length = 20 := ⟨R.take 20, R.drop 20, (List.take_append_drop _ _).symm, by rw [List.length_take]; omega⟩
      simp only [List.length_append] at hn hd q
      obtain ⟨D, d1, d2, d3, d4⟩ := is_ok L P R' a b ha (by omega) (by omega)
      obtain ⟨Q, q1, q2, q3, q4⟩ := ih R' (P ++ D) n b (b + 20) (by omega) (by rw [List.length_append]; omega) rfl (by rw [List.length_append]; omega) hlen
      have g1 : P ++ (D ++ R') = (P ++ D) ++ R' := by simp
      have g2 : (P ++ D) ++ Q = P ++ (D ++ Q) := by simp
      rw [g1] at d4
      rw [g2] at q4
      refine ⟨D ++ Q, Blk.cons (by omega) d1 q1, d2.app q2, by simp only [List.length_append]; omega, fun W hW => ?_⟩
      refine Evt.step (g := fun k => (impl_Item_158.f k (P ++ (L ++ R')) a b).bind fun t => impl_Item_154.l0 k t n 20 b (b + 20)) (Evt.bind (f := fun k => impl_Item_158.f k (P ++ (L ++ R')) a b) (g := fun k t => impl_Item_154.l0 k t n 20 b (b + 20)) d4 (q4 W hW)) fun k => ?_
      simp only [impl_Item_154.l0]
      rw [if_pos (by omega), wr (n := b + 20) (by omega) (by omega)]
    · obtain ⟨D, d1, d2, d3, d4⟩ := is_ok R P [] a n ha (by omega) (by simp only [List.length_nil]; omega)
      simp only [List.append_nil] at d4
      refine ⟨D, Blk.tail (by omega) d1, d2, d3, fun W hW => ?_⟩
      refine Evt.step (g := fun k => (impl_Item_158.f k (P ++ R) a n).bind fun t => impl_Item_154.l1 k t n 20) (Evt.bind (f := fun k => impl_Item_158.f k (P ++ R) a n) (g := fun k t => impl_Item_154.l1 k t n 20) d4 hW) fun k => ?_
      simp only [impl_Item_154.l0]
      rw [if_neg (by omega)]
theorem sb_l2 (s : Nat) (hs0 : 0 < s) : ∀ (d : Nat) (R P : List S100) (n a b : Int), R.length ≤ d → Blk s R → a = P.length → b = a + 2 * s → n = P.length + R.length → n ≤ 1000000000000 → (s : Int) ≤ 1000000000000 →
    ∃ Q, Blk (2 * s) Q ∧ St lt R Q ∧ Q.length = R.length ∧ ∀ W, Evt (fun k => impl_Item_154.l1 k (P ++ Q) n ((2 * s : Nat) : Int)) W → Evt (fun k => impl_Item_154.l2 k (P ++ R) n s a b) W := by
  intro d
  induction d with
  | zero =>
    intro R P n a b hd hR ha hb hn hlen hs1
    refine ⟨R, Blk.tail (by omega) (blk_small hR hs0 (by omega)), St.refl _, rfl, fun W hW => Evt.step hW fun k => ?_⟩
    simp only [impl_Item_154.l2]
    rw [if_neg (by omega), wr (n := a + s) (by omega) (by omega), if_neg (by omega), wr (n := (s : Int) * 2) (by omega) (by omega)]
    have e : (s : Int) * 2 = ((2 * s : Nat) : Int) := by omega
    rw [e]
  | succ d ih =>
    intro R P n a b hd hR ha hb hn hlen hs1
    have e2 : wrap64 (2 * (s : Int)) = 2 * s := wr (by omega) (by omega)
    have e3 : wrap64 ((s : Int) * 2) = ((2 * s : Nat) : Int) := by rw [wr (by omega) (by omega)]; omega
    by_cases q : 2 * s ≤ R.length
    · obtain ⟨B1, R1, rfl, lb1, sb1, hR1⟩ := blk_big hR (by omega)
      rw [List.length_append] at q hn hd
      obtain ⟨B2, R2, rfl, lb2, sb2, hR2⟩ := blk_big hR1 (by omega)
      rw [List.length_append] at q hn hd
      obtain ⟨W1, w1, w2, w3, w4⟩ := sm_ok _ P B1 B2 R2 (Nat.le_refl _) (by omega) (by omega) sb1 sb2 (by omega)
      have w5 := w4 a (a + s) b (by omega) (by omega) (by omega)
      obtain ⟨Q, q1, q2, q3, q4⟩ := ih R2 (P ++ W1) n b (b + 2 * s) (by omega) hR2 (by rw [List.length_append]; omega) rfl (by rw [List.length_append]; omega) hlen hs1
      have g1 : P ++ (W1 ++ R2) = (P ++ W1) ++ R2 := by simp
      have g2 : (P ++ W1) ++ Q = P ++ (W1 ++ Q) := by simp
      rw [g1] at w5
      rw [g2] at q4
      have g3 : B1 ++ (B2 ++ R2) = (B1 ++ B2) ++ R2 := by simp
      refine ⟨W1 ++ Q, Blk.cons (by omega) w1 q1, by rw [g3]; exact w2.app q2, by simp only [List.length_append]; omega, fun W hW => ?_⟩
      refine Evt.step (g := fun k => (impl_Item_159.f k (P ++ (B1 ++ (B2 ++ R2))) a (a + s) b).bind fun t => impl_Item_154.l2 k t n s b (b + 2 * s)) (Evt.bind (f := fun k => impl_Item_159.f k (P ++ (B1 ++ (B2 ++ R2))) a (a + s) b) (g := fun k t => impl_Item_154.l2 k t n s b (b + 2 * s)) w5 (q4 W hW)) fun k => ?_
      simp only [impl_Item_154.l2]
      rw [if_pos (by omega), wr (n := a + s) (by omega) (by omega), e2, wr (n := b + 2 * s) (by omega) (by omega)]
    · by_cases q2 : s < R.length
      · obtain ⟨B1, R1, rfl, lb1, sb1, hR1⟩ := blk_big hR (by omega)
        rw [List.length_append] at q q2 hn hd
        obtain ⟨W1, w1, w2, w3, w4⟩ := sm_ok _ P B1 R1 [] (Nat.le_refl _) (by omega) (by omega) sb1 (blk_small hR1 hs0 (by omega)) (by simp only [List.length_nil]; omega)
        have w5 := w4 a (a + s) n (by omega) (by omega) (by omega)
        simp only [List.append_nil] at w5
        refine ⟨W1, Blk.tail (by omega) w1, w2, by rw [w3, List.length_append], fun W hW => ?_⟩
        refine Evt.step (g := fun k => (impl_Item_159.f k (P ++ (B1 ++ R1)) a (a + s) n).bind fun t => impl_Item_154.l1 k t n ((2 * s : Nat) : Int)) (Evt.bind (f := fun k => impl_Item_159.f k (P ++ (B1 ++ R1)) a (a + s) n) (g := fun k t => impl_Item_154.l1 k t n ((2 * s : Nat) : Int)) w5 hW) fun k => ?_
        simp only [impl_Item_154.l2]
        rw [if_neg (by omega), wr (n := a + s) (by omega) (by omega), if_pos (by omega), e3]
      · refine ⟨R, Blk.tail (by omega) (blk_small hR hs0 (by omega)), St.refl _, rfl, fun W hW => Evt.step hW fun k => ?_⟩
        simp only [impl_Item_154.l2]
        rw [if_neg (by omega), wr (n := a + s) (by omega) (by omega), if_neg (by omega), e3]
theorem sb_l1 : ∀ (d : Nat) (s : Nat) (x : List S100), x.length ≤ s + d → 0 < s → Blk s x → (x.length : Int) ≤ 1000000000000 →
    ∃ W, Srt lt W ∧ St lt x W ∧ W.length = x.length ∧ Evt (fun k => impl_Item_154.l1 k x (x.length : Int) s) W := by
  intro d
  induction d with
  | zero =>
    intro s x hd hs0 hx hlen
    refine ⟨x, blk_small hx hs0 (by omega), St.refl _, rfl, Evt.from 1 fun k => ?_⟩
    simp only [impl_Item_154.l1]
    rw [if_neg (by omega)]
  | succ d ih =>
    intro s x hd hs0 hx hlen
    by_cases q : s < x.length
    · obtain ⟨Q, q1, q2, q3, q4⟩ := sb_l2 s hs0 x.length x [] x.length 0 (2 * s) (Nat.le_refl _) hx rfl (by omega) (by simp only [List.length_nil]; omega) hlen (by omega)
      obtain ⟨W, w1, w2, w3, w4⟩ := ih (2 * s) Q (by omega) (by omega) q1 (by omega)
      simp only [List.nil_append] at q4
      refine ⟨W, w1, q2.trans w2, by omega, Evt.step (q4 W (by rw [q3] at w4; exact w4)) fun k => ?_⟩
      simp only [impl_Item_154.l1]
      rw [if_pos (by omega), wr (n := 2 * (s : Int)) (by omega) (by omega)]
    · refine ⟨x, blk_small hx hs0 (by omega), St.refl _, rfl, Evt.from 1 fun k => ?_⟩
      simp only [impl_Item_154.l1]
      rw [if_neg (by omega)]
theorem sb_ok (x : List S100) (hlen : (x.length : Int) ≤ 1000000000000) : ∃ W, Srt lt W ∧ St lt x W ∧ W.length = x.length ∧ Evt (fun k => impl_Item_122.f k x) W := by
  obtain ⟨Q, q1, q2, q3, q4⟩ := sb_l0 x.length x [] x.length 0 20 (Nat.le_refl _) rfl rfl (by simp only [List.length_nil]; omega) hlen
  obtain ⟨W, w1, w2, w3, w4⟩ := sb_l1 Q.length 20 Q (by omega) (by omega) q1 (by omega)
  simp only [List.nil_append] at q4
  have h := q4 W (by rw [q3] at w4; exact w4)
  refine ⟨W, w1, q2.trans w2, by omega, ?_⟩
  refine Evt.eq (Evt.bind (f := fun k => impl_Item_154.f k x (x.length : Int)) (g := fun _ t => some t) h (Evt.same fun _ => rfl)) fun k => ?_
  unfold impl_Item_122.f
  rfl

/-! ### spById -/
theorem sp_yes (x o : List S100) (i j : Nat) (hi : i < x.length) (hj : j < o.length) (hx : (x.length : Int) ≤ 1000000000000) (ho : (o.length : Int) ≤ 1000000000000) (k : Nat) (hk : 100 ≤ k) (h : lt (rd_T100 x i) (rd_T100 o j) = true) :
    spec_ById.l1 (k + 1) x o i ((j + 1 : Nat) : Int) = spec_ById.l1 k x o i j := by
  have e : wrap64 (((j + 1 : Nat) : Int) - 1) = (j : Int) := by rw [wr (by omega) (by omega)]; omega
  simp only [spec_ById.l1]
  rw [e, if_pos (by omega), if_pos (by omega), if_pos (by omega), if_pos (by omega), if_pos (by omega), if_pos (of_decide_eq_true h)]
theorem sp_no (x o : List S100) (i j : Nat) (hi : i < x.length) (hj : j < o.length) (hx : (x.length : Int) ≤ 1000000000000) (ho : (o.length : Int) ≤ 1000000000000) (k : Nat) (hk : 100 ≤ k) (h : lt (rd_T100 x i) (rd_T100 o j) = false) :
    spec_ById.l1 (k + 1) x o i ((j + 1 : Nat) : Int) = (spec_l4Into.f o ((j + 1 : Nat) : Int) (rd_T100 x i).f0 (rd_T100 x i).f1.f0 (rd_T100 x i).f1.f1 (rd_T100 x i).f1.f2 (rd_T100 x i).f1.f3).bind fun t => spec_ById.l0 k x t (wrap64 ((i : Int) + 1)) := by
  have e : wrap64 (((j + 1 : Nat) : Int) - 1) = (j : Int) := by rw [wr (by omega) (by omega)]; omega
  simp only [spec_ById.l1]
  rw [e, if_pos (by omega), if_pos (by omega), if_pos (by omega), if_pos (by omega), if_pos (by omega), if_neg (of_decide_eq_false h)]

/-! ### sorting7:ById -/
/-! #### the reference: one element after the other -/
theorem into_ok (o : List S100) (p : Nat) (v : S100) (hp : p ≤ o.length) (hl : (o.length : Int) ≤ 1000000000000) :
    spec_l4Into.f o (p : Int) v.f0 v.f1.f0 v.f1.f1 v.f1.f2 v.f1.f3 = some (o.take p ++ v :: o.drop p) := by
  unfold spec_l4Into.f
  simp only [Option.bind_some, Int.toNat_natCast, List.nil_append, List.length_append, List.length_nil, List.length_cons, List.length_take, List.length_drop]
  rw [if_pos (by omega), if_pos (by omega), if_pos (by omega), if_pos (by omega), if_pos (by omega)]
  simp
theorem sp_in (x A B : List S100) (i : Nat) (W : List S100) (hi : i < x.length) (hx : (x.length : Int) ≤ 1000000000000) (ho : (A.length + B.length : Int) ≤ 1000000000000) (hA : ∀ y ∈ A, lt (rd_T100 x i) y = false) (hB : ∀ y ∈ B, lt (rd_T100 x i) y = true)
    (hW : Evt (fun k => spec_ById.l0 k x (A ++ (rd_T100 x i) :: B) ((i + 1 : Nat) : Int)) W) : ∀ j : Nat, j ≤ B.length → Evt (fun k => spec_ById.l1 k x (A ++ B) i ((A.length + j : Nat) : Int)) W := by
  have e1 : wrap64 ((i : Int) + 1) = ((i + 1 : Nat) : Int) := by rw [wr (by omega) (by omega)]; omega
  have ins : spec_l4Into.f (A ++ B) (A.length : Int) (rd_T100 x i).f0 (rd_T100 x i).f1.f0 (rd_T100 x i).f1.f1 (rd_T100 x i).f1.f2 (rd_T100 x i).f1.f3 = some (A ++ (rd_T100 x i) :: B) := by
    rw [into_ok (A ++ B) A.length _ (by rw [List.length_append]; omega) (by rw [List.length_append]; omega)]
    simp
  intro j
  induction j with
  | zero =>
    intro _
    rw [Nat.add_zero]
    rcases List.eq_nil_or_concat A with rfl | ⟨A', u, rfl⟩
    · refine Evt.step hW fun k => ?_
      simp only [spec_ById.l1]
      rw [if_neg (by simp), if_pos (by omega), if_pos (by omega), ins]
      simp only [Option.bind_some]
      rw [e1]
    · simp only [List.concat_eq_append] at *
      have r : rd_T100 ((A' ++ [u]) ++ B) (A'.length : Int) = u := by
        have e : (A' ++ [u]) ++ B = A' ++ u :: B := by simp
        rw [e]; exact rd_mid _ _ _ _ rfl
      have el : (A' ++ [u]).length = A'.length + 1 := by simp
      refine Evt.stepN 100 hW fun k hk => ?_
      rw [el] at ins ⊢
      rw [sp_no x ((A' ++ [u]) ++ B) i A'.length hi (by simp only [List.length_append, List.length_cons]; omega) hx (by rw [List.length_append]; omega) k hk (by rw [r]; exact hA u (by simp)), ins]
      simp only [Option.bind_some]
      rw [e1]
  | succ j ih =>
    intro hj
    have r : rd_T100 (A ++ B) ((A.length + j : Nat) : Int) = B[j]'(by omega) := by
      have h := rd_in A B [] ((A.length + j : Nat) : Int) j (by omega) (by omega)
      rw [List.append_nil] at h; exact h
    refine Evt.stepN 100 (ih (by omega)) fun k hk => ?_
    exact sp_yes x (A ++ B) i (A.length + j) hi (by rw [List.length_append]; omega) hx (by rw [List.length_append]; omega) k hk (by rw [r]; exact hB _ (List.getElem_mem _))
theorem sp_run (R : List S100) : ∀ (P o : List S100), (P.length + R.length : Int) ≤ 1000000000000 → Srt lt o → St lt P o → o.length = P.length →
    ∃ W, Srt lt W ∧ St lt (P ++ R) W ∧ W.length = P.length + R.length ∧ Evt (fun k => spec_ById.l0 k (P ++ R) o (P.length : Int)) W := by
  induction R with
  | nil =>
    intro P o hlen h1 h2 h3
    refine ⟨o, h1, by rw [List.append_nil]; exact h2, h3, Evt.from 1 fun k => ?_⟩
    simp only [spec_ById.l0]
    rw [if_neg (by rw [List.append_nil]; omega)]
  | cons v R ih =>
    intro P o hlen h1 h2 h3
    simp only [List.length_cons] at hlen
    have r : rd_T100 (P ++ v :: R) (P.length : Int) = v := rd_mid _ _ _ _ rfl
    obtain ⟨A, B, rfl, hA, hB⟩ := split_ge lt_wo v o h1
    obtain ⟨s1, s2⟩ := ins_ok lt_wo h1 hA hB
    rw [List.length_append] at h3
    have e : (P ++ [v]) ++ R = P ++ v :: R := by simp
    obtain ⟨W, w1, w2, w3, w4⟩ := ih (P ++ [v]) (A ++ v :: B) (by simp only [List.length_append, List.length_cons, List.length_nil]; omega) s1 ((h2.app (St.refl [v])).trans s2) (by simp only [List.length_append, List.length_cons, List.length_nil]; omega)
    rw [e] at w2 w4
    simp only [List.length_append, List.length_cons, List.length_nil] at w3
    have el : ((P ++ [v]).length : Int) = ((P.length + 1 : Nat) : Int) := by simp
    rw [el] at w4
    refine ⟨W, w1, w2, by simp only [List.length_cons]; omega, ?_⟩
    have h := sp_in (P ++ v :: R) A B P.length W (by rw [List.length_append, List.length_cons]; omega) (by rw [List.length_append, List.length_cons]; omega) (by omega) (by rw [r]; exact hA) (by rw [r]; exact hB) (by rw [r]; exact w4) B.length (Nat.le_refl _)
    refine Evt.step h fun k => ?_
    simp only [spec_ById.l0]
    rw [if_pos (by rw [List.length_append, List.length_cons]; omega), List.length_append]
theorem both_ok (x : List S100) (hlen : (x.length : Int) ≤ 1000000000000) : ∃ W : List S100, W.length = x.length ∧ Evt (fun k => spec_ById.f k x) W ∧ Evt (fun k => impl_ById.f k x) W := by
  obtain ⟨W, w1, w2, w3, w4⟩ := sp_run x [] [] (by simp only [List.length_nil]; omega) Srt.nil (St.refl _) rfl
  obtain ⟨W', v1, v2, v3, v4⟩ := sb_ok x hlen
  simp only [List.nil_append] at w2 w4
  have e : W = W' := srt_uniq lt_wo W W' w1 v1 (w2.symm.trans v2)
  subst e
  refine ⟨W, v3, Evt.eq w4 fun k => ?_, ?_⟩
  · unfold spec_ById.f; rfl
  · refine Evt.eq (Evt.bind (f := fun k => impl_Item_122.f k x) (g := fun _ t => some t) v4 (Evt.same fun _ => rfl)) fun k => ?_
    unfold impl_ById.f impl_Item_121.f
    simp only [Option.bind_some, List.nil_append, List.length_nil]
    rw [if_pos (by omega)]
    rfl

/-! ### basic -/
theorem rd_nat (xs : List Int) (i : Nat) (h : i < xs.length) : rd xs (i : Int) = xs[i] := by
  unfold rd; rw [Int.toNat_natCast, List.getD_eq_getElem?_getD, List.getElem?_eq_getElem h]; rfl
theorem fill_take {α β : Type} (conv : α → β) (xs : List α) (ys : List β) (i : Nat) (hl : ys.length = xs.length) (hi : i < xs.length) (h : ys.take i = (xs.take i).map conv) :
    (ys.set i (conv xs[i])).take (i + 1) = (xs.take (i + 1)).map conv := by
  rw [List.take_succ_eq_append_getElem (by rw [List.length_set]; omega), List.take_succ_eq_append_getElem hi, List.getElem_set_self, List.map_append, List.take_set_of_le (Nat.le_refl i), h]; rfl
theorem wr_succ {i n : Nat} (h : i < n) (hn : n ≤ 140737488355328) : wrap64 ((i : Int) + 1) = ((i + 1 : Nat) : Int) := by
  rw [wr (by omega) (by omega)]; omega
theorem byte_bounds {xs : List Int} (h : ∀ x ∈ xs, (Lit.int .u8 x).wf = true) (i : Int) : 0 ≤ rd xs i ∧ rd xs i ≤ 255 := by
  unfold rd
  rw [List.getD_eq_getElem?_getD]
  exact range_u8 h _

/-! ### rows -/
theorem filled {α β : Type} (conv : α → β) (xs : List α) (ys : List β) (hl : ys.length = xs.length) (i : Nat) (hi : i = xs.length) (h : ys.take i = (xs.take i).map conv) : ys = xs.map conv := by
  rw [List.take_of_length_le (by omega), List.take_of_length_le (by omega)] at h; exact h

/-! ### rdL:Item -/
theorem rd_lawsItem (xs : List S104) (i : Nat) (h : i < xs.length) : rd_T104 xs (i : Int) = xs[i] := by
  unfold rd_T104; rw [Int.toNat_natCast, List.getD_eq_getElem?_getD, List.getElem?_eq_getElem h]; rfl

/-! ### box -/
theorem toBox_some (a b c d : Int) : laws_toBox.f a b c d = some (a, b, c, d) := rfl

/-! ### item -/
theorem toItem_some (n a b c d : Int) : laws_toItem.f n a b c d = some (n, a, b, c, d) := rfl

/-! ### convItem -/
def convItem (x : S104) : S100 := ⟨x.f0, ⟨x.f1.f0, x.f1.f1, x.f1.f2, x.f1.f3⟩⟩

/-! ### to:Item -/
theorem toItemS_l0 (xs : List S104) (hx : xs.length ≤ 1048576) (d : Nat) : ∀ (k i : Nat) (ys : List S100), ys.length = xs.length → i + d = xs.length → ys.take i = (xs.take i).map convItem → d < k →
    laws_toItemS.l0 k xs ys (i : Int) = some (xs.map convItem) := by
  induction d with
  | zero =>
    intro k i ys hl hi hy hk
    obtain ⟨k, rfl⟩ : ∃ m, k = m + 1 := ⟨k - 1, by omega⟩
    simp only [laws_toItemS.l0]
    rw [if_neg (by omega), filled convItem xs ys hl i (by omega) hy]
  | succ d ih =>
    intro k i ys hl hi hy hk
    obtain ⟨k, rfl⟩ : ∃ m, k = m + 1 := ⟨k - 1, by omega⟩
    simp only [laws_toItemS.l0]
    rw [if_pos (by omega), if_pos (by omega), rd_lawsItem xs i (by omega), toItem_some]
    simp only [Option.bind_some]
    rw [if_pos (by omega), Int.toNat_natCast, wr_succ (n := xs.length) (by omega) (by omega)]
    exact ih k (i + 1) _ (by rw [List.length_set]; exact hl) (by omega) (fill_take convItem xs ys i hl (by omega) hy) (by omega)
theorem toItemS_some (k : Nat) (xs : List S104) (hx : xs.length ≤ 1048576) (hk : xs.length < k) : laws_toItemS.f k xs = some (xs.map convItem) := by
  unfold laws_toItemS.f
  rw [if_pos (by omega), if_pos (by omega)]
  exact toItemS_l0 xs hx xs.length k 0 _ (by simp) (by omega) (by simp) hk

/-! ### sz:Item -/
theorem szItemS_some (l : List S104) (a : Int) (hl : l.length ≤ maxLen) (h0 : 0 ≤ a) (h1 : a ≤ 1048576) : laws_szItemS.f l a = some (if a - (l.length : Int) < 0 then -1 else a - (l.length : Int)) := by
  unfold maxLen at hl
  unfold laws_szItemS.f
  rw [wr (n := a - (l.length : Int)) (by omega) (by omega)]
  split <;> rfl

/-! ### eq1Box -/
theorem eqBox_self (a b c d : Int) : laws_eqBox.f a b c d a b c d = some true := by simp [laws_eqBox.f]

/-! ### eq1Item -/
theorem eqItem_self (n a b c d : Int) : laws_eqItem.f n a b c d n a b c d = some true := by simp [laws_eqItem.f, eqBox_self]

/-! ### eq:Item -/
theorem eqItemS_l0 (xs : List S100) (hx : xs.length ≤ 140737488355328) (d : Nat) : ∀ (k i : Nat), i + d = xs.length → d < k → laws_eqItemS.l0 k xs xs (i : Int) = some true := by
  induction d with
  | zero =>
    intro k i hi hk
    obtain ⟨k, rfl⟩ : ∃ m, k = m + 1 := ⟨k - 1, by omega⟩
    simp only [laws_eqItemS.l0]
    rw [if_neg (by omega)]
  | succ d ih =>
    intro k i hi hk
    obtain ⟨k, rfl⟩ : ∃ m, k = m + 1 := ⟨k - 1, by omega⟩
    simp only [laws_eqItemS.l0]
    rw [if_pos (by omega), if_pos (by omega), if_pos (by omega), eqItem_self]
    simp only [Option.bind_some, if_true]
    rw [wr_succ (n := xs.length) (by omega) hx]
    exact ih k (i + 1) (by omega) (by omega)
theorem eqItemS_same (k : Nat) (xs : List S100) (hx : xs.length ≤ 140737488355328) (hk : xs.length < k) : laws_eqItemS.f k xs xs = some true := by
  unfold laws_eqItemS.f
  rw [if_pos rfl]
  exact eqItemS_l0 xs hx xs.length k 0 (by omega) hk

/-! ### marks -/
theorem set_take {α : Type} (f : Nat → α) (ys : List α) (i n : Nat) (hl : ys.length = n) (hi : i < n) (h : ys.take i = (List.range i).map f) : (ys.set i (f i)).take (i + 1) = (List.range (i + 1)).map f := by
  rw [List.take_succ_eq_append_getElem (by rw [List.length_set]; omega), List.getElem_set_self, List.take_set_of_le (Nat.le_refl i), h, List.range_succ, List.map_append]; rfl
theorem take_all {α : Type} (f : Nat → α) (ys : List α) (i n : Nat) (hl : ys.length = n) (hi : i = n) (h : ys.take i = (List.range i).map f) : ys = (List.range n).map f := by
  subst hi; rw [List.take_of_length_le (by omega)] at h; exact h

/-! ### rdS:Item -/
theorem rd_implItem (xs : List S100) (i : Nat) (h : i < xs.length) : rd_T100 xs (i : Int) = xs[i] := by
  unfold rd_T100; rw [Int.toNat_natCast, List.getD_eq_getElem?_getD, List.getElem?_eq_getElem h]; rfl

/-! ### mark:Item -/
def mkItem (s : Int) (j : Nat) : S100 := ⟨s + 5 * (j : Int), ⟨s + 5 * (j : Int) + 1, s + 5 * (j : Int) + 1 + 1, s + 5 * (j : Int) + 1 + 1 + 1, s + 5 * (j : Int) + 1 + 1 + 1 + 1⟩⟩
theorem rd_setItem (ys : List S100) (i : Nat) (v : S100) (h : i < ys.length) : rd_T100 (ys.set i v) (i : Int) = v := by
  rw [rd_implItem _ i (by rw [List.length_set]; exact h), List.getElem_set_self]
theorem markItemS_l0 (n : Nat) (s : Int) (hn : n ≤ 1048576) (h0 : 0 ≤ s) (h1 : s ≤ 140737488355328) (d : Nat) : ∀ (k i : Nat) (ys : List S100), ys.length = n → i + d = n → ys.take i = (List.range i).map (mkItem s) → d < k →
    laws_markItemS.l0 k ys (s + 5 * (i : Int)) (i : Int) = some (s + 5 * (n : Int), (List.range n).map (mkItem s)) := by
  induction d with
  | zero =>
    intro k i ys hl hi hy hk
    obtain ⟨k, rfl⟩ : ∃ m, k = m + 1 := ⟨k - 1, by omega⟩
    simp only [laws_markItemS.l0]
    rw [if_neg (by omega), take_all (mkItem s) ys i n hl (by omega) hy]
    congr 2; omega
  | succ d ih =>
    intro k i ys hl hi hy hk
    obtain ⟨k, rfl⟩ : ∃ m, k = m + 1 := ⟨k - 1, by omega⟩
    simp only [laws_markItemS.l0]
    rw [if_pos (by omega), if_pos (by omega)]
    simp only [Option.bind_some, Int.toNat_natCast]
    rw [wr (n := s + 5 * (i : Int) + 1) (by omega) (by omega), wr (n := s + 5 * (i : Int) + 1 + 1) (by omega) (by omega), wr (n := s + 5 * (i : Int) + 1 + 1 + 1) (by omega) (by omega), wr (n := s + 5 * (i : Int) + 1 + 1 + 1 + 1) (by omega) (by omega), wr (n := s + 5 * (i : Int) + 1 + 1 + 1 + 1 + 1) (by omega) (by omega), wr_succ (n := n) (by omega) (by omega)]
    have hi2 : i < ys.length := by omega
    rw [rd_setItem ys i _ hi2]
    simp only [List.set_set, rd_setItem ys i _ hi2]
    have := ih k (i + 1) (ys.set i (mkItem s i)) (by rw [List.length_set]; exact hl) (by omega) (set_take (mkItem s) ys i n hl (by omega) hy) (by omega)
    rw [← this, show s + 5 * (i : Int) + 1 + 1 + 1 + 1 + 1 = s + 5 * ((i + 1 : Nat) : Int) by omega]; rfl
theorem markItemS_some (k : Nat) (xs : List S100) (s : Int) (hn : xs.length ≤ 1048576) (h0 : 0 ≤ s) (h1 : s ≤ 140737488355328) (hk : xs.length < k) : laws_markItemS.f k xs s = some (s + 5 * (xs.length : Int), (List.range xs.length).map (mkItem s)) := by
  unfold laws_markItemS.f
  have := markItemS_l0 xs.length s hn h0 h1 xs.length k 0 xs rfl (by omega) (by simp) hk
  rw [← this]; congr 1; omega

/-! ### held:Item -/
theorem heldItemS_l0 (n : Nat) (s : Int) (hn : n ≤ 1048576) (h0 : 0 ≤ s) (h1 : s ≤ 140737488355328) (d : Nat) : ∀ (k i : Nat), i + d = n → d < k →
    laws_heldItemS.l0 k ((List.range n).map (mkItem s)) (s + 5 * (i : Int)) (i : Int) = some (s + 5 * (n : Int)) := by
  have hl : ((List.range n).map (mkItem s)).length = n := by simp
  induction d with
  | zero =>
    intro k i hi hk
    obtain ⟨k, rfl⟩ : ∃ m, k = m + 1 := ⟨k - 1, by omega⟩
    simp only [laws_heldItemS.l0]
    rw [if_neg (by omega)]
    congr 1; omega
  | succ d ih =>
    intro k i hi hk
    obtain ⟨k, rfl⟩ : ∃ m, k = m + 1 := ⟨k - 1, by omega⟩
    simp only [laws_heldItemS.l0]
    have hr : rd_T100 ((List.range n).map (mkItem s)) (i : Int) = mkItem s i := by
      rw [rd_implItem _ i (by omega)]; simp
    rw [if_pos (by omega), if_pos (by omega), hr]
    rw [wr (n := s + 5 * (i : Int) + 1) (by omega) (by omega), wr (n := s + 5 * (i : Int) + 1 + 1) (by omega) (by omega), wr (n := s + 5 * (i : Int) + 1 + 1 + 1) (by omega) (by omega), wr (n := s + 5 * (i : Int) + 1 + 1 + 1 + 1) (by omega) (by omega), wr (n := s + 5 * (i : Int) + 1 + 1 + 1 + 1 + 1) (by omega) (by omega), wr_succ (n := n) (by omega) (by omega)]
    have e0 : (mkItem s i).f0 = s + 5 * (i : Int) := rfl
    have e1 : (mkItem s i).f1.f0 = s + 5 * (i : Int) + 1 := rfl
    have e2 : (mkItem s i).f1.f1 = s + 5 * (i : Int) + 1 + 1 := rfl
    have e3 : (mkItem s i).f1.f2 = s + 5 * (i : Int) + 1 + 1 + 1 := rfl
    have e4 : (mkItem s i).f1.f3 = s + 5 * (i : Int) + 1 + 1 + 1 + 1 := rfl
    rw [if_pos e0, if_pos e1, if_pos e2, if_pos e3, if_pos e4]
    have := ih k (i + 1) (by omega) (by omega)
    rw [← this, show s + 5 * (i : Int) + 1 + 1 + 1 + 1 + 1 = s + 5 * ((i + 1 : Nat) : Int) by omega]
theorem heldItemS_some (k n : Nat) (s : Int) (hn : n ≤ 1048576) (h0 : 0 ≤ s) (h1 : s ≤ 140737488355328) (hk : n < k) : laws_heldItemS.f k ((List.range n).map (mkItem s)) s = some (s + 5 * (n : Int)) := by
  unfold laws_heldItemS.f
  have := heldItemS_l0 n s hn h0 h1 n k 0 (by omega) hk
  rw [← this]; congr 1; omega

theorem pure_law (l : List S104) (hm : l.length ≤ maxLen) : ∃ k, laws_FnExactById.f k l = some true := by
  by_cases h : (1048576 : Int) - (l.length : Int) < 0
  · refine ⟨1, ?_⟩
    unfold laws_FnExactById.f
    rw [szItemS_some l _ hm (by omega) (by omega)]
    simp only [Option.bind_some]
    rw [if_pos h]; rfl
  · have hl : (l.map convItem).length = l.length := List.length_map ..
    obtain ⟨W, hW, v1, v2⟩ := both_ok (l.map convItem) (by omega)
    obtain ⟨K, hK⟩ := Evt.both v1 v2
    refine ⟨K + l.length + 2, ?_⟩
    have p1 := (hK (K + l.length + 2) (by omega)).1
    have p2 := (hK (K + l.length + 2) (by omega)).2
    have p3 := (hK (K + l.length + 1) (by omega)).2
    unfold laws_FnExactById.f
    rw [szItemS_some l _ hm (by omega) (by omega)]
    simp only [Option.bind_some]
    rw [if_neg h, if_neg h]
    rw [toItemS_some (K + l.length + 2) l (by omega) (by omega)]
    simp only [Option.bind_some]
    rw [p1]
    simp only [Option.bind_some]
    rw [p2]
    simp only [Option.bind_some]
    rw [eqItemS_same (K + l.length + 2) W (by omega) (by omega)]
    simp only [Option.bind_some, if_true]
    rw [eqItemS_same (K + l.length + 2) _ (by omega) (by omega)]
    simp only [Option.bind_some, if_true]
    rw [markItemS_some (K + l.length + 2) _ 1 (by omega) (by omega) (by omega) (by omega)]
    simp only [Option.bind_some]
    rw [if_neg (by omega)]
    simp only [laws_FnExactById.j0, Bool.not_true]
    rw [if_neg (by simp), markItemS_some (K + l.length + 1) _ 1 (by omega) (by omega) (by omega) (by omega)]
    simp only [Option.bind_some]
    rw [heldItemS_some (K + l.length + 1) _ 1 (by omega) (by omega) (by omega) (by omega)]
    simp only [Option.bind_some]
    rw [if_neg (by omega), if_pos trivial, toItemS_some (K + l.length + 1) l (by omega) (by omega)]
    simp only [Option.bind_some]
    rw [p3]
    simp only [Option.bind_some]
    rw [eqItemS_same (K + l.length + 1) W (by omega) (by omega)]
    simp only [Option.bind_some, if_true]
    rw [if_neg (by omega)]
end Go.Proofs.Ytjmgomailgplcaa.PureFnExactById
