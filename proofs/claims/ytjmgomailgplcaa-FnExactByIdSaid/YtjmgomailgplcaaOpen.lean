/- The arguments of the laws of this seat, read as data, are lists and numbers in the printed contracts' own words: whole numbers, bools, structs by value, slices of structs; condition: the argument was read as data before the call. -/
import Derived.Deep.Slices
import Derived.ChangeSame
import Derived.ChangeArms
import Derived.DataReads
import Derived.WideShapes
import Derived.OpenShut
import Derived.Lib.SmallJoins
import Derived.Test.YtjmgomailgplcaaWWords
namespace Go.Proofs.YtjmgomailgplcaaOpen
open Go.Deep Go.ChangeShapes Go.WideShapes Go.RowKit Go.Joins Go.Proofs.YtjmgomailgplcaaW.PrintWords
set_option linter.unusedVariables false
set_option linter.unusedSimpArgs false

/-- Whatever reads as a datum at type t is of kind d, and meets ok. -/
def ElOk {H α : Type} (enc : TypeId × Value → H) (P : Program) (W : World) (t : TypeId) (d : Kd α) (ok : α → Prop) : Prop :=
  ∀ (n : Nat) (cs : List Value) (x : DataW H × List MemPlace), DataW.trod enc P W 0 (fun _ => true) true n t cs = some x → ∃ y : α, d.K W y cs ∧ ok y

section
variable {H α β γ δ : Type} {enc : TypeId × Value → H} {P : Program} {W : World}

theorem el_int {t : TypeId} {k : IntKind} (ht : P.underlying t = some (.int k)) : ElOk enc P W t (Kd.int k) (fun n => (Lit.int k n).wf = true) := by
  intro n cs x h
  obtain ⟨m, rfl, _, hw⟩ := DataW.trod_int ht h
  exact ⟨m, rfl, hw⟩

theorem el_bool {t : TypeId} (ht : P.underlying t = some .bool) : ElOk enc P W t Kd.bool (fun _ => True) := by
  intro n cs x h
  obtain ⟨b, rfl, _⟩ := DataW.trod_bool ht h
  exact ⟨b, rfl, trivial⟩

theorem el_iso {t : TypeId} {d : Kd α} {ok : α → Prop} (f : β → α) (g : α → β) (hfg : ∀ x, f (g x) = x) (h : ElOk enc P W t d ok) : ElOk enc P W t (Kd.iso d f) (fun y => ok (f y)) := by
  intro n cs x hx
  obtain ⟨y, hk, hy⟩ := h n cs x hx
  refine ⟨g y, ?_, ?_⟩
  · show d.K W (f (g y)) cs
    rw [hfg]; exact hk
  · show ok (f (g y))
    rw [hfg]; exact hy

theorem el_pair {t : TypeId} {f0 f1 : Field} {d0 : Kd α} {d1 : Kd β} {ok0 : α → Prop} {ok1 : β → Prop} (hs : P.underlying t = some (.struct #[f0, f1]))
    (o0 : f0.offset = 0) (o1 : f1.offset = d0.sz) (c0 : P.cellsOf f0.type = d0.sz) (c1 : P.cellsOf f1.type = d1.sz) (ct : P.cellsOf t = d0.sz + d1.sz)
    (e0 : ElOk enc P W f0.type d0 ok0) (e1 : ElOk enc P W f1.type d1 ok1) : ElOk enc P W t (Kd.pair d0 d1) (fun y => ok0 y.1 ∧ ok1 y.2) := by
  intro n cs x h
  obtain ⟨y0, y1, m, _, hl, h0, h1⟩ := trod_struct2 hs h
  obtain ⟨z0, k0, w0⟩ := e0 _ _ _ h0
  obtain ⟨z1, k1, w1⟩ := e1 _ _ _ h1
  rw [o0, c0] at k0
  rw [o1, c1] at k1
  refine ⟨(z0, z1), ⟨_, _, ?_, k0, k1⟩, w0, w1⟩
  rw [List.drop_zero, List.take_of_length_le (l := cs.drop d0.sz) (by rw [List.length_drop, hl, ct]; omega)]
  exact (List.take_append_drop _ _).symm

theorem el_quad {t : TypeId} {f0 f1 f2 f3 : Field} {d0 : Kd α} {d1 : Kd β} {d2 : Kd γ} {d3 : Kd δ} {ok0 : α → Prop} {ok1 : β → Prop} {ok2 : γ → Prop} {ok3 : δ → Prop} (hs : P.underlying t = some (.struct #[f0, f1, f2, f3]))
    (o0 : f0.offset = 0) (o1 : f1.offset = d0.sz) (o2 : f2.offset = d0.sz + d1.sz) (o3 : f3.offset = d0.sz + d1.sz + d2.sz) (c0 : P.cellsOf f0.type = d0.sz) (c1 : P.cellsOf f1.type = d1.sz) (c2 : P.cellsOf f2.type = d2.sz) (c3 : P.cellsOf f3.type = d3.sz) (ct : P.cellsOf t = d0.sz + d1.sz + d2.sz + d3.sz)
    (e0 : ElOk enc P W f0.type d0 ok0) (e1 : ElOk enc P W f1.type d1 ok1) (e2 : ElOk enc P W f2.type d2 ok2) (e3 : ElOk enc P W f3.type d3 ok3) :
    ElOk enc P W t (Kd.pair d0 (Kd.pair d1 (Kd.pair d2 d3))) (fun y => ok0 y.1 ∧ ok1 y.2.1 ∧ ok2 y.2.2.1 ∧ ok3 y.2.2.2) := by
  intro n cs x h
  obtain ⟨y0, y1, y2, y3, m, _, hl, h0, h1, h2, h3⟩ := trod_struct4 hs h
  obtain ⟨z0, k0, w0⟩ := e0 _ _ _ h0
  obtain ⟨z1, k1, w1⟩ := e1 _ _ _ h1
  obtain ⟨z2, k2, w2⟩ := e2 _ _ _ h2
  obtain ⟨z3, k3, w3⟩ := e3 _ _ _ h3
  rw [o0, c0] at k0
  rw [o1, c1] at k1
  rw [o2, c2] at k2
  rw [o3, c3] at k3
  refine ⟨(z0, z1, z2, z3), ⟨_, _, ?_, k0, _, _, rfl, k1, _, _, rfl, k2, k3⟩, w0, w1, w2, w3⟩
  rw [List.drop_zero, List.take_of_length_le (l := cs.drop (d0.sz + d1.sz + d2.sz)) (by rw [List.length_drop, hl, ct]; omega)]
  rw [← List.drop_drop (i := d2.sz) (j := d0.sz + d1.sz), List.take_append_drop, ← List.drop_drop (i := d1.sz) (j := d0.sz), List.take_append_drop, List.take_append_drop]

theorem el_slice {t e : TypeId} {d : Kd α} {ok : α → Prop} (q : Nat) (ht : P.underlying t = some (.slice e)) (hc : P.cellsOf e = d.sz) (he : ElOk enc P W e d ok) :
    ElOk enc P W t (Kd.slice q d) (fun l => l.length ≤ maxLen ∧ ∀ y ∈ l, ok y) := by
  intro n cs x h
  rcases open_slice ht h with ⟨rfl, _⟩ | ⟨a, len, cap, m, n1, D, Pl, rfl, hb, hl, hm, hmm, hx, hel⟩
  · exact ⟨[], ⟨none, 0, rfl, Nat.le_refl _, Kd.C_nil d W⟩, Nat.zero_le _, by simp⟩
  · have hmc : m = cap := by simpa using hmm
    have each : ∀ i : Fin len, ∃ y : α, (∃ c, c.length = d.sz ∧ d.K W y c ∧ ∀ j u, c[j]? = some u → W.cell? (a.add (i.1 * d.sz + j)) = some u) ∧ ok y := by
      intro i
      obtain ⟨c, hcs, htr⟩ := hel i.1 (by have := i.2; omega)
      obtain ⟨y, hk, hy⟩ := he _ _ _ htr
      obtain ⟨_, hlen, hcell⟩ := World.cells?_some hcs
      refine ⟨y, ⟨c, by rw [← hc]; exact hlen, hk, ?_⟩, hy⟩
      intro j u hu
      have hj : j < P.cellsOf e := by rw [← hlen]; exact (List.getElem?_eq_some_iff.1 hu).1
      have := hcell j hj
      rw [Deep.add_add, hu, hc] at this
      exact this
    obtain ⟨f, hf⟩ := Classical.axiomOfChoice each
    refine ⟨List.ofFn f, ⟨some a, cap, by rw [List.length_ofFn], by rw [List.length_ofFn]; exact hl, ?_⟩, by rw [List.length_ofFn]; omega, ?_⟩
    · rw [List.length_ofFn]
      refine ⟨List.length_ofFn, by unfold maxLen at hm; omega, fun _ => ⟨a, rfl, ?_⟩⟩
      intro j p hp
      rw [List.getElem?_ofFn] at hp
      split at hp
      · rename_i hj
        obtain rfl := Option.some.inj hp
        exact (hf ⟨j, hj⟩).1
      · cases hp
    · intro y hy
      obtain ⟨i, rfl⟩ := List.mem_ofFn.1 hy
      exact (hf i).2

/-! ### By value -/
theorem val_slice {r : Reach} {b0 : Nat} {t e : TypeId} {v : Value} {dd : DataW H} {p : List MemPlace} {d : Kd α} {ok : α → Prop} (ht : P.underlying t = some (.slice e)) (hc : P.cellsOf e = d.sz) (he : ElOk enc P W e d ok)
    (h : DataW.Trod enc P W 0 (fun _ => true) true t v dd p) (hv : Value.okWide P W r b0 t v) :
    ∃ (A : Option Addr) (l : List α) (c : Nat), v = .slice A l.length c ∧ l.length ≤ c ∧ d.C W A l.length l ∧ l.length ≤ maxLen ∧ ∀ y ∈ l, ok y := by
  obtain ⟨a, len, cap, rfl⟩ := okWide_slice ht hv
  obtain ⟨n, hn⟩ := h
  obtain ⟨l, ⟨A, c, hcs, hl, hC⟩, hm, hok⟩ := el_slice 0 ht hc he n _ _ hn
  simp only [Value.cells, List.cons.injEq, and_true] at hcs
  exact ⟨A, l, c, hcs, hl, hC, hm, hok⟩

theorem val_struct {r : Reach} {b0 : Nat} {t : TypeId} {fs : Array Field} {v : Value} {dd : DataW H} {p : List MemPlace} {d : Kd α} {ok : α → Prop} (ht : P.underlying t = some (.struct fs)) (he : ElOk enc P W t d ok)
    (h : DataW.Trod enc P W 0 (fun _ => true) true t v dd p) (hv : Value.okWide P W r b0 t v) : ∃ (y : α) (cs : List Value), v = .agg ⟨cs⟩ ∧ d.K W y cs ∧ ok y := by
  obtain ⟨cs, rfl, _⟩ := okWide_struct ht hv
  obtain ⟨n, hn⟩ := h
  obtain ⟨y, hk, hy⟩ := he n _ _ hn
  exact ⟨y, cs.toList, by cases cs; rfl, by simpa [Value.cells] using hk, hy⟩

/-- A rectangle: four numbers. -/
def kbox : Kd (Int × Int × Int × Int) := Kd.pair (Kd.int .i64) (Kd.pair (Kd.int .i64) (Kd.pair (Kd.int .i64) (Kd.int .i64)))
def wf (n : Int) : Prop := (Lit.int .i64 n).wf = true
def okbox (y : Int × Int × Int × Int) : Prop := wf y.1 ∧ wf y.2.1 ∧ wf y.2.2.1 ∧ wf y.2.2.2
theorem el_box {t q : TypeId} {f0 f1 f2 f3 : Field} (hs : P.underlying t = some (.struct #[f0, f1, f2, f3])) (hq : P.underlying q = some (.int .i64)) (cq : P.cellsOf q = 1)
    (t0 : f0.type = q) (t1 : f1.type = q) (t2 : f2.type = q) (t3 : f3.type = q) (o0 : f0.offset = 0) (o1 : f1.offset = 1) (o2 : f2.offset = 2) (o3 : f3.offset = 3) (ct : P.cellsOf t = 4) : ElOk enc P W t kbox okbox :=
  el_quad (d0 := Kd.int .i64) (d1 := Kd.int .i64) (d2 := Kd.int .i64) (d3 := Kd.int .i64) hs o0 o1 o2 o3 (by rw [t0]; exact cq) (by rw [t1]; exact cq) (by rw [t2]; exact cq) (by rw [t3]; exact cq) ct
    (by rw [t0]; exact el_int hq) (by rw [t1]; exact el_int hq) (by rw [t2]; exact el_int hq) (by rw [t3]; exact el_int hq)
def kitem : Kd (Int × Int × Int × Int × Int) := Kd.pair (Kd.int .i64) kbox
def okitem (y : Int × Int × Int × Int × Int) : Prop := wf y.1 ∧ okbox y.2
theorem el_item {t q b : TypeId} {f0 f1 : Field} (hs : P.underlying t = some (.struct #[f0, f1])) (hq : P.underlying q = some (.int .i64)) (cq : P.cellsOf q = 1) (cb : P.cellsOf b = 4)
    (t0 : f0.type = q) (t1 : f1.type = b) (o0 : f0.offset = 0) (o1 : f1.offset = 1) (ct : P.cellsOf t = 5) (hb : ElOk enc P W b kbox okbox) : ElOk enc P W t kitem okitem :=
  el_pair (d0 := Kd.int .i64) (d1 := kbox) hs o0 o1 (by rw [t0]; exact cq) (by rw [t1]; exact cb) ct (by rw [t0]; exact el_int hq) (by rw [t1]; exact hb)

theorem kbox_open {y : Int × Int × Int × Int} {cs : List Value} (h : kbox.K W y cs) : cs = [.int .i64 y.1, .int .i64 y.2.1, .int .i64 y.2.2.1, .int .i64 y.2.2.2] := by
  obtain ⟨_, _, rfl, rfl, ⟨_, _, rfl, rfl, ⟨_, _, rfl, rfl, rfl⟩⟩⟩ := h
  exact rfl
theorem kitem_open {y : Int × Int × Int × Int × Int} {cs : List Value} (h : kitem.K W y cs) : cs = [.int .i64 y.1, .int .i64 y.2.1, .int .i64 y.2.2.1, .int .i64 y.2.2.2.1, .int .i64 y.2.2.2.2] := by
  obtain ⟨_, _, rfl, rfl, h1⟩ := h
  obtain rfl := kbox_open h1
  exact rfl

theorem val_box {r : Reach} {b0 : Nat} {t : TypeId} {fs : Array Field} {v : Value} {dd : DataW H} {p : List MemPlace} (ht : P.underlying t = some (.struct fs)) (he : ElOk enc P W t kbox okbox)
    (h : DataW.Trod enc P W 0 (fun _ => true) true t v dd p) (hv : Value.okWide P W r b0 t v) :
    ∃ a b c d : Int, v = .agg #[.int .i64 a, .int .i64 b, .int .i64 c, .int .i64 d] ∧ wf a ∧ wf b ∧ wf c ∧ wf d := by
  obtain ⟨⟨a, b, c, d⟩, cs, rfl, hk, hy⟩ := val_struct ht he h hv
  obtain rfl := kbox_open hk
  exact ⟨a, b, c, d, rfl, hy⟩
theorem val_item {r : Reach} {b0 : Nat} {t : TypeId} {fs : Array Field} {v : Value} {dd : DataW H} {p : List MemPlace} (ht : P.underlying t = some (.struct fs)) (he : ElOk enc P W t kitem okitem)
    (h : DataW.Trod enc P W 0 (fun _ => true) true t v dd p) (hv : Value.okWide P W r b0 t v) :
    ∃ n a b c d : Int, v = .agg #[.int .i64 n, .int .i64 a, .int .i64 b, .int .i64 c, .int .i64 d] ∧ wf n ∧ wf a ∧ wf b ∧ wf c ∧ wf d := by
  obtain ⟨⟨n, a, b, c, d⟩, cs, rfl, hk, hy⟩ := val_struct ht he h hv
  obtain rfl := kitem_open hk
  exact ⟨n, a, b, c, d, rfl, hy⟩
theorem knode_open {α : Type} {q : Nat} {d : Kd α} {y : Bool × List α} {cs : List Value} (h : (Kd.pair Kd.bool (Kd.slice q d)).K W y cs) : ∃ A c, cs = [.bool y.1, .slice A y.2.length c] ∧ y.2.length ≤ c ∧ d.C W A y.2.length y.2 := by
  obtain ⟨_, _, rfl, rfl, ⟨A, c, rfl, hl, hC⟩⟩ := h
  exact ⟨A, c, rfl, hl, hC⟩
theorem el_node {t q s e : TypeId} {f0 f1 : Field} {d : Kd α} {ok : α → Prop} (z : Nat) (hs : P.underlying t = some (.struct #[f0, f1])) (hq : P.underlying q = some .bool) (cq : P.cellsOf q = 1) (hsl : P.underlying s = some (.slice e)) (csl : P.cellsOf s = 1) (ce : P.cellsOf e = d.sz)
    (t0 : f0.type = q) (t1 : f1.type = s) (o0 : f0.offset = 0) (o1 : f1.offset = 1) (ct : P.cellsOf t = 2) (he : ElOk enc P W e d ok) : ElOk enc P W t (Kd.pair Kd.bool (Kd.slice z d)) (fun y => True ∧ y.2.length ≤ maxLen ∧ ∀ u ∈ y.2, ok u) :=
  el_pair (d0 := Kd.bool) (d1 := Kd.slice z d) (ok0 := fun _ => True) (ok1 := fun l => l.length ≤ maxLen ∧ ∀ u ∈ l, ok u) hs o0 o1 (by rw [t0]; exact cq) (by rw [t1]; exact csl) ct (by rw [t0]; exact el_bool hq) (by rw [t1]; exact el_slice z hsl ce he)
theorem val_node {r : Reach} {b0 : Nat} {t : TypeId} {fs : Array Field} {v : Value} {dd : DataW H} {p : List MemPlace} {z : Nat} {d : Kd α} {ok : α → Prop} (ht : P.underlying t = some (.struct fs)) (he : ElOk enc P W t (Kd.pair Kd.bool (Kd.slice z d)) (fun y => True ∧ y.2.length ≤ maxLen ∧ ∀ u ∈ y.2, ok u))
    (h : DataW.Trod enc P W 0 (fun _ => true) true t v dd p) (hv : Value.okWide P W r b0 t v) :
    ∃ (b : Bool) (A : Option Addr) (l : List α) (c : Nat), v = .agg #[.bool b, .slice A l.length c] ∧ l.length ≤ c ∧ d.C W A l.length l ∧ l.length ≤ maxLen ∧ ∀ u ∈ l, ok u := by
  obtain ⟨⟨b, l⟩, cs, rfl, hk, _, hm, hy⟩ := val_struct ht he h hv
  obtain ⟨A, c, rfl, hl, hC⟩ := knode_open hk
  exact ⟨b, A, l, c, rfl, hl, hC, hm, hy⟩
theorem kbook_open {α : Type} {q : Nat} {d : Kd α} {y : Int × List α} {cs : List Value} (h : (Kd.pair (Kd.int .i64) (Kd.slice q d)).K W y cs) : ∃ A c, cs = [.int .i64 y.1, .slice A y.2.length c] ∧ y.2.length ≤ c ∧ d.C W A y.2.length y.2 := by
  obtain ⟨_, _, rfl, rfl, ⟨A, c, rfl, hl, hC⟩⟩ := h
  exact ⟨A, c, rfl, hl, hC⟩
theorem el_book {t q s e : TypeId} {f0 f1 : Field} {d : Kd α} {ok : α → Prop} (z : Nat) (hs : P.underlying t = some (.struct #[f0, f1])) (hq : P.underlying q = some (.int .i64)) (cq : P.cellsOf q = 1) (hsl : P.underlying s = some (.slice e)) (csl : P.cellsOf s = 1) (ce : P.cellsOf e = d.sz)
    (t0 : f0.type = q) (t1 : f1.type = s) (o0 : f0.offset = 0) (o1 : f1.offset = 1) (ct : P.cellsOf t = 2) (he : ElOk enc P W e d ok) : ElOk enc P W t (Kd.pair (Kd.int .i64) (Kd.slice z d)) (fun y => wf y.1 ∧ y.2.length ≤ maxLen ∧ ∀ u ∈ y.2, ok u) :=
  el_pair (d0 := Kd.int .i64) (d1 := Kd.slice z d) (ok0 := wf) (ok1 := fun l => l.length ≤ maxLen ∧ ∀ u ∈ l, ok u) hs o0 o1 (by rw [t0]; exact cq) (by rw [t1]; exact csl) ct (by rw [t0]; exact el_int hq) (by rw [t1]; exact el_slice z hsl ce he)
theorem val_book {r : Reach} {b0 : Nat} {t : TypeId} {fs : Array Field} {v : Value} {dd : DataW H} {p : List MemPlace} {z : Nat} {d : Kd α} {ok : α → Prop} (ht : P.underlying t = some (.struct fs)) (he : ElOk enc P W t (Kd.pair (Kd.int .i64) (Kd.slice z d)) (fun y => wf y.1 ∧ y.2.length ≤ maxLen ∧ ∀ u ∈ y.2, ok u))
    (h : DataW.Trod enc P W 0 (fun _ => true) true t v dd p) (hv : Value.okWide P W r b0 t v) :
    ∃ (n : Int) (A : Option Addr) (l : List α) (c : Nat), v = .agg #[.int .i64 n, .slice A l.length c] ∧ l.length ≤ c ∧ d.C W A l.length l ∧ wf n ∧ l.length ≤ maxLen ∧ ∀ u ∈ l, ok u := by
  obtain ⟨⟨n, l⟩, cs, rfl, hk, hn, hm, hy⟩ := val_struct ht he h hv
  obtain ⟨A, c, rfl, hl, hC⟩ := kbook_open hk
  exact ⟨n, A, l, c, rfl, hl, hC, hn, hm, hy⟩
end
end Go.Proofs.YtjmgomailgplcaaOpen
