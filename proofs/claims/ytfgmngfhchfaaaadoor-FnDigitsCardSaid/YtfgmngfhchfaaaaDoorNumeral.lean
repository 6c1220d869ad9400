/- A text is the numeral of a number from 0 to 99999 just where it has one to five digits and no needless zero ahead; then strconv.Atoi's answer is that number. No program in this text. -/
import Derived.Lib.AtoiAll
import Derived.Lib.ItoaNum
namespace Go.Proofs.YtfgmngfhchfaaaaDoor.Numeral
open Go.Lib
set_option linter.unusedVariables false
set_option linter.unusedSimpArgs false

def isDig (c : UInt8) : Bool := decide (48 ≤ c.toNat ∧ c.toNat ≤ 57)
theorem isDig_iff {c : UInt8} : isDig c = true ↔ 48 ≤ c.toNat ∧ c.toNat ≤ 57 := decide_eq_true_iff
/-- What the digits spell, behind what the digits before spell. -/
def val (acc : Nat) (l : List UInt8) : Nat := l.foldl (fun a c => 10 * a + (c.toNat - 48)) acc
theorem val_nil (a : Nat) : val a [] = a := by unfold val; rw [List.foldl_nil]
theorem val_cons (a : Nat) (c : UInt8) (r : List UInt8) : val a (c :: r) = val (10 * a + (c.toNat - 48)) r := by unfold val; rw [List.foldl_cons]
theorem val_snoc (a : Nat) (l : List UInt8) (c : UInt8) : val a (l ++ [c]) = 10 * val a l + (c.toNat - 48) := by
  unfold val; rw [List.foldl_append]; rfl
theorem val_ge (l : List UInt8) : ∀ a, a ≤ val a l := by
  induction l with
  | nil => intro a; exact Nat.le_refl _
  | cons c r ih => intro a; rw [val_cons]; exact Nat.le_trans (by omega) (ih _)
theorem val_lt (l : List UInt8) : ∀ a m, l.all isDig = true → a < 10 ^ m → val a l < 10 ^ (m + l.length) := by
  induction l with
  | nil => intro a m _ h; exact h
  | cons c r ih =>
    intro a m hd h
    simp only [List.all_cons, Bool.and_eq_true] at hd
    have hc := isDig_iff.1 hd.1
    rw [val_cons]
    have := ih (10 * a + (c.toNat - 48)) (m + 1) hd.2 (by rw [Nat.pow_succ]; omega)
    rw [List.length_cons]
    have e : m + 1 + r.length = m + (r.length + 1) := by omega
    rw [e] at this; exact this
theorem parse_digits (l : List UInt8) : ∀ a m, l.all isDig = true → a < 10 ^ m → m + l.length ≤ 10 → parseUint10 a l = .ok (val a l) := by
  induction l with
  | nil => intro a m _ _ _; rfl
  | cons c r ih =>
    intro a m hd h hm
    simp only [List.all_cons, Bool.and_eq_true] at hd
    have hc := isDig_iff.1 hd.1
    simp only [List.length_cons] at hm
    have hp : 10 ^ m ≤ 10 ^ 9 := Nat.pow_le_pow_right (by decide) (by omega)
    have hp9 : 10 ^ 9 = 1000000000 := by decide
    rw [hp9] at hp
    simp only [parseUint10]
    rw [if_pos hc, if_neg (by omega), if_neg (by omega), val_cons]
    have e : a * 10 + (c.toNat - 48) = 10 * a + (c.toNat - 48) := by omega
    rw [e]
    exact ih _ (m + 1) hd.2 (by rw [Nat.pow_succ]; omega) (by omega)
theorem dec_val (n : Nat) : ∀ l : List UInt8, l.length = n + 1 → l.all isDig = true → (1 < l.length → l.head? ≠ some 48) → decDigits (val 0 l) = l := by
  induction n with
  | zero =>
    intro l hl hd hh
    match l, hl with
    | [c], _ =>
      simp only [List.all_cons, List.all_nil, Bool.and_true] at hd
      have hc := isDig_iff.1 hd
      rw [val_cons, val_nil, decDigits, dif_pos (by omega)]
      have e : 48 + (10 * 0 + (c.toNat - 48)) = c.toNat := by omega
      rw [e]; simp
  | succ n ih =>
    intro l hl hd hh
    have hne : l ≠ [] := by intro e; rw [e] at hl; simp at hl
    have el := List.dropLast_concat_getLast hne
    obtain ⟨l', e1⟩ : ∃ l', l' = l.dropLast := ⟨_, rfl⟩
    obtain ⟨c, e2⟩ : ∃ c, c = l.getLast hne := ⟨_, rfl⟩
    rw [← e1, ← e2] at el
    subst el
    have hl' : l'.length = n + 1 := by simpa using hl
    rw [List.all_append] at hd
    simp only [Bool.and_eq_true, List.all_cons, List.all_nil, Bool.and_true] at hd
    have hc := isDig_iff.1 hd.2
    have hh' : l'.head? ≠ some 48 := by
      intro e
      refine hh (by simp; omega) ?_
      match l', hl', e with
      | x :: r, _, e => simpa using e
    have hi := ih l' hl' hd.1 (fun _ => hh')
    have hv : 1 ≤ val 0 l' := by
      match l', hl', hh', hd.1 with
      | x :: r, _, hx, hdx =>
        simp only [List.all_cons, Bool.and_eq_true] at hdx
        have hx' := isDig_iff.1 hdx.1
        rw [val_cons]
        refine Nat.le_trans ?_ (val_ge r _)
        have : x.toNat ≠ 48 := by
          intro e
          apply hx
          have : x = 48 := UInt8.toNat_inj.1 (by rw [e]; rfl)
          simp [this]
        omega
    rw [val_snoc, decDigits, dif_neg (by omega)]
    have a1 : (10 * val 0 l' + (c.toNat - 48)) / 10 = val 0 l' := by omega
    have a2 : 48 + (10 * val 0 l' + (c.toNat - 48)) % 10 = c.toNat := by omega
    rw [a1, a2, hi]; simp
theorem dec_facts (m : Nat) : ∀ u : Nat, u < 10 ^ (m + 1) → (decDigits u).all isDig = true ∧ (decDigits u).length ≤ m + 1 ∧ 1 ≤ (decDigits u).length ∧ val 0 (decDigits u) = u ∧ (1 ≤ u → (decDigits u).head? ≠ some 48) ∧ (u = 0 → (decDigits u).length = 1) := by
  have one : ∀ u, u < 10 → (decDigits u).all isDig = true ∧ (decDigits u).length = 1 ∧ val 0 (decDigits u) = u ∧ (1 ≤ u → (decDigits u).head? ≠ some 48) := by
    intro u hu
    have e : (UInt8.ofNat (48 + u)).toNat = 48 + u := by rw [UInt8.toNat_ofNat_of_lt' (by simp only [UInt8.size]; omega)]
    rw [decDigits, dif_pos hu]
    refine ⟨?_, rfl, ?_, ?_⟩
    · simp only [List.all_cons, List.all_nil, Bool.and_true]; exact isDig_iff.2 (by rw [e]; omega)
    · rw [val_cons, val_nil, e]; omega
    · intro h1 h2
      have := congrArg (·.map UInt8.toNat) h2
      simp only [List.head?_cons, Option.map_some, e] at this
      have := Option.some.inj this
      have e48 : (48 : UInt8).toNat = 48 := rfl
      omega
  induction m with
  | zero =>
    intro u hu
    obtain ⟨h1, h2, h3, h4⟩ := one u (by simpa using hu)
    exact ⟨h1, by omega, by omega, h3, h4, fun _ => h2⟩
  | succ m ih =>
    intro u hu
    by_cases h : u < 10
    · obtain ⟨h1, h2, h3, h4⟩ := one u h
      exact ⟨h1, by omega, by omega, h3, h4, fun _ => h2⟩
    · obtain ⟨h1, h2, h3, h4, h5, _⟩ := ih (u / 10) (by rw [Nat.pow_succ] at hu; omega)
      have e : (UInt8.ofNat (48 + u % 10)).toNat = 48 + u % 10 := by rw [UInt8.toNat_ofNat_of_lt' (by simp only [UInt8.size]; omega)]
      rw [decDigits, dif_neg h]
      refine ⟨?_, ?_, ?_, ?_, ?_, by omega⟩
      · rw [List.all_append, h1]; simp only [List.all_cons, List.all_nil, Bool.and_true, Bool.true_and]; exact isDig_iff.2 (by rw [e]; omega)
      · rw [List.length_append, List.length_singleton]; omega
      · rw [List.length_append, List.length_singleton]; omega
      · rw [val_snoc, h4, e]; omega
      · intro _
        have := h5 (by omega)
        match hx : decDigits (u / 10), h3 with
        | x :: r, _ => rw [hx] at this; simpa using this

/-- THE REFERENCE's ParseNum, of the bytes. -/
def pv (l : List UInt8) : Int × Bool := if l.length = 0 ∨ 5 < l.length ∨ (1 < l.length ∧ l.head? = some 48) then (0, false) else if l.all isDig = true then ((val 0 l : Nat), true) else (0, false)

theorem pv_true {l : List UInt8} (h : (pv l).2 = true) : ∃ u : Nat, (pv l).1 = (u : Int) ∧ u ≤ 99999 ∧ itoa (u : Int) = l ∧ atoiAll l = .ok (u : Int) := by
  unfold pv at h ⊢
  by_cases h1 : l.length = 0 ∨ 5 < l.length ∨ (1 < l.length ∧ l.head? = some 48)
  · rw [if_pos h1] at h; cases h
  · rw [if_neg h1] at h ⊢
    by_cases h2 : l.all isDig = true
    · rw [if_pos h2]
      have hlen : 1 ≤ l.length ∧ l.length ≤ 5 := by omega
      have hlt := val_lt l 0 0 h2 (by decide)
      have hp : 10 ^ (0 + l.length) ≤ 10 ^ 5 := Nat.pow_le_pow_right (by decide) (by omega)
      have e5 : 10 ^ 5 = 100000 := by decide
      rw [e5] at hp
      have hdec := dec_val (l.length - 1) l (by omega) h2 (fun a b => h1 (Or.inr (Or.inr ⟨a, b⟩)))
      refine ⟨val 0 l, rfl, by omega, ?_, ?_⟩
      · unfold itoa; rw [if_neg (by omega), Int.toNat_natCast, hdec]
      · match l, hlen.1 with
        | c :: r, _ =>
          have hc : isDig c = true := by simp only [List.all_cons, Bool.and_eq_true] at h2; exact h2.1
          have hc := isDig_iff.1 hc
          unfold atoiAll
          have hpm : parseMag (c :: r) = .ok (val 0 (c :: r)) := by
            unfold parseMag; rw [if_neg (by simp)]; exact parse_digits _ 0 0 h2 (by decide) (by omega)
          simp only
          rw [if_neg (show ¬ (c.toNat = 43 ∨ c.toNat = 45) by omega), hpm]
          simp only
          rw [if_neg (by omega), if_neg (by omega), if_neg (by omega)]
    · rw [if_neg h2] at h; cases h
theorem pv_of {l : List UInt8} {v : Int} (h0 : 0 ≤ v) (h1 : v ≤ 99999) (h : itoa v = l) : pv l = (v, true) := by
  obtain ⟨u, rfl⟩ : ∃ u : Nat, v = u := ⟨v.toNat, by omega⟩
  unfold itoa at h
  rw [if_neg (by omega), Int.toNat_natCast] at h
  subst h
  obtain ⟨a, b, c, d, e, f⟩ := dec_facts 4 u (by have : 10 ^ (4 + 1) = 100000 := by decide
                                                 omega)
  unfold pv
  rw [if_neg, if_pos a, d]
  rintro (x | x | ⟨x, y⟩)
  · omega
  · omega
  · by_cases hu : u = 0
    · have := f hu; omega
    · exact e (by omega) y
theorem pv_false {l : List UInt8} (h : (pv l).2 = false) : pv l = (0, false) := by
  unfold pv at h ⊢
  split at h
  · rename_i h1; rw [if_pos h1]
  · rename_i h1
    rw [if_neg h1]
    split at h
    · cases h
    · rename_i h2; rw [if_neg h2]
theorem pv_not {l : List UInt8} (h : ∀ v : Int, 0 ≤ v → v ≤ 99999 → itoa v = l → atoiAll l = .ok v → False) : pv l = (0, false) := by
  apply pv_false
  cases e : (pv l).2 with
  | false => rfl
  | true => obtain ⟨u, _, a, b, c⟩ := pv_true e; exact (h u (by omega) (by omega) b c).elim
end Go.Proofs.YtfgmngfhchfaaaaDoor.Numeral
