/-
  Plain words: comparisons of numbers, lists and blocks; what a system is.
-/
set_option linter.unusedVariables false
set_option linter.unusedSimpArgs false
namespace Go.Vc
/-- A block of the design: three points. -/
abbrev B3 := Int × Int × Int

def cmpI (x y : Int) : Int := if x < y then -1 else if y < x then 1 else 0
def cmpL : List Int → List Int → Int
  | [], [] => 0
  | [], _ :: _ => -1
  | _ :: _, [] => 1
  | x :: xs, y :: ys => if x < y then -1 else if y < x then 1 else cmpL xs ys

theorem drop_cons {α : Type} {xs : List α} {k : Nat} (h : k < xs.length) : xs.drop k = xs[k] :: xs.drop (k + 1) := List.drop_eq_getElem_cons h
theorem take_snoc {α : Type} {xs : List α} {k : Nat} (h : k < xs.length) : xs.take (k + 1) = xs.take k ++ [xs[k]] := List.take_succ_eq_append_getElem h

/-- A list rises from lo on, below n. -/
def rises (n : Int) : List Int → Prop
  | [] => True
  | [x] => 0 ≤ x ∧ x < n
  | x :: y :: r => (0 ≤ x ∧ x < n) ∧ x < y ∧ rises n (y :: r)
instance risesDec (n : Int) : (l : List Int) → Decidable (rises n l)
  | [] => .isTrue trivial
  | [x] => inferInstanceAs (Decidable (0 ≤ x ∧ x < n))
  | x :: y :: r => @instDecidableAnd _ _ _ (@instDecidableAnd _ _ _ (risesDec n (y :: r)))

/-- Each element is within, and greater than the one ahead of it. -/
def risesAt (n : Int) (xs : List Int) (k : Nat) : Prop := ∀ i (h : i < xs.length), i < k → (0 ≤ xs[i] ∧ xs[i] < n) ∧ ∀ j (hj : j < xs.length), j + 1 = i → xs[j] < xs[i]
theorem rises_iff (n : Int) : ∀ xs : List Int, rises n xs ↔ risesAt n xs xs.length := by
  intro xs
  match xs with
  | [] => simp [rises, risesAt]
  | [x] =>
    simp only [rises, risesAt, List.length_cons, List.length_nil]
    constructor
    · intro h i hi _
      have : i = 0 := by omega
      subst this
      exact ⟨h, fun j hj e => by omega⟩
    · intro h
      exact (h 0 (by simp) (by omega)).1
  | x :: y :: r =>
    have ih := rises_iff n (y :: r)
    simp only [rises]
    rw [ih]
    constructor
    · rintro ⟨hx, hxy, h⟩ i hi _
      match i with
      | 0 => exact ⟨hx, fun j hj e => by omega⟩
      | i + 1 =>
        have := h i (by simpa using hi) (by simpa using hi)
        refine ⟨this.1, fun j hj e => ?_⟩
        match j with
        | 0 =>
          have : i = 0 := by omega
          subst this
          exact hxy
        | j + 1 => exact this.2 j (by simpa using hj) (by omega)
    · intro h
      refine ⟨(h 0 (by simp) (by simp)).1, (h 1 (by simp) (by simp)).2 0 (by simp) rfl, fun i hi _ => ?_⟩
      have := h (i + 1) (by simpa using hi) (by simpa using hi)
      exact ⟨this.1, fun j hj e => this.2 (j + 1) (by simpa using hj) (by omega)⟩

theorem risesAt_succ {n : Int} {xs : List Int} {k : Nat} (hk : k < xs.length) (h : risesAt n xs k) (h1 : 0 ≤ xs[k] ∧ xs[k] < n) (h2 : ∀ j (hj : j < xs.length), j + 1 = k → xs[j] < xs[k]) : risesAt n xs (k + 1) := by
  intro i hi hik
  by_cases e : i = k
  · subst e
    exact ⟨h1, h2⟩
  · exact h i hi (by omega)
theorem cmpI_zero {x y : Int} : cmpI x y = 0 ↔ x = y := by unfold cmpI; split <;> (try split) <;> omega
theorem cmpL_cons (x y : Int) (xs ys : List Int) : cmpL (x :: xs) (y :: ys) = if cmpI x y = 0 then cmpL xs ys else cmpI x y := by
  simp only [cmpL, cmpI]
  by_cases h1 : x < y
  · simp [h1]
  · by_cases h2 : y < x
    · simp [h1, h2]
    · simp [h1, h2]
theorem cmpL_step {xs ys : List Int} {k : Nat} {r : Int} (h : cmpL (xs.drop k) (ys.drop k) = r) (h1 : k < xs.length) (h2 : k < ys.length) (h3 : cmpI xs[k] ys[k] = 0) : cmpL (xs.drop (k + 1)) (ys.drop (k + 1)) = r := by
  rw [drop_cons h1, drop_cons h2, cmpL_cons, if_pos h3] at h
  exact h
theorem cmpL_ne {xs ys : List Int} {k : Nat} (h1 : k < xs.length) (h2 : k < ys.length) (h3 : ¬ cmpI xs[k] ys[k] = 0) : cmpI xs[k] ys[k] = cmpL (xs.drop k) (ys.drop k) := by
  rw [drop_cons h1, drop_cons h2, cmpL_cons, if_neg h3]
theorem cmpL_more {xs ys : List Int} {k : Nat} (h1 : k < xs.length) (h2 : ys.length ≤ k) : 1 = cmpL (xs.drop k) (ys.drop k) := by
  rw [drop_cons h1, List.drop_eq_nil_of_le h2]; rfl
theorem cmpL_less {xs ys : List Int} {k : Nat} (h1 : xs.length ≤ k) (h2 : k < ys.length) : -1 = cmpL (xs.drop k) (ys.drop k) := by
  rw [drop_cons h2, List.drop_eq_nil_of_le h1]; rfl
theorem cmpL_end {xs ys : List Int} {k : Nat} (h1 : xs.length ≤ k) (h2 : ys.length ≤ k) : 0 = cmpL (xs.drop k) (ys.drop k) := by
  rw [List.drop_eq_nil_of_le h1, List.drop_eq_nil_of_le h2]; rfl

/-- A list that is being filled: k of xs, the rest z. -/
def fill {α : Type} (xs : List α) (z : α) (k : Nat) : List α := xs.take k ++ List.replicate (xs.length - k) z
theorem fill_zero {α : Type} (xs : List α) (z : α) : fill xs z 0 = List.replicate xs.length z := by simp [fill]
theorem fill_all {α : Type} {xs : List α} {z : α} {k : Nat} (h : xs.length ≤ k) : fill xs z k = xs := by
  unfold fill
  rw [List.take_of_length_le h, show xs.length - k = 0 by omega]
  simp
theorem fill_length {α : Type} {xs : List α} {z : α} {k : Nat} (h : k ≤ xs.length) : (fill xs z k).length = xs.length := by simp [fill]; omega
theorem fill_set {α : Type} {xs : List α} {z : α} {k : Nat} (h : k < xs.length) : (fill xs z k).set k xs[k] = fill xs z (k + 1) := by
  unfold fill
  rw [List.set_append_right _ _ (by simp; omega)]
  rw [show xs.length - k = (xs.length - (k + 1)) + 1 by omega, List.replicate_succ]
  have : k - (xs.take k).length = 0 := by simp; omega
  rw [this]
  simp only [List.set_cons_zero, List.append_assoc, List.singleton_append]
  rw [take_snoc h, List.append_assoc, List.singleton_append]
def roomLeft (n : Nat) (left : Int) : Int := if left - n < 0 then -1 else left - n
theorem roomLeft_neg {n : Nat} {l : Int} (h : roomLeft n l < 0) : -1 = roomLeft n l := by unfold roomLeft at *; split <;> omega
end Go.Vc
