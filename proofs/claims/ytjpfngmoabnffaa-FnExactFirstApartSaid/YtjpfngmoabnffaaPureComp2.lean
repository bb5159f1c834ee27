/-
  Plain words: completions, by the table of third points; a list that is handed on one by one till it is enough.
-/
import Derived.Test.YtjpfngmoabnffaaPureComp
import Derived.Test.YtjpfngmoabnffaaPure2
set_option linter.unusedVariables false
set_option linter.unusedSimpArgs false
namespace Go.Vc
section
variable {v m a b c n : Nat} {G : Int → Int → Int}
/-- The pairs that the table has. -/
def Rel (v : Nat) (G : Int → Int → Int) (m : Nat) : Prop := ∀ x y : Nat, x < v → y < v → x ≠ y → (G x y = -1 ↔ usd m x y = false)
theorem b3N_three (h1 : a < b) (h2 : b < c) : three (b3N a b c) := by unfold three b3N; simp only; omega
theorem rel_left (h : Rel v G m) (h1 : a < b) (h2 : b < c) (h3 : c < v) (hu : usd m a b = false) : isLeft G (b3N a b c) ↔ may m a b c = true := by
  unfold isLeft may b3N
  simp only
  rw [h a b (by omega) (by omega) (by omega), h a c (by omega) (by omega) (by omega), h b c (by omega) (by omega) (by omega)]
  have : Nat.blt b c = true := by rw [Nat.blt_eq]; exact h2
  simp [this, hu]
theorem has_b3N {x : Nat} : has (b3N a b c) x ↔ x = a ∨ x = b ∨ x = c := by
  unfold has b3N
  simp only
  omega
theorem usd_putN {x y : Nat} (ha : a < b) (hb : b < c) (hc : c < 16) (hx : x < 16) (hy : y < 16) (hne : x ≠ y) : usd (putM m a b c) x y = false ↔ usd m x y = false ∧ ¬ (has (b3N a b c) x ∧ has (b3N a b c) y) := by
  have h := usd_put (m := m) (a := a) (b := b) (c := c) (by omega) (by omega) hc hx hy
  rw [has_b3N, has_b3N]
  constructor
  · intro h1
    have h2 : ¬ (usd (putM m a b c) x y = true) := by rw [h1]; decide
    rw [h] at h2
    refine ⟨?_, ?_⟩
    · cases hm : usd m x y with
      | false => rfl
      | true => exact absurd (.inl hm) h2
    · omega
  · rintro ⟨h1, h2⟩
    cases hm : usd (putM m a b c) x y with
    | false => rfl
    | true =>
      have h3 := h.1 hm
      rw [h1] at h3
      rcases h3 with h3 | h3
      · exact absurd h3 (by decide)
      · omega
theorem rel_put (h : Rel v G m) (ha : a < b) (hb : b < c) (hc : c < v) (hv : v ≤ 15) : Rel v (tabPut G (b3N a b c)) (putM m a b c) := by
  intro x y hx hy hne
  rw [tabPut_left (b3N_three ha hb), usd_putN ha hb (by omega) (by omega) (by omega) hne, h x y hx hy hne]
  constructor
  · rintro ⟨h1, h2⟩; exact ⟨h1, fun h3 => h2 ⟨h3.1, h3.2, by omega⟩⟩
  · rintro ⟨h1, h2⟩; exact ⟨h1, fun h3 => h2 ⟨h3.1, h3.2.1⟩⟩
theorem tabDel_left {b : B3} (x y : Int) (hne : x ≠ y) : tabDel G b x y = -1 ↔ (has b x ∧ has b y) ∨ G x y = -1 := by
  unfold tabDel gset has
  repeat' split
  all_goals first | (constructor <;> intro h <;> first | trivial | (left; omega)) | skip
  all_goals
    constructor
    · intro h; exact .inr h
    · rintro (h | h)
      · omega
      · exact h
theorem rel_del (h : Rel v G (putM m a b c)) (ha : a < b) (hb : b < c) (hc : c < v) (hv : v ≤ 15) (hu : usd m a b = false) (hm : may m a b c = true) : Rel v (tabDel G (b3N a b c)) m := by
  have hm' : usd m a c = false ∧ usd m b c = false := by unfold may at hm; simp only [Bool.and_eq_true, Bool.not_eq_true'] at hm; exact ⟨hm.1.2, hm.2⟩
  intro x y hx hy hne
  rw [tabDel_left _ _ (by omega), h x y hx hy hne, usd_putN ha hb (by omega) (by omega) (by omega) hne]
  constructor
  · rintro (⟨h1, h2⟩ | h1)
    · rw [has_b3N] at h1 h2
      rcases h1 with rfl | rfl | rfl <;> rcases h2 with rfl | rfl | rfl <;> first | exact absurd rfl hne | exact hu | exact hm'.1 | exact hm'.2 | (rw [usd_comm]; first | exact hu | exact hm'.1 | exact hm'.2)
    · exact h1.1
  · intro h1
    by_cases h2 : has (b3N a b c) x ∧ has (b3N a b c) y
    · exact .inl h2
    · exact .inr ⟨h1, h2⟩
theorem rel_nil : Rel v (fun _ _ => -1) 0 := by intro x y _ _ _; simp [usd]
/-! ### Handed on one by one -/
variable {α β : Type}
/-- What is handed on of a list, k being there already: till it is told to stop. -/
def runC (cont : Nat → Bool) : Nat → List α → List α
  | _, [] => []
  | k, x :: r => if cont (k + 1) then x :: runC cont (k + 1) r else [x]
def goesC (cont : Nat → Bool) : Nat → List α → Bool
  | _, [] => true
  | k, _ :: r => cont (k + 1) && goesC cont (k + 1) r
variable {cont : Nat → Bool} {k : Nat}
theorem runC_all {l : List α} (h : goesC cont k l = true) : runC cont k l = l := by
  induction l generalizing k with
  | nil => rfl
  | cons x r ih =>
    unfold goesC at h
    rw [Bool.and_eq_true] at h
    unfold runC
    rw [if_pos h.1, ih h.2]
theorem goesC_append {l r : List α} : goesC cont k (l ++ r) = (goesC cont k l && goesC cont (k + l.length) r) := by
  induction l generalizing k with
  | nil => simp [goesC]
  | cons x l ih =>
    simp only [List.cons_append, goesC, ih, List.length_cons, Bool.and_assoc]
    rw [show k + 1 + l.length = k + (l.length + 1) by omega]
theorem runC_append {l r : List α} (h : goesC cont k l = true) : runC cont k (l ++ r) = l ++ runC cont (k + l.length) r := by
  induction l generalizing k with
  | nil => rfl
  | cons x l ih =>
    unfold goesC at h
    rw [Bool.and_eq_true] at h
    simp only [List.cons_append]
    rw [runC, if_pos h.1, ih h.2, List.length_cons, show k + 1 + l.length = k + (l.length + 1) by omega]
theorem runC_stop {l r : List α} (h : goesC cont k l = false) : runC cont k (l ++ r) = runC cont k l := by
  induction l generalizing k with
  | nil => simp [goesC] at h
  | cons x l ih =>
    simp only [List.cons_append, runC]
    by_cases hc : cont (k + 1) = true
    · rw [if_pos hc, if_pos hc]
      unfold goesC at h
      rw [hc, Bool.true_and] at h
      rw [ih h]
    · rw [if_neg hc, if_neg hc]
theorem goesC_stop {l r : List α} (h : goesC cont k l = false) : goesC cont k (l ++ r) = false := by rw [goesC_append, h]; rfl
theorem goesC_map {f : α → β} {l : List α} : goesC cont k (l.map f) = goesC cont k l := by
  induction l generalizing k with
  | nil => rfl
  | cons x r ih => simp [goesC, ih]
theorem runC_le {l : List α} : (runC cont k l).length ≤ l.length := by
  induction l generalizing k with
  | nil => simp [runC]
  | cons x r ih =>
    unfold runC
    split
    · simp only [List.length_cons]
      have := ih (k := k + 1)
      omega
    · simp
theorem goesC_true {l : List α} : goesC (fun _ => true) k l = true := by
  induction l generalizing k with
  | nil => rfl
  | cons x r ih => simp [goesC, ih]
/-- The completions, behind blocks. -/
def leaf (xs : List B3) (l : List (List B3)) : List (List B3) := l.map (xs ++ ·)
theorem leaf_append {xs : List B3} {l r : List (List B3)} : leaf xs (l ++ r) = leaf xs l ++ leaf xs r := List.map_append ..
theorem leaf_cons {xs : List B3} {b : B3} {l : List (List B3)} : leaf xs (l.map (b :: ·)) = leaf (xs ++ [b]) l := by
  unfold leaf
  rw [List.map_map]
  refine List.map_congr_left fun x _ => ?_
  simp
theorem leaf_len {xs : List B3} {l : List (List B3)} : (leaf xs l).length = l.length := List.length_map ..
end
end Go.Vc
