/-
  Plain words: completions, by the bits of the pairs that are used.
-/
import Derived.Test.YtjpfngmoabnffaaPureCls
set_option linter.unusedVariables false
set_option linter.unusedSimpArgs false
namespace Go.Vc

theorem blt_no {a b : Nat} (h : ¬ a < b) : Nat.blt a b = false := by
  cases hh : Nat.blt a b with
  | false => rfl
  | true => rw [Nat.blt_eq] at hh; exact absurd hh h
/-- The number of a pair. -/
def prI (a b : Nat) : Nat := min a b * 16 + max a b
def usd (m a b : Nat) : Bool := m.testBit (prI a b)
def putM (m a b c : Nat) : Nat := m ||| 2 ^ prI a b ||| 2 ^ prI a c ||| 2 ^ prI b c
/-- The first pair that is left. -/
def rowN (v m a : Nat) : Option Nat := (List.range v).find? fun b => Nat.blt a b && !usd m a b
def nextM (v m : Nat) : Option (Nat × Nat) := (List.range v).findSome? fun a => (rowN v m a).map fun b => (a, b)
def may (m a b c : Nat) : Bool := Nat.blt b c && !usd m a c && !usd m b c
def b3N (a b c : Nat) : B3 := ((a : Int), (b : Int), (c : Int))
/-- All completions, each as the blocks that are put in. -/
def compM : Nat → Nat → Nat → List (List B3)
  | 0, v, m => match nextM v m with
    | none => [[]]
    | some _ => []
  | n + 1, v, m => match nextM v m with
    | none => [[]]
    | some (a, b) => (List.range v).flatMap fun c => if may m a b c then (compM n v (putM m a b c)).map (b3N a b c :: ·) else []
def compJ (n v m a b c : Nat) : List (List B3) := (List.range c).flatMap fun c => if may m a b c then (compM n v (putM m a b c)).map (b3N a b c :: ·) else []
/-- How many. -/
def cntM : Nat → Nat → Nat → Nat
  | 0, v, m => match nextM v m with
    | none => 1
    | some _ => 0
  | n + 1, v, m => match nextM v m with
    | none => 1
    | some (a, b) => (List.range v).foldl (fun s c => if may m a b c then s + cntM n v (putM m a b c) else s) 0
theorem len_flatMap {α β : Type} (l : List α) (f : α → List β) : (l.flatMap f).length = l.foldl (fun s x => s + (f x).length) 0 := by
  have key : ∀ (l : List α) (k : Nat), l.foldl (fun s x => s + (f x).length) k = k + (l.flatMap f).length := by
    intro l
    induction l with
    | nil => intro k; simp
    | cons x l ih => intro k; simp only [List.foldl_cons, List.flatMap_cons, List.length_append]; rw [ih]; omega
  rw [key]
  omega
theorem cntM_eq : ∀ n v m, (compM n v m).length = cntM n v m := by
  intro n
  induction n with
  | zero => intro v m; unfold compM cntM; split <;> rfl
  | succ n ih =>
    intro v m
    unfold compM cntM
    split
    · rfl
    · rw [len_flatMap]
      congr 1
      funext s c
      split
      · rw [List.length_map, ih]
      · simp
section
variable {v m a b c n : Nat}
structure IsNext (v m a b : Nat) : Prop where
  ab : a < b
  bv : b < v
  left : usd m a b = false
  row : ∀ y, a < y → y < b → usd m a y = true
  rows : ∀ x y, x < a → x < y → y < v → usd m x y = true
theorem rowN_none (h : ∀ y, a < y → y < v → usd m a y = true) : rowN v m a = none := by
  unfold rowN
  rw [List.find?_eq_none]
  intro y hy
  have := List.mem_range.1 hy
  simp only [Bool.and_eq_true, Nat.blt_eq, Bool.not_eq_true', not_and, Bool.not_eq_false]
  exact fun h1 => h y h1 this
theorem rowN_some (h1 : a < b) (h2 : b < v) (h3 : usd m a b = false) (h4 : ∀ y, a < y → y < b → usd m a y = true) : rowN v m a = some b := by
  unfold rowN
  rw [List.find?_range_eq_some]
  refine ⟨by simp [h1, h3], List.mem_range.2 h2, fun y hy => ?_⟩
  by_cases e : a < y
  · simp [h4 y e hy]
  · simp [blt_no e]
theorem nextM_none (h : ∀ x y, x < y → y < v → usd m x y = true) : nextM v m = none := by
  unfold nextM
  rw [List.findSome?_eq_none_iff]
  intro x hx
  rw [rowN_none (fun y h1 h2 => h x y h1 h2)]
  rfl
theorem findSome_range {α : Type} {f : Nat → Option α} {n k : Nat} {r : α} (hk : k < n) (hr : f k = some r) (hn : ∀ j, j < k → f j = none) : (List.range n).findSome? f = some r := by
  have e : List.range n = List.range k ++ k :: (List.range (n - k - 1)).map (k + 1 + ·) := by
    have h1 : n = k + (1 + (n - k - 1)) := by omega
    conv => lhs; rw [h1]
    rw [List.range_add, List.range_add]
    simp [List.range_succ, Nat.add_assoc, Nat.add_comm, Nat.add_left_comm]
  rw [e, List.findSome?_append]
  have h2 : (List.range k).findSome? f = none := by
    rw [List.findSome?_eq_none_iff]
    exact fun x hx => hn x (List.mem_range.1 hx)
  rw [h2]
  simp [hr]
theorem nextM_some (h : IsNext v m a b) : nextM v m = some (a, b) := by
  unfold nextM
  refine findSome_range (k := a) (Nat.lt_trans h.ab h.bv) ?_ ?_
  · rw [rowN_some h.ab h.bv h.left h.row]
    rfl
  · intro x hx
    rw [rowN_none (fun y h1 h2 => h.rows x y hx h1 h2)]
    rfl
theorem compM_none (h : nextM v m = none) : compM n v m = [[]] := by
  cases n <;> simp [compM, h]
theorem compM_some (h : nextM v m = some (a, b)) : compM (n + 1) v m = compJ n v m a b v := by
  simp [compM, compJ, h]
theorem compJ_zero : compJ n v m a b 0 = [] := rfl
theorem compJ_yes (h : may m a b c = true) : compJ n v m a b (c + 1) = compJ n v m a b c ++ (compM n v (putM m a b c)).map (b3N a b c :: ·) := by
  unfold compJ
  rw [List.range_succ, List.flatMap_append]
  simp [h]
theorem compJ_no (h : may m a b c = false) : compJ n v m a b (c + 1) = compJ n v m a b c := by
  unfold compJ
  rw [List.range_succ, List.flatMap_append]
  simp [h]
theorem compJ_low (h : c ≤ b + 1) : compJ n v m a b c = [] := by
  induction c with
  | zero => rfl
  | succ c ih =>
    rw [compJ_no, ih (by omega)]
    unfold may
    have : Nat.blt b c = false := blt_no (by omega)
    simp [this]
theorem compJ_prefix {i : Nat} (h : i ≤ c) : compJ n v m a b i <+: compJ n v m a b c := by
  induction c with
  | zero => have : i = 0 := by omega
            subst this; exact List.prefix_refl _
  | succ c ih =>
    by_cases e : i = c + 1
    · subst e; exact List.prefix_refl _
    · refine (ih (by omega)).trans ?_
      cases hk : may m a b c with
      | true => rw [compJ_yes hk]; exact List.prefix_append _ _
      | false => rw [compJ_no hk]; exact List.prefix_refl _
/-! ### Pairs -/
theorem prI_comm (a b : Nat) : prI a b = prI b a := by unfold prI; rw [Nat.min_comm, Nat.max_comm]
theorem usd_comm (m a b : Nat) : usd m a b = usd m b a := by unfold usd; rw [prI_comm]
theorem prI_inj {x y : Nat} (ha : a < 16) (hb : b < 16) (hx : x < 16) (hy : y < 16) (h : prI a b = prI x y) : (a = x ∧ b = y) ∨ (a = y ∧ b = x) := by
  unfold prI at h
  omega
theorem usd_put {x y : Nat} (ha : a < 16) (hb : b < 16) (hc : c < 16) (hx : x < 16) (hy : y < 16) : usd (putM m a b c) x y = true ↔ usd m x y = true ∨ ((x = a ∧ y = b) ∨ (x = b ∧ y = a)) ∨ ((x = a ∧ y = c) ∨ (x = c ∧ y = a)) ∨ ((x = b ∧ y = c) ∨ (x = c ∧ y = b)) := by
  unfold usd putM
  simp only [Nat.testBit_or, Nat.testBit_two_pow, Bool.or_eq_true, decide_eq_true_eq]
  have h1 : prI a b = prI x y ↔ (x = a ∧ y = b) ∨ (x = b ∧ y = a) := ⟨fun h => by have := prI_inj ha hb hx hy h; omega, by rintro (⟨rfl, rfl⟩ | ⟨rfl, rfl⟩); rfl; exact prI_comm _ _⟩
  have h2 : prI a c = prI x y ↔ (x = a ∧ y = c) ∨ (x = c ∧ y = a) := ⟨fun h => by have := prI_inj ha hc hx hy h; omega, by rintro (⟨rfl, rfl⟩ | ⟨rfl, rfl⟩); rfl; exact prI_comm _ _⟩
  have h3 : prI b c = prI x y ↔ (x = b ∧ y = c) ∨ (x = c ∧ y = b) := ⟨fun h => by have := prI_inj hb hc hx hy h; omega, by rintro (⟨rfl, rfl⟩ | ⟨rfl, rfl⟩); rfl; exact prI_comm _ _⟩
  rw [h1, h2, h3]
  simp only [or_assoc]
/-- How many pairs are left. -/
def prs (v : Nat) : List (Nat × Nat) := (List.range v).flatMap fun a => (List.range v).map fun b => (a, b)
def leftN (v m : Nat) : Nat := ((prs v).filter fun p => Nat.blt p.1 p.2 && !usd m p.1 p.2).length
theorem mem_prs {p : Nat × Nat} : p ∈ prs v ↔ p.1 < v ∧ p.2 < v := by
  unfold prs
  simp only [List.mem_flatMap, List.mem_range, List.mem_map]
  constructor
  · rintro ⟨x, hx, y, hy, rfl⟩; exact ⟨hx, hy⟩
  · rintro ⟨h1, h2⟩; exact ⟨p.1, h1, p.2, h2, rfl⟩
theorem filter_lt {α : Type} {l : List α} {p q : α → Bool} (h : ∀ x ∈ l, q x = true → p x = true) {x : α} (hx : x ∈ l) (hp : p x = true) (hq : q x = false) : (l.filter q).length < (l.filter p).length := by
  induction l with
  | nil => simp at hx
  | cons y l ih =>
    have hle : (l.filter q).length ≤ (l.filter p).length := by
      clear ih hx
      induction l with
      | nil => simp
      | cons z l ih2 =>
        have h1 := h z (by simp)
        have h2 := ih2 (fun x hx => h x (by simp at hx ⊢; rcases hx with h | h <;> simp [h]))
        simp only [List.filter_cons]
        cases hqz : q z <;> cases hpz : p z <;> simp_all <;> omega
    simp only [List.filter_cons]
    by_cases e : x = y
    · subst e
      simp [hp, hq]
      omega
    · have hm : x ∈ l := by simp at hx; rcases hx with h | h; exact absurd h e; exact h
      have := ih (fun x hx => h x (by simp [hx])) hm
      have h1 := h y (by simp)
      cases hqy : q y <;> cases hpy : p y <;> simp_all <;> omega
theorem leftN_put (ha : a < 16) (hb : b < 16) (hc : c < 16) (hv : v ≤ 16) (hab : a < b) (hbv : b < v) (hu : usd m a b = false) : leftN v (putM m a b c) < leftN v m := by
  unfold leftN
  refine filter_lt (x := (a, b)) ?_ (mem_prs.2 ⟨by omega, hbv⟩) (by simp [hab, hu]) ?_
  · rintro ⟨x, y⟩ hxy h
    obtain ⟨h1, h2⟩ := mem_prs.1 hxy
    simp only [Bool.and_eq_true, Bool.not_eq_true'] at h ⊢
    refine ⟨h.1, ?_⟩
    cases hux : usd m x y with
    | false => rfl
    | true =>
      have := (usd_put (m := m) ha hb hc (x := x) (y := y) (by simp at h1; omega) (by simp at h2; omega)).2 (.inl hux)
      rw [this] at h
      simp at h
  · have := (usd_put (m := m) ha hb hc ha hb).2 (.inr (.inl (.inl ⟨rfl, rfl⟩)))
    simp [this]
theorem leftN_zero (h : leftN v m = 0) : ∀ x y, x < y → y < v → usd m x y = true := by
  intro x y h1 h2
  unfold leftN at h
  have h3 := List.eq_nil_of_length_eq_zero h
  rw [List.filter_eq_nil_iff] at h3
  have := h3 (x, y) (mem_prs.2 ⟨by simp; omega, h2⟩)
  simp only [Bool.and_eq_true, Nat.blt_eq, Bool.not_eq_true', not_and, Bool.not_eq_false] at this
  exact this h1
end
end Go.Vc
