/-
  Plain words on lists of numbers and lists of lists: the order of lists, sorted lists, insertion from the right.
-/
import Derived.Test.YtjpfngmoabnffaaPure1
set_option linter.unusedVariables false
set_option linter.unusedSimpArgs false
namespace Go.Vc

/-! ### The order of lists -/
def ltL (a b : List Int) : Prop := cmpL a b < 0
theorem cmpL_self : ∀ a : List Int, cmpL a a = 0 := by
  intro a
  induction a with
  | nil => rfl
  | cons x a ih => simp [cmpL, cmpI, ih]
theorem cmpL_swap : ∀ a b : List Int, cmpL b a = - cmpL a b := by
  intro a
  induction a with
  | nil => intro b; cases b <;> simp [cmpL]
  | cons x a ih =>
    intro b
    cases b with
    | nil => simp [cmpL]
    | cons y b =>
      simp only [cmpL, cmpI]
      have := ih b
      repeat' split
      all_goals first | omega | simp_all
theorem cmpL_eq : ∀ a b : List Int, cmpL a b = 0 → a = b := by
  intro a
  induction a with
  | nil => intro b h; cases b <;> simp_all [cmpL]
  | cons x a ih =>
    intro b h
    cases b with
    | nil => simp [cmpL] at h
    | cons y b =>
      simp only [cmpL, cmpI] at h
      have hxy : x = y := by
        repeat' split at h
        all_goals first | omega | simp_all
      subst hxy
      have : cmpL a b = 0 := by simpa using h
      rw [ih b this]
theorem ltL_irrefl (a : List Int) : ¬ ltL a a := by unfold ltL; rw [cmpL_self]; omega
theorem ltL_tri {a b : List Int} (h1 : ¬ ltL a b) (h2 : ¬ ltL b a) : a = b := by
  unfold ltL at *
  rw [cmpL_swap a b] at h2
  exact cmpL_eq a b (by omega)
theorem ltL_cons {x y : Int} {a b : List Int} : ltL (x :: a) (y :: b) ↔ x < y ∨ x = y ∧ ltL a b := by
  unfold ltL
  simp only [cmpL, cmpI]
  by_cases h1 : x < y
  · simp [h1]
  · by_cases h2 : x = y
    · subst h2
      simp
    · have h3 : ¬ x ≤ y := by omega
      simp [h1, h2]
      repeat' split
      all_goals first | omega | simp_all
theorem ltL_trans : ∀ {a b c : List Int}, ltL a b → ltL b c → ltL a c := by
  intro a
  induction a with
  | nil =>
    intro b c h1 h2
    cases c with
    | nil => cases b <;> simp [ltL, cmpL] at *
    | cons z c => simp [ltL, cmpL]
  | cons x a ih =>
    intro b c h1 h2
    cases b with
    | nil => simp [ltL, cmpL] at h1
    | cons y b =>
      cases c with
      | nil => simp [ltL, cmpL] at h2
      | cons z c =>
        rw [ltL_cons] at *
        rcases h1 with h1 | ⟨h1, h3⟩
        · rcases h2 with h2 | ⟨h2, h4⟩
          · exact .inl (by omega)
          · exact .inl (by omega)
        · rcases h2 with h2 | ⟨h2, h4⟩
          · exact .inl (by omega)
          · exact .inr ⟨by omega, ih h3 h4⟩
theorem ltL_asymm {a b : List Int} (h1 : ltL a b) (h2 : ltL b a) : False := ltL_irrefl a (ltL_trans h1 h2)

theorem same_of {a b : List Int} (h : ¬ cmpL a b < 0) : ¬ cmpL b a < 0 ↔ a = b :=
  ⟨fun h' => ltL_tri h h', fun e => by subst e; exact h⟩
/-! ### Strictly sorted lists of lists -/
def SrtL (l : List (List Int)) : Prop := l.Pairwise ltL
/-- The list of all that are such, in order. -/
def IsList (p : List Int → Prop) (l : List (List Int)) : Prop := SrtL l ∧ ∀ r, r ∈ l ↔ p r
theorem SrtL.unique : ∀ {l m : List (List Int)}, SrtL l → SrtL m → (∀ r, r ∈ l ↔ r ∈ m) → l = m := by
  intro l
  induction l with
  | nil =>
    intro m _ _ h
    cases m with
    | nil => rfl
    | cons b m => exact absurd ((h b).2 (by simp)) (by simp)
  | cons a l ih =>
    intro m h1 h2 h
    cases m with
    | nil => exact absurd ((h a).1 (by simp)) (by simp)
    | cons b m =>
      obtain ⟨ha, hl⟩ := List.pairwise_cons.1 h1
      obtain ⟨hb, hm⟩ := List.pairwise_cons.1 h2
      have hab : a = b := by
        rcases List.mem_cons.1 ((h a).1 (by simp)) with e | e
        · exact e
        · rcases List.mem_cons.1 ((h b).2 (by simp)) with e' | e'
          · exact e'.symm
          · exact (ltL_asymm (hb a e) (ha b e')).elim
      subst hab
      rw [ih hl hm]
      intro r
      constructor
      · intro hr
        rcases List.mem_cons.1 ((h r).1 (by simp [hr])) with e | e
        · subst e
          exact (ltL_irrefl _ (ha _ hr)).elim
        · exact e
      · intro hr
        rcases List.mem_cons.1 ((h r).2 (by simp [hr])) with e | e
        · subst e
          exact (ltL_irrefl _ (hb _ hr)).elim
        · exact e
theorem IsList.unique {p : List Int → Prop} {l m : List (List Int)} (h1 : IsList p l) (h2 : IsList p m) : l = m := h1.1.unique h2.1 (fun r => (h1.2 r).trans (h2.2 r).symm)
theorem SrtL.nil : SrtL [] := List.Pairwise.nil

/-! ### Insertion from the right -/
def shiftAt {α : Type} (l : List α) (z : α) (i : Nat) : List α := (l ++ [z]).take (i + 1) ++ l.drop i
section
variable {α : Type} {l : List α} {z x : α} {i : Nat}
theorem shiftAt_len (h : i ≤ l.length) : (shiftAt l z i).length = l.length + 1 := by simp [shiftAt]; omega
theorem shiftAt_start : shiftAt l z l.length = l ++ [z] := by
  unfold shiftAt
  rw [List.drop_length, List.append_nil, List.take_of_length_le (by simp)]
theorem shiftAt_get? (h : i ≤ l.length) (j : Nat) : (shiftAt l z i)[j]? = if j ≤ i then (l ++ [z])[j]? else l[j - 1]? := by
  unfold shiftAt
  by_cases hj : j ≤ i
  · rw [List.getElem?_append_left (by simp; omega), List.getElem?_take, if_pos (by omega), if_pos hj]
  · rw [List.getElem?_append_right (by simp; omega), List.getElem?_drop, if_neg hj]
    congr 1
    simp
    omega
theorem shiftAt_lt (h : i ≤ l.length) {j : Nat} (hj : j < i) (h1 : j < (shiftAt l z i).length) : (shiftAt l z i)[j] = l[j] := by
  have := shiftAt_get? (z := z) h j
  rw [if_pos (by omega), List.getElem?_append_left (by omega), List.getElem?_eq_getElem h1, List.getElem?_eq_getElem (by omega)] at this
  exact Option.some.inj this
theorem shiftAt_step (h : i ≤ l.length) (h0 : 0 < i) (h1 : i - 1 < (shiftAt l z i).length) : (shiftAt l z i).set i (shiftAt l z i)[i - 1] = shiftAt l z (i - 1) := by
  rw [shiftAt_lt h (by omega)]
  apply List.ext_getElem?
  intro j
  rw [List.getElem?_set, shiftAt_get? h, shiftAt_get? (by omega), shiftAt_len h]
  by_cases e : i = j
  · subst e
    rw [if_pos rfl, if_pos (by omega), if_neg (by omega), List.getElem?_eq_getElem (by omega)]
  · rw [if_neg e]
    by_cases hj : j ≤ i
    · rw [if_pos hj, if_pos (by omega)]
    · rw [if_neg hj, if_neg (by omega)]
theorem shiftAt_done (h : i ≤ l.length) : (shiftAt l z i).set i x = l.take i ++ x :: l.drop i := by
  apply List.ext_getElem?
  intro j
  rw [List.getElem?_set, shiftAt_get? h, shiftAt_len h]
  by_cases e : i = j
  · subst e
    rw [if_pos rfl, if_pos (by omega), List.getElem?_append_right (by rw [List.length_take]; omega), List.length_take]
    have : i - min i l.length = 0 := by omega
    simp [this]
  · rw [if_neg e]
    by_cases hj : j ≤ i
    · rw [if_pos hj, List.getElem?_append_left (by omega), List.getElem?_append_left (by rw [List.length_take]; omega), List.getElem?_take, if_pos (by omega)]
    · rw [if_neg hj, List.getElem?_append_right (by simp; omega), List.length_take]
      have : j - min i l.length = (j - i - 1) + 1 := by omega
      rw [this, List.getElem?_cons_succ, List.getElem?_drop]
      congr 1
      omega
theorem mem_put {r : α} (i : Nat) : r ∈ l.take i ++ x :: l.drop i ↔ r ∈ l ∨ r = x := by
  have : r ∈ l ↔ r ∈ l.take i ∨ r ∈ l.drop i := by rw [← List.mem_append, List.take_append_drop]
  rw [List.mem_append, List.mem_cons, this]
  constructor
  · rintro (h | h | h) <;> simp [h]
  · rintro ((h | h) | h) <;> simp [h]
theorem perm_put (i : Nat) : (l.take i ++ x :: l.drop i).Perm (l ++ [x]) := by
  refine List.perm_middle.trans ?_
  rw [List.take_append_drop]
  exact (List.perm_append_comm (l₁ := l) (l₂ := [x])).symm
/-- Insertion keeps an order. -/
theorem pairwise_put {R : α → α → Prop} (htr : ∀ {a b c}, R a b → R b c → R a c) (hs : l.Pairwise R) (hi : i ≤ l.length) (hhi : ∀ j (hj : j < l.length), i ≤ j → R x l[j]) (hlo : ∀ (h : 0 < i), R (l[i - 1]'(by omega)) x) : (l.take i ++ x :: l.drop i).Pairwise R := by
  rw [List.pairwise_append, List.pairwise_cons]
  have hlo' : ∀ a ∈ l.take i, R a x := by
    intro a ha
    obtain ⟨j, hj, rfl⟩ := List.getElem_of_mem ha
    have hj' : j < i := by simp at hj; omega
    rw [List.getElem_take]
    by_cases e : j = i - 1
    · subst e
      exact hlo (by omega)
    · exact htr (List.pairwise_iff_getElem.1 hs j (i - 1) (by omega) (by omega) (by omega)) (hlo (by omega))
  have hhi' : ∀ a ∈ l.drop i, R x a := by
    intro a ha
    obtain ⟨j, hj, rfl⟩ := List.getElem_of_mem ha
    rw [List.getElem_drop]
    exact hhi _ _ (by omega)
  refine ⟨hs.sublist (List.take_sublist _ _), ⟨hhi', hs.sublist (List.drop_sublist _ _)⟩, ?_⟩
  intro a ha b hb
  rcases List.mem_cons.1 hb with e | e
  · subst e
    exact hlo' a ha
  · exact htr (hlo' a ha) (hhi' b e)
/-- The lists that are sorted: what is put in. -/
theorem asc_step {xs l : List Int} {k y : Nat} (hk : k < xs.length) (hp : l.Perm (xs.take k)) (hs : l.Pairwise (· ≤ ·)) (hy : y ≤ l.length) (hhi : ∀ j (hj : j < l.length), y ≤ j → xs[k] < l[j]) (hlo : ∀ (h : 0 < y), l[y - 1]'(by omega) ≤ xs[k]) :
    (l.take y ++ xs[k] :: l.drop y).Perm (xs.take (k + 1)) ∧ (l.take y ++ xs[k] :: l.drop y).Pairwise (· ≤ ·) := by
  refine ⟨?_, pairwise_put (fun h1 h2 => Int.le_trans h1 h2) hs hy (fun j hj h => by have := hhi j hj h; omega) hlo⟩
  rw [take_snoc hk]
  exact (perm_put y).trans (hp.append_right _)
theorem put_step {l : List (List Int)} {x : List Int} {y : Nat} (hs : SrtL l) (hy : y ≤ l.length) (hhi : ∀ j (hj : j < l.length), y ≤ j → cmpL x l[j] < 0) (hlo : ∀ (h : 0 < y), ¬ cmpL x (l[y - 1]'(by omega)) < 0 ∧ l[y - 1]'(by omega) ≠ x) :
    SrtL (l.take y ++ x :: l.drop y) := by
  refine pairwise_put (fun h1 h2 => ltL_trans h1 h2) hs hy hhi (fun h => ?_)
  obtain ⟨h1, h2⟩ := hlo h
  rcases Classical.em (ltL l[y - 1] x) with h3 | h3
  · exact h3
  · exact absurd (ltL_tri h3 h1) h2
end
/-- The first that is such. -/
def idxP {α : Type} (p : α → Prop) [DecidablePred p] (xs : List α) : Int := match xs.findIdx? (fun x => decide (p x)) with | some i => i | none => -1
section
variable {α : Type} {p : α → Prop} [DecidablePred p] {xs : List α} {k : Nat}
theorem idxP_found (hk : k < xs.length) (hp : p xs[k]) (hlt : ∀ j (hj : j < xs.length), j < k → ¬ p xs[j]) : idxP p xs = k := by
  have : xs.findIdx? (fun x => decide (p x)) = some k := by
    rw [List.findIdx?_eq_some_iff_getElem]
    exact ⟨hk, by simpa using hp, fun j hj => by simpa using hlt j (by omega) hj⟩
  simp [idxP, this]
theorem idxP_none (h : ∀ j (hj : j < xs.length), ¬ p xs[j]) : idxP p xs = -1 := by
  have : xs.findIdx? (fun x => decide (p x)) = none := by
    rw [List.findIdx?_eq_none_iff]
    intro x hx
    obtain ⟨j, hj, rfl⟩ := List.getElem_of_mem hx
    simpa using h j hj
  simp [idxP, this]
theorem idxP_nonneg : 0 ≤ idxP p xs ↔ ∃ x ∈ xs, p x := by
  unfold idxP
  cases h : xs.findIdx? (fun x => decide (p x)) with
  | none =>
    rw [List.findIdx?_eq_none_iff] at h
    simp only [Int.reduceNeg, Int.reduceLE, false_iff, not_exists, not_and]
    intro x hx hp
    have := h x hx
    simp [hp] at this
  | some i =>
    rw [List.findIdx?_eq_some_iff_getElem] at h
    obtain ⟨h1, h2, _⟩ := h
    exact ⟨fun _ => ⟨_, List.getElem_mem h1, by simpa using h2⟩, fun _ => by simp⟩
end
theorem some_of {α : Type} {A : Option α} (h : A.isNone = false) : A.isSome = true := by cases A <;> simp_all
theorem none_of {α : Type} {A : Option α} (h : A.isNone = true) : A = none := by cases A <;> simp_all
end Go.Vc
