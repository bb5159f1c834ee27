/-
  Plain words: completions are in order, and none lacks.
-/
import Derived.Test.YtjpfngmoabnffaaPureComp2
set_option linter.unusedVariables false
set_option linter.unusedSimpArgs false
namespace Go.Vc
theorem lt_trans3 {a b c : B3} (h1 : B3.lt a b) (h2 : B3.lt b c) : B3.lt a c := by unfold B3.lt at *; omega
theorem lt_asymm3 {a b : B3} (h1 : B3.lt a b) (h2 : B3.lt b a) : False := lt_irrefl a (lt_trans3 h1 h2)
section
variable {v m a b c n : Nat}
theorem next_cases (v m : Nat) : (∀ x y, x < y → y < v → usd m x y = true) ∨ ∃ a b, IsNext v m a b := by
  have key : ∀ k, k ≤ v → (∀ x y, x < k → x < y → y < v → usd m x y = true) ∨ ∃ a b, IsNext v m a b := by
    intro k
    induction k with
    | zero => intro _; exact .inl (fun x y h => by omega)
    | succ k ih =>
      intro hk
      rcases ih (by omega) with h | h
      · have key2 : ∀ j, j ≤ v → (∀ y, k < y → y < j → usd m k y = true) ∨ ∃ a b, IsNext v m a b := by
          intro j
          induction j with
          | zero => intro _; exact .inl (fun y _ h => by omega)
          | succ j ihj =>
            intro hj
            rcases ihj (by omega) with h1 | h1
            · by_cases hkj : k < j
              · cases hu : usd m k j with
                | true => exact .inl (fun y h2 h3 => by by_cases e : y = j; (· subst e; exact hu); (· exact h1 y h2 (by omega)))
                | false => exact .inr ⟨k, j, hkj, by omega, hu, h1, fun x y h2 h3 h4 => h x y h2 h3 h4⟩
              · exact .inl (fun y h2 h3 => by omega)
            · exact .inr h1
        rcases key2 v (Nat.le_refl _) with h1 | h1
        · exact .inl (fun x y h2 h3 h4 => by by_cases e : x = k; (· subst e; exact h1 y h3 h4); (· exact h x y (by omega) h3 h4))
        · exact .inr h1
      · exact .inr h
  rcases key v (Nat.le_refl _) with h | h
  · exact .inl (fun x y h1 h2 => h x y (by omega) h1 h2)
  · exact .inr h
theorem next_spec (h : nextM v m = some (a, b)) : IsNext v m a b := by
  rcases next_cases v m with h1 | ⟨x, y, h1⟩
  · rw [nextM_none h1] at h; cases h
  · rw [nextM_some h1] at h
    obtain ⟨rfl, rfl⟩ := Prod.mk.inj (Option.some.inj h)
    exact h1
theorem next_none (h : nextM v m = none) : ∀ x y, x < y → y < v → usd m x y = true := by
  rcases next_cases v m with h1 | ⟨x, y, h1⟩
  · exact h1
  · rw [nextM_some h1] at h; cases h
theorem may_spec (h : may m a b c = true) : b < c ∧ usd m a c = false ∧ usd m b c = false := by
  unfold may at h
  simp only [Bool.and_eq_true, Nat.blt_eq, Bool.not_eq_true'] at h
  exact ⟨h.1.1, h.1.2, h.2⟩
/-- A member is either the empty one, or begins with a block. -/
theorem mem_comp {q : List B3} (h : q ∈ compM n v m) : (q = [] ∧ nextM v m = none) ∨ ∃ k a b c r, n = k + 1 ∧ nextM v m = some (a, b) ∧ c < v ∧ may m a b c = true ∧ r ∈ compM k v (putM m a b c) ∧ q = b3N a b c :: r := by
  cases n with
  | zero =>
    unfold compM at h
    split at h
    · rename_i e; simp at h; exact .inl ⟨h, e⟩
    · simp at h
  | succ n =>
    unfold compM at h
    split at h
    · rename_i e; simp at h; exact .inl ⟨h, e⟩
    · rename_i a b e
      obtain ⟨c, hc, h1⟩ := List.mem_flatMap.1 h
      split at h1
      · rename_i hm
        obtain ⟨r, hr, rfl⟩ := List.mem_map.1 h1
        exact .inr ⟨n, a, b, c, r, rfl, e, List.mem_range.1 hc, hm, hr, rfl⟩
      · simp at h1
/-- A block whose first pair is left. -/
def Free (v m : Nat) (d : B3) : Prop := ∃ x y z : Nat, d = b3N x y z ∧ x < y ∧ y < z ∧ z < v ∧ usd m x y = false
theorem comp_free : ∀ n v m (q : List B3), v ≤ 15 → q ∈ compM n v m → ∀ d ∈ q, Free v m d := by
  intro n
  induction n with
  | zero =>
    intro v m q hv hq d hd
    rcases mem_comp hq with ⟨rfl, _⟩ | ⟨k, a, b, c, r, hk, _⟩
    · simp at hd
    · omega
  | succ n ih =>
    intro v m q hv hq d hd
    rcases mem_comp hq with ⟨rfl, _⟩ | ⟨k, a, b, c, r, hk, hn, hc, hm, hr, rfl⟩
    · simp at hd
    · obtain rfl : n = k := by omega
      have hI := next_spec hn
      obtain ⟨h1, h2, h3⟩ := may_spec hm
      rcases List.mem_cons.1 hd with rfl | hd
      · exact ⟨a, b, c, rfl, hI.ab, h1, hc, hI.left⟩
      · obtain ⟨x, y, z, e, hx, hy, hz, hu⟩ := ih _ _ _ hv hr d hd
        refine ⟨x, y, z, e, hx, hy, hz, ?_⟩
        cases hh : usd m x y with
        | false => rfl
        | true =>
          have := (usd_put (m := m) (a := a) (b := b) (c := c) (by have := hI.ab; have := hI.bv; omega) (by have := hI.bv; omega) (by omega) (x := x) (y := y) (by omega) (by omega)).2 (.inl hh)
          rw [this] at hu
          cases hu
theorem b3N_lt {x y z a b c : Nat} (h : a < x ∨ (a = x ∧ b < y)) : B3.lt (b3N a b c) (b3N x y z) := by unfold B3.lt b3N; simp only; omega
theorem comp_sorted : ∀ n v m (q : List B3), v ≤ 15 → q ∈ compM n v m → q.Pairwise B3.lt := by
  intro n
  induction n with
  | zero =>
    intro v m q hv hq
    rcases mem_comp hq with ⟨rfl, _⟩ | ⟨k, a, b, c, r, hk, _⟩
    · exact List.Pairwise.nil
    · omega
  | succ n ih =>
    intro v m q hv hq
    rcases mem_comp hq with ⟨rfl, _⟩ | ⟨k, a, b, c, r, hk, hn, hc, hm, hr, rfl⟩
    · exact List.Pairwise.nil
    · obtain rfl : n = k := by omega
      have hI := next_spec hn
      obtain ⟨h1, h2, h3⟩ := may_spec hm
      have hab := hI.ab
      have hbv := hI.bv
      refine List.pairwise_cons.2 ⟨fun d hd => ?_, ih _ _ _ hv hr⟩
      obtain ⟨x, y, z, rfl, hx, hy, hz, hu⟩ := comp_free _ _ _ _ hv hr d hd
      have hup := usd_put (m := m) (a := a) (b := b) (c := c) (by omega) (by omega) (by omega) (x := x) (y := y) (by omega) (by omega)
      refine b3N_lt ?_
      apply Decidable.byContradiction
      intro hc'
      have : usd (putM m a b c) x y = true := by
        rw [hup]
        by_cases e : x = a ∧ y = b
        · exact .inr (.inl (.inl e))
        · refine .inl ?_
          by_cases e1 : x < a
          · exact hI.rows x y e1 hx (by omega)
          · obtain rfl : x = a := by omega
            exact hI.row y hx (by omega)
      rw [this] at hu
      cases hu
/-- One list of blocks comes ahead of another one: at the first place where they differ. -/
def befB : List B3 → List B3 → Prop
  | x :: a, y :: b => if x = y then befB a b else B3.lt x y
  | _, _ => False
noncomputable instance (a b : List B3) : Decidable (befB a b) := Classical.propDecidable _
theorem befB_asymm : ∀ {a b : List B3}, befB a b → befB b a → False := by
  intro a
  induction a with
  | nil => intro b h; cases b <;> simp [befB] at h
  | cons x a ih =>
    intro b h1 h2
    cases b with
    | nil => simp [befB] at h1
    | cons y b =>
      unfold befB at h1 h2
      by_cases e : x = y
      · rw [if_pos e] at h1; rw [if_pos e.symm] at h2; exact ih h1 h2
      · rw [if_neg e] at h1; rw [if_neg (fun h => e h.symm)] at h2; exact lt_asymm3 h1 h2
theorem comp_ascending : ∀ n v m, v ≤ 15 → (compM n v m).Pairwise befB := by
  intro n
  induction n with
  | zero => intro v m hv; unfold compM; split <;> simp
  | succ n ih =>
    intro v m hv
    unfold compM
    split
    · simp
    · rename_i a b e
      rw [List.pairwise_flatMap]
      refine ⟨fun c hc => ?_, ?_⟩
      · split
        · rw [List.pairwise_map]
          exact (ih v _ hv).imp (fun h => by unfold befB; rw [if_pos rfl]; exact h)
        · simp
      · refine List.Pairwise.imp ?_ (List.pairwise_lt_range (n := v))
        intro c d hcd q hq r hr
        split at hq
        · split at hr
          · obtain ⟨q', _, rfl⟩ := List.mem_map.1 hq
            obtain ⟨r', _, rfl⟩ := List.mem_map.1 hr
            unfold befB
            rw [if_neg (by unfold b3N; intro h; simp at h; omega)]
            exact .inr ⟨rfl, .inr ⟨rfl, by show (c : Int) < d; omega⟩⟩
          · simp at hr
        · simp at hq
/-! ### How many blocks -/
theorem usd_put_self (ha : a < b) (hb : b < c) (hc : c < 16) : usd (putM m a b c) a b = true ∧ usd (putM m a b c) a c = true ∧ usd (putM m a b c) b c = true := by
  refine ⟨?_, ?_, ?_⟩ <;> rw [usd_put (by omega) (by omega) (by omega) (by omega) (by omega)]
  · exact .inr (.inl (.inl ⟨rfl, rfl⟩))
  · exact .inr (.inr (.inl (.inl ⟨rfl, rfl⟩)))
  · exact .inr (.inr (.inr (.inl ⟨rfl, rfl⟩)))
theorem filter_but {α : Type} [DecidableEq α] {l : List α} (hd : l.Nodup) {p : α → Bool} {x : α} (hx : x ∈ l) (hp : p x = true) : (l.filter fun y => p y && !decide (y = x)).length + 1 = (l.filter p).length := by
  induction l with
  | nil => simp at hx
  | cons y l ih =>
    obtain ⟨h1, h2⟩ := List.nodup_cons.1 hd
    by_cases e : y = x
    · subst e
      have h3 : (l.filter fun z => p z && !decide (z = y)) = l.filter p := by
        refine List.filter_congr fun z hz => ?_
        have : z ≠ y := fun e => h1 (e ▸ hz)
        simp [this]
      simp [List.filter_cons, hp, h3]
    · have hx' : x ∈ l := by
        rcases List.mem_cons.1 hx with h | h
        · exact absurd h.symm e
        · exact h
      have := ih h2 hx'
      simp only [List.filter_cons, e, decide_false, Bool.not_false, Bool.and_true]
      split
      · simp only [List.length_cons]; omega
      · exact this
theorem prs_nodup (v : Nat) : (prs v).Nodup := by
  unfold prs
  rw [List.nodup_iff_pairwise_ne, List.pairwise_flatMap]
  refine ⟨fun a _ => ?_, ?_⟩
  · rw [List.pairwise_map]
    exact (List.pairwise_lt_range (n := v)).imp (fun h e => by cases e; omega)
  · refine List.Pairwise.imp ?_ (List.pairwise_lt_range (n := v))
    intro x y hxy p hp q hq
    obtain ⟨i, _, rfl⟩ := List.mem_map.1 hp
    obtain ⟨j, _, rfl⟩ := List.mem_map.1 hq
    intro e
    cases e
    omega
theorem leftN_put3 (ha : a < b) (hb : b < c) (hc : c < v) (hv : v ≤ 15) (h1 : usd m a b = false) (h2 : usd m a c = false) (h3 : usd m b c = false) : leftN v (putM m a b c) + 3 = leftN v m := by
  have e1 := filter_but (prs_nodup v) (p := fun p => Nat.blt p.1 p.2 && !usd m p.1 p.2) (x := (a, b)) (mem_prs.2 ⟨by simp; omega, by simp; omega⟩) (by simp [ha, h1])
  have e2 := filter_but (prs_nodup v) (p := fun y => (Nat.blt y.1 y.2 && !usd m y.1 y.2) && !decide (y = (a, b))) (x := (a, c)) (mem_prs.2 ⟨by simp; omega, by simp; omega⟩) (by
    have : Nat.blt a c = true := by rw [Nat.blt_eq]; omega
    simp [h2, this]; omega)
  have e3 := filter_but (prs_nodup v) (p := fun y => ((Nat.blt y.1 y.2 && !usd m y.1 y.2) && !decide (y = (a, b))) && !decide (y = (a, c))) (x := (b, c)) (mem_prs.2 ⟨by simp; omega, by simp; omega⟩) (by
    simp [h3, hb]; omega)
  have e4 : leftN v (putM m a b c) = ((prs v).filter fun y => (((Nat.blt y.1 y.2 && !usd m y.1 y.2) && !decide (y = (a, b))) && !decide (y = (a, c))) && !decide (y = (b, c))).length := by
    unfold leftN
    congr 1
    refine List.filter_congr fun p hp => ?_
    obtain ⟨x, y⟩ := p
    obtain ⟨hx, hy⟩ := mem_prs.1 hp
    simp only at hx hy
    by_cases hxy : x < y
    · have hxb : Nat.blt x y = true := by rw [Nat.blt_eq]; exact hxy
      have hup := usd_put (m := m) (a := a) (b := b) (c := c) (by omega) (by omega) (by omega) (x := x) (y := y) (by omega) (by omega)
      simp only [hxb, Bool.true_and, Prod.mk.injEq]
      cases hm : usd m x y with
      | true =>
        have : usd (putM m a b c) x y = true := hup.2 (.inl hm)
        simp [this]
      | false =>
        by_cases h : (x = a ∧ y = b) ∨ (x = a ∧ y = c) ∨ (x = b ∧ y = c)
        · have : usd (putM m a b c) x y = true := hup.2 (.inr (by omega))
          rw [this]
          rcases h with h | h | h <;> simp [h]
        · have : usd (putM m a b c) x y = false := by
            cases hh : usd (putM m a b c) x y with
            | false => rfl
            | true =>
              have h5 := hup.1 hh
              rw [hm] at h5
              rcases h5 with h5 | h5
              · cases h5
              · omega
          rw [this]
          have q1 : ¬ (x = a ∧ y = b) := fun e => h (.inl e)
          have q2 : ¬ (x = a ∧ y = c) := fun e => h (.inr (.inl e))
          have q3 : ¬ (x = b ∧ y = c) := fun e => h (.inr (.inr e))
          simp [q1, q2, q3]
    · have hxb : Nat.blt x y = false := blt_no hxy
      simp [hxb]
  unfold leftN at *
  omega
theorem comp_count : ∀ n v m (q : List B3), v ≤ 15 → q ∈ compM n v m → 3 * q.length = leftN v m := by
  intro n
  induction n with
  | zero =>
    intro v m q hv hq
    rcases mem_comp hq with ⟨rfl, hn⟩ | ⟨k, a, b, c, r, hk, _⟩
    · have h := next_none hn
      have : leftN v m = 0 := by
        unfold leftN
        rw [List.length_eq_zero_iff, List.filter_eq_nil_iff]
        rintro ⟨x, y⟩ hp
        obtain ⟨hx, hy⟩ := mem_prs.1 hp
        simp only [Bool.and_eq_true, Nat.blt_eq, Bool.not_eq_true', not_and, Bool.not_eq_false]
        exact fun hxy => h x y hxy hy
      rw [this]; rfl
    · omega
  | succ n ih =>
    intro v m q hv hq
    rcases mem_comp hq with ⟨rfl, hn⟩ | ⟨k, a, b, c, r, hk, hn, hc, hm, hr, rfl⟩
    · have h := next_none hn
      have : leftN v m = 0 := by
        unfold leftN
        rw [List.length_eq_zero_iff, List.filter_eq_nil_iff]
        rintro ⟨x, y⟩ hp
        obtain ⟨hx, hy⟩ := mem_prs.1 hp
        simp only [Bool.and_eq_true, Nat.blt_eq, Bool.not_eq_true', not_and, Bool.not_eq_false]
        exact fun hxy => h x y hxy hy
      rw [this]; rfl
    · obtain rfl : n = k := by omega
      have hI := next_spec hn
      obtain ⟨h1, h2, h3⟩ := may_spec hm
      have := ih _ _ _ hv hr
      have h4 := leftN_put3 hI.ab h1 hc hv hI.left h2 h3
      simp only [List.length_cons]
      omega
end
end Go.Vc
