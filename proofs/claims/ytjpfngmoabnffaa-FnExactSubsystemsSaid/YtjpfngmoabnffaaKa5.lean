/-
  The calculus and plain words, part 5.
-/
import Derived.Test.YtjpfngmoabnffaaKa4
import Derived.Shelf.SlSortCmp.NoneTotal
import Derived.Shelf.SortM.Plain
import Derived.Shelf.SortM.SortNone
set_option linter.unusedVariables false
set_option linter.unusedSimpArgs false
/-
  Plain words: completions are in order, and none lacks.
-/
namespace Go.Vc
theorem lt_trans3 {a b c : B3} (h1 : B3.lt a b) (h2 : B3.lt b c) : B3.lt a c := by unfold B3.lt at *; omega
theorem lt_asymm3 {a b : B3} (h1 : B3.lt a b) (h2 : B3.lt b a) : False := lt_irrefl a (lt_trans3 h1 h2)
section
variable {v m a b c n : Nat}
theorem next_cases (v m : Nat) : (∀ x y, x < y → y < v → usd m x y = true) ∨ ∃ a b, IsNext v m a b := by
  have key : ∀ k, k ≤ v → (∀ x y, x < k → x < y → y < v → usd m x y = true) ∨ ∃ a b, IsNext v m a b := by
    intro k
    induction k with
    | zero => intro _; exact .inl (fun x y h => by omega)
    | succ k ih =>
      intro hk
      rcases ih (by omega) with h | h
      · have key2 : ∀ j, j ≤ v → (∀ y, k < y → y < j → usd m k y = true) ∨ ∃ a b, IsNext v m a b := by
          intro j
          induction j with
          | zero => intro _; exact .inl (fun y _ h => by omega)
          | succ j ihj =>
            intro hj
            rcases ihj (by omega) with h1 | h1
            · by_cases hkj : k < j
              · cases hu : usd m k j with
                | true => exact .inl (fun y h2 h3 => by by_cases e : y = j; (· subst e; exact hu); (· exact h1 y h2 (by omega)))
                | false => exact .inr ⟨k, j, hkj, by omega, hu, h1, fun x y h2 h3 h4 => h x y h2 h3 h4⟩
              · exact .inl (fun y h2 h3 => by omega)
            · exact .inr h1
        rcases key2 v (Nat.le_refl _) with h1 | h1
        · exact .inl (fun x y h2 h3 h4 => by by_cases e : x = k; (· subst e; exact h1 y h3 h4); (· exact h x y (by omega) h3 h4))
        · exact .inr h1
      · exact .inr h
  rcases key v (Nat.le_refl _) with h | h
  · exact .inl (fun x y h1 h2 => h x y (by omega) h1 h2)
  · exact .inr h
theorem next_spec (h : nextM v m = some (a, b)) : IsNext v m a b := by
  rcases next_cases v m with h1 | ⟨x, y, h1⟩
  · rw [nextM_none h1] at h; cases h
  · rw [nextM_some h1] at h
    obtain ⟨rfl, rfl⟩ := Prod.mk.inj (Option.some.inj h)
    exact h1
theorem next_none (h : nextM v m = none) : ∀ x y, x < y → y < v → usd m x y = true := by
  rcases next_cases v m with h1 | ⟨x, y, h1⟩
  · exact h1
  · rw [nextM_some h1] at h; cases h
theorem may_spec (h : may m a b c = true) : b < c ∧ usd m a c = false ∧ usd m b c = false := by
  unfold may at h
  simp only [Bool.and_eq_true, Nat.blt_eq, Bool.not_eq_true'] at h
  exact ⟨h.1.1, h.1.2, h.2⟩
/-- A member is either the empty one, or begins with a block. -/
theorem mem_comp {q : List B3} (h : q ∈ compM n v m) : (q = [] ∧ nextM v m = none) ∨ ∃ k a b c r, n = k + 1 ∧ nextM v m = some (a, b) ∧ c < v ∧ may m a b c = true ∧ r ∈ compM k v (putM m a b c) ∧ q = b3N a b c :: r := by
  cases n with
  | zero =>
    unfold compM at h
    split at h
    · rename_i e; simp at h; exact .inl ⟨h, e⟩
    · simp at h
  | succ n =>
    unfold compM at h
    split at h
    · rename_i e; simp at h; exact .inl ⟨h, e⟩
    · rename_i a b e
      obtain ⟨c, hc, h1⟩ := List.mem_flatMap.1 h
      split at h1
      · rename_i hm
        obtain ⟨r, hr, rfl⟩ := List.mem_map.1 h1
        exact .inr ⟨n, a, b, c, r, rfl, e, List.mem_range.1 hc, hm, hr, rfl⟩
      · simp at h1
/-- A block whose first pair is left. -/
def Free (v m : Nat) (d : B3) : Prop := ∃ x y z : Nat, d = b3N x y z ∧ x < y ∧ y < z ∧ z < v ∧ usd m x y = false
theorem comp_free : ∀ n v m (q : List B3), v ≤ 15 → q ∈ compM n v m → ∀ d ∈ q, Free v m d := by
  intro n
  induction n with
  | zero =>
    intro v m q hv hq d hd
    rcases mem_comp hq with ⟨rfl, _⟩ | ⟨k, a, b, c, r, hk, _⟩
    · simp at hd
    · omega
  | succ n ih =>
    intro v m q hv hq d hd
    rcases mem_comp hq with ⟨rfl, _⟩ | ⟨k, a, b, c, r, hk, hn, hc, hm, hr, rfl⟩
    · simp at hd
    · obtain rfl : n = k := by omega
      have hI := next_spec hn
      obtain ⟨h1, h2, h3⟩ := may_spec hm
      rcases List.mem_cons.1 hd with rfl | hd
      · exact ⟨a, b, c, rfl, hI.ab, h1, hc, hI.left⟩
      · obtain ⟨x, y, z, e, hx, hy, hz, hu⟩ := ih _ _ _ hv hr d hd
        refine ⟨x, y, z, e, hx, hy, hz, ?_⟩
        cases hh : usd m x y with
        | false => rfl
        | true =>
          have := (usd_put (m := m) (a := a) (b := b) (c := c) (by have := hI.ab; have := hI.bv; omega) (by have := hI.bv; omega) (by omega) (x := x) (y := y) (by omega) (by omega)).2 (.inl hh)
          rw [this] at hu
          cases hu
theorem b3N_lt {x y z a b c : Nat} (h : a < x ∨ (a = x ∧ b < y)) : B3.lt (b3N a b c) (b3N x y z) := by unfold B3.lt b3N; simp only; omega
theorem comp_sorted : ∀ n v m (q : List B3), v ≤ 15 → q ∈ compM n v m → q.Pairwise B3.lt := by
  intro n
  induction n with
  | zero =>
    intro v m q hv hq
    rcases mem_comp hq with ⟨rfl, _⟩ | ⟨k, a, b, c, r, hk, _⟩
    · exact List.Pairwise.nil
    · omega
  | succ n ih =>
    intro v m q hv hq
    rcases mem_comp hq with ⟨rfl, _⟩ | ⟨k, a, b, c, r, hk, hn, hc, hm, hr, rfl⟩
    · exact List.Pairwise.nil
    · obtain rfl : n = k := by omega
      have hI := next_spec hn
      obtain ⟨h1, h2, h3⟩ := may_spec hm
      have hab := hI.ab
      have hbv := hI.bv
      refine List.pairwise_cons.2 ⟨fun d hd => ?_, ih _ _ _ hv hr⟩
      obtain ⟨x, y, z, rfl, hx, hy, hz, hu⟩ := comp_free _ _ _ _ hv hr d hd
      have hup := usd_put (m := m) (a := a) (b := b) (c := c) (by omega) (by omega) (by omega) (x := x) (y := y) (by omega) (by omega)
      refine b3N_lt ?_
      apply Decidable.byContradiction
      intro hc'
      have : usd (putM m a b c) x y = true := by
        rw [hup]
        by_cases e : x = a ∧ y = b
        · exact .inr (.inl (.inl e))
        · refine .inl ?_
          by_cases e1 : x < a
          · exact hI.rows x y e1 hx (by omega)
          · obtain rfl : x = a := by omega
            exact hI.row y hx (by omega)
      rw [this] at hu
      cases hu
/-- One list of blocks comes ahead of another one: at the first place where they differ. -/
def befB : List B3 → List B3 → Prop
  | x :: a, y :: b => if x = y then befB a b else B3.lt x y
  | _, _ => False
noncomputable instance (a b : List B3) : Decidable (befB a b) := Classical.propDecidable _
theorem befB_asymm : ∀ {a b : List B3}, befB a b → befB b a → False := by
  intro a
  induction a with
  | nil => intro b h; cases b <;> simp [befB] at h
  | cons x a ih =>
    intro b h1 h2
    cases b with
    | nil => simp [befB] at h1
    | cons y b =>
      unfold befB at h1 h2
      by_cases e : x = y
      · rw [if_pos e] at h1; rw [if_pos e.symm] at h2; exact ih h1 h2
      · rw [if_neg e] at h1; rw [if_neg (fun h => e h.symm)] at h2; exact lt_asymm3 h1 h2
theorem comp_ascending : ∀ n v m, v ≤ 15 → (compM n v m).Pairwise befB := by
  intro n
  induction n with
  | zero => intro v m hv; unfold compM; split <;> simp
  | succ n ih =>
    intro v m hv
    unfold compM
    split
    · simp
    · rename_i a b e
      rw [List.pairwise_flatMap]
      refine ⟨fun c hc => ?_, ?_⟩
      · split
        · rw [List.pairwise_map]
          exact (ih v _ hv).imp (fun h => by unfold befB; rw [if_pos rfl]; exact h)
        · simp
      · refine List.Pairwise.imp ?_ (List.pairwise_lt_range (n := v))
        intro c d hcd q hq r hr
        split at hq
        · split at hr
          · obtain ⟨q', _, rfl⟩ := List.mem_map.1 hq
            obtain ⟨r', _, rfl⟩ := List.mem_map.1 hr
            unfold befB
            rw [if_neg (by unfold b3N; intro h; simp at h; omega)]
            exact .inr ⟨rfl, .inr ⟨rfl, by show (c : Int) < d; omega⟩⟩
          · simp at hr
        · simp at hq
/-! ### How many blocks -/
theorem usd_put_self (ha : a < b) (hb : b < c) (hc : c < 16) : usd (putM m a b c) a b = true ∧ usd (putM m a b c) a c = true ∧ usd (putM m a b c) b c = true := by
  refine ⟨?_, ?_, ?_⟩ <;> rw [usd_put (by omega) (by omega) (by omega) (by omega) (by omega)]
  · exact .inr (.inl (.inl ⟨rfl, rfl⟩))
  · exact .inr (.inr (.inl (.inl ⟨rfl, rfl⟩)))
  · exact .inr (.inr (.inr (.inl ⟨rfl, rfl⟩)))
theorem filter_but {α : Type} [DecidableEq α] {l : List α} (hd : l.Nodup) {p : α → Bool} {x : α} (hx : x ∈ l) (hp : p x = true) : (l.filter fun y => p y && !decide (y = x)).length + 1 = (l.filter p).length := by
  induction l with
  | nil => simp at hx
  | cons y l ih =>
    obtain ⟨h1, h2⟩ := List.nodup_cons.1 hd
    by_cases e : y = x
    · subst e
      have h3 : (l.filter fun z => p z && !decide (z = y)) = l.filter p := by
        refine List.filter_congr fun z hz => ?_
        have : z ≠ y := fun e => h1 (e ▸ hz)
        simp [this]
      simp [List.filter_cons, hp, h3]
    · have hx' : x ∈ l := by
        rcases List.mem_cons.1 hx with h | h
        · exact absurd h.symm e
        · exact h
      have := ih h2 hx'
      simp only [List.filter_cons, e, decide_false, Bool.not_false, Bool.and_true]
      split
      · simp only [List.length_cons]; omega
      · exact this
theorem prs_nodup (v : Nat) : (prs v).Nodup := by
  unfold prs
  rw [List.nodup_iff_pairwise_ne, List.pairwise_flatMap]
  refine ⟨fun a _ => ?_, ?_⟩
  · rw [List.pairwise_map]
    exact (List.pairwise_lt_range (n := v)).imp (fun h e => by cases e; omega)
  · refine List.Pairwise.imp ?_ (List.pairwise_lt_range (n := v))
    intro x y hxy p hp q hq
    obtain ⟨i, _, rfl⟩ := List.mem_map.1 hp
    obtain ⟨j, _, rfl⟩ := List.mem_map.1 hq
    intro e
    cases e
    omega
theorem leftN_put3 (ha : a < b) (hb : b < c) (hc : c < v) (hv : v ≤ 15) (h1 : usd m a b = false) (h2 : usd m a c = false) (h3 : usd m b c = false) : leftN v (putM m a b c) + 3 = leftN v m := by
  have e1 := filter_but (prs_nodup v) (p := fun p => Nat.blt p.1 p.2 && !usd m p.1 p.2) (x := (a, b)) (mem_prs.2 ⟨by simp; omega, by simp; omega⟩) (by simp [ha, h1])
  have e2 := filter_but (prs_nodup v) (p := fun y => (Nat.blt y.1 y.2 && !usd m y.1 y.2) && !decide (y = (a, b))) (x := (a, c)) (mem_prs.2 ⟨by simp; omega, by simp; omega⟩) (by
    have : Nat.blt a c = true := by rw [Nat.blt_eq]; omega
    simp [h2, this]; omega)
  have e3 := filter_but (prs_nodup v) (p := fun y => ((Nat.blt y.1 y.2 && !usd m y.1 y.2) && !decide (y = (a, b))) && !decide (y = (a, c))) (x := (b, c)) (mem_prs.2 ⟨by simp; omega, by simp; omega⟩) (by
    simp [h3, hb]; omega)
  have e4 : leftN v (putM m a b c) = ((prs v).filter fun y => (((Nat.blt y.1 y.2 && !usd m y.1 y.2) && !decide (y = (a, b))) && !decide (y = (a, c))) && !decide (y = (b, c))).length := by
    unfold leftN
    congr 1
    refine List.filter_congr fun p hp => ?_
    obtain ⟨x, y⟩ := p
    obtain ⟨hx, hy⟩ := mem_prs.1 hp
    simp only at hx hy
    by_cases hxy : x < y
    · have hxb : Nat.blt x y = true := by rw [Nat.blt_eq]; exact hxy
      have hup := usd_put (m := m) (a := a) (b := b) (c := c) (by omega) (by omega) (by omega) (x := x) (y := y) (by omega) (by omega)
      simp only [hxb, Bool.true_and, Prod.mk.injEq]
      cases hm : usd m x y with
      | true =>
        have : usd (putM m a b c) x y = true := hup.2 (.inl hm)
        simp [this]
      | false =>
        by_cases h : (x = a ∧ y = b) ∨ (x = a ∧ y = c) ∨ (x = b ∧ y = c)
        · have : usd (putM m a b c) x y = true := hup.2 (.inr (by omega))
          rw [this]
          rcases h with h | h | h <;> simp [h]
        · have : usd (putM m a b c) x y = false := by
            cases hh : usd (putM m a b c) x y with
            | false => rfl
            | true =>
              have h5 := hup.1 hh
              rw [hm] at h5
              rcases h5 with h5 | h5
              · cases h5
              · omega
          rw [this]
          have q1 : ¬ (x = a ∧ y = b) := fun e => h (.inl e)
          have q2 : ¬ (x = a ∧ y = c) := fun e => h (.inr (.inl e))
          have q3 : ¬ (x = b ∧ y = c) := fun e => h (.inr (.inr e))
          simp [q1, q2, q3]
    · have hxb : Nat.blt x y = false := blt_no hxy
      simp [hxb]
  unfold leftN at *
  omega
theorem comp_count : ∀ n v m (q : List B3), v ≤ 15 → q ∈ compM n v m → 3 * q.length = leftN v m := by
  intro n
  induction n with
  | zero =>
    intro v m q hv hq
    rcases mem_comp hq with ⟨rfl, hn⟩ | ⟨k, a, b, c, r, hk, _⟩
    · have h := next_none hn
      have : leftN v m = 0 := by
        unfold leftN
        rw [List.length_eq_zero_iff, List.filter_eq_nil_iff]
        rintro ⟨x, y⟩ hp
        obtain ⟨hx, hy⟩ := mem_prs.1 hp
        simp only [Bool.and_eq_true, Nat.blt_eq, Bool.not_eq_true', not_and, Bool.not_eq_false]
        exact fun hxy => h x y hxy hy
      rw [this]; rfl
    · omega
  | succ n ih =>
    intro v m q hv hq
    rcases mem_comp hq with ⟨rfl, hn⟩ | ⟨k, a, b, c, r, hk, hn, hc, hm, hr, rfl⟩
    · have h := next_none hn
      have : leftN v m = 0 := by
        unfold leftN
        rw [List.length_eq_zero_iff, List.filter_eq_nil_iff]
        rintro ⟨x, y⟩ hp
        obtain ⟨hx, hy⟩ := mem_prs.1 hp
        simp only [Bool.and_eq_true, Nat.blt_eq, Bool.not_eq_true', not_and, Bool.not_eq_false]
        exact fun hxy => h x y hxy hy
      rw [this]; rfl
    · obtain rfl : n = k := by omega
      have hI := next_spec hn
      obtain ⟨h1, h2, h3⟩ := may_spec hm
      have := ih _ _ _ hv hr
      have h4 := leftN_put3 hI.ab h1 hc hv hI.left h2 h3
      simp only [List.length_cons]
      omega
end
end Go.Vc
/-
  Plain words: each full system is a completion of the empty one.
-/
namespace Go.Vc
section
variable {v m n : Nat}
/-- A block whose pairs are left. -/
def Opn (m : Nat) (d : B3) : Prop := ∃ x y z : Nat, d = b3N x y z ∧ x < y ∧ y < z ∧ usd m x y = false ∧ usd m x z = false ∧ usd m y z = false
def inB (v : Nat) (d : B3) : Prop := ∃ x y z : Nat, d = b3N x y z ∧ x < y ∧ y < z ∧ z < v
theorem good.inB {d : B3} (h : good v d) : inB v d := by
  obtain ⟨a, b, c⟩ := d
  unfold good at h
  simp only at h
  refine ⟨a.toNat, b.toNat, c.toNat, ?_, by omega, by omega, by omega⟩
  unfold b3N
  rw [Int.toNat_of_nonneg (by omega), Int.toNat_of_nonneg (by omega), Int.toNat_of_nonneg (by omega)]
/-- What is asked of the blocks that are yet to come. -/
structure Rest (v m : Nat) (B : List B3) : Prop where
  ok : ∀ d ∈ B, inB v d
  opn : ∀ d ∈ B, Opn m d
  lt : B.Pairwise B3.lt
  fit : B.Pairwise fun d e => common e d ≤ 1
theorem b3N_inj {x y z a b c : Nat} (h : b3N x y z = b3N a b c) : x = a ∧ y = b ∧ z = c := by
  unfold b3N at h
  simp only [Prod.mk.injEq] at h
  omega
theorem Rest.tail {x y z : Nat} {B : List B3} (hv : v ≤ 15) (h : Rest v m (b3N x y z :: B)) (hx : x < y) (hy : y < z) (hz : z < v) : Rest v (putM m x y z) B := by
  obtain ⟨h1, h2⟩ := List.pairwise_cons.1 h.lt
  obtain ⟨h3, h4⟩ := List.pairwise_cons.1 h.fit
  refine ⟨fun d hd => h.ok d (by simp [hd]), fun d hd => ?_, h2, h4⟩
  obtain ⟨a, b, c, rfl, ha, hb, u1, u2, u3⟩ := h.opn d (by simp [hd])
  obtain ⟨a', b', c', e, _, _, hc⟩ := h.ok _ (List.mem_cons_of_mem _ hd)
  obtain ⟨rfl, rfl, rfl⟩ := b3N_inj e
  have hc3 := h3 _ hd
  rw [common_le (b3N_three hx hy)] at hc3
  have k1 : ∀ p q : Nat, p < q → q < v → usd m p q = false → ¬ (has (b3N x y z) p ∧ has (b3N x y z) q) → usd (putM m x y z) p q = false := fun p q h1 h2 h3 h4 => (usd_putN hx hy (by omega) (by omega) (by omega) (by omega)).2 ⟨h3, h4⟩
  exact ⟨a, b, c, rfl, ha, hb, k1 a b (by omega) (by omega) u1 hc3.1, k1 a c (by omega) (by omega) u2 hc3.2.1, k1 b c (by omega) (by omega) u3 hc3.2.2⟩
theorem comp_all : ∀ (B : List B3) (m n : Nat), v ≤ 15 → Rest v m B → (∀ x y, x < y → y < v → usd m x y = true ∨ ∃ d ∈ B, has d x ∧ has d y) → B.length ≤ n → B ∈ compM n v m := by
  intro B
  induction B with
  | nil =>
    intro m n hv h hf hn
    rw [compM_none (nextM_none fun x y h1 h2 => by rcases hf x y h1 h2 with h3 | ⟨d, hd, _⟩; (· exact h3); (· simp at hd))]
    simp
  | cons b B ih =>
    intro m n hv h hf hn
    obtain ⟨n, rfl⟩ : ∃ k, n = k + 1 := ⟨n - 1, by simp only [List.length_cons] at hn; omega⟩
    obtain ⟨x, y, z, rfl, hx, hy, hz⟩ := h.ok b (by simp)
    obtain ⟨x', y', z', e, _, _, u1, u2, u3⟩ := h.opn _ (List.mem_cons_self ..)
    obtain ⟨rfl, rfl, rfl⟩ := b3N_inj e
    rcases next_cases v m with hall | ⟨p, q, hI⟩
    · rw [hall x y hx (by omega)] at u1; cases u1
    have hpq := hI.ab
    have hqv := hI.bv
    have low : ∀ s t : Nat, s < t → t < v → usd m s t = false → p ≤ s ∧ (p = s → q ≤ t) := by
      intro s t h1 h2 h3
      refine ⟨?_, fun e => ?_⟩
      · apply Decidable.byContradiction
        intro h4
        rw [hI.rows s t (by omega) h1 h2] at h3
        cases h3
      · apply Decidable.byContradiction
        intro h4
        subst e
        rw [hI.row t h1 (by omega)] at h3
        cases h3
    have hb := low x y hx (by omega) u1
    have hd : ∃ d ∈ b3N x y z :: B, has d p ∧ has d q := by
      rcases hf p q hpq hqv with h1 | h1
      · rw [hI.left] at h1; cases h1
      · exact h1
    obtain ⟨d, hd, hdp, hdq⟩ := hd
    obtain ⟨s, t, r, rfl, hs, ht, hr⟩ := h.ok d hd
    obtain ⟨s', t', r', e, _, _, w1, w2, w3⟩ := h.opn _ hd
    obtain ⟨rfl, rfl, rfl⟩ := b3N_inj e
    rw [has_b3N] at hdp hdq
    have hd1 := low s t hs (by omega) w1
    have hps : p = s := by omega
    have hqt : q = t := by
      have := hd1.2 hps
      omega
    have hle : x ≤ s ∧ (x = s → y ≤ t) := by
      rcases List.mem_cons.1 hd with e | e
      · obtain ⟨rfl, rfl, rfl⟩ := b3N_inj e; omega
      · have h1 := (List.pairwise_cons.1 h.lt).1 _ e
        unfold B3.lt b3N at h1
        simp only at h1
        omega
    have hxp : p = x := by omega
    have hyq : q = y := by have := hb.2 hxp; have := hle.2 (by omega); omega
    subst hxp hyq
    have hm : may m p q z = true := by
      unfold may
      have : Nat.blt q z = true := by rw [Nat.blt_eq]; exact hy
      simp [this, u2, u3]
    have hmem := ih (putM m p q z) n hv (h.tail hv hx hy hz) (fun i j h1 h2 => by
      have hup := usd_putN (m := m) (x := i) (y := j) hx hy (by omega : z < 16) (by omega) (by omega) (by omega)
      cases hu : usd (putM m p q z) i j with
      | true => exact .inl rfl
      | false =>
        refine .inr ?_
        obtain ⟨g1, g2⟩ := hup.1 hu
        rcases hf i j h1 h2 with g3 | ⟨d, hd, g3⟩
        · rw [g1] at g3; cases g3
        · rcases List.mem_cons.1 hd with rfl | hd
          · exact absurd g3 g2
          · exact ⟨d, hd, g3⟩) (by simp only [List.length_cons] at hn; omega)
    unfold compM
    rw [nextM_some hI]
    simp only
    refine List.mem_flatMap.2 ⟨z, List.mem_range.2 hz, ?_⟩
    rw [if_pos hm]
    exact List.mem_map.2 ⟨B, hmem, rfl⟩
/-! ### The pairs of blocks -/
def putB (m : Nat) (d : B3) : Nat := putM m d.1.toNat d.2.1.toNat d.2.2.toNat
def maskB (m : Nat) (bs : List B3) : Nat := bs.foldl putB m
theorem putB_b3N {x y z : Nat} : putB m (b3N x y z) = putM m x y z := by unfold putB b3N; simp
theorem mask_left : ∀ (B : List B3) (m : Nat), v ≤ 15 → Rest v m B → leftN v (maskB m B) + 3 * B.length = leftN v m := by
  intro B
  induction B with
  | nil => intro m _ _; rfl
  | cons b B ih =>
    intro m hv h
    obtain ⟨x, y, z, rfl, hx, hy, hz⟩ := h.ok b (by simp)
    obtain ⟨x', y', z', e, _, _, u1, u2, u3⟩ := h.opn _ (List.mem_cons_self ..)
    obtain ⟨rfl, rfl, rfl⟩ := b3N_inj e
    have h1 := ih (putM m x y z) hv (h.tail hv hx hy hz)
    have h2 := leftN_put3 hx hy hz hv u1 u2 u3
    have e : maskB m (b3N x y z :: B) = maskB (putM m x y z) B := by unfold maskB; rw [List.foldl_cons, putB_b3N]
    rw [e, List.length_cons]
    omega
theorem usd_mask : ∀ (B : List B3) (m : Nat), v ≤ 15 → (∀ d ∈ B, inB v d) → ∀ x y, x < y → y < v → (usd (maskB m B) x y = true ↔ usd m x y = true ∨ ∃ d ∈ B, has d x ∧ has d y) := by
  intro B
  induction B with
  | nil => intro m _ _ x y _ _; simp [maskB]
  | cons b B ih =>
    intro m hv h x y hx hy
    obtain ⟨a, b', c, rfl, h1, h2, h3⟩ := h b (by simp)
    have e : maskB m (b3N a b' c :: B) = maskB (putM m a b' c) B := by unfold maskB; rw [List.foldl_cons, putB_b3N]
    rw [e, ih _ hv (fun d hd => h d (by simp [hd])) x y hx hy]
    have hup := usd_putN (m := m) (x := x) (y := y) h1 h2 (by omega : c < 16) (by omega) (by omega) (by omega)
    constructor
    · rintro (g | ⟨d, hd, g⟩)
      · cases hu : usd m x y with
        | true => exact .inl rfl
        | false =>
          refine .inr ⟨b3N a b' c, by simp, ?_⟩
          apply Decidable.byContradiction
          intro g2
          rw [hup.2 ⟨hu, g2⟩] at g
          cases g
      · exact .inr ⟨d, by simp [hd], g⟩
    · rintro (g | ⟨d, hd, g⟩)
      · refine .inl ?_
        cases hu : usd (putM m a b' c) x y with
        | true => rfl
        | false => rw [(hup.1 hu).1] at g; cases g
      · rcases List.mem_cons.1 hd with rfl | hd
        · refine .inl ?_
          cases hu : usd (putM m a b' c) x y with
          | true => rfl
          | false => exact absurd g (hup.1 hu).2
        · exact .inr ⟨d, hd, g⟩
theorem usd_zero (x y : Nat) : usd 0 x y = false := by simp [usd]
theorem sts_lt {v : Int} {bs : List B3} (h : STS v bs) : bs.Pairwise B3.lt := by
  have key : ∀ i j (hi : i < bs.length) (hj : j < bs.length), i < j → B3.lt bs[i] bs[j] := by
    intro i j
    induction j with
    | zero => intro _ _ h; omega
    | succ j ih =>
      intro hi hj hij
      have h1 := (h.ord (j + 1) hj hj).2 j (by omega) rfl
      by_cases e : i = j
      · subst e; exact h1
      · exact lt_trans3 (ih hi (by omega) (by omega)) h1
  rw [List.pairwise_iff_getElem]
  exact fun i j hi hj hij => key i j hi hj hij
theorem sts_rest {bs : List B3} (h : STS (v : Int) bs) : Rest v 0 bs := by
  have hg : ∀ d ∈ bs, inB v d := fun d hd => (h.good d hd).inB
  refine ⟨hg, fun d hd => ?_, sts_lt h, ?_⟩
  · obtain ⟨x, y, z, rfl, h1, h2, h3⟩ := hg d hd
    exact ⟨x, y, z, rfl, h1, h2, usd_zero _ _, usd_zero _ _, usd_zero _ _⟩
  · rw [List.pairwise_iff_getElem]
    exact fun i j hi hj hij => h.fits j hj hj i hi hij
/-- A full system is among the completions of the empty one. -/
theorem sts_mem {bs : List B3} (h : STS (v : Int) bs) (hf : 3 * bs.length = leftN v 0) (hn : bs.length ≤ n) : bs ∈ compM n v 0 := by
  have hv : v ≤ 15 := by have := h.hi; omega
  have hr := sts_rest h
  have h1 := mask_left bs 0 hv hr
  have h0 : leftN v (maskB 0 bs) = 0 := by omega
  refine comp_all bs 0 n hv hr (fun x y hx hy => ?_) hn
  exact (usd_mask bs 0 hv hr.ok x y hx hy).1 (leftN_zero h0 x y hx hy)
end
theorem left3 : leftN 3 0 = 3 := by decide
theorem left7 : leftN 7 0 = 21 := by decide
theorem left9 : leftN 9 0 = 36 := by decide
end Go.Vc
/-
  How many systems of 3, 7 and 9 points there are, counted by the kernel.
-/
namespace Go.Vc
set_option maxRecDepth 100000 in
theorem cnt9 : cntM 40 9 0 = 840 := by decide +kernel
set_option maxRecDepth 100000 in
theorem cnt7 : cntM 40 7 0 = 30 := by decide +kernel
set_option maxRecDepth 100000 in
theorem cnt3 : cntM 40 3 0 = 1 := by decide +kernel
end Go.Vc
/-
  Plain words: the number of a system; what is common.
-/
namespace Go.Vc
def few9 (v : Int) : Prop := v = 3 ∨ v = 7 ∨ v = 9
instance (v : Int) : Decidable (few9 v) := inferInstanceAs (Decidable (_ ∨ _))
/-- Full, with few points. -/
def Few (v : Int) (bs : List B3) : Prop := few9 v ∧ 6 * (bs.length : Int) = v * (v - 1)
instance (v : Int) (bs : List B3) : Decidable (Few v bs) := inferInstanceAs (Decidable (_ ∧ _))
/-- All systems of few points. -/
noncomputable def allN (v : Int) : List (List B3) := compM 40 v.toNat 0
theorem few_len {v : Int} (h : few9 v) : (compM 40 v.toNat 0).length ≤ 1000 ∧ leftN v.toNat 0 ≤ 40 ∧ v.toNat ≤ 15 ∧ 0 ≤ v := by
  rcases h with rfl | rfl | rfl
  · exact ⟨by rw [cntM_eq]; show cntM 40 3 0 ≤ 1000; rw [cnt3]; decide, by show leftN 3 0 ≤ 40; rw [left3]; decide, by decide, by decide⟩
  · exact ⟨by rw [cntM_eq]; show cntM 40 7 0 ≤ 1000; rw [cnt7]; decide, by show leftN 7 0 ≤ 40; rw [left7]; decide, by decide, by decide⟩
  · exact ⟨by rw [cntM_eq]; show cntM 40 9 0 ≤ 1000; rw [cnt9]; decide, by show leftN 9 0 ≤ 40; rw [left9]; decide, by decide, by decide⟩
theorem sts_mul {v : Int} {bs : List B3} (h : STS v bs) : 0 ≤ v * (v - 1) ∧ v * (v - 1) ≤ 1000000 := by
  have h1 := h.lo
  have h2 := h.hi
  refine ⟨Int.mul_nonneg (by omega) (by omega), ?_⟩
  have := Int.mul_le_mul h2 (show v - 1 ≤ 15 by omega) (by omega) (by omega)
  omega
theorem few_left {v : Int} {bs : List B3} (h : Few v bs) : 3 * bs.length = leftN v.toNat 0 := by
  obtain ⟨h1, h2⟩ := h
  rcases h1 with rfl | rfl | rfl
  · show 3 * bs.length = leftN 3 0; rw [left3]; omega
  · show 3 * bs.length = leftN 7 0; rw [left7]; omega
  · show 3 * bs.length = leftN 9 0; rw [left9]; omega
theorem few_mem {v : Int} {bs : List B3} (h : STS v bs) (hf : Few v bs) : bs ∈ allN v := by
  have h0 := (few_len hf.1)
  have h1 := few_left hf
  obtain ⟨vn, rfl⟩ := Int.eq_ofNat_of_zero_le h0.2.2.2
  exact sts_mem h h1 (by have := h.few; omega)
theorem idxP_conts {α : Type} {p : List α → Prop} [DecidablePred p] {ps : List (Sl × List α)} : idxP (fun x : Sl × List α => p x.2) ps = idxP p (conts ps) := by
  have hl := conts_len ps
  by_cases h : ∃ k, ∃ hk : k < ps.length, p (ps[k]).2
  · have h0 : ¬ idxP (fun x : Sl × List α => p x.2) ps = -1 := fun e => by obtain ⟨k, hk, h1⟩ := h; exact idxP_not e k hk h1
    obtain ⟨i, hi, q1, q2, q3⟩ := idxP_at h0
    rw [q1]
    have e : ∀ j (hj : j < ps.length) (hj' : j < (conts ps).length), (conts ps)[j] = (ps[j]).2 := fun j hj hj' => List.getElem_map ..
    exact (idxP_found (by omega) (by rw [e i hi]; exact q2) (fun j hj hji => by rw [e j (by omega)]; exact q3 j (by omega) hji)).symm
  · rw [idxP_none (fun j hj hh => h ⟨j, hj, hh⟩), idxP_none]
    intro j hj hh
    have e : (conts ps)[j] = (ps[j]'(by omega)).2 := List.getElem_map ..
    rw [e] at hh
    exact h ⟨j, by omega, hh⟩
/-- The number of a system, and the code. -/
def NOS (v : Int) (bs : List B3) (r code : Int) : Prop := (¬ STS v bs → r = 0 ∧ code = 1) ∧ (STS v bs → ¬ Few v bs → r = 0 ∧ code = 5) ∧ (STS v bs → Few v bs → r = idxP (fun q => bs = q) (allN v) ∧ code = 0)
theorem NOS.unique {v : Int} {bs : List B3} {r c s d : Int} (h : NOS v bs r c) (g : NOS v bs s d) : r = s ∧ c = d := by
  by_cases hS : STS v bs
  · by_cases hf : Few v bs
    · have := h.2.2 hS hf; have := g.2.2 hS hf; omega
    · have := h.2.1 hS hf; have := g.2.1 hS hf; omega
  · have := h.1 hS; have := g.1 hS; omega
theorem befB_at : ∀ {a b : List B3} {i : Nat} (h1 : i < a.length) (h2 : i < b.length), a.take i = b.take i → ¬ a[i] = b[i] → (B3.lt a[i] b[i] ↔ befB a b) := by
  intro a
  induction a with
  | nil => intro b i h1; simp at h1
  | cons x a ih =>
    intro b i h1 h2 he hne
    cases b with
    | nil => simp at h2
    | cons y b =>
      cases i with
      | zero =>
        simp only [List.getElem_cons_zero] at hne ⊢
        unfold befB
        rw [if_neg hne]
      | succ i =>
        simp only [List.take_succ_cons, List.cons.injEq] at he
        simp only [List.getElem_cons_succ] at hne ⊢
        unfold befB
        rw [if_pos he.1]
        exact ih (by simp only [List.length_cons] at h1; omega) (by simp only [List.length_cons] at h2; omega) he.2 hne
theorem befB_pre {b : List B3} : ∀ {a : List B3} {n : Nat}, a = b.take n → ¬ befB a b := by
  induction b with
  | nil => intro a n h; subst h; simp [befB]
  | cons y b ih =>
    intro a n h
    cases n with
    | zero => subst h; simp [befB]
    | succ n =>
      subst h
      simp only [List.take_succ_cons]
      unfold befB
      rw [if_pos rfl]
      exact ih rfl
end Go.Vc
/-
  Plain words: blocks in order, by insertion.
-/
namespace Go.Vc
def leB (a b : B3) : Prop := ¬ B3.lt b a
theorem leB_trans {a b c : B3} (h1 : leB a b) (h2 : leB b c) : leB a c := by unfold leB B3.lt at *; omega
theorem leB_of {a b : B3} (h : B3.lt a b) : leB a b := by unfold leB B3.lt at *; omega
theorem leB_anti {a b : B3} (h1 : leB a b) (h2 : leB b a) : a = b := by
  obtain ⟨a1, a2, a3⟩ := a
  obtain ⟨b1, b2, b3⟩ := b
  unfold leB B3.lt at *
  simp only at *
  have e1 : a1 = b1 := by omega
  have e2 : a2 = b2 := by omega
  have e3 : a3 = b3 := by omega
  rw [e1, e2, e3]
def SrtB (l : List B3) : Prop := l.Pairwise leB
theorem ins_perm {l : List B3} {b : B3} {y : Nat} : (l.take y ++ b :: l.drop y).Perm (l ++ [b]) := by
  refine List.perm_middle.trans ?_
  rw [List.take_append_drop]
  exact (List.perm_append_comm (l₁ := [b])).trans (List.Perm.refl _)
theorem ins_sorted {l : List B3} {b : B3} {y : Nat} (hs : SrtB l) (hy : y ≤ l.length) (h1 : ∀ j (hj : j < l.length), y ≤ j → B3.lt b l[j]) (h2 : ∀ (h0 : 0 < y), ¬ B3.lt b (l[y - 1]'(by omega))) : SrtB (l.take y ++ b :: l.drop y) := by
  have hp := List.pairwise_iff_getElem.1 hs
  unfold SrtB
  rw [List.pairwise_append, List.pairwise_cons]
  have hd : ∀ x ∈ l.drop y, B3.lt b x := by
    intro x hx
    obtain ⟨j, hj, rfl⟩ := List.getElem_of_mem hx
    rw [List.length_drop] at hj
    rw [List.getElem_drop]
    exact h1 (y + j) (by omega) (by omega)
  have ht : ∀ x ∈ l.take y, leB x b := by
    intro x hx
    obtain ⟨j, hj, rfl⟩ := List.getElem_of_mem hx
    rw [List.length_take] at hj
    rw [List.getElem_take]
    have h3 := h2 (by omega)
    by_cases e : j = y - 1
    · subst e; exact h3
    · exact leB_trans (hp j (y - 1) (by omega) (by omega) (by omega)) h3
  refine ⟨hs.sublist (List.take_sublist _ _), ⟨fun x hx => leB_of (hd x hx), hs.sublist (List.drop_sublist _ _)⟩, fun x hx z hz => ?_⟩
  rcases List.mem_cons.1 hz with rfl | hz
  · exact ht x hx
  · exact leB_trans (ht x hx) (leB_of (hd z hz))
theorem srtB_unique : ∀ {l m : List B3}, SrtB l → SrtB m → l.Perm m → l = m := by
  intro l
  induction l with
  | nil => intro m _ _ h; exact (List.Perm.nil_eq h)
  | cons a l ih =>
    intro m h1 h2 h
    cases m with
    | nil => exact absurd h.length_eq (by simp)
    | cons b m =>
      obtain ⟨ha, hl⟩ := List.pairwise_cons.1 h1
      obtain ⟨hb, hm⟩ := List.pairwise_cons.1 h2
      have e : a = b := by
        rcases List.mem_cons.1 (h.mem_iff.1 (List.mem_cons_self ..)) with e | e
        · exact e
        · rcases List.mem_cons.1 (h.mem_iff.2 (List.mem_cons_self ..)) with e' | e'
          · exact e'.symm
          · exact leB_anti (ha b e') (hb a e)
      subst e
      rw [ih hl hm (List.Perm.cons_inv h)]
theorem srtB_lt {l : List B3} (h : l.Pairwise B3.lt) : SrtB l := h.imp leB_of
end Go.Vc
/-
  The calculus, part 18: a search for completions that keeps or counts them.
-/
namespace Go.Vc
open Go Go.RowKit
section
variable {v m a b c n p k : Nat} {U : List Bool}
/-- The pairs that are used, by their numbers. -/
def RelU (v : Nat) (U : List Bool) (m : Nat) : Prop := U.length = 256 ∧ ∀ x y : Nat, x < v → y < v → x ≠ y → U.getD (prI x y) false = usd m x y
theorem prI_lt (ha : a < 16) (hb : b < 16) : prI a b < 256 := by unfold prI; omega
theorem getD_set {i j : Nat} {x : Bool} (hi : i < U.length) : (U.set i x).getD j false = if j = i then x else U.getD j false := by
  rw [List.getD_eq_getElem?_getD, List.getD_eq_getElem?_getD, List.getElem?_set]
  by_cases e : j = i
  · subst e; simp [hi]
  · rw [if_neg (fun h => e h.symm), if_neg e]
theorem relU_at (h : RelU v U m) {x y : Nat} (hx : x < v) (hy : y < v) (hne : x ≠ y) (hk : prI x y < U.length) : U[prI x y] = usd m x y := by
  have := h.2 x y hx hy hne
  rwa [List.getD_eq_getElem?_getD, List.getElem?_eq_getElem hk] at this
theorem relU_put (h : RelU v U m) (ha : a < b) (hb : b < c) (hc : c < v) (hv : v ≤ 15) : RelU v (((U.set (prI a b) true).set (prI a c) true).set (prI b c) true) (putM m a b c) := by
  have l1 := prI_lt (a := a) (b := b) (by omega) (by omega)
  have l2 := prI_lt (a := a) (b := c) (by omega) (by omega)
  have l3 := prI_lt (a := b) (b := c) (by omega) (by omega)
  refine ⟨by simp [h.1], fun x y hx hy hne => ?_⟩
  rw [getD_set (by simp [h.1]; omega), getD_set (by simp [h.1]; omega), getD_set (by rw [h.1]; omega), h.2 x y hx hy hne]
  have hup := usd_put (m := m) (a := a) (b := b) (c := c) (by omega) (by omega) (by omega) (x := x) (y := y) (by omega) (by omega)
  by_cases e1 : prI x y = prI b c
  · rw [if_pos e1]
    have := prI_inj (a := x) (b := y) (x := b) (y := c) (by omega) (by omega) (by omega) (by omega) e1
    exact (hup.2 (by omega)).symm
  · rw [if_neg e1]
    by_cases e2 : prI x y = prI a c
    · rw [if_pos e2]
      have := prI_inj (a := x) (b := y) (x := a) (y := c) (by omega) (by omega) (by omega) (by omega) e2
      exact (hup.2 (by omega)).symm
    · rw [if_neg e2]
      by_cases e3 : prI x y = prI a b
      · rw [if_pos e3]
        have := prI_inj (a := x) (b := y) (x := a) (y := b) (by omega) (by omega) (by omega) (by omega) e3
        exact (hup.2 (by omega)).symm
      · rw [if_neg e3]
        cases hu : usd m x y with
        | true => exact (hup.2 (.inl hu)).symm
        | false =>
          cases hp : usd (putM m a b c) x y with
          | false => rfl
          | true =>
            rcases hup.1 hp with h1 | h1
            · rw [hu] at h1; cases h1
            · exfalso
              rcases h1 with (⟨rfl, rfl⟩ | ⟨rfl, rfl⟩) | (⟨rfl, rfl⟩ | ⟨rfl, rfl⟩) | (⟨rfl, rfl⟩ | ⟨rfl, rfl⟩)
              · exact e3 rfl
              · exact e3 (prI_comm _ _)
              · exact e2 rfl
              · exact e2 (prI_comm _ _)
              · exact e1 rfl
              · exact e1 (prI_comm _ _)
theorem relU_del (h : RelU v U (putM m a b c)) (ha : a < b) (hb : b < c) (hc : c < v) (hv : v ≤ 15) (h1 : usd m a b = false) (h2 : usd m a c = false) (h3 : usd m b c = false) : RelU v (((U.set (prI a b) false).set (prI a c) false).set (prI b c) false) m := by
  have l1 := prI_lt (a := a) (b := b) (by omega) (by omega)
  have l2 := prI_lt (a := a) (b := c) (by omega) (by omega)
  have l3 := prI_lt (a := b) (b := c) (by omega) (by omega)
  refine ⟨by simp [h.1], fun x y hx hy hne => ?_⟩
  rw [getD_set (by simp [h.1]; omega), getD_set (by simp [h.1]; omega), getD_set (by rw [h.1]; omega), h.2 x y hx hy hne]
  have hup := usd_put (m := m) (a := a) (b := b) (c := c) (by omega) (by omega) (by omega) (x := x) (y := y) (by omega) (by omega)
  have key : ∀ s t : Nat, s < 16 → t < 16 → usd m s t = false → prI x y = prI s t → false = usd m x y := by
    intro s t hs ht hu e
    rcases prI_inj (by omega) (by omega) hs ht e with ⟨rfl, rfl⟩ | ⟨rfl, rfl⟩
    · exact hu.symm
    · rw [usd_comm]; exact hu.symm
  by_cases e1 : prI x y = prI b c
  · rw [if_pos e1]; exact key b c (by omega) (by omega) h3 e1
  · rw [if_neg e1]
    by_cases e2 : prI x y = prI a c
    · rw [if_pos e2]; exact key a c (by omega) (by omega) h2 e2
    · rw [if_neg e2]
      by_cases e3 : prI x y = prI a b
      · rw [if_pos e3]; exact key a b (by omega) (by omega) h1 e3
      · rw [if_neg e3]
        cases hu : usd m x y with
        | true => exact hup.2 (.inl hu)
        | false =>
          cases hp : usd (putM m a b c) x y with
          | false => rfl
          | true =>
            rcases hup.1 hp with h4 | h4
            · rw [hu] at h4; cases h4
            · exfalso
              rcases h4 with (⟨rfl, rfl⟩ | ⟨rfl, rfl⟩) | (⟨rfl, rfl⟩ | ⟨rfl, rfl⟩) | (⟨rfl, rfl⟩ | ⟨rfl, rfl⟩)
              · exact e3 rfl
              · exact e3 (prI_comm _ _)
              · exact e2 rfl
              · exact e2 (prI_comm _ _)
              · exact e1 rfl
              · exact e1 (prI_comm _ _)
theorem relU_zero : RelU v (List.replicate 256 false) 0 := by
  refine ⟨List.length_replicate, fun x y _ _ _ => ?_⟩
  have h0 : usd 0 x y = false := by simp [usd]
  rw [h0, List.getD_eq_getElem?_getD, List.getElem?_replicate]
  split <;> rfl
/-- What the loops for the first pair have found. -/
def Fnd (v m : Nat) (a b : Int) (p : Nat) : Prop := (a = -1 ∧ b = -1 ∧ p ≤ v ∧ ∀ i j, i < p → i < j → j < v → usd m i j = true) ∨ ∃ x y : Nat, a = x ∧ b = y ∧ IsNext v m x y
theorem may_of (h : IsNext v m a b) (hc : c < v) (h1 : c ≠ a) (h2 : c ≠ b) (h3 : usd m a c = false) (h4 : usd m b c = false) : may m a b c = true := by
  have h5 : b < c := by
    apply Decidable.byContradiction
    intro h6
    by_cases h7 : c < a
    · rw [usd_comm, h.rows c a h7 h7 (by have := h.ab; have := h.bv; omega)] at h3
      cases h3
    · rw [h.row c (by omega) (by omega)] at h3
      cases h3
  unfold may
  have : Nat.blt b c = true := by rw [Nat.blt_eq]; exact h5
  simp [this, h3, h4]
theorem may_no (h : ¬ (c ≠ a ∧ c ≠ b ∧ usd m a c = false ∧ usd m b c = false)) (hab : a < b) : may m a b c = false := by
  cases hm : may m a b c with
  | false => rfl
  | true =>
    obtain ⟨h1, h2, h3⟩ := may_spec hm
    exact absurd ⟨by omega, by omega, h2, h3⟩ h
variable {most : Nat} {α : Type}
theorem goesC_most : ∀ {L : List α} {k : Nat}, k < most → goesC (fun j => decide (j < most)) k L = decide (k + (runC (fun j => decide (j < most)) k L).length < most) := by
  intro L
  induction L with
  | nil => intro k hk; simp [goesC, runC, hk]
  | cons x L ih =>
    intro k hk
    unfold goesC runC
    by_cases h : k + 1 < most
    · simp only [h, decide_true, Bool.true_and, if_true]
      rw [ih h, List.length_cons]
      congr 1
      rw [show k + 1 + (runC (fun j => decide (j < most)) (k + 1) L).length = k + ((runC (fun j => decide (j < most)) (k + 1) L).length + 1) by omega]
    · simp [h]
theorem srch_end {l l2 : List (List B3)} {xs : List B3} (hlm : l.length < most) (hl2 : l2 = l ++ runC (fun j => decide (j < most)) l.length (leaf xs (compJ n v m a b c))) (hlast : c = v ∨ ¬ l2.length < most) (hc : c ≤ v) : l ++ runC (fun j => decide (j < most)) l.length (leaf xs (compJ n v m a b v)) = l2 := by
  rcases hlast with rfl | h
  · exact hl2.symm
  · obtain ⟨r, hr⟩ := leaf_pre (xs := xs) (n := n) (v := v) (m := m) (a := a) (b := b) hc
    have h1 : goesC (fun j => decide (j < most)) l.length (leaf xs (compJ n v m a b c)) = false := by
      rw [goesC_most hlm]
      have h2 := congrArg List.length hl2
      rw [List.length_append] at h2
      exact decide_eq_false (by omega)
    rw [hr, runC_stop h1, ← hl2]
end
section
variable {P : Program} {N : Nat} {w0 w : World} {Q : Exit → Act → World → Prop} {σ : Sig} {H H' : List Assn} {ops : Array Oper} {rest : List Oper}
/-- A search: its cells, the pairs that are used, what it has found; what has been counted, l. -/
def SrchK (T uT fT bT : TypeId) (sb v most : Nat) (keep : Bool) (m : Nat) (l : List (List B3)) : Assn :=
  .exi fun q : ((Option Addr × Nat) × List Bool) × (Option Addr × Nat) × List (Sl × List B3) => .sep (.pur (RelU v q.1.2 m ∧ (conts q.2.2 = if keep then l else []) ∧ ∀ p ∈ q.2.2, p.1.A.isSome = true))
    (.sep (Blk sb [.int .i64 (v : Int), .slice q.1.1.1 q.1.2.length q.1.1.2, .int .i64 (l.length : Int), .int .i64 (most : Int), .bool keep, .slice q.2.1.1 (tops q.2.2).length q.2.1.2] T)
      (.sep (Own uT BoolC q.1.1.1 q.1.1.2 q.1.2) (.sep (Own fT SlC q.2.1.1 q.2.1.2 (tops q.2.2)) (RowsA bT B3C q.2.2))))
theorem relU_putI {v m : Nat} {U : List Bool} {d : B3} (h : RelU v U m) (hd : inB v d) (hv : v ≤ 15) : RelU v (((U.set (prI d.1.toNat d.2.1.toNat) true).set (prI d.1.toNat d.2.2.toNat) true).set (prI d.2.1.toNat d.2.2.toNat) true) (putB m d) := by
  obtain ⟨x, y, z, rfl, h1, h2, h3⟩ := hd
  exact relU_put h h1 h2 h3 hv
theorem inB_pts {v : Nat} {d : B3} (hd : inB v d) (hv : v ≤ 15) : (0 ≤ d.1 ∧ d.1 < 16) ∧ (0 ≤ d.2.1 ∧ d.2.1 < 16) ∧ (0 ≤ d.2.2 ∧ d.2.2 < 16) := by
  obtain ⟨x, y, z, rfl, h1, h2, h3⟩ := hd
  unfold b3N
  simp only
  omega
theorem maskB_snoc {m : Nat} {bs : List B3} {d : B3} : maskB m (bs ++ [d]) = putB (maskB m bs) d := by unfold maskB; rw [List.foldl_append]; rfl
variable {T uT fT bT : TypeId} {sb v most m : Nat} {keep : Bool} {l : List (List B3)}
theorem SrchK.elim (hw : St w0 (SrchK T uT fT bT sb v most keep m l :: H) w) : ∃ uA uk U fA fk ps, RelU v U m ∧ conts ps = (if keep then l else []) ∧ (∀ p ∈ ps, p.1.A.isSome = true) ∧
    St w0 (Blk sb [.int .i64 (v : Int), .slice uA U.length uk, .int .i64 (l.length : Int), .int .i64 (most : Int), .bool keep, .slice fA (tops ps).length fk] T :: Own uT BoolC uA uk U :: Own fT SlC fA fk (tops ps) :: RowsA bT B3C ps :: H) w := by
  obtain ⟨q, hw⟩ := hw.exi
  have h1 := hw.sep.pur
  refine ⟨q.1.1.1, q.1.1.2, q.1.2, q.2.1.1, q.2.1.2, q.2.2, h1.1.1, h1.1.2.1, h1.1.2.2, ?_⟩
  have h2 := h1.2.sep
  have h3 := (h2.perm (List.Perm.swap _ _ _)).sep
  have h5 := (h3.perm (List.Perm.swap _ _ _)).sep
  exact (h5.sub (Sub.keep 3 rfl (Sub.keep 2 rfl (Sub.keep 0 rfl (Sub.keep 0 rfl (Sub.refl _))))))
theorem V.srchK {c : Code} (h : ∀ uA uk U fA fk ps, RelU v U m → conts ps = (if keep then l else []) → (∀ p ∈ ps, p.1.A.isSome = true) → V P N w0 c Q σ (Blk sb [.int .i64 (v : Int), .slice uA U.length uk, .int .i64 (l.length : Int), .int .i64 (most : Int), .bool keep, .slice fA (tops ps).length fk] T :: Own uT BoolC uA uk U :: Own fT SlC fA fk (tops ps) :: RowsA bT B3C ps :: H)) : V P N w0 c Q σ (SrchK T uT fT bT sb v most keep m l :: H) := by
  intro w hw
  obtain ⟨uA, uk, U, fA, fk, ps, h1, h2, h4, h3⟩ := SrchK.elim hw
  exact h uA uk U fA fk ps h1 h2 h4 w h3
theorem O.srchK (h : ∀ uA uk U fA fk ps, RelU v U m → conts ps = (if keep then l else []) → (∀ p ∈ ps, p.1.A.isSome = true) → O P N w0 ops Q rest σ (Blk sb [.int .i64 (v : Int), .slice uA U.length uk, .int .i64 (l.length : Int), .int .i64 (most : Int), .bool keep, .slice fA (tops ps).length fk] T :: Own uT BoolC uA uk U :: Own fT SlC fA fk (tops ps) :: RowsA bT B3C ps :: H)) : O P N w0 ops Q rest σ (SrchK T uT fT bT sb v most keep m l :: H) := by
  intro w hw
  obtain ⟨uA, uk, U, fA, fk, ps, h1, h2, h4, h3⟩ := SrchK.elim hw
  exact h uA uk U fA fk ps h1 h2 h4 w h3
theorem SrchK.mk {uA fA : Option Addr} {uk fk : Nat} {U : List Bool} {ps : List (Sl × List B3)} (hr : RelU v U m) (hc : conts ps = if keep then l else []) (hso : ∀ p ∈ ps, p.1.A.isSome = true)
    (hw : St w0 (Blk sb [.int .i64 (v : Int), .slice uA U.length uk, .int .i64 (l.length : Int), .int .i64 (most : Int), .bool keep, .slice fA (tops ps).length fk] T :: Own uT BoolC uA uk U :: Own fT SlC fA fk (tops ps) :: RowsA bT B3C ps :: H) w) : St w0 (SrchK T uT fT bT sb v most keep m l :: H) w := by
  refine St.mkExi (((uA, uk), U), (fA, fk), ps) (St.unsep (St.addPur ⟨hr, hc, hso⟩ ?_))
  have h1 : St w0 (Own fT SlC fA fk (tops ps) :: RowsA bT B3C ps :: Own uT BoolC uA uk U :: Blk sb [.int .i64 (v : Int), .slice uA U.length uk, .int .i64 (l.length : Int), .int .i64 (most : Int), .bool keep, .slice fA (tops ps).length fk] T :: H) w := hw.sub (Sub.keep 2 rfl (Sub.keep 2 rfl (Sub.keep 1 rfl (Sub.keep 0 rfl (Sub.refl _)))))
  have h2 := (St.unsep h1).perm (List.Perm.swap _ _ _)
  have h3 := (St.unsep h2).perm (List.Perm.swap _ _ _)
  exact St.unsep h3
end
end Go.Vc
/-
  The calculus, part 19: fields of a list's elements.
-/
namespace Go.Vc
open Go Go.RowKit
section
variable {P : Program} {w0 w : World} {σ : Sig} {H H' : List Assn} {o : Oper} {v : Int}
theorem Pu.fieldAddr' {T : TypeId} {x : Operand} {f off : Nat} {p : Option Addr} {fs : Array Field} {fd : Field} {n : Nat} (ho : o.op = .fieldAddr T x f) (hT : P.underlying T = some (.struct fs)) (hf : fs[f]? = some fd) (hs : Sz P fd.type (n + 1)) (hx : ev σ x = some (.pointer p)) (hr : fd.offset = off) (hp : ∀ w, St w0 H w → p.isSome = true) :
    Pu P w0 o σ H (.pointer (p.map (·.add off))) := by
  intro w hw a ha
  subst hr
  have h1 := ha x (by simp [ho, Op.operands]) _ hx
  obtain ⟨q, rfl⟩ := Option.isSome_iff_exists.1 (hp w hw)
  simp [execOp, ho, h1, Instr.fieldAt, run_underlying hT, hf, Instr.sureAddr, fieldPlace, run_sz hs]
theorem Ld.rowYf {A : Option Addr} {ps : List (Sl × List B3)} (hr : ∀ w, St w0 H w → Rd (SyC v) w A (tops ps)) (hn : LenOk ps) {k s : Nat} (hk : k < ps.length) (hs : s = 2) :
    ∀ w, St w0 H w → ∃ q, (A.map (·.add (k * s))).map (·.add 1) = some q ∧ w.cell? q = some (.slice (ps[k]).1.A (ps[k]).2.length (ps[k]).1.c) := by
  intro w hw
  obtain ⟨q, h1, h2⟩ := Ld.rowY hr hn hk hs w hw
  exact ⟨q.add 1, by rw [h1]; rfl, h2 1 _ rfl⟩
theorem prev_bef {ps qs : List (Sl × List B3)} {i k : Nat} (hpw : (conts ps).Pairwise befB) (ho : conts qs = (conts ps).take i) (hi : i < ps.length) (hk : k < qs.length) (hki : k < i) : befB (qs[k]).2 (ps[i]).2 := by
  have l1 := conts_len ps
  have l2 := conts_len qs
  have h := List.pairwise_iff_getElem.1 hpw k i (by omega) (by omega) hki
  have e1 : (conts ps)[i]'(by omega) = (ps[i]).2 := List.getElem_map ..
  have e2 : (conts qs)[k]'(by omega) = (qs[k]).2 := List.getElem_map ..
  have e3 : (conts qs)[k]'(by omega) = (conts ps)[k]'(by omega) := by
    have h4 : (conts qs)[k]? = (conts ps)[k]? := by rw [ho, List.getElem?_take]; simp [hki]
    rw [List.getElem?_eq_getElem (by omega), List.getElem?_eq_getElem (by omega)] at h4
    exact Option.some.inj h4
  rw [← e1, ← e2, e3]
  exact h
theorem runC_sub {α : Type} {cont : Nat → Bool} : ∀ {L : List α} {k : Nat}, (runC cont k L).Sublist L := by
  intro L
  induction L with
  | nil => intro k; exact List.Sublist.refl _
  | cons x L ih =>
    intro k
    unfold runC
    split
    · exact ih.cons_cons x
    · exact (List.nil_sublist L).cons_cons x
theorem runC_leaf_sub {cont : Nat → Bool} {n v m k : Nat} : (runC cont k (leaf [] (compM n v m))).Sublist (compM n v m) := by
  have e : leaf [] (compM n v m) = compM n v m := by simp [leaf]
  rw [e]
  exact runC_sub
end
theorem few_lt {v : Int} (h : few9 v) : (compM 40 v.toNat 0).length < 1000 := by
  rcases h with rfl | rfl | rfl
  · rw [cntM_eq]; show cntM 40 3 0 < 1000; rw [cnt3]; decide
  · rw [cntM_eq]; show cntM 40 7 0 < 1000; rw [cnt7]; decide
  · rw [cntM_eq]; show cntM 40 9 0 < 1000; rw [cnt9]; decide
theorem run_all {n v most : Nat} (h : (compM n v 0).length < most) : runC (fun j => decide (j < most)) 0 (leaf [] (compM n v 0)) = compM n v 0 := by
  have e : leaf [] (compM n v 0) = compM n v 0 := by simp [leaf]
  rw [e]
  refine runC_all ?_
  rw [goesC_most (by omega)]
  have := runC_le (cont := fun j => decide (j < most)) (k := 0) (l := compM n v 0)
  exact decide_eq_true (by omega)
theorem sub_sorted : ∀ {m l : List B3}, l.Pairwise B3.lt → m.Pairwise B3.lt → (∀ b ∈ l, b ∈ m) → l.Sublist m := by
  intro m
  induction m with
  | nil =>
    intro l _ _ h
    cases l with
    | nil => exact List.Sublist.refl _
    | cons x l => exact absurd (h x (by simp)) (by simp)
  | cons y m ih =>
    intro l hl hm h
    cases l with
    | nil => exact List.nil_sublist _
    | cons x l =>
      obtain ⟨h1, h2⟩ := List.pairwise_cons.1 hl
      obtain ⟨h3, h4⟩ := List.pairwise_cons.1 hm
      rcases List.mem_cons.1 (h x (by simp)) with rfl | hx
      · refine (ih h2 h4 fun b hb => ?_).cons_cons x
        rcases List.mem_cons.1 (h b (by simp [hb])) with rfl | hb'
        · exact absurd (h1 b hb) (lt_irrefl b)
        · exact hb'
      · refine (ih hl h4 fun b hb => ?_).cons y
        rcases List.mem_cons.1 (h b hb) with rfl | hb'
        · exfalso
          rcases List.mem_cons.1 hb with rfl | hb2
          · exact lt_irrefl b (h3 b hx)
          · exact lt_asymm3 (h3 x hx) (h1 b hb2)
        · exact hb'
/-- All the blocks of one list are in the other one. -/
theorem common_all {l m : List B3} (hl : l.Pairwise B3.lt) (hm : m.Pairwise B3.lt) (he : l.length = m.length) : (l.filter fun b => decide (b ∈ m)).length = m.length ↔ m = l := by
  constructor
  · intro h
    have h1 : l.filter (fun b => decide (b ∈ m)) = l := by
      have hs := List.filter_sublist (p := fun b => decide (b ∈ m)) (l := l)
      exact hs.eq_of_length (by omega)
    have hsub : ∀ b ∈ l, b ∈ m := by
      intro b hb
      rw [← h1] at hb
      simpa using (List.mem_filter.1 hb).2
    exact ((sub_sorted hl hm hsub).eq_of_length he).symm
  · intro h
    subst h
    rw [List.filter_eq_self.2 (by simp)]
end Go.Vc
/-
  The calculus, part 19: two results, the first of which lies in memory; the marks of blocks.
-/
namespace Go.Vc
open Go Go.RowKit
section
variable {P : Program} {N : Nat} {w0 w : World} {Q : Exit → Act → World → Prop} {σ : Sig} {H H' : List Assn}
theorem St.mapR {R : List Assn} (h : ∀ w, St w0 H w → St w0 H' w) (k : ∀ w, St w0 H' w → St w0 R w) : ∀ w, St w0 H w → St w0 R w := fun w hw => k w (h w hw)
theorem X.retCell2 {fn : Func} {t s n : Nat} {T : TypeId} {p : Option Addr} {cs : List Value} {u : Value} {R : Value → List Assn} (hr : fn.results = #[.cell t T, .tmp s]) (hT : aggT P T = true) (hz : Sz P T n) (hl : cs.length = n) (ht : look σ t = some (.pointer p)) (hs' : look σ s = some u)
    (hc : ∀ w, St w0 H w → ∃ q, p = some q ∧ ∀ j u, cs[j]? = some u → w.cell? (q.add j) = some u) (hs : ∀ w, St w0 H w → St w0 (R (.tuple #[.agg cs.toArray, u])) w) :
    X N w0 (bodyPost P fn (fun e w' => ∃ v, e = .returned v ∧ St w0 (R v) w')) .ret σ H := by
  intro w hw a ha
  refine ⟨ha.defers, .tuple #[.agg cs.toArray, u], ?_, _, rfl, hs w hw⟩
  have h1 := ha.look_ t _ ht
  have h2 := ha.look_ s _ hs'
  obtain ⟨q, rfl, hq⟩ := hc w hw
  subst hl
  have hrn := run_loadCells_list (P := P) (w := w) q cs hq
  simp [results, hr, h1, h2, asAddr, loadVar, run_isAgg_t hT, run_sz hz, hrn]
end
section
variable {w0 : World} {H : List Assn}
theorem Ld.part {A : Option Addr} {xs : List B3} {k s j : Nat} {u : Value} (hr : ∀ w, St w0 H w → Rd B3C w A xs) (hk : k < xs.length) (hs : s = 3) (hu : (B3.cs xs[k])[j]? = some u) : ∀ w, St w0 H w → ∃ q, (A.map (·.add (k * s))).map (·.add j) = some q ∧ w.cell? q = some u := by
  intro w hw
  obtain ⟨q, h1, h2⟩ := Ld.rds hr hk (s := s) hs w hw
  exact ⟨q.add j, by rw [h1]; rfl, h2 j u hu⟩
/-- A field of a struct that is a value: one cell. -/
theorem Pu.field {P : Program} {σ : Sig} {o : Oper} {T : TypeId} {x : Operand} {f : Nat} {fs : Array Field} {fd : Field} {cs : Array Value} {u : Value} (ho : o.op = .field T x f) (hT : P.underlying T = some (.struct fs)) (hf : fs[f]? = some fd) (hp : plainT P fd.type = true) (hx : ev σ x = some (.agg cs)) (hu : cs[fd.offset]? = some u) : Pu P w0 o σ H u := by
  intro w hw a ha
  have h1 := ha x (by simp [ho, Op.operands]) _ hx
  simp [execOp, ho, h1, Instr.field, run_underlying hT, hf, asAgg, part, run_isAgg_f hp, hu]
end
/-- Two strings are equal, or not. -/
theorem Pu.eqlStr {P : Program} {w0 : World} {H : List Assn} {σ : Sig} {o : Oper} {T T2 : TypeId} {x y : Operand} {s t : ByteArray} {b : Bool} (hb : (s.toList == t.toList) = b) (ho : o.op = .binOp .eql T x y T2) (hx : ev σ x = some (.string s)) (hy : ev σ y = some (.string t)) : Pu P w0 o σ H (.bool b) := by
  subst hb
  intro w hw a ha
  have h1 := ha x (by simp [ho, Op.operands]) _ hx
  have h2 := ha y (by simp [ho, Op.operands]) _ hy
  have he : (eqGuard .eql T x y (.string s) (.string t)).run P w = .ok () w := by
    unfold eqGuard
    simp
  simp [execOp, ho, h1, h2, he, Go.binOp, Op.stringOp]
/-- The marks of n blocks. -/
def marksB (m : Int) (n : Nat) : List B3 := (List.range n).map fun i : Nat => (m + 3 * (i : Int), m + 3 * (i : Int) + 1, m + 3 * (i : Int) + 2)
theorem marksB_len (m : Int) (n : Nat) : (marksB m n).length = n := by simp [marksB]
theorem marksB_get (m : Int) (n : Nat) {k : Nat} (hk : k < (marksB m n).length) : (marksB m n)[k] = (m + 3 * (k : Int), m + 3 * (k : Int) + 1, m + 3 * (k : Int) + 2) := by simp [marksB]
def markBAt (xs : List B3) (m : Int) (k : Nat) : List B3 := marksB m k ++ xs.drop k
theorem markBAt_zero (xs : List B3) (m : Int) : markBAt xs m 0 = xs := by simp [markBAt, marksB]
theorem markBAt_len {xs : List B3} {m : Int} {k : Nat} (h : k ≤ xs.length) : (markBAt xs m k).length = xs.length := by simp [markBAt, marksB_len]; omega
theorem markBAt_set {xs : List B3} {m : Int} {k : Nat} (h : k < xs.length) : (markBAt xs m k).set k (m + 3 * (k : Int), m + 3 * (k : Int) + 1, m + 3 * (k : Int) + 2) = markBAt xs m (k + 1) := by
  unfold markBAt
  rw [List.set_append_right _ _ (by rw [marksB_len]; exact Nat.le_refl _), marksB_len, Nat.sub_self, drop_cons h, List.set_cons_zero]
  unfold marksB
  rw [List.range_succ, List.map_append, List.append_assoc]
  rfl
theorem markBAt_all {xs : List B3} {m : Int} {k : Nat} (h : k = xs.length) : markBAt xs m k = marksB m xs.length := by
  subst h
  simp [markBAt]
theorem set3 {l : List B3} {k : Nat} (hk : k < l.length) {a b c a2 b2 : B3} : ((l.set k a).set k b).set k c = l.set k c := by rw [List.set_set, List.set_set]
end Go.Vc
/-
  Plain words: parts that fix a system.
-/
namespace Go.Vc
theorem com_comm (a b : B3) : common a b = common b a := by
  unfold common
  simp only [@eq_comm _ b.1 a.1, @eq_comm _ b.1 a.2.1, @eq_comm _ b.1 a.2.2, @eq_comm _ b.2.1 a.1, @eq_comm _ b.2.1 a.2.1, @eq_comm _ b.2.1 a.2.2, @eq_comm _ b.2.2 a.1, @eq_comm _ b.2.2 a.2.1, @eq_comm _ b.2.2 a.2.2]
  omega
instance (a b : B3) : Decidable (leB a b) := inferInstanceAs (Decidable (¬ _))
section
variable {v m n : Nat}
theorem usd_put_false {a b c x y : Nat} (ha : a < 16) (hb : b < 16) (hc : c < 16) (hx : x < 16) (hy : y < 16) (h : usd (putM m a b c) x y = false) : usd m x y = false := by
  cases hh : usd m x y with
  | false => rfl
  | true =>
    have := (usd_put (m := m) ha hb hc hx hy).2 (.inl hh)
    rw [this] at h
    cases h
/-- What a completion is. -/
theorem comp_rest : ∀ n v m (q : List B3), v ≤ 15 → q ∈ compM n v m → Rest v m q := by
  intro n
  induction n with
  | zero =>
    intro v m q hv hq
    rcases mem_comp hq with ⟨rfl, _⟩ | ⟨k, a, b, c, r, hk, _⟩
    · exact ⟨fun _ h => by simp at h, fun _ h => by simp at h, List.Pairwise.nil, List.Pairwise.nil⟩
    · omega
  | succ n ih =>
    intro v m q hv hq
    have hs := comp_sorted _ _ _ _ hv hq
    rcases mem_comp hq with ⟨rfl, _⟩ | ⟨k, a, b, c, r, hk, hn, hc, hm, hr, rfl⟩
    · exact ⟨fun _ h => by simp at h, fun _ h => by simp at h, List.Pairwise.nil, List.Pairwise.nil⟩
    · obtain rfl : n = k := by omega
      have hI := next_spec hn
      have hab := hI.ab
      have hbv := hI.bv
      obtain ⟨h1, h2, h3⟩ := may_spec hm
      have h := ih _ _ _ hv hr
      refine ⟨fun d hd => ?_, fun d hd => ?_, hs, List.pairwise_cons.2 ⟨fun d hd => ?_, h.fit⟩⟩
      · rcases List.mem_cons.1 hd with rfl | hd
        · exact ⟨a, b, c, rfl, hab, h1, hc⟩
        · exact h.ok d hd
      · rcases List.mem_cons.1 hd with rfl | hd
        · exact ⟨a, b, c, rfl, hab, h1, hI.left, h2, h3⟩
        · obtain ⟨x, y, z, rfl, hx, hy, u1, u2, u3⟩ := h.opn d hd
          obtain ⟨x', y', z', e, _, _, hz⟩ := h.ok _ hd
          obtain ⟨rfl, rfl, rfl⟩ := b3N_inj e
          exact ⟨x, y, z, rfl, hx, hy, usd_put_false (by omega) (by omega) (by omega) (by omega) (by omega) u1, usd_put_false (by omega) (by omega) (by omega) (by omega) (by omega) u2, usd_put_false (by omega) (by omega) (by omega) (by omega) (by omega) u3⟩
      · obtain ⟨x, y, z, rfl, hx, hy, u1, u2, u3⟩ := h.opn d hd
        obtain ⟨x', y', z', e, _, _, hz⟩ := h.ok _ hd
        obtain ⟨rfl, rfl, rfl⟩ := b3N_inj e
        rw [common_le (b3N_three hab h1)]
        have k : ∀ p q : Nat, p < q → q < v → usd (putM m a b c) p q = false → ¬ (has (b3N a b c) p ∧ has (b3N a b c) q) := fun p q h4 h5 h6 => ((usd_putN hab h1 (by omega) (by omega) (by omega) (by omega)).1 h6).2
        exact ⟨k x y hx (by omega) u1, k x z (by omega) (by omega) u2, k y z hy (by omega) u3⟩
/-- .. and that it leaves no pair. -/
theorem comp_full : ∀ n v m (q : List B3), v ≤ 15 → q ∈ compM n v m → ∀ x y, x < y → y < v → usd (maskB m q) x y = true := by
  intro n
  induction n with
  | zero =>
    intro v m q hv hq
    rcases mem_comp hq with ⟨rfl, h⟩ | ⟨k, a, b, c, r, hk, _⟩
    · exact next_none h
    · omega
  | succ n ih =>
    intro v m q hv hq
    rcases mem_comp hq with ⟨rfl, h⟩ | ⟨k, a, b, c, r, hk, hn, hc, hm, hr, rfl⟩
    · exact next_none h
    · obtain rfl : n = k := by omega
      have h := ih _ _ _ hv hr
      have e : maskB m (b3N a b c :: r) = maskB (putM m a b c) r := by
        show maskB (putB m (b3N a b c)) r = _
        rw [putB_b3N]
      rw [e]
      exact h
/-- A full system, as plain words have it. -/
structure FullS (v : Nat) (T : List B3) : Prop where
  rest : Rest v 0 T
  full : ∀ x y, x < y → y < v → ∃ d ∈ T, has d x ∧ has d y
theorem maskB_app {A B : List B3} : maskB m (A ++ B) = maskB (maskB m A) B := by unfold maskB; rw [List.foldl_append]
theorem FullS.mem {T : List B3} (h : FullS v T) (hv : v ≤ 15) (hn : T.length ≤ n) : T ∈ compM n v 0 := comp_all T 0 n hv h.rest (fun x y h1 h2 => .inr (h.full x y h1 h2)) hn
theorem FullS.of {T : List B3} (hv : v ≤ 15) (h : T ∈ compM n v 0) : FullS v T := by
  have hr := comp_rest _ _ _ _ hv h
  refine ⟨hr, fun x y h1 h2 => ?_⟩
  rcases (usd_mask T 0 hv hr.ok x y h1 h2).1 (comp_full _ _ _ _ hv h x y h1 h2) with h3 | h3
  · rw [usd_zero] at h3; cases h3
  · exact h3
theorem fit_pair {T : List B3} (h : Rest v 0 T) {d e : B3} (hd : d ∈ T) (he : e ∈ T) (hne : d ≠ e) : common e d ≤ 1 := by
  obtain ⟨i, hi, rfl⟩ := List.getElem_of_mem hd
  obtain ⟨j, hj, rfl⟩ := List.getElem_of_mem he
  have hp := List.pairwise_iff_getElem.1 h.fit
  rcases Nat.lt_trichotomy i j with h1 | h1 | h1
  · exact hp i j hi hj h1
  · subst h1; exact absurd rfl hne
  · rw [com_comm]; exact hp j i hj hi h1
/-- A part of a full system: the others complete it. -/
theorem others_mem {T Q : List B3} (hv : v ≤ 15) (h : FullS v T) (hQ : ∀ d ∈ Q, d ∈ T) (hn : T.length ≤ n) : (T.filter fun d => decide (d ∉ Q)) ∈ compM n v (maskB 0 Q) := by
  have hok : ∀ d ∈ Q, inB v d := fun d hd => h.rest.ok d (hQ d hd)
  refine comp_all _ _ _ hv ⟨fun d hd => h.rest.ok d (List.mem_filter.1 hd).1, fun d hd => ?_, h.rest.lt.filter _, h.rest.fit.filter _⟩ (fun x y h1 h2 => ?_) (Nat.le_trans (List.length_filter_le _ _) hn)
  · obtain ⟨hdT, hdQ⟩ := List.mem_filter.1 hd
    have hdQ : d ∉ Q := by simpa using hdQ
    obtain ⟨x, y, z, rfl, hx, hy, hz⟩ := h.rest.ok d hdT
    have k : ∀ p q : Nat, p < q → q < v → has (b3N x y z) p → has (b3N x y z) q → usd (maskB 0 Q) p q = false := by
      intro p q h4 h5 h6 h7
      cases hu : usd (maskB 0 Q) p q with
      | false => rfl
      | true =>
        rcases (usd_mask Q 0 hv hok p q h4 h5).1 hu with h8 | ⟨e, he, h9, h10⟩
        · rw [usd_zero] at h8; cases h8
        · have hne : b3N x y z ≠ e := by rintro rfl; exact hdQ he
          have hc := fit_pair h.rest (hQ e he) hdT (Ne.symm hne)
          obtain ⟨a, b, c, rfl, ha, hb, hcv⟩ := hok e he
          rw [common_le (b3N_three ha hb)] at hc
          rw [has_b3N] at h6 h7
          exfalso
          rcases h6 with rfl | rfl | rfl <;> rcases h7 with rfl | rfl | rfl <;> first | omega | exact hc.1 ⟨h9, h10⟩ | exact hc.2.1 ⟨h9, h10⟩ | exact hc.2.2 ⟨h9, h10⟩
    exact ⟨x, y, z, rfl, hx, hy, k x y hx (by omega) (has_b3N.2 (.inl rfl)) (has_b3N.2 (.inr (.inl rfl))), k x z (by omega) (by omega) (has_b3N.2 (.inl rfl)) (has_b3N.2 (.inr (.inr rfl))), k y z hy (by omega) (has_b3N.2 (.inr (.inl rfl))) (has_b3N.2 (.inr (.inr rfl)))⟩
  · obtain ⟨d, hd, h3, h4⟩ := h.full x y h1 h2
    by_cases hdQ : d ∈ Q
    · exact .inl ((usd_mask Q 0 hv hok x y h1 h2).2 (.inr ⟨d, hdQ, h3, h4⟩))
    · exact .inr ⟨d, List.mem_filter.2 ⟨hd, by simpa using hdQ⟩, h3, h4⟩
theorem srt_ext {A B : List B3} (ha : A.Pairwise B3.lt) (hb : B.Pairwise B3.lt) (h : ∀ d, d ∈ A ↔ d ∈ B) : A = B := by
  have n1 : A.Nodup := ha.imp fun h => by rintro rfl; exact lt_irrefl _ h
  have n2 : B.Nodup := hb.imp fun h => by rintro rfl; exact lt_irrefl _ h
  exact ((List.perm_ext_iff_of_nodup n1 n2).2 h).eq_of_pairwise (fun a b _ _ h1 h2 => (lt_asymm3 h1 h2).elim) ha hb
/-- A completion of a part makes a full system. -/
theorem comp_makes {Q q : List B3} (hv : v ≤ 15) (hQ : Rest v 0 Q) (hq : q ∈ compM n v (maskB 0 Q)) : ∃ T, FullS v T ∧ (∀ d, d ∈ T ↔ d ∈ Q ∨ d ∈ q) ∧ (∀ d ∈ q, d ∉ Q) := by
  have hr := comp_rest _ _ _ _ hv hq
  have dis : ∀ d ∈ q, ∀ e ∈ Q, ∀ x y : Nat, x < y → y < v → has d x → has d y → has e x → has e y → False := by
    intro d hd e he x y h1 h2 h3 h4 h5 h6
    obtain ⟨a, b, c, rfl, ha, hb, u1, u2, u3⟩ := hr.opn d hd
    have hu := (usd_mask Q 0 hv hQ.ok x y h1 h2).2 (.inr ⟨e, he, h5, h6⟩)
    rw [has_b3N] at h3 h4
    rcases h3 with rfl | rfl | rfl <;> rcases h4 with rfl | rfl | rfl <;> first | omega | (rw [hu] at u1; cases u1) | (rw [hu] at u2; cases u2) | (rw [hu] at u3; cases u3)
  have hne : ∀ d ∈ q, d ∉ Q := by
    intro d hd he
    obtain ⟨a, b, c, rfl, ha, hb, hc⟩ := hr.ok d hd
    exact dis _ hd _ he a b ha (by omega) (has_b3N.2 (.inl rfl)) (has_b3N.2 (.inr (.inl rfl))) (has_b3N.2 (.inl rfl)) (has_b3N.2 (.inr (.inl rfl)))
  let T := (Q ++ q).mergeSort fun x y => decide (leB x y)
  have hp : T.Perm (Q ++ q) := List.mergeSort_perm _ _
  have hmem : ∀ d, d ∈ T ↔ d ∈ Q ∨ d ∈ q := fun d => by rw [hp.mem_iff, List.mem_append]
  have hle : T.Pairwise leB := by
    have h := List.pairwise_mergeSort (le := fun x y : B3 => decide (leB x y)) (by intro a b c h1 h2; simp only [decide_eq_true_eq] at *; exact leB_trans h1 h2) (by intro a b; simp only [Bool.or_eq_true, decide_eq_true_eq]; unfold leB B3.lt; omega) (Q ++ q)
    exact h.imp (by intro a b h; simpa using h)
  have hnd : T.Nodup := by
    refine hp.nodup_iff.2 (List.nodup_append.2 ⟨hQ.lt.imp fun h => ?_, hr.lt.imp fun h => ?_, fun a ha b hb e => ?_⟩)
    · rintro rfl; exact lt_irrefl _ h
    · rintro rfl; exact lt_irrefl _ h
    · subst e; exact hne a hb ha
  have hlt : T.Pairwise B3.lt := by
    have h2 := hle.and hnd
    refine h2.imp ?_
    rintro a b ⟨h3, h4⟩
    obtain ⟨a1, a2, a3⟩ := a
    obtain ⟨b1, b2, b3⟩ := b
    simp only [ne_eq, Prod.mk.injEq] at h4
    unfold leB B3.lt at *
    simp only at *
    omega
  have hin : ∀ d ∈ T, inB v d := fun d hd => by rcases (hmem d).1 hd with h | h; (· exact hQ.ok d h); (· exact hr.ok d h)
  have hcom : ∀ d ∈ Q, ∀ e ∈ q, common e d ≤ 1 := by
    intro d hd e he
    obtain ⟨a, b, c, rfl, ha, hb, hc⟩ := hQ.ok d hd
    obtain ⟨x, y, z, rfl, hx, hy, hz⟩ := hr.ok e he
    rw [common_le (b3N_three ha hb)]
    refine ⟨fun h => ?_, fun h => ?_, fun h => ?_⟩
    · exact dis _ he _ hd x y hx (by omega) (has_b3N.2 (.inl rfl)) (has_b3N.2 (.inr (.inl rfl))) h.1 h.2
    · exact dis _ he _ hd x z (by omega) (by omega) (has_b3N.2 (.inl rfl)) (has_b3N.2 (.inr (.inr rfl))) h.1 h.2
    · exact dis _ he _ hd y z hy (by omega) (has_b3N.2 (.inr (.inl rfl))) (has_b3N.2 (.inr (.inr rfl))) h.1 h.2
  have hfit0 : (Q ++ q).Pairwise fun d e => common e d ≤ 1 := List.pairwise_append.2 ⟨hQ.fit, hr.fit, hcom⟩
  have hfit : T.Pairwise fun d e => common e d ≤ 1 := (hp.pairwise_iff (fun {a b} h => by rw [com_comm]; exact h)).2 hfit0
  refine ⟨T, ⟨⟨hin, fun d hd => ?_, hlt, hfit⟩, fun x y h1 h2 => ?_⟩, hmem, hne⟩
  · obtain ⟨x, y, z, rfl, hx, hy, hz⟩ := hin d hd
    exact ⟨x, y, z, rfl, hx, hy, usd_zero _ _, usd_zero _ _, usd_zero _ _⟩
  · have hu := comp_full _ _ _ _ hv hq x y h1 h2
    rw [← maskB_app] at hu
    rcases (usd_mask (Q ++ q) 0 hv (fun d hd => by rcases List.mem_append.1 hd with h | h; (· exact hQ.ok d h); (· exact hr.ok d h)) x y h1 h2).1 hu with h3 | ⟨d, hd, h3⟩
    · rw [usd_zero] at h3; cases h3
    · exact ⟨d, hp.mem_iff.2 hd, h3⟩
theorem Rest.sub {T Q : List B3} (h : Rest v 0 T) (hs : Q.Sublist T) : Rest v 0 Q := ⟨fun d hd => h.ok d (hs.subset hd), fun d hd => h.opn d (hs.subset hd), h.lt.sublist hs, h.fit.sublist hs⟩
theorem comp_nodup (hv : v ≤ 15) : (compM n v m).Nodup := (comp_ascending n v m hv).imp fun h => by rintro rfl; exact befB_asymm h h
/-- A part of a full system has one completion: no other full system has it. -/
theorem fixes_iff {T Q : List B3} (hv : v ≤ 15) (h : FullS v T) (hs : Q.Sublist T) (hn : T.length ≤ n) (hall : ∀ U, FullS v U → U.length ≤ n) : (compM n v (maskB 0 Q)).length = 1 ↔ ∀ U, FullS v U → (∀ d ∈ Q, d ∈ U) → U = T := by
  have hTm := others_mem hv h (fun d hd => hs.subset hd) hn
  constructor
  · intro h1 U hU hQU
    have hUm := others_mem hv hU hQU (hall U hU)
    obtain ⟨z, hz⟩ := List.length_eq_one_iff.1 h1
    rw [hz] at hTm hUm
    have e : (U.filter fun d => decide (d ∉ Q)) = T.filter fun d => decide (d ∉ Q) := (List.mem_singleton.1 hUm).trans (List.mem_singleton.1 hTm).symm
    refine srt_ext hU.rest.lt h.rest.lt fun d => ?_
    have e2 : d ∈ (U.filter fun d => decide (d ∉ Q)) ↔ d ∈ T.filter fun d => decide (d ∉ Q) := by rw [e]
    simp only [List.mem_filter, decide_eq_true_eq] at e2
    by_cases hd : d ∈ Q
    · exact ⟨fun _ => hs.subset hd, fun _ => hQU d hd⟩
    · exact ⟨fun hh => (e2.1 ⟨hh, hd⟩).1, fun hh => (e2.2 ⟨hh, hd⟩).1⟩
  · intro hU
    have hone : ∀ q ∈ compM n v (maskB 0 Q), q = T.filter fun d => decide (d ∉ Q) := by
      intro q hq
      obtain ⟨U, h1, h2, h3⟩ := comp_makes hv (h.rest.sub hs) hq
      have e := hU U h1 (fun d hd => (h2 d).2 (.inl hd))
      subst e
      refine srt_ext (comp_rest _ _ _ _ hv hq).lt (h.rest.lt.filter _) fun d => ?_
      simp only [List.mem_filter, decide_eq_true_eq]
      exact ⟨fun hd => ⟨(h2 d).2 (.inr hd), h3 d hd⟩, fun ⟨hd, hd2⟩ => by rcases (h2 d).1 hd with h | h; (· exact absurd h hd2); (· exact h)⟩
    have hnd := comp_nodup (n := n) (v := v) (m := maskB 0 Q) hv
    generalize compM n v (maskB 0 Q) = L at hTm hone hnd
    match L, hTm, hone, hnd with
    | [], h1, _, _ => simp at h1
    | [a], _, _, _ => rfl
    | a :: b :: L, _, h2, h3 =>
      have e1 := h2 a (by simp)
      have e2 := h2 b (by simp)
      have h4 := (List.nodup_cons.1 h3).1
      exact absurd (by rw [e1, e2]; simp) h4
end
end Go.Vc
/-
  Plain words: the least part that fixes a system.
-/
namespace Go.Vc
/-- The least set with a property. -/
def LeastP (n : Nat) (p : Nat → Prop) (o : List Int) : Prop :=
  ∃ t, t < 2 ^ n ∧ p t ∧ o = pts t ∧ ∀ q, q < 2 ^ n → p q → ones t ≤ ones q ∧ (ones q = ones t → ¬ ltL (pts q) (pts t))
theorem LeastP.unique {n : Nat} {p : Nat → Prop} {a b : List Int} (h1 : LeastP n p a) (h2 : LeastP n p b) : a = b := by
  obtain ⟨T, a1, a2, rfl, a4⟩ := h1
  obtain ⟨U, b1, b2, rfl, b4⟩ := h2
  have h3 := a4 U b1 b2
  have h4 := b4 T a1 a2
  exact ltL_tri (fun h => h4.2 (by omega) h) (fun h => h3.2 (by omega) h)
theorem best_least {n : Nat} {p : Nat → Prop} {s : Nat} {found : Bool} {most : Int} {out : List Int} (h : BestI (-1) p s found most out) (hs : s = 2 ^ n) (he : ∃ q, q < 2 ^ n ∧ p q) : LeastP n p out := by
  subst hs
  cases hf : found with
  | false => obtain ⟨q, h1, h2⟩ := he; exact absurd h2 (h.no hf q h1)
  | true =>
    obtain ⟨t, a1, a2, a3, a4, a5⟩ := h.yes hf
    refine ⟨t, a1, a2, a3, fun U hU hm => ?_⟩
    rw [← a3]
    rcases a5 U hU hm with b1 | ⟨b1, b2⟩
    · exact ⟨by omega, fun e => by omega⟩
    · exact ⟨by omega, fun _ => b2⟩
/-- Which of the first k blocks a system has. -/
def hasM (bs U : List B3) : Nat → Nat
  | 0 => 0
  | k + 1 => if bs.getD k (0, 0, 0) ∈ U then hasM bs U k ||| 2 ^ k else hasM bs U k
theorem hasM_bit {bs U : List B3} {q : Nat} : ∀ k, (hasM bs U k).testBit q = (decide (q < k) && decide (bs.getD q (0, 0, 0) ∈ U)) := by
  intro k
  induction k with
  | zero => simp [hasM]
  | succ k ih =>
    simp only [hasM]
    split
    · rename_i h
      rw [Nat.testBit_or, ih, Nat.testBit_two_pow]
      by_cases e : k = q
      · subst e; rw [List.getD_eq_getElem?_getD] at *; simp [h]
      · by_cases e2 : q < k
        · simp [e, e2, show q < k + 1 by omega]
        · simp [e, e2, show ¬ q < k + 1 by omega]
    · rename_i h
      rw [ih]
      by_cases e : k = q
      · subst e; rw [List.getD_eq_getElem?_getD] at *; simp [h]
      · by_cases e2 : q < k
        · simp [e2, show q < k + 1 by omega]
        · simp [e2, show ¬ q < k + 1 by omega]
theorem hasM_lt {bs U : List B3} : ∀ k, hasM bs U k < 2 ^ k := by
  intro k
  induction k with
  | zero => simp [hasM]
  | succ k ih =>
    simp only [hasM]
    have h2 : (2 : Nat) ^ k < 2 ^ (k + 1) := by rw [Nat.pow_succ]; have := Nat.two_pow_pos k; omega
    split
    · exact Nat.or_lt_two_pow (by omega) h2
    · omega
/-- A part's blocks. -/
def partB (bs : List B3) (s : Nat) : List B3 := (pts s).map (blk bs)
/-- No other full system has all blocks of the part. -/
def FixP (bs : List B3) (all : List (List B3)) (s : Nat) : Prop := ∀ U ∈ all, (∀ q, s.testBit q = true → bs.getD q (0, 0, 0) ∈ U) → U = bs
theorem hasM_all {bs U : List B3} (hl : U.length = bs.length) (h1 : bs.Pairwise B3.lt) (h2 : U.Pairwise B3.lt) : hasM bs U bs.length = 2 ^ bs.length - 1 ↔ U = bs := by
  constructor
  · intro h
    have hm : ∀ d ∈ bs, d ∈ U := by
      intro d hd
      obtain ⟨i, hi, rfl⟩ := List.getElem_of_mem hd
      have e := hasM_bit (bs := bs) (U := U) (q := i) bs.length
      rw [h, Nat.testBit_two_pow_sub_one] at e
      simp [hi] at e
      exact e
    have hf : (bs.filter fun b => decide (b ∈ U)) = bs := List.filter_eq_self.2 fun a ha => by simpa using hm a ha
    have := common_all h1 h2 hl.symm
    rw [hf] at this
    exact this.1 hl.symm
  · rintro rfl
    apply Nat.eq_of_testBit_eq
    intro q
    rw [hasM_bit, Nat.testBit_two_pow_sub_one]
    by_cases hq : q < U.length
    · simp [hq]
    · simp [hq]
/-- The program's test of a part. -/
theorem fixP_impl {bs : List B3} {all : List (List B3)} {s : Nat} (hs : s < 2 ^ bs.length) (h1 : bs.Pairwise B3.lt) (hall : ∀ U ∈ all, U.length = bs.length ∧ U.Pairwise B3.lt) :
    FixP bs all s ↔ ¬ ∃ h ∈ ((all.map fun U => hasM bs U bs.length).filter fun h => decide (¬ h = 2 ^ bs.length - 1)), ∀ q, s.testBit q = true → h.testBit q = true := by
  have low : ∀ q, s.testBit q = true → q < bs.length := fun q hq => by
    rcases Nat.lt_or_ge q bs.length with h | h
    · exact h
    · rw [Nat.testBit_lt_two_pow (Nat.lt_of_lt_of_le hs (Nat.pow_le_pow_right (by decide) h))] at hq; cases hq
  constructor
  · rintro h ⟨x, hx, hq⟩
    obtain ⟨hx1, hx2⟩ := List.mem_filter.1 hx
    obtain ⟨U, hU, rfl⟩ := List.mem_map.1 hx1
    have e := h U hU fun q hs' => by
      have := hq q hs'
      rw [hasM_bit] at this
      simp at this
      exact this.2
    simp only [decide_eq_true_eq] at hx2
    exact hx2 ((hasM_all (hall U hU).1 h1 (hall U hU).2).2 e)
  · intro h U hU hq
    by_cases e : U = bs
    · exact e
    · exfalso
      refine h ⟨hasM bs U bs.length, List.mem_filter.2 ⟨List.mem_map.2 ⟨U, hU, rfl⟩, ?_⟩, fun q hs' => ?_⟩
      · simp only [decide_eq_true_eq]
        exact fun e2 => e ((hasM_all (hall U hU).1 h1 (hall U hU).2).1 e2)
      · rw [hasM_bit, decide_eq_true (low q hs'), decide_eq_true (hq q hs')]
        rfl
theorem fixP_top {bs : List B3} {all : List (List B3)} (h1 : bs.Pairwise B3.lt) (hall : ∀ U ∈ all, U.length = bs.length ∧ U.Pairwise B3.lt) : FixP bs all (2 ^ bs.length - 1) := by
  intro U hU h
  refine (hasM_all (hall U hU).1 h1 (hall U hU).2).1 ?_
  apply Nat.eq_of_testBit_eq
  intro q
  rw [hasM_bit, Nat.testBit_two_pow_sub_one]
  by_cases hq : q < bs.length
  · have := h q (by rw [Nat.testBit_two_pow_sub_one]; simpa using hq)
    simp [hq]
    simpa [hq] using this
  · simp [hq]
/-- Lists of so many of the numbers below n, from one on, in order. -/
def setsN (n : Nat) : Nat → Nat → List (List Int)
  | 0, _ => [[]]
  | c + 1, f => (List.range (n - f)).flatMap fun i => (setsN n c (f + i + 1)).map (((f + i : Nat) : Int) :: ·)
theorem mem_sets {n : Nat} : ∀ {c f : Nat} {L : List Int}, L ∈ setsN n c f ↔ L.length = c ∧ L.Pairwise (· < ·) ∧ ∀ i ∈ L, (f : Int) ≤ i ∧ i < n := by
  intro c
  induction c with
  | zero =>
    intro f L
    simp only [setsN, List.mem_singleton]
    constructor
    · rintro rfl; exact ⟨rfl, List.Pairwise.nil, fun _ h => by simp at h⟩
    · rintro ⟨h, _⟩; exact List.eq_nil_of_length_eq_zero h
  | succ c ih =>
    intro f L
    simp only [setsN, List.mem_flatMap, List.mem_range, List.mem_map]
    constructor
    · rintro ⟨i, hi, R, hR, rfl⟩
      obtain ⟨h1, h2, h3⟩ := ih.1 hR
      refine ⟨by simp [h1], List.pairwise_cons.2 ⟨fun j hj => by have := h3 j hj; omega, h2⟩, fun j hj => ?_⟩
      rcases List.mem_cons.1 hj with rfl | hj
      · omega
      · have := h3 j hj; omega
    · rintro ⟨h1, h2, h3⟩
      cases L with
      | nil => simp at h1
      | cons a R =>
        have ha := h3 a (by simp)
        obtain ⟨h4, h5⟩ := List.pairwise_cons.1 h2
        refine ⟨a.toNat - f, by omega, R, ih.2 ⟨by simpa using h1, h5, fun i hi => ?_⟩, ?_⟩
        · have := h4 i hi
          have := h3 i (by simp [hi])
          omega
        · congr 1; omega
theorem sets_sorted {n : Nat} : ∀ {c f : Nat}, (setsN n c f).Pairwise ltL := by
  intro c
  induction c with
  | zero => intro f; simp [setsN]
  | succ c ih =>
    intro f
    simp only [setsN]
    rw [List.flatMap_def, List.pairwise_flatten]
    refine ⟨fun l hl => ?_, ?_⟩
    · obtain ⟨i, _, rfl⟩ := List.mem_map.1 hl
      rw [List.pairwise_map]
      exact ih.imp fun h => ltL_cons.2 (.inr ⟨rfl, h⟩)
    · rw [List.pairwise_map]
      refine List.pairwise_lt_range.imp ?_
      intro a b hab x hx y hy
      obtain ⟨x', _, rfl⟩ := List.mem_map.1 hx
      obtain ⟨y', _, rfl⟩ := List.mem_map.1 hy
      exact ltL_cons.2 (.inl (by omega))
theorem foldl_bit : ∀ (xs : List Int) (m q : Nat), (xs.foldl (fun m p => m ||| 2 ^ p.toNat) m).testBit q = (m.testBit q || xs.any fun p => decide (p.toNat = q)) := by
  intro xs
  induction xs with
  | nil => intro m q; simp
  | cons x xs ih =>
    intro m q
    simp only [List.foldl_cons, List.any_cons]
    rw [ih, Nat.testBit_or, Nat.testBit_two_pow]
    cases m.testBit q <;> simp
theorem ptsAt_sorted (m : Nat) : ∀ v, (ptsAt m v).Pairwise (· < ·) := by
  intro v
  induction v with
  | zero => exact List.Pairwise.nil
  | succ v ih =>
    simp only [ptsAt]
    split
    · refine List.pairwise_append.2 ⟨ih, by simp, fun a ha b hb => ?_⟩
      have := (ptsAt_mem m v).1 ha
      simp only [List.mem_singleton] at hb
      omega
    · exact ih
theorem asc_ext {A B : List Int} (ha : A.Pairwise (· < ·)) (hb : B.Pairwise (· < ·)) (h : ∀ d, d ∈ A ↔ d ∈ B) : A = B := by
  have n1 : A.Nodup := ha.imp fun h => by omega
  have n2 : B.Nodup := hb.imp fun h => by omega
  exact ((List.perm_ext_iff_of_nodup n1 n2).2 h).eq_of_pairwise (fun a b _ _ h1 h2 => by omega) ha hb
theorem maskL_bit (xs : List Int) (q : Nat) : (maskL xs).testBit q = true ↔ ∃ p ∈ xs, p.toNat = q := by
  unfold maskL
  rw [foldl_bit]
  simp
theorem pts_maskL {L : List Int} (h1 : L.Pairwise (· < ·)) (h2 : ∀ i ∈ L, 0 ≤ i ∧ i < 15) : pts (maskL L) = L := by
  refine asc_ext (ptsAt_sorted _ _) h1 fun d => ?_
  unfold pts
  rw [ptsAt_mem, maskL_bit]
  constructor
  · rintro ⟨h3, h4, p, hp, h5⟩
    have := h2 p hp
    have e : p = d := by omega
    exact e ▸ hp
  · intro hd
    have := h2 d hd
    exact ⟨by omega, by omega, d, hd, rfl⟩
theorem maskL_pow {L : List Int} {n : Nat} (h2 : ∀ i ∈ L, 0 ≤ i ∧ i < n) : maskL L < 2 ^ n := by
  apply Nat.lt_pow_two_of_testBit
  intro i hi
  cases h : (maskL L).testBit i with
  | false => rfl
  | true =>
    obtain ⟨p, hp, e⟩ := (maskL_bit L i).1 h
    have := h2 p hp
    omega
/-- The reference's search: the first list of the least length. -/
theorem least_of {n : Nat} {p : Nat → Prop} {c i : Nat} (hn : n ≤ 15) (hi : i < (setsN n c 0).length) (hp : p (maskL (setsN n c 0)[i])) (hno : ∀ j (hj : j < (setsN n c 0).length), j < i → ¬ p (maskL (setsN n c 0)[j]))
    (hlow : ∀ c', c' < c → ∀ L ∈ setsN n c' 0, ¬ p (maskL L)) : LeastP n p (setsN n c 0)[i] := by
  obtain ⟨h1, h2, h3⟩ := mem_sets.1 (List.getElem_mem hi)
  have h3' : ∀ j ∈ (setsN n c 0)[i], 0 ≤ j ∧ j < n := fun j hj => by have := h3 j hj; omega
  have hpt := pts_maskL h2 (fun j hj => by have := h3' j hj; omega)
  have hlen : ∀ q, q < 2 ^ n → (pts q).length = ones q := fun q hq => by
    unfold pts; rw [ptsAt_len, cov_ones (Nat.lt_of_lt_of_le hq (Nat.pow_le_pow_right (by decide) hn))]
  have hmask : ∀ q, q < 2 ^ n → maskL (pts q) = q := fun q hq => by
    apply Nat.eq_of_testBit_eq
    intro k
    have hk : (maskL (pts q)).testBit k = true ↔ q.testBit k = true := by
      rw [maskL_bit]
      unfold pts
      constructor
      · rintro ⟨x, hx, rfl⟩; exact ((ptsAt_mem q 15).1 hx).2.2
      · intro h
        have hkn : k < n := by
          rcases Nat.lt_or_ge k n with h4 | h4
          · exact h4
          · rw [Nat.testBit_lt_two_pow (Nat.lt_of_lt_of_le hq (Nat.pow_le_pow_right (by decide) h4))] at h; cases h
        exact ⟨(k : Int), (ptsAt_mem q 15).2 ⟨by omega, by omega, by simpa using h⟩, by simp⟩
    cases h4 : (maskL (pts q)).testBit k <;> cases h5 : q.testBit k <;> simp_all
  have hin : ∀ q, q < 2 ^ n → pts q ∈ setsN n (ones q) 0 := fun q hq => mem_sets.2 ⟨hlen q hq, ptsAt_sorted _ _, fun j hj => by
    obtain ⟨h4, h5, h6⟩ := (ptsAt_mem q 15).1 hj
    refine ⟨by omega, ?_⟩
    rcases Nat.lt_or_ge j.toNat n with h7 | h7
    · omega
    · rw [Nat.testBit_lt_two_pow (Nat.lt_of_lt_of_le hq (Nat.pow_le_pow_right (by decide) h7))] at h6; cases h6⟩
  have ht := maskL_pow h3'
  refine ⟨maskL (setsN n c 0)[i], ht, hp, hpt.symm, fun q hq hpq => ?_⟩
  have e1 : ones (maskL (setsN n c 0)[i]) = c := by rw [← hlen _ ht, hpt, h1]
  rw [e1, hpt]
  have hq' := hin q hq
  refine ⟨?_, fun e => ?_⟩
  · rcases Nat.lt_or_ge (ones q) c with h4 | h4
    · exact absurd (by rw [hmask q hq]; exact hpq) (hlow _ h4 _ hq')
    · exact h4
  · rw [e] at hq'
    obtain ⟨j, hj, e2⟩ := List.getElem_of_mem hq'
    have hji : ¬ j < i := fun h => hno j hj h (by rw [e2, hmask q hq]; exact hpq)
    rw [← e2]
    intro hlt
    rcases Nat.lt_or_ge i j with h5 | h5
    · exact ltL_asymm hlt (List.pairwise_iff_getElem.1 sets_sorted i j hi hj h5)
    · have : i = j := by omega
      subst this
      exact ltL_irrefl _ hlt
end Go.Vc
/-
  The calculus, part 20: Go's own sorting of an owned row.
-/
namespace Go.Vc
open Go Go.RowKit
open Go.Proofs (sortWorldK CmpLays ltOf)
open Go.Sort (flatK HoldsK putRowK get_flatK size_flatK putCells putRow mapBlock onCells PermIn SortedIn SWO)
section
variable {P : Program} {α : Type} {w0 w w' : World} {H : List Assn} {T c g : Nat} {A : Option Addr} {C : Cod α} {xs ys : List α}
theorem flatK_flat [Inhabited α] (C : Cod α) (xs : List α) : flatK C.enc C.sz xs.toArray = (xs.flatMap C.enc).toArray := by
  have hl := length_flatMap_enc C xs
  apply Array.ext
  · rw [size_flatK]; simp only [List.size_toArray]; omega
  · intro i h1 h2
    have hlt : i < xs.length * C.sz := by simpa [size_flatK] using h1
    have hp := C.pos
    have hq : i / C.sz < xs.length := Nat.div_lt_of_lt_mul (by rw [Nat.mul_comm]; exact hlt)
    have hme : i / C.sz * C.sz + i % C.sz = i := by rw [Nat.mul_comm]; exact Nat.div_add_mod i C.sz
    have hg := getElem?_flatMap_enc C xs (i / C.sz) (i % C.sz) hq (Nat.mod_lt _ hp)
    rw [hme] at hg
    have e1 := get_flatK C.enc C.sz xs.toArray i (by simpa using hlt)
    rw [getElem!_pos _ i h1] at e1
    rw [e1]
    have e2 : xs.toArray[i / C.sz]! = xs[i / C.sz] := by rw [getElem!_pos _ _ (by simpa using hq)]; simp
    rw [e2]
    have h3 : i % C.sz < (C.enc xs[i / C.sz]).length := by rw [C.len]; exact Nat.mod_lt _ hp
    rw [getElem!_pos (C.enc xs[i / C.sz]) _ h3]
    have h4 : (xs.flatMap C.enc)[i]? = some (C.enc xs[i / C.sz])[i % C.sz] := by rw [hg, List.getElem?_eq_getElem h3]
    have h5 : i < (xs.flatMap C.enc).length := by rw [hl]; exact hlt
    rw [List.getElem?_eq_getElem h5] at h4
    simpa using (Option.some.inj h4).symm
theorem own_cases (hw : St w0 (Own T C A c xs :: H) w) : (A = none ∧ c = 0 ∧ xs = []) ∨ ∃ g, A = some ⟨g, 0, none⟩ := by
  obtain ⟨F, ho, hF⟩ := hw.get 0 rfl
  rcases ho.2 with ⟨h1, h2⟩ | ⟨g, cap, cur, hvv, _⟩
  · injection h1 with e1 e2 e3
    exact .inl ⟨e1, e3, List.eq_nil_of_length_eq_zero h2⟩
  · injection hvv with e1
    exact .inr ⟨g, e1⟩
theorem own_holdsK [Inhabited α] (hw : St w0 (Own T C (some ⟨g, 0, none⟩) c xs :: H) w) : HoldsK C.enc C.sz w g 0 xs.toArray ∧ g < w.heap.size := by
  obtain ⟨F, ho, hF⟩ := hw.get 0 rfl
  rcases ho.2 with ⟨h1, h2⟩ | ⟨g', cap, cur, hvv, hbase, hh, hle, hmax, hcs, htake⟩
  · injection h1 with e1; cases e1
  · injection hvv with e1 e2 e3
    cases e1
    subst e3
    refine ⟨fun j hj => ?_, (Array.getElem?_eq_some_iff.1 hh).1⟩
    rw [flatK_flat] at hj ⊢
    have hl := length_flatMap_enc C xs
    have hj' : j < (xs.flatMap C.enc).length := by simpa using hj
    have e : cur[j]? = some (xs.flatMap C.enc)[j] := by
      have h1 : (cur.toList.take (xs.length * C.sz))[j]? = cur.toList[j]? := by rw [List.getElem?_take, if_pos (by omega)]
      rw [htake, List.getElem?_eq_getElem hj'] at h1
      rw [← Array.getElem?_toList, ← h1]
    constructor
    · rw [getElem!_pos _ j (by simpa using hj')]
      simp only [World.cell?, hh, Nat.zero_add, e, id]
      simp
    · simp [World.frozen?, hh]
theorem putCells_toList [Inhabited α] {cur : Array Value} (hn : xs.length * C.sz ≤ cur.size) : (putCells id 0 (flatK C.enc C.sz xs.toArray) cur).toList.take (xs.length * C.sz) = xs.flatMap C.enc := by
  have hl := length_flatMap_enc C xs
  rw [flatK_flat]
  apply List.ext_getElem
  · simp [putCells, hl]; omega
  · intro j h1 h2
    simp only [List.getElem_take, Array.getElem_toList, putCells, Array.getElem_mapIdx]
    rw [if_pos ⟨Nat.zero_le _, by simpa using h2⟩, Nat.sub_zero, getElem!_pos _ j (by simpa using h2)]
    simp
theorem St.sortedK [Inhabited α] (hw : St w0 (Own T C (some ⟨g, 0, none⟩) c xs :: H) w) (hl : ys.length = xs.length) (n : Nat) (os : Array Obj) :
    St w0 (Own T C (some ⟨g, 0, none⟩) c ys :: H) (sortWorldK C.enc C.sz w g 0 n ys.toArray os) := by
  refine hw.upd ?_
  rintro F ⟨ho, hF⟩ hb
  rcases ho.2 with ⟨h1, h2⟩ | ⟨g', cap, cur, hvv, hbase, hh, hle, hmax, hcs, htake⟩
  · injection h1 with e1; cases e1
  · injection hvv with e1 e2 e3
    cases e1
    subst e3
    have hgs : g < w.heap.size := (Array.getElem?_eq_some_iff.1 hh).1
    have hn : xs.length * C.sz ≤ cur.size := by rw [hcs]; exact Nat.mul_le_mul_right _ hle
    have heap : ∀ k, k < w.heap.size → (sortWorldK C.enc C.sz w g 0 n ys.toArray os).heap[k]? = if g = k then (w.heap[k]?).map (onCells (putCells id 0 (flatK C.enc C.sz ys.toArray))) else w.heap[k]? := by
      intro k hk
      unfold sortWorldK Go.Sort.grow putRowK putRow mapBlock Go.Sort.ahead
      simp only
      rw [Array.getElem?_append_left (by simpa using hk), Array.getElem?_modify]
    have hsize : (sortWorldK C.enc C.sz w g 0 n ys.toArray os).heap.size = w.heap.size + os.size := by
      unfold sortWorldK Go.Sort.grow putRowK putRow mapBlock Go.Sort.ahead
      simp
    refine ⟨⟨rfl, rfl, rfl, by omega, fun k hk hk' => ?_, Nat.le_add_right _ _⟩, F, ⟨⟨?_, .inr ⟨g, c, putCells id 0 (flatK C.enc C.sz ys.toArray) cur, by rw [hl], Nat.zero_le _, ?_, by omega, hmax, ?_, ?_⟩⟩, ?_⟩, ?_⟩
    · rw [heap k hk, if_neg (fun e => hk' ((hF k).2 (by subst e; rfl)))]
    · rw [length_flatMap_enc]
    · rw [heap g hgs, if_pos rfl, hh]; rfl
    · simp [putCells, hcs]
    · exact putCells_toList (by rw [hl]; exact hn)
    · intro k
      rw [hF k]
      simp [Value.ownBlock]
    · intro k hk
      exact ⟨.inl hk, by have := (hb k hk).2; omega⟩
/-- A world that has only grown. -/
theorem Bel.grown (h : Bel w.heap.size w w') : ∃ q os', w' = Go.Sort.grow (w.drewN q) os' := by
  refine ⟨w'.drawn - w.drawn, w'.heap.extract w.heap.size w'.heap.size, ?_⟩
  have hd := h.drawn
  have hs := h.size
  have e : w'.heap = w.heap ++ w'.heap.extract w.heap.size w'.heap.size := by
    apply Array.ext_getElem?
    intro k
    by_cases hk : k < w.heap.size
    · rw [Array.getElem?_append_left hk, h.block k hk]
    · rw [Array.getElem?_append_right (by omega), Array.getElem?_extract]
      by_cases h2 : k < w'.heap.size
      · rw [if_pos (by omega)]
        congr 1
        omega
      · rw [Array.getElem?_eq_none (by omega), if_neg (by omega)]
  cases w'
  cases w
  simp only [Go.Sort.grow, World.drewN] at *
  have h1 := h.os
  have h2 := h.tape
  have h3 := h.output
  simp only at h1 h2 h3 hd
  subst h1 h2 h3
  rw [← e]
  congr 1
  omega
/-- What a comparison hands back. -/
def CmpD (P : Program) (f : Nat) (cb : Array Value) (enc : α → Value) (cf : α → α → Int) (W : World) : Prop :=
  ∀ x y : α, Does P f ([enc x, enc y] ++ cb.toList) W [] (fun v => [.pur (v = .int .i64 (cf x y))])
theorem sorted_pair [Inhabited α] {lt : α → α → Bool} {d : Array α} (h : SortedIn lt 0 d.size d) : d.toList.Pairwise fun x y => lt y x = false := by
  rw [List.pairwise_iff_getElem]
  intro i j hi hj hij
  have h1 := h i j (Nat.zero_le _) hij (by simpa using hj)
  rw [getElem!_pos d i (by simpa using hi), getElem!_pos d j (by simpa using hj)] at h1
  simpa using h1
theorem permIn_perm [Inhabited α] {d d' : Array α} (h : PermIn 0 d.size d d') : d'.toList.Perm d.toList := by
  obtain ⟨h1, _, h3⟩ := h
  have e1 : d.extract 0 d.size = d := by simp
  have e2 : d'.extract 0 d.size = d' := by rw [← h1]; simp
  rwa [e1, e2] at h3
/-- slices.SortFunc at elements of several cells. -/
theorem sortK_does [Inhabited α] {ρ : Go.Shelf.Ren} (L : Go.Proofs.SlLaysF0.n6 P ρ) (aE : ∀ w, (isAgg (ρ.t 24)).run P w = .ok true w) (zE : ∀ w, (Go.sizeOf (ρ.t 24)).run P w = .ok C.sz w) (cf : α → α → Int) (hO : SWO (ltOf cf)) {f : Nat} {cb : Array Value} (hok : CallOk P f)
    (hcmp : ∀ zs W, St w0 (Own T C A c zs :: H) W → CmpD P f cb (fun x => .agg (C.enc x).toArray) cf W) (hlen : xs.length < 4611686018427387904) :
    Does P (ρ.f 6) [.slice A xs.length c, .func (.func f) #[] cb] w0 (Own T C A c xs :: H) (fun v => [.exi fun ys : List α => .sep (.pur (v = .tuple #[] ∧ ys.Perm xs ∧ ys.Pairwise fun x y => ¬ cf y x < 0)) (Own T C A c ys)] ++ H) := by
  intro w hw
  rcases own_cases hw with ⟨rfl, rfl, rfl⟩ | ⟨g, rfl⟩
  · refine (Go.Proofs.AnyF.slices_SortFunc_none L none 0 _ w).mono ?_
    rintro e w' ⟨rfl, rfl⟩
    exact ⟨_, rfl, St.mkExi [] (St.unsep (St.addPur ⟨rfl, List.Perm.refl _, List.Pairwise.nil⟩ hw))⟩
  · obtain ⟨hH, hg⟩ := own_holdsK hw
    have eg : ∀ args w, (callFunc f args).run P w = .ok (.enter f args) w := fun args w => run_callFunc hok args w
    have hC : CmpLays P f cb C.enc C.sz cf g 0 xs.toArray.size w := by
      intro m os dk hs x y
      have hs' : dk.toList.length = xs.length := by simpa using hs
      have h1 := St.sortedK hw hs' m os
      have h2 := hcmp _ _ h1 x y _ (St.start _)
      have e : ([Value.agg (C.enc x).toArray, Value.agg (C.enc y).toArray] ++ cb.toList).toArray = #[.agg (C.enc x).toArray, .agg (C.enc y).toArray] ++ cb := by
        apply Array.ext'
        simp
      rw [e] at h2
      refine h2.mono ?_
      rintro e w' ⟨v, rfl, hs3⟩
      exact ⟨by rw [hs3.pur.1], hs3.below.grown⟩
    have h := Go.Proofs.AnyQ.slices_SortFunc L C.sz aE zE C.enc C.len C.one cf hO f cb g 0 c xs.toArray w eg hC hH hg (by simpa using hlen)
    have e0 : xs.toArray.size = xs.length := by simp
    rw [e0] at h
    refine h.mono ?_
    rintro e w' ⟨rfl, d', n, os, hp, hs, rfl⟩
    rw [← e0] at hp hs
    have hsz : d'.size = xs.toArray.size := hp.1
    have hp' := permIn_perm hp
    rw [← hsz] at hs
    have hs' := sorted_pair hs
    refine ⟨_, rfl, St.mkExi d'.toList (St.unsep (St.addPur ⟨rfl, by simpa using hp', hs'.imp fun h => ?_⟩ (St.sortedK hw (by simpa using hsz) n os)))⟩
    simpa [ltOf] using h
end
end Go.Vc
/-
  The calculus, part 21: Go's own sorting of an owned row of one cell an element, and of an array of numbers.
-/
namespace Go.Vc
open Go Go.RowKit
open Go.Proofs (sortWorld CmpLays1 ltOf)
open Go.Sort (putCells putRow mapBlock onCells PermIn SortedIn SWO Holds)
section
variable {P : Program} {α : Type} {w0 w w' : World} {H : List Assn} {T c g : Nat} {A : Option Addr} {C : Cod α} {xs ys : List α} {enc : α → Value}
theorem flat1 (hC : ∀ x, C.enc x = [enc x]) : ∀ xs : List α, xs.flatMap C.enc = xs.map enc := by
  intro xs
  induction xs with
  | nil => rfl
  | cons x xs ih => rw [List.flatMap_cons, List.map_cons, hC, ih]; rfl
theorem own_holds1 [Inhabited α] (hC : ∀ x, C.enc x = [enc x]) (hz : C.sz = 1) (hw : St w0 (Own T C (some ⟨g, 0, none⟩) c xs :: H) w) : Holds enc w g 0 xs.toArray ∧ g < w.heap.size := by
  obtain ⟨F, ho, hF⟩ := hw.get 0 rfl
  rcases ho.2 with ⟨h1, h2⟩ | ⟨g', cap, cur, hvv, hbase, hh, hle, hmax, hcs, htake⟩
  · injection h1 with e1; cases e1
  · injection hvv with e1 e2 e3
    cases e1
    subst e3
    refine ⟨fun j hj => ?_, (Array.getElem?_eq_some_iff.1 hh).1⟩
    have hj' : j < xs.length := by simpa using hj
    rw [flat1 hC, hz, Nat.mul_one] at htake
    have e : cur[j]? = some (enc xs[j]) := by
      have h1 : (cur.toList.take xs.length)[j]? = cur.toList[j]? := by rw [List.getElem?_take, if_pos (by omega)]
      rw [htake, List.getElem?_map, List.getElem?_eq_getElem hj'] at h1
      rw [← Array.getElem?_toList, ← h1]
      rfl
    constructor
    · rw [getElem!_pos _ j hj]
      simp only [World.cell?, hh, Nat.zero_add, e]
      simp
    · simp [World.frozen?, hh]
theorem putCells1 [Inhabited α] {cur : Array Value} (hn : xs.length ≤ cur.size) : (putCells enc 0 xs.toArray cur).toList.take xs.length = xs.map enc := by
  apply List.ext_getElem
  · simp [putCells]; omega
  · intro j h1 h2
    simp only [List.getElem_take, Array.getElem_toList, putCells, Array.getElem_mapIdx]
    rw [if_pos ⟨Nat.zero_le _, by simpa using h2⟩, Nat.sub_zero, getElem!_pos _ j (by simpa using h2)]
    simp
theorem sort_heap [Inhabited α] {enc : α → Value} {n : Nat} {d : Array α} {os : Array Obj} {k : Nat} (hk : k < w.heap.size) : (Go.Sort.grow (putRow enc (Go.Sort.ahead w n) g 0 d) os).heap[k]? = if g = k then (w.heap[k]?).map (onCells (putCells enc 0 d)) else w.heap[k]? := by
  unfold Go.Sort.grow putRow mapBlock Go.Sort.ahead
  simp only
  rw [Array.getElem?_append_left (by simpa using hk), Array.getElem?_modify]
theorem sort_size [Inhabited α] {enc : α → Value} {n : Nat} {d : Array α} {os : Array Obj} : (Go.Sort.grow (putRow enc (Go.Sort.ahead w n) g 0 d) os).heap.size = w.heap.size + os.size := by
  unfold Go.Sort.grow putRow mapBlock Go.Sort.ahead
  simp
theorem St.sorted1 [Inhabited α] (hC : ∀ x, C.enc x = [enc x]) (hz : C.sz = 1) (hw : St w0 (Own T C (some ⟨g, 0, none⟩) c xs :: H) w) (hl : ys.length = xs.length) (n : Nat) (os : Array Obj) :
    St w0 (Own T C (some ⟨g, 0, none⟩) c ys :: H) (Go.Sort.grow (putRow enc (Go.Sort.ahead w n) g 0 ys.toArray) os) := by
  refine hw.upd ?_
  rintro F ⟨ho, hF⟩ hb
  rcases ho.2 with ⟨h1, h2⟩ | ⟨g', cap, cur, hvv, hbase, hh, hle, hmax, hcs, htake⟩
  · injection h1 with e1; cases e1
  · injection hvv with e1 e2 e3
    cases e1
    subst e3
    have hgs : g < w.heap.size := (Array.getElem?_eq_some_iff.1 hh).1
    rw [hz, Nat.mul_one] at hcs
    refine ⟨⟨rfl, rfl, rfl, by rw [sort_size]; omega, fun k hk hk' => ?_, Nat.le_add_right _ _⟩, F, ⟨⟨?_, .inr ⟨g, c, putCells enc 0 ys.toArray cur, by rw [hl], Nat.zero_le _, ?_, by omega, hmax, ?_, ?_⟩⟩, ?_⟩, ?_⟩
    · rw [sort_heap hk, if_neg (fun e => hk' ((hF k).2 (by subst e; rfl)))]
    · rw [length_flatMap_enc]
    · rw [sort_heap hgs, if_pos rfl, hh]; rfl
    · simp [putCells, hcs, hz]
    · rw [hz, Nat.mul_one, flat1 hC]
      exact putCells1 (by omega)
    · intro k
      rw [hF k]
      simp [Value.ownBlock]
    · intro k hk
      exact ⟨.inl hk, by have := (hb k hk).2; rw [sort_size]; omega⟩
/-- slices.SortFunc at elements of one cell, of which only some can be told apart by the comparison: those with p. -/
theorem sort1_does {ρ : Go.Shelf.Ren} (L : Go.Proofs.SlLaysF.n6 P ρ) (hC : ∀ x, C.enc x = [enc x]) (hz : C.sz = 1) (h1 : ∀ x, (enc x).oneCell' = true) (p : α → Prop) (hp : ∀ x ∈ xs, p x) (cf : {x // p x} → {x // p x} → Int) (hO : SWO (ltOf cf)) {f : Nat} {cb : Array Value} (hok : CallOk P f)
    (hcmp : ∀ zs W, (∀ x ∈ zs, p x) → St w0 (Own T C A c zs :: H) W → CmpD P f cb (fun x : {x // p x} => enc x.1) cf W) (hlen : xs.length < 4611686018427387904) :
    Does P (ρ.f 6) [.slice A xs.length c, .func (.func f) #[] cb] w0 (Own T C A c xs :: H) (fun v => [.exi fun ys : List α => .sep (.pur (v = .tuple #[] ∧ ys.Perm xs ∧ ys.Pairwise fun x y => ∀ hx : p x, ∀ hy : p y, ¬ cf ⟨y, hy⟩ ⟨x, hx⟩ < 0)) (Own T C A c ys)] ++ H) := by
  intro w hw
  have L0 : Go.Proofs.SlLaysF0.n6 P ρ := { L with }
  rcases own_cases hw with ⟨rfl, rfl, rfl⟩ | ⟨g, rfl⟩
  · refine (Go.Proofs.AnyF.slices_SortFunc_none L0 none 0 _ w).mono ?_
    rintro e w' ⟨rfl, rfl⟩
    exact ⟨_, rfl, St.mkExi [] (St.unsep (St.addPur ⟨rfl, List.Perm.refl _, List.Pairwise.nil⟩ hw))⟩
  · cases xs with
    | nil =>
      refine (Go.Proofs.AnyF.slices_SortFunc_none L0 (some ⟨g, 0, none⟩) c _ w).mono ?_
      rintro e w' ⟨rfl, rfl⟩
      exact ⟨_, rfl, St.mkExi [] (St.unsep (St.addPur ⟨rfl, List.Perm.refl _, List.Pairwise.nil⟩ hw))⟩
    | cons x0 xs0 =>
      generalize hxs : x0 :: xs0 = xs at *
      let _ : Inhabited α := ⟨x0⟩
      let _ : Inhabited {x // p x} := ⟨⟨x0, hp x0 (by rw [← hxs]; exact List.mem_cons_self ..)⟩⟩
      obtain ⟨ex, hex⟩ : ∃ ex : List {x // p x}, ex.map (·.1) = xs := ⟨xs.attach.map fun y => ⟨y.1, hp y.1 y.2⟩, by simp⟩
      have hexl : ex.length = xs.length := by rw [← hex]; simp
      obtain ⟨hH, hg⟩ := own_holds1 hC hz hw
      have hH' : Holds (fun x : {x // p x} => enc x.1) w g 0 ex.toArray := by
        intro j hj
        have hj1 : j < ex.length := by simpa using hj
        have hj2 : j < xs.length := by omega
        have h2 := hH j (by simpa using hj2)
        rw [getElem!_pos _ j (by simpa using hj2)] at h2
        rw [getElem!_pos _ j hj]
        have e : (ex[j]).1 = xs[j] := by subst hex; simp
        simpa [e] using h2
      have eg : ∀ args w, (callFunc f args).run P w = .ok (.enter f args) w := fun args w => run_callFunc hok args w
      have key : ∀ (m : Nat) (os : Array Obj) (dk : Array {x // p x}), putRow (fun x : {x // p x} => enc x.1) (Go.Sort.ahead w m) g 0 dk = putRow enc (Go.Sort.ahead w m) g 0 (dk.toList.map (·.1)).toArray := by
        intro m os dk
        unfold putRow
        congr 1
        funext cur
        unfold putCells
        congr 1
        funext k x
        by_cases hk : 0 ≤ k ∧ k < 0 + dk.size
        · rw [if_pos hk, if_pos (by simpa using hk)]
          rw [getElem!_pos _ _ (by simpa using hk.2), getElem!_pos _ _ (by simpa using hk.2)]
          simp
        · rw [if_neg hk, if_neg (by simpa using hk)]
      have hCL : CmpLays1 P f cb (fun x : {x // p x} => enc x.1) cf g 0 ex.toArray.size w := by
        intro m os dk hs x y
        have hs' : (dk.toList.map (·.1)).length = xs.length := by simpa [hexl] using hs
        have h1 := St.sorted1 hC hz hw hs' m os
        have e0 : sortWorld (fun x : {x // p x} => enc x.1) w g 0 m dk os = Go.Sort.grow (putRow enc (Go.Sort.ahead w m) g 0 (dk.toList.map (·.1)).toArray) os := by
          unfold sortWorld
          rw [key m os dk]
        rw [← e0] at h1
        have h2 := hcmp _ _ (fun z hz' => by obtain ⟨u, _, rfl⟩ := List.mem_map.1 hz'; exact u.2) h1 x y _ (St.start _)
        have e : ([enc x.1, enc y.1] ++ cb.toList).toArray = #[enc x.1, enc y.1] ++ cb := by
          apply Array.ext'
          simp
        rw [e] at h2
        refine h2.mono ?_
        rintro e w' ⟨v, rfl, hs3⟩
        exact ⟨by rw [hs3.pur.1], hs3.below.grown⟩
      have h := Go.Proofs.Any.slices_SortFunc L (fun x : {x // p x} => enc x.1) (fun x => h1 x.1) cf hO f cb g 0 c ex.toArray w eg hCL hH' hg (by simpa [hexl] using hlen)
      have e0 : ex.toArray.size = xs.length := by simp [hexl]
      rw [e0] at h
      refine h.mono ?_
      rintro e w' ⟨rfl, d', n, os, hpm, hs, rfl⟩
      rw [← e0] at hpm hs
      have hsz : d'.size = ex.toArray.size := hpm.1
      have hp' := permIn_perm hpm
      rw [← hsz] at hs
      have hs' := sorted_pair hs
      have e1 : sortWorld (fun x : {x // p x} => enc x.1) w g 0 n d' os = Go.Sort.grow (putRow enc (Go.Sort.ahead w n) g 0 (d'.toList.map (·.1)).toArray) os := by
        unfold sortWorld
        rw [key n os d']
      rw [e1]
      have hfin := St.sorted1 (ys := d'.toList.map (·.1)) hC hz hw (by simpa [hexl] using hsz) n os
      have hperm : (d'.toList.map (·.1)).Perm xs := by
        have := hp'.map (·.1)
        rw [show (ex.toArray).toList = ex from rfl, hex] at this
        exact this
      have hsrt : (d'.toList.map (·.1)).Pairwise fun x y => ∀ hx : p x, ∀ hy : p y, ¬ cf ⟨y, hy⟩ ⟨x, hx⟩ < 0 := by
        rw [List.pairwise_map]
        refine hs'.imp fun {a b} h hx hy => ?_
        simpa [ltOf] using h
      generalize d'.toList.map (·.1) = ys at hfin hperm hsrt
      generalize Go.Sort.grow (putRow enc (Go.Sort.ahead w n) g 0 ys.toArray) os = w2 at hfin
      exact ⟨_, rfl, St.mkExi ys (St.unsep (St.addPur ⟨rfl, hperm, hsrt⟩ hfin))⟩
/-- Numbers in order. -/
def sortI (xs : List Int) : List Int := xs.mergeSort fun x y => decide (x ≤ y)
theorem sortI_len (xs : List Int) : (sortI xs).length = xs.length := by unfold sortI; exact List.length_mergeSort _
theorem sortI_perm (xs : List Int) : (sortI xs).Perm xs := List.mergeSort_perm _ _
theorem sortI_sorted (xs : List Int) : (sortI xs).Pairwise (· ≤ ·) := by
  have h := List.pairwise_mergeSort (le := fun x y : Int => decide (x ≤ y)) (by intro a b c; simp; omega) (by intro a b; simp; omega) xs
  exact h.imp (by intro a b h; simpa using h)
theorem sortI_unique {xs ys : List Int} (hp : ys.Perm xs) (hs : ys.Pairwise (· ≤ ·)) : ys = sortI xs :=
  (hp.trans (sortI_perm xs).symm).eq_of_pairwise (fun a b _ _ h1 h2 => by omega) hs (sortI_sorted xs)
/-- slices.Sort. -/
theorem sortI_does {ρ : Go.Shelf.Ren} (L : Go.Proofs.SlLaysM.n5 P ρ) {xs : List Int} (hlen : xs.length < 4611686018427387904) :
    Does P (ρ.f 5) [.slice A xs.length c] w0 (Own T I64 A c xs :: H) (fun v => [.sep (.pur (v = .tuple #[])) (Own T I64 A c (sortI xs))] ++ H) := by
  intro w hw
  rcases own_cases hw with ⟨rfl, rfl, rfl⟩ | ⟨g, rfl⟩
  · refine (Go.Proofs.AnyM.slices_Sort_int_none L none 0 w).mono ?_
    rintro e w' ⟨rfl, rfl⟩
    have e : sortI [] = [] := by simp [sortI]
    rw [e]
    exact ⟨_, rfl, St.unsep (St.addPur rfl hw)⟩
  · obtain ⟨hH, hg⟩ := own_holds1 (enc := Value.int .i64) (fun _ => rfl) rfl hw
    refine (Go.Proofs.AnyM.slices_Sort_int L g 0 c xs w hH hg hlen).mono ?_
    rintro e w' ⟨rfl, n, os, rfl⟩
    exact ⟨_, rfl, St.unsep (St.addPur rfl (St.sorted1 (enc := Value.int .i64) (fun _ => rfl) rfl hw (sortI_len xs) n os))⟩
/-- .. of an array. -/
theorem sortI_blk {ρ : Go.Shelf.Ren} (L : Go.Proofs.SlLaysM.n5 P ρ) {xs : List Int} (hlen : xs.length < 4611686018427387904) :
    Does P (ρ.f 5) [.slice (some ⟨g, 0, none⟩) xs.length c] w0 (Blk g (xs.map (Value.int .i64)) T :: H) (fun v => [.sep (.pur (v = .tuple #[])) (Blk g ((sortI xs).map (Value.int .i64)) T)] ++ H) := by
  intro w hw
  have hh := Blk.heap hw (i := 0) rfl
  have hg : g < w.heap.size := (Array.getElem?_eq_some_iff.1 hh).1
  have hH : Holds (Value.int .i64) w g 0 xs.toArray := by
    intro j hj
    have hj' : j < xs.length := by simpa using hj
    rw [getElem!_pos _ j hj]
    constructor
    · simp [World.cell?, hh, hj']
    · simp [World.frozen?, hh]
  refine (Go.Proofs.AnyM.slices_Sort_int L g 0 c xs w hH hg hlen).mono ?_
  rintro e w' ⟨rfl, n, os, rfl⟩
  refine ⟨_, rfl, St.unsep (St.addPur rfl (hw.upd ?_))⟩
  rintro F ⟨h0, hF⟩ hb
  have hl := sortI_len xs
  refine ⟨⟨rfl, rfl, rfl, by rw [sort_size]; omega, fun k hk hk' => ?_, Nat.le_add_right _ _⟩, F, ⟨?_, hF⟩, ?_⟩
  · rw [sort_heap hk, if_neg (fun e => hk' ((hF k).2 e.symm))]
  · show (Go.Sort.grow _ os).heap[g]? = _
    rw [sort_heap hg, if_pos rfl, hh]
    show some (Obj.cells _ _ _) = _
    congr 2
    have := putCells1 (xs := sortI xs) (enc := Value.int .i64) (cur := (xs.map (Value.int .i64)).toArray) (by simp [hl])
    rw [List.take_of_length_le (by simp [putCells, hl])] at this
    exact Array.ext' (by rw [← this]; rfl)
  · intro k hk
    exact ⟨.inl hk, by have := (hb k hk).2; rw [sort_size]; omega⟩
end
end Go.Vc
/-
  Plain words: three numbers in order; systems that are turned.
-/
namespace Go.Vc
open Go Go.RowKit
def lo3 (a b c : Int) : Int := min (min a b) c
def hi3 (a b c : Int) : Int := max (max a b) c
def mi3 (a b c : Int) : Int := a + b + c - lo3 a b c - hi3 a b c
/-- The block of three points. -/
def bk3 (a b c : Int) : B3 := (lo3 a b c, mi3 a b c, hi3 a b c)
theorem three_eq {a b c x y z : Int} (h1 : a = x) (h2 : b = y) (h3 : c = z) : [a, b, c] = [x, y, z] := by rw [h1, h2, h3]
theorem sortI_three (a b c : Int) : sortI [a, b, c] = [lo3 a b c, mi3 a b c, hi3 a b c] := by
  symm
  apply sortI_unique
  · unfold mi3 lo3 hi3
    by_cases h1 : a ≤ b <;> by_cases h2 : b ≤ c <;> by_cases h3 : a ≤ c
    · have e : [min (min a b) c, a + b + c - min (min a b) c - max (max a b) c, max (max a b) c] = [a, b, c] := three_eq (by omega) (by omega) (by omega)
      rw [e]
    · exfalso; omega
    · have e : [min (min a b) c, a + b + c - min (min a b) c - max (max a b) c, max (max a b) c] = [a, c, b] := three_eq (by omega) (by omega) (by omega)
      rw [e]
      exact (List.Perm.swap _ _ _).cons _
    · have e : [min (min a b) c, a + b + c - min (min a b) c - max (max a b) c, max (max a b) c] = [c, a, b] := three_eq (by omega) (by omega) (by omega)
      rw [e]
      exact (List.Perm.swap _ _ _).trans ((List.Perm.swap _ _ _).cons _)
    · have e : [min (min a b) c, a + b + c - min (min a b) c - max (max a b) c, max (max a b) c] = [b, a, c] := three_eq (by omega) (by omega) (by omega)
      rw [e]
      exact List.Perm.swap _ _ _
    · have e : [min (min a b) c, a + b + c - min (min a b) c - max (max a b) c, max (max a b) c] = [b, c, a] := three_eq (by omega) (by omega) (by omega)
      rw [e]
      exact ((List.Perm.swap _ _ _).cons _).trans (List.Perm.swap _ _ _)
    · exfalso; omega
    · have e : [min (min a b) c, a + b + c - min (min a b) c - max (max a b) c, max (max a b) c] = [c, b, a] := three_eq (by omega) (by omega) (by omega)
      rw [e]
      exact (List.Perm.swap _ _ _).trans (((List.Perm.swap _ _ _).cons _).trans (List.Perm.swap _ _ _))
  · simp only [List.pairwise_cons, List.mem_cons, List.not_mem_nil, or_false, forall_eq_or_imp, forall_eq, List.Pairwise.nil, and_true]
    unfold mi3 lo3 hi3
    refine ⟨⟨?_, ?_⟩, ?_, ?_⟩ <;> first | omega | (intro _ h; cases h)
section
variable {P : Program} {w0 w : World} {H : List Assn} {T c g : Nat}
theorem sort3_blk {ρ : Go.Shelf.Ren} (L : Go.Proofs.SlLaysM.n5 P ρ) (x y z : Int) :
    Does P (ρ.f 5) [.slice (some ⟨g, 0, none⟩) 3 c] w0 (Blk g [.int .i64 x, .int .i64 y, .int .i64 z] T :: H) (fun v => [.sep (.pur (v = .tuple #[])) (Blk g [.int .i64 (lo3 x y z), .int .i64 (mi3 x y z), .int .i64 (hi3 x y z)] T)] ++ H) := by
  have h := sortI_blk (w0 := w0) (H := H) (T := T) (c := c) (g := g) L (xs := [x, y, z]) (by simp)
  rw [sortI_three] at h
  exact h
end
theorem swoB : Go.Sort.SWO (Go.Proofs.ltOf fun x y : B3 => cmpL (bl x) (bl y)) := by
  have e : ∀ x y : B3, Go.Proofs.ltOf (fun x y : B3 => cmpL (bl x) (bl y)) x y = decide (B3.lt x y) := fun x y => by
    unfold Go.Proofs.ltOf
    exact decide_eq_decide.2 (cmpL_bl x y)
  refine ⟨fun x => ?_, fun x y z h1 h2 => ?_, fun x y z h1 h2 => ?_⟩
  · rw [e]; exact decide_eq_false (lt_irrefl x)
  · rw [e] at *
    simp only [decide_eq_true_eq] at *
    unfold B3.lt at *
    omega
  · rw [e] at *
    simp only [decide_eq_false_iff_not] at *
    unfold B3.lt at *
    omega
theorem srt_of {ys : List B3} (h : ys.Pairwise fun x y => ¬ cmpL (bl y) (bl x) < 0) : SrtB ys := h.imp fun {a b} h => by
  unfold leB
  rwa [cmpL_bl] at h
/-- A block, renumbered. -/
def renB (p : List Int) (b : B3) : B3 := bk3 (p.getD b.1.toNat 0) (p.getD b.2.1.toNat 0) (p.getD b.2.2.toNat 0)
theorem getD_at {p : List Int} {i : Nat} (h : i < p.length) : p.getD i 0 = p[i] := by simp [List.getD, h]
/-- The points, turned. -/
def turnL (v k : Int) (n : Nat) : List Int := (List.range n).map fun a : Nat => ((a : Int) + k) % v
theorem turnL_len (v k : Int) (n : Nat) : (turnL v k n).length = n := by simp [turnL]
theorem turnL_snoc (v k : Int) (n : Nat) : turnL v k (n + 1) = turnL v k n ++ [((n : Int) + k) % v] := by simp [turnL, List.range_succ]
theorem turnL_mem {v k : Int} {n : Nat} (hv : 0 < v) {q : Int} (h : q ∈ turnL v k n) : 0 ≤ q ∧ q < v := by
  obtain ⟨a, _, rfl⟩ := List.mem_map.1 h
  exact ⟨Int.emod_nonneg _ (by omega), Int.emod_lt_of_pos _ hv⟩
/-- The blocks, turned, in some order. -/
def turnB (v k : Int) (bs : List B3) : List B3 := bs.map (renB (turnL v k v.toNat))
theorem good_len {v : Int} {bs : List B3} {k : Int} (h : STS v bs) : ∀ b ∈ bs, good ((turnL v k v.toNat).length : Int) b := fun b hb => by
  rw [turnL_len]
  have := h.good b hb
  have h1 := h.lo
  rwa [Int.toNat_of_nonneg (by omega)]
/-- What both TurnSystem return. -/
def TSR (v : Int) (bs : List B3) (k : Int) (r : List B3) : Prop := if STS v bs ∧ 0 ≤ k ∧ k ≤ v - 1 then r.Perm (turnB v k bs) ∧ SrtB r else r = []
theorem TSR.unique {v : Int} {bs : List B3} {k : Int} {r s : List B3} (h : TSR v bs k r) (g : TSR v bs k s) : r = s := by
  unfold TSR at *
  split at h
  · rename_i hc
    rw [if_pos hc] at g
    exact srtB_unique h.2 g.2 (h.1.trans g.1.symm)
  · rename_i hc
    rw [if_neg hc] at g
    rw [h, g]
theorem TSR.len {v : Int} {bs : List B3} {k : Int} {r : List B3} (h : TSR v bs k r) : r.length ≤ bs.length := by
  unfold TSR at h
  split at h
  · rw [h.1.length_eq]; simp [turnB]
  · simp [h]
/-- No block is in common with the turned ones. -/
def apT (v : Int) (bs : List B3) (k : Int) : Prop := ∀ b ∈ bs, b ∉ turnB v k bs
instance (v : Int) (bs : List B3) (k : Int) : Decidable (apT v bs k) := inferInstanceAs (Decidable (∀ b ∈ bs, b ∉ turnB v k bs))
theorem apT_iff {v : Int} {bs : List B3} {k : Int} {r : List B3} (h : r.Perm (turnB v k bs)) : (bs.filter fun b => decide (b ∈ r)).length = 0 ↔ apT v bs k := by
  rw [List.length_eq_zero_iff, List.filter_eq_nil_iff]
  unfold apT
  simp only [decide_eq_true_eq, h.mem_iff]
/-- The least turn that is apart, and the code: what both MateByTurning return. -/
def MTR (v : Int) (bs : List B3) (r code : Int) : Prop :=
  (¬ STS v bs → r = 0 ∧ code = 1) ∧ (STS v bs → (1 ≤ r ∧ r < v ∧ apT v bs r ∧ (∀ j, 1 ≤ j → j < r → ¬ apT v bs j) ∧ code = 0) ∨ ((∀ j, 1 ≤ j → j < v → ¬ apT v bs j) ∧ r = 0 ∧ code = 4))
theorem MTR.unique {v : Int} {bs : List B3} {r c s d : Int} (h : MTR v bs r c) (g : MTR v bs s d) : r = s ∧ c = d := by
  by_cases hS : STS v bs
  · rcases h.2 hS with ⟨a1, a2, a3, a4, a5⟩ | ⟨a1, a2, a3⟩ <;> rcases g.2 hS with ⟨b1, b2, b3, b4, b5⟩ | ⟨b1, b2, b3⟩
    · have e : r = s := by
        by_cases h1 : r < s
        · exact absurd a3 (b4 r a1 h1)
        · by_cases h2 : s < r
          · exact absurd b3 (a4 s b1 h2)
          · omega
      exact ⟨e, by omega⟩
    · exact absurd a3 (b1 r a1 a2)
    · exact absurd b3 (a1 s b1 b2)
    · omega
  · have := h.1 hS; have := g.1 hS; omega
end Go.Vc
