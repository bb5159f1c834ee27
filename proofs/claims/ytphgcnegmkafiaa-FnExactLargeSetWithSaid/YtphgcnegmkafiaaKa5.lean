/-
  The calculus and plain words, part 5.
-/
import Derived.Test.YtphgcnegmkafiaaKa4
import Derived.Shelf.SlSortCmp.NoneTotal
import Derived.Shelf.SortM.Plain
import Derived.Shelf.SortM.SortNone
set_option linter.unusedVariables false
set_option linter.unusedSimpArgs false
/-
  Plain words: the number of a system; what is common.
-/
namespace Go.Vc
def few9 (v : Int) : Prop := v = 3 ∨ v = 7 ∨ v = 9
instance (v : Int) : Decidable (few9 v) := inferInstanceAs (Decidable (_ ∨ _))
/-- Full, with few points. -/
def Few (v : Int) (bs : List B3) : Prop := few9 v ∧ 6 * (bs.length : Int) = v * (v - 1)
instance (v : Int) (bs : List B3) : Decidable (Few v bs) := inferInstanceAs (Decidable (_ ∧ _))
/-- All systems of few points. -/
noncomputable def allN (v : Int) : List (List B3) := compM 40 v.toNat 0
theorem few_len {v : Int} (h : few9 v) : (compM 40 v.toNat 0).length ≤ 1000 ∧ leftN v.toNat 0 ≤ 40 ∧ v.toNat ≤ 15 ∧ 0 ≤ v := by
  rcases h with rfl | rfl | rfl
  · exact ⟨by rw [cntM_eq]; show cntM 40 3 0 ≤ 1000; rw [cnt3]; decide, by show leftN 3 0 ≤ 40; rw [left3]; decide, by decide, by decide⟩
  · exact ⟨by rw [cntM_eq]; show cntM 40 7 0 ≤ 1000; rw [cnt7]; decide, by show leftN 7 0 ≤ 40; rw [left7]; decide, by decide, by decide⟩
  · exact ⟨by rw [cntM_eq]; show cntM 40 9 0 ≤ 1000; rw [cnt9]; decide, by show leftN 9 0 ≤ 40; rw [left9]; decide, by decide, by decide⟩
theorem sts_mul {v : Int} {bs : List B3} (h : STS v bs) : 0 ≤ v * (v - 1) ∧ v * (v - 1) ≤ 1000000 := by
  have h1 := h.lo
  have h2 := h.hi
  refine ⟨Int.mul_nonneg (by omega) (by omega), ?_⟩
  have := Int.mul_le_mul h2 (show v - 1 ≤ 15 by omega) (by omega) (by omega)
  omega
theorem few_left {v : Int} {bs : List B3} (h : Few v bs) : 3 * bs.length = leftN v.toNat 0 := by
  obtain ⟨h1, h2⟩ := h
  rcases h1 with rfl | rfl | rfl
  · show 3 * bs.length = leftN 3 0; rw [left3]; omega
  · show 3 * bs.length = leftN 7 0; rw [left7]; omega
  · show 3 * bs.length = leftN 9 0; rw [left9]; omega
theorem few_mem {v : Int} {bs : List B3} (h : STS v bs) (hf : Few v bs) : bs ∈ allN v := by
  have h0 := (few_len hf.1)
  have h1 := few_left hf
  obtain ⟨vn, rfl⟩ := Int.eq_ofNat_of_zero_le h0.2.2.2
  exact sts_mem h h1 (by have := h.few; omega)
/-- The number of a system, and the code. -/
def NOS (v : Int) (bs : List B3) (r code : Int) : Prop := (¬ STS v bs → r = 0 ∧ code = 1) ∧ (STS v bs → ¬ Few v bs → r = 0 ∧ code = 5) ∧ (STS v bs → Few v bs → r = idxP (fun q => bs = q) (allN v) ∧ code = 0)
theorem befB_at : ∀ {a b : List B3} {i : Nat} (h1 : i < a.length) (h2 : i < b.length), a.take i = b.take i → ¬ a[i] = b[i] → (B3.lt a[i] b[i] ↔ befB a b) := by
  intro a
  induction a with
  | nil => intro b i h1; simp at h1
  | cons x a ih =>
    intro b i h1 h2 he hne
    cases b with
    | nil => simp at h2
    | cons y b =>
      cases i with
      | zero =>
        simp only [List.getElem_cons_zero] at hne ⊢
        unfold befB
        rw [if_neg hne]
      | succ i =>
        simp only [List.take_succ_cons, List.cons.injEq] at he
        simp only [List.getElem_cons_succ] at hne ⊢
        unfold befB
        rw [if_pos he.1]
        exact ih (by simp only [List.length_cons] at h1; omega) (by simp only [List.length_cons] at h2; omega) he.2 hne
theorem befB_pre {b : List B3} : ∀ {a : List B3} {n : Nat}, a = b.take n → ¬ befB a b := by
  induction b with
  | nil => intro a n h; subst h; simp [befB]
  | cons y b ih =>
    intro a n h
    cases n with
    | zero => subst h; simp [befB]
    | succ n =>
      subst h
      simp only [List.take_succ_cons]
      unfold befB
      rw [if_pos rfl]
      exact ih rfl
end Go.Vc
/-
  The calculus, part 17: the least and the greatest of integers.
-/
namespace Go.Vc
open Go Go.RowKit
section
variable {P : Program} {w0 w : World} {Q : Exit → Act → World → Prop} {σ : Sig} {H : List Assn} {o : Oper} {ts : Array TypeId}
theorem run_min2 (a b : Int) : (Builtin.min2 (.int .i64 a) (.int .i64 b)).run P w = .ok (.int .i64 (if b < a then b else a)) w := by
  unfold Builtin.min2
  by_cases h : b < a <;> simp [h]
theorem run_max2 (a b : Int) : (Builtin.max2 (.int .i64 a) (.int .i64 b)).run P w = .ok (.int .i64 (if a < b then b else a)) w := by
  unfold Builtin.max2
  by_cases h : a < b <;> simp [h]
theorem Pu.min2 {x y : Operand} {a b r : Int} (hr : r = if b < a then b else a) (ho : o.op = .call { callee := .builtin .min, args := #[x, y], argTypes := ts }) (hx : ev σ x = some (.int .i64 a)) (hy : ev σ y = some (.int .i64 b)) : Pu P w0 o σ H (.int .i64 r) := by
  subst hr
  intro w hw c ha
  have h1 := ha x (by simp [ho, Op.operands, Call.operands]) _ hx
  have h2 := ha y (by simp [ho, Op.operands, Call.operands]) _ hy
  simp [execOp, ho, h1, h2, resolve, invoke, builtin, Builtin.min_, run_min2]
theorem Pu.max2 {x y : Operand} {a b r : Int} (hr : r = if a < b then b else a) (ho : o.op = .call { callee := .builtin .max, args := #[x, y], argTypes := ts }) (hx : ev σ x = some (.int .i64 a)) (hy : ev σ y = some (.int .i64 b)) : Pu P w0 o σ H (.int .i64 r) := by
  subst hr
  intro w hw c ha
  have h1 := ha x (by simp [ho, Op.operands, Call.operands]) _ hx
  have h2 := ha y (by simp [ho, Op.operands, Call.operands]) _ hy
  simp [execOp, ho, h1, h2, resolve, invoke, builtin, Builtin.max_, run_max2]
theorem Pu.min3 {x y z : Operand} {a b d r : Int} (hr : r = if d < (if b < a then b else a) then d else (if b < a then b else a)) (ho : o.op = .call { callee := .builtin .min, args := #[x, y, z], argTypes := ts }) (hx : ev σ x = some (.int .i64 a)) (hy : ev σ y = some (.int .i64 b)) (hz : ev σ z = some (.int .i64 d)) : Pu P w0 o σ H (.int .i64 r) := by
  subst hr
  intro w hw c ha
  have h1 := ha x (by simp [ho, Op.operands, Call.operands]) _ hx
  have h2 := ha y (by simp [ho, Op.operands, Call.operands]) _ hy
  have h3 := ha z (by simp [ho, Op.operands, Call.operands]) _ hz
  simp [execOp, ho, h1, h2, h3, resolve, invoke, builtin, Builtin.min_, run_min2]
theorem Pu.max3 {x y z : Operand} {a b d r : Int} (hr : r = if (if a < b then b else a) < d then d else (if a < b then b else a)) (ho : o.op = .call { callee := .builtin .max, args := #[x, y, z], argTypes := ts }) (hx : ev σ x = some (.int .i64 a)) (hy : ev σ y = some (.int .i64 b)) (hz : ev σ z = some (.int .i64 d)) : Pu P w0 o σ H (.int .i64 r) := by
  subst hr
  intro w hw c ha
  have h1 := ha x (by simp [ho, Op.operands, Call.operands]) _ hx
  have h2 := ha y (by simp [ho, Op.operands, Call.operands]) _ hy
  have h3 := ha z (by simp [ho, Op.operands, Call.operands]) _ hz
  simp [execOp, ho, h1, h2, h3, resolve, invoke, builtin, Builtin.max_, run_max2]
end
end Go.Vc
/-
  Plain words: blocks in order, by insertion.
-/
namespace Go.Vc
def leB (a b : B3) : Prop := ¬ B3.lt b a
theorem leB_trans {a b c : B3} (h1 : leB a b) (h2 : leB b c) : leB a c := by unfold leB B3.lt at *; omega
theorem leB_of {a b : B3} (h : B3.lt a b) : leB a b := by unfold leB B3.lt at *; omega
theorem leB_anti {a b : B3} (h1 : leB a b) (h2 : leB b a) : a = b := by
  obtain ⟨a1, a2, a3⟩ := a
  obtain ⟨b1, b2, b3⟩ := b
  unfold leB B3.lt at *
  simp only at *
  have e1 : a1 = b1 := by omega
  have e2 : a2 = b2 := by omega
  have e3 : a3 = b3 := by omega
  rw [e1, e2, e3]
def SrtB (l : List B3) : Prop := l.Pairwise leB
theorem ins_perm {l : List B3} {b : B3} {y : Nat} : (l.take y ++ b :: l.drop y).Perm (l ++ [b]) := by
  refine List.perm_middle.trans ?_
  rw [List.take_append_drop]
  exact (List.perm_append_comm (l₁ := [b])).trans (List.Perm.refl _)
theorem ins_sorted {l : List B3} {b : B3} {y : Nat} (hs : SrtB l) (hy : y ≤ l.length) (h1 : ∀ j (hj : j < l.length), y ≤ j → B3.lt b l[j]) (h2 : ∀ (h0 : 0 < y), ¬ B3.lt b (l[y - 1]'(by omega))) : SrtB (l.take y ++ b :: l.drop y) := by
  have hp := List.pairwise_iff_getElem.1 hs
  unfold SrtB
  rw [List.pairwise_append, List.pairwise_cons]
  have hd : ∀ x ∈ l.drop y, B3.lt b x := by
    intro x hx
    obtain ⟨j, hj, rfl⟩ := List.getElem_of_mem hx
    rw [List.length_drop] at hj
    rw [List.getElem_drop]
    exact h1 (y + j) (by omega) (by omega)
  have ht : ∀ x ∈ l.take y, leB x b := by
    intro x hx
    obtain ⟨j, hj, rfl⟩ := List.getElem_of_mem hx
    rw [List.length_take] at hj
    rw [List.getElem_take]
    have h3 := h2 (by omega)
    by_cases e : j = y - 1
    · subst e; exact h3
    · exact leB_trans (hp j (y - 1) (by omega) (by omega) (by omega)) h3
  refine ⟨hs.sublist (List.take_sublist _ _), ⟨fun x hx => leB_of (hd x hx), hs.sublist (List.drop_sublist _ _)⟩, fun x hx z hz => ?_⟩
  rcases List.mem_cons.1 hz with rfl | hz
  · exact ht x hx
  · exact leB_trans (ht x hx) (leB_of (hd z hz))
theorem srtB_unique : ∀ {l m : List B3}, SrtB l → SrtB m → l.Perm m → l = m := by
  intro l
  induction l with
  | nil => intro m _ _ h; exact (List.Perm.nil_eq h)
  | cons a l ih =>
    intro m h1 h2 h
    cases m with
    | nil => exact absurd h.length_eq (by simp)
    | cons b m =>
      obtain ⟨ha, hl⟩ := List.pairwise_cons.1 h1
      obtain ⟨hb, hm⟩ := List.pairwise_cons.1 h2
      have e : a = b := by
        rcases List.mem_cons.1 (h.mem_iff.1 (List.mem_cons_self ..)) with e | e
        · exact e
        · rcases List.mem_cons.1 (h.mem_iff.2 (List.mem_cons_self ..)) with e' | e'
          · exact e'.symm
          · exact leB_anti (ha b e') (hb a e)
      subst e
      rw [ih hl hm (List.Perm.cons_inv h)]
theorem srtB_lt {l : List B3} (h : l.Pairwise B3.lt) : SrtB l := h.imp leB_of
end Go.Vc
/-
  The calculus, part 18: a search for completions that keeps or counts them.
-/
namespace Go.Vc
open Go Go.RowKit
section
variable {v m a b c n p k : Nat} {U : List Bool}
/-- The pairs that are used, by their numbers. -/
def RelU (v : Nat) (U : List Bool) (m : Nat) : Prop := U.length = 256 ∧ ∀ x y : Nat, x < v → y < v → x ≠ y → U.getD (prI x y) false = usd m x y
theorem prI_lt (ha : a < 16) (hb : b < 16) : prI a b < 256 := by unfold prI; omega
theorem getD_set {i j : Nat} {x : Bool} (hi : i < U.length) : (U.set i x).getD j false = if j = i then x else U.getD j false := by
  rw [List.getD_eq_getElem?_getD, List.getD_eq_getElem?_getD, List.getElem?_set]
  by_cases e : j = i
  · subst e; simp [hi]
  · rw [if_neg (fun h => e h.symm), if_neg e]
theorem relU_at (h : RelU v U m) {x y : Nat} (hx : x < v) (hy : y < v) (hne : x ≠ y) (hk : prI x y < U.length) : U[prI x y] = usd m x y := by
  have := h.2 x y hx hy hne
  rwa [List.getD_eq_getElem?_getD, List.getElem?_eq_getElem hk] at this
theorem relU_put (h : RelU v U m) (ha : a < b) (hb : b < c) (hc : c < v) (hv : v ≤ 15) : RelU v (((U.set (prI a b) true).set (prI a c) true).set (prI b c) true) (putM m a b c) := by
  have l1 := prI_lt (a := a) (b := b) (by omega) (by omega)
  have l2 := prI_lt (a := a) (b := c) (by omega) (by omega)
  have l3 := prI_lt (a := b) (b := c) (by omega) (by omega)
  refine ⟨by simp [h.1], fun x y hx hy hne => ?_⟩
  rw [getD_set (by simp [h.1]; omega), getD_set (by simp [h.1]; omega), getD_set (by rw [h.1]; omega), h.2 x y hx hy hne]
  have hup := usd_put (m := m) (a := a) (b := b) (c := c) (by omega) (by omega) (by omega) (x := x) (y := y) (by omega) (by omega)
  by_cases e1 : prI x y = prI b c
  · rw [if_pos e1]
    have := prI_inj (a := x) (b := y) (x := b) (y := c) (by omega) (by omega) (by omega) (by omega) e1
    exact (hup.2 (by omega)).symm
  · rw [if_neg e1]
    by_cases e2 : prI x y = prI a c
    · rw [if_pos e2]
      have := prI_inj (a := x) (b := y) (x := a) (y := c) (by omega) (by omega) (by omega) (by omega) e2
      exact (hup.2 (by omega)).symm
    · rw [if_neg e2]
      by_cases e3 : prI x y = prI a b
      · rw [if_pos e3]
        have := prI_inj (a := x) (b := y) (x := a) (y := b) (by omega) (by omega) (by omega) (by omega) e3
        exact (hup.2 (by omega)).symm
      · rw [if_neg e3]
        cases hu : usd m x y with
        | true => exact (hup.2 (.inl hu)).symm
        | false =>
          cases hp : usd (putM m a b c) x y with
          | false => rfl
          | true =>
            rcases hup.1 hp with h1 | h1
            · rw [hu] at h1; cases h1
            · exfalso
              rcases h1 with (⟨rfl, rfl⟩ | ⟨rfl, rfl⟩) | (⟨rfl, rfl⟩ | ⟨rfl, rfl⟩) | (⟨rfl, rfl⟩ | ⟨rfl, rfl⟩)
              · exact e3 rfl
              · exact e3 (prI_comm _ _)
              · exact e2 rfl
              · exact e2 (prI_comm _ _)
              · exact e1 rfl
              · exact e1 (prI_comm _ _)
theorem relU_del (h : RelU v U (putM m a b c)) (ha : a < b) (hb : b < c) (hc : c < v) (hv : v ≤ 15) (h1 : usd m a b = false) (h2 : usd m a c = false) (h3 : usd m b c = false) : RelU v (((U.set (prI a b) false).set (prI a c) false).set (prI b c) false) m := by
  have l1 := prI_lt (a := a) (b := b) (by omega) (by omega)
  have l2 := prI_lt (a := a) (b := c) (by omega) (by omega)
  have l3 := prI_lt (a := b) (b := c) (by omega) (by omega)
  refine ⟨by simp [h.1], fun x y hx hy hne => ?_⟩
  rw [getD_set (by simp [h.1]; omega), getD_set (by simp [h.1]; omega), getD_set (by rw [h.1]; omega), h.2 x y hx hy hne]
  have hup := usd_put (m := m) (a := a) (b := b) (c := c) (by omega) (by omega) (by omega) (x := x) (y := y) (by omega) (by omega)
  have key : ∀ s t : Nat, s < 16 → t < 16 → usd m s t = false → prI x y = prI s t → false = usd m x y := by
    intro s t hs ht hu e
    rcases prI_inj (by omega) (by omega) hs ht e with ⟨rfl, rfl⟩ | ⟨rfl, rfl⟩
    · exact hu.symm
    · rw [usd_comm]; exact hu.symm
  by_cases e1 : prI x y = prI b c
  · rw [if_pos e1]; exact key b c (by omega) (by omega) h3 e1
  · rw [if_neg e1]
    by_cases e2 : prI x y = prI a c
    · rw [if_pos e2]; exact key a c (by omega) (by omega) h2 e2
    · rw [if_neg e2]
      by_cases e3 : prI x y = prI a b
      · rw [if_pos e3]; exact key a b (by omega) (by omega) h1 e3
      · rw [if_neg e3]
        cases hu : usd m x y with
        | true => exact hup.2 (.inl hu)
        | false =>
          cases hp : usd (putM m a b c) x y with
          | false => rfl
          | true =>
            rcases hup.1 hp with h4 | h4
            · rw [hu] at h4; cases h4
            · exfalso
              rcases h4 with (⟨rfl, rfl⟩ | ⟨rfl, rfl⟩) | (⟨rfl, rfl⟩ | ⟨rfl, rfl⟩) | (⟨rfl, rfl⟩ | ⟨rfl, rfl⟩)
              · exact e3 rfl
              · exact e3 (prI_comm _ _)
              · exact e2 rfl
              · exact e2 (prI_comm _ _)
              · exact e1 rfl
              · exact e1 (prI_comm _ _)
theorem relU_zero : RelU v (List.replicate 256 false) 0 := by
  refine ⟨List.length_replicate, fun x y _ _ _ => ?_⟩
  have h0 : usd 0 x y = false := by simp [usd]
  rw [h0, List.getD_eq_getElem?_getD, List.getElem?_replicate]
  split <;> rfl
/-- What the loops for the first pair have found. -/
def Fnd (v m : Nat) (a b : Int) (p : Nat) : Prop := (a = -1 ∧ b = -1 ∧ p ≤ v ∧ ∀ i j, i < p → i < j → j < v → usd m i j = true) ∨ ∃ x y : Nat, a = x ∧ b = y ∧ IsNext v m x y
theorem may_of (h : IsNext v m a b) (hc : c < v) (h1 : c ≠ a) (h2 : c ≠ b) (h3 : usd m a c = false) (h4 : usd m b c = false) : may m a b c = true := by
  have h5 : b < c := by
    apply Decidable.byContradiction
    intro h6
    by_cases h7 : c < a
    · rw [usd_comm, h.rows c a h7 h7 (by have := h.ab; have := h.bv; omega)] at h3
      cases h3
    · rw [h.row c (by omega) (by omega)] at h3
      cases h3
  unfold may
  have : Nat.blt b c = true := by rw [Nat.blt_eq]; exact h5
  simp [this, h3, h4]
theorem may_no (h : ¬ (c ≠ a ∧ c ≠ b ∧ usd m a c = false ∧ usd m b c = false)) (hab : a < b) : may m a b c = false := by
  cases hm : may m a b c with
  | false => rfl
  | true =>
    obtain ⟨h1, h2, h3⟩ := may_spec hm
    exact absurd ⟨by omega, by omega, h2, h3⟩ h
variable {most : Nat} {α : Type}
theorem goesC_most : ∀ {L : List α} {k : Nat}, k < most → goesC (fun j => decide (j < most)) k L = decide (k + (runC (fun j => decide (j < most)) k L).length < most) := by
  intro L
  induction L with
  | nil => intro k hk; simp [goesC, runC, hk]
  | cons x L ih =>
    intro k hk
    unfold goesC runC
    by_cases h : k + 1 < most
    · simp only [h, decide_true, Bool.true_and, if_true]
      rw [ih h, List.length_cons]
      congr 1
      rw [show k + 1 + (runC (fun j => decide (j < most)) (k + 1) L).length = k + ((runC (fun j => decide (j < most)) (k + 1) L).length + 1) by omega]
    · simp [h]
theorem srch_end {l l2 : List (List B3)} {xs : List B3} (hlm : l.length < most) (hl2 : l2 = l ++ runC (fun j => decide (j < most)) l.length (leaf xs (compJ n v m a b c))) (hlast : c = v ∨ ¬ l2.length < most) (hc : c ≤ v) : l ++ runC (fun j => decide (j < most)) l.length (leaf xs (compJ n v m a b v)) = l2 := by
  rcases hlast with rfl | h
  · exact hl2.symm
  · obtain ⟨r, hr⟩ := leaf_pre (xs := xs) (n := n) (v := v) (m := m) (a := a) (b := b) hc
    have h1 : goesC (fun j => decide (j < most)) l.length (leaf xs (compJ n v m a b c)) = false := by
      rw [goesC_most hlm]
      have h2 := congrArg List.length hl2
      rw [List.length_append] at h2
      exact decide_eq_false (by omega)
    rw [hr, runC_stop h1, ← hl2]
end
section
variable {P : Program} {N : Nat} {w0 w : World} {Q : Exit → Act → World → Prop} {σ : Sig} {H H' : List Assn} {ops : Array Oper} {rest : List Oper}
/-- A search: its cells, the pairs that are used, what it has found; what has been counted, l. -/
def SrchK (T uT fT bT : TypeId) (sb v most : Nat) (keep : Bool) (m : Nat) (l : List (List B3)) : Assn :=
  .exi fun q : ((Option Addr × Nat) × List Bool) × (Option Addr × Nat) × List (Sl × List B3) => .sep (.pur (RelU v q.1.2 m ∧ (conts q.2.2 = if keep then l else []) ∧ ∀ p ∈ q.2.2, p.1.A.isSome = true))
    (.sep (Blk sb [.int .i64 (v : Int), .slice q.1.1.1 q.1.2.length q.1.1.2, .int .i64 (l.length : Int), .int .i64 (most : Int), .bool keep, .slice q.2.1.1 (tops q.2.2).length q.2.1.2] T)
      (.sep (Own uT BoolC q.1.1.1 q.1.1.2 q.1.2) (.sep (Own fT SlC q.2.1.1 q.2.1.2 (tops q.2.2)) (RowsA bT B3C q.2.2))))
theorem relU_putI {v m : Nat} {U : List Bool} {d : B3} (h : RelU v U m) (hd : inB v d) (hv : v ≤ 15) : RelU v (((U.set (prI d.1.toNat d.2.1.toNat) true).set (prI d.1.toNat d.2.2.toNat) true).set (prI d.2.1.toNat d.2.2.toNat) true) (putB m d) := by
  obtain ⟨x, y, z, rfl, h1, h2, h3⟩ := hd
  exact relU_put h h1 h2 h3 hv
theorem inB_pts {v : Nat} {d : B3} (hd : inB v d) (hv : v ≤ 15) : (0 ≤ d.1 ∧ d.1 < 16) ∧ (0 ≤ d.2.1 ∧ d.2.1 < 16) ∧ (0 ≤ d.2.2 ∧ d.2.2 < 16) := by
  obtain ⟨x, y, z, rfl, h1, h2, h3⟩ := hd
  unfold b3N
  simp only
  omega
theorem maskB_snoc {m : Nat} {bs : List B3} {d : B3} : maskB m (bs ++ [d]) = putB (maskB m bs) d := by unfold maskB; rw [List.foldl_append]; rfl
variable {T uT fT bT : TypeId} {sb v most m : Nat} {keep : Bool} {l : List (List B3)}
theorem SrchK.elim (hw : St w0 (SrchK T uT fT bT sb v most keep m l :: H) w) : ∃ uA uk U fA fk ps, RelU v U m ∧ conts ps = (if keep then l else []) ∧ (∀ p ∈ ps, p.1.A.isSome = true) ∧
    St w0 (Blk sb [.int .i64 (v : Int), .slice uA U.length uk, .int .i64 (l.length : Int), .int .i64 (most : Int), .bool keep, .slice fA (tops ps).length fk] T :: Own uT BoolC uA uk U :: Own fT SlC fA fk (tops ps) :: RowsA bT B3C ps :: H) w := by
  obtain ⟨q, hw⟩ := hw.exi
  have h1 := hw.sep.pur
  refine ⟨q.1.1.1, q.1.1.2, q.1.2, q.2.1.1, q.2.1.2, q.2.2, h1.1.1, h1.1.2.1, h1.1.2.2, ?_⟩
  have h2 := h1.2.sep
  have h3 := (h2.perm (List.Perm.swap _ _ _)).sep
  have h5 := (h3.perm (List.Perm.swap _ _ _)).sep
  exact (h5.sub (Sub.keep 3 rfl (Sub.keep 2 rfl (Sub.keep 0 rfl (Sub.keep 0 rfl (Sub.refl _))))))
theorem V.srchK {c : Code} (h : ∀ uA uk U fA fk ps, RelU v U m → conts ps = (if keep then l else []) → (∀ p ∈ ps, p.1.A.isSome = true) → V P N w0 c Q σ (Blk sb [.int .i64 (v : Int), .slice uA U.length uk, .int .i64 (l.length : Int), .int .i64 (most : Int), .bool keep, .slice fA (tops ps).length fk] T :: Own uT BoolC uA uk U :: Own fT SlC fA fk (tops ps) :: RowsA bT B3C ps :: H)) : V P N w0 c Q σ (SrchK T uT fT bT sb v most keep m l :: H) := by
  intro w hw
  obtain ⟨uA, uk, U, fA, fk, ps, h1, h2, h4, h3⟩ := SrchK.elim hw
  exact h uA uk U fA fk ps h1 h2 h4 w h3
theorem O.srchK (h : ∀ uA uk U fA fk ps, RelU v U m → conts ps = (if keep then l else []) → (∀ p ∈ ps, p.1.A.isSome = true) → O P N w0 ops Q rest σ (Blk sb [.int .i64 (v : Int), .slice uA U.length uk, .int .i64 (l.length : Int), .int .i64 (most : Int), .bool keep, .slice fA (tops ps).length fk] T :: Own uT BoolC uA uk U :: Own fT SlC fA fk (tops ps) :: RowsA bT B3C ps :: H)) : O P N w0 ops Q rest σ (SrchK T uT fT bT sb v most keep m l :: H) := by
  intro w hw
  obtain ⟨uA, uk, U, fA, fk, ps, h1, h2, h4, h3⟩ := SrchK.elim hw
  exact h uA uk U fA fk ps h1 h2 h4 w h3
theorem SrchK.mk {uA fA : Option Addr} {uk fk : Nat} {U : List Bool} {ps : List (Sl × List B3)} (hr : RelU v U m) (hc : conts ps = if keep then l else []) (hso : ∀ p ∈ ps, p.1.A.isSome = true)
    (hw : St w0 (Blk sb [.int .i64 (v : Int), .slice uA U.length uk, .int .i64 (l.length : Int), .int .i64 (most : Int), .bool keep, .slice fA (tops ps).length fk] T :: Own uT BoolC uA uk U :: Own fT SlC fA fk (tops ps) :: RowsA bT B3C ps :: H) w) : St w0 (SrchK T uT fT bT sb v most keep m l :: H) w := by
  refine St.mkExi (((uA, uk), U), (fA, fk), ps) (St.unsep (St.addPur ⟨hr, hc, hso⟩ ?_))
  have h1 : St w0 (Own fT SlC fA fk (tops ps) :: RowsA bT B3C ps :: Own uT BoolC uA uk U :: Blk sb [.int .i64 (v : Int), .slice uA U.length uk, .int .i64 (l.length : Int), .int .i64 (most : Int), .bool keep, .slice fA (tops ps).length fk] T :: H) w := hw.sub (Sub.keep 2 rfl (Sub.keep 2 rfl (Sub.keep 1 rfl (Sub.keep 0 rfl (Sub.refl _)))))
  have h2 := (St.unsep h1).perm (List.Perm.swap _ _ _)
  have h3 := (St.unsep h2).perm (List.Perm.swap _ _ _)
  exact St.unsep h3
end
end Go.Vc
/-
  The calculus, part 19: fields of a list's elements.
-/
namespace Go.Vc
open Go Go.RowKit
section
variable {P : Program} {w0 w : World} {σ : Sig} {H H' : List Assn} {o : Oper} {v : Int}
theorem Pu.fieldAddr' {T : TypeId} {x : Operand} {f off : Nat} {p : Option Addr} {fs : Array Field} {fd : Field} {n : Nat} (ho : o.op = .fieldAddr T x f) (hT : P.underlying T = some (.struct fs)) (hf : fs[f]? = some fd) (hs : Sz P fd.type (n + 1)) (hx : ev σ x = some (.pointer p)) (hr : fd.offset = off) (hp : ∀ w, St w0 H w → p.isSome = true) :
    Pu P w0 o σ H (.pointer (p.map (·.add off))) := by
  intro w hw a ha
  subst hr
  have h1 := ha x (by simp [ho, Op.operands]) _ hx
  obtain ⟨q, rfl⟩ := Option.isSome_iff_exists.1 (hp w hw)
  simp [execOp, ho, h1, Instr.fieldAt, run_underlying hT, hf, Instr.sureAddr, fieldPlace, run_sz hs]
theorem Ld.rowYf {A : Option Addr} {ps : List (Sl × List B3)} (hr : ∀ w, St w0 H w → Rd (SyC v) w A (tops ps)) (hn : LenOk ps) {k s : Nat} (hk : k < ps.length) (hs : s = 2) :
    ∀ w, St w0 H w → ∃ q, (A.map (·.add (k * s))).map (·.add 1) = some q ∧ w.cell? q = some (.slice (ps[k]).1.A (ps[k]).2.length (ps[k]).1.c) := by
  intro w hw
  obtain ⟨q, h1, h2⟩ := Ld.rowY hr hn hk hs w hw
  exact ⟨q.add 1, by rw [h1]; rfl, h2 1 _ rfl⟩
theorem prev_bef {ps qs : List (Sl × List B3)} {i k : Nat} (hpw : (conts ps).Pairwise befB) (ho : conts qs = (conts ps).take i) (hi : i < ps.length) (hk : k < qs.length) (hki : k < i) : befB (qs[k]).2 (ps[i]).2 := by
  have l1 := conts_len ps
  have l2 := conts_len qs
  have h := List.pairwise_iff_getElem.1 hpw k i (by omega) (by omega) hki
  have e1 : (conts ps)[i]'(by omega) = (ps[i]).2 := List.getElem_map ..
  have e2 : (conts qs)[k]'(by omega) = (qs[k]).2 := List.getElem_map ..
  have e3 : (conts qs)[k]'(by omega) = (conts ps)[k]'(by omega) := by
    have h4 : (conts qs)[k]? = (conts ps)[k]? := by rw [ho, List.getElem?_take]; simp [hki]
    rw [List.getElem?_eq_getElem (by omega), List.getElem?_eq_getElem (by omega)] at h4
    exact Option.some.inj h4
  rw [← e1, ← e2, e3]
  exact h
theorem runC_sub {α : Type} {cont : Nat → Bool} : ∀ {L : List α} {k : Nat}, (runC cont k L).Sublist L := by
  intro L
  induction L with
  | nil => intro k; exact List.Sublist.refl _
  | cons x L ih =>
    intro k
    unfold runC
    split
    · exact ih.cons_cons x
    · exact (List.nil_sublist L).cons_cons x
theorem runC_leaf_sub {cont : Nat → Bool} {n v m k : Nat} : (runC cont k (leaf [] (compM n v m))).Sublist (compM n v m) := by
  have e : leaf [] (compM n v m) = compM n v m := by simp [leaf]
  rw [e]
  exact runC_sub
end
theorem few_lt {v : Int} (h : few9 v) : (compM 40 v.toNat 0).length < 1000 := by
  rcases h with rfl | rfl | rfl
  · rw [cntM_eq]; show cntM 40 3 0 < 1000; rw [cnt3]; decide
  · rw [cntM_eq]; show cntM 40 7 0 < 1000; rw [cnt7]; decide
  · rw [cntM_eq]; show cntM 40 9 0 < 1000; rw [cnt9]; decide
theorem run_all {n v most : Nat} (h : (compM n v 0).length < most) : runC (fun j => decide (j < most)) 0 (leaf [] (compM n v 0)) = compM n v 0 := by
  have e : leaf [] (compM n v 0) = compM n v 0 := by simp [leaf]
  rw [e]
  refine runC_all ?_
  rw [goesC_most (by omega)]
  have := runC_le (cont := fun j => decide (j < most)) (k := 0) (l := compM n v 0)
  exact decide_eq_true (by omega)
end Go.Vc
/-
  The calculus, part 19: two results, the first of which lies in memory; the marks of blocks.
-/
namespace Go.Vc
open Go Go.RowKit
section
variable {P : Program} {N : Nat} {w0 w : World} {Q : Exit → Act → World → Prop} {σ : Sig} {H H' : List Assn}
end
section
variable {w0 : World} {H : List Assn}
theorem Ld.part {A : Option Addr} {xs : List B3} {k s j : Nat} {u : Value} (hr : ∀ w, St w0 H w → Rd B3C w A xs) (hk : k < xs.length) (hs : s = 3) (hu : (B3.cs xs[k])[j]? = some u) : ∀ w, St w0 H w → ∃ q, (A.map (·.add (k * s))).map (·.add j) = some q ∧ w.cell? q = some u := by
  intro w hw
  obtain ⟨q, h1, h2⟩ := Ld.rds hr hk (s := s) hs w hw
  exact ⟨q.add j, by rw [h1]; rfl, h2 j u hu⟩
end
/-- The marks of n blocks. -/
def marksB (m : Int) (n : Nat) : List B3 := (List.range n).map fun i : Nat => (m + 3 * (i : Int), m + 3 * (i : Int) + 1, m + 3 * (i : Int) + 2)
theorem marksB_len (m : Int) (n : Nat) : (marksB m n).length = n := by simp [marksB]
theorem marksB_get (m : Int) (n : Nat) {k : Nat} (hk : k < (marksB m n).length) : (marksB m n)[k] = (m + 3 * (k : Int), m + 3 * (k : Int) + 1, m + 3 * (k : Int) + 2) := by simp [marksB]
def markBAt (xs : List B3) (m : Int) (k : Nat) : List B3 := marksB m k ++ xs.drop k
theorem markBAt_zero (xs : List B3) (m : Int) : markBAt xs m 0 = xs := by simp [markBAt, marksB]
theorem markBAt_len {xs : List B3} {m : Int} {k : Nat} (h : k ≤ xs.length) : (markBAt xs m k).length = xs.length := by simp [markBAt, marksB_len]; omega
theorem markBAt_set {xs : List B3} {m : Int} {k : Nat} (h : k < xs.length) : (markBAt xs m k).set k (m + 3 * (k : Int), m + 3 * (k : Int) + 1, m + 3 * (k : Int) + 2) = markBAt xs m (k + 1) := by
  unfold markBAt
  rw [List.set_append_right _ _ (by rw [marksB_len]; exact Nat.le_refl _), marksB_len, Nat.sub_self, drop_cons h, List.set_cons_zero]
  unfold marksB
  rw [List.range_succ, List.map_append, List.append_assoc]
  rfl
theorem markBAt_all {xs : List B3} {m : Int} {k : Nat} (h : k = xs.length) : markBAt xs m k = marksB m xs.length := by
  subst h
  simp [markBAt]
end Go.Vc
/-
  Plain words: parts that fix a system.
-/
namespace Go.Vc
instance (a b : B3) : Decidable (leB a b) := inferInstanceAs (Decidable (¬ _))
section
variable {v m n : Nat}
theorem usd_put_false {a b c x y : Nat} (ha : a < 16) (hb : b < 16) (hc : c < 16) (hx : x < 16) (hy : y < 16) (h : usd (putM m a b c) x y = false) : usd m x y = false := by
  cases hh : usd m x y with
  | false => rfl
  | true =>
    have := (usd_put (m := m) ha hb hc hx hy).2 (.inl hh)
    rw [this] at h
    cases h
/-- What a completion is. -/
theorem comp_rest : ∀ n v m (q : List B3), v ≤ 15 → q ∈ compM n v m → Rest v m q := by
  intro n
  induction n with
  | zero =>
    intro v m q hv hq
    rcases mem_comp hq with ⟨rfl, _⟩ | ⟨k, a, b, c, r, hk, _⟩
    · exact ⟨fun _ h => by simp at h, fun _ h => by simp at h, List.Pairwise.nil, List.Pairwise.nil⟩
    · omega
  | succ n ih =>
    intro v m q hv hq
    have hs := comp_sorted _ _ _ _ hv hq
    rcases mem_comp hq with ⟨rfl, _⟩ | ⟨k, a, b, c, r, hk, hn, hc, hm, hr, rfl⟩
    · exact ⟨fun _ h => by simp at h, fun _ h => by simp at h, List.Pairwise.nil, List.Pairwise.nil⟩
    · obtain rfl : n = k := by omega
      have hI := next_spec hn
      have hab := hI.ab
      have hbv := hI.bv
      obtain ⟨h1, h2, h3⟩ := may_spec hm
      have h := ih _ _ _ hv hr
      refine ⟨fun d hd => ?_, fun d hd => ?_, hs, List.pairwise_cons.2 ⟨fun d hd => ?_, h.fit⟩⟩
      · rcases List.mem_cons.1 hd with rfl | hd
        · exact ⟨a, b, c, rfl, hab, h1, hc⟩
        · exact h.ok d hd
      · rcases List.mem_cons.1 hd with rfl | hd
        · exact ⟨a, b, c, rfl, hab, h1, hI.left, h2, h3⟩
        · obtain ⟨x, y, z, rfl, hx, hy, u1, u2, u3⟩ := h.opn d hd
          obtain ⟨x', y', z', e, _, _, hz⟩ := h.ok _ hd
          obtain ⟨rfl, rfl, rfl⟩ := b3N_inj e
          exact ⟨x, y, z, rfl, hx, hy, usd_put_false (by omega) (by omega) (by omega) (by omega) (by omega) u1, usd_put_false (by omega) (by omega) (by omega) (by omega) (by omega) u2, usd_put_false (by omega) (by omega) (by omega) (by omega) (by omega) u3⟩
      · obtain ⟨x, y, z, rfl, hx, hy, u1, u2, u3⟩ := h.opn d hd
        obtain ⟨x', y', z', e, _, _, hz⟩ := h.ok _ hd
        obtain ⟨rfl, rfl, rfl⟩ := b3N_inj e
        rw [common_le (b3N_three hab h1)]
        have k : ∀ p q : Nat, p < q → q < v → usd (putM m a b c) p q = false → ¬ (has (b3N a b c) p ∧ has (b3N a b c) q) := fun p q h4 h5 h6 => ((usd_putN hab h1 (by omega) (by omega) (by omega) (by omega)).1 h6).2
        exact ⟨k x y hx (by omega) u1, k x z (by omega) (by omega) u2, k y z hy (by omega) u3⟩
/-- .. and that it leaves no pair. -/
theorem comp_full : ∀ n v m (q : List B3), v ≤ 15 → q ∈ compM n v m → ∀ x y, x < y → y < v → usd (maskB m q) x y = true := by
  intro n
  induction n with
  | zero =>
    intro v m q hv hq
    rcases mem_comp hq with ⟨rfl, h⟩ | ⟨k, a, b, c, r, hk, _⟩
    · exact next_none h
    · omega
  | succ n ih =>
    intro v m q hv hq
    rcases mem_comp hq with ⟨rfl, h⟩ | ⟨k, a, b, c, r, hk, hn, hc, hm, hr, rfl⟩
    · exact next_none h
    · obtain rfl : n = k := by omega
      have h := ih _ _ _ hv hr
      have e : maskB m (b3N a b c :: r) = maskB (putM m a b c) r := by
        show maskB (putB m (b3N a b c)) r = _
        rw [putB_b3N]
      rw [e]
      exact h
/-- A full system, as plain words have it. -/
structure FullS (v : Nat) (T : List B3) : Prop where
  rest : Rest v 0 T
  full : ∀ x y, x < y → y < v → ∃ d ∈ T, has d x ∧ has d y
theorem FullS.of {T : List B3} (hv : v ≤ 15) (h : T ∈ compM n v 0) : FullS v T := by
  have hr := comp_rest _ _ _ _ hv h
  refine ⟨hr, fun x y h1 h2 => ?_⟩
  rcases (usd_mask T 0 hv hr.ok x y h1 h2).1 (comp_full _ _ _ _ hv h x y h1 h2) with h3 | h3
  · rw [usd_zero] at h3; cases h3
  · exact h3
theorem Rest.sub {T Q : List B3} (h : Rest v 0 T) (hs : Q.Sublist T) : Rest v 0 Q := ⟨fun d hd => h.ok d (hs.subset hd), fun d hd => h.opn d (hs.subset hd), h.lt.sublist hs, h.fit.sublist hs⟩
end
end Go.Vc
/-
  The calculus, part 20: Go's own sorting of an owned row.
-/
namespace Go.Vc
open Go Go.RowKit
open Go.Proofs (sortWorldK CmpLays ltOf)
open Go.Sort (flatK HoldsK putRowK get_flatK size_flatK putCells putRow mapBlock onCells PermIn SortedIn SWO)
section
variable {P : Program} {α : Type} {w0 w w' : World} {H : List Assn} {T c g : Nat} {A : Option Addr} {C : Cod α} {xs ys : List α}
theorem own_cases (hw : St w0 (Own T C A c xs :: H) w) : (A = none ∧ c = 0 ∧ xs = []) ∨ ∃ g, A = some ⟨g, 0, none⟩ := by
  obtain ⟨F, ho, hF⟩ := hw.get 0 rfl
  rcases ho.2 with ⟨h1, h2⟩ | ⟨g, cap, cur, hvv, _⟩
  · injection h1 with e1 e2 e3
    exact .inl ⟨e1, e3, List.eq_nil_of_length_eq_zero h2⟩
  · injection hvv with e1
    exact .inr ⟨g, e1⟩
/-- What a comparison hands back. -/
def CmpD (P : Program) (f : Nat) (cb : Array Value) (enc : α → Value) (cf : α → α → Int) (W : World) : Prop :=
  ∀ x y : α, Does P f ([enc x, enc y] ++ cb.toList) W [] (fun v => [.pur (v = .int .i64 (cf x y))])
end
end Go.Vc
/-
  The calculus, part 21: Go's own sorting of an owned row of one cell an element, and of an array of numbers.
-/
namespace Go.Vc
open Go Go.RowKit
open Go.Proofs (sortWorld CmpLays1 ltOf)
open Go.Sort (putCells putRow mapBlock onCells PermIn SortedIn SWO Holds)
section
variable {P : Program} {α : Type} {w0 w w' : World} {H : List Assn} {T c g : Nat} {A : Option Addr} {C : Cod α} {xs ys : List α} {enc : α → Value}
theorem flat1 (hC : ∀ x, C.enc x = [enc x]) : ∀ xs : List α, xs.flatMap C.enc = xs.map enc := by
  intro xs
  induction xs with
  | nil => rfl
  | cons x xs ih => rw [List.flatMap_cons, List.map_cons, hC, ih]; rfl
theorem own_holds1 [Inhabited α] (hC : ∀ x, C.enc x = [enc x]) (hz : C.sz = 1) (hw : St w0 (Own T C (some ⟨g, 0, none⟩) c xs :: H) w) : Holds enc w g 0 xs.toArray ∧ g < w.heap.size := by
  obtain ⟨F, ho, hF⟩ := hw.get 0 rfl
  rcases ho.2 with ⟨h1, h2⟩ | ⟨g', cap, cur, hvv, hbase, hh, hle, hmax, hcs, htake⟩
  · injection h1 with e1; cases e1
  · injection hvv with e1 e2 e3
    cases e1
    subst e3
    refine ⟨fun j hj => ?_, (Array.getElem?_eq_some_iff.1 hh).1⟩
    have hj' : j < xs.length := by simpa using hj
    rw [flat1 hC, hz, Nat.mul_one] at htake
    have e : cur[j]? = some (enc xs[j]) := by
      have h1 : (cur.toList.take xs.length)[j]? = cur.toList[j]? := by rw [List.getElem?_take, if_pos (by omega)]
      rw [htake, List.getElem?_map, List.getElem?_eq_getElem hj'] at h1
      rw [← Array.getElem?_toList, ← h1]
      rfl
    constructor
    · rw [getElem!_pos _ j hj]
      simp only [World.cell?, hh, Nat.zero_add, e]
      simp
    · simp [World.frozen?, hh]
theorem putCells1 [Inhabited α] {cur : Array Value} (hn : xs.length ≤ cur.size) : (putCells enc 0 xs.toArray cur).toList.take xs.length = xs.map enc := by
  apply List.ext_getElem
  · simp [putCells]; omega
  · intro j h1 h2
    simp only [List.getElem_take, Array.getElem_toList, putCells, Array.getElem_mapIdx]
    rw [if_pos ⟨Nat.zero_le _, by simpa using h2⟩, Nat.sub_zero, getElem!_pos _ j (by simpa using h2)]
    simp
theorem sort_heap [Inhabited α] {enc : α → Value} {n : Nat} {d : Array α} {os : Array Obj} {k : Nat} (hk : k < w.heap.size) : (Go.Sort.grow (putRow enc (Go.Sort.ahead w n) g 0 d) os).heap[k]? = if g = k then (w.heap[k]?).map (onCells (putCells enc 0 d)) else w.heap[k]? := by
  unfold Go.Sort.grow putRow mapBlock Go.Sort.ahead
  simp only
  rw [Array.getElem?_append_left (by simpa using hk), Array.getElem?_modify]
theorem sort_size [Inhabited α] {enc : α → Value} {n : Nat} {d : Array α} {os : Array Obj} : (Go.Sort.grow (putRow enc (Go.Sort.ahead w n) g 0 d) os).heap.size = w.heap.size + os.size := by
  unfold Go.Sort.grow putRow mapBlock Go.Sort.ahead
  simp
theorem St.sorted1 [Inhabited α] (hC : ∀ x, C.enc x = [enc x]) (hz : C.sz = 1) (hw : St w0 (Own T C (some ⟨g, 0, none⟩) c xs :: H) w) (hl : ys.length = xs.length) (n : Nat) (os : Array Obj) :
    St w0 (Own T C (some ⟨g, 0, none⟩) c ys :: H) (Go.Sort.grow (putRow enc (Go.Sort.ahead w n) g 0 ys.toArray) os) := by
  refine hw.upd ?_
  rintro F ⟨ho, hF⟩ hb
  rcases ho.2 with ⟨h1, h2⟩ | ⟨g', cap, cur, hvv, hbase, hh, hle, hmax, hcs, htake⟩
  · injection h1 with e1; cases e1
  · injection hvv with e1 e2 e3
    cases e1
    subst e3
    have hgs : g < w.heap.size := (Array.getElem?_eq_some_iff.1 hh).1
    rw [hz, Nat.mul_one] at hcs
    refine ⟨⟨rfl, rfl, rfl, by rw [sort_size]; omega, fun k hk hk' => ?_, Nat.le_add_right _ _⟩, F, ⟨⟨?_, .inr ⟨g, c, putCells enc 0 ys.toArray cur, by rw [hl], Nat.zero_le _, ?_, by omega, hmax, ?_, ?_⟩⟩, ?_⟩, ?_⟩
    · rw [sort_heap hk, if_neg (fun e => hk' ((hF k).2 (by subst e; rfl)))]
    · rw [length_flatMap_enc]
    · rw [sort_heap hgs, if_pos rfl, hh]; rfl
    · simp [putCells, hcs, hz]
    · rw [hz, Nat.mul_one, flat1 hC]
      exact putCells1 (by omega)
    · intro k
      rw [hF k]
      simp [Value.ownBlock]
    · intro k hk
      exact ⟨.inl hk, by have := (hb k hk).2; rw [sort_size]; omega⟩
/-- Numbers in order. -/
def sortI (xs : List Int) : List Int := xs.mergeSort fun x y => decide (x ≤ y)
theorem sortI_len (xs : List Int) : (sortI xs).length = xs.length := by unfold sortI; exact List.length_mergeSort _
theorem sortI_perm (xs : List Int) : (sortI xs).Perm xs := List.mergeSort_perm _ _
theorem sortI_sorted (xs : List Int) : (sortI xs).Pairwise (· ≤ ·) := by
  have h := List.pairwise_mergeSort (le := fun x y : Int => decide (x ≤ y)) (by intro a b c; simp; omega) (by intro a b; simp; omega) xs
  exact h.imp (by intro a b h; simpa using h)
theorem sortI_unique {xs ys : List Int} (hp : ys.Perm xs) (hs : ys.Pairwise (· ≤ ·)) : ys = sortI xs :=
  (hp.trans (sortI_perm xs).symm).eq_of_pairwise (fun a b _ _ h1 h2 => by omega) hs (sortI_sorted xs)
/-- slices.Sort. -/
theorem sortI_does {ρ : Go.Shelf.Ren} (L : Go.Proofs.SlLaysM.n5 P ρ) {xs : List Int} (hlen : xs.length < 4611686018427387904) :
    Does P (ρ.f 5) [.slice A xs.length c] w0 (Own T I64 A c xs :: H) (fun v => [.sep (.pur (v = .tuple #[])) (Own T I64 A c (sortI xs))] ++ H) := by
  intro w hw
  rcases own_cases hw with ⟨rfl, rfl, rfl⟩ | ⟨g, rfl⟩
  · refine (Go.Proofs.AnyM.slices_Sort_int_none L none 0 w).mono ?_
    rintro e w' ⟨rfl, rfl⟩
    have e : sortI [] = [] := by simp [sortI]
    rw [e]
    exact ⟨_, rfl, St.unsep (St.addPur rfl hw)⟩
  · obtain ⟨hH, hg⟩ := own_holds1 (enc := Value.int .i64) (fun _ => rfl) rfl hw
    refine (Go.Proofs.AnyM.slices_Sort_int L g 0 c xs w hH hg hlen).mono ?_
    rintro e w' ⟨rfl, n, os, rfl⟩
    exact ⟨_, rfl, St.unsep (St.addPur rfl (St.sorted1 (enc := Value.int .i64) (fun _ => rfl) rfl hw (sortI_len xs) n os))⟩
end
end Go.Vc
/-
  Plain words: three numbers in order; systems that are turned.
-/
namespace Go.Vc
open Go Go.RowKit
section
variable {P : Program} {w0 w : World} {H : List Assn} {T c g : Nat}
end
/-- The points, turned. -/
def turnL (v k : Int) (n : Nat) : List Int := (List.range n).map fun a : Nat => ((a : Int) + k) % v
/-- The blocks, turned, in some order. -/
def turnB (v k : Int) (bs : List B3) : List B3 := bs.map (renB (turnL v k v.toNat))
/-- What both TurnSystem return. -/
def TSR (v : Int) (bs : List B3) (k : Int) (r : List B3) : Prop := if STS v bs ∧ 0 ≤ k ∧ k ≤ v - 1 then r.Perm (turnB v k bs) ∧ SrtB r else r = []
theorem TSR.len {v : Int} {bs : List B3} {k : Int} {r : List B3} (h : TSR v bs k r) : r.length ≤ bs.length := by
  unfold TSR at h
  split at h
  · rw [h.1.length_eq]; simp [turnB]
  · simp [h]
/-- No block is in common with the turned ones. -/
def apT (v : Int) (bs : List B3) (k : Int) : Prop := ∀ b ∈ bs, b ∉ turnB v k bs
instance (v : Int) (bs : List B3) (k : Int) : Decidable (apT v bs k) := inferInstanceAs (Decidable (∀ b ∈ bs, b ∉ turnB v k bs))
/-- The least turn that is apart, and the code: what both MateByTurning return. -/
def MTR (v : Int) (bs : List B3) (r code : Int) : Prop :=
  (¬ STS v bs → r = 0 ∧ code = 1) ∧ (STS v bs → (1 ≤ r ∧ r < v ∧ apT v bs r ∧ (∀ j, 1 ≤ j → j < r → ¬ apT v bs j) ∧ code = 0) ∨ ((∀ j, 1 ≤ j → j < v → ¬ apT v bs j) ∧ r = 0 ∧ code = 4))
end Go.Vc
/-
  Plain words: how many completions there can be; which systems' completions are asked for.
-/
namespace Go.Vc
theorem len_sub {α : Type} [DecidableEq α] : ∀ (l1 l2 : List α), l1.Nodup → (∀ x ∈ l1, x ∈ l2) → l1.length ≤ l2.length := by
  intro l1
  induction l1 with
  | nil => intro l2 _ _; simp
  | cons x l1 ih =>
    intro l2 hn h
    obtain ⟨h1, h2⟩ := List.nodup_cons.1 hn
    have hx := h x (by simp)
    have h3 := ih (l2.erase x) h2 (fun y hy => (List.mem_erase_of_ne (by intro e; subst e; exact h1 hy)).2 (h y (by simp [hy])))
    rw [List.length_erase_of_mem hx] at h3
    have := List.length_pos_of_mem hx
    simp only [List.length_cons]
    omega
/-- A bound of the number of completions by n blocks. -/
def cbF : Nat → Nat
  | 0 => 1
  | n + 1 => min 13 ((3 * n + 2) / 2) * cbF n
section
variable {v m a b k n : Nat}
end
/-! ### Up to most of them -/
/-! ### Codes -/
def told (v : Int) : Prop := v = 3 ∨ v = 7 ∨ v = 9 ∨ v = 13 ∨ v = 15
instance (v : Int) : Decidable (told v) := inferInstanceAs (Decidable (_ ∨ _))
def missN (v : Int) (bs : List B3) : Int := v * (v - 1) / 6 - bs.length
/-- The code of the missing number. -/
noncomputable def mnC (v : Int) (bs : List B3) : Int := if STS v bs then if told v then 0 else 5 else 1
/-- The code of completions. -/
noncomputable def cpC (v : Int) (bs : List B3) : Int := if STS v bs then if told v then if 12 < missN v bs then 3 else 0 else 5 else 1
section
variable {v : Int} {bs : List B3}
/-- The completions of a system, each as the blocks that are put in. -/
noncomputable def cmpl (v : Int) (bs : List B3) : List (List B3) := compM 40 v.toNat (maskB 0 bs)
/-- Each of the first lists is one of the second ones, in order. -/
def RelS (l cs : List (List B3)) : Prop := cs.length = l.length ∧ ∀ i (h1 : i < l.length) (h2 : i < cs.length), (cs[i]).Perm l[i] ∧ SrtB cs[i]
end
end Go.Vc
/-
  Plain words: the triples of points that something lets through, in order; the blocks that are still free.
-/
namespace Go.Vc
section
variable (p : B3 → Prop) [DecidablePred p]
def triC (a b k : Nat) : List B3 := (List.range k).flatMap fun c => if b < c ∧ p (b3N a b c) then [b3N a b c] else []
def triB (v a k : Nat) : List B3 := (List.range k).flatMap fun b => if a < b then triC p a b v else []
def triA (v k : Nat) : List B3 := (List.range k).flatMap fun a => triB p v a v
end
section
variable {p q : B3 → Prop} [DecidablePred p] [DecidablePred q] {a b k v : Nat}
theorem flat_congr {α β : Type} {l : List α} {f g : α → List β} (h : ∀ x ∈ l, f x = g x) : l.flatMap f = l.flatMap g := by
  induction l with
  | nil => rfl
  | cons x l ih => rw [List.flatMap_cons, List.flatMap_cons, h x (by simp), ih (fun y hy => h y (by simp [hy]))]
end
/-- A block that has at most a point in common with each block there is. -/
def FreeB (bs : List B3) (b : B3) : Prop := ∀ d ∈ bs, common d b ≤ 1
instance (bs : List B3) (b : B3) : Decidable (FreeB bs b) := inferInstanceAs (Decidable (∀ d ∈ bs, common d b ≤ 1))
/-- The blocks that are free. -/
def freeL (v : Int) (bs : List B3) : List B3 := triA (FreeB bs) v.toNat v.toNat
/-! ### Up to most completions -/
/-- The code of the first completion. -/
noncomputable def fcC (v : Int) (bs : List B3) : Int := if cpC v bs = 0 then if (cmpl v bs).length = 0 then 4 else 0 else cpC v bs
/-- The first completion. -/
def FstC (v : Int) (bs r : List B3) : Prop := ∃ h : 0 < (cmpl v bs).length, r.Perm (bs ++ (cmpl v bs)[0]) ∧ SrtB r
end Go.Vc
/-
  Plain words: families of systems of nine points that are apart, each system as the bits of its blocks.
-/
namespace Go.Vc
/-! ### Bits -/
/-- The first bit that is not set. -/
def pivD (D : Nat) : Nat := ((List.range 84).find? fun n => !D.testBit n).getD 84
theorem pivD_spec {D n : Nat} (hn : n < 84) (h1 : D.testBit n = false) : pivD D ≤ n ∧ D.testBit (pivD D) = false ∧ ∀ j, j < pivD D → D.testBit j = true := by
  obtain ⟨m, hm⟩ : ∃ m, (List.range 84).find? (fun n => !D.testBit n) = some m := by
    cases h : (List.range 84).find? (fun n => !D.testBit n) with
    | some m => exact ⟨m, rfl⟩
    | none =>
      rw [List.find?_eq_none] at h
      have := h n (List.mem_range.2 hn)
      rw [h1] at this
      simp at this
  have e : pivD D = m := by unfold pivD; rw [hm]; rfl
  rw [List.find?_range_eq_some] at hm
  rw [e]
  refine ⟨?_, by simpa using hm.1, fun j hj => by simpa using hm.2.2 j hj⟩
  apply Decidable.byContradiction
  intro hc
  have := hm.2.2 n (by omega)
  rw [h1] at this
  simp at this
theorem land_bits {a b : Nat} : a &&& b = 0 ↔ ∀ j, ¬ (a.testBit j = true ∧ b.testBit j = true) := by
  constructor
  · intro h j hj
    have h2 : (a &&& b).testBit j = true := by rw [Nat.testBit_and, hj.1, hj.2]; rfl
    rw [h, Nat.zero_testBit] at h2
    cases h2
  · intro h
    apply Nat.eq_of_testBit_eq
    intro j
    rw [Nat.testBit_and, Nat.zero_testBit]
    have := h j
    cases ha : a.testBit j <;> cases hb : b.testBit j <;> simp_all
/-- Two words. -/
theorem land_words {a b k : Nat} : a &&& b = 0 ↔ (a % 2 ^ k) &&& (b % 2 ^ k) = 0 ∧ (a / 2 ^ k) &&& (b / 2 ^ k) = 0 := by
  rw [land_bits, land_bits, land_bits]
  constructor
  · intro h
    refine ⟨fun j hj => ?_, fun j hj => ?_⟩
    · rw [Nat.testBit_mod_two_pow, Nat.testBit_mod_two_pow] at hj
      simp only [Bool.and_eq_true, decide_eq_true_eq] at hj
      exact h j ⟨hj.1.2, hj.2.2⟩
    · rw [Nat.testBit_div_two_pow, Nat.testBit_div_two_pow] at hj
      exact h _ hj
  · rintro ⟨h1, h2⟩ j hj
    by_cases hk : j < k
    · refine h1 j ?_
      rw [Nat.testBit_mod_two_pow, Nat.testBit_mod_two_pow]
      simp [hk, hj.1, hj.2]
    · refine h2 (j - k) ?_
      rw [Nat.testBit_div_two_pow, Nat.testBit_div_two_pow, show j - k + k = j by omega]
      exact hj
theorem lor_mod {a b k : Nat} : (a ||| b) % 2 ^ k = (a % 2 ^ k) ||| (b % 2 ^ k) := by
  apply Nat.eq_of_testBit_eq
  intro j
  simp only [Nat.testBit_or, Nat.testBit_mod_two_pow]
  cases decide (j < k) <;> simp
theorem lor_div {a b k : Nat} : (a ||| b) / 2 ^ k = (a / 2 ^ k) ||| (b / 2 ^ k) := by
  apply Nat.eq_of_testBit_eq
  intro j
  simp only [Nat.testBit_or, Nat.testBit_div_two_pow]
/-! ### How many bits -/
def onesR (n D : Nat) : Nat := ((List.range n).filter fun j => D.testBit j).length
theorem ones_or {a b : Nat} (h : a &&& b = 0) (n : Nat) : onesR n (a ||| b) = onesR n a + onesR n b := by
  unfold onesR
  have hb := land_bits.1 h
  induction n with
  | zero => rfl
  | succ n ih =>
    rw [List.range_succ, List.filter_append, List.filter_append, List.filter_append, List.length_append, List.length_append, List.length_append, ih]
    have := hb n
    simp only [List.filter_cons, List.filter_nil, Nat.testBit_or]
    cases ha : a.testBit n <;> cases hbb : b.testBit n <;> simp_all <;> omega
theorem ones_all {D n : Nat} (h : n ≤ onesR n D) : ∀ j, j < n → D.testBit j = true := by
  intro j hj
  unfold onesR at h
  have h1 : (List.range n).filter (fun j => D.testBit j) = List.range n := by
    apply List.filter_sublist.eq_of_length
    have := List.length_filter_le (fun j => D.testBit j) (List.range n)
    simp only [List.length_range] at *
    omega
  have h2 : j ∈ (List.range n).filter fun j => D.testBit j := by rw [h1]; exact List.mem_range.2 hj
  exact (List.mem_filter.1 h2).2
theorem ones_not {D n : Nat} (h : onesR n D < n) : ∃ j, j < n ∧ D.testBit j = false := by
  apply Classical.byContradiction
  intro hc
  have h1 : ∀ j, j < n → D.testBit j = true := by
    intro j hj
    cases hd : D.testBit j with
    | true => rfl
    | false => exact absurd ⟨j, hj, hd⟩ hc
  have h2 : (List.range n).filter (fun j => D.testBit j) = List.range n := List.filter_eq_self.2 fun j hj => h1 j (List.mem_range.1 hj)
  unfold onesR at h
  rw [h2, List.length_range] at h
  omega
/-! ### The families -/
/-- What is asked of the systems: each has one of the first seven bits, in this order, and 12 of 84 bits. -/
structure Nines (ms : List Nat) : Prop where
  len : ms.length = 840
  lt : ∀ i (h : i < ms.length), ms[i] < 2 ^ 84
  piv : ∀ i (h : i < ms.length), ms[i] % 128 = 2 ^ (i / 120)
  ones : ∀ i (h : i < ms.length), onesR 84 ms[i] = 12
  dif : ms.Nodup
/-- Systems that go on: the next one has the first bit that is missing, and is apart. -/
def nextF (D S : Nat) : Prop := S.testBit (pivD D) = true ∧ S &&& D = 0
instance (D S : Nat) : Decidable (nextF D S) := inferInstanceAs (Decidable (_ ∧ _))
def famT (ms : List Nat) : Nat → List Int → Nat → List (List Int)
  | 0, now, D => [now]
  | k + 1, now, D => (List.range ms.length).flatMap fun i => if nextF D (ms.getD i 0) then famT ms k (now ++ [(i : Int)]) (D ||| ms.getD i 0) else []
/-- What is there, when k systems are missing. -/
structure Fam (k D : Nat) : Prop where
  k6 : k ≤ 6
  lt : D < 2 ^ 84
  o7 : onesR 7 D = 7 - k
  o84 : onesR 84 D = 12 * (7 - k)
section
variable {ms : List Nat} {D k i j n : Nat} {now : List Int}
theorem mod_bit {a : Nat} (hj : j < 7) : a.testBit j = (a % 128).testBit j := by
  rw [show (128 : Nat) = 2 ^ 7 from rfl, Nat.testBit_mod_two_pow]
  simp [hj]
theorem Nines.bit (h : Nines ms) (hi : i < ms.length) (hj : j < 7) : ms[i].testBit j = decide (j = i / 120) := by
  rw [mod_bit hj, h.piv i hi, Nat.testBit_two_pow]
  by_cases e : i / 120 = j
  · simp [e]
  · simp [e, Ne.symm e]
theorem ones7_mod {a : Nat} : onesR 7 a = onesR 7 (a % 128) := by
  unfold onesR
  congr 1
  apply List.filter_congr
  intro j hj
  exact mod_bit (List.mem_range.1 hj)
theorem ones7_pow : ∀ c, c < 7 → onesR 7 (2 ^ c) = 1 := by decide
theorem Nines.o7 (h : Nines ms) (hi : i < ms.length) : onesR 7 ms[i] = 1 := by
  rw [ones7_mod, h.piv i hi]
  exact ones7_pow _ (by have := h.len; omega)
theorem Nines.fam (h : Nines ms) (hi : i < ms.length) : Fam 6 ms[i] := ⟨Nat.le_refl _, h.lt i hi, h.o7 hi, h.ones i hi⟩
theorem Fam.piv (h : Fam k D) (hk : 0 < k) : pivD D < 7 ∧ D.testBit (pivD D) = false ∧ ∀ j, j < pivD D → D.testBit j = true := by
  have h1 := h.o7
  obtain ⟨j, hj, hb⟩ := ones_not (n := 7) (D := D) (by omega)
  have := pivD_spec (by omega : j < 84) hb
  exact ⟨by omega, this.2⟩
theorem Fam.step (hn : Nines ms) (h : Fam (k + 1) D) (hi : i < ms.length) (hx : nextF D ms[i]) : Fam k (D ||| ms[i]) := by
  have hand : D &&& ms[i] = 0 := by rw [Nat.and_comm]; exact hx.2
  have hk := h.k6
  have h7 := h.o7
  have h8 := h.o84
  have h9 := hn.o7 hi
  have h10 := hn.ones i hi
  refine ⟨by omega, Nat.or_lt_two_pow h.lt (hn.lt i hi), ?_, ?_⟩
  · rw [ones_or hand]; omega
  · rw [ones_or hand]; omega
/-- The next one's number tells which of the first bits it has. -/
theorem next_piv (hn : Nines ms) (h : Fam (k + 1) D) (hi : i < ms.length) (hx : nextF D ms[i]) : i / 120 = pivD D := by
  have h1 := h.piv (by omega)
  have h2 := hx.1
  rw [hn.bit hi h1.1] at h2
  exact (of_decide_eq_true h2).symm
theorem piv_up (hn : Nines ms) (h : Fam (k + 2) D) (hi : i < ms.length) (hx : nextF D ms[i]) : pivD D < pivD (D ||| ms[i]) := by
  have h1 := h.piv (by omega)
  have h2 := (Fam.step hn h hi hx).piv (by omega)
  apply Decidable.byContradiction
  intro hc
  have h3 : (D ||| ms[i]).testBit (pivD (D ||| ms[i])) = true := by
    rw [Nat.testBit_or]
    by_cases e : pivD (D ||| ms[i]) = pivD D
    · rw [e, hx.1, Bool.or_true]
    · rw [h1.2.2 _ (by omega), Bool.true_or]
  rw [h2.2.1] at h3
  cases h3
/-- Those that come ahead are of no use any more. -/
theorem next_from (hn : Nines ms) (h : Fam (k + 2) D) (hi : i < ms.length) (hx : nextF D ms[i]) {i' : Nat} (hi' : i' ≤ i) : ¬ nextF (D ||| ms[i]) (ms[i']'(by omega)) := by
  intro hc
  have h1 := next_piv hn h hi hx
  have h2 := next_piv hn (Fam.step hn h hi hx) (by omega) hc
  have h3 := piv_up hn h hi hx
  have : i' / 120 ≤ i / 120 := Nat.div_le_div_right hi'
  omega
/-- The last one is the only one. -/
theorem last_one (hn : Nines ms) (h : Fam 1 D) (hi : i < ms.length) (hj : j < ms.length) (hx : nextF D ms[i]) (hy : nextF D ms[j]) : i = j := by
  have key : ∀ i (hi : i < ms.length), nextF D ms[i] → ∀ b, b < 84 → ms[i].testBit b = !D.testBit b := by
    intro i hi hx b hb
    have h1 := (Fam.step hn h hi hx).o84
    have h2 := ones_all (D := D ||| ms[i]) (n := 84) (by omega) b hb
    rw [Nat.testBit_or] at h2
    have h3 := land_bits.1 hx.2 b
    cases hd : D.testBit b <;> cases hm : ms[i].testBit b <;> simp_all
  have e : ms[i] = ms[j] := by
    apply Nat.eq_of_testBit_eq
    intro b
    by_cases hb : b < 84
    · rw [key i hi hx b hb, key j hj hy b hb]
    · have hp : 2 ^ 84 ≤ 2 ^ b := Nat.pow_le_pow_right (by decide) (by omega)
      rw [Nat.testBit_lt_two_pow (by have := hn.lt i hi; omega), Nat.testBit_lt_two_pow (by have := hn.lt j hj; omega)]
  exact (List.getElem_inj hn.dif).1 e
/-! ### How many -/
/-- Of the systems with a bit, those that are apart from a system are 32 at most. -/
def Few32 (ms : List Nat) : Prop := ∀ X ∈ ms, ∀ n, n < 7 → (ms.filter fun S => S.testBit n && (S &&& X == 0)).length ≤ 32
theorem fam_step : famT ms (k + 1) now D = (List.range ms.length).flatMap fun i => if nextF D (ms.getD i 0) then famT ms k (now ++ [(i : Int)]) (D ||| ms.getD i 0) else [] := rfl
theorem flat_lenF {α : Type} {p : Nat → Prop} [DecidablePred p] {f : Nat → List α} {K : Nat} : ∀ l : List Nat, (∀ c ∈ l, p c → (f c).length ≤ K) → (l.flatMap fun c => if p c then f c else []).length ≤ (l.filter fun c => decide (p c)).length * K := by
  intro l
  induction l with
  | nil => intro _; simp
  | cons c l ih =>
    intro h
    have h1 := ih (fun d hd => h d (by simp [hd]))
    rw [List.flatMap_cons, List.length_append, List.filter_cons]
    by_cases hp : p c
    · have := h c (by simp) hp
      rw [if_pos hp, if_pos (by simpa using hp), List.length_cons, Nat.add_mul]
      omega
    · rw [if_neg hp, if_neg (by simpa using hp)]
      simpa using h1
theorem sub_land {X D S : Nat} (hX : X &&& D = X) (h : S &&& D = 0) : S &&& X = 0 := by
  rw [land_bits] at h ⊢
  intro j hj
  refine h j ⟨hj.1, ?_⟩
  have : (X &&& D).testBit j = true := by rw [hX]; exact hj.2
  rw [Nat.testBit_and] at this
  simp only [Bool.and_eq_true] at this
  exact this.2
theorem sub_or {X D S : Nat} (hX : X &&& D = X) : X &&& (D ||| S) = X := by
  apply Nat.eq_of_testBit_eq
  intro j
  have h : (X &&& D).testBit j = X.testBit j := by rw [hX]
  rw [Nat.testBit_and] at h ⊢
  rw [Nat.testBit_or]
  cases hx : X.testBit j <;> simp_all
theorem nodup_1F {l : List Nat} (h1 : l.Nodup) (h2 : ∀ x ∈ l, ∀ y ∈ l, x = y) : l.length ≤ 1 := by
  match l, h1, h2 with
  | [], _, _ => simp
  | [a], _, _ => simp
  | a :: b :: l, h1, h2 =>
    have := h2 a (by simp) b (by simp)
    subst this
    simp at h1
theorem fam_bound (hn : Nines ms) (hf : Few32 ms) {X : Nat} (hX : X ∈ ms) : ∀ k D now, Fam k D → X &&& D = X → (famT ms k now D).length ≤ 32 ^ (k - 1) := by
  intro k
  induction k with
  | zero => intro D now h _; simp [famT]
  | succ k ih =>
    intro D now h hXD
    rw [fam_step]
    have hp := h.piv (by omega)
    have hat : ∀ i (hi : i < ms.length), ms.getD i 0 = ms[i] := fun i hi => by simp [hi]
    have h1 := flat_lenF (p := fun i => nextF D (ms.getD i 0)) (f := fun i => famT ms k (now ++ [(i : Int)]) (D ||| ms.getD i 0)) (K := 32 ^ (k - 1)) (List.range ms.length) (fun i hi hx => by
      have hi := List.mem_range.1 hi
      rw [hat i hi] at hx ⊢
      exact ih _ _ (Fam.step hn h hi hx) (sub_or hXD))
    refine Nat.le_trans h1 ?_
    cases k with
    | zero =>
      have h2 : ((List.range ms.length).filter fun i => decide (nextF D (ms.getD i 0))).length ≤ 1 := nodup_1F (List.nodup_range.filter _) (fun x hx y hy => by
        obtain ⟨hx1, hx2⟩ := List.mem_filter.1 hx
        obtain ⟨hy1, hy2⟩ := List.mem_filter.1 hy
        have hx1 := List.mem_range.1 hx1
        have hy1 := List.mem_range.1 hy1
        rw [hat _ hx1, decide_eq_true_eq] at hx2
        rw [hat _ hy1, decide_eq_true_eq] at hy2
        exact last_one hn h hx1 hy1 hx2 hy2)
      simpa using h2
    | succ k =>
      have h2 : ((List.range ms.length).filter fun i => decide (nextF D (ms.getD i 0))).length ≤ 32 := by
        refine Nat.le_trans ?_ (hf X hX (pivD D) hp.1)
        rw [← List.length_map (f := fun i => ms.getD i 0)]
        refine len_sub _ _ ?_ (fun S hS => ?_)
        · rw [List.nodup_iff_pairwise_ne, List.pairwise_map]
          refine ((List.nodup_iff_pairwise_ne.1 (List.nodup_range.filter _)).imp_of_mem fun {a b} ha hb hab => ?_)
          have ha := List.mem_range.1 (List.mem_filter.1 ha).1
          have hb := List.mem_range.1 (List.mem_filter.1 hb).1
          rw [hat _ ha, hat _ hb]
          exact fun e => hab ((List.getElem_inj hn.dif).1 e)
        · obtain ⟨i, hi, rfl⟩ := List.mem_map.1 hS
          obtain ⟨hi1, hi2⟩ := List.mem_filter.1 hi
          have hi3 := List.mem_range.1 hi1
          rw [decide_eq_true_eq] at hi2
          have hi4 := hi2
          rw [hat _ hi3] at hi4
          refine List.mem_filter.2 ⟨by rw [hat _ hi3]; exact List.getElem_mem _, ?_⟩
          rw [hat _ hi3, hi4.1, sub_land hXD hi4.2]
          rfl
      rw [show k + 1 + 1 - 1 = (k + 1 - 1) + 1 by omega, Nat.pow_succ, Nat.mul_comm]
      exact Nat.mul_le_mul_left _ h2
end
end Go.Vc
