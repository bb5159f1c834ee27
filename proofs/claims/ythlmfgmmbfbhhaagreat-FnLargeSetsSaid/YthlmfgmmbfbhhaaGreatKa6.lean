/-
  The calculus and plain words, part 6.
-/
import Derived.Test.YthlmfgmmbfbhhaaGreatKa5
import Derived.Shelf.SlSortCmp.NoneTotal
import Derived.Shelf.SortM.Plain
import Derived.Shelf.SortM.SortNone
import Derived.Laws.OwnMore
set_option linter.unusedVariables false
set_option linter.unusedSimpArgs false
/-
  Plain words: the number of a system; what is common.
-/
namespace Go.Vc
def few9 (v : Int) : Prop := v = 3 ∨ v = 7 ∨ v = 9
instance (v : Int) : Decidable (few9 v) := inferInstanceAs (Decidable (_ ∨ _))
/-- Full, with few points. -/
def Few (v : Int) (bs : List B3) : Prop := few9 v ∧ 6 * (bs.length : Int) = v * (v - 1)
instance (v : Int) (bs : List B3) : Decidable (Few v bs) := inferInstanceAs (Decidable (_ ∧ _))
/-- All systems of few points. -/
noncomputable def allN (v : Int) : List (List B3) := compM 40 v.toNat 0
theorem few_len {v : Int} (h : few9 v) : (compM 40 v.toNat 0).length ≤ 1000 ∧ leftN v.toNat 0 ≤ 40 ∧ v.toNat ≤ 15 ∧ 0 ≤ v := by
  rcases h with rfl | rfl | rfl
  · exact ⟨by rw [cntM_eq]; show cntM 40 3 0 ≤ 1000; rw [cnt3]; decide, by show leftN 3 0 ≤ 40; rw [left3]; decide, by decide, by decide⟩
  · exact ⟨by rw [cntM_eq]; show cntM 40 7 0 ≤ 1000; rw [cnt7]; decide, by show leftN 7 0 ≤ 40; rw [left7]; decide, by decide, by decide⟩
  · exact ⟨by rw [cntM_eq]; show cntM 40 9 0 ≤ 1000; rw [cnt9]; decide, by show leftN 9 0 ≤ 40; rw [left9]; decide, by decide, by decide⟩
theorem sts_mul {v : Int} {bs : List B3} (h : STS v bs) : 0 ≤ v * (v - 1) ∧ v * (v - 1) ≤ 1000000 := by
  have h1 := h.lo
  have h2 := h.hi
  refine ⟨Int.mul_nonneg (by omega) (by omega), ?_⟩
  have := Int.mul_le_mul h2 (show v - 1 ≤ 15 by omega) (by omega) (by omega)
  omega
theorem few_left {v : Int} {bs : List B3} (h : Few v bs) : 3 * bs.length = leftN v.toNat 0 := by
  obtain ⟨h1, h2⟩ := h
  rcases h1 with rfl | rfl | rfl
  · show 3 * bs.length = leftN 3 0; rw [left3]; omega
  · show 3 * bs.length = leftN 7 0; rw [left7]; omega
  · show 3 * bs.length = leftN 9 0; rw [left9]; omega
theorem few_mem {v : Int} {bs : List B3} (h : STS v bs) (hf : Few v bs) : bs ∈ allN v := by
  have h0 := (few_len hf.1)
  have h1 := few_left hf
  obtain ⟨vn, rfl⟩ := Int.eq_ofNat_of_zero_le h0.2.2.2
  exact sts_mem h h1 (by have := h.few; omega)
/-- The number of a system, and the code. -/
def NOS (v : Int) (bs : List B3) (r code : Int) : Prop := (¬ STS v bs → r = 0 ∧ code = 1) ∧ (STS v bs → ¬ Few v bs → r = 0 ∧ code = 5) ∧ (STS v bs → Few v bs → r = idxP (fun q => bs = q) (allN v) ∧ code = 0)
theorem NOS.unique {v : Int} {bs : List B3} {r c s d : Int} (h : NOS v bs r c) (g : NOS v bs s d) : r = s ∧ c = d := by
  by_cases hS : STS v bs
  · by_cases hf : Few v bs
    · have := h.2.2 hS hf; have := g.2.2 hS hf; omega
    · have := h.2.1 hS hf; have := g.2.1 hS hf; omega
  · have := h.1 hS; have := g.1 hS; omega
theorem befB_at : ∀ {a b : List B3} {i : Nat} (h1 : i < a.length) (h2 : i < b.length), a.take i = b.take i → ¬ a[i] = b[i] → (B3.lt a[i] b[i] ↔ befB a b) := by
  intro a
  induction a with
  | nil => intro b i h1; simp at h1
  | cons x a ih =>
    intro b i h1 h2 he hne
    cases b with
    | nil => simp at h2
    | cons y b =>
      cases i with
      | zero =>
        simp only [List.getElem_cons_zero] at hne ⊢
        unfold befB
        rw [if_neg hne]
      | succ i =>
        simp only [List.take_succ_cons, List.cons.injEq] at he
        simp only [List.getElem_cons_succ] at hne ⊢
        unfold befB
        rw [if_pos he.1]
        exact ih (by simp only [List.length_cons] at h1; omega) (by simp only [List.length_cons] at h2; omega) he.2 hne
theorem befB_pre {b : List B3} : ∀ {a : List B3} {n : Nat}, a = b.take n → ¬ befB a b := by
  induction b with
  | nil => intro a n h; subst h; simp [befB]
  | cons y b ih =>
    intro a n h
    cases n with
    | zero => subst h; simp [befB]
    | succ n =>
      subst h
      simp only [List.take_succ_cons]
      unfold befB
      rw [if_pos rfl]
      exact ih rfl
end Go.Vc
/-
  The calculus, part 17: the least and the greatest of integers.
-/
namespace Go.Vc
open Go Go.RowKit
section
variable {P : Program} {w0 w : World} {Q : Exit → Act → World → Prop} {σ : Sig} {H : List Assn} {o : Oper} {ts : Array TypeId}
theorem run_min2 (a b : Int) : (Builtin.min2 (.int .i64 a) (.int .i64 b)).run P w = .ok (.int .i64 (if b < a then b else a)) w := by
  unfold Builtin.min2
  by_cases h : b < a <;> simp [h]
theorem run_max2 (a b : Int) : (Builtin.max2 (.int .i64 a) (.int .i64 b)).run P w = .ok (.int .i64 (if a < b then b else a)) w := by
  unfold Builtin.max2
  by_cases h : a < b <;> simp [h]
theorem Pu.min2 {x y : Operand} {a b r : Int} (hr : r = if b < a then b else a) (ho : o.op = .call { callee := .builtin .min, args := #[x, y], argTypes := ts }) (hx : ev σ x = some (.int .i64 a)) (hy : ev σ y = some (.int .i64 b)) : Pu P w0 o σ H (.int .i64 r) := by
  subst hr
  intro w hw c ha
  have h1 := ha x (by simp [ho, Op.operands, Call.operands]) _ hx
  have h2 := ha y (by simp [ho, Op.operands, Call.operands]) _ hy
  simp [execOp, ho, h1, h2, resolve, invoke, builtin, Builtin.min_, run_min2]
theorem Pu.max2 {x y : Operand} {a b r : Int} (hr : r = if a < b then b else a) (ho : o.op = .call { callee := .builtin .max, args := #[x, y], argTypes := ts }) (hx : ev σ x = some (.int .i64 a)) (hy : ev σ y = some (.int .i64 b)) : Pu P w0 o σ H (.int .i64 r) := by
  subst hr
  intro w hw c ha
  have h1 := ha x (by simp [ho, Op.operands, Call.operands]) _ hx
  have h2 := ha y (by simp [ho, Op.operands, Call.operands]) _ hy
  simp [execOp, ho, h1, h2, resolve, invoke, builtin, Builtin.max_, run_max2]
theorem Pu.min3 {x y z : Operand} {a b d r : Int} (hr : r = if d < (if b < a then b else a) then d else (if b < a then b else a)) (ho : o.op = .call { callee := .builtin .min, args := #[x, y, z], argTypes := ts }) (hx : ev σ x = some (.int .i64 a)) (hy : ev σ y = some (.int .i64 b)) (hz : ev σ z = some (.int .i64 d)) : Pu P w0 o σ H (.int .i64 r) := by
  subst hr
  intro w hw c ha
  have h1 := ha x (by simp [ho, Op.operands, Call.operands]) _ hx
  have h2 := ha y (by simp [ho, Op.operands, Call.operands]) _ hy
  have h3 := ha z (by simp [ho, Op.operands, Call.operands]) _ hz
  simp [execOp, ho, h1, h2, h3, resolve, invoke, builtin, Builtin.min_, run_min2]
theorem Pu.max3 {x y z : Operand} {a b d r : Int} (hr : r = if (if a < b then b else a) < d then d else (if a < b then b else a)) (ho : o.op = .call { callee := .builtin .max, args := #[x, y, z], argTypes := ts }) (hx : ev σ x = some (.int .i64 a)) (hy : ev σ y = some (.int .i64 b)) (hz : ev σ z = some (.int .i64 d)) : Pu P w0 o σ H (.int .i64 r) := by
  subst hr
  intro w hw c ha
  have h1 := ha x (by simp [ho, Op.operands, Call.operands]) _ hx
  have h2 := ha y (by simp [ho, Op.operands, Call.operands]) _ hy
  have h3 := ha z (by simp [ho, Op.operands, Call.operands]) _ hz
  simp [execOp, ho, h1, h2, h3, resolve, invoke, builtin, Builtin.max_, run_max2]
end
end Go.Vc
/-
  Plain words: blocks in order, by insertion.
-/
namespace Go.Vc
def leB (a b : B3) : Prop := ¬ B3.lt b a
theorem leB_trans {a b c : B3} (h1 : leB a b) (h2 : leB b c) : leB a c := by unfold leB B3.lt at *; omega
theorem leB_of {a b : B3} (h : B3.lt a b) : leB a b := by unfold leB B3.lt at *; omega
theorem leB_anti {a b : B3} (h1 : leB a b) (h2 : leB b a) : a = b := by
  obtain ⟨a1, a2, a3⟩ := a
  obtain ⟨b1, b2, b3⟩ := b
  unfold leB B3.lt at *
  simp only at *
  have e1 : a1 = b1 := by omega
  have e2 : a2 = b2 := by omega
  have e3 : a3 = b3 := by omega
  rw [e1, e2, e3]
def SrtB (l : List B3) : Prop := l.Pairwise leB
theorem ins_perm {l : List B3} {b : B3} {y : Nat} : (l.take y ++ b :: l.drop y).Perm (l ++ [b]) := by
  refine List.perm_middle.trans ?_
  rw [List.take_append_drop]
  exact (List.perm_append_comm (l₁ := [b])).trans (List.Perm.refl _)
theorem ins_sorted {l : List B3} {b : B3} {y : Nat} (hs : SrtB l) (hy : y ≤ l.length) (h1 : ∀ j (hj : j < l.length), y ≤ j → B3.lt b l[j]) (h2 : ∀ (h0 : 0 < y), ¬ B3.lt b (l[y - 1]'(by omega))) : SrtB (l.take y ++ b :: l.drop y) := by
  have hp := List.pairwise_iff_getElem.1 hs
  unfold SrtB
  rw [List.pairwise_append, List.pairwise_cons]
  have hd : ∀ x ∈ l.drop y, B3.lt b x := by
    intro x hx
    obtain ⟨j, hj, rfl⟩ := List.getElem_of_mem hx
    rw [List.length_drop] at hj
    rw [List.getElem_drop]
    exact h1 (y + j) (by omega) (by omega)
  have ht : ∀ x ∈ l.take y, leB x b := by
    intro x hx
    obtain ⟨j, hj, rfl⟩ := List.getElem_of_mem hx
    rw [List.length_take] at hj
    rw [List.getElem_take]
    have h3 := h2 (by omega)
    by_cases e : j = y - 1
    · subst e; exact h3
    · exact leB_trans (hp j (y - 1) (by omega) (by omega) (by omega)) h3
  refine ⟨hs.sublist (List.take_sublist _ _), ⟨fun x hx => leB_of (hd x hx), hs.sublist (List.drop_sublist _ _)⟩, fun x hx z hz => ?_⟩
  rcases List.mem_cons.1 hz with rfl | hz
  · exact ht x hx
  · exact leB_trans (ht x hx) (leB_of (hd z hz))
theorem srtB_unique : ∀ {l m : List B3}, SrtB l → SrtB m → l.Perm m → l = m := by
  intro l
  induction l with
  | nil => intro m _ _ h; exact (List.Perm.nil_eq h)
  | cons a l ih =>
    intro m h1 h2 h
    cases m with
    | nil => exact absurd h.length_eq (by simp)
    | cons b m =>
      obtain ⟨ha, hl⟩ := List.pairwise_cons.1 h1
      obtain ⟨hb, hm⟩ := List.pairwise_cons.1 h2
      have e : a = b := by
        rcases List.mem_cons.1 (h.mem_iff.1 (List.mem_cons_self ..)) with e | e
        · exact e
        · rcases List.mem_cons.1 (h.mem_iff.2 (List.mem_cons_self ..)) with e' | e'
          · exact e'.symm
          · exact leB_anti (ha b e') (hb a e)
      subst e
      rw [ih hl hm (List.Perm.cons_inv h)]
theorem srtB_lt {l : List B3} (h : l.Pairwise B3.lt) : SrtB l := h.imp leB_of
end Go.Vc
/-
  The calculus, part 18: a search for completions that keeps or counts them.
-/
namespace Go.Vc
open Go Go.RowKit
section
variable {v m a b c n p k : Nat} {U : List Bool}
/-- The pairs that are used, by their numbers. -/
def RelU (v : Nat) (U : List Bool) (m : Nat) : Prop := U.length = 256 ∧ ∀ x y : Nat, x < v → y < v → x ≠ y → U.getD (prI x y) false = usd m x y
theorem prI_lt (ha : a < 16) (hb : b < 16) : prI a b < 256 := by unfold prI; omega
theorem getD_set {i j : Nat} {x : Bool} (hi : i < U.length) : (U.set i x).getD j false = if j = i then x else U.getD j false := by
  rw [List.getD_eq_getElem?_getD, List.getD_eq_getElem?_getD, List.getElem?_set]
  by_cases e : j = i
  · subst e; simp [hi]
  · rw [if_neg (fun h => e h.symm), if_neg e]
theorem relU_at (h : RelU v U m) {x y : Nat} (hx : x < v) (hy : y < v) (hne : x ≠ y) (hk : prI x y < U.length) : U[prI x y] = usd m x y := by
  have := h.2 x y hx hy hne
  rwa [List.getD_eq_getElem?_getD, List.getElem?_eq_getElem hk] at this
theorem relU_put (h : RelU v U m) (ha : a < b) (hb : b < c) (hc : c < v) (hv : v ≤ 15) : RelU v (((U.set (prI a b) true).set (prI a c) true).set (prI b c) true) (putM m a b c) := by
  have l1 := prI_lt (a := a) (b := b) (by omega) (by omega)
  have l2 := prI_lt (a := a) (b := c) (by omega) (by omega)
  have l3 := prI_lt (a := b) (b := c) (by omega) (by omega)
  refine ⟨by simp [h.1], fun x y hx hy hne => ?_⟩
  rw [getD_set (by simp [h.1]; omega), getD_set (by simp [h.1]; omega), getD_set (by rw [h.1]; omega), h.2 x y hx hy hne]
  have hup := usd_put (m := m) (a := a) (b := b) (c := c) (by omega) (by omega) (by omega) (x := x) (y := y) (by omega) (by omega)
  by_cases e1 : prI x y = prI b c
  · rw [if_pos e1]
    have := prI_inj (a := x) (b := y) (x := b) (y := c) (by omega) (by omega) (by omega) (by omega) e1
    exact (hup.2 (by omega)).symm
  · rw [if_neg e1]
    by_cases e2 : prI x y = prI a c
    · rw [if_pos e2]
      have := prI_inj (a := x) (b := y) (x := a) (y := c) (by omega) (by omega) (by omega) (by omega) e2
      exact (hup.2 (by omega)).symm
    · rw [if_neg e2]
      by_cases e3 : prI x y = prI a b
      · rw [if_pos e3]
        have := prI_inj (a := x) (b := y) (x := a) (y := b) (by omega) (by omega) (by omega) (by omega) e3
        exact (hup.2 (by omega)).symm
      · rw [if_neg e3]
        cases hu : usd m x y with
        | true => exact (hup.2 (.inl hu)).symm
        | false =>
          cases hp : usd (putM m a b c) x y with
          | false => rfl
          | true =>
            rcases hup.1 hp with h1 | h1
            · rw [hu] at h1; cases h1
            · exfalso
              rcases h1 with (⟨rfl, rfl⟩ | ⟨rfl, rfl⟩) | (⟨rfl, rfl⟩ | ⟨rfl, rfl⟩) | (⟨rfl, rfl⟩ | ⟨rfl, rfl⟩)
              · exact e3 rfl
              · exact e3 (prI_comm _ _)
              · exact e2 rfl
              · exact e2 (prI_comm _ _)
              · exact e1 rfl
              · exact e1 (prI_comm _ _)
theorem relU_del (h : RelU v U (putM m a b c)) (ha : a < b) (hb : b < c) (hc : c < v) (hv : v ≤ 15) (h1 : usd m a b = false) (h2 : usd m a c = false) (h3 : usd m b c = false) : RelU v (((U.set (prI a b) false).set (prI a c) false).set (prI b c) false) m := by
  have l1 := prI_lt (a := a) (b := b) (by omega) (by omega)
  have l2 := prI_lt (a := a) (b := c) (by omega) (by omega)
  have l3 := prI_lt (a := b) (b := c) (by omega) (by omega)
  refine ⟨by simp [h.1], fun x y hx hy hne => ?_⟩
  rw [getD_set (by simp [h.1]; omega), getD_set (by simp [h.1]; omega), getD_set (by rw [h.1]; omega), h.2 x y hx hy hne]
  have hup := usd_put (m := m) (a := a) (b := b) (c := c) (by omega) (by omega) (by omega) (x := x) (y := y) (by omega) (by omega)
  have key : ∀ s t : Nat, s < 16 → t < 16 → usd m s t = false → prI x y = prI s t → false = usd m x y := by
    intro s t hs ht hu e
    rcases prI_inj (by omega) (by omega) hs ht e with ⟨rfl, rfl⟩ | ⟨rfl, rfl⟩
    · exact hu.symm
    · rw [usd_comm]; exact hu.symm
  by_cases e1 : prI x y = prI b c
  · rw [if_pos e1]; exact key b c (by omega) (by omega) h3 e1
  · rw [if_neg e1]
    by_cases e2 : prI x y = prI a c
    · rw [if_pos e2]; exact key a c (by omega) (by omega) h2 e2
    · rw [if_neg e2]
      by_cases e3 : prI x y = prI a b
      · rw [if_pos e3]; exact key a b (by omega) (by omega) h1 e3
      · rw [if_neg e3]
        cases hu : usd m x y with
        | true => exact hup.2 (.inl hu)
        | false =>
          cases hp : usd (putM m a b c) x y with
          | false => rfl
          | true =>
            rcases hup.1 hp with h4 | h4
            · rw [hu] at h4; cases h4
            · exfalso
              rcases h4 with (⟨rfl, rfl⟩ | ⟨rfl, rfl⟩) | (⟨rfl, rfl⟩ | ⟨rfl, rfl⟩) | (⟨rfl, rfl⟩ | ⟨rfl, rfl⟩)
              · exact e3 rfl
              · exact e3 (prI_comm _ _)
              · exact e2 rfl
              · exact e2 (prI_comm _ _)
              · exact e1 rfl
              · exact e1 (prI_comm _ _)
theorem relU_zero : RelU v (List.replicate 256 false) 0 := by
  refine ⟨List.length_replicate, fun x y _ _ _ => ?_⟩
  have h0 : usd 0 x y = false := by simp [usd]
  rw [h0, List.getD_eq_getElem?_getD, List.getElem?_replicate]
  split <;> rfl
/-- What the loops for the first pair have found. -/
def Fnd (v m : Nat) (a b : Int) (p : Nat) : Prop := (a = -1 ∧ b = -1 ∧ p ≤ v ∧ ∀ i j, i < p → i < j → j < v → usd m i j = true) ∨ ∃ x y : Nat, a = x ∧ b = y ∧ IsNext v m x y
theorem may_of (h : IsNext v m a b) (hc : c < v) (h1 : c ≠ a) (h2 : c ≠ b) (h3 : usd m a c = false) (h4 : usd m b c = false) : may m a b c = true := by
  have h5 : b < c := by
    apply Decidable.byContradiction
    intro h6
    by_cases h7 : c < a
    · rw [usd_comm, h.rows c a h7 h7 (by have := h.ab; have := h.bv; omega)] at h3
      cases h3
    · rw [h.row c (by omega) (by omega)] at h3
      cases h3
  unfold may
  have : Nat.blt b c = true := by rw [Nat.blt_eq]; exact h5
  simp [this, h3, h4]
theorem may_no (h : ¬ (c ≠ a ∧ c ≠ b ∧ usd m a c = false ∧ usd m b c = false)) (hab : a < b) : may m a b c = false := by
  cases hm : may m a b c with
  | false => rfl
  | true =>
    obtain ⟨h1, h2, h3⟩ := may_spec hm
    exact absurd ⟨by omega, by omega, h2, h3⟩ h
variable {most : Nat} {α : Type}
theorem goesC_most : ∀ {L : List α} {k : Nat}, k < most → goesC (fun j => decide (j < most)) k L = decide (k + (runC (fun j => decide (j < most)) k L).length < most) := by
  intro L
  induction L with
  | nil => intro k hk; simp [goesC, runC, hk]
  | cons x L ih =>
    intro k hk
    unfold goesC runC
    by_cases h : k + 1 < most
    · simp only [h, decide_true, Bool.true_and, if_true]
      rw [ih h, List.length_cons]
      congr 1
      rw [show k + 1 + (runC (fun j => decide (j < most)) (k + 1) L).length = k + ((runC (fun j => decide (j < most)) (k + 1) L).length + 1) by omega]
    · simp [h]
theorem srch_end {l l2 : List (List B3)} {xs : List B3} (hlm : l.length < most) (hl2 : l2 = l ++ runC (fun j => decide (j < most)) l.length (leaf xs (compJ n v m a b c))) (hlast : c = v ∨ ¬ l2.length < most) (hc : c ≤ v) : l ++ runC (fun j => decide (j < most)) l.length (leaf xs (compJ n v m a b v)) = l2 := by
  rcases hlast with rfl | h
  · exact hl2.symm
  · obtain ⟨r, hr⟩ := leaf_pre (xs := xs) (n := n) (v := v) (m := m) (a := a) (b := b) hc
    have h1 : goesC (fun j => decide (j < most)) l.length (leaf xs (compJ n v m a b c)) = false := by
      rw [goesC_most hlm]
      have h2 := congrArg List.length hl2
      rw [List.length_append] at h2
      exact decide_eq_false (by omega)
    rw [hr, runC_stop h1, ← hl2]
end
section
variable {P : Program} {N : Nat} {w0 w : World} {Q : Exit → Act → World → Prop} {σ : Sig} {H H' : List Assn} {ops : Array Oper} {rest : List Oper}
/-- A search: its cells, the pairs that are used, what it has found; what has been counted, l. -/
def SrchK (T uT fT bT : TypeId) (sb v most : Nat) (keep : Bool) (m : Nat) (l : List (List B3)) : Assn :=
  .exi fun q : ((Option Addr × Nat) × List Bool) × (Option Addr × Nat) × List (Sl × List B3) => .sep (.pur (RelU v q.1.2 m ∧ (conts q.2.2 = if keep then l else []) ∧ ∀ p ∈ q.2.2, p.1.A.isSome = true))
    (.sep (Blk sb [.int .i64 (v : Int), .slice q.1.1.1 q.1.2.length q.1.1.2, .int .i64 (l.length : Int), .int .i64 (most : Int), .bool keep, .slice q.2.1.1 (tops q.2.2).length q.2.1.2] T)
      (.sep (Own uT BoolC q.1.1.1 q.1.1.2 q.1.2) (.sep (Own fT SlC q.2.1.1 q.2.1.2 (tops q.2.2)) (RowsA bT B3C q.2.2))))
theorem relU_putI {v m : Nat} {U : List Bool} {d : B3} (h : RelU v U m) (hd : inB v d) (hv : v ≤ 15) : RelU v (((U.set (prI d.1.toNat d.2.1.toNat) true).set (prI d.1.toNat d.2.2.toNat) true).set (prI d.2.1.toNat d.2.2.toNat) true) (putB m d) := by
  obtain ⟨x, y, z, rfl, h1, h2, h3⟩ := hd
  exact relU_put h h1 h2 h3 hv
theorem inB_pts {v : Nat} {d : B3} (hd : inB v d) (hv : v ≤ 15) : (0 ≤ d.1 ∧ d.1 < 16) ∧ (0 ≤ d.2.1 ∧ d.2.1 < 16) ∧ (0 ≤ d.2.2 ∧ d.2.2 < 16) := by
  obtain ⟨x, y, z, rfl, h1, h2, h3⟩ := hd
  unfold b3N
  simp only
  omega
theorem maskB_snoc {m : Nat} {bs : List B3} {d : B3} : maskB m (bs ++ [d]) = putB (maskB m bs) d := by unfold maskB; rw [List.foldl_append]; rfl
variable {T uT fT bT : TypeId} {sb v most m : Nat} {keep : Bool} {l : List (List B3)}
theorem SrchK.elim (hw : St w0 (SrchK T uT fT bT sb v most keep m l :: H) w) : ∃ uA uk U fA fk ps, RelU v U m ∧ conts ps = (if keep then l else []) ∧ (∀ p ∈ ps, p.1.A.isSome = true) ∧
    St w0 (Blk sb [.int .i64 (v : Int), .slice uA U.length uk, .int .i64 (l.length : Int), .int .i64 (most : Int), .bool keep, .slice fA (tops ps).length fk] T :: Own uT BoolC uA uk U :: Own fT SlC fA fk (tops ps) :: RowsA bT B3C ps :: H) w := by
  obtain ⟨q, hw⟩ := hw.exi
  have h1 := hw.sep.pur
  refine ⟨q.1.1.1, q.1.1.2, q.1.2, q.2.1.1, q.2.1.2, q.2.2, h1.1.1, h1.1.2.1, h1.1.2.2, ?_⟩
  have h2 := h1.2.sep
  have h3 := (h2.perm (List.Perm.swap _ _ _)).sep
  have h5 := (h3.perm (List.Perm.swap _ _ _)).sep
  exact (h5.sub (Sub.keep 3 rfl (Sub.keep 2 rfl (Sub.keep 0 rfl (Sub.keep 0 rfl (Sub.refl _))))))
theorem V.srchK {c : Code} (h : ∀ uA uk U fA fk ps, RelU v U m → conts ps = (if keep then l else []) → (∀ p ∈ ps, p.1.A.isSome = true) → V P N w0 c Q σ (Blk sb [.int .i64 (v : Int), .slice uA U.length uk, .int .i64 (l.length : Int), .int .i64 (most : Int), .bool keep, .slice fA (tops ps).length fk] T :: Own uT BoolC uA uk U :: Own fT SlC fA fk (tops ps) :: RowsA bT B3C ps :: H)) : V P N w0 c Q σ (SrchK T uT fT bT sb v most keep m l :: H) := by
  intro w hw
  obtain ⟨uA, uk, U, fA, fk, ps, h1, h2, h4, h3⟩ := SrchK.elim hw
  exact h uA uk U fA fk ps h1 h2 h4 w h3
theorem O.srchK (h : ∀ uA uk U fA fk ps, RelU v U m → conts ps = (if keep then l else []) → (∀ p ∈ ps, p.1.A.isSome = true) → O P N w0 ops Q rest σ (Blk sb [.int .i64 (v : Int), .slice uA U.length uk, .int .i64 (l.length : Int), .int .i64 (most : Int), .bool keep, .slice fA (tops ps).length fk] T :: Own uT BoolC uA uk U :: Own fT SlC fA fk (tops ps) :: RowsA bT B3C ps :: H)) : O P N w0 ops Q rest σ (SrchK T uT fT bT sb v most keep m l :: H) := by
  intro w hw
  obtain ⟨uA, uk, U, fA, fk, ps, h1, h2, h4, h3⟩ := SrchK.elim hw
  exact h uA uk U fA fk ps h1 h2 h4 w h3
theorem SrchK.mk {uA fA : Option Addr} {uk fk : Nat} {U : List Bool} {ps : List (Sl × List B3)} (hr : RelU v U m) (hc : conts ps = if keep then l else []) (hso : ∀ p ∈ ps, p.1.A.isSome = true)
    (hw : St w0 (Blk sb [.int .i64 (v : Int), .slice uA U.length uk, .int .i64 (l.length : Int), .int .i64 (most : Int), .bool keep, .slice fA (tops ps).length fk] T :: Own uT BoolC uA uk U :: Own fT SlC fA fk (tops ps) :: RowsA bT B3C ps :: H) w) : St w0 (SrchK T uT fT bT sb v most keep m l :: H) w := by
  refine St.mkExi (((uA, uk), U), (fA, fk), ps) (St.unsep (St.addPur ⟨hr, hc, hso⟩ ?_))
  have h1 : St w0 (Own fT SlC fA fk (tops ps) :: RowsA bT B3C ps :: Own uT BoolC uA uk U :: Blk sb [.int .i64 (v : Int), .slice uA U.length uk, .int .i64 (l.length : Int), .int .i64 (most : Int), .bool keep, .slice fA (tops ps).length fk] T :: H) w := hw.sub (Sub.keep 2 rfl (Sub.keep 2 rfl (Sub.keep 1 rfl (Sub.keep 0 rfl (Sub.refl _)))))
  have h2 := (St.unsep h1).perm (List.Perm.swap _ _ _)
  have h3 := (St.unsep h2).perm (List.Perm.swap _ _ _)
  exact St.unsep h3
end
end Go.Vc
/-
  The calculus, part 19: fields of a list's elements.
-/
namespace Go.Vc
open Go Go.RowKit
section
variable {P : Program} {w0 w : World} {σ : Sig} {H H' : List Assn} {o : Oper} {v : Int}
theorem Pu.fieldAddr' {T : TypeId} {x : Operand} {f off : Nat} {p : Option Addr} {fs : Array Field} {fd : Field} {n : Nat} (ho : o.op = .fieldAddr T x f) (hT : P.underlying T = some (.struct fs)) (hf : fs[f]? = some fd) (hs : Sz P fd.type (n + 1)) (hx : ev σ x = some (.pointer p)) (hr : fd.offset = off) (hp : ∀ w, St w0 H w → p.isSome = true) :
    Pu P w0 o σ H (.pointer (p.map (·.add off))) := by
  intro w hw a ha
  subst hr
  have h1 := ha x (by simp [ho, Op.operands]) _ hx
  obtain ⟨q, rfl⟩ := Option.isSome_iff_exists.1 (hp w hw)
  simp [execOp, ho, h1, Instr.fieldAt, run_underlying hT, hf, Instr.sureAddr, fieldPlace, run_sz hs]
theorem Ld.rowYf {A : Option Addr} {ps : List (Sl × List B3)} (hr : ∀ w, St w0 H w → Rd (SyC v) w A (tops ps)) (hn : LenOk ps) {k s : Nat} (hk : k < ps.length) (hs : s = 2) :
    ∀ w, St w0 H w → ∃ q, (A.map (·.add (k * s))).map (·.add 1) = some q ∧ w.cell? q = some (.slice (ps[k]).1.A (ps[k]).2.length (ps[k]).1.c) := by
  intro w hw
  obtain ⟨q, h1, h2⟩ := Ld.rowY hr hn hk hs w hw
  exact ⟨q.add 1, by rw [h1]; rfl, h2 1 _ rfl⟩
theorem prev_bef {ps qs : List (Sl × List B3)} {i k : Nat} (hpw : (conts ps).Pairwise befB) (ho : conts qs = (conts ps).take i) (hi : i < ps.length) (hk : k < qs.length) (hki : k < i) : befB (qs[k]).2 (ps[i]).2 := by
  have l1 := conts_len ps
  have l2 := conts_len qs
  have h := List.pairwise_iff_getElem.1 hpw k i (by omega) (by omega) hki
  have e1 : (conts ps)[i]'(by omega) = (ps[i]).2 := List.getElem_map ..
  have e2 : (conts qs)[k]'(by omega) = (qs[k]).2 := List.getElem_map ..
  have e3 : (conts qs)[k]'(by omega) = (conts ps)[k]'(by omega) := by
    have h4 : (conts qs)[k]? = (conts ps)[k]? := by rw [ho, List.getElem?_take]; simp [hki]
    rw [List.getElem?_eq_getElem (by omega), List.getElem?_eq_getElem (by omega)] at h4
    exact Option.some.inj h4
  rw [← e1, ← e2, e3]
  exact h
theorem runC_sub {α : Type} {cont : Nat → Bool} : ∀ {L : List α} {k : Nat}, (runC cont k L).Sublist L := by
  intro L
  induction L with
  | nil => intro k; exact List.Sublist.refl _
  | cons x L ih =>
    intro k
    unfold runC
    split
    · exact ih.cons_cons x
    · exact (List.nil_sublist L).cons_cons x
theorem runC_leaf_sub {cont : Nat → Bool} {n v m k : Nat} : (runC cont k (leaf [] (compM n v m))).Sublist (compM n v m) := by
  have e : leaf [] (compM n v m) = compM n v m := by simp [leaf]
  rw [e]
  exact runC_sub
end
theorem few_lt {v : Int} (h : few9 v) : (compM 40 v.toNat 0).length < 1000 := by
  rcases h with rfl | rfl | rfl
  · rw [cntM_eq]; show cntM 40 3 0 < 1000; rw [cnt3]; decide
  · rw [cntM_eq]; show cntM 40 7 0 < 1000; rw [cnt7]; decide
  · rw [cntM_eq]; show cntM 40 9 0 < 1000; rw [cnt9]; decide
theorem run_all {n v most : Nat} (h : (compM n v 0).length < most) : runC (fun j => decide (j < most)) 0 (leaf [] (compM n v 0)) = compM n v 0 := by
  have e : leaf [] (compM n v 0) = compM n v 0 := by simp [leaf]
  rw [e]
  refine runC_all ?_
  rw [goesC_most (by omega)]
  have := runC_le (cont := fun j => decide (j < most)) (k := 0) (l := compM n v 0)
  exact decide_eq_true (by omega)
end Go.Vc
/-
  Plain words: the first system that is apart; how many blocks are common.
-/
namespace Go.Vc
/-- No block in common. -/
def ApartB (bs q : List B3) : Prop := ∀ b ∈ bs, b ∉ q
instance (bs q : List B3) : Decidable (ApartB bs q) := inferInstanceAs (Decidable (∀ b ∈ bs, b ∉ q))
theorem apart_I {bs q : List B3} : (bs.filter fun b => decide (b ∈ q)).length = 0 ↔ ApartB bs q := by
  rw [List.length_eq_zero_iff, List.filter_eq_nil_iff]
  unfold ApartB
  simp
/-- The first of all systems that is apart. -/
noncomputable def firstA (v : Int) (bs : List B3) : Option (List B3) := (allN v).find? fun q => decide (ApartB bs q)
/-- What both FirstApart return. -/
noncomputable def apR (v : Int) (bs : List B3) : Int × List B3 × Int :=
  if STS v bs then if Few v bs then match firstA v bs with | some q => (v, q, 0) | none => (0, [], 4) else (0, [], 5) else (0, [], 1)
/-- How many of the first i lists have q blocks of bs, for each q. -/
def cntC (bs : List B3) (ls : List (List B3)) (n i : Nat) : List Int := (List.range n).map fun q => (((ls.take i).filter fun y => decide ((bs.filter fun b => decide (b ∈ y)).length = q)).length : Int)
section
variable {bs : List B3} {ls : List (List B3)} {n i : Nat}
end
/-- What both CommonNumbers return. -/
noncomputable def cmR (v : Int) (bs : List B3) : List Int × Int :=
  if STS v bs then if Few v bs then (cntC bs (allN v) (bs.length + 1) (allN v).length, 0) else ([], 5) else ([], 1)
section
variable {w0 w : World} {H : List Assn} {α : Type} {T : TypeId} {C : Cod α}
/-- One row is kept. -/
theorem RowsA.out {ps : List (Sl × List α)} {k : Nat} (hk : k < ps.length) (hw : St w0 (RowsA T C ps :: H) w) : St w0 (Own T C (ps[k]).1.A (ps[k]).1.c (ps[k]).2 :: H) w := by
  have e : ps = ps.take k ++ ps[k] :: ps.drop (k + 1) := by
    rw [← List.drop_eq_getElem_cons hk, List.take_append_drop]
  have hp : ps.Perm (ps[k] :: (ps.take k ++ ps.drop (k + 1))) := by
    conv => lhs; rw [e]
    exact List.perm_middle
  have h1 := RowsA.perm hp hw
  exact ((RowsA.uncons (s := (ps[k]).1) (xs := (ps[k]).2) h1).2).sub (Sub.keep 0 rfl (Sub.drop (Sub.refl _)))
end
end Go.Vc
/-
  The calculus, part 19: two results, the first of which lies in memory; the marks of blocks.
-/
namespace Go.Vc
open Go Go.RowKit
section
variable {P : Program} {N : Nat} {w0 w : World} {Q : Exit → Act → World → Prop} {σ : Sig} {H H' : List Assn}
theorem X.retCell2 {fn : Func} {t s n : Nat} {T : TypeId} {p : Option Addr} {cs : List Value} {u : Value} {R : Value → List Assn} (hr : fn.results = #[.cell t T, .tmp s]) (hT : aggT P T = true) (hz : Sz P T n) (hl : cs.length = n) (ht : look σ t = some (.pointer p)) (hs' : look σ s = some u)
    (hc : ∀ w, St w0 H w → ∃ q, p = some q ∧ ∀ j u, cs[j]? = some u → w.cell? (q.add j) = some u) (hs : ∀ w, St w0 H w → St w0 (R (.tuple #[.agg cs.toArray, u])) w) :
    X N w0 (bodyPost P fn (fun e w' => ∃ v, e = .returned v ∧ St w0 (R v) w')) .ret σ H := by
  intro w hw a ha
  refine ⟨ha.defers, .tuple #[.agg cs.toArray, u], ?_, _, rfl, hs w hw⟩
  have h1 := ha.look_ t _ ht
  have h2 := ha.look_ s _ hs'
  obtain ⟨q, rfl, hq⟩ := hc w hw
  subst hl
  have hrn := run_loadCells_list (P := P) (w := w) q cs hq
  simp [results, hr, h1, h2, asAddr, loadVar, run_isAgg_t hT, run_sz hz, hrn]
end
section
variable {w0 : World} {H : List Assn}
theorem Ld.part {A : Option Addr} {xs : List B3} {k s j : Nat} {u : Value} (hr : ∀ w, St w0 H w → Rd B3C w A xs) (hk : k < xs.length) (hs : s = 3) (hu : (B3.cs xs[k])[j]? = some u) : ∀ w, St w0 H w → ∃ q, (A.map (·.add (k * s))).map (·.add j) = some q ∧ w.cell? q = some u := by
  intro w hw
  obtain ⟨q, h1, h2⟩ := Ld.rds hr hk (s := s) hs w hw
  exact ⟨q.add j, by rw [h1]; rfl, h2 j u hu⟩
/-- A field of a struct that is a value: one cell. -/
theorem Pu.field {P : Program} {σ : Sig} {o : Oper} {T : TypeId} {x : Operand} {f : Nat} {fs : Array Field} {fd : Field} {cs : Array Value} {u : Value} (ho : o.op = .field T x f) (hT : P.underlying T = some (.struct fs)) (hf : fs[f]? = some fd) (hp : plainT P fd.type = true) (hx : ev σ x = some (.agg cs)) (hu : cs[fd.offset]? = some u) : Pu P w0 o σ H u := by
  intro w hw a ha
  have h1 := ha x (by simp [ho, Op.operands]) _ hx
  simp [execOp, ho, h1, Instr.field, run_underlying hT, hf, asAgg, part, run_isAgg_f hp, hu]
end
/-- Two strings are equal, or not. -/
theorem Pu.eqlStr {P : Program} {w0 : World} {H : List Assn} {σ : Sig} {o : Oper} {T T2 : TypeId} {x y : Operand} {s t : ByteArray} {b : Bool} (hb : (s.toList == t.toList) = b) (ho : o.op = .binOp .eql T x y T2) (hx : ev σ x = some (.string s)) (hy : ev σ y = some (.string t)) : Pu P w0 o σ H (.bool b) := by
  subst hb
  intro w hw a ha
  have h1 := ha x (by simp [ho, Op.operands]) _ hx
  have h2 := ha y (by simp [ho, Op.operands]) _ hy
  have he : (eqGuard .eql T x y (.string s) (.string t)).run P w = .ok () w := by
    unfold eqGuard
    simp
  simp [execOp, ho, h1, h2, he, Go.binOp, Op.stringOp]
/-- The marks of n blocks. -/
def marksB (m : Int) (n : Nat) : List B3 := (List.range n).map fun i : Nat => (m + 3 * (i : Int), m + 3 * (i : Int) + 1, m + 3 * (i : Int) + 2)
def markBAt (xs : List B3) (m : Int) (k : Nat) : List B3 := marksB m k ++ xs.drop k
end Go.Vc
/-
  Plain words: parts that fix a system.
-/
namespace Go.Vc
instance (a b : B3) : Decidable (leB a b) := inferInstanceAs (Decidable (¬ _))
section
variable {v m n : Nat}
theorem usd_put_false {a b c x y : Nat} (ha : a < 16) (hb : b < 16) (hc : c < 16) (hx : x < 16) (hy : y < 16) (h : usd (putM m a b c) x y = false) : usd m x y = false := by
  cases hh : usd m x y with
  | false => rfl
  | true =>
    have := (usd_put (m := m) ha hb hc hx hy).2 (.inl hh)
    rw [this] at h
    cases h
/-- What a completion is. -/
theorem comp_rest : ∀ n v m (q : List B3), v ≤ 15 → q ∈ compM n v m → Rest v m q := by
  intro n
  induction n with
  | zero =>
    intro v m q hv hq
    rcases mem_comp hq with ⟨rfl, _⟩ | ⟨k, a, b, c, r, hk, _⟩
    · exact ⟨fun _ h => by simp at h, fun _ h => by simp at h, List.Pairwise.nil, List.Pairwise.nil⟩
    · omega
  | succ n ih =>
    intro v m q hv hq
    have hs := comp_sorted _ _ _ _ hv hq
    rcases mem_comp hq with ⟨rfl, _⟩ | ⟨k, a, b, c, r, hk, hn, hc, hm, hr, rfl⟩
    · exact ⟨fun _ h => by simp at h, fun _ h => by simp at h, List.Pairwise.nil, List.Pairwise.nil⟩
    · obtain rfl : n = k := by omega
      have hI := next_spec hn
      have hab := hI.ab
      have hbv := hI.bv
      obtain ⟨h1, h2, h3⟩ := may_spec hm
      have h := ih _ _ _ hv hr
      refine ⟨fun d hd => ?_, fun d hd => ?_, hs, List.pairwise_cons.2 ⟨fun d hd => ?_, h.fit⟩⟩
      · rcases List.mem_cons.1 hd with rfl | hd
        · exact ⟨a, b, c, rfl, hab, h1, hc⟩
        · exact h.ok d hd
      · rcases List.mem_cons.1 hd with rfl | hd
        · exact ⟨a, b, c, rfl, hab, h1, hI.left, h2, h3⟩
        · obtain ⟨x, y, z, rfl, hx, hy, u1, u2, u3⟩ := h.opn d hd
          obtain ⟨x', y', z', e, _, _, hz⟩ := h.ok _ hd
          obtain ⟨rfl, rfl, rfl⟩ := b3N_inj e
          exact ⟨x, y, z, rfl, hx, hy, usd_put_false (by omega) (by omega) (by omega) (by omega) (by omega) u1, usd_put_false (by omega) (by omega) (by omega) (by omega) (by omega) u2, usd_put_false (by omega) (by omega) (by omega) (by omega) (by omega) u3⟩
      · obtain ⟨x, y, z, rfl, hx, hy, u1, u2, u3⟩ := h.opn d hd
        obtain ⟨x', y', z', e, _, _, hz⟩ := h.ok _ hd
        obtain ⟨rfl, rfl, rfl⟩ := b3N_inj e
        rw [common_le (b3N_three hab h1)]
        have k : ∀ p q : Nat, p < q → q < v → usd (putM m a b c) p q = false → ¬ (has (b3N a b c) p ∧ has (b3N a b c) q) := fun p q h4 h5 h6 => ((usd_putN hab h1 (by omega) (by omega) (by omega) (by omega)).1 h6).2
        exact ⟨k x y hx (by omega) u1, k x z (by omega) (by omega) u2, k y z hy (by omega) u3⟩
/-- .. and that it leaves no pair. -/
theorem comp_full : ∀ n v m (q : List B3), v ≤ 15 → q ∈ compM n v m → ∀ x y, x < y → y < v → usd (maskB m q) x y = true := by
  intro n
  induction n with
  | zero =>
    intro v m q hv hq
    rcases mem_comp hq with ⟨rfl, h⟩ | ⟨k, a, b, c, r, hk, _⟩
    · exact next_none h
    · omega
  | succ n ih =>
    intro v m q hv hq
    rcases mem_comp hq with ⟨rfl, h⟩ | ⟨k, a, b, c, r, hk, hn, hc, hm, hr, rfl⟩
    · exact next_none h
    · obtain rfl : n = k := by omega
      have h := ih _ _ _ hv hr
      have e : maskB m (b3N a b c :: r) = maskB (putM m a b c) r := by
        show maskB (putB m (b3N a b c)) r = _
        rw [putB_b3N]
      rw [e]
      exact h
/-- A full system, as plain words have it. -/
structure FullS (v : Nat) (T : List B3) : Prop where
  rest : Rest v 0 T
  full : ∀ x y, x < y → y < v → ∃ d ∈ T, has d x ∧ has d y
theorem FullS.of {T : List B3} (hv : v ≤ 15) (h : T ∈ compM n v 0) : FullS v T := by
  have hr := comp_rest _ _ _ _ hv h
  refine ⟨hr, fun x y h1 h2 => ?_⟩
  rcases (usd_mask T 0 hv hr.ok x y h1 h2).1 (comp_full _ _ _ _ hv h x y h1 h2) with h3 | h3
  · rw [usd_zero] at h3; cases h3
  · exact h3
theorem Rest.sub {T Q : List B3} (h : Rest v 0 T) (hs : Q.Sublist T) : Rest v 0 Q := ⟨fun d hd => h.ok d (hs.subset hd), fun d hd => h.opn d (hs.subset hd), h.lt.sublist hs, h.fit.sublist hs⟩
end
end Go.Vc
/-
  Plain words: the least part that fixes a system.
-/
namespace Go.Vc
/-- The least set with a property. -/
def LeastP (n : Nat) (p : Nat → Prop) (o : List Int) : Prop :=
  ∃ t, t < 2 ^ n ∧ p t ∧ o = pts t ∧ ∀ q, q < 2 ^ n → p q → ones t ≤ ones q ∧ (ones q = ones t → ¬ ltL (pts q) (pts t))
theorem LeastP.unique {n : Nat} {p : Nat → Prop} {a b : List Int} (h1 : LeastP n p a) (h2 : LeastP n p b) : a = b := by
  obtain ⟨T, a1, a2, rfl, a4⟩ := h1
  obtain ⟨U, b1, b2, rfl, b4⟩ := h2
  have h3 := a4 U b1 b2
  have h4 := b4 T a1 a2
  exact ltL_tri (fun h => h4.2 (by omega) h) (fun h => h3.2 (by omega) h)
/-- Which of the first k blocks a system has. -/
def hasM (bs U : List B3) : Nat → Nat
  | 0 => 0
  | k + 1 => if bs.getD k (0, 0, 0) ∈ U then hasM bs U k ||| 2 ^ k else hasM bs U k
/-- A part's blocks. -/
def partB (bs : List B3) (s : Nat) : List B3 := (pts s).map (blk bs)
/-- No other full system has all blocks of the part. -/
def FixP (bs : List B3) (all : List (List B3)) (s : Nat) : Prop := ∀ U ∈ all, (∀ q, s.testBit q = true → bs.getD q (0, 0, 0) ∈ U) → U = bs
/-- Lists of so many of the numbers below n, from one on, in order. -/
def setsN (n : Nat) : Nat → Nat → List (List Int)
  | 0, _ => [[]]
  | c + 1, f => (List.range (n - f)).flatMap fun i => (setsN n c (f + i + 1)).map (((f + i : Nat) : Int) :: ·)
end Go.Vc
/-
  Plain words: what both LeastFixing return.
-/
namespace Go.Vc
/-- What both LeastFixing return. -/
def LFR (v : Int) (bs : List B3) (o : List Int) : Prop := if STS v bs ∧ 6 * (bs.length : Int) = v * (v - 1) ∧ ¬ 9 < v then LeastP bs.length (FixP bs (allN v)) o else o = []
theorem LFR.unique {v : Int} {bs : List B3} {a b : List Int} (h1 : LFR v bs a) (h2 : LFR v bs b) : a = b := by
  unfold LFR at *
  split at h1
  · rename_i hc
    rw [if_pos hc] at h2
    exact h1.unique h2
  · rename_i hc
    rw [if_neg hc] at h2
    rw [h1, h2]
theorem LFR.len {v : Int} {bs : List B3} {a : List Int} (h : LFR v bs a) : a.length ≤ 15 := by
  unfold LFR at h
  split at h
  · obtain ⟨t, _, _, rfl, _⟩ := h
    exact pts_len t
  · simp [h]
end Go.Vc
namespace Go.Vc
end Go.Vc
/-
  The calculus, part 22: lists of words; a box with such a list beside a box with a system.
-/
namespace Go.Vc
open Go Go.RowKit
def U64 : Cod Nat := ⟨1, fun x => [.int .u64 (x : Int)], by decide, fun _ => rfl, fun _ u hu => by simp at hu; subst hu; rfl⟩
/-- What is told of each of the systems. -/
def othL (bs : List B3) (l : List (List B3)) : List Nat := (l.map fun U => hasM bs U bs.length).filter fun h => decide (¬ h = 2 ^ bs.length - 1)
section
variable {P : Program} {N : Nat} {w0 w : World} {Q : Exit → Act → World → Prop} {σ : Sig} {H H' : List Assn} {ops : Array Oper} {rest : List Oper} {v : Int}
/-- A box with what has been told so far of the systems l, and the box with the system. -/
def UE (uT lT yT : TypeId) (v : Int) (A : Option Addr) (c : Nat) (bs : List B3) (b0 b1 : Nat) (l : List (List B3)) : Assn :=
  .exi fun q : Option Addr × Nat => .sep (Blk b0 [.slice q.1 (othL bs l).length q.2] lT) (.sep (Blk b1 [.int .i64 v, .slice A bs.length c] yT) (Own uT U64 q.1 q.2 (othL bs l)))
variable {uT lT yT : TypeId} {A : Option Addr} {c : Nat} {bs : List B3} {b0 b1 : Nat} {l : List (List B3)}
theorem UE.elim (hw : St w0 (UE uT lT yT v A c bs b0 b1 l :: H) w) : ∃ A2 k, St w0 (Blk b0 [.slice A2 (othL bs l).length k] lT :: Blk b1 [.int .i64 v, .slice A bs.length c] yT :: Own uT U64 A2 k (othL bs l) :: H) w := by
  obtain ⟨q, hw⟩ := hw.exi
  refine ⟨q.1, q.2, ?_⟩
  have h2 := hw.sep
  have h3 := (h2.perm (List.Perm.swap _ _ _)).sep
  exact h3.sub (Sub.keep 2 rfl (Sub.keep 0 rfl (Sub.keep 0 rfl (Sub.refl _))))
theorem UE.mk {A2 : Option Addr} {k : Nat} (hw : St w0 (Blk b0 [.slice A2 (othL bs l).length k] lT :: Blk b1 [.int .i64 v, .slice A bs.length c] yT :: Own uT U64 A2 k (othL bs l) :: H) w) : St w0 (UE uT lT yT v A c bs b0 b1 l :: H) w := by
  refine St.mkExi (A2, k) ?_
  have h1 : St w0 (Blk b1 [.int .i64 v, .slice A bs.length c] yT :: Own uT U64 A2 k (othL bs l) :: Blk b0 [.slice A2 (othL bs l).length k] lT :: H) w := hw.sub (Sub.keep 1 rfl (Sub.keep 1 rfl (Sub.keep 0 rfl (Sub.refl _))))
  have h2 := (St.unsep h1).perm (List.Perm.swap _ _ _)
  exact St.unsep h2
end
end Go.Vc
namespace Go.Vc
/-- The best so far, told by its length. -/
def BestF (bs : List B3) (all : List (List B3)) (s : Nat) (found : Bool) (best : List Int) : Prop := BestI (-1) (FixP bs all) s found (-(best.length : Int)) best
section
variable {bs : List B3} {all : List (List B3)} {s : Nat} {found : Bool} {best : List Int}
end
end Go.Vc
namespace Go.Vc
end Go.Vc
/-
  The calculus, part 20: Go's own sorting of an owned row.
-/
namespace Go.Vc
open Go Go.RowKit
open Go.Proofs (sortWorldK CmpLays ltOf)
open Go.Sort (flatK HoldsK putRowK get_flatK size_flatK putCells putRow mapBlock onCells PermIn SortedIn SWO)
section
variable {P : Program} {α : Type} {w0 w w' : World} {H : List Assn} {T c g : Nat} {A : Option Addr} {C : Cod α} {xs ys : List α}
theorem flatK_flat [Inhabited α] (C : Cod α) (xs : List α) : flatK C.enc C.sz xs.toArray = (xs.flatMap C.enc).toArray := by
  have hl := length_flatMap_enc C xs
  apply Array.ext
  · rw [size_flatK]; simp only [List.size_toArray]; omega
  · intro i h1 h2
    have hlt : i < xs.length * C.sz := by simpa [size_flatK] using h1
    have hp := C.pos
    have hq : i / C.sz < xs.length := Nat.div_lt_of_lt_mul (by rw [Nat.mul_comm]; exact hlt)
    have hme : i / C.sz * C.sz + i % C.sz = i := by rw [Nat.mul_comm]; exact Nat.div_add_mod i C.sz
    have hg := getElem?_flatMap_enc C xs (i / C.sz) (i % C.sz) hq (Nat.mod_lt _ hp)
    rw [hme] at hg
    have e1 := get_flatK C.enc C.sz xs.toArray i (by simpa using hlt)
    rw [getElem!_pos _ i h1] at e1
    rw [e1]
    have e2 : xs.toArray[i / C.sz]! = xs[i / C.sz] := by rw [getElem!_pos _ _ (by simpa using hq)]; simp
    rw [e2]
    have h3 : i % C.sz < (C.enc xs[i / C.sz]).length := by rw [C.len]; exact Nat.mod_lt _ hp
    rw [getElem!_pos (C.enc xs[i / C.sz]) _ h3]
    have h4 : (xs.flatMap C.enc)[i]? = some (C.enc xs[i / C.sz])[i % C.sz] := by rw [hg, List.getElem?_eq_getElem h3]
    have h5 : i < (xs.flatMap C.enc).length := by rw [hl]; exact hlt
    rw [List.getElem?_eq_getElem h5] at h4
    simpa using (Option.some.inj h4).symm
theorem own_cases (hw : St w0 (Own T C A c xs :: H) w) : (A = none ∧ c = 0 ∧ xs = []) ∨ ∃ g, A = some ⟨g, 0, none⟩ := by
  obtain ⟨F, ho, hF⟩ := hw.get 0 rfl
  rcases ho.2 with ⟨h1, h2⟩ | ⟨g, cap, cur, hvv, _⟩
  · injection h1 with e1 e2 e3
    exact .inl ⟨e1, e3, List.eq_nil_of_length_eq_zero h2⟩
  · injection hvv with e1
    exact .inr ⟨g, e1⟩
theorem own_holdsK [Inhabited α] (hw : St w0 (Own T C (some ⟨g, 0, none⟩) c xs :: H) w) : HoldsK C.enc C.sz w g 0 xs.toArray ∧ g < w.heap.size := by
  obtain ⟨F, ho, hF⟩ := hw.get 0 rfl
  rcases ho.2 with ⟨h1, h2⟩ | ⟨g', cap, cur, hvv, hbase, hh, hle, hmax, hcs, htake⟩
  · injection h1 with e1; cases e1
  · injection hvv with e1 e2 e3
    cases e1
    subst e3
    refine ⟨fun j hj => ?_, (Array.getElem?_eq_some_iff.1 hh).1⟩
    rw [flatK_flat] at hj ⊢
    have hl := length_flatMap_enc C xs
    have hj' : j < (xs.flatMap C.enc).length := by simpa using hj
    have e : cur[j]? = some (xs.flatMap C.enc)[j] := by
      have h1 : (cur.toList.take (xs.length * C.sz))[j]? = cur.toList[j]? := by rw [List.getElem?_take, if_pos (by omega)]
      rw [htake, List.getElem?_eq_getElem hj'] at h1
      rw [← Array.getElem?_toList, ← h1]
    constructor
    · rw [getElem!_pos _ j (by simpa using hj')]
      simp only [World.cell?, hh, Nat.zero_add, e, id]
      simp
    · simp [World.frozen?, hh]
theorem putCells_toList [Inhabited α] {cur : Array Value} (hn : xs.length * C.sz ≤ cur.size) : (putCells id 0 (flatK C.enc C.sz xs.toArray) cur).toList.take (xs.length * C.sz) = xs.flatMap C.enc := by
  have hl := length_flatMap_enc C xs
  rw [flatK_flat]
  apply List.ext_getElem
  · simp [putCells, hl]; omega
  · intro j h1 h2
    simp only [List.getElem_take, Array.getElem_toList, putCells, Array.getElem_mapIdx]
    rw [if_pos ⟨Nat.zero_le _, by simpa using h2⟩, Nat.sub_zero, getElem!_pos _ j (by simpa using h2)]
    simp
theorem St.sortedK [Inhabited α] (hw : St w0 (Own T C (some ⟨g, 0, none⟩) c xs :: H) w) (hl : ys.length = xs.length) (n : Nat) (os : Array Obj) :
    St w0 (Own T C (some ⟨g, 0, none⟩) c ys :: H) (sortWorldK C.enc C.sz w g 0 n ys.toArray os) := by
  refine hw.upd ?_
  rintro F ⟨ho, hF⟩ hb
  rcases ho.2 with ⟨h1, h2⟩ | ⟨g', cap, cur, hvv, hbase, hh, hle, hmax, hcs, htake⟩
  · injection h1 with e1; cases e1
  · injection hvv with e1 e2 e3
    cases e1
    subst e3
    have hgs : g < w.heap.size := (Array.getElem?_eq_some_iff.1 hh).1
    have hn : xs.length * C.sz ≤ cur.size := by rw [hcs]; exact Nat.mul_le_mul_right _ hle
    have heap : ∀ k, k < w.heap.size → (sortWorldK C.enc C.sz w g 0 n ys.toArray os).heap[k]? = if g = k then (w.heap[k]?).map (onCells (putCells id 0 (flatK C.enc C.sz ys.toArray))) else w.heap[k]? := by
      intro k hk
      unfold sortWorldK Go.Sort.grow putRowK putRow mapBlock Go.Sort.ahead
      simp only
      rw [Array.getElem?_append_left (by simpa using hk), Array.getElem?_modify]
    have hsize : (sortWorldK C.enc C.sz w g 0 n ys.toArray os).heap.size = w.heap.size + os.size := by
      unfold sortWorldK Go.Sort.grow putRowK putRow mapBlock Go.Sort.ahead
      simp
    refine ⟨⟨rfl, rfl, rfl, by omega, fun k hk hk' => ?_, Nat.le_add_right _ _⟩, F, ⟨⟨?_, .inr ⟨g, c, putCells id 0 (flatK C.enc C.sz ys.toArray) cur, by rw [hl], Nat.zero_le _, ?_, by omega, hmax, ?_, ?_⟩⟩, ?_⟩, ?_⟩
    · rw [heap k hk, if_neg (fun e => hk' ((hF k).2 (by subst e; rfl)))]
    · rw [length_flatMap_enc]
    · rw [heap g hgs, if_pos rfl, hh]; rfl
    · simp [putCells, hcs]
    · exact putCells_toList (by rw [hl]; exact hn)
    · intro k
      rw [hF k]
      simp [Value.ownBlock]
    · intro k hk
      exact ⟨.inl hk, by have := (hb k hk).2; omega⟩
/-- A world that has only grown. -/
theorem Bel.grown (h : Bel w.heap.size w w') : ∃ q os', w' = Go.Sort.grow (w.drewN q) os' := by
  refine ⟨w'.drawn - w.drawn, w'.heap.extract w.heap.size w'.heap.size, ?_⟩
  have hd := h.drawn
  have hs := h.size
  have e : w'.heap = w.heap ++ w'.heap.extract w.heap.size w'.heap.size := by
    apply Array.ext_getElem?
    intro k
    by_cases hk : k < w.heap.size
    · rw [Array.getElem?_append_left hk, h.block k hk]
    · rw [Array.getElem?_append_right (by omega), Array.getElem?_extract]
      by_cases h2 : k < w'.heap.size
      · rw [if_pos (by omega)]
        congr 1
        omega
      · rw [Array.getElem?_eq_none (by omega), if_neg (by omega)]
  cases w'
  cases w
  simp only [Go.Sort.grow, World.drewN] at *
  have h1 := h.os
  have h2 := h.tape
  have h3 := h.output
  simp only at h1 h2 h3 hd
  subst h1 h2 h3
  rw [← e]
  congr 1
  omega
/-- What a comparison hands back. -/
def CmpD (P : Program) (f : Nat) (cb : Array Value) (enc : α → Value) (cf : α → α → Int) (W : World) : Prop :=
  ∀ x y : α, Does P f ([enc x, enc y] ++ cb.toList) W [] (fun v => [.pur (v = .int .i64 (cf x y))])
theorem sorted_pair [Inhabited α] {lt : α → α → Bool} {d : Array α} (h : SortedIn lt 0 d.size d) : d.toList.Pairwise fun x y => lt y x = false := by
  rw [List.pairwise_iff_getElem]
  intro i j hi hj hij
  have h1 := h i j (Nat.zero_le _) hij (by simpa using hj)
  rw [getElem!_pos d i (by simpa using hi), getElem!_pos d j (by simpa using hj)] at h1
  simpa using h1
theorem permIn_perm [Inhabited α] {d d' : Array α} (h : PermIn 0 d.size d d') : d'.toList.Perm d.toList := by
  obtain ⟨h1, _, h3⟩ := h
  have e1 : d.extract 0 d.size = d := by simp
  have e2 : d'.extract 0 d.size = d' := by rw [← h1]; simp
  rwa [e1, e2] at h3
/-- slices.SortFunc at elements of several cells. -/
theorem sortK_does [Inhabited α] {ρ : Go.Shelf.Ren} (L : Go.Proofs.SlLaysF0.n6 P ρ) (aE : ∀ w, (isAgg (ρ.t 24)).run P w = .ok true w) (zE : ∀ w, (Go.sizeOf (ρ.t 24)).run P w = .ok C.sz w) (cf : α → α → Int) (hO : SWO (ltOf cf)) {f : Nat} {cb : Array Value} (hok : CallOk P f)
    (hcmp : ∀ zs W, St w0 (Own T C A c zs :: H) W → CmpD P f cb (fun x => .agg (C.enc x).toArray) cf W) (hlen : xs.length < 4611686018427387904) :
    Does P (ρ.f 6) [.slice A xs.length c, .func (.func f) #[] cb] w0 (Own T C A c xs :: H) (fun v => [.exi fun ys : List α => .sep (.pur (v = .tuple #[] ∧ ys.Perm xs ∧ ys.Pairwise fun x y => ¬ cf y x < 0)) (Own T C A c ys)] ++ H) := by
  intro w hw
  rcases own_cases hw with ⟨rfl, rfl, rfl⟩ | ⟨g, rfl⟩
  · refine (Go.Proofs.AnyF.slices_SortFunc_none L none 0 _ w).mono ?_
    rintro e w' ⟨rfl, rfl⟩
    exact ⟨_, rfl, St.mkExi [] (St.unsep (St.addPur ⟨rfl, List.Perm.refl _, List.Pairwise.nil⟩ hw))⟩
  · obtain ⟨hH, hg⟩ := own_holdsK hw
    have eg : ∀ args w, (callFunc f args).run P w = .ok (.enter f args) w := fun args w => run_callFunc hok args w
    have hC : CmpLays P f cb C.enc C.sz cf g 0 xs.toArray.size w := by
      intro m os dk hs x y
      have hs' : dk.toList.length = xs.length := by simpa using hs
      have h1 := St.sortedK hw hs' m os
      have h2 := hcmp _ _ h1 x y _ (St.start _)
      have e : ([Value.agg (C.enc x).toArray, Value.agg (C.enc y).toArray] ++ cb.toList).toArray = #[.agg (C.enc x).toArray, .agg (C.enc y).toArray] ++ cb := by
        apply Array.ext'
        simp
      rw [e] at h2
      refine h2.mono ?_
      rintro e w' ⟨v, rfl, hs3⟩
      exact ⟨by rw [hs3.pur.1], hs3.below.grown⟩
    have h := Go.Proofs.AnyQ.slices_SortFunc L C.sz aE zE C.enc C.len C.one cf hO f cb g 0 c xs.toArray w eg hC hH hg (by simpa using hlen)
    have e0 : xs.toArray.size = xs.length := by simp
    rw [e0] at h
    refine h.mono ?_
    rintro e w' ⟨rfl, d', n, os, hp, hs, rfl⟩
    rw [← e0] at hp hs
    have hsz : d'.size = xs.toArray.size := hp.1
    have hp' := permIn_perm hp
    rw [← hsz] at hs
    have hs' := sorted_pair hs
    refine ⟨_, rfl, St.mkExi d'.toList (St.unsep (St.addPur ⟨rfl, by simpa using hp', hs'.imp fun h => ?_⟩ (St.sortedK hw (by simpa using hsz) n os)))⟩
    simpa [ltOf] using h
end
end Go.Vc
/-
  The calculus, part 21: Go's own sorting of an owned row of one cell an element, and of an array of numbers.
-/
namespace Go.Vc
open Go Go.RowKit
open Go.Proofs (sortWorld CmpLays1 ltOf)
open Go.Sort (putCells putRow mapBlock onCells PermIn SortedIn SWO Holds)
section
variable {P : Program} {α : Type} {w0 w w' : World} {H : List Assn} {T c g : Nat} {A : Option Addr} {C : Cod α} {xs ys : List α} {enc : α → Value}
theorem flat1 (hC : ∀ x, C.enc x = [enc x]) : ∀ xs : List α, xs.flatMap C.enc = xs.map enc := by
  intro xs
  induction xs with
  | nil => rfl
  | cons x xs ih => rw [List.flatMap_cons, List.map_cons, hC, ih]; rfl
theorem own_holds1 [Inhabited α] (hC : ∀ x, C.enc x = [enc x]) (hz : C.sz = 1) (hw : St w0 (Own T C (some ⟨g, 0, none⟩) c xs :: H) w) : Holds enc w g 0 xs.toArray ∧ g < w.heap.size := by
  obtain ⟨F, ho, hF⟩ := hw.get 0 rfl
  rcases ho.2 with ⟨h1, h2⟩ | ⟨g', cap, cur, hvv, hbase, hh, hle, hmax, hcs, htake⟩
  · injection h1 with e1; cases e1
  · injection hvv with e1 e2 e3
    cases e1
    subst e3
    refine ⟨fun j hj => ?_, (Array.getElem?_eq_some_iff.1 hh).1⟩
    have hj' : j < xs.length := by simpa using hj
    rw [flat1 hC, hz, Nat.mul_one] at htake
    have e : cur[j]? = some (enc xs[j]) := by
      have h1 : (cur.toList.take xs.length)[j]? = cur.toList[j]? := by rw [List.getElem?_take, if_pos (by omega)]
      rw [htake, List.getElem?_map, List.getElem?_eq_getElem hj'] at h1
      rw [← Array.getElem?_toList, ← h1]
      rfl
    constructor
    · rw [getElem!_pos _ j hj]
      simp only [World.cell?, hh, Nat.zero_add, e]
      simp
    · simp [World.frozen?, hh]
theorem putCells1 [Inhabited α] {cur : Array Value} (hn : xs.length ≤ cur.size) : (putCells enc 0 xs.toArray cur).toList.take xs.length = xs.map enc := by
  apply List.ext_getElem
  · simp [putCells]; omega
  · intro j h1 h2
    simp only [List.getElem_take, Array.getElem_toList, putCells, Array.getElem_mapIdx]
    rw [if_pos ⟨Nat.zero_le _, by simpa using h2⟩, Nat.sub_zero, getElem!_pos _ j (by simpa using h2)]
    simp
theorem sort_heap [Inhabited α] {enc : α → Value} {n : Nat} {d : Array α} {os : Array Obj} {k : Nat} (hk : k < w.heap.size) : (Go.Sort.grow (putRow enc (Go.Sort.ahead w n) g 0 d) os).heap[k]? = if g = k then (w.heap[k]?).map (onCells (putCells enc 0 d)) else w.heap[k]? := by
  unfold Go.Sort.grow putRow mapBlock Go.Sort.ahead
  simp only
  rw [Array.getElem?_append_left (by simpa using hk), Array.getElem?_modify]
theorem sort_size [Inhabited α] {enc : α → Value} {n : Nat} {d : Array α} {os : Array Obj} : (Go.Sort.grow (putRow enc (Go.Sort.ahead w n) g 0 d) os).heap.size = w.heap.size + os.size := by
  unfold Go.Sort.grow putRow mapBlock Go.Sort.ahead
  simp
theorem St.sorted1 [Inhabited α] (hC : ∀ x, C.enc x = [enc x]) (hz : C.sz = 1) (hw : St w0 (Own T C (some ⟨g, 0, none⟩) c xs :: H) w) (hl : ys.length = xs.length) (n : Nat) (os : Array Obj) :
    St w0 (Own T C (some ⟨g, 0, none⟩) c ys :: H) (Go.Sort.grow (putRow enc (Go.Sort.ahead w n) g 0 ys.toArray) os) := by
  refine hw.upd ?_
  rintro F ⟨ho, hF⟩ hb
  rcases ho.2 with ⟨h1, h2⟩ | ⟨g', cap, cur, hvv, hbase, hh, hle, hmax, hcs, htake⟩
  · injection h1 with e1; cases e1
  · injection hvv with e1 e2 e3
    cases e1
    subst e3
    have hgs : g < w.heap.size := (Array.getElem?_eq_some_iff.1 hh).1
    rw [hz, Nat.mul_one] at hcs
    refine ⟨⟨rfl, rfl, rfl, by rw [sort_size]; omega, fun k hk hk' => ?_, Nat.le_add_right _ _⟩, F, ⟨⟨?_, .inr ⟨g, c, putCells enc 0 ys.toArray cur, by rw [hl], Nat.zero_le _, ?_, by omega, hmax, ?_, ?_⟩⟩, ?_⟩, ?_⟩
    · rw [sort_heap hk, if_neg (fun e => hk' ((hF k).2 (by subst e; rfl)))]
    · rw [length_flatMap_enc]
    · rw [sort_heap hgs, if_pos rfl, hh]; rfl
    · simp [putCells, hcs, hz]
    · rw [hz, Nat.mul_one, flat1 hC]
      exact putCells1 (by omega)
    · intro k
      rw [hF k]
      simp [Value.ownBlock]
    · intro k hk
      exact ⟨.inl hk, by have := (hb k hk).2; rw [sort_size]; omega⟩
/-- Numbers in order. -/
def sortI (xs : List Int) : List Int := xs.mergeSort fun x y => decide (x ≤ y)
theorem sortI_len (xs : List Int) : (sortI xs).length = xs.length := by unfold sortI; exact List.length_mergeSort _
theorem sortI_perm (xs : List Int) : (sortI xs).Perm xs := List.mergeSort_perm _ _
theorem sortI_sorted (xs : List Int) : (sortI xs).Pairwise (· ≤ ·) := by
  have h := List.pairwise_mergeSort (le := fun x y : Int => decide (x ≤ y)) (by intro a b c; simp; omega) (by intro a b; simp; omega) xs
  exact h.imp (by intro a b h; simpa using h)
theorem sortI_unique {xs ys : List Int} (hp : ys.Perm xs) (hs : ys.Pairwise (· ≤ ·)) : ys = sortI xs :=
  (hp.trans (sortI_perm xs).symm).eq_of_pairwise (fun a b _ _ h1 h2 => by omega) hs (sortI_sorted xs)
/-- slices.Sort. -/
theorem sortI_does {ρ : Go.Shelf.Ren} (L : Go.Proofs.SlLaysM.n5 P ρ) {xs : List Int} (hlen : xs.length < 4611686018427387904) :
    Does P (ρ.f 5) [.slice A xs.length c] w0 (Own T I64 A c xs :: H) (fun v => [.sep (.pur (v = .tuple #[])) (Own T I64 A c (sortI xs))] ++ H) := by
  intro w hw
  rcases own_cases hw with ⟨rfl, rfl, rfl⟩ | ⟨g, rfl⟩
  · refine (Go.Proofs.AnyM.slices_Sort_int_none L none 0 w).mono ?_
    rintro e w' ⟨rfl, rfl⟩
    have e : sortI [] = [] := by simp [sortI]
    rw [e]
    exact ⟨_, rfl, St.unsep (St.addPur rfl hw)⟩
  · obtain ⟨hH, hg⟩ := own_holds1 (enc := Value.int .i64) (fun _ => rfl) rfl hw
    refine (Go.Proofs.AnyM.slices_Sort_int L g 0 c xs w hH hg hlen).mono ?_
    rintro e w' ⟨rfl, n, os, rfl⟩
    exact ⟨_, rfl, St.unsep (St.addPur rfl (St.sorted1 (enc := Value.int .i64) (fun _ => rfl) rfl hw (sortI_len xs) n os))⟩
/-- .. of an array. -/
theorem sortI_blk {ρ : Go.Shelf.Ren} (L : Go.Proofs.SlLaysM.n5 P ρ) {xs : List Int} (hlen : xs.length < 4611686018427387904) :
    Does P (ρ.f 5) [.slice (some ⟨g, 0, none⟩) xs.length c] w0 (Blk g (xs.map (Value.int .i64)) T :: H) (fun v => [.sep (.pur (v = .tuple #[])) (Blk g ((sortI xs).map (Value.int .i64)) T)] ++ H) := by
  intro w hw
  have hh := Blk.heap hw (i := 0) rfl
  have hg : g < w.heap.size := (Array.getElem?_eq_some_iff.1 hh).1
  have hH : Holds (Value.int .i64) w g 0 xs.toArray := by
    intro j hj
    have hj' : j < xs.length := by simpa using hj
    rw [getElem!_pos _ j hj]
    constructor
    · simp [World.cell?, hh, hj']
    · simp [World.frozen?, hh]
  refine (Go.Proofs.AnyM.slices_Sort_int L g 0 c xs w hH hg hlen).mono ?_
  rintro e w' ⟨rfl, n, os, rfl⟩
  refine ⟨_, rfl, St.unsep (St.addPur rfl (hw.upd ?_))⟩
  rintro F ⟨h0, hF⟩ hb
  have hl := sortI_len xs
  refine ⟨⟨rfl, rfl, rfl, by rw [sort_size]; omega, fun k hk hk' => ?_, Nat.le_add_right _ _⟩, F, ⟨?_, hF⟩, ?_⟩
  · rw [sort_heap hk, if_neg (fun e => hk' ((hF k).2 e.symm))]
  · show (Go.Sort.grow _ os).heap[g]? = _
    rw [sort_heap hg, if_pos rfl, hh]
    show some (Obj.cells _ _ _) = _
    congr 2
    have := putCells1 (xs := sortI xs) (enc := Value.int .i64) (cur := (xs.map (Value.int .i64)).toArray) (by simp [hl])
    rw [List.take_of_length_le (by simp [putCells, hl])] at this
    exact Array.ext' (by rw [← this]; rfl)
  · intro k hk
    exact ⟨.inl hk, by have := (hb k hk).2; rw [sort_size]; omega⟩
end
end Go.Vc
/-
  Plain words: three numbers in order; systems that are turned.
-/
namespace Go.Vc
open Go Go.RowKit
theorem three_eq {a b c x y z : Int} (h1 : a = x) (h2 : b = y) (h3 : c = z) : [a, b, c] = [x, y, z] := by rw [h1, h2, h3]
theorem sortI_three (a b c : Int) : sortI [a, b, c] = [lo3 a b c, mi3 a b c, hi3 a b c] := by
  symm
  apply sortI_unique
  · unfold mi3 lo3 hi3
    by_cases h1 : a ≤ b <;> by_cases h2 : b ≤ c <;> by_cases h3 : a ≤ c
    · have e : [min (min a b) c, a + b + c - min (min a b) c - max (max a b) c, max (max a b) c] = [a, b, c] := three_eq (by omega) (by omega) (by omega)
      rw [e]
    · exfalso; omega
    · have e : [min (min a b) c, a + b + c - min (min a b) c - max (max a b) c, max (max a b) c] = [a, c, b] := three_eq (by omega) (by omega) (by omega)
      rw [e]
      exact (List.Perm.swap _ _ _).cons _
    · have e : [min (min a b) c, a + b + c - min (min a b) c - max (max a b) c, max (max a b) c] = [c, a, b] := three_eq (by omega) (by omega) (by omega)
      rw [e]
      exact (List.Perm.swap _ _ _).trans ((List.Perm.swap _ _ _).cons _)
    · have e : [min (min a b) c, a + b + c - min (min a b) c - max (max a b) c, max (max a b) c] = [b, a, c] := three_eq (by omega) (by omega) (by omega)
      rw [e]
      exact List.Perm.swap _ _ _
    · have e : [min (min a b) c, a + b + c - min (min a b) c - max (max a b) c, max (max a b) c] = [b, c, a] := three_eq (by omega) (by omega) (by omega)
      rw [e]
      exact ((List.Perm.swap _ _ _).cons _).trans (List.Perm.swap _ _ _)
    · exfalso; omega
    · have e : [min (min a b) c, a + b + c - min (min a b) c - max (max a b) c, max (max a b) c] = [c, b, a] := three_eq (by omega) (by omega) (by omega)
      rw [e]
      exact (List.Perm.swap _ _ _).trans (((List.Perm.swap _ _ _).cons _).trans (List.Perm.swap _ _ _))
  · simp only [List.pairwise_cons, List.mem_cons, List.not_mem_nil, or_false, forall_eq_or_imp, forall_eq, List.Pairwise.nil, and_true]
    unfold mi3 lo3 hi3
    refine ⟨⟨?_, ?_⟩, ?_, ?_⟩ <;> first | omega | (intro _ h; cases h)
section
variable {P : Program} {w0 w : World} {H : List Assn} {T c g : Nat}
theorem sort3_blk {ρ : Go.Shelf.Ren} (L : Go.Proofs.SlLaysM.n5 P ρ) (x y z : Int) :
    Does P (ρ.f 5) [.slice (some ⟨g, 0, none⟩) 3 c] w0 (Blk g [.int .i64 x, .int .i64 y, .int .i64 z] T :: H) (fun v => [.sep (.pur (v = .tuple #[])) (Blk g [.int .i64 (lo3 x y z), .int .i64 (mi3 x y z), .int .i64 (hi3 x y z)] T)] ++ H) := by
  have h := sortI_blk (w0 := w0) (H := H) (T := T) (c := c) (g := g) L (xs := [x, y, z]) (by simp)
  rw [sortI_three] at h
  exact h
end
theorem swoB : Go.Sort.SWO (Go.Proofs.ltOf fun x y : B3 => cmpL (bl x) (bl y)) := by
  have e : ∀ x y : B3, Go.Proofs.ltOf (fun x y : B3 => cmpL (bl x) (bl y)) x y = decide (B3.lt x y) := fun x y => by
    unfold Go.Proofs.ltOf
    exact decide_eq_decide.2 (cmpL_bl x y)
  refine ⟨fun x => ?_, fun x y z h1 h2 => ?_, fun x y z h1 h2 => ?_⟩
  · rw [e]; exact decide_eq_false (lt_irrefl x)
  · rw [e] at *
    simp only [decide_eq_true_eq] at *
    unfold B3.lt at *
    omega
  · rw [e] at *
    simp only [decide_eq_false_iff_not] at *
    unfold B3.lt at *
    omega
theorem srt_of {ys : List B3} (h : ys.Pairwise fun x y => ¬ cmpL (bl y) (bl x) < 0) : SrtB ys := h.imp fun {a b} h => by
  unfold leB
  rwa [cmpL_bl] at h
/-- The points, turned. -/
def turnL (v k : Int) (n : Nat) : List Int := (List.range n).map fun a : Nat => ((a : Int) + k) % v
theorem turnL_len (v k : Int) (n : Nat) : (turnL v k n).length = n := by simp [turnL]
theorem turnL_snoc (v k : Int) (n : Nat) : turnL v k (n + 1) = turnL v k n ++ [((n : Int) + k) % v] := by simp [turnL, List.range_succ]
theorem turnL_mem {v k : Int} {n : Nat} (hv : 0 < v) {q : Int} (h : q ∈ turnL v k n) : 0 ≤ q ∧ q < v := by
  obtain ⟨a, _, rfl⟩ := List.mem_map.1 h
  exact ⟨Int.emod_nonneg _ (by omega), Int.emod_lt_of_pos _ hv⟩
/-- The blocks, turned, in some order. -/
def turnB (v k : Int) (bs : List B3) : List B3 := bs.map (renB (turnL v k v.toNat))
theorem good_len {v : Int} {bs : List B3} {k : Int} (h : STS v bs) : ∀ b ∈ bs, good ((turnL v k v.toNat).length : Int) b := fun b hb => by
  rw [turnL_len]
  have := h.good b hb
  have h1 := h.lo
  rwa [Int.toNat_of_nonneg (by omega)]
/-- What both TurnSystem return. -/
def TSR (v : Int) (bs : List B3) (k : Int) (r : List B3) : Prop := if STS v bs ∧ 0 ≤ k ∧ k ≤ v - 1 then r.Perm (turnB v k bs) ∧ SrtB r else r = []
theorem TSR.unique {v : Int} {bs : List B3} {k : Int} {r s : List B3} (h : TSR v bs k r) (g : TSR v bs k s) : r = s := by
  unfold TSR at *
  split at h
  · rename_i hc
    rw [if_pos hc] at g
    exact srtB_unique h.2 g.2 (h.1.trans g.1.symm)
  · rename_i hc
    rw [if_neg hc] at g
    rw [h, g]
theorem TSR.len {v : Int} {bs : List B3} {k : Int} {r : List B3} (h : TSR v bs k r) : r.length ≤ bs.length := by
  unfold TSR at h
  split at h
  · rw [h.1.length_eq]; simp [turnB]
  · simp [h]
/-- No block is in common with the turned ones. -/
def apT (v : Int) (bs : List B3) (k : Int) : Prop := ∀ b ∈ bs, b ∉ turnB v k bs
instance (v : Int) (bs : List B3) (k : Int) : Decidable (apT v bs k) := inferInstanceAs (Decidable (∀ b ∈ bs, b ∉ turnB v k bs))
theorem apT_iff {v : Int} {bs : List B3} {k : Int} {r : List B3} (h : r.Perm (turnB v k bs)) : (bs.filter fun b => decide (b ∈ r)).length = 0 ↔ apT v bs k := by
  rw [List.length_eq_zero_iff, List.filter_eq_nil_iff]
  unfold apT
  simp only [decide_eq_true_eq, h.mem_iff]
/-- The least turn that is apart, and the code: what both MateByTurning return. -/
def MTR (v : Int) (bs : List B3) (r code : Int) : Prop :=
  (¬ STS v bs → r = 0 ∧ code = 1) ∧ (STS v bs → (1 ≤ r ∧ r < v ∧ apT v bs r ∧ (∀ j, 1 ≤ j → j < r → ¬ apT v bs j) ∧ code = 0) ∨ ((∀ j, 1 ≤ j → j < v → ¬ apT v bs j) ∧ r = 0 ∧ code = 4))
theorem MTR.unique {v : Int} {bs : List B3} {r c s d : Int} (h : MTR v bs r c) (g : MTR v bs s d) : r = s ∧ c = d := by
  by_cases hS : STS v bs
  · rcases h.2 hS with ⟨a1, a2, a3, a4, a5⟩ | ⟨a1, a2, a3⟩ <;> rcases g.2 hS with ⟨b1, b2, b3, b4, b5⟩ | ⟨b1, b2, b3⟩
    · have e : r = s := by
        by_cases h1 : r < s
        · exact absurd a3 (b4 r a1 h1)
        · by_cases h2 : s < r
          · exact absurd b3 (a4 s b1 h2)
          · omega
      exact ⟨e, by omega⟩
    · exact absurd a3 (b1 r a1 a2)
    · exact absurd b3 (a1 s b1 b2)
    · omega
  · have := h.1 hS; have := g.1 hS; omega
end Go.Vc
/-
  Plain words: blocks that are turned around; the two systems of a new desk.
-/
namespace Go.Vc
open Go Go.RowKit
def bkT (v : Int) (b : B3) (i : Nat) : B3 := bk3 ((b.1 + i) % v) ((b.2.1 + i) % v) ((b.2.2 + i) % v)
def addT (v : Int) (b : B3) (l : List B3) (i : Nat) : List B3 := if bkT v b i ∈ l then l else l ++ [bkT v b i]
/-- The first n turns of a block, put behind a list, without equal ones. -/
def rowT (v : Int) (l : List B3) (b : B3) (n : Nat) : List B3 := (List.range n).foldl (addT v b) l
def tblT (v : Int) (bs : List B3) : List B3 := bs.foldl (fun l b => rowT v l b v.toNat) []
section
variable {v : Int} {l bs : List B3} {b : B3} {n i : Nat}
theorem rowT_succ : rowT v l b (n + 1) = addT v b (rowT v l b n) n := by
  unfold rowT
  rw [List.range_succ, List.foldl_append]
  rfl
theorem rowT_yes (h : bkT v b n ∈ rowT v l b n) : rowT v l b (n + 1) = rowT v l b n := by
  rw [rowT_succ]
  unfold addT
  rw [if_pos h]
theorem rowT_no (h : ¬ bkT v b n ∈ rowT v l b n) : rowT v l b (n + 1) = rowT v l b n ++ [bkT v b n] := by
  rw [rowT_succ]
  unfold addT
  rw [if_neg h]
theorem rowT_zero : rowT v l b 0 = l := rfl
theorem rowT_len : ∀ n, (rowT v l b n).length ≤ l.length + n := by
  intro n
  induction n with
  | zero => simp [rowT_zero]
  | succ n ih =>
    by_cases h : bkT v b n ∈ rowT v l b n
    · rw [rowT_yes h]; omega
    · rw [rowT_no h, List.length_append]; simp; omega
end
/-- What both make of the Fano plane. -/
def FanoR (r : List B3) : Prop := r.Perm (rowT 7 [] (0, 1, 3) 7) ∧ SrtB r
theorem FanoR.unique {r s : List B3} (h : FanoR r) (g : FanoR s) : r = s := srtB_unique h.2 g.2 (h.1.trans g.1.symm)
theorem FanoR.len {r : List B3} (h : FanoR r) : r.length ≤ 7 := by
  rw [h.1.length_eq]
  exact rowT_len 7
end Go.Vc
/-
  The calculus, part 23: pairs of numbers; the pairs of blocks.
-/
namespace Go.Vc
open Go Go.RowKit
def P2C : Cod (Int × Int) := ⟨2, fun p => [.int .i64 p.1, .int .i64 p.2], by decide, fun _ => rfl, fun _ u hu => by simp at hu; rcases hu with rfl | rfl <;> rfl⟩
def P2v (p : Int × Int) : Value := .agg #[.int .i64 p.1, .int .i64 p.2]
section
variable {P : Program} {w0 w : World} {H : List Assn} {σ : Sig} {o : Oper}
end
/-! ### The pairs of blocks -/
def ltP (p q : Int × Int) : Prop := p.1 < q.1 ∨ (p.1 = q.1 ∧ p.2 < q.2)
instance (p q : Int × Int) : Decidable (ltP p q) := inferInstanceAs (Decidable (_ ∨ _))
def leP (p q : Int × Int) : Prop := ¬ ltP q p
def SrtP (l : List (Int × Int)) : Prop := l.Pairwise leP
def prsB (bs : List B3) : List (Int × Int) := bs.flatMap fun b => [(b.1, b.2.1), (b.1, b.2.2), (b.2.1, b.2.2)]
section
variable {v : Nat} {bs cs : List B3}
end
end Go.Vc
namespace Go.Vc
/-- Which numbers of pairs are in some blocks. -/
def usedK (n : Nat) (bs : List B3) : List Bool := (List.range n).map fun k => decide (∃ p ∈ prsB bs, prI p.1.toNat p.2.toNat = k)
def usedL (bs : List B3) : List Bool := usedK 256 bs
/-- A trade. -/
def TRD (v : Int) (os ns : List B3) : Prop := STS v os ∧ STS v ns ∧ (∀ b ∈ os, b ∉ ns) ∧ (prsB os).Perm (prsB ns)
noncomputable instance (v : Int) (os ns : List B3) : Decidable (TRD v os ns) := Classical.propDecidable _
/-- The first n numbers that are points of blocks. -/
def ptsB (os : List B3) (n : Nat) : List Int := ((List.range n).filter fun p : Nat => decide (∃ b ∈ os, has b (p : Int))).map fun p : Nat => (p : Int)
theorem ptsB_len {os : List B3} {n : Nat} : (ptsB os n).length ≤ n := by
  unfold ptsB
  rw [List.length_map]
  exact Nat.le_trans (List.length_filter_le _ _) (by simp)
/-- What both PointsOfTrade return. -/
def PTR (v : Int) (os ns : List B3) (o : List Int) : Prop := (TRD v os ns → o = ptsB os v.toNat) ∧ (¬ TRD v os ns → o = [])
theorem PTR.unique {v : Int} {os ns : List B3} {a b : List Int} (h : PTR v os ns a) (g : PTR v os ns b) : a = b := by
  by_cases ht : TRD v os ns
  · rw [h.1 ht, g.1 ht]
  · rw [h.2 ht, g.2 ht]
theorem PTR.len {v : Int} {os ns : List B3} {a : List Int} (h : PTR v os ns a) : a.length ≤ 15 := by
  by_cases ht : TRD v os ns
  · rw [h.1 ht]
    have := ptsB_len (os := os) (n := v.toNat)
    have := ht.1.hi
    omega
  · rw [h.2 ht]; simp
end Go.Vc
/-
  Plain words: mitres: three blocks with a point in common, and two blocks that are apart and meet each of the three elsewhere.
-/
namespace Go.Vc
structure Cr (a : Int) (X Y Z P Q : B3) : Prop where
  pa : ¬ has P a
  qa : ¬ has Q a
  dis : ∀ t, has P t → ¬ has Q t
  xp : ∃ t, has X t ∧ has P t
  xq : ∃ t, has X t ∧ has Q t
  yp : ∃ t, has Y t ∧ has P t
  yq : ∃ t, has Y t ∧ has Q t
  zp : ∃ t, has Z t ∧ has P t
  zq : ∃ t, has Z t ∧ has Q t
section
variable {v : Int} {bs : List B3} {a b c d e f g : Int} {x y z : Nat} {r : List Int}
def MitT (bs : List B3) (a : Int) (X Y Z : B3) (xs : List Int) (r : List Int) : Prop := ∃ p q : Nat, ∃ (hp : p < bs.length) (hq : q < bs.length), Cr a X Y Z bs[p] bs[q] ∧ r.Perm (xs ++ [(p : Int), (q : Int)]) ∧ r.Pairwise (· ≤ ·)
/-- Two blocks, one with each of the points. -/
def HitM (bs : List B3) (b d f c e g : Int) (xs r : List Int) : Prop := ∃ p q : Nat, ∃ (hp : p < bs.length) (hq : q < bs.length), (has bs[p] b ∧ has bs[p] d ∧ has bs[p] f) ∧ (has bs[q] c ∧ has bs[q] e ∧ has bs[q] g) ∧ r.Perm (xs ++ [(p : Int), (q : Int)]) ∧ r.Pairwise (· ≤ ·)
/-- Three blocks through a. -/
structure Thr (bs : List B3) (a b c d e f g : Int) (x y z : Nat) : Prop where
  hx : x < bs.length
  hy : y < bs.length
  hz : z < bs.length
  xy : x ≠ y
  xz : x ≠ z
  yz : y ≠ z
  tx : Tri (bs[x]'hx) a b c
  ty : Tri (bs[y]'hy) a d e
  tz : Tri (bs[z]'hz) a f g
theorem far (h : STS v bs) {i j : Nat} (hi : i < bs.length) (hj : j < bs.length) (hne : i ≠ j) (ha : has bs[i] a) (hb : has bs[j] a) (t : Int) (h1 : has bs[i] t) (h2 : has bs[j] t) : t = a := by
  apply Decidable.byContradiction
  intro ht
  exact hne (h.two hi hj (fun e => ht e.symm) ha h1 hb h2)
def Sev (a b c d e f g : Int) : Prop := (a ≠ b ∧ a ≠ c ∧ a ≠ d ∧ a ≠ e ∧ a ≠ f ∧ a ≠ g) ∧ (b ≠ c ∧ b ≠ d ∧ b ≠ e ∧ b ≠ f ∧ b ≠ g) ∧ (c ≠ d ∧ c ≠ e ∧ c ≠ f ∧ c ≠ g) ∧ (d ≠ e ∧ d ≠ f ∧ d ≠ g) ∧ (e ≠ f ∧ e ≠ g) ∧ f ≠ g
end
end Go.Vc
/-
  Plain words: the lists of mitres.
-/
namespace Go.Vc
def fmR {α : Type} (f : Nat → List α) (n : Nat) : List α := (List.range n).flatMap f
abbrev W4 := Int × Int × Int × Int
noncomputable def ent (bs : List B3) (x y z b c : Int) (w : W4) : List (List Int) :=
  if idxP (fun t => bk3 b w.1 w.2.2.1 = t) bs < 0 ∨ idxP (fun t => bk3 c w.2.1 w.2.2.2 = t) bs < 0 then [] else [sortI [x, y, z, idxP (fun t => bk3 b w.1 w.2.2.1 = t) bs, idxP (fun t => bk3 c w.2.1 w.2.2.2 = t) bs]]
def wayL (d e f g : Int) : List W4 := [(d, e, f, g), (d, e, g, f), (e, d, f, g), (e, d, g, f)]
noncomputable def f3 (bs : List B3) (a x y z : Int) : List (List Int) := (wayL (oth1 (blk bs y) a) (oth2 (blk bs y) a) (oth1 (blk bs z) a) (oth2 (blk bs z) a)).flatMap (ent bs x y z (oth1 (blk bs x) a) (oth2 (blk bs x) a))
noncomputable def mt3 (bs : List B3) (a : Int) (l : List Int) (i j k : Nat) : List (List Int) := f3 bs a (l.getD i 0) (l.getD (i + 1 + j) 0) (l.getD (i + j + 2 + k) 0)
noncomputable def mt2 (bs : List B3) (a : Int) (l : List Int) (i j : Nat) : List (List Int) := fmR (mt3 bs a l i j) (l.length - (i + j + 2))
noncomputable def mt1 (bs : List B3) (a : Int) (l : List Int) (i : Nat) : List (List Int) := fmR (mt2 bs a l i) (l.length - (i + 1))
noncomputable def mitI (bs : List B3) (a : Int) : List (List Int) := fmR (mt1 bs a (numsAt (fun c => has c a) bs bs.length)) (numsAt (fun c => has c a) bs bs.length).length
section
variable {v : Int} {bs : List B3} {a b c d e f g : Int} {x y z : Nat} {r : List Int}
/-! ### The numbers of the blocks with a point -/
def atL (bs : List B3) (a : Int) : List Int := numsAt (fun c => has c a) bs bs.length
/-- The mitres with a centre. -/
def Mit (bs : List B3) (a : Int) (r : List Int) : Prop := ∃ (x y z : Nat) (hx : x < bs.length) (hy : y < bs.length) (hz : z < bs.length), x < y ∧ y < z ∧ has bs[x] a ∧ has bs[y] a ∧ has bs[z] a ∧ MitT bs a bs[x] bs[y] bs[z] [(x : Int), (y : Int), (z : Int)] r
end
end Go.Vc
/-
  The calculus, part 25: lists of lists in order; each once.
-/
namespace Go.Vc
open Go Go.RowKit
open Go.Proofs (ltOf)
open Go.Sort (SWO)
section
variable {P : Program} {w0 w : World} {H : List Assn} {T T2 c : Nat} {A : Option Addr} {ps : List (Sl × List Int)}
def RowC : Cod (Sl × List Int) := ⟨1, fun p => SlC.enc p.1, by decide, fun p => SlC.len p.1, fun p u hu => SlC.one p.1 u hu⟩
end
instance decLtL (x y : List Int) : Decidable (ltL x y) := inferInstanceAs (Decidable (cmpL x y < 0))
/-! ### Each once -/
abbrev SL := Sl × List Int
def d0 : SL := (⟨none, 0, 0⟩, [])
def keepA (l : List SL) (j : Nat) : Prop := j = 0 ∨ (l.getD j d0).2 ≠ (l.getD (j - 1) d0).2
instance (l : List SL) (j : Nat) : Decidable (keepA l j) := inferInstanceAs (Decidable (_ ∨ _))
def kpt (l : List SL) (i : Nat) : List SL := ((List.range i).filter fun j => decide (keepA l j)).map fun j => l.getD j d0
section
variable {l : List SL} {i j k : Nat}
/-- What the row holds while its elements are moved. -/
def mvt (l : List SL) (i : Nat) : List Sl := tops (kpt l i) ++ (tops l).drop (kpt l i).length
end
end Go.Vc
/-
  Plain words: subsystems: sets with a block for each pair; told by the number of their blocks.
-/
namespace Go.Vc
/-! ### Pairs of a list -/
def prs2 : List Int → List (Int × Int)
  | [] => []
  | x :: l => l.map (fun y => (x, y)) ++ prs2 l
section
variable {v : Int} {bs : List B3} {s : Nat}
def SubQ (bs : List B3) (s : Nat) : Prop := ∀ x y : Int, x ∈ pts s → y ∈ pts s → x ≠ y → ∃ d ∈ bs, has d x ∧ has d y ∧ ∀ z, has d z → z ∈ pts s
def Clo (bs : List B3) (s : Nat) : Prop := ∀ d ∈ bs, ¬ ones (bmask d &&& s) = 2
def insB (bs : List B3) (s : Nat) : List B3 := bs.filter fun d => decide (bmask d &&& s = bmask d)
end
end Go.Vc
/-
  Plain words: the list of subsystems.
-/
namespace Go.Vc
open Go.Proofs (ltOf)
open Go.Sort (SWO)
def PairOk (bs : List B3) (s : Nat) (x y : Int) : Prop := ∃ d ∈ bs, has d x ∧ has d y ∧ ∀ z, has d z → z ∈ pts s
def SubI (bs : List B3) (s i j : Nat) : Prop := ∀ a b, a < b → (b < i ∨ (b = i ∧ a < j)) → b < (pts s).length → PairOk bs s ((pts s).getD b 0) ((pts s).getD a 0)
section
variable {v : Int} {bs : List B3} {s i j : Nat}
theorem PairOk.symm {x y : Int} (h : PairOk bs s x y) : PairOk bs s y x := by
  obtain ⟨d, h1, h2, h3, h4⟩ := h
  exact ⟨d, h1, h3, h2, h4⟩
theorem tri_third {d : B3} (hg : good v d) {x y : Int} (hxy : x ≠ y) (hx : has d x) (hy : has d y) : ∃ z, Tri d x y z := by
  have t := tri_oth hg hx
  rcases (t.2.2.2 y).1 hy with e | e | e
  · exact absurd e.symm hxy
  · exact ⟨_, e ▸ t⟩
  · exact ⟨_, e ▸ t.swap⟩
noncomputable instance (bs : List B3) (s : Nat) : Decidable (SubQ bs s) := Classical.propDecidable _
/-- The subsystems among the first n sets. -/
noncomputable def subsL (bs : List B3) (n : Nat) : List (List Int) := ((List.range n).filter fun s => decide (3 ≤ ones s ∧ SubQ bs s)).map pts
theorem subsL_len {n : Nat} : (subsL bs n).length ≤ n := by
  unfold subsL
  rw [List.length_map]
  exact Nat.le_trans (List.length_filter_le _ _) (by simp)
theorem subsL_small {n : Nat} : ∀ q ∈ subsL bs n, q.length ≤ 15 := by
  intro q hq
  obtain ⟨s, _, rfl⟩ := List.mem_map.1 hq
  exact pts_len s
end
/-- Shorter lists first, then in their order. -/
def cfB (a b : List Int) : Int := if ¬ (a.length : Int) = b.length then (a.length : Int) - b.length else cmpL a b
def leQ (a b : List Int) : Prop := ¬ cfB b a < 0
theorem cfB_lt {a b : List Int} : cfB a b < 0 ↔ a.length < b.length ∨ (a.length = b.length ∧ ltL a b) := by
  unfold cfB ltL
  split <;> omega
theorem leQ_anti {a b : List Int} (h1 : leQ a b) (h2 : leQ b a) : a = b := by
  unfold leQ at *
  rw [cfB_lt] at *
  have h4 : a.length = b.length := by
    rcases Nat.lt_trichotomy a.length b.length with h | h | h
    · exact absurd (.inl h) h2
    · exact h
    · exact absurd (.inl h) h1
  exact ltL_tri (fun h => h2 (.inr ⟨h4, h⟩)) (fun h => h1 (.inr ⟨h4.symm, h⟩))
/-- What both Subsystems return. -/
def SubR (v : Int) (bs : List B3) (l : List (List Int)) : Prop := (STS v bs → l.Perm (subsL bs (2 ^ v.toNat)) ∧ l.Pairwise leQ) ∧ (¬ STS v bs → l = [])
theorem SubR.unique {v : Int} {bs : List B3} {l m : List (List Int)} (h1 : SubR v bs l) (h2 : SubR v bs m) : l = m := by
  by_cases h : STS v bs
  · obtain ⟨p1, s1⟩ := h1.1 h
    obtain ⟨p2, s2⟩ := h2.1 h
    exact (p1.trans p2.symm).eq_of_pairwise (fun a b _ _ k1 k2 => leQ_anti k1 k2) s1 s2
  · rw [h1.2 h, h2.2 h]
theorem SubR.small {v : Int} {bs : List B3} {l : List (List Int)} (h1 : SubR v bs l) : (∀ q ∈ l, q.length ≤ 15) ∧ l.length ≤ 32768 := by
  by_cases h : STS v bs
  · obtain ⟨p1, s1⟩ := h1.1 h
    have hv := h.hi
    refine ⟨fun q hq => subsL_small q (p1.mem_iff.1 hq), ?_⟩
    rw [p1.length_eq]
    exact Nat.le_trans subsL_len (Nat.pow_le_pow_right (by decide) (by omega : v.toNat ≤ 15))
  · rw [h1.2 h]; simp
end Go.Vc
namespace Go.Vc
end Go.Vc
namespace Go.Vc
end Go.Vc
namespace Go.Vc
end Go.Vc
namespace Go.Vc
noncomputable instance (bs : List B3) (s : Nat) : Decidable (Clo bs s) := Classical.propDecidable _
end Go.Vc
namespace Go.Vc
end Go.Vc
/-
  Plain words: cycles of a point by two others in a full system.
-/
namespace Go.Vc
def Pt (v x : Int) : Prop := 0 ≤ x ∧ x < v
noncomputable instance (v x : Int) : Decidable (Pt v x) := Classical.propDecidable _
/-- Each pair is in a block. -/
def AllP (v : Int) (bs : List B3) : Prop := ∀ x y, Pt v x → Pt v y → x ≠ y → ∃ d ∈ bs, has d x ∧ has d y
section
variable {v : Int} {bs : List B3} {a b p x y : Int} {m n N : Nat}
/-- The third point: what is known of it. -/
structure Th (v : Int) (bs : List B3) (x y z : Int) : Prop where
  blk : ∃ d ∈ bs, Tri d x y z
  pt : Pt v z
  nx : z ≠ x
  ny : z ≠ y
theorem th_of (h : STS v bs) (hf : AllP v bs) (hx : Pt v x) (hy : Pt v y) (hxy : x ≠ y) : Th v bs x y (third bs x y) := by
  obtain ⟨d, hd, k1, k2⟩ := hf x y hx hy hxy
  obtain ⟨z, t⟩ := tri_third (h.good d hd) hxy k1 k2
  obtain ⟨k, hk, rfl⟩ := List.mem_iff_getElem.1 hd
  rw [(third_tri h hk t).2]
  have hg := h.good _ hd
  have h3 := t.h3
  refine ⟨⟨_, hd, t⟩, ?_, fun e => t.2.1 e.symm, fun e => t.2.2.1 e.symm⟩
  unfold good at hg
  unfold has at h3
  unfold Pt
  omega
theorem Th.back {z : Int} (h : STS v bs) (t : Th v bs x y z) : third bs x z = y := by
  obtain ⟨d, hd, t⟩ := t.blk
  obtain ⟨k, hk, rfl⟩ := List.mem_iff_getElem.1 hd
  exact (third_tri h hk t.swap).2
/-- The points that can be in a cycle. -/
structure Cy (v : Int) (bs : List B3) (a b x : Int) : Prop where
  pt : Pt v x
  na : x ≠ a
  nb : x ≠ b
  nc : x ≠ third bs a b
structure Ab (v : Int) (bs : List B3) (a b : Int) : Prop where
  h : STS v bs
  f : AllP v bs
  pa : Pt v a
  pb : Pt v b
  ne : a ≠ b
theorem Ab.symm (g : Ab v bs a b) : Ab v bs b a := ⟨g.h, g.f, g.pb, g.pa, fun e => g.ne e.symm⟩
theorem Ab.third (g : Ab v bs a b) : third bs b a = third bs a b := by
  have t := th_of g.h g.f g.pa g.pb g.ne
  obtain ⟨d, hd, t⟩ := t.blk
  obtain ⟨k, hk, rfl⟩ := List.mem_iff_getElem.1 hd
  exact (third_tri g.h hk t.rot).2
theorem Cy.symm (g : Ab v bs a b) (c : Cy v bs a b x) : Cy v bs b a x := ⟨c.pt, c.nb, c.na, by rw [g.third]; exact c.nc⟩
theorem Cy.step (g : Ab v bs a b) (c : Cy v bs a b x) : Th v bs a x (third bs a x) ∧ Cy v bs a b (third bs a x) := by
  have t := th_of g.h g.f g.pa c.pt (fun e => c.na e.symm)
  have bk := t.back g.h
  refine ⟨t, t.pt, t.nx, fun e => ?_, fun e => ?_⟩
  · rw [e] at bk
    exact c.nc bk.symm
  · have t2 := th_of g.h g.f g.pa g.pb g.ne
    rw [e, t2.back g.h] at bk
    exact c.nb bk.symm
/-- The cycle: by a and by b in turn. -/
def cm (a b : Int) (m : Nat) : Int := if m % 2 = 0 then a else b
noncomputable def uc (bs : List B3) (a b p : Int) : Nat → Int
  | 0 => p
  | m + 1 => third bs (cm a b m) (uc bs a b p m)
/-- The length of the cycle is 2 N. -/
structure Per (bs : List B3) (a b p : Int) (N : Nat) : Prop where
  pos : 0 < N
  le : N ≤ 15
  ret : uc bs a b p (2 * N) = p
  least : ∀ k, 0 < k → k < N → uc bs a b p (2 * k) ≠ p
end
end Go.Vc
/-
  Plain words: the blocks of a cycle, and those in which two points are exchanged.
-/
namespace Go.Vc
section
variable {v : Int} {bs : List B3} {a b p x y z : Int} {m n N : Nat} {d : B3}
noncomputable def ucE (bs : List B3) (a b p : Int) (m : Nat) : B3 := bk3 (cm a b m) (uc bs a b p m) (uc bs a b p (m + 1))
noncomputable def ucF (bs : List B3) (a b p : Int) (m : Nat) : B3 := bk3 (cm b a m) (uc bs a b p m) (uc bs a b p (m + 1))
noncomputable def outL (bs : List B3) (a b p : Int) (N : Nat) : List B3 := (List.range (2 * N)).map (ucE bs a b p)
noncomputable def inL (bs : List B3) (a b p : Int) (N : Nat) : List B3 := (List.range (2 * N)).map (ucF bs a b p)
noncomputable def cycL (bs : List B3) (a b p : Int) (N : Nat) : List Int := (List.range (2 * N)).map (uc bs a b p)
def cntY (l : List Int) (d : B3) : Nat := ((bl d).filter fun q => decide (q ∈ l)).length
def inY (l : List Int) (a b : Int) (d : B3) : Prop := cntY l d = 2 ∧ (has d a ∨ has d b)
instance (l : List Int) (a b : Int) (d : B3) : Decidable (inY l a b d) := inferInstanceAs (Decidable (_ ∧ _))
end
end Go.Vc
/-
  Plain words: what both CycleTrade return.
-/
namespace Go.Vc
def sw2 (a b t : Int) : Int := if t = a then b else if t = b then a else t
def exB (a b : Int) (d : B3) : B3 := bk3 (sw2 a b d.1) (sw2 a b d.2.1) (sw2 a b d.2.2)
section
variable {v : Int} {bs : List B3} {a b p x y z : Int} {m n N : Nat} {d : B3}
theorem Per.unique {M : Nat} (h1 : Per bs a b p N) (h2 : Per bs a b p M) : N = M := by
  rcases Nat.lt_trichotomy N M with h | h | h
  · exact absurd h1.ret (h2.least N h1.pos h)
  · exact h
  · exact absurd h2.ret (h1.least M h2.pos h)
/-- The arguments fit. -/
def CyOk (v : Int) (bs : List B3) (a b p : Int) : Prop := Pt v a ∧ Pt v b ∧ Pt v p ∧ a ≠ b ∧ p ≠ a ∧ p ≠ b ∧ p ≠ third bs a b
noncomputable instance (v : Int) (bs : List B3) (a b p : Int) : Decidable (CyOk v bs a b p) := Classical.propDecidable _
noncomputable def cyCode (v : Int) (bs : List B3) (a b p : Int) : Int := if STS v bs then if CyOk v bs a b p then if 6 * (bs.length : Int) = v * (v - 1) then 0 else 5 else 2 else 1
/-- The blocks that are taken out and put in. -/
def CYR (v : Int) (bs : List B3) (a b p : Int) (o i : List B3) : Prop := (cyCode v bs a b p = 0 → ∃ N, Per bs a b p N ∧ (o.Perm (outL bs a b p N) ∧ SrtB o) ∧ (i.Perm (inL bs a b p N) ∧ SrtB i)) ∧ (¬ cyCode v bs a b p = 0 → o = [] ∧ i = [])
theorem CYR.unique {o i o' i' : List B3} (h1 : CYR v bs a b p o i) (h2 : CYR v bs a b p o' i') : o = o' ∧ i = i' := by
  by_cases h : cyCode v bs a b p = 0
  · obtain ⟨N, P, ⟨p1, s1⟩, p2, s2⟩ := h1.1 h
    obtain ⟨M, Q, ⟨q1, r1⟩, q2, r2⟩ := h2.1 h
    have e := P.unique Q
    subst e
    exact ⟨srtB_unique s1 r1 (p1.trans q1.symm), srtB_unique s2 r2 (p2.trans q2.symm)⟩
  · obtain ⟨e1, e2⟩ := h1.2 h
    obtain ⟨e3, e4⟩ := h2.2 h
    exact ⟨e1.trans e3.symm, e2.trans e4.symm⟩
theorem CYR.len {o i : List B3} (h1 : CYR v bs a b p o i) : o.length ≤ 30 ∧ i.length ≤ 30 := by
  by_cases h : cyCode v bs a b p = 0
  · obtain ⟨N, P, ⟨p1, s1⟩, p2, s2⟩ := h1.1 h
    have := P.le
    rw [p1.length_eq, p2.length_eq]
    unfold outL inL
    simp
    omega
  · obtain ⟨e1, e2⟩ := h1.2 h
    rw [e1, e2]
    simp
end
end Go.Vc
namespace Go.Vc
section
variable {v : Int} {bs : List B3} {a b p : Int} {i N : Nat}
end
end Go.Vc
namespace Go.Vc
section
variable {v : Int} {bs : List B3} {a b p : Int} {i N : Nat}
end
end Go.Vc
namespace Go.Vc
section
variable {v : Int} {bs : List B3} {a b p : Int} {k : Nat}
end
end Go.Vc
/-
  Plain words: systems with few points, by their numbers.
-/
namespace Go.Vc
theorem rest_sts {v : Nat} {T : List B3} (h : Rest v 0 T) (h3 : 3 ≤ v) (hv : v ≤ 15) (hl : T.length ≤ 35) : STS (v : Int) T := by
  refine ⟨by omega, by omega, hl, ?_, ?_⟩
  · intro i hi _
    obtain ⟨x, y, z, e, h1, h2, h4⟩ := h.ok _ (List.getElem_mem hi)
    refine ⟨by rw [e]; unfold good b3N; simp only; omega, fun j hj hji => List.pairwise_iff_getElem.1 h.lt j i hj hi (by omega)⟩
  · intro i hi _ j hj hji
    exact List.pairwise_iff_getElem.1 h.fit j i hj hi hji
theorem all_sts {v : Int} (h : few9 v) {q : List B3} (hq : q ∈ allN v) : STS v q ∧ Few v q := by
  have h0 := few_len h
  have hr := comp_rest _ _ _ _ h0.2.2.1 hq
  have hc := comp_count _ _ _ _ h0.2.2.1 hq
  rcases h with rfl | rfl | rfl
  · have hl : 3 * q.length = 3 := by rw [← left3]; exact hc
    exact ⟨rest_sts (v := 3) hr (by decide) (by decide) (by omega), .inl rfl, by omega⟩
  · have hl : 3 * q.length = 21 := by rw [← left7]; exact hc
    exact ⟨rest_sts (v := 7) hr (by decide) (by decide) (by omega), .inr (.inl rfl), by omega⟩
  · have hl : 3 * q.length = 36 := by rw [← left9]; exact hc
    exact ⟨rest_sts (v := 9) hr (by decide) (by decide) (by omega), .inr (.inr rfl), by omega⟩
/-- How many systems there are. -/
def numN (v : Int) : Nat := if v = 3 then 1 else if v = 7 then 30 else if v = 9 then 840 else 0
/-- What both SystemAt return. -/
noncomputable def atR (v i : Int) : Int × List B3 × Int := if few9 v ∧ 0 ≤ i ∧ i < numN v then (v, (allN v).getD i.toNat [], 0) else (0, [], 2)
/-! ### Common numbers -/
section
variable {v : Int} {bs : List B3}
end
/-! ### Apart -/
/-- What both AreApart return. -/
noncomputable def aaC (v : Int) (bs : List B3) (u : Int) (cs : List B3) : Int := if STS v bs ∧ STS u cs then if v = u then 0 else 5 else 1
theorem aaC_1 {v u : Int} {bs cs : List B3} (h : ¬ (STS v bs ∧ STS u cs)) : aaC v bs u cs = 1 := by unfold aaC; rw [if_neg h]
theorem aaC_5 {v u : Int} {bs cs : List B3} (h1 : STS v bs) (h2 : STS u cs) (h : ¬ v = u) : aaC v bs u cs = 5 := by unfold aaC; rw [if_pos ⟨h1, h2⟩, if_neg h]
theorem aaC_0 {v u : Int} {bs cs : List B3} (h1 : STS v bs) (h2 : STS u cs) (h : v = u) : aaC v bs u cs = 0 := by unfold aaC; rw [if_pos ⟨h1, h2⟩, if_pos h]
end Go.Vc
/-
  The calculus, part 25: numbers that are drawn from a code: words of 64 bits that wrap around, bytes, the source.
-/
namespace Go.Vc
open Go Go.RowKit
theorem wrapU (n : Nat) : IntKind.u64.wrap (n : Int) = ((n % 18446744073709551616 : Nat) : Int) := by
  simp only [IntKind.wrap, IntKind.bits, IntKind.signed, Bool.false_and, Bool.false_eq_true, if_false]
  omega
theorem dec_ne {p q : Prop} [Decidable p] [Decidable q] (h : p ↔ q) (c : (!decide p == decide q) = true) : False := by
  have e : decide p = decide q := decide_eq_decide.2 h
  rw [e] at c
  simp at c
/-- Bytes. -/
def U8C : Cod UInt8 := ⟨1, fun x => [.int .u8 (x.toNat : Int)], by decide, fun _ => rfl, fun _ u hu => by simp at hu; subst hu; rfl⟩
/-- Texts. -/
def StrC : Cod ByteArray := ⟨1, fun x => [.string x], by decide, fun _ => rfl, fun _ u hu => by simp at hu; subst hu; rfl⟩
section
variable {P : Program} {w0 w : World} {H : List Assn} {σ : Sig} {o : Oper} {T T2 : TypeId} {x y : Operand} {m n : Nat}
theorem Pu.mulU (ho : o.op = .binOp .mul T x y T2) (hx : ev σ x = some (.int .u64 (m : Int))) (hy : ev σ y = some (.int .u64 (n : Int))) : Pu P w0 o σ H (.int .u64 ((m * n % 18446744073709551616 : Nat) : Int)) := by
  have := Pu.mulW (P := P) (w0 := w0) (H := H) ho hx hy
  rwa [show (m : Int) * (n : Int) = ((m * n : Nat) : Int) by push_cast; rfl, wrapU] at this
theorem Pu.addU (ho : o.op = .binOp .add T x y T2) (hx : ev σ x = some (.int .u64 (m : Int))) (hy : ev σ y = some (.int .u64 (n : Int))) : Pu P w0 o σ H (.int .u64 (((m + n) % 18446744073709551616 : Nat) : Int)) := by
  have := Pu.add (P := P) (w0 := w0) (H := H) ho hx hy
  rwa [show (m : Int) + (n : Int) = ((m + n : Nat) : Int) by push_cast; rfl, wrapU] at this
theorem Pu.andU (hm : m < 18446744073709551616) (hn : n < 18446744073709551616) (ho : o.op = .binOp .and T x y T2) (hx : ev σ x = some (.int .u64 (m : Int))) (hy : ev σ y = some (.int .u64 (n : Int))) : Pu P w0 o σ H (.int .u64 ((m &&& n : Nat) : Int)) :=
  Pu.bin ho hx hy fun w => by
    have h1 : (BitVec.ofInt IntKind.u64.bits (m : Int) &&& BitVec.ofInt IntKind.u64.bits (n : Int)).toNat = m &&& n := by
      rw [BitVec.toNat_and, ofInt_nat (by show m < 2 ^ 64; omega), ofInt_nat (by show n < 2 ^ 64; omega)]
    have h2 : m &&& n < 18446744073709551616 := Nat.lt_of_le_of_lt Nat.and_le_left hm
    simp only [Go.binOp, Op.intBits, h1, wrap_u64 h2, ne_eq, not_true, if_false]
    rfl
theorem and_le_r {m n : Nat} : m &&& n ≤ n := Nat.and_le_right
end
/-- One of three comes next. -/
theorem D.either3 {P : Program} {w0 : World} {Q : Exit → Act → World → Prop} {σ : Sig} {H : List Assn} {N : Nat} {ops : Array Oper} {Hs : List Assn} (hwf : wfB ops = true) {effs done : List Nat} {e1 e2 e3 : Nat} (hcl : closedL ops done [e1, e2, e3] = true) (h1 : Cand P N w0 ops Q effs done σ Hs H e1) (h2 : Cand P N w0 ops Q effs done σ Hs H e2) (h3 : Cand P N w0 ops Q effs done σ Hs H e3) : D P N w0 ops Q effs done σ Hs H := by
  refine D.effS hwf [e1, e2, e3] e1 (by simp) hcl ?_
  intro e he
  simp only [List.mem_cons, List.not_mem_nil, or_false] at he
  rcases he with rfl | rfl | rfl
  · exact h1
  · exact h2
  · exact h3
/-! ### append(s, ys...) where ys may be nil -/
section
variable {α : Type} {P : Program} {w0 w : World} {Q : Exit → Act → World → Prop} {H H' : List Assn} {σ : Sig} {o : Oper}
theorem Own.nilc {w : World} {T i c : Nat} {C : Cod α} {A : Option Addr} {xs : List α} (hw : St w0 H w) (hp : pull i H = Option.some (Own T C A c xs, H')) (hA : A = none) : xs.length = 0 ∧ c = 0 := by
  obtain ⟨F, ho, hF⟩ := hw.get i hp
  subst hA
  rcases ho.2 with ⟨h1, h2⟩ | ⟨g, cap, cur, hvv, _⟩
  · injection h1 with h3 h4 h5
    exact ⟨h2, h5⟩
  · injection hvv with h3
    cases h3
theorem Ef.appendN {T e sz bytes c c2 m : Nat} {x y : Operand} {z : Value} {C : Cod α} {A A2 : Option Addr} {xs ys : List α} (i : Nat) (ho : o.op = .call { callee := .builtin .append, args := #[x, y], argTypes := #[T, T] }) (hT : P.underlying T = some (.slice e)) (hi : Inf P e sz bytes z) (hs : sz = C.sz) (hzc : z.cells.size = sz)
    (hx : ev σ x = some (.slice A xs.length c)) (hy : ev σ y = some (.slice A2 m c2)) (hp : pull i H = some (Own e C A c xs, H')) (hm : m = ys.length) (hA2 : ∀ w, St w0 H w → A2 = none → ys.length = 0 ∧ c2 = 0) (hr : ∀ w, St w0 H w → Rd C w A2 ys) (hb : (xs.length + ys.length) * bytes ≤ 140737488355328) (hbp : 0 < bytes) :
    Ef P w0 o σ H Q (fun v H'' => ∃ A' c', v = .slice A' (xs ++ ys).length c' ∧ H'' = repl i H (Own e C A' c' (xs ++ ys)) ∧ (A.isSome = true ∨ 0 < ys.length → A'.isSome = true)) := by
  cases A2 with
  | some q => exact Ef.append i ho hT hi hs hzc hx hy hp hm rfl hr hb hbp
  | none =>
    refine Ef.mk fun w hw a ha => ?_
    have h1 := ha x (by simp [ho, Op.operands, Call.operands]) _ hx
    have h2 := ha y (by simp [ho, Op.operands, Call.operands]) _ hy
    obtain ⟨h3, h4⟩ := hA2 w hw rfl
    subst hs
    subst hm
    subst h4
    have hys : ys = [] := List.length_eq_zero_iff.1 h3
    subst hys
    obtain ⟨i0, hi1, hi2, hi3, hi4⟩ := hi.parts
    obtain ⟨F, hown, hF⟩ := hw.get i hp
    have hrun := run_append_owned_none (P := P) (w := w) 0 T o.type e i0 C.sz hT hi1 _ xs.length (xs.flatMap C.enc) hown
    refine ⟨.slice A xs.length c, w, by simp only [List.length_nil] at h2; simp [execOp, ho, resolve, invoke, builtin, h1, h2, hrun], repl i H (Own e C A c (xs ++ [])), ?_, A, c, by rw [List.append_nil], rfl, fun h => by rcases h with h | h; (· exact h); (· simp at h)⟩
    rw [List.append_nil]
    exact (hw.perm (pull_perm hp)).perm (repl_perm hp)
end
/-- The source: the code, how much of it is used, a word. -/
def SrcK (T : TypeId) (cA : Option Addr) (cc : Nat) (code : List UInt8) (s : Nat) : Assn :=
  .exi fun q : Nat × Nat => .sep (.pur (q.1 ≤ code.length ∧ q.2 < 18446744073709551616)) (Blk s [.slice cA code.length cc, .int .i64 (q.1 : Int), .int .u64 (q.2 : Int)] T)
section
variable {P : Program} {N : Nat} {w0 w : World} {Q : Exit → Act → World → Prop} {σ : Sig} {H H' : List Assn} {T : TypeId} {cA : Option Addr} {cc s : Nat} {code : List UInt8}
theorem SrcK.elim (hw : St w0 (SrcK T cA cc code s :: H) w) : ∃ a h : Nat, (a ≤ code.length ∧ h < 18446744073709551616) ∧ St w0 (Blk s [.slice cA code.length cc, .int .i64 (a : Int), .int .u64 (h : Int)] T :: H) w := by
  obtain ⟨q, hw⟩ := hw.exi
  have h := hw.sep.pur
  exact ⟨q.1, q.2, h.1, h.2⟩
theorem SrcK.mk {a h : Nat} (hp : a ≤ code.length ∧ h < 18446744073709551616) (hw : St w0 (Blk s [.slice cA code.length cc, .int .i64 (a : Int), .int .u64 (h : Int)] T :: H) w) : St w0 (SrcK T cA cc code s :: H) w :=
  St.mkExi (a, h) (St.unsep (St.addPur hp hw))
theorem V.srcK {c : Code} (h : ∀ a h : Nat, a ≤ code.length → h < 18446744073709551616 → V P N w0 c Q σ (Blk s [.slice cA code.length cc, .int .i64 (a : Int), .int .u64 (h : Int)] T :: H)) : V P N w0 c Q σ (SrcK T cA cc code s :: H) := by
  intro w hw
  obtain ⟨a, h', h1, h2⟩ := SrcK.elim hw
  exact h a h' h1.1 h1.2 w h2
end
end Go.Vc
/-
  Plain words: systems that are drawn: their blocks are blocks.
-/
namespace Go.Vc
open Go
/-- A list of blocks on 3 to 15 points. -/
def DrS (n : Nat) (v : Int) (bs : List B3) : Prop := (3 ≤ v ∧ v ≤ 15) ∧ (∀ b ∈ bs, good v b) ∧ bs.length ≤ n
theorem DrS.mono {n m : Nat} {v : Int} {bs : List B3} (h : DrS n v bs) (hm : n ≤ m) : DrS m v bs := ⟨h.1, h.2.1, Nat.le_trans h.2.2 hm⟩
theorem DrS.perm {n : Nat} {v : Int} {bs cs : List B3} (h : DrS n v bs) (hp : cs.Perm bs) : DrS n v cs := ⟨h.1, fun b hb => h.2.1 b (hp.mem_iff.1 hb), by rw [hp.length_eq]; exact h.2.2⟩
theorem DrS.g15 {n : Nat} {v : Int} {bs : List B3} (h : DrS n v bs) : ∀ b ∈ bs, good 15 b := fun b hb => (h.2.1 b hb).mono h.1.2
/-- The numbers below n, each once. -/
def OrdP (n : Int) (p : List Int) : Prop := (p.length : Int) = n ∧ p.Nodup ∧ ∀ q ∈ p, 0 ≤ q ∧ q < n
theorem ord_nil : OrdP 0 [] := ⟨rfl, List.nodup_nil, fun q h => by simp at h⟩
theorem ord_ins {p : List Int} {k i : Nat} (h : OrdP (i : Int) p) : OrdP ((i + 1 : Nat) : Int) (p.take k ++ [(i : Int)] ++ p.drop k) := by
  have hp : (p.take k ++ [(i : Int)] ++ p.drop k).Perm ((i : Int) :: p) := by
    rw [List.append_assoc]
    have h1 : (p.take k ++ ([(i : Int)] ++ p.drop k)).Perm ((i : Int) :: (p.take k ++ p.drop k)) := List.perm_middle
    rwa [List.take_append_drop] at h1
  refine ⟨?_, ?_, fun q hq => ?_⟩
  · have h1 := h.1
    have h2 := hp.length_eq
    rw [List.length_cons] at h2
    omega
  · rw [hp.nodup_iff, List.nodup_cons]
    exact ⟨fun hm => by have := (h.2.2 _ hm).2; omega, h.2.1⟩
  · rcases List.mem_cons.1 (hp.mem_iff.1 hq) with rfl | hq
    · omega
    · have := h.2.2 q hq; omega
theorem good_bk3 {v a b c : Int} (ha : 0 ≤ a ∧ a < v) (hb : 0 ≤ b ∧ b < v) (hc : 0 ≤ c ∧ c < v) (h1 : a ≠ b) (h2 : a ≠ c) (h3 : b ≠ c) : good v (bk3 a b c) := by
  unfold good bk3 mi3 lo3 hi3
  simp only
  omega
theorem ord_ne {n : Int} {p : List Int} (h : OrdP n p) {i j : Nat} (hi : i < p.length) (hj : j < p.length) (hij : i ≠ j) : p[i] ≠ p[j] := fun e => hij ((List.getElem_inj h.2.1).1 e)
theorem ord_at {n : Int} {p : List Int} (h : OrdP n p) {i : Nat} (hi : i < p.length) : 0 ≤ p[i] ∧ p[i] < n := h.2.2 _ (List.getElem_mem hi)
theorem good_ren {v : Int} {p : List Int} (h : OrdP v p) {b : B3} (hb : good v b) : good v (renB p b) := by
  have hl := h.1
  unfold good at hb
  unfold renB
  rw [getD_at (by omega), getD_at (by omega), getD_at (by omega)]
  exact good_bk3 (ord_at h _) (ord_at h _) (ord_at h _) (ord_ne h _ _ (by omega)) (ord_ne h _ _ (by omega)) (ord_ne h _ _ (by omega))
theorem DrS.ren {n : Nat} {v : Int} {bs cs : List B3} {p : List Int} (h : DrS n v bs) (ho : OrdP v p) (hp : cs.Perm (bs.map (renB p))) : DrS n v cs := by
  refine ⟨h.1, fun b hb => ?_, by rw [hp.length_eq, List.length_map]; exact h.2.2⟩
  obtain ⟨d, hd, rfl⟩ := List.mem_map.1 (hp.mem_iff.1 hb)
  exact good_ren ho (h.2.1 d hd)
theorem third_good {v : Int} {bs : List B3} (hg : ∀ d ∈ bs, good v d) {a b : Int} (hab : a ≠ b) (h : ¬ third bs a b < 0) : (0 ≤ third bs a b ∧ third bs a b < v) ∧ third bs a b ≠ a ∧ third bs a b ≠ b := by
  unfold third at *
  split at h
  · exact absurd (by decide) h
  · rename_i hn
    rw [if_neg hn]
    unfold num at *
    obtain ⟨i, hi, q1, q2, _⟩ := idxP_at (p := fun c => has c a ∧ has c b) (xs := bs) (fun e => hn (by rw [e]; decide))
    rw [q1] at h ⊢
    rw [blk_get hi] at h ⊢
    have hgi := hg _ (List.getElem_mem hi)
    unfold good at hgi
    unfold has at q2
    omega
theorem DrS.cut {n : Nat} {v : Int} {bs cs : List B3} (h : DrS n v bs) {i : Nat} (hc : cs = bs.take i ++ bs.drop (i + 1)) : DrS n v cs := by
  subst hc
  refine ⟨h.1, fun b hb => ?_, ?_⟩
  · rcases List.mem_append.1 hb with hb | hb
    · exact h.2.1 b (List.mem_of_mem_take hb)
    · exact h.2.1 b (List.mem_of_mem_drop hb)
  · have := h.2.2
    rw [List.length_append, List.length_take, List.length_drop]
    omega
/-- The names of systems. -/
def nmL : List ByteArray := [ByteArray.mk #[115, 105, 110, 103, 108, 101], ByteArray.mk #[102, 97, 110, 111], ByteArray.mk #[97, 102, 102, 105, 110, 101], ByteArray.mk #[99, 121, 99, 108, 105, 99, 49, 51], ByteArray.mk #[99, 121, 99, 108, 105, 99, 49, 53], ByteArray.mk #[112, 114, 111, 106, 101, 99, 116, 105, 118, 101, 49, 53]]
theorem good_snoc {v : Int} {bs : List B3} (h : ∀ b ∈ bs, good v b) {d : B3} (hd : good v d) : ∀ b ∈ bs ++ [d], good v b := fun b hb => by
  rcases List.mem_append.1 hb with hb | hb
  · exact h b hb
  · rw [List.mem_singleton.1 hb]; exact hd
section
variable {P : Program} {w0 w : World} {H : List Assn} {σ : Sig} {o : Oper} {T T2 : TypeId} {x y : Operand} {m n : Nat}
theorem xor_lt {m n : Nat} (h : m < 9223372036854775808) (h' : n < 9223372036854775808) : m ^^^ n < 9223372036854775808 := Nat.xor_lt_two_pow (n := 63) h h'
theorem Pu.xor {k : IntKind} (hk : K64 k) (hm : m < 9223372036854775808) (hn : n < 9223372036854775808) (ho : o.op = .binOp .xor T x y T2) (hx : ev σ x = some (.int k (m : Int))) (hy : ev σ y = some (.int k (n : Int))) : Pu P w0 o σ H (.int k ((m ^^^ n : Nat) : Int)) :=
  Pu.bin ho hx hy fun w => by
    have h1 : (BitVec.ofInt k.bits (m : Int) ^^^ BitVec.ofInt k.bits (n : Int)).toNat = m ^^^ n := by
      rw [BitVec.toNat_xor, ofInt_nat (by rw [hk.bits]; omega), ofInt_nat (by rw [hk.bits]; omega)]
    simp only [Go.binOp, Op.intBits, h1, hk.wrap (xor_lt hm hn), ne_eq, not_true, if_false]
    rfl
end
end Go.Vc
/-
  The calculus, part 26: bytes as a statement's argument.
-/
namespace Go.Vc
open Go Go.RowKit Go.ChangeShapes Go.WideShapes
section
variable {H : Type} {enc : TypeId × Value → H} {P : Program} {w : World} {base : Nat} {spare : Nat → Bool} {held : Bool}
theorem open_bytes {t e : TypeId} {fuel : Nat} {cs : List Value} {x : DataW H × List MemPlace} (ht : P.underlying t = some (.slice e)) (he : P.underlying e = some (.int .u8)) (ce : P.cellsOf e = 1)
    (h : DataW.trod enc P w base spare held fuel t cs = some x) : ∃ (A : Option Addr) (c : Nat) (bs : List UInt8), cs = [.slice A bs.length c] ∧ bs.length ≤ 9223372036854775807 ∧ Rd U8C w A bs := by
  rcases Deep.open_slice ht h with ⟨rfl, _⟩ | ⟨a, len, cap, m, n, D, Pl, rfl, hb, hl, hm, hmm, _, hx⟩
  · exact ⟨none, 0, [], rfl, by simp, Rd.nil _ _ _⟩
  · have hlm : len ≤ m := by rw [hmm]; split <;> omega
    have each : ∀ i, i < len → ∃ b : UInt8, w.cells? base (a.add (i * U8C.sz)) U8C.sz = some (U8C.enc b) := by
      intro j hj
      obtain ⟨cs', h1, h2⟩ := hx j (by omega)
      obtain ⟨n, e0, _, hv⟩ := DataW.trod_int he h2
      subst e0
      simp [Lit.wf, IntKind.min, IntKind.max, IntKind.signed, IntKind.bits] at hv
      rw [ce] at h1
      refine ⟨UInt8.ofNat n.toNat, ?_⟩
      have e : ((UInt8.ofNat n.toNat).toNat : Int) = n := by
        rw [UInt8.toNat_ofNat']
        omega
      have e2 : U8C.enc (UInt8.ofNat n.toNat) = [.int .u8 n] := by
        show [Value.int .u8 ((UInt8.ofNat n.toNat).toNat : Int)] = _
        rw [e]
      rw [e2]
      exact h1
    obtain ⟨bs, hbl, hr⟩ := rd_of_cells each
    subst hbl
    simp only [maxLen] at hm
    exact ⟨some a, cap, bs, rfl, by omega, hr⟩
end
end Go.Vc
/-
  Plain words: how many completions there can be; which systems' completions are asked for.
-/
namespace Go.Vc
theorem len_sub {α : Type} [DecidableEq α] : ∀ (l1 l2 : List α), l1.Nodup → (∀ x ∈ l1, x ∈ l2) → l1.length ≤ l2.length := by
  intro l1
  induction l1 with
  | nil => intro l2 _ _; simp
  | cons x l1 ih =>
    intro l2 hn h
    obtain ⟨h1, h2⟩ := List.nodup_cons.1 hn
    have hx := h x (by simp)
    have h3 := ih (l2.erase x) h2 (fun y hy => (List.mem_erase_of_ne (by intro e; subst e; exact h1 hy)).2 (h y (by simp [hy])))
    rw [List.length_erase_of_mem hx] at h3
    have := List.length_pos_of_mem hx
    simp only [List.length_cons]
    omega
/-- A bound of the number of completions by n blocks. -/
def cbF : Nat → Nat
  | 0 => 1
  | n + 1 => min 13 ((3 * n + 2) / 2) * cbF n
section
variable {v m a b k n : Nat}
end
/-! ### Up to most of them -/
/-! ### Codes -/
def told (v : Int) : Prop := v = 3 ∨ v = 7 ∨ v = 9 ∨ v = 13 ∨ v = 15
instance (v : Int) : Decidable (told v) := inferInstanceAs (Decidable (_ ∨ _))
def missN (v : Int) (bs : List B3) : Int := v * (v - 1) / 6 - bs.length
/-- The code of the missing number. -/
noncomputable def mnC (v : Int) (bs : List B3) : Int := if STS v bs then if told v then 0 else 5 else 1
/-- The code of completions. -/
noncomputable def cpC (v : Int) (bs : List B3) : Int := if STS v bs then if told v then if 12 < missN v bs then 3 else 0 else 5 else 1
section
variable {v : Int} {bs : List B3}
/-- The completions of a system, each as the blocks that are put in. -/
noncomputable def cmpl (v : Int) (bs : List B3) : List (List B3) := compM 40 v.toNat (maskB 0 bs)
/-- Each of the first lists is one of the second ones, in order. -/
def RelS (l cs : List (List B3)) : Prop := cs.length = l.length ∧ ∀ i (h1 : i < l.length) (h2 : i < cs.length), (cs[i]).Perm l[i] ∧ SrtB cs[i]
end
end Go.Vc
/-
  Plain words: the triples of points that something lets through, in order; the blocks that are still free.
-/
namespace Go.Vc
section
variable (p : B3 → Prop) [DecidablePred p]
def triC (a b k : Nat) : List B3 := (List.range k).flatMap fun c => if b < c ∧ p (b3N a b c) then [b3N a b c] else []
def triB (v a k : Nat) : List B3 := (List.range k).flatMap fun b => if a < b then triC p a b v else []
def triA (v k : Nat) : List B3 := (List.range k).flatMap fun a => triB p v a v
end
section
variable {p q : B3 → Prop} [DecidablePred p] [DecidablePred q] {a b k v : Nat}
theorem flat_congr {α β : Type} {l : List α} {f g : α → List β} (h : ∀ x ∈ l, f x = g x) : l.flatMap f = l.flatMap g := by
  induction l with
  | nil => rfl
  | cons x l ih => rw [List.flatMap_cons, List.flatMap_cons, h x (by simp), ih (fun y hy => h y (by simp [hy]))]
end
/-- A block that has at most a point in common with each block there is. -/
def FreeB (bs : List B3) (b : B3) : Prop := ∀ d ∈ bs, common d b ≤ 1
instance (bs : List B3) (b : B3) : Decidable (FreeB bs b) := inferInstanceAs (Decidable (∀ d ∈ bs, common d b ≤ 1))
/-- The blocks that are free. -/
def freeL (v : Int) (bs : List B3) : List B3 := triA (FreeB bs) v.toNat v.toNat
/-! ### Up to most completions -/
/-- The code of the first completion. -/
noncomputable def fcC (v : Int) (bs : List B3) : Int := if cpC v bs = 0 then if (cmpl v bs).length = 0 then 4 else 0 else cpC v bs
/-- The first completion. -/
def FstC (v : Int) (bs r : List B3) : Prop := ∃ h : 0 < (cmpl v bs).length, r.Perm (bs ++ (cmpl v bs)[0]) ∧ SrtB r
end Go.Vc
