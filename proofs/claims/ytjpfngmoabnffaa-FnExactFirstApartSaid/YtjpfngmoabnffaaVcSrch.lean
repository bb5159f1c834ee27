/-
  The calculus, part 18: a search for completions that keeps or counts them.
-/
import Derived.Test.YtjpfngmoabnffaaVcSys
import Derived.Test.YtjpfngmoabnffaaPureComp4
set_option linter.unusedVariables false
set_option linter.unusedSimpArgs false
namespace Go.Vc
open Go Go.RowKit
section
variable {v m a b c n p k : Nat} {U : List Bool}
/-- The pairs that are used, by their numbers. -/
def RelU (v : Nat) (U : List Bool) (m : Nat) : Prop := U.length = 256 ∧ ∀ x y : Nat, x < v → y < v → x ≠ y → U.getD (prI x y) false = usd m x y
theorem prI_lt (ha : a < 16) (hb : b < 16) : prI a b < 256 := by unfold prI; omega
theorem getD_set {i j : Nat} {x : Bool} (hi : i < U.length) : (U.set i x).getD j false = if j = i then x else U.getD j false := by
  rw [List.getD_eq_getElem?_getD, List.getD_eq_getElem?_getD, List.getElem?_set]
  by_cases e : j = i
  · subst e; simp [hi]
  · rw [if_neg (fun h => e h.symm), if_neg e]
theorem relU_at (h : RelU v U m) {x y : Nat} (hx : x < v) (hy : y < v) (hne : x ≠ y) (hk : prI x y < U.length) : U[prI x y] = usd m x y := by
  have := h.2 x y hx hy hne
  rwa [List.getD_eq_getElem?_getD, List.getElem?_eq_getElem hk] at this
theorem relU_put (h : RelU v U m) (ha : a < b) (hb : b < c) (hc : c < v) (hv : v ≤ 15) : RelU v (((U.set (prI a b) true).set (prI a c) true).set (prI b c) true) (putM m a b c) := by
  have l1 := prI_lt (a := a) (b := b) (by omega) (by omega)
  have l2 := prI_lt (a := a) (b := c) (by omega) (by omega)
  have l3 := prI_lt (a := b) (b := c) (by omega) (by omega)
  refine ⟨by simp [h.1], fun x y hx hy hne => ?_⟩
  rw [getD_set (by simp [h.1]; omega), getD_set (by simp [h.1]; omega), getD_set (by rw [h.1]; omega), h.2 x y hx hy hne]
  have hup := usd_put (m := m) (a := a) (b := b) (c := c) (by omega) (by omega) (by omega) (x := x) (y := y) (by omega) (by omega)
  by_cases e1 : prI x y = prI b c
  · rw [if_pos e1]
    have := prI_inj (a := x) (b := y) (x := b) (y := c) (by omega) (by omega) (by omega) (by omega) e1
    exact (hup.2 (by omega)).symm
  · rw [if_neg e1]
    by_cases e2 : prI x y = prI a c
    · rw [if_pos e2]
      have := prI_inj (a := x) (b := y) (x := a) (y := c) (by omega) (by omega) (by omega) (by omega) e2
      exact (hup.2 (by omega)).symm
    · rw [if_neg e2]
      by_cases e3 : prI x y = prI a b
      · rw [if_pos e3]
        have := prI_inj (a := x) (b := y) (x := a) (y := b) (by omega) (by omega) (by omega) (by omega) e3
        exact (hup.2 (by omega)).symm
      · rw [if_neg e3]
        cases hu : usd m x y with
        | true => exact (hup.2 (.inl hu)).symm
        | false =>
          cases hp : usd (putM m a b c) x y with
          | false => rfl
          | true =>
            rcases hup.1 hp with h1 | h1
            · rw [hu] at h1; cases h1
            · exfalso
              rcases h1 with (⟨rfl, rfl⟩ | ⟨rfl, rfl⟩) | (⟨rfl, rfl⟩ | ⟨rfl, rfl⟩) | (⟨rfl, rfl⟩ | ⟨rfl, rfl⟩)
              · exact e3 rfl
              · exact e3 (prI_comm _ _)
              · exact e2 rfl
              · exact e2 (prI_comm _ _)
              · exact e1 rfl
              · exact e1 (prI_comm _ _)
theorem relU_del (h : RelU v U (putM m a b c)) (ha : a < b) (hb : b < c) (hc : c < v) (hv : v ≤ 15) (h1 : usd m a b = false) (h2 : usd m a c = false) (h3 : usd m b c = false) : RelU v (((U.set (prI a b) false).set (prI a c) false).set (prI b c) false) m := by
  have l1 := prI_lt (a := a) (b := b) (by omega) (by omega)
  have l2 := prI_lt (a := a) (b := c) (by omega) (by omega)
  have l3 := prI_lt (a := b) (b := c) (by omega) (by omega)
  refine ⟨by simp [h.1], fun x y hx hy hne => ?_⟩
  rw [getD_set (by simp [h.1]; omega), getD_set (by simp [h.1]; omega), getD_set (by rw [h.1]; omega), h.2 x y hx hy hne]
  have hup := usd_put (m := m) (a := a) (b := b) (c := c) (by omega) (by omega) (by omega) (x := x) (y := y) (by omega) (by omega)
  have key : ∀ s t : Nat, s < 16 → t < 16 → usd m s t = false → prI x y = prI s t → false = usd m x y := by
    intro s t hs ht hu e
    rcases prI_inj (by omega) (by omega) hs ht e with ⟨rfl, rfl⟩ | ⟨rfl, rfl⟩
    · exact hu.symm
    · rw [usd_comm]; exact hu.symm
  by_cases e1 : prI x y = prI b c
  · rw [if_pos e1]; exact key b c (by omega) (by omega) h3 e1
  · rw [if_neg e1]
    by_cases e2 : prI x y = prI a c
    · rw [if_pos e2]; exact key a c (by omega) (by omega) h2 e2
    · rw [if_neg e2]
      by_cases e3 : prI x y = prI a b
      · rw [if_pos e3]; exact key a b (by omega) (by omega) h1 e3
      · rw [if_neg e3]
        cases hu : usd m x y with
        | true => exact hup.2 (.inl hu)
        | false =>
          cases hp : usd (putM m a b c) x y with
          | false => rfl
          | true =>
            rcases hup.1 hp with h4 | h4
            · rw [hu] at h4; cases h4
            · exfalso
              rcases h4 with (⟨rfl, rfl⟩ | ⟨rfl, rfl⟩) | (⟨rfl, rfl⟩ | ⟨rfl, rfl⟩) | (⟨rfl, rfl⟩ | ⟨rfl, rfl⟩)
              · exact e3 rfl
              · exact e3 (prI_comm _ _)
              · exact e2 rfl
              · exact e2 (prI_comm _ _)
              · exact e1 rfl
              · exact e1 (prI_comm _ _)
theorem relU_zero : RelU v (List.replicate 256 false) 0 := by
  refine ⟨List.length_replicate, fun x y _ _ _ => ?_⟩
  have h0 : usd 0 x y = false := by simp [usd]
  rw [h0, List.getD_eq_getElem?_getD, List.getElem?_replicate]
  split <;> rfl
/-- What the loops for the first pair have found. -/
def Fnd (v m : Nat) (a b : Int) (p : Nat) : Prop := (a = -1 ∧ b = -1 ∧ p ≤ v ∧ ∀ i j, i < p → i < j → j < v → usd m i j = true) ∨ ∃ x y : Nat, a = x ∧ b = y ∧ IsNext v m x y
theorem may_of (h : IsNext v m a b) (hc : c < v) (h1 : c ≠ a) (h2 : c ≠ b) (h3 : usd m a c = false) (h4 : usd m b c = false) : may m a b c = true := by
  have h5 : b < c := by
    apply Decidable.byContradiction
    intro h6
    by_cases h7 : c < a
    · rw [usd_comm, h.rows c a h7 h7 (by have := h.ab; have := h.bv; omega)] at h3
      cases h3
    · rw [h.row c (by omega) (by omega)] at h3
      cases h3
  unfold may
  have : Nat.blt b c = true := by rw [Nat.blt_eq]; exact h5
  simp [this, h3, h4]
theorem may_no (h : ¬ (c ≠ a ∧ c ≠ b ∧ usd m a c = false ∧ usd m b c = false)) (hab : a < b) : may m a b c = false := by
  cases hm : may m a b c with
  | false => rfl
  | true =>
    obtain ⟨h1, h2, h3⟩ := may_spec hm
    exact absurd ⟨by omega, by omega, h2, h3⟩ h
variable {most : Nat} {α : Type}
theorem goesC_most : ∀ {L : List α} {k : Nat}, k < most → goesC (fun j => decide (j < most)) k L = decide (k + (runC (fun j => decide (j < most)) k L).length < most) := by
  intro L
  induction L with
  | nil => intro k hk; simp [goesC, runC, hk]
  | cons x L ih =>
    intro k hk
    unfold goesC runC
    by_cases h : k + 1 < most
    · simp only [h, decide_true, Bool.true_and, if_true]
      rw [ih h, List.length_cons]
      congr 1
      rw [show k + 1 + (runC (fun j => decide (j < most)) (k + 1) L).length = k + ((runC (fun j => decide (j < most)) (k + 1) L).length + 1) by omega]
    · simp [h]
theorem srch_end {l l2 : List (List B3)} {xs : List B3} (hlm : l.length < most) (hl2 : l2 = l ++ runC (fun j => decide (j < most)) l.length (leaf xs (compJ n v m a b c))) (hlast : c = v ∨ ¬ l2.length < most) (hc : c ≤ v) : l ++ runC (fun j => decide (j < most)) l.length (leaf xs (compJ n v m a b v)) = l2 := by
  rcases hlast with rfl | h
  · exact hl2.symm
  · obtain ⟨r, hr⟩ := leaf_pre (xs := xs) (n := n) (v := v) (m := m) (a := a) (b := b) hc
    have h1 : goesC (fun j => decide (j < most)) l.length (leaf xs (compJ n v m a b c)) = false := by
      rw [goesC_most hlm]
      have h2 := congrArg List.length hl2
      rw [List.length_append] at h2
      exact decide_eq_false (by omega)
    rw [hr, runC_stop h1, ← hl2]
end
section
variable {P : Program} {N : Nat} {w0 w : World} {Q : Exit → Act → World → Prop} {σ : Sig} {H H' : List Assn} {ops : Array Oper} {rest : List Oper}
/-- A search: its cells, the pairs that are used, what it has found; what has been counted, l. -/
def SrchK (T uT fT bT : TypeId) (sb v most : Nat) (keep : Bool) (m : Nat) (l : List (List B3)) : Assn :=
  .exi fun q : ((Option Addr × Nat) × List Bool) × (Option Addr × Nat) × List (Sl × List B3) => .sep (.pur (RelU v q.1.2 m ∧ (conts q.2.2 = if keep then l else []) ∧ ∀ p ∈ q.2.2, p.1.A.isSome = true))
    (.sep (Blk sb [.int .i64 (v : Int), .slice q.1.1.1 q.1.2.length q.1.1.2, .int .i64 (l.length : Int), .int .i64 (most : Int), .bool keep, .slice q.2.1.1 (tops q.2.2).length q.2.1.2] T)
      (.sep (Own uT BoolC q.1.1.1 q.1.1.2 q.1.2) (.sep (Own fT SlC q.2.1.1 q.2.1.2 (tops q.2.2)) (RowsA bT B3C q.2.2))))
theorem relU_putI {v m : Nat} {U : List Bool} {d : B3} (h : RelU v U m) (hd : inB v d) (hv : v ≤ 15) : RelU v (((U.set (prI d.1.toNat d.2.1.toNat) true).set (prI d.1.toNat d.2.2.toNat) true).set (prI d.2.1.toNat d.2.2.toNat) true) (putB m d) := by
  obtain ⟨x, y, z, rfl, h1, h2, h3⟩ := hd
  exact relU_put h h1 h2 h3 hv
theorem inB_pts {v : Nat} {d : B3} (hd : inB v d) (hv : v ≤ 15) : (0 ≤ d.1 ∧ d.1 < 16) ∧ (0 ≤ d.2.1 ∧ d.2.1 < 16) ∧ (0 ≤ d.2.2 ∧ d.2.2 < 16) := by
  obtain ⟨x, y, z, rfl, h1, h2, h3⟩ := hd
  unfold b3N
  simp only
  omega
theorem maskB_snoc {m : Nat} {bs : List B3} {d : B3} : maskB m (bs ++ [d]) = putB (maskB m bs) d := by unfold maskB; rw [List.foldl_append]; rfl
variable {T uT fT bT : TypeId} {sb v most m : Nat} {keep : Bool} {l : List (List B3)}
theorem SrchK.elim (hw : St w0 (SrchK T uT fT bT sb v most keep m l :: H) w) : ∃ uA uk U fA fk ps, RelU v U m ∧ conts ps = (if keep then l else []) ∧ (∀ p ∈ ps, p.1.A.isSome = true) ∧
    St w0 (Blk sb [.int .i64 (v : Int), .slice uA U.length uk, .int .i64 (l.length : Int), .int .i64 (most : Int), .bool keep, .slice fA (tops ps).length fk] T :: Own uT BoolC uA uk U :: Own fT SlC fA fk (tops ps) :: RowsA bT B3C ps :: H) w := by
  obtain ⟨q, hw⟩ := hw.exi
  have h1 := hw.sep.pur
  refine ⟨q.1.1.1, q.1.1.2, q.1.2, q.2.1.1, q.2.1.2, q.2.2, h1.1.1, h1.1.2.1, h1.1.2.2, ?_⟩
  have h2 := h1.2.sep
  have h3 := (h2.perm (List.Perm.swap _ _ _)).sep
  have h5 := (h3.perm (List.Perm.swap _ _ _)).sep
  exact (h5.sub (Sub.keep 3 rfl (Sub.keep 2 rfl (Sub.keep 0 rfl (Sub.keep 0 rfl (Sub.refl _))))))
theorem V.srchK {c : Code} (h : ∀ uA uk U fA fk ps, RelU v U m → conts ps = (if keep then l else []) → (∀ p ∈ ps, p.1.A.isSome = true) → V P N w0 c Q σ (Blk sb [.int .i64 (v : Int), .slice uA U.length uk, .int .i64 (l.length : Int), .int .i64 (most : Int), .bool keep, .slice fA (tops ps).length fk] T :: Own uT BoolC uA uk U :: Own fT SlC fA fk (tops ps) :: RowsA bT B3C ps :: H)) : V P N w0 c Q σ (SrchK T uT fT bT sb v most keep m l :: H) := by
  intro w hw
  obtain ⟨uA, uk, U, fA, fk, ps, h1, h2, h4, h3⟩ := SrchK.elim hw
  exact h uA uk U fA fk ps h1 h2 h4 w h3
theorem O.srchK (h : ∀ uA uk U fA fk ps, RelU v U m → conts ps = (if keep then l else []) → (∀ p ∈ ps, p.1.A.isSome = true) → O P N w0 ops Q rest σ (Blk sb [.int .i64 (v : Int), .slice uA U.length uk, .int .i64 (l.length : Int), .int .i64 (most : Int), .bool keep, .slice fA (tops ps).length fk] T :: Own uT BoolC uA uk U :: Own fT SlC fA fk (tops ps) :: RowsA bT B3C ps :: H)) : O P N w0 ops Q rest σ (SrchK T uT fT bT sb v most keep m l :: H) := by
  intro w hw
  obtain ⟨uA, uk, U, fA, fk, ps, h1, h2, h4, h3⟩ := SrchK.elim hw
  exact h uA uk U fA fk ps h1 h2 h4 w h3
theorem SrchK.mk {uA fA : Option Addr} {uk fk : Nat} {U : List Bool} {ps : List (Sl × List B3)} (hr : RelU v U m) (hc : conts ps = if keep then l else []) (hso : ∀ p ∈ ps, p.1.A.isSome = true)
    (hw : St w0 (Blk sb [.int .i64 (v : Int), .slice uA U.length uk, .int .i64 (l.length : Int), .int .i64 (most : Int), .bool keep, .slice fA (tops ps).length fk] T :: Own uT BoolC uA uk U :: Own fT SlC fA fk (tops ps) :: RowsA bT B3C ps :: H) w) : St w0 (SrchK T uT fT bT sb v most keep m l :: H) w := by
  refine St.mkExi (((uA, uk), U), (fA, fk), ps) (St.unsep (St.addPur ⟨hr, hc, hso⟩ ?_))
  have h1 : St w0 (Own fT SlC fA fk (tops ps) :: RowsA bT B3C ps :: Own uT BoolC uA uk U :: Blk sb [.int .i64 (v : Int), .slice uA U.length uk, .int .i64 (l.length : Int), .int .i64 (most : Int), .bool keep, .slice fA (tops ps).length fk] T :: H) w := hw.sub (Sub.keep 2 rfl (Sub.keep 2 rfl (Sub.keep 1 rfl (Sub.keep 0 rfl (Sub.refl _)))))
  have h2 := (St.unsep h1).perm (List.Perm.swap _ _ _)
  have h3 := (St.unsep h2).perm (List.Perm.swap _ _ _)
  exact St.unsep h3
end
end Go.Vc
