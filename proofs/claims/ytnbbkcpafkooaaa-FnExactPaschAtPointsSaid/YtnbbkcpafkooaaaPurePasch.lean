/-
  Plain words: lists with a prefix; four blocks with six points, each in two of them.
-/
import Derived.Test.YtnbbkcpafkooaaaPureCls
set_option linter.unusedVariables false
set_option linter.unusedSimpArgs false
namespace Go.Vc

/-! ### Lists with a prefix -/
section
variable {p : List Int → Prop} {now : List Int} {ls ls' : List (List Int)} {i n f : Nat}
def Pre (p : List Int → Prop) (now r : List Int) : Prop := p r ∧ now <+: r
def PreB (p : List Int → Prop) (now : List Int) (i : Nat) (r : List Int) : Prop := p r ∧ ∃ j : Nat, j < i ∧ (now ++ [(j : Int)]) <+: r
theorem preB_none (h : ∀ r (j : Nat), p r → (now ++ [(j : Int)]) <+: r → f ≤ j) : IsList (PreB p now f) [] := by
  refine ⟨SrtL.nil, fun r => ?_⟩
  simp only [List.not_mem_nil, false_iff]
  rintro ⟨h1, j, hj, h2⟩
  have := h r j h1 h2
  omega
theorem preB_step (h1 : IsList (PreB p now i) ls) (h2 : IsList (Pre p (now ++ [(i : Int)])) ls') : IsList (PreB p now (i + 1)) (ls ++ ls') := by
  refine ⟨List.pairwise_append.2 ⟨h1.1, h2.1, fun a ha b hb => ?_⟩, fun r => ?_⟩
  · obtain ⟨_, j, hj, h3⟩ := (h1.2 a).1 ha
    exact ltL_prefix (i := (i : Int)) (j := (j : Int)) (by omega) h3 ((h2.2 b).1 hb).2
  · rw [List.mem_append, h1.2, h2.2]
    constructor
    · rintro (⟨h3, j, hj, h4⟩ | ⟨h3, h4⟩)
      · exact ⟨h3, j, by omega, h4⟩
      · exact ⟨h3, i, by omega, h4⟩
    · rintro ⟨h3, j, hj, h4⟩
      by_cases e : j = i
      · subst e; exact .inr ⟨h3, h4⟩
      · exact .inl ⟨h3, j, by omega, h4⟩
theorem preB_skip (h1 : IsList (PreB p now i) ls) (hn : ∀ r, p r → ¬ (now ++ [(i : Int)]) <+: r) : IsList (PreB p now (i + 1)) ls := by
  have h := preB_step h1 (ls' := []) ⟨SrtL.nil, fun r => by simp only [List.not_mem_nil, false_iff]; exact fun h => hn r h.1 h.2⟩
  rwa [List.append_nil] at h
theorem preB_all (h : IsList (PreB p now n) ls) (hall : ∀ r, p r → now <+: r → ∃ j : Nat, j < n ∧ (now ++ [(j : Int)]) <+: r) : IsList (Pre p now) ls := by
  refine ⟨h.1, fun r => (h.2 r).trans ⟨?_, ?_⟩⟩
  · rintro ⟨h1, j, hj, h2⟩
    exact ⟨h1, (List.prefix_append _ _).trans h2⟩
  · rintro ⟨h1, h2⟩
    exact ⟨h1, hall r h1 h2⟩
theorem pre_top (h : IsList (Pre p []) ls) : IsList p ls := ⟨h.1, fun r => (h.2 r).trans ⟨fun h => h.1, fun h => ⟨h, List.nil_prefix⟩⟩⟩
theorem pre_one {q : List Int} (hl : ∀ r, p r → r.length = q.length) (hq : p q) : IsList (Pre p q) [q] := by
  refine ⟨List.pairwise_singleton _ _, fun r => ?_⟩
  rw [List.mem_singleton]
  constructor
  · rintro rfl; exact ⟨hq, List.prefix_refl _⟩
  · rintro ⟨h1, h2⟩
    exact (h2.eq_of_length (hl r h1).symm).symm
end

/-! ### Three points of a block -/
def Tri (B : B3) (x y z : Int) : Prop := x ≠ y ∧ x ≠ z ∧ y ≠ z ∧ ∀ p, has B p ↔ p = x ∨ p = y ∨ p = z
theorem Tri.swap {B : B3} {x y z : Int} (h : Tri B x y z) : Tri B x z y := ⟨h.2.1, h.1, fun e => h.2.2.1 e.symm, fun p => (h.2.2.2 p).trans (by omega)⟩
theorem Tri.rot {B : B3} {x y z : Int} (h : Tri B x y z) : Tri B y x z := ⟨fun e => h.1 e.symm, h.2.2.1, h.2.1, fun p => (h.2.2.2 p).trans (by omega)⟩
theorem Tri.h1 {B : B3} {x y z : Int} (h : Tri B x y z) : has B x := (h.2.2.2 x).2 (.inl rfl)
theorem Tri.h2 {B : B3} {x y z : Int} (h : Tri B x y z) : has B y := (h.2.2.2 y).2 (.inr (.inl rfl))
theorem Tri.h3 {B : B3} {x y z : Int} (h : Tri B x y z) : has B z := (h.2.2.2 z).2 (.inr (.inr rfl))
theorem tri_of {v : Int} {B : B3} (hg : good v B) {x y z : Int} (hx : has B x) (hy : has B y) (hz : has B z) (h1 : x ≠ y) (h2 : x ≠ z) (h3 : y ≠ z) : Tri B x y z := by
  refine ⟨h1, h2, h3, fun p => ?_⟩
  unfold good at hg
  unfold has at *
  omega
theorem tri_sum {v : Int} {B : B3} (hg : good v B) {x y z : Int} (h : Tri B x y z) : B.1 + B.2.1 + B.2.2 = x + y + z := by
  have h1 := h.h1
  have h2 := h.h2
  have h3 := h.h3
  obtain ⟨e1, e2, e3, _⟩ := h
  unfold good at hg
  unfold has at *
  omega
theorem tri_pair {B : B3} {a c e x y : Int} (h : Tri B a c e) (h' : Tri B a x y) : (c = x ∧ e = y) ∨ (c = y ∧ e = x) := by
  have h1 := (h'.2.2.2 c).1 h.h2
  have h2 := (h'.2.2.2 e).1 h.h3
  obtain ⟨e1, e2, e3, _⟩ := h
  omega
/-- The other points of a block. -/
def oth1 (b : B3) (a : Int) : Int := if a = b.1 then b.2.1 else b.1
def oth2 (b : B3) (a : Int) : Int := if a = b.1 then b.2.2 else if a = b.2.1 then b.2.2 else b.2.1
theorem tri_oth {v : Int} {B : B3} (hg : good v B) {a : Int} (ha : has B a) : Tri B a (oth1 B a) (oth2 B a) := by
  unfold good at hg
  have ha' := ha
  unfold has at ha'
  refine tri_of (v := v) (by unfold good; exact hg) ha ?_ ?_ ?_ ?_ ?_
  all_goals (try unfold oth1); (try unfold oth2); (try unfold has); (repeat' split) <;> omega
/-- A common point, the first of the first block, or -1. -/
noncomputable def cpt (a b : B3) : Int := if has b a.1 then a.1 else if has b a.2.1 then a.2.1 else if has b a.2.2 then a.2.2 else -1
theorem cpt_yes {v : Int} {a b : B3} (hg : good v a) (h : ¬ cpt a b < 0) : has a (cpt a b) ∧ has b (cpt a b) := by
  unfold cpt at *
  split
  · exact ⟨.inl rfl, by assumption⟩
  · split
    · exact ⟨.inr (.inl rfl), by assumption⟩
    · split
      · exact ⟨.inr (.inr rfl), by assumption⟩
      · simp_all
theorem cpt_no {v : Int} {a b : B3} (hg : good v a) (h : cpt a b < 0) (p : Int) : ¬ (has a p ∧ has b p) := by
  unfold good at hg
  rintro ⟨h1, h2⟩
  unfold cpt at h
  unfold has at h1
  rcases h1 with rfl | rfl | rfl
  · rw [if_pos h2] at h; omega
  · split at h
    · omega
    · omega
  · split at h
    · omega
    · split at h
      · omega
      · omega

/-! ### The block of two points, and its third point -/
noncomputable def num (bs : List B3) (a b : Int) : Int := idxP (fun c => has c a ∧ has c b) bs
noncomputable def third (bs : List B3) (a b : Int) : Int := if num bs a b < 0 then -1 else (blk bs (num bs a b)).1 + (blk bs (num bs a b)).2.1 + (blk bs (num bs a b)).2.2 - a - b
theorem third_found {bs : List B3} {a b : Int} {k : Nat} (hk : k < bs.length) (h1 : has bs[k] a) (h2 : has bs[k] b) (hn : ∀ j (hj : j < bs.length), j < k → ¬ (has bs[j] a ∧ has bs[j] b)) : num bs a b = k ∧ third bs a b = bs[k].1 + bs[k].2.1 + bs[k].2.2 - a - b := by
  have h := idxP_found (p := fun c => has c a ∧ has c b) hk ⟨h1, h2⟩ hn
  have e : num bs a b = k := h
  refine ⟨e, ?_⟩
  unfold third
  rw [e, if_neg (by omega), blk_get hk]
theorem third_none {bs : List B3} {a b : Int} (hn : ∀ j (hj : j < bs.length), ¬ (has bs[j] a ∧ has bs[j] b)) : num bs a b = -1 ∧ third bs a b = -1 := by
  have e : num bs a b = -1 := idxP_none (p := fun c => has c a ∧ has c b) hn
  refine ⟨e, ?_⟩
  unfold third
  rw [e, if_pos (by omega)]
theorem first_of {bs : List B3} {q : B3 → Prop} (h : ∃ k, ∃ hk : k < bs.length, q bs[k]) : ∃ k, ∃ hk : k < bs.length, q bs[k] ∧ ∀ j (hj : j < bs.length), j < k → ¬ q bs[j] := by
  classical
  obtain ⟨k, hk, h1⟩ := h
  have key : ∀ n, ∀ k, k ≤ n → ∀ hk : k < bs.length, q bs[k] → ∃ k, ∃ hk : k < bs.length, q bs[k] ∧ ∀ j (hj : j < bs.length), j < k → ¬ q bs[j] := by
    intro n
    induction n with
    | zero => intro k h0 hk h1; exact ⟨k, hk, h1, fun j hj h => by omega⟩
    | succ n ih =>
      intro k h0 hk h1
      by_cases h2 : ∃ j, ∃ hj : j < bs.length, j < k ∧ q bs[j]
      · obtain ⟨j, hj, h3, h4⟩ := h2
        exact ih j (by omega) hj h4
      · exact ⟨k, hk, h1, fun j hj h3 h4 => h2 ⟨j, hj, h3, h4⟩⟩
  exact key k k (Nat.le_refl _) hk h1
section
variable {v : Int} {bs : List B3}
theorem STS.two (h : STS v bs) {i j : Nat} (hi : i < bs.length) (hj : j < bs.length) {x y : Int} (hxy : x ≠ y) (h1 : has bs[i] x) (h2 : has bs[i] y) (h3 : has bs[j] x) (h4 : has bs[j] y) : i = j := by
  have key : ∀ {i j : Nat} (hi : i < bs.length) (hj : j < bs.length), j < i → has bs[i] x → has bs[i] y → has bs[j] x → has bs[j] y → False := by
    intro i j hi hj hji h1 h2 h3 h4
    have hc := (common_le (h.good _ (List.getElem_mem hj)).three).1 (h.fits i hi hi j hj hji)
    obtain ⟨c1, c2, c3⟩ := hc
    unfold has at h1 h2
    rcases h1 with rfl | rfl | rfl <;> rcases h2 with rfl | rfl | rfl <;> first | exact hxy rfl | exact c1 ⟨h3, h4⟩ | exact c1 ⟨h4, h3⟩ | exact c2 ⟨h3, h4⟩ | exact c2 ⟨h4, h3⟩ | exact c3 ⟨h3, h4⟩ | exact c3 ⟨h4, h3⟩
  rcases Nat.lt_trichotomy i j with h5 | h5 | h5
  · exact (key hj hi h5 h3 h4 h1 h2).elim
  · exact h5
  · exact (key hi hj h5 h1 h2 h3 h4).elim
theorem third_tri (h : STS v bs) {k : Nat} (hk : k < bs.length) {x y z : Int} (ht : Tri bs[k] x y z) : num bs x y = k ∧ third bs x y = z := by
  have h1 := third_found hk ht.h1 ht.h2 (fun j hj hjk hh => by have := h.two hj hk ht.1 hh.1 hh.2 ht.h1 ht.h2; omega)
  refine ⟨h1.1, ?_⟩
  rw [h1.2]
  have := tri_sum (h.good _ (List.getElem_mem hk)) ht
  omega
theorem third_some (h : STS v bs) {x y : Int} (hxy : x ≠ y) (h0 : ¬ third bs x y < 0) : ∃ k : Nat, ∃ hk : k < bs.length, num bs x y = k ∧ Tri bs[k] x y (third bs x y) := by
  classical
  by_cases hc : ∃ k, ∃ hk : k < bs.length, has bs[k] x ∧ has bs[k] y
  · obtain ⟨k, hk, ⟨h1, h2⟩, h3⟩ := first_of (q := fun c => has c x ∧ has c y) hc
    have h4 := third_found hk h1 h2 h3
    refine ⟨k, hk, h4.1, ?_⟩
    have hg := h.good _ (List.getElem_mem hk)
    rw [h4.2]
    generalize bs[k] = B at *
    unfold good at hg
    refine tri_of (v := v) (by unfold good; exact hg) h1 h2 ?_ hxy ?_ ?_ <;> unfold has at * <;> omega
  · have := third_none (bs := bs) (a := x) (b := y) (fun j hj hh => hc ⟨j, hj, hh⟩)
    omega
end

/-! ### Pasch -/
def hasN (B : B3) (p : Int) : Nat := if has B p then 1 else 0
/-- How many blocks of a list of numbers have a point. -/
def cntP (bs : List B3) (q : List Int) (p : Int) : Nat := (q.map fun k => hasN (blk bs k) p).sum
theorem cntP_perm {bs : List B3} {q r : List Int} (h : q.Perm r) (p : Int) : cntP bs q p = cntP bs r p := (h.map _).sum_nat
structure PQ (bs : List B3) (q : List Int) : Prop where
  four : q.length = 4
  up : q.Pairwise (· < ·)
  ix : ∀ k ∈ q, okIx bs k
  two : ∀ p, cntP bs q p = 0 ∨ cntP bs q p = 2
def P4 (A B C D : B3) : Prop := ∀ p, hasN A p + hasN B p + hasN C p + hasN D p = 0 ∨ hasN A p + hasN B p + hasN C p + hasN D p = 2
theorem cntP_four {bs : List B3} {a b c d : Int} (p : Int) : cntP bs [a, b, c, d] p = hasN (blk bs a) p + hasN (blk bs b) p + hasN (blk bs c) p + hasN (blk bs d) p := by simp [cntP]; omega
theorem hasN_one {B : B3} {p : Int} (h : has B p) : hasN B p = 1 := if_pos h
theorem hasN_zero {B : B3} {p : Int} (h : ¬ has B p) : hasN B p = 0 := if_neg h
theorem hasN_le (B : B3) (p : Int) : hasN B p ≤ 1 := by unfold hasN; split <;> omega
theorem of_hasN {B : B3} {p : Int} (h : hasN B p = 1) : has B p := by
  unfold hasN at h
  split at h
  · assumption
  · cases h
theorem P4.swap12 {A B C D : B3} (h : P4 A B C D) : P4 B A C D := fun p => by have := h p; omega
theorem P4.swap23 {A B C D : B3} (h : P4 A B C D) : P4 A C B D := fun p => by have := h p; omega
theorem P4.swap34 {A B C D : B3} (h : P4 A B C D) : P4 A B D C := fun p => by have := h p; omega
/-- Two blocks have no two points in common. -/
def Two (A B : B3) : Prop := ∀ x y, x ≠ y → has A x → has A y → has B x → has B y → False
theorem Two.symm {A B : B3} (h : Two A B) : Two B A := fun x y e h1 h2 h3 h4 => h x y e h3 h4 h1 h2
/-- A point of a block is in just one of the others. -/
theorem p4_one {A B C D : B3} (h : P4 A B C D) {p : Int} (hp : has A p) : (has B p ∧ ¬ has C p ∧ ¬ has D p) ∨ (¬ has B p ∧ has C p ∧ ¬ has D p) ∨ (¬ has B p ∧ ¬ has C p ∧ has D p) := by
  have h1 := h p
  rw [hasN_one hp] at h1
  by_cases hB : has B p <;> by_cases hC : has C p <;> by_cases hD : has D p <;> simp [hasN, hB, hC, hD] at h1 ⊢
theorem p4_meet {v : Int} {A B C D : B3} (hg : good v A) (h : P4 A B C D) (hC : Two A C) (hD : Two A D) : ∃ p, has A p ∧ has B p := by
  by_cases hn : ∃ p, has A p ∧ has B p
  · exact hn
  · exfalso
    have hg' := hg
    unfold good at hg'
    have a1 : has A A.1 := .inl rfl
    have a2 : has A A.2.1 := .inr (.inl rfl)
    have a3 : has A A.2.2 := .inr (.inr rfl)
    have n : ∀ p, has A p → ¬ has B p := fun p h1 h2 => hn ⟨p, h1, h2⟩
    have o1 := p4_one h a1
    have o2 := p4_one h a2
    have o3 := p4_one h a3
    have n1 := n _ a1
    have n2 := n _ a2
    have n3 := n _ a3
    have e12 : A.1 ≠ A.2.1 := by omega
    have e13 : A.1 ≠ A.2.2 := by omega
    have e23 : A.2.1 ≠ A.2.2 := by omega
    rcases o1 with o1 | o1 | o1
    · exact n1 o1.1
    · rcases o2 with o2 | o2 | o2
      · exact n2 o2.1
      · exact hC _ _ e12 a1 a2 o1.2.1 o2.2.1
      · rcases o3 with o3 | o3 | o3
        · exact n3 o3.1
        · exact hC _ _ e13 a1 a3 o1.2.1 o3.2.1
        · exact hD _ _ e23 a2 a3 o2.2.2 o3.2.2
    · rcases o2 with o2 | o2 | o2
      · exact n2 o2.1
      · rcases o3 with o3 | o3 | o3
        · exact n3 o3.1
        · exact hC _ _ e23 a2 a3 o2.2.1 o3.2.1
        · exact hD _ _ e13 a1 a3 o1.2.2 o3.2.2
      · exact hD _ _ e12 a1 a2 o1.2.2 o2.2.2
/-- Six points: of each two of the four blocks one. -/
theorem p4_six {v : Int} {A B C D : B3} (gA : good v A) (gB : good v B) (gC : good v C) (gD : good v D) (h : P4 A B C D) (tAB : Two A B) (tAC : Two A C) (tAD : Two A D) (tBC : Two B C) (tBD : Two B D) (tCD : Two C D) :
    ∃ a12 a13 a14 a23 a24 a34, Tri A a12 a13 a14 ∧ Tri B a12 a23 a24 ∧ Tri C a13 a23 a34 ∧ Tri D a14 a24 a34 := by
  obtain ⟨a12, x1, x2⟩ := p4_meet gA h tAC tAD
  obtain ⟨a13, y1, y2⟩ := p4_meet gA h.swap23 tAB tAD
  obtain ⟨a14, z1, z2⟩ := p4_meet gA h.swap34.swap23 tAB tAC
  obtain ⟨a23, u1, u2⟩ := p4_meet gB h.swap12.swap23 tAB.symm tBD
  obtain ⟨a24, v1, v2⟩ := p4_meet gB h.swap12.swap34.swap23 tAB.symm tBC
  obtain ⟨a34, w1, w2⟩ := p4_meet gC h.swap23.swap12.swap34.swap23 tAC.symm tBC.symm
  have ox := p4_one h x1
  have oy := p4_one h y1
  have oz := p4_one h z1
  have ou := p4_one h.swap12 u1
  have ov := p4_one h.swap12 v1
  have ow := p4_one h.swap23.swap12 w1
  have e1 : a12 ≠ a13 := by rintro rfl; simp_all
  have e2 : a12 ≠ a14 := by rintro rfl; simp_all
  have e3 : a13 ≠ a14 := by rintro rfl; simp_all
  have e4 : a12 ≠ a23 := by rintro rfl; simp_all
  have e5 : a12 ≠ a24 := by rintro rfl; simp_all
  have e6 : a23 ≠ a24 := by rintro rfl; simp_all
  have e7 : a13 ≠ a23 := by rintro rfl; simp_all
  have e8 : a13 ≠ a34 := by rintro rfl; simp_all
  have e9 : a23 ≠ a34 := by rintro rfl; simp_all
  have e10 : a14 ≠ a24 := by rintro rfl; simp_all
  have e11 : a14 ≠ a34 := by rintro rfl; simp_all
  have e12 : a24 ≠ a34 := by rintro rfl; simp_all
  exact ⟨a12, a13, a14, a23, a24, a34, tri_of gA x1 y1 z1 e1 e2 e3, tri_of gB x2 u1 v1 e4 e5 e6, tri_of gC y2 u2 w1 e7 e8 e9, tri_of gD z2 v2 w2 e10 e11 e12⟩
theorem six_p4 {A B C D : B3} {a12 a13 a14 a23 a24 a34 : Int} (h1 : Tri A a12 a13 a14) (h2 : Tri B a12 a23 a24) (h3 : Tri C a13 a23 a34) (h4 : Tri D a14 a24 a34) (n1 : a12 ≠ a34) (n2 : a13 ≠ a24) (n3 : a14 ≠ a23) : P4 A B C D := by
  intro p
  obtain ⟨p1, p2, p3, f1⟩ := h1
  obtain ⟨q1, q2, q3, f2⟩ := h2
  obtain ⟨r1, r2, r3, f3⟩ := h3
  obtain ⟨s1, s2, s3, f4⟩ := h4
  have g1 := f1 p
  have g2 := f2 p
  have g3 := f3 p
  have g4 := f4 p
  have G : ∀ (B : B3) (q : Prop) [Decidable q], (has B p ↔ q) → hasN B p = if q then 1 else 0 := by
    intro B q _ hq
    unfold hasN
    by_cases hh : q <;> simp [hh, hq]
  rw [G _ _ g1, G _ _ g2, G _ _ g3, G _ _ g4]
  clear g1 g2 g3 g4 f1 f2 f3 f4 G
  by_cases b1 : p = a12
  · subst b1; simp_all
  by_cases b2 : p = a13
  · subst b2; simp_all
  by_cases b3 : p = a14
  · subst b3; simp_all
  by_cases b4 : p = a23
  · subst b4; simp_all
  by_cases b5 : p = a24
  · subst b5; simp_all
  simp [b1, b2, b3, b4, b5]
  by_cases b6 : p = a34 <;> simp [b6]
section
variable {v : Int} {bs : List B3}
theorem two_of (h : STS v bs) {i j : Nat} (hi : i < bs.length) (hj : j < bs.length) (hne : i ≠ j) : Two bs[i] bs[j] := fun x y e h1 h2 h3 h4 => hne (h.two hi hj e h1 h2 h3 h4)
/-- What is found for two blocks. -/
def Hit (bs : List B3) (i j c e d f : Int) (r : List Int) : Prop := ¬ third bs c f < 0 ∧ third bs d e = third bs c f ∧ r.Perm [i, j, num bs c f, num bs d e] ∧ r.Pairwise (· ≤ ·)
theorem hit_pq (h : STS v bs) {i j : Nat} (hi : i < bs.length) (hj : j < bs.length) (hne : i ≠ j) {a c e d f : Int} (t1 : Tri bs[i] a c e) (t2 : Tri bs[j] a d f) {r : List Int} (hh : Hit bs i j c e d f r) : PQ bs r ∧ (i : Int) ∈ r ∧ (j : Int) ∈ r := by
  obtain ⟨h1, h2, h3, h4⟩ := hh
  have hcf : c ≠ f := by rintro rfl; exact hne (h.two hi hj t1.1 t1.h1 t1.h2 t2.h1 t2.h3)
  have hde : d ≠ e := by rintro rfl; exact hne (h.two hi hj t1.2.1 t1.h1 t1.h3 t2.h1 t2.h2)
  have hcd : c ≠ d := by rintro rfl; exact hne (h.two hi hj t1.1 t1.h1 t1.h2 t2.h1 t2.h2)
  have hef : e ≠ f := by rintro rfl; exact hne (h.two hi hj t1.2.1 t1.h1 t1.h3 t2.h1 t2.h3)
  obtain ⟨k, hk, n1, t3⟩ := third_some h hcf h1
  obtain ⟨m, hm, n2, t4⟩ := third_some h hde (by rw [h2]; exact h1)
  rw [h2] at t4
  have ki : k ≠ i := by rintro rfl; exact hne (h.two hi hj t2.2.1 t1.h1 t3.h2 t2.h1 t2.h3)
  have kj : k ≠ j := by rintro rfl; exact hne (h.two hi hj t1.1 t1.h1 t1.h2 t2.h1 t3.h1)
  have mi : m ≠ i := by rintro rfl; exact hne (h.two hi hj t2.1 t1.h1 t4.h1 t2.h1 t2.h2)
  have mj : m ≠ j := by rintro rfl; exact hne (h.two hi hj t1.2.1 t1.h1 t1.h3 t2.h1 t4.h2)
  have km : k ≠ m := by rintro rfl; exact ki (h.two hk hi t1.2.2.1 t3.h1 t4.h2 t1.h2 t1.h3)
  have hab : a ≠ third bs c f := by
    intro e1
    rw [← e1] at t3
    exact ki (h.two hk hi t1.1 t3.h3 t3.h1 t1.h1 t1.h2)
  rw [n1, n2] at h3
  have hp := six_p4 (A := bs[i]) (B := bs[j]) (C := bs[k]) (D := bs[m]) t1 t2.swap t3 t4.rot hab hcd hef
  refine ⟨⟨by rw [h3.length_eq]; rfl, rise_of h4 (h3.nodup_iff.2 (by simp; omega)), fun q hq => ?_, fun p => ?_⟩, h3.mem_iff.2 (by simp), h3.mem_iff.2 (by simp)⟩
  · have := h3.mem_iff.1 hq
    simp only [List.mem_cons, List.not_mem_nil, or_false] at this
    unfold okIx
    omega
  · rw [cntP_perm h3, cntP_four, blk_get hi, blk_get hj, blk_get hk, blk_get hm]
    exact hp p
theorem pq_two (h : STS v bs) {i j : Nat} (hi : i < bs.length) (hj : j < bs.length) (hne : i ≠ j) {r : List Int} (hq : PQ bs r) (hir : (i : Int) ∈ r) (hjr : (j : Int) ∈ r) :
    ∃ k m : Nat, ∃ (hk : k < bs.length) (hm : m < bs.length), r.Perm [(i : Int), (j : Int), (k : Int), (m : Int)] ∧ P4 bs[i] bs[j] bs[k] bs[m] ∧ k ≠ i ∧ k ≠ j ∧ m ≠ i ∧ m ≠ j ∧ k ≠ m := by
  have p1 := List.perm_cons_erase hir
  have hj2 : (j : Int) ∈ r.erase (i : Int) := (List.mem_erase_of_ne (by omega)).2 hjr
  have p2 := List.perm_cons_erase hj2
  have hlen : ((r.erase (i : Int)).erase (j : Int)).length = 2 := by
    rw [List.length_erase_of_mem hj2, List.length_erase_of_mem hir, hq.four]
  obtain ⟨k, m, hkm⟩ : ∃ k m, (r.erase (i : Int)).erase (j : Int) = [k, m] := by
    match hh : (r.erase (i : Int)).erase (j : Int), hlen with
    | [k, m], _ => exact ⟨k, m, rfl⟩
  rw [hkm] at p2
  have p3 : r.Perm [(i : Int), (j : Int), k, m] := p1.trans (p2.cons _)
  have hk := hq.ix k (p3.mem_iff.2 (by simp))
  have hm := hq.ix m (p3.mem_iff.2 (by simp))
  have hnd : ([(i : Int), (j : Int), k, m]).Nodup := p3.nodup_iff.1 (hq.up.imp (fun h => Int.ne_of_lt h))
  obtain ⟨k, rfl⟩ : ∃ k' : Nat, k = k' := ⟨k.toNat, by unfold okIx at hk; omega⟩
  obtain ⟨m, rfl⟩ : ∃ m' : Nat, m = m' := ⟨m.toNat, by unfold okIx at hm; omega⟩
  unfold okIx at hk hm
  have hk' : k < bs.length := by omega
  have hm' : m < bs.length := by omega
  refine ⟨k, m, hk', hm', p3, fun p => ?_, ?_⟩
  · have := hq.two p
    rw [cntP_perm p3, cntP_four, blk_get hi, blk_get hj, blk_get hk', blk_get hm'] at this
    exact this
  · simp at hnd
    omega
theorem pq_meet (h : STS v bs) {i j : Nat} (hi : i < bs.length) (hj : j < bs.length) (hne : i ≠ j) {r : List Int} (hq : PQ bs r) (hir : (i : Int) ∈ r) (hjr : (j : Int) ∈ r) : ∃ p, has bs[i] p ∧ has bs[j] p := by
  obtain ⟨k, m, hk, hm, _, h4, n1, n2, n3, n4, n5⟩ := pq_two h hi hj hne hq hir hjr
  exact p4_meet (h.good _ (List.getElem_mem hi)) h4 (two_of h hi hk (by omega)) (two_of h hi hm (by omega))
theorem hit_iff (h : STS v bs) {i j : Nat} (hi : i < bs.length) (hj : j < bs.length) (hne : i ≠ j) {a c e d f : Int} (t1 : Tri bs[i] a c e) (t2 : Tri bs[j] a d f) (r : List Int) :
    (Hit bs i j c e d f r ∨ Hit bs i j c e f d r) ↔ PQ bs r ∧ (i : Int) ∈ r ∧ (j : Int) ∈ r := by
  constructor
  · rintro (hh | hh)
    · exact hit_pq h hi hj hne t1 t2 hh
    · exact hit_pq h hi hj hne t1 t2.swap hh
  · rintro ⟨hq, hir, hjr⟩
    obtain ⟨k, m, hk, hm, p3, h4, n1, n2, n3, n4, n5⟩ := pq_two h hi hj hne hq hir hjr
    have G : ∀ {i : Nat} (hi : i < bs.length), good v bs[i] := fun hi => h.good _ (List.getElem_mem hi)
    obtain ⟨a12, a13, a14, a23, a24, a34, s1, s2, s3, s4⟩ := p4_six (G hi) (G hj) (G hk) (G hm) h4 (two_of h hi hj hne) (two_of h hi hk (by omega)) (two_of h hi hm (by omega)) (two_of h hj hk (by omega)) (two_of h hj hm (by omega)) (two_of h hk hm n5)
    have ea : a12 = a := by
      by_cases e1 : a12 = a
      · exact e1
      · exact (hne (h.two hi hj e1 s1.h1 t1.h1 s2.h1 t2.h1)).elim
    subst ea
    have hs : r.Pairwise (· ≤ ·) := hq.up.imp (fun h => Int.le_of_lt h)
    have hz : 0 ≤ a34 := (good_lt (G hk) s3.h3).1
    have K : ∀ {x y z : Int} {k : Nat} (hk : k < bs.length), Tri bs[k] x y z → num bs x y = k ∧ third bs x y = z := fun hk ht => third_tri h hk ht
    have sw : r.Perm [(i : Int), (j : Int), (m : Int), (k : Int)] := p3.trans (((List.Perm.swap _ _ _).cons _).cons _)
    rcases tri_pair t1 s1 with ⟨rfl, rfl⟩ | ⟨rfl, rfl⟩ <;> rcases tri_pair t2 s2 with ⟨rfl, rfl⟩ | ⟨rfl, rfl⟩
    · right
      have k1 := K hk s3
      have k2 := K hm s4.rot
      exact ⟨by omega, by omega, by rw [k1.1, k2.1]; exact p3, hs⟩
    · left
      have k1 := K hk s3
      have k2 := K hm s4.rot
      exact ⟨by omega, by omega, by rw [k1.1, k2.1]; exact p3, hs⟩
    · left
      have k1 := K hm s4
      have k2 := K hk s3.rot
      exact ⟨by omega, by omega, by rw [k1.1, k2.1]; exact sw, hs⟩
    · right
      have k1 := K hm s4
      have k2 := K hk s3.rot
      exact ⟨by omega, by omega, by rw [k1.1, k2.1]; exact sw, hs⟩
end
end Go.Vc
