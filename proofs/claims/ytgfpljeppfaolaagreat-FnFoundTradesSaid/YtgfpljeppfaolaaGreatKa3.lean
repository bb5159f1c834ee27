/-
  The calculus and plain words, part 3.
-/
import Derived.Test.YtgfpljeppfaolaaGreatKa2
set_option linter.unusedVariables false
set_option linter.unusedSimpArgs false
namespace Go.Vc

section
variable {sign most : Int} {p : Nat → Prop} {s : Nat} {found : Bool} {out : List Int}
end

theorem pts_len (m : Nat) : (pts m).length ≤ 15 := by
  unfold pts
  rw [ptsAt_len]
  exact cov_le m 15
theorem compl_cov {v s : Nat} (hs : s < 2 ^ v) : ∀ w, w ≤ v → cov (2 ^ v - 1 - s) w + cov s w = w := by
  intro w
  induction w with
  | zero => intro _; simp [cov]
  | succ w ih =>
    intro hw
    have := ih (by omega)
    simp only [cov, compl_bit hs]
    cases s.testBit w <;> simp <;> (try omega)
    rw [if_pos (by omega)]
    omega
theorem compl_ones {v s : Nat} (hs : s < 2 ^ v) : ones (2 ^ v - 1 - s) + ones s = v := by
  have h := compl_cov hs v (Nat.le_refl _)
  rw [cov_ones (by have := Nat.two_pow_pos v; omega), cov_ones hs] at h
  exact h
end Go.Vc

namespace Go.Vc
open Go Go.RowKit
section
variable {P : Program} {w0 w : World} {H H' : List Assn} {Q : Exit → Act → World → Prop} {σ : Sig} {o : Oper}
theorem D.either {N : Nat} {ops : Array Oper} {Hs : List Assn} (hwf : wfB ops = true) {effs done : List Nat} {e1 e2 : Nat} (hcl : closedL ops done [e1, e2] = true) (h1 : Cand P N w0 ops Q effs done σ Hs H e1) (h2 : Cand P N w0 ops Q effs done σ Hs H e2) : D P N w0 ops Q effs done σ Hs H := by
  refine D.effS hwf [e1, e2] e1 (by simp) hcl ?_
  intro e he
  simp only [List.mem_cons, List.not_mem_nil, or_false] at he
  rcases he with rfl | rfl
  · exact h1
  · exact h2
theorem Ef.makeI {α : Type} {T e sz bytes n : Nat} {x y : Operand} {z : Value} {K1 K2 : IntKind} {i : Int} (C : Cod α) (u : α) (ho : o.op = .makeSlice T x y) (hT : P.underlying T = some (.slice e)) (hi : Inf P e sz bytes z) (hs : sz = C.sz) (hz : z.cells.toList = C.enc u)
    (hx : ev σ x = some (.int K1 i)) (hy : ev σ y = some (.int K2 i)) (hin : i = (n : Int)) (hb : bytes * n ≤ 281474976710656) (hm : n ≤ 9223372036854775807) :
    Ef P w0 o σ H Q (fun v H' => ∃ A, A.isSome = true ∧ v = .slice A n n ∧ H' = Own e C A n (List.replicate n u) :: H) := by
  subst hin
  exact Ef.make C u ho hT hi hs hz hx hy hb hm

theorem Ld.arrK {b t off : Nat} {xs : List Int} {n k : Nat} (i : Nat) (hp : pull i H = some (Blk b (xs.map (Value.int .i64)) t, H')) (ho : off = 0 + k * 1) (hk : k < n) (hn : xs.length = n) : ∀ w, St w0 H w → ∃ q, some (⟨b, off, none⟩ : Addr) = some q ∧ w.cell? q = some (.int .i64 (xs.getD k 0)) := by
  intro w hw
  subst ho
  refine ⟨_, rfl, Blk.cell hw hp ?_⟩
  have : 0 + k * 1 = k := by omega
  rw [this, List.getElem?_map, List.getElem?_eq_getElem (by omega)]
  simp [List.getD, hk, hn]
theorem Ef.storeArr {T : TypeId} {x y : Operand} {b t off n : Nat} {xs : List Int} {v : Int} (i : Nat) (k : Nat) (ho : o.op = .store T x y) (hs : Sz P T 1) (hx : ev σ x = some (.pointer (some ⟨b, off, none⟩))) (hy : ev σ y = some (.int .i64 v))
    (hp : pull i H = some (Blk b (xs.map (Value.int .i64)) t, H')) (hoff : off = 0 + k * 1) (hk : k < n) (hn : xs.length = n) :
    Ef P w0 o σ H Q (fun _ H'' => H'' = repl i H (Blk b ((xs.set k v).map (Value.int .i64)) t)) := by
  subst hoff
  have h0 : 0 + k * 1 = k := by omega
  rw [h0] at hx
  exact Ef.store1 i ho hs hx hy hp rfl rfl (by simp; omega) (by rw [List.map_set])
end
end Go.Vc

namespace Go.Vc


section
variable {p : List Int → Prop} {now : List Int} {ls ls' : List (List Int)} {i n f : Nat}
def Pre (p : List Int → Prop) (now r : List Int) : Prop := p r ∧ now <+: r
def PreB (p : List Int → Prop) (now : List Int) (i : Nat) (r : List Int) : Prop := p r ∧ ∃ j : Nat, j < i ∧ (now ++ [(j : Int)]) <+: r
theorem preB_none (h : ∀ r (j : Nat), p r → (now ++ [(j : Int)]) <+: r → f ≤ j) : IsList (PreB p now f) [] := by
  refine ⟨SrtL.nil, fun r => ?_⟩
  simp only [List.not_mem_nil, false_iff]
  rintro ⟨h1, j, hj, h2⟩
  have := h r j h1 h2
  omega
theorem preB_step (h1 : IsList (PreB p now i) ls) (h2 : IsList (Pre p (now ++ [(i : Int)])) ls') : IsList (PreB p now (i + 1)) (ls ++ ls') := by
  refine ⟨List.pairwise_append.2 ⟨h1.1, h2.1, fun a ha b hb => ?_⟩, fun r => ?_⟩
  · obtain ⟨_, j, hj, h3⟩ := (h1.2 a).1 ha
    exact ltL_prefix (i := (i : Int)) (j := (j : Int)) (by omega) h3 ((h2.2 b).1 hb).2
  · rw [List.mem_append, h1.2, h2.2]
    constructor
    · rintro (⟨h3, j, hj, h4⟩ | ⟨h3, h4⟩)
      · exact ⟨h3, j, by omega, h4⟩
      · exact ⟨h3, i, by omega, h4⟩
    · rintro ⟨h3, j, hj, h4⟩
      by_cases e : j = i
      · subst e; exact .inr ⟨h3, h4⟩
      · exact .inl ⟨h3, j, by omega, h4⟩
theorem preB_skip (h1 : IsList (PreB p now i) ls) (hn : ∀ r, p r → ¬ (now ++ [(i : Int)]) <+: r) : IsList (PreB p now (i + 1)) ls := by
  have h := preB_step h1 (ls' := []) ⟨SrtL.nil, fun r => by simp only [List.not_mem_nil, false_iff]; exact fun h => hn r h.1 h.2⟩
  rwa [List.append_nil] at h
theorem preB_all (h : IsList (PreB p now n) ls) (hall : ∀ r, p r → now <+: r → ∃ j : Nat, j < n ∧ (now ++ [(j : Int)]) <+: r) : IsList (Pre p now) ls := by
  refine ⟨h.1, fun r => (h.2 r).trans ⟨?_, ?_⟩⟩
  · rintro ⟨h1, j, hj, h2⟩
    exact ⟨h1, (List.prefix_append _ _).trans h2⟩
  · rintro ⟨h1, h2⟩
    exact ⟨h1, hall r h1 h2⟩
theorem pre_top (h : IsList (Pre p []) ls) : IsList p ls := ⟨h.1, fun r => (h.2 r).trans ⟨fun h => h.1, fun h => ⟨h, List.nil_prefix⟩⟩⟩
theorem pre_one {q : List Int} (hl : ∀ r, p r → r.length = q.length) (hq : p q) : IsList (Pre p q) [q] := by
  refine ⟨List.pairwise_singleton _ _, fun r => ?_⟩
  rw [List.mem_singleton]
  constructor
  · rintro rfl; exact ⟨hq, List.prefix_refl _⟩
  · rintro ⟨h1, h2⟩
    exact (h2.eq_of_length (hl r h1).symm).symm
end


def Tri (B : B3) (x y z : Int) : Prop := x ≠ y ∧ x ≠ z ∧ y ≠ z ∧ ∀ p, has B p ↔ p = x ∨ p = y ∨ p = z
theorem Tri.swap {B : B3} {x y z : Int} (h : Tri B x y z) : Tri B x z y := ⟨h.2.1, h.1, fun e => h.2.2.1 e.symm, fun p => (h.2.2.2 p).trans (by omega)⟩
theorem Tri.rot {B : B3} {x y z : Int} (h : Tri B x y z) : Tri B y x z := ⟨fun e => h.1 e.symm, h.2.2.1, h.2.1, fun p => (h.2.2.2 p).trans (by omega)⟩
theorem Tri.h1 {B : B3} {x y z : Int} (h : Tri B x y z) : has B x := (h.2.2.2 x).2 (.inl rfl)
theorem Tri.h2 {B : B3} {x y z : Int} (h : Tri B x y z) : has B y := (h.2.2.2 y).2 (.inr (.inl rfl))
theorem Tri.h3 {B : B3} {x y z : Int} (h : Tri B x y z) : has B z := (h.2.2.2 z).2 (.inr (.inr rfl))
theorem tri_of {v : Int} {B : B3} (hg : good v B) {x y z : Int} (hx : has B x) (hy : has B y) (hz : has B z) (h1 : x ≠ y) (h2 : x ≠ z) (h3 : y ≠ z) : Tri B x y z := by
  refine ⟨h1, h2, h3, fun p => ?_⟩
  unfold good at hg
  unfold has at *
  omega
theorem tri_sum {v : Int} {B : B3} (hg : good v B) {x y z : Int} (h : Tri B x y z) : B.1 + B.2.1 + B.2.2 = x + y + z := by
  have h1 := h.h1
  have h2 := h.h2
  have h3 := h.h3
  obtain ⟨e1, e2, e3, _⟩ := h
  unfold good at hg
  unfold has at *
  omega
def oth1 (b : B3) (a : Int) : Int := if a = b.1 then b.2.1 else b.1
def oth2 (b : B3) (a : Int) : Int := if a = b.1 then b.2.2 else if a = b.2.1 then b.2.2 else b.2.1
theorem tri_oth {v : Int} {B : B3} (hg : good v B) {a : Int} (ha : has B a) : Tri B a (oth1 B a) (oth2 B a) := by
  unfold good at hg
  have ha' := ha
  unfold has at ha'
  refine tri_of (v := v) (by unfold good; exact hg) ha ?_ ?_ ?_ ?_ ?_
  all_goals (try unfold oth1); (try unfold oth2); (try unfold has); (repeat' split) <;> omega

noncomputable def num (bs : List B3) (a b : Int) : Int := idxP (fun c => has c a ∧ has c b) bs
noncomputable def third (bs : List B3) (a b : Int) : Int := if num bs a b < 0 then -1 else (blk bs (num bs a b)).1 + (blk bs (num bs a b)).2.1 + (blk bs (num bs a b)).2.2 - a - b
theorem third_found {bs : List B3} {a b : Int} {k : Nat} (hk : k < bs.length) (h1 : has bs[k] a) (h2 : has bs[k] b) (hn : ∀ j (hj : j < bs.length), j < k → ¬ (has bs[j] a ∧ has bs[j] b)) : num bs a b = k ∧ third bs a b = bs[k].1 + bs[k].2.1 + bs[k].2.2 - a - b := by
  have h := idxP_found (p := fun c => has c a ∧ has c b) hk ⟨h1, h2⟩ hn
  have e : num bs a b = k := h
  refine ⟨e, ?_⟩
  unfold third
  rw [e, if_neg (by omega), blk_get hk]
theorem third_none {bs : List B3} {a b : Int} (hn : ∀ j (hj : j < bs.length), ¬ (has bs[j] a ∧ has bs[j] b)) : num bs a b = -1 ∧ third bs a b = -1 := by
  have e : num bs a b = -1 := idxP_none (p := fun c => has c a ∧ has c b) hn
  refine ⟨e, ?_⟩
  unfold third
  rw [e, if_pos (by omega)]
section
variable {v : Int} {bs : List B3}
theorem STS.two (h : STS v bs) {i j : Nat} (hi : i < bs.length) (hj : j < bs.length) {x y : Int} (hxy : x ≠ y) (h1 : has bs[i] x) (h2 : has bs[i] y) (h3 : has bs[j] x) (h4 : has bs[j] y) : i = j := by
  have key : ∀ {i j : Nat} (hi : i < bs.length) (hj : j < bs.length), j < i → has bs[i] x → has bs[i] y → has bs[j] x → has bs[j] y → False := by
    intro i j hi hj hji h1 h2 h3 h4
    have hc := (common_le (h.good _ (List.getElem_mem hj)).three).1 (h.fits i hi hi j hj hji)
    obtain ⟨c1, c2, c3⟩ := hc
    unfold has at h1 h2
    rcases h1 with rfl | rfl | rfl <;> rcases h2 with rfl | rfl | rfl <;> first | exact hxy rfl | exact c1 ⟨h3, h4⟩ | exact c1 ⟨h4, h3⟩ | exact c2 ⟨h3, h4⟩ | exact c2 ⟨h4, h3⟩ | exact c3 ⟨h3, h4⟩ | exact c3 ⟨h4, h3⟩
  rcases Nat.lt_trichotomy i j with h5 | h5 | h5
  · exact (key hj hi h5 h3 h4 h1 h2).elim
  · exact h5
  · exact (key hi hj h5 h1 h2 h3 h4).elim
theorem third_tri (h : STS v bs) {k : Nat} (hk : k < bs.length) {x y z : Int} (ht : Tri bs[k] x y z) : num bs x y = k ∧ third bs x y = z := by
  have h1 := third_found hk ht.h1 ht.h2 (fun j hj hjk hh => by have := h.two hj hk ht.1 hh.1 hh.2 ht.h1 ht.h2; omega)
  refine ⟨h1.1, ?_⟩
  rw [h1.2]
  have := tri_sum (h.good _ (List.getElem_mem hk)) ht
  omega
end


def hasN (B : B3) (p : Int) : Nat := if has B p then 1 else 0
def cntP (bs : List B3) (q : List Int) (p : Int) : Nat := (q.map fun k => hasN (blk bs k) p).sum
theorem cntP_perm {bs : List B3} {q r : List Int} (h : q.Perm r) (p : Int) : cntP bs q p = cntP bs r p := (h.map _).sum_nat
structure PQ (bs : List B3) (q : List Int) : Prop where
  four : q.length = 4
  up : q.Pairwise (· < ·)
  ix : ∀ k ∈ q, okIx bs k
  two : ∀ p, cntP bs q p = 0 ∨ cntP bs q p = 2
def P4 (A B C D : B3) : Prop := ∀ p, hasN A p + hasN B p + hasN C p + hasN D p = 0 ∨ hasN A p + hasN B p + hasN C p + hasN D p = 2
theorem cntP_four {bs : List B3} {a b c d : Int} (p : Int) : cntP bs [a, b, c, d] p = hasN (blk bs a) p + hasN (blk bs b) p + hasN (blk bs c) p + hasN (blk bs d) p := by simp [cntP]; omega
theorem hasN_one {B : B3} {p : Int} (h : has B p) : hasN B p = 1 := if_pos h
theorem hasN_le (B : B3) (p : Int) : hasN B p ≤ 1 := by unfold hasN; split <;> omega
def Two (A B : B3) : Prop := ∀ x y, x ≠ y → has A x → has A y → has B x → has B y → False
theorem Two.symm {A B : B3} (h : Two A B) : Two B A := fun x y e h1 h2 h3 h4 => h x y e h3 h4 h1 h2
theorem p4_one {A B C D : B3} (h : P4 A B C D) {p : Int} (hp : has A p) : (has B p ∧ ¬ has C p ∧ ¬ has D p) ∨ (¬ has B p ∧ has C p ∧ ¬ has D p) ∨ (¬ has B p ∧ ¬ has C p ∧ has D p) := by
  have h1 := h p
  rw [hasN_one hp] at h1
  by_cases hB : has B p <;> by_cases hC : has C p <;> by_cases hD : has D p <;> simp [hasN, hB, hC, hD] at h1 ⊢
theorem p4_meet {v : Int} {A B C D : B3} (hg : good v A) (h : P4 A B C D) (hC : Two A C) (hD : Two A D) : ∃ p, has A p ∧ has B p := by
  by_cases hn : ∃ p, has A p ∧ has B p
  · exact hn
  · exfalso
    have hg' := hg
    unfold good at hg'
    have a1 : has A A.1 := .inl rfl
    have a2 : has A A.2.1 := .inr (.inl rfl)
    have a3 : has A A.2.2 := .inr (.inr rfl)
    have n : ∀ p, has A p → ¬ has B p := fun p h1 h2 => hn ⟨p, h1, h2⟩
    have o1 := p4_one h a1
    have o2 := p4_one h a2
    have o3 := p4_one h a3
    have n1 := n _ a1
    have n2 := n _ a2
    have n3 := n _ a3
    have e12 : A.1 ≠ A.2.1 := by omega
    have e13 : A.1 ≠ A.2.2 := by omega
    have e23 : A.2.1 ≠ A.2.2 := by omega
    rcases o1 with o1 | o1 | o1
    · exact n1 o1.1
    · rcases o2 with o2 | o2 | o2
      · exact n2 o2.1
      · exact hC _ _ e12 a1 a2 o1.2.1 o2.2.1
      · rcases o3 with o3 | o3 | o3
        · exact n3 o3.1
        · exact hC _ _ e13 a1 a3 o1.2.1 o3.2.1
        · exact hD _ _ e23 a2 a3 o2.2.2 o3.2.2
    · rcases o2 with o2 | o2 | o2
      · exact n2 o2.1
      · rcases o3 with o3 | o3 | o3
        · exact n3 o3.1
        · exact hC _ _ e23 a2 a3 o2.2.1 o3.2.1
        · exact hD _ _ e13 a1 a3 o1.2.2 o3.2.2
      · exact hD _ _ e12 a1 a2 o1.2.2 o2.2.2
section
variable {v : Int} {bs : List B3}
theorem two_of (h : STS v bs) {i j : Nat} (hi : i < bs.length) (hj : j < bs.length) (hne : i ≠ j) : Two bs[i] bs[j] := fun x y e h1 h2 h3 h4 => hne (h.two hi hj e h1 h2 h3 h4)
theorem pq_two (h : STS v bs) {i j : Nat} (hi : i < bs.length) (hj : j < bs.length) (hne : i ≠ j) {r : List Int} (hq : PQ bs r) (hir : (i : Int) ∈ r) (hjr : (j : Int) ∈ r) :
    ∃ k m : Nat, ∃ (hk : k < bs.length) (hm : m < bs.length), r.Perm [(i : Int), (j : Int), (k : Int), (m : Int)] ∧ P4 bs[i] bs[j] bs[k] bs[m] ∧ k ≠ i ∧ k ≠ j ∧ m ≠ i ∧ m ≠ j ∧ k ≠ m := by
  have p1 := List.perm_cons_erase hir
  have hj2 : (j : Int) ∈ r.erase (i : Int) := (List.mem_erase_of_ne (by omega)).2 hjr
  have p2 := List.perm_cons_erase hj2
  have hlen : ((r.erase (i : Int)).erase (j : Int)).length = 2 := by
    rw [List.length_erase_of_mem hj2, List.length_erase_of_mem hir, hq.four]
  obtain ⟨k, m, hkm⟩ : ∃ k m, (r.erase (i : Int)).erase (j : Int) = [k, m] := by
    match hh : (r.erase (i : Int)).erase (j : Int), hlen with
    | [k, m], _ => exact ⟨k, m, rfl⟩
  rw [hkm] at p2
  have p3 : r.Perm [(i : Int), (j : Int), k, m] := p1.trans (p2.cons _)
  have hk := hq.ix k (p3.mem_iff.2 (by simp))
  have hm := hq.ix m (p3.mem_iff.2 (by simp))
  have hnd : ([(i : Int), (j : Int), k, m]).Nodup := p3.nodup_iff.1 (hq.up.imp (fun h => Int.ne_of_lt h))
  obtain ⟨k, rfl⟩ : ∃ k' : Nat, k = k' := ⟨k.toNat, by unfold okIx at hk; omega⟩
  obtain ⟨m, rfl⟩ : ∃ m' : Nat, m = m' := ⟨m.toNat, by unfold okIx at hm; omega⟩
  unfold okIx at hk hm
  have hk' : k < bs.length := by omega
  have hm' : m < bs.length := by omega
  refine ⟨k, m, hk', hm', p3, fun p => ?_, ?_⟩
  · have := hq.two p
    rw [cntP_perm p3, cntP_four, blk_get hi, blk_get hj, blk_get hk', blk_get hm'] at this
    exact this
  · simp at hnd
    omega
theorem pq_meet (h : STS v bs) {i j : Nat} (hi : i < bs.length) (hj : j < bs.length) (hne : i ≠ j) {r : List Int} (hq : PQ bs r) (hir : (i : Int) ∈ r) (hjr : (j : Int) ∈ r) : ∃ p, has bs[i] p ∧ has bs[j] p := by
  obtain ⟨k, m, hk, hm, _, h4, n1, n2, n3, n4, n5⟩ := pq_two h hi hj hne hq hir hjr
  exact p4_meet (h.good _ (List.getElem_mem hi)) h4 (two_of h hi hk (by omega)) (two_of h hi hm (by omega))
end
end Go.Vc

namespace Go.Vc


def cN (ps : List Int) (k : Int) : Int := ((ps.count k : Nat) : Int)
def cntA (ps : List Int) : List Int := [cN ps 0, cN ps 1, cN ps 2, cN ps 3, cN ps 4, cN ps 5, cN ps 6, cN ps 7, cN ps 8, cN ps 9, cN ps 10, cN ps 11, cN ps 12, cN ps 13, cN ps 14]
theorem cntA_len (ps : List Int) : (cntA ps).length = 15 := rfl
theorem pt15 {p : Int} (h0 : 0 ≤ p) (h1 : p < 15) : p = 0 ∨ p = 1 ∨ p = 2 ∨ p = 3 ∨ p = 4 ∨ p = 5 ∨ p = 6 ∨ p = 7 ∨ p = 8 ∨ p = 9 ∨ p = 10 ∨ p = 11 ∨ p = 12 ∨ p = 13 ∨ p = 14 := by omega
theorem cntA_get (ps : List Int) {p : Int} (h0 : 0 ≤ p) (h1 : p < 15) : (cntA ps).getD p.toNat 0 = cN ps p := by
  rcases pt15 h0 h1 with rfl | rfl | rfl | rfl | rfl | rfl | rfl | rfl | rfl | rfl | rfl | rfl | rfl | rfl | rfl <;> rfl
theorem cN_snoc (ps : List Int) (p k : Int) : cN (ps ++ [p]) k = cN ps k + if p = k then 1 else 0 := by
  unfold cN
  rw [List.count_append, List.count_singleton]
  by_cases h : p = k
  · subst h; simp
  · simp [h]
theorem cntA_set (ps : List Int) {p : Int} (h0 : 0 ≤ p) (h1 : p < 15) : (cntA ps).set p.toNat ((cntA ps).getD p.toNat 0 + 1) = cntA (ps ++ [p]) := by
  rw [cntA_get ps h0 h1]
  rcases pt15 h0 h1 with rfl | rfl | rfl | rfl | rfl | rfl | rfl | rfl | rfl | rfl | rfl | rfl | rfl | rfl | rfl <;> simp [cntA, cN_snoc]
theorem cnt_bd {ps : List Int} (h : ps.length ≤ 100) (k : Nat) : 0 ≤ (cntA ps).getD k 0 ∧ (cntA ps).getD k 0 ≤ 100 := by
  have key : ∀ x ∈ cntA ps, 0 ≤ x ∧ x ≤ 100 := by
    intro x hx
    have h1 : ∀ p, 0 ≤ cN ps p ∧ cN ps p ≤ 100 := fun p => by unfold cN; have := List.count_le_length (a := p) (l := ps); omega
    simp only [cntA, List.mem_cons, List.not_mem_nil, or_false] at hx
    rcases hx with h | h | h | h | h | h | h | h | h | h | h | h | h | h | h <;> rw [h] <;> exact h1 _
  by_cases hk : k < (cntA ps).length
  · have e : (cntA ps).getD k 0 = (cntA ps)[k] := by simp [List.getD, hk]
    rw [e]
    exact key _ (List.getElem_mem hk)
  · have e : (cntA ps).getD k 0 = 0 := by simp [List.getD, Nat.le_of_not_lt hk]
    rw [e]
    omega
def posL : List Int → Nat
  | [] => 0
  | x :: r => (if 0 < x then 1 else 0) + posL r
def dist (ps : List Int) : Nat := posL (cntA ps)
theorem posL_set : ∀ (xs : List Int) (k : Nat), k < xs.length → 0 ≤ xs.getD k 0 → posL (xs.set k (xs.getD k 0 + 1)) = posL xs + if xs.getD k 0 = 0 then 1 else 0 := by
  intro xs
  induction xs with
  | nil => intro k hk; simp at hk
  | cons x xs ih =>
    intro k hk h0
    cases k with
    | zero =>
      simp only [List.getD_cons_zero, List.set_cons_zero, posL] at *
      by_cases h : x = 0
      · subst h; simp; omega
      · rw [if_pos (by omega), if_pos (by omega), if_neg h]; omega
    | succ k =>
      simp only [List.getD_cons_succ, List.set_cons_succ, posL] at *
      rw [ih k (by simpa using hk) h0]
      omega
theorem dist_snoc (ps : List Int) {p : Int} (h0 : 0 ≤ p) (h1 : p < 15) : dist (ps ++ [p]) = dist ps + if cN ps p = 0 then 1 else 0 := by
  unfold dist
  rw [← cntA_set ps h0 h1, posL_set _ _ (by rw [cntA_len]; omega) (by rw [cntA_get ps h0 h1]; unfold cN; omega), cntA_get ps h0 h1]
theorem cnt_one (ps : List Int) {p : Int} (h0 : 0 ≤ p) (h1 : p < 15) : (cntA (ps ++ [p])).getD p.toNat 0 = 1 ↔ cN ps p = 0 := by
  rw [cntA_get _ h0 h1, cN_snoc, if_pos rfl]
  omega
theorem dist_le (ps : List Int) : dist ps ≤ 15 := by
  have : ∀ xs : List Int, posL xs ≤ xs.length := by
    intro xs
    induction xs with
    | nil => simp [posL]
    | cons x xs ih => simp only [posL, List.length_cons]; split <;> omega
  exact this _
theorem sumL_cnt : ∀ ps : List Int, (∀ p ∈ ps, 0 ≤ p ∧ p < 15) → (cntA ps).sum = ps.length := by
  intro ps
  have key : ∀ (n : Nat) (ps : List Int), ps.length = n → (∀ p ∈ ps, 0 ≤ p ∧ p < 15) → (cntA ps).sum = ps.length := by
    intro n
    induction n with
    | zero => intro ps h _; rw [List.eq_nil_of_length_eq_zero h]; rfl
    | succ n ih =>
      intro ps h hp
      have hne : ps ≠ [] := by intro e; subst e; simp at h
      obtain ⟨qs, q, rfl⟩ : ∃ qs q, ps = qs ++ [q] := ⟨ps.dropLast, ps.getLast hne, (List.dropLast_concat_getLast hne).symm⟩
      rw [List.length_append, List.length_singleton] at h ⊢
      have h1 := ih qs (by omega) (fun p h => hp p (by simp [h]))
      have h2 := hp q (by simp)
      have h3 : (cntA (qs ++ [q])).sum = (cntA qs).sum + 1 := by
        rcases pt15 h2.1 h2.2 with rfl | rfl | rfl | rfl | rfl | rfl | rfl | rfl | rfl | rfl | rfl | rfl | rfl | rfl | rfl <;> simp [cntA, cN_snoc] <;> omega
      rw [h3, h1]
      push_cast
      rfl
  exact key _ ps rfl
theorem pos_two : ∀ xs : List Int, (∀ x ∈ xs, 0 ≤ x) → (∀ x ∈ xs, x ≤ 2) → xs.sum ≤ 2 * posL xs ∧ (xs.sum = 2 * posL xs → ∀ x ∈ xs, x = 0 ∨ x = 2) := by
  intro xs
  induction xs with
  | nil => intro _ _; simp [posL]
  | cons x xs ih =>
    intro h0 h2
    obtain ⟨i1, i2⟩ := ih (fun y hy => h0 y (by simp [hy])) (fun y hy => h2 y (by simp [hy]))
    have hx := h0 x (by simp)
    have hx2 := h2 x (by simp)
    simp only [posL, List.sum_cons]
    push_cast
    by_cases hp : 0 < x
    · rw [if_pos hp]
      refine ⟨by omega, fun e y hy => ?_⟩
      rcases List.mem_cons.1 hy with rfl | hy
      · omega
      · exact i2 (by omega) y hy
    · rw [if_neg hp]
      refine ⟨by omega, fun e y hy => ?_⟩
      rcases List.mem_cons.1 hy with rfl | hy
      · omega
      · exact i2 (by omega) y hy
theorem two_pos : ∀ xs : List Int, (∀ x ∈ xs, x = 0 ∨ x = 2) → xs.sum = 2 * posL xs := by
  intro xs
  induction xs with
  | nil => intro _; simp [posL]
  | cons x xs ih =>
    intro h
    have i1 := ih (fun y hy => h y (by simp [hy]))
    have hx := h x (by simp)
    simp only [posL, List.sum_cons]
    push_cast
    rcases hx with rfl | rfl <;> simp <;> omega
theorem mem_cntA {ps : List Int} {x : Int} : x ∈ cntA ps ↔ ∃ p : Int, 0 ≤ p ∧ p < 15 ∧ x = cN ps p := by
  constructor
  · intro h
    simp only [cntA, List.mem_cons, List.not_mem_nil, or_false] at h
    rcases h with h | h | h | h | h | h | h | h | h | h | h | h | h | h | h <;> exact ⟨_, by decide, by decide, h⟩
  · rintro ⟨p, h0, h1, rfl⟩
    rcases pt15 h0 h1 with rfl | rfl | rfl | rfl | rfl | rfl | rfl | rfl | rfl | rfl | rfl | rfl | rfl | rfl | rfl <;> simp [cntA]
theorem six_iff {ps : List Int} (hp : ∀ p ∈ ps, 0 ≤ p ∧ p < 15) (hl : ps.length = 12) : (dist ps = 6 ∧ ¬ ∃ x ∈ cntA ps, 2 < x) ↔ ∀ p, ps.count p = 0 ∨ ps.count p = 2 := by
  have hs := sumL_cnt ps hp
  rw [hl] at hs
  have h0 : ∀ x ∈ cntA ps, 0 ≤ x := by
    intro x hx
    obtain ⟨p, _, _, rfl⟩ := mem_cntA.1 hx
    unfold cN
    omega
  constructor
  · rintro ⟨h1, h2⟩ p
    have h3 := pos_two (cntA ps) h0 (fun x hx => by
      by_cases e : 2 < x
      · exact absurd ⟨x, hx, e⟩ h2
      · omega)
    by_cases hm : p ∈ ps
    · obtain ⟨q1, q2⟩ := hp p hm
      have h4 := h3.2 (by unfold dist at h1; rw [hs, h1]; rfl) (cN ps p) (mem_cntA.2 ⟨p, q1, q2, rfl⟩)
      unfold cN at h4
      omega
    · exact .inl (List.count_eq_zero.2 hm)
  · intro h
    have h5 : ∀ x ∈ cntA ps, x = 0 ∨ x = 2 := by
      intro x hx
      obtain ⟨p, _, _, rfl⟩ := mem_cntA.1 hx
      have := h p
      unfold cN
      omega
    have h3 := two_pos (cntA ps) h5
    refine ⟨by unfold dist; omega, ?_⟩
    rintro ⟨x, hx, h6⟩
    have := h5 x hx
    omega
theorem bl_count {v : Int} {b : B3} (hg : good v b) (p : Int) : (bl b).count p = hasN b p := by
  unfold good at hg
  unfold bl hasN has
  by_cases h1 : b.1 = p
  · have : ¬ b.2.1 = p := by omega
    have : ¬ b.2.2 = p := by omega
    simp_all
  · by_cases h2 : b.2.1 = p
    · have : ¬ b.2.2 = p := by omega
      simp_all
    · by_cases h3 : b.2.2 = p <;> simp_all
def PasB (l : List B3) : Prop := ∀ p, (l.flatMap bl).count p = 0 ∨ (l.flatMap bl).count p = 2
noncomputable instance (l : List B3) : Decidable (PasB l) := Classical.propDecidable _
theorem pasB_four {v : Int} {a b c d : B3} (ha : good v a) (hb : good v b) (hc : good v c) (hd : good v d) : PasB [a, b, c, d] ↔ P4 a b c d := by
  unfold PasB P4
  refine forall_congr' fun p => ?_
  simp only [List.flatMap_cons, List.flatMap_nil, List.append_nil, List.count_append, bl_count ha, bl_count hb, bl_count hc, bl_count hd]
  have : ∀ x y z u : Nat, x + (y + (z + u)) = x + y + z + u := by intros; omega
  rw [this]
theorem flat_pts {l : List B3} (h : ∀ b ∈ l, good 15 b) : ∀ p ∈ l.flatMap bl, 0 ≤ p ∧ p < 15 := by
  intro p hp
  obtain ⟨b, hb, h1⟩ := List.mem_flatMap.1 hp
  have hg := h b hb
  unfold good at hg
  simp only [bl, List.mem_cons, List.not_mem_nil, or_false] at h1
  omega
theorem flat_len (l : List B3) : (l.flatMap bl).length = 3 * l.length := by
  induction l with
  | nil => rfl
  | cons b l ih => simp [List.flatMap_cons, bl, ih]; omega
theorem flat_snoc (l : List B3) {k : Nat} (hk : k < l.length) : (l.take (k + 1)).flatMap bl = (((l.take k).flatMap bl ++ [l[k].1]) ++ [l[k].2.1]) ++ [l[k].2.2] := by
  rw [take_snoc hk, List.flatMap_append]
  simp [bl]


section
variable {v : Int} {bs : List B3}
theorem pq_quad {r : List Int} (h : PQ bs r) : ∃ i j k m : Nat, i < j ∧ j < k ∧ k < m ∧ m < bs.length ∧ r = [(i : Int), (j : Int), (k : Int), (m : Int)] := by
  obtain ⟨h4, hu, hi, _⟩ := h
  match r, h4 with
  | [a, b, c, d], _ =>
    have ha := hi a (by simp)
    have hb := hi b (by simp)
    have hc := hi c (by simp)
    have hd := hi d (by simp)
    unfold okIx at ha hb hc hd
    simp only [List.pairwise_cons, List.mem_cons, List.not_mem_nil, or_false] at hu
    have u1 := hu.1 b (by simp)
    have u2 := hu.2.1 c (by simp)
    have u3 := hu.2.2.1 d (by simp)
    refine ⟨a.toNat, b.toNat, c.toNat, d.toNat, by omega, by omega, by omega, by omega, ?_⟩
    congr 1
    · omega
    · congr 1
      · omega
      · congr 1
        · omega
        · congr 1; omega
theorem pq_of {i j k m : Nat} (h1 : i < j) (h2 : j < k) (h3 : k < m) (h4 : m < bs.length) (hp : P4 bs[i] bs[j] bs[k] bs[m]) : PQ bs [(i : Int), (j : Int), (k : Int), (m : Int)] := by
  refine ⟨rfl, by simp; omega, fun q hq => ?_, fun p => ?_⟩
  · simp only [List.mem_cons, List.not_mem_nil, or_false] at hq
    unfold okIx
    omega
  · rw [cntP_four, blk_get (by omega), blk_get (by omega), blk_get (by omega), blk_get h4]
    exact hp p
theorem pq_p4 {i j k m : Nat} (h1 : i < j) (h2 : j < k) (h3 : k < m) (h4 : m < bs.length) (h : PQ bs [(i : Int), (j : Int), (k : Int), (m : Int)]) : P4 bs[i] bs[j] bs[k] bs[m] := by
  intro p
  have := h.two p
  rwa [cntP_four, blk_get (by omega), blk_get (by omega), blk_get (by omega), blk_get h4] at this
theorem pre4 {a b c d : Int} {i j k m : Nat} : ([a] <+: [(i : Int), (j : Int), (k : Int), (m : Int)] ↔ a = i) ∧ ([a, b] <+: [(i : Int), (j : Int), (k : Int), (m : Int)] ↔ a = i ∧ b = j) ∧ ([a, b, c] <+: [(i : Int), (j : Int), (k : Int), (m : Int)] ↔ a = i ∧ b = j ∧ c = k) ∧ ([a, b, c, d] <+: [(i : Int), (j : Int), (k : Int), (m : Int)] ↔ a = i ∧ b = j ∧ c = k ∧ d = m) := by
  simp [List.cons_prefix_cons]
theorem pas0 : IsList (PreB (PQ bs) [] 0) [] := preB_none fun r j _ _ => Nat.zero_le _
theorem pas1 {i : Nat} : IsList (PreB (PQ bs) [(i : Int)] (i + 1)) [] := by
  refine preB_none fun r x h hp => ?_
  obtain ⟨a, b, c, d, h1, h2, h3, h4, rfl⟩ := pq_quad h
  have := (pre4 (c := 0) (d := 0)).2.1.1 hp
  omega
theorem pas2 {i j : Nat} : IsList (PreB (PQ bs) [(i : Int), (j : Int)] (j + 1)) [] := by
  refine preB_none fun r x h hp => ?_
  obtain ⟨a, b, c, d, h1, h2, h3, h4, rfl⟩ := pq_quad h
  have := (pre4 (d := 0)).2.2.1.1 hp
  omega
theorem pas3 {i j k : Nat} : IsList (PreB (PQ bs) [(i : Int), (j : Int), (k : Int)] (k + 1)) [] := by
  refine preB_none fun r x h hp => ?_
  obtain ⟨a, b, c, d, h1, h2, h3, h4, rfl⟩ := pq_quad h
  have := pre4.2.2.2.1 hp
  omega
theorem pas3_all {i j k n : Nat} {ls : List (List Int)} (hn : bs.length ≤ n) (h : IsList (PreB (PQ bs) [(i : Int), (j : Int), (k : Int)] n) ls) : IsList (Pre (PQ bs) [(i : Int), (j : Int), (k : Int)]) ls := by
  refine preB_all h fun r hq hp => ?_
  obtain ⟨a, b, c, d, h1, h2, h3, h4, rfl⟩ := pq_quad hq
  have := (pre4 (d := 0)).2.2.1.1 hp
  exact ⟨d, by omega, pre4.2.2.2.2 (by omega)⟩
theorem pas2_all {i j n : Nat} {ls : List (List Int)} (hn : bs.length ≤ n) (h : IsList (PreB (PQ bs) [(i : Int), (j : Int)] n) ls) : IsList (Pre (PQ bs) [(i : Int), (j : Int)]) ls := by
  refine preB_all h fun r hq hp => ?_
  obtain ⟨a, b, c, d, h1, h2, h3, h4, rfl⟩ := pq_quad hq
  have := (pre4 (c := 0) (d := 0)).2.1.1 hp
  exact ⟨c, by omega, (pre4 (d := 0)).2.2.1.2 (by omega)⟩
theorem pas1_all {i n : Nat} {ls : List (List Int)} (hn : bs.length ≤ n) (h : IsList (PreB (PQ bs) [(i : Int)] n) ls) : IsList (Pre (PQ bs) [(i : Int)]) ls := by
  refine preB_all h fun r hq hp => ?_
  obtain ⟨a, b, c, d, h1, h2, h3, h4, rfl⟩ := pq_quad hq
  have := (pre4 (b := 0) (c := 0) (d := 0)).1.1 hp
  exact ⟨b, by omega, (pre4 (c := 0) (d := 0)).2.1.2 (by omega)⟩
theorem pas0_all {n : Nat} {ls : List (List Int)} (hn : bs.length ≤ n) (h : IsList (PreB (PQ bs) [] n) ls) : IsList (PQ bs) ls := by
  refine pre_top (preB_all h fun r hq hp => ?_)
  obtain ⟨a, b, c, d, h1, h2, h3, h4, rfl⟩ := pq_quad hq
  exact ⟨a, by omega, (pre4 (b := 0) (c := 0) (d := 0)).1.2 rfl⟩
theorem pas_meet (h : STS v bs) {r : List Int} {i j : Nat} (hi : i < bs.length) (hj : j < bs.length) (hne : i ≠ j) (hq : PQ bs r) (hir : (i : Int) ∈ r) (hjr : (j : Int) ∈ r) : meets bs[i] bs[j] := by
  by_cases hm : meets bs[i] bs[j]
  · exact hm
  · obtain ⟨p, h1, h2⟩ := pq_meet h hi hj hne hq hir hjr
    exact absurd ⟨h1, h2⟩ (meets_disj.1 hm p)
theorem pas_skip1 (h : STS v bs) {i j : Nat} {ls : List (List Int)} (hij : i < j) (hj : j < bs.length) (hm : ¬ meets bs[i] bs[j]) (hl : IsList (PreB (PQ bs) [(i : Int)] j) ls) : IsList (PreB (PQ bs) [(i : Int)] (j + 1)) ls := by
  refine preB_skip hl fun r hq hp => hm ?_
  have m1 : (i : Int) ∈ r := hp.subset (by simp)
  have m2 : (j : Int) ∈ r := hp.subset (by simp)
  exact pas_meet h (by omega) hj (by omega) hq m1 m2
theorem pas_skip2 (h : STS v bs) {i j k : Nat} {ls : List (List Int)} (hij : i < j) (hjk : j < k) (hk : k < bs.length) (hm : ¬ meets bs[i] bs[k] ∨ ¬ meets bs[j] bs[k]) (hl : IsList (PreB (PQ bs) [(i : Int), (j : Int)] k) ls) : IsList (PreB (PQ bs) [(i : Int), (j : Int)] (k + 1)) ls := by
  refine preB_skip hl fun r hq hp => ?_
  have m1 : (i : Int) ∈ r := hp.subset (by simp)
  have m2 : (j : Int) ∈ r := hp.subset (by simp)
  have m3 : (k : Int) ∈ r := hp.subset (by simp)
  rcases hm with hm | hm
  · exact hm (pas_meet h (by omega) hk (by omega) hq m1 m3)
  · exact hm (pas_meet h (by omega) hk (by omega) hq m2 m3)
theorem pas_yes {i j k m : Nat} {ls : List (List Int)} (h1 : i < j) (h2 : j < k) (h3 : k < m) (h4 : m < bs.length) (hp : P4 bs[i] bs[j] bs[k] bs[m]) (hl : IsList (PreB (PQ bs) [(i : Int), (j : Int), (k : Int)] m) ls) : IsList (PreB (PQ bs) [(i : Int), (j : Int), (k : Int)] (m + 1)) (ls ++ [[(i : Int), (j : Int), (k : Int), (m : Int)]]) :=
  preB_step hl (pre_one (fun r hr => by rw [hr.four]; rfl) (pq_of h1 h2 h3 h4 hp))
theorem pas_no {i j k m : Nat} {ls : List (List Int)} (h1 : i < j) (h2 : j < k) (h3 : k < m) (h4 : m < bs.length) (hp : ¬ P4 bs[i] bs[j] bs[k] bs[m]) (hl : IsList (PreB (PQ bs) [(i : Int), (j : Int), (k : Int)] m) ls) : IsList (PreB (PQ bs) [(i : Int), (j : Int), (k : Int)] (m + 1)) ls := by
  refine preB_skip hl fun r hq hpre => hp ?_
  have e : [(i : Int), (j : Int), (k : Int), (m : Int)] = r := hpre.eq_of_length (by rw [hq.four]; rfl)
  subst e
  exact pq_p4 h1 h2 h3 h4 hq


end
end Go.Vc

namespace Go.Vc
section
variable {bs : List B3} {ls : List (List Int)} {n i p : Nat}
end
end Go.Vc

namespace Go.Vc
open Go Go.RowKit
section
variable {P : Program} {w0 w : World} {H H' : List Assn} {α : Type} {Q : Exit → Act → World → Prop} {σ : Sig} {o : Oper} {T e : TypeId} {C : Cod α}

theorem elem_of {T e : TypeId} (hT : P.underlying T = some (.slice e)) : P.underlying T = some (.slice (P.elem T)) ∧ P.elem T = e := by
  have : P.elem T = e := by simp [Program.elem, hT]
  exact ⟨this ▸ hT, this⟩
theorem map_add_zero (A : Option Addr) : A.map (·.add 0) = A := by
  cases A with
  | none => rfl
  | some q =>
    simp only [Option.map_some, Option.some.injEq]
    unfold Addr.add
    split <;> simp_all
theorem Pu.sliceH {x y : Operand} {A : Option Addr} {n c s : Nat} {K : IntKind} {i : Int} (k : Nat) (ho : o.op = .slice T x none (some y) none) (hT : P.underlying T = some (.slice e)) (hs : Sz P e s) (hx : ev σ x = some (.slice A n c)) (hy : ev σ y = some (.int K i)) (hi : i = (k : Int)) (hk : k ≤ c) :
    Pu P w0 o σ H (.slice A k c) := by
  intro w hw a ha
  have h1 := ha x (by simp [ho, Op.operands]) _ hx
  have h2 := ha y (by simp [ho, Op.operands]) _ hy
  subst hi
  obtain ⟨e1, e2⟩ := elem_of hT
  have e3 : Value.slice (if c = 0 then A else A.map (·.add 0)) k c = .slice A k c := by rw [map_add_zero]; simp
  have hr := run_slice_h (w := w) T A n c e1 K (k : Int) (by omega) (by omega)
  rw [e2, run_sz hs] at hr
  simp only [Result.andThen_ok, sliced, Int.toNat_natCast, Nat.zero_mul, Nat.sub_zero, e3] at hr
  simp [execOp, ho, h1, h2, run_sliceAt_slice (h := e1), hr]
theorem Pu.sliceL {x y : Operand} {A : Option Addr} {n c s : Nat} {K : IntKind} {i : Int} (k : Nat) (ho : o.op = .slice T x (some y) none none) (hT : P.underlying T = some (.slice e)) (hs : Sz P e s) (hx : ev σ x = some (.slice A n c)) (hy : ev σ y = some (.int K i)) (hi : i = (k : Int)) (hk : k ≤ n) :
    Pu P w0 o σ H (.slice (if c = k then A else A.map (·.add (k * s))) (n - k) (c - k)) := by
  intro w hw a ha
  have h1 := ha x (by simp [ho, Op.operands]) _ hx
  have h2 := ha y (by simp [ho, Op.operands]) _ hy
  subst hi
  obtain ⟨e1, e2⟩ := elem_of hT
  have hr := run_slice_l (w := w) T A n c e1 K (k : Int) (by omega) (by omega)
  rw [e2, run_sz hs] at hr
  simp only [Result.andThen_ok, sliced, Int.toNat_natCast] at hr
  simp [execOp, ho, h1, h2, run_sliceAt_slice (h := e1), hr]
theorem Rd.drop {A : Option Addr} {xs : List α} {c k s : Nat} (h : Rd C w A xs) (hs : s = C.sz) (hc : xs.length ≤ c) : Rd C w (if c = k then A else A.map (·.add (k * s))) (xs.drop k) := by
  intro i hi
  rw [List.length_drop] at hi
  obtain ⟨q, hq, hr⟩ := h (k + i) (by omega)
  rw [if_neg (by omega), hq]
  refine ⟨_, rfl, fun j u hj => ?_⟩
  rw [List.getElem_drop] at hj
  have := hr j u hj
  rw [Addr.add_add', hs]
  rw [show k * C.sz + (i * C.sz + j) = (k + i) * C.sz + j by rw [Nat.add_mul]; omega]
  exact this
theorem Rd.take {A : Option Addr} {xs : List α} (h : Rd C w A xs) (k : Nat) : Rd C w A (xs.take k) := by
  intro i hi
  rw [List.length_take] at hi
  obtain ⟨q, hq, hr⟩ := h i (by omega)
  exact ⟨q, hq, fun j u hj => hr j u (by rw [List.getElem_take] at hj; exact hj)⟩
theorem Own.cap {c i : Nat} {A : Option Addr} {xs : List α} (hw : St w0 H w) (hp : pull i H = Option.some (Own T C A c xs, H')) : xs.length ≤ c := by
  obtain ⟨F, ho, hF⟩ := hw.get i hp
  rcases ho.2 with ⟨h1, h2⟩ | ⟨g, cap, cur, hvv, hbase, hh, hle, hmax, hcs, htake⟩
  · omega
  · have hcap : c = cap := by injection hvv
    omega
theorem Own.takeP {A : Option Addr} {c : Nat} {xs : List α} (k : Nat) : ∀ w F, (Own T C A c xs).P w F → (Own T C A c (xs.take k)).P w F := by
  rintro w F ⟨h, hF⟩
  have hfl : (xs.take k).flatMap C.enc = (xs.flatMap C.enc).take ((xs.take k).length * C.sz) := by
    have h1 : xs.flatMap C.enc = (xs.take k).flatMap C.enc ++ (xs.drop k).flatMap C.enc := by rw [← List.flatMap_append, List.take_append_drop]
    have h2 : ((xs.take k).flatMap C.enc).length = (xs.take k).length * C.sz := length_flatMap_enc C _
    rw [h1, ← h2, List.take_append_of_le_length (Nat.le_refl _), List.take_length]
  refine ⟨⟨by rw [length_flatMap_enc], ?_⟩, fun j => ?_⟩
  · rcases h.2 with ⟨h1, h2⟩ | ⟨g, cap, cur, hv, hg, hh, hle, hmax, hcs, htake⟩
    · have hx0 : xs = [] := List.eq_nil_of_length_eq_zero (by omega)
      subst hx0
      exact .inl ⟨by simpa using h1, by simp⟩
    · refine .inr ⟨g, cap, cur, ?_, hg, hh, ?_, hmax, hcs, ?_⟩
      · injection hv with h1 h2 h3
        rw [h1, h3]
      · rw [List.length_take]; omega
      · have h3 : (xs.take k).length * C.sz ≤ xs.length * C.sz := Nat.mul_le_mul_right _ (by rw [List.length_take]; omega)
        rw [hfl, ← htake, List.take_take, Nat.min_eq_left h3]
  · rw [hF j]
    cases A <;> simp [Value.ownBlock]
theorem Ef.clearTail {x : Operand} {sz bytes c c2 n : Nat} {z : Value} {A : Option Addr} {xs : List α} {y : α} (i : Nat) (k : Nat) (ho : o.op = .call { callee := .builtin .clear, args := #[x], argTypes := #[T] }) (hT : P.underlying T = some (.slice e)) (hi : Inf P e sz bytes z) (hs : sz = C.sz) (hz : z.cells.toList = C.enc y)
    (hx : ev σ x = some (.slice (if c = k then A else A.map (·.add (k * sz))) (n - k) c2)) (hp : pull i H = some (Own e C A c xs, H')) (hn : n = xs.length) (hk : k ≤ xs.length) :
    Ef P w0 o σ H Q (fun v H'' => v = .tuple #[] ∧ H'' = repl i H (Own e C A c (xs.take k ++ List.replicate (xs.length - k) y))) := by
  subst hn
  intro w hw a ha
  have h1 := ha x (by simp [ho, Op.operands, Call.operands]) _ hx
  obtain ⟨i0, hi1, hi2, hi3, hi4⟩ := hi.parts
  subst hs
  by_cases hk0 : xs.length - k = 0
  · have hkk : k = xs.length := by omega
    have hr : (execOp a.eval o).run P w = .ok (.value (.tuple #[])) w := by
      rw [hk0] at h1
      cases hA : (if c = k then A else A.map (·.add (k * C.sz))) <;> rw [hA] at h1 <;> simp [execOp, ho, resolve, invoke, builtin, h1, Builtin.clear_, run_underlying hT]
    refine upon_ok hr ⟨_, _, rfl, hw.perm ?_, rfl, rfl⟩
    subst hkk
    rw [List.take_length, Nat.sub_self, List.replicate_zero, List.append_nil]
    exact (pull_perm hp).trans (repl_perm hp)
  · obtain ⟨F, ho', hF⟩ := hw.get i hp
    rcases ho'.2 with ⟨h3, h4⟩ | ⟨g, cap, cur, hvv, hbase, hh, hle, hmax, hcs, htake⟩
    · omega
    · have hA : A = some ⟨g, 0, none⟩ := by injection hvv
      have hcap : c = cap := by injection hvv
      subst hA
      have hck : ¬ c = k := by omega
      rw [if_neg hck] at h1
      have hcells : (Builtin.zeroCells z.cells (xs.length - k)).toList = (List.replicate (xs.length - k) y).flatMap C.enc := by
        have : Builtin.zeroCells z.cells (xs.length - k) = madeCells z.cells ((xs.length - k) * C.sz) := by
          have hsz : z.cells.size = C.sz := by rw [← Array.length_toList, hz, C.len]
          unfold Builtin.zeroCells madeCells
          rw [hsz]
        rw [this, made_eq C y z (xs.length - k) hz]
      have hlen : ((List.replicate (xs.length - k) y).flatMap C.enc).length = (xs.length - k) * C.sz := by rw [length_flatMap_enc, List.length_replicate]
      have hkc : k * C.sz + (xs.length - k) * C.sz ≤ cur.size := by
        rw [hcs, ← Nat.add_mul]
        exact Nat.mul_le_mul_right _ (by omega)
      have hst := run_storeCells_at P g (k * C.sz) e ((List.replicate (xs.length - k) y).flatMap C.enc) 0 cur w hh (by rw [hlen]; omega) (fun u hu => by obtain ⟨y', _, hy'⟩ := List.mem_flatMap.1 hu; exact C.one y' u hy')
      simp only [Nat.add_zero, hlen] at hst
      have hzr : (zeroValue e).run P w = .ok z w := by simp [zeroValue, typeInfo, hi1, hi2]
      obtain ⟨m, hm⟩ : ∃ m, xs.length - k = m + 1 := ⟨xs.length - k - 1, by omega⟩
      have hr : (execOp a.eval o).run P w = .ok (.value (.tuple #[])) (w.setRow g (cur.toList.take (k * C.sz) ++ (List.replicate (xs.length - k) y).flatMap C.enc ++ cur.toList.drop (k * C.sz + (xs.length - k) * C.sz)).toArray) := by
        simp only [Option.map_some, add_mk, Nat.zero_add] at h1
        have hb : (Builtin.clear_ #[T] o.type #[.slice (some ⟨g, k * C.sz, none⟩) (xs.length - k) c2]).run P w = .ok (.tuple #[]) (w.setRow g (cur.toList.take (k * C.sz) ++ (List.replicate (xs.length - k) y).flatMap C.enc ++ cur.toList.drop (k * C.sz + (xs.length - k) * C.sz)).toArray) := by
          have hst' := hst
          rw [← hcells] at hst' ⊢
          rw [hm] at hst' ⊢
          simp [Builtin.clear_, run_underlying hT, hzr, hst']
        simp [execOp, ho, resolve, invoke, builtin, h1, hb]
      refine upon_ok hr ⟨_, _, rfl, ?_, rfl, rfl⟩
      refine St.perm ?_ (repl_perm hp)
      refine (hw.perm (pull_perm hp)).upd (B := Own e C (some ⟨g, 0, none⟩) c (xs.take k ++ List.replicate (xs.length - k) y)) ?_
      rintro F2 ⟨ho2, hF2⟩ hb
      have hl : (xs.take k ++ List.replicate (xs.length - k) y).length = xs.length := by simp; omega
      refine ⟨⟨rfl, rfl, rfl, by simp [World.setRow], fun m' _ hm' => setRow_other w g m' _ (fun e1 => hm' ((hF2 m').2 (by subst e1; rfl))), Nat.le_refl _⟩, F2, ⟨⟨by rw [length_flatMap_enc], .inr ⟨g, cap, _, by rw [hl, hcap], Nat.zero_le _, setRow_heap w g cur _ e _ hh, by rw [hl]; omega, hmax, ?_, ?_⟩⟩, ?_⟩, ?_⟩
      · simp only [List.size_toArray, List.length_append, List.length_take, List.length_drop, Array.length_toList, hlen]
        omega
      · rw [hl, List.flatMap_append]
        have hfl : (xs.take k).flatMap C.enc = cur.toList.take (k * C.sz) := by
          have hk2 : k * C.sz ≤ xs.length * C.sz := Nat.mul_le_mul_right _ hk
          have e5 : cur.toList.take (k * C.sz) = (xs.flatMap C.enc).take (k * C.sz) := by rw [← htake, List.take_take, Nat.min_eq_left hk2]
          have h1 : xs.flatMap C.enc = (xs.take k).flatMap C.enc ++ (xs.drop k).flatMap C.enc := by rw [← List.flatMap_append, List.take_append_drop]
          have h2 : ((xs.take k).flatMap C.enc).length = k * C.sz := by rw [length_flatMap_enc, List.length_take, Nat.min_eq_left hk]
          rw [e5, h1, List.take_append_of_le_length (by rw [h2]; exact Nat.le_refl _)]
          exact (List.take_of_length_le (by rw [h2]; exact Nat.le_refl _)).symm
        rw [hfl]
        have hlt : (cur.toList.take (k * C.sz)).length = k * C.sz := by rw [List.length_take, Array.length_toList]; omega
        rw [List.toList_toArray]
        rw [List.take_append_of_le_length (by rw [List.length_append, hlt, hlen, ← Nat.add_mul]; exact Nat.mul_le_mul_right _ (by omega))]
        rw [List.take_of_length_le (by rw [List.length_append, hlt, hlen, ← Nat.add_mul]; exact Nat.mul_le_mul_right _ (by omega))]
      · intro m'
        rw [hF2 m', hl]
      · intro m' hm'
        exact ⟨.inl hm', by have := (hb m' hm').2; simpa [World.setRow] using this⟩
theorem RowsA.sublist {ps qs : List (Sl × List α)} (h : qs.Sublist ps) : St w0 (RowsA T C ps :: H) w → St w0 (RowsA T C qs :: H) w := by
  induction h generalizing H with
  | slnil => exact id
  | cons p _ ih =>
    intro hw
    exact ih (RowsA.uncons (s := p.1) (xs := p.2) hw).2.tail
  | cons_cons p _ ih =>
    intro hw
    obtain ⟨h1, h2⟩ := RowsA.uncons (s := p.1) (xs := p.2) hw
    have h3 := ih (h2.perm (List.Perm.swap _ _ _))
    have h4 := RowsA.cons (h3.perm (List.Perm.swap _ _ _))
    have e : (⟨p.1.A, p.2.length, p.1.c⟩ : Sl) = p.1 := by rw [← h1]
    rw [e] at h4
    exact h4
end

section
variable {P : Program} {w0 w : World} {H : List Assn} {σ : Sig} {o : Oper}
theorem run_part_int {T : TypeId} (hT : P.underlying T = some (.int .i64)) (cs : Array Value) (j : Nat) (v : Value) (h : cs[j]? = some v) : (part T cs j).run P w = .ok v w := by
  have hp : plainT P T = true := by simp [plainT, hT]
  simp [part, run_isAgg_f hp, h]
theorem run_eq3 {T E : TypeId} (hT : P.underlying T = some (.array 3 E)) (hE : P.underlying E = some (.int .i64)) (hs : Sz P E 1) (a b : B3) (d : Nat) (w : World) : (Op.equalIn (d + 1 + 1) T (B3.v a) (B3.v b)).run P w = .ok (decide (a = b)) w := by
  obtain ⟨i, hi, hsz⟩ := Option.map_eq_some_iff.1 hs
  have hc : P.cellsOf E = 1 := by simp [Program.cellsOf, hi, hsz]
  unfold B3.v
  rw [run_equalIn_array w (d + 1) _ _ hT hi, hc]
  have r : List.range 3 = [0, 1, 2] := rfl
  have e0 : ∀ x y z : Value, (part E #[x, y, z] 0).run P w = .ok x w := fun x y z => run_part_int hE _ _ _ rfl
  have e1 : ∀ x y z : Value, (part E #[x, y, z] 1).run P w = .ok y w := fun x y z => run_part_int hE _ _ _ rfl
  have e2 : ∀ x y z : Value, (part E #[x, y, z] 2).run P w = .ok z w := fun x y z => run_part_int hE _ _ _ rfl
  have q : ∀ x y : Int, (Op.equalIn (d + 1) E (.int .i64 x) (.int .i64 y)).run P w = .ok (x == y) w := fun x y => run_equalIn_int w d E .i64 .i64 x y hE
  obtain ⟨a1, a2, a3⟩ := a
  obtain ⟨b1, b2, b3⟩ := b
  rw [r]
  simp only [Op.eqItems, Sem.run_bind, Nat.zero_mul, Nat.one_mul, Nat.mul_one, e0, e1, e2, q, Result.andThen_ok]
  by_cases h1 : a1 = b1
  · subst h1
    by_cases h2 : a2 = b2
    · subst h2
      by_cases h3 : a3 = b3
      · subst h3; simp [e0, e1, e2, q]
      · simp [h3, e0, e1, e2, q]
    · simp [h2, e0, e1, e2, q]
  · simp [h1, e0, e1, e2, q]
theorem guard3 {T : TypeId} {op : BinOp} {x y : Operand} {a b : B3} (hg : P.eqGuardType P.depth T = false) : (eqGuard op T x y (B3.v a) (B3.v b)).run P w = .ok () w := by
  unfold B3.v
  exact run_eqGuard_agg w op T x y _ _ hg
theorem Pu.eqlB3 {T T2 E : TypeId} {x y : Operand} {a b : B3} (hT : P.underlying T = some (.array 3 E)) (hE : P.underlying E = some (.int .i64)) (hs : Sz P E 1) (hg : P.eqGuardType P.depth T = false) (ho : o.op = .binOp .eql T x y T2) (hx : ev σ x = some (B3.v a)) (hy : ev σ y = some (B3.v b)) : Pu P w0 o σ H (.bool (decide (a = b))) := by
  intro w hw ac ha
  have h1 := ha x (by simp [ho, Op.operands]) _ hx
  have h2 := ha y (by simp [ho, Op.operands]) _ hy
  have hb : (Go.binOp .eql T (B3.v a) (B3.v b)).run P w = .ok (.bool (decide (a = b))) w := by
    have := run_eq3 hT hE hs a b 9998 w
    unfold B3.v at *
    rw [run_eql_struct, show (10000 : Nat) = 9998 + 1 + 1 from rfl, this]
    rfl
  simp only [execOp, ho, h1, h2, Sem.run_bind, guard3 hg, hb, Result.andThen_ok, Sem.run_pure]
theorem Pu.neqB3 {T T2 E : TypeId} {x y : Operand} {a b : B3} (hT : P.underlying T = some (.array 3 E)) (hE : P.underlying E = some (.int .i64)) (hs : Sz P E 1) (hg : P.eqGuardType P.depth T = false) (ho : o.op = .binOp .neq T x y T2) (hx : ev σ x = some (B3.v a)) (hy : ev σ y = some (B3.v b)) : Pu P w0 o σ H (.bool (!decide (a = b))) := by
  intro w hw ac ha
  have h1 := ha x (by simp [ho, Op.operands]) _ hx
  have h2 := ha y (by simp [ho, Op.operands]) _ hy
  have hb : (Go.binOp .neq T (B3.v a) (B3.v b)).run P w = .ok (.bool (!decide (a = b))) w := by
    have := run_eq3 hT hE hs a b 9998 w
    unfold B3.v at *
    rw [run_neq_struct, show (10000 : Nat) = 9998 + 1 + 1 from rfl, this]
    rfl
  simp only [execOp, ho, h1, h2, Sem.run_bind, guard3 hg, hb, Result.andThen_ok, Sem.run_pure]
end
theorem idxP_at {β : Type} {p : β → Prop} [DecidablePred p] {xs : List β} (h : ¬ idxP p xs = -1) : ∃ k, ∃ hk : k < xs.length, idxP p xs = (k : Int) ∧ p xs[k] ∧ ∀ j (hj : j < xs.length), j < k → ¬ p xs[j] := by
  by_cases hc : ∃ k, ∃ hk : k < xs.length, p xs[k]
  · obtain ⟨k, hk, h1⟩ := hc
    have key : ∀ n k (hk : k < xs.length), k ≤ n → p xs[k] → ∃ k, ∃ hk : k < xs.length, p xs[k] ∧ ∀ j (hj : j < xs.length), j < k → ¬ p xs[j] := by
      intro n
      induction n with
      | zero => intro k hk h0 h1; exact ⟨k, hk, h1, fun j hj h => by omega⟩
      | succ n ih =>
        intro k hk h0 h1
        by_cases h2 : ∃ j, ∃ hj : j < xs.length, j < k ∧ p xs[j]
        · obtain ⟨j, hj, h3, h4⟩ := h2
          exact ih j hj (by omega) h4
        · exact ⟨k, hk, h1, fun j hj h3 h4 => h2 ⟨j, hj, h3, h4⟩⟩
    obtain ⟨k, hk, h1, h2⟩ := key k k hk (Nat.le_refl _) h1
    exact ⟨k, hk, idxP_found hk h1 h2, h1, h2⟩
  · exact absurd (idxP_none (fun j hj hh => hc ⟨j, hj, hh⟩)) h
theorem idxP_not {β : Type} {p : β → Prop} [DecidablePred p] {xs : List β} (h : idxP p xs = -1) : ∀ j (hj : j < xs.length), ¬ p xs[j] := fun j hj hh => by
  have := (idxP_nonneg (p := p) (xs := xs)).2 ⟨_, List.getElem_mem hj, hh⟩
  omega

section
variable {β : Type} {p : β → Prop} [DecidablePred p] {ps : List β} {j : Nat}
def keptL (p : β → Prop) [DecidablePred p] (ps : List β) (j : Nat) : List β := (ps.take j).filter fun x => !decide (p x)
theorem keptL_le : (keptL p ps j).length ≤ j := Nat.le_trans (List.length_filter_le _ _) (by rw [List.length_take]; omega)
theorem keptL_yes (hj : j < ps.length) (h : p ps[j]) : keptL p ps (j + 1) = keptL p ps j := by
  unfold keptL
  rw [take_snoc hj, List.filter_append]
  simp [h]
theorem keptL_no (hj : j < ps.length) (h : ¬ p ps[j]) : keptL p ps (j + 1) = keptL p ps j ++ [ps[j]] := by
  unfold keptL
  rw [take_snoc hj, List.filter_append]
  simp [h]
theorem keptL_all (h : ∀ k (hk : k < ps.length), k < j → ¬ p ps[k]) (hj : j ≤ ps.length) : keptL p ps j = ps.take j := by
  induction j with
  | zero => simp [keptL]
  | succ j ih =>
    rw [keptL_no (by omega) (h j (by omega) (by omega)), ih (fun k hk hkj => h k hk (by omega)) (by omega), take_snoc (by omega)]
theorem keptL_end (hj : ps.length ≤ j) : keptL p ps j = ps.filter fun x => !decide (p x) := by unfold keptL; rw [List.take_of_length_le hj]
def movL (p : β → Prop) [DecidablePred p] (ps : List β) (j : Nat) : List β := keptL p ps j ++ ps.drop (keptL p ps j).length
theorem movL_len : (movL p ps j).length = ps.length := by
  have h1 : (keptL p ps j).length ≤ ps.length := Nat.le_trans (List.length_filter_le _ _) (by rw [List.length_take]; omega)
  unfold movL
  rw [List.length_append, List.length_drop]
  omega
theorem movL_get (hj : j < ps.length) (h2 : j < (movL p ps j).length) : (movL p ps j)[j] = ps[j] := by
  have := keptL_le (p := p) (ps := ps) (j := j)
  apply Option.some.inj
  rw [← List.getElem?_eq_getElem h2]
  unfold movL
  rw [List.getElem?_append_right this, List.getElem?_drop, show (keptL p ps j).length + (j - (keptL p ps j).length) = j by omega, List.getElem?_eq_getElem hj]
theorem movL_no (hj : j < ps.length) (h : ¬ p ps[j]) : (movL p ps j).set (keptL p ps j).length ps[j] = movL p ps (j + 1) := by
  have h1 := keptL_le (p := p) (ps := ps) (j := j)
  unfold movL
  rw [keptL_no hj h, List.set_append_right _ _ (Nat.le_refl _), Nat.sub_self, List.length_append, List.length_singleton, drop_cons (show (keptL p ps j).length < ps.length by omega), List.set_cons_zero, List.append_assoc]
  rfl
theorem movL_yes (hj : j < ps.length) (h : p ps[j]) : movL p ps j = movL p ps (j + 1) := by
  unfold movL
  rw [keptL_yes hj h]
theorem movL_start (h : ∀ k (hk : k < ps.length), k < j → ¬ p ps[k]) (hj : j < ps.length) (hp : p ps[j]) : ps = movL p ps (j + 1) ∧ (keptL p ps (j + 1)).length = j := by
  have e : keptL p ps (j + 1) = ps.take j := by rw [keptL_yes hj hp, keptL_all h (by omega)]
  unfold movL
  rw [e]
  rw [List.length_take, Nat.min_eq_left (by omega), List.take_append_drop]
  exact ⟨rfl, rfl⟩
theorem movL_take : (movL p ps j).take (keptL p ps j).length = keptL p ps j := by unfold movL; rw [List.take_append_of_le_length (Nat.le_refl _), List.take_length]
theorem keep_none (h : ∀ k (hk : k < ps.length), ¬ p ps[k]) : (ps.filter fun x => !decide (p x)) = ps := by
  refine List.filter_eq_self.2 fun x hx => ?_
  obtain ⟨k, hk, rfl⟩ := List.getElem_of_mem hx
  simp [h k hk]
end
end Go.Vc

namespace Go.Vc

section
variable {cl : List (List Int)} {left : List Int} {n j m : Nat}
end
section
variable {p : B3 → Prop} [DecidablePred p] {bs : List B3} {i : Nat}
end


end Go.Vc

namespace Go.Vc

theorem blt_no {a b : Nat} (h : ¬ a < b) : Nat.blt a b = false := by
  cases hh : Nat.blt a b with
  | false => rfl
  | true => rw [Nat.blt_eq] at hh; exact absurd hh h
def prI (a b : Nat) : Nat := min a b * 16 + max a b
def usd (m a b : Nat) : Bool := m.testBit (prI a b)
def putM (m a b c : Nat) : Nat := m ||| 2 ^ prI a b ||| 2 ^ prI a c ||| 2 ^ prI b c
def rowN (v m a : Nat) : Option Nat := (List.range v).find? fun b => Nat.blt a b && !usd m a b
def nextM (v m : Nat) : Option (Nat × Nat) := (List.range v).findSome? fun a => (rowN v m a).map fun b => (a, b)
def may (m a b c : Nat) : Bool := Nat.blt b c && !usd m a c && !usd m b c
def b3N (a b c : Nat) : B3 := ((a : Int), (b : Int), (c : Int))
def compM : Nat → Nat → Nat → List (List B3)
  | 0, v, m => match nextM v m with
    | none => [[]]
    | some _ => []
  | n + 1, v, m => match nextM v m with
    | none => [[]]
    | some (a, b) => (List.range v).flatMap fun c => if may m a b c then (compM n v (putM m a b c)).map (b3N a b c :: ·) else []
section
variable {v m a b c n : Nat}
structure IsNext (v m a b : Nat) : Prop where
  ab : a < b
  bv : b < v
  left : usd m a b = false
  row : ∀ y, a < y → y < b → usd m a y = true
  rows : ∀ x y, x < a → x < y → y < v → usd m x y = true
theorem rowN_none (h : ∀ y, a < y → y < v → usd m a y = true) : rowN v m a = none := by
  unfold rowN
  rw [List.find?_eq_none]
  intro y hy
  have := List.mem_range.1 hy
  simp only [Bool.and_eq_true, Nat.blt_eq, Bool.not_eq_true', not_and, Bool.not_eq_false]
  exact fun h1 => h y h1 this
theorem rowN_some (h1 : a < b) (h2 : b < v) (h3 : usd m a b = false) (h4 : ∀ y, a < y → y < b → usd m a y = true) : rowN v m a = some b := by
  unfold rowN
  rw [List.find?_range_eq_some]
  refine ⟨by simp [h1, h3], List.mem_range.2 h2, fun y hy => ?_⟩
  by_cases e : a < y
  · simp [h4 y e hy]
  · simp [blt_no e]
theorem nextM_none (h : ∀ x y, x < y → y < v → usd m x y = true) : nextM v m = none := by
  unfold nextM
  rw [List.findSome?_eq_none_iff]
  intro x hx
  rw [rowN_none (fun y h1 h2 => h x y h1 h2)]
  rfl
theorem findSome_range {α : Type} {f : Nat → Option α} {n k : Nat} {r : α} (hk : k < n) (hr : f k = some r) (hn : ∀ j, j < k → f j = none) : (List.range n).findSome? f = some r := by
  have e : List.range n = List.range k ++ k :: (List.range (n - k - 1)).map (k + 1 + ·) := by
    have h1 : n = k + (1 + (n - k - 1)) := by omega
    conv => lhs; rw [h1]
    rw [List.range_add, List.range_add]
    simp [List.range_succ, Nat.add_assoc, Nat.add_comm, Nat.add_left_comm]
  rw [e, List.findSome?_append]
  have h2 : (List.range k).findSome? f = none := by
    rw [List.findSome?_eq_none_iff]
    exact fun x hx => hn x (List.mem_range.1 hx)
  rw [h2]
  simp [hr]
theorem nextM_some (h : IsNext v m a b) : nextM v m = some (a, b) := by
  unfold nextM
  refine findSome_range (k := a) (Nat.lt_trans h.ab h.bv) ?_ ?_
  · rw [rowN_some h.ab h.bv h.left h.row]
    rfl
  · intro x hx
    rw [rowN_none (fun y h1 h2 => h.rows x y hx h1 h2)]
    rfl

theorem prI_comm (a b : Nat) : prI a b = prI b a := by unfold prI; rw [Nat.min_comm, Nat.max_comm]
theorem prI_inj {x y : Nat} (ha : a < 16) (hb : b < 16) (hx : x < 16) (hy : y < 16) (h : prI a b = prI x y) : (a = x ∧ b = y) ∨ (a = y ∧ b = x) := by
  unfold prI at h
  omega
theorem usd_put {x y : Nat} (ha : a < 16) (hb : b < 16) (hc : c < 16) (hx : x < 16) (hy : y < 16) : usd (putM m a b c) x y = true ↔ usd m x y = true ∨ ((x = a ∧ y = b) ∨ (x = b ∧ y = a)) ∨ ((x = a ∧ y = c) ∨ (x = c ∧ y = a)) ∨ ((x = b ∧ y = c) ∨ (x = c ∧ y = b)) := by
  unfold usd putM
  simp only [Nat.testBit_or, Nat.testBit_two_pow, Bool.or_eq_true, decide_eq_true_eq]
  have h1 : prI a b = prI x y ↔ (x = a ∧ y = b) ∨ (x = b ∧ y = a) := ⟨fun h => by have := prI_inj ha hb hx hy h; omega, by rintro (⟨rfl, rfl⟩ | ⟨rfl, rfl⟩); rfl; exact prI_comm _ _⟩
  have h2 : prI a c = prI x y ↔ (x = a ∧ y = c) ∨ (x = c ∧ y = a) := ⟨fun h => by have := prI_inj ha hc hx hy h; omega, by rintro (⟨rfl, rfl⟩ | ⟨rfl, rfl⟩); rfl; exact prI_comm _ _⟩
  have h3 : prI b c = prI x y ↔ (x = b ∧ y = c) ∨ (x = c ∧ y = b) := ⟨fun h => by have := prI_inj hb hc hx hy h; omega, by rintro (⟨rfl, rfl⟩ | ⟨rfl, rfl⟩); rfl; exact prI_comm _ _⟩
  rw [h1, h2, h3]
  simp only [or_assoc]
end
end Go.Vc

namespace Go.Vc
section
variable {v m a b c n : Nat} {G : Int → Int → Int}
def Rel (v : Nat) (G : Int → Int → Int) (m : Nat) : Prop := ∀ x y : Nat, x < v → y < v → x ≠ y → (G x y = -1 ↔ usd m x y = false)
theorem b3N_three (h1 : a < b) (h2 : b < c) : three (b3N a b c) := by unfold three b3N; simp only; omega
theorem has_b3N {x : Nat} : has (b3N a b c) x ↔ x = a ∨ x = b ∨ x = c := by
  unfold has b3N
  simp only
  omega
theorem usd_putN {x y : Nat} (ha : a < b) (hb : b < c) (hc : c < 16) (hx : x < 16) (hy : y < 16) (hne : x ≠ y) : usd (putM m a b c) x y = false ↔ usd m x y = false ∧ ¬ (has (b3N a b c) x ∧ has (b3N a b c) y) := by
  have h := usd_put (m := m) (a := a) (b := b) (c := c) (by omega) (by omega) hc hx hy
  rw [has_b3N, has_b3N]
  constructor
  · intro h1
    have h2 : ¬ (usd (putM m a b c) x y = true) := by rw [h1]; decide
    rw [h] at h2
    refine ⟨?_, ?_⟩
    · cases hm : usd m x y with
      | false => rfl
      | true => exact absurd (.inl hm) h2
    · omega
  · rintro ⟨h1, h2⟩
    cases hm : usd (putM m a b c) x y with
    | false => rfl
    | true =>
      have h3 := h.1 hm
      rw [h1] at h3
      rcases h3 with h3 | h3
      · exact absurd h3 (by decide)
      · omega

variable {α β : Type}
variable {cont : Nat → Bool} {k : Nat}
end
end Go.Vc

namespace Go.Vc
open Go Go.RowKit
section
variable {P : Program} {N : Nat} {w0 : World} {Q : Exit → Act → World → Prop} {σ σ' : Sig} {H H' Hs Hs' : List Assn} {ops : Array Oper}
def coverB (ops : Array Oper) (done free : List Nat) (o : Oper) : Bool := done.all fun i => (afters o).contains i || free.contains i
theorem D.effX (hwf : wfB ops = true) {effs done : List Nat} {e : Nat} {o : Oper} {K : Value → List Assn → Prop} (ho : ops[e]? = some o) (hne' : (done.contains e || !strictB ops e) = false) (hcl : closedB ops done e = true) (hg : o.guard = none)
    (hp : Ef P w0 o σ H Q K) (hd : o.dst = none) (free : List Nat) (hfree : coverB ops done free o = true) (hfreeD : ∀ i ∈ free, ∃ d v, look σ d = some v ∧ Nat.blt d N = true ∧ Det P w0 ops Q i σ Hs' d v)
    (h : ∀ v H', K v H' → (∀ w, St w0 H' w → St w0 Hs' w) ∧ D P N w0 ops Q (e :: afters o) (e :: done) σ Hs' H') : D P N w0 ops Q effs done σ Hs H := by
  have hne := (new_of hne').1
  have hcov : ∀ i ∈ done, i ∈ afters o ∨ i ∈ free := by
    intro i hi
    have := List.all_eq_true.1 hfree i hi
    simpa using this
  intro fuel
  induction fuel with
  | zero =>
    intro L a w hI hf
    exfalso
    have hel : e < L.size := by rw [hI.size]; exact (Array.getElem?_eq_some_iff.1 ho).1
    cases hv : L[e] with
    | true =>
      have := hI.listed e (by rw [Array.getElem?_eq_getElem hel, hv])
      simp [this] at hne
    | false =>
      have hmem : false ∈ L.toList := by
        rw [← hv]
        simp
      have : 0 < L.toList.countP (fun b => !b) := List.countP_pos_iff.2 ⟨false, hmem, rfl⟩
      omega
  | succ fuel ih =>
    intro L a w hI hf
    have hel : e < L.size := by rw [hI.size]; exact (Array.getElem?_eq_some_iff.1 ho).1
    have hLe : L[e]? = some false := by
      rw [Array.getElem?_eq_getElem hel]
      cases hv : L[e] with
      | true =>
        have := hI.listed e (by rw [Array.getElem?_eq_getElem hel, hv])
        simp [this] at hne
      | false => rfl
    refine ⟨fun hr => ?_, fun i hi => ?_⟩
    · obtain ⟨j, hj⟩ := pending_ready hwf hI.size (e + 1) e (by omega) hLe
      rw [hr] at hj
      simp at hj
    · obtain ⟨hLi, oi, hoi, hall⟩ := (mem_ready hI.size).1 hi
      by_cases hid : i ∈ done
      · rcases hI.dets i hid with he | ⟨d, v, σ1, ⟨o', ho', hod, hdet⟩, hv, hsub, hdN⟩
        · have := hI.effs_ i he
          rw [hLi] at this
          cases this
        · rw [hoi] at ho'
          cases ho'
          have hag := hI.agree hwf hi hoi
          refine hdet w (hI.sub w hI.st) a _ (fun t ht u hu => hag t ht u (hsub t u hu)) ?_
          exact ih _ _ _ (hI.step_det hwf hoi hod hLi hv hdN hid (hI.clos.set hI.size hi)) (count_set hLi hf)
      · by_cases hie : i = e
        · subst hie
          obtain rfl : o = oi := by rw [ho] at hoi; exact Option.some.inj hoi
          have hag := hI.agree hwf hi ho
          have hlst : ∀ j ∈ afters o, L[j]? = some true := fun j hj => ready_after hI.size hi ho hj
          unfold wpOp
          rw [ho]
          simp only
          rw [if_pos (wanted_none hg _)]
          refine .inl (Oper.wp_mono ?_ (hp w hI.st a ?_))
          · rintro a' w' ⟨v, H', rfl, hw', hK⟩
            obtain ⟨hs', hD⟩ := h v H' hK
            have ha : a.put o.dst v = a := by rw [hd]; rfl
            rw [ha]
            refine hD _ _ _ _ ⟨by simpa using hI.size, hw', hI.defers, hI.tmps, ?_, ?_, ?_, ?_, hs', fun j hj => by rcases List.mem_cons.1 hj with e1 | e1; (· exact e1 ▸ (new_of hne').2); (· exact hI.strict j e1), hI.clos.set hI.size hi⟩ (count_set hLi hf)
            · intro j hj
              rw [set_some hel] at hj
              by_cases e1 : j = i
              · simp [e1]
              · rw [if_neg e1] at hj
                exact List.mem_cons_of_mem _ (hI.listed j hj)
            · intro j hj
              rw [set_some hel]
              split
              · rfl
              · rename_i e1
                rcases List.mem_cons.1 hj with e2 | e2
                · exact absurd e2 e1
                · exact hlst j e2
            · intro t u hu
              rcases hI.slots t u hu with h1 | ⟨j, q, hj, hLj, hq, hqd⟩
              · exact .inl h1
              · refine .inr ⟨j, q, List.mem_cons_of_mem _ hj, ?_, hq, hqd⟩
                rw [set_some hel, if_neg]
                · exact hLj
                · rintro rfl
                  exact hid hj
            · intro j hj
              rcases List.mem_cons.1 hj with e1 | e1
              · exact .inl (by simp [e1])
              · rcases hcov j e1 with h1 | h1
                · exact .inl (List.mem_cons_of_mem _ h1)
                · obtain ⟨d, v1, hv1, hdN, hdet⟩ := hfreeD j h1
                  exact .inr ⟨d, v1, σ, hdet, hv1, fun t u hu => hu, hdN⟩
          · intro x hx u hu
            cases x with
            | tmp t =>
              have ht : t ∈ reads ops o := by
                unfold reads
                exact List.mem_append.2 (.inl (List.mem_filterMap.2 ⟨.tmp t, by simpa using hx, rfl⟩))
              have := hag t ht u hu
              simp [Act.eval, this]
            | const c => simpa [ev, Act.eval] using hu
            | global g => simpa [ev, Act.eval] using hu
            | func g => simpa [ev, Act.eval] using hu
        · exfalso
          have hc := List.all_eq_true.1 hcl i (List.mem_range.2 (by have := (Array.getElem?_eq_some_iff.1 hoi).1; exact this))
          simp only [hoi, Bool.or_eq_true] at hc
          rcases hc with (hc | hc) | hc
          · exact hid (by simpa using hc)
          · exact hie (Nat.eq_of_beq_eq_true hc)
          · obtain ⟨j, hj, hjd⟩ := List.any_eq_true.1 hc
            have := hI.listed j (ready_after hI.size hi hoi hj)
            simp [this] at hjd
theorem Det.of {i d : Nat} {v : Value} {o : Oper} (ho : ops[i]? = some o) (hg : o.guard = none) (hd : o.dst = some d) (hp : Pu P w0 o σ Hs v) : Det P w0 ops Q i σ Hs d v := by
  refine ⟨o, ho, hd, fun w hw a K hag hK => ?_⟩
  unfold wpOp
  rw [ho]
  simp only
  rw [if_pos (wanted_none hg _)]
  refine .inl (upon_ok (hp w hw a ?_) ?_)
  · intro x hx u hu
    cases x with
    | tmp t =>
      have ht : t ∈ reads ops o := by
        unfold reads
        exact List.mem_append.2 (.inl (List.mem_filterMap.2 ⟨.tmp t, by simpa using hx, rfl⟩))
      have := hag t ht u hu
      simp [Act.eval, this]
    | const c => simpa [ev, Act.eval] using hu
    | global g => simpa [ev, Act.eval] using hu
    | func g => simpa [ev, Act.eval] using hu
  · rw [hd]
    exact hK
end
end Go.Vc

namespace Go.Vc
open Go Go.RowKit
def pqB (N : Nat) (o : Oper) : Option Tmp :=
  match o.guard with
  | none => match o.dst with
    | some d => match Nat.blt d N with | true => some d | false => none
    | none => none
  | some _ => none
theorem pqB_ok {N : Nat} {o : Oper} {d : Tmp} (h : pqB N o = some d) : o.guard = none ∧ o.dst = some d ∧ Nat.blt d N = true := by
  unfold pqB at h
  split at h
  · split at h
    · split at h
      · cases h; exact ⟨by assumption, by assumption, by assumption⟩
      · cases h
    · cases h
  · cases h
def mvV (σ : Sig) (o : Op) : Option Value :=
  match o with
  | .move x => ev σ x
  | .assign x => ev σ x
  | .nilCheck x => match ev σ x with | some (.pointer (some q)) => some (.pointer (some q)) | _ => none
  | .extract x i => match ev σ x with | some (.tuple vs) => vs[i]? | _ => none
  | .pick c x y => match ev σ c with | some (.bool true) => ev σ x | some (.bool false) => ev σ y | _ => none
  | _ => none
theorem mvV_ok {P : Program} {w0 : World} {o : Oper} {σ : Sig} {H : List Assn} {v : Value} (h : mvV σ o.op = some v) : Pu P w0 o σ H v := by
  unfold mvV at h
  split at h
  · exact Pu.move (by assumption) h
  · exact Pu.assign (by assumption) h
  · split at h
    · cases h; exact Pu.nilCheck (by assumption) (by assumption)
    · cases h
  · split at h
    · exact Pu.extract (by assumption) (by assumption) h
    · cases h
  · split at h
    · exact Pu.pickT (by assumption) (by assumption) h
    · exact Pu.pickF (by assumption) (by assumption) h
    · cases h
  · cases h
section
variable {P : Program} {N : Nat} {w0 : World} {Q : Exit → Act → World → Prop} {σ σ' : Sig} {H H' Hs : List Assn} {ops : Array Oper} {rest : List Oper} {o : Oper}
theorem Sub.k {H1 H2 : List Assn} {A : Assn} (h : Sub H1 H2) : Sub (A :: H1) (A :: H2) := Sub.keep 0 rfl h
def mqB (σ : Sig) (N : Nat) (o : Oper) : Option (Tmp × Value) :=
  match pqB N o with
  | some d => match mvV σ o.op with | some v => some (d, v) | none => none
  | none => none
theorem mqB_ok {d : Tmp} {v : Value} (h : mqB σ N o = some (d, v)) : pqB N o = some d ∧ mvV σ o.op = some v := by
  unfold mqB at h
  split at h
  · split at h
    · cases h; exact ⟨by assumption, by assumption⟩
    · cases h
  · cases h
theorem O.q {d : Tmp} {v : Value} (h1 : pqB N o = some d) (hp : Pu P w0 o σ H v) (h : O P N w0 ops Q rest ((d, v) :: σ) H) : O P N w0 ops Q (o :: rest) σ H :=
  let h2 := pqB_ok h1; O.p h2.1 h2.2.1 h2.2.2 hp h
theorem O.f {d : Tmp} {K : Value → List Assn → Prop} (h1 : pqB N o = some d) (hp : Ef P w0 o σ H Q K) (h : ∀ v H', K v H' → O P N w0 ops Q rest ((d, v) :: σ) H') : O P N w0 ops Q (o :: rest) σ H :=
  let h2 := pqB_ok h1; O.e h2.1 h2.2.1 h2.2.2 hp h
theorem O.m {d : Tmp} {v : Value} (h1 : mqB σ N o = some (d, v)) (h : O P N w0 ops Q rest ((d, v) :: σ) H) : O P N w0 ops Q (o :: rest) σ H :=
  let h2 := mqB_ok h1; O.q h2.1 (mvV_ok h2.2) h
def gqB (ops : Array Oper) (σ : Sig) (N : Nat) (o : Oper) : Option Tmp :=
  match o.guard with
  | some (j, b) => match (ops[j]?).bind (·.dst) with
    | some t => match look σ t with
      | some (.bool c) => match Bool.xor c b with
        | false => match o.dst with
          | some d => match Nat.blt d N with | true => some d | false => none
          | none => none
        | true => none
      | _ => none
    | none => none
  | none => none
theorem xor_look {c b : Bool} {t : Nat} (h : Bool.xor c b = false) (hl : look σ t = some (.bool c)) : look σ t = some (.bool b) := by
  have : c = b := by revert h; cases c <;> cases b <;> decide
  rw [← this]; exact hl
theorem gqB_ok {d : Tmp} (h : gqB ops σ N o = some d) : ∃ j b t, o.guard = some (j, b) ∧ (ops[j]?).bind (·.dst) = some t ∧ look σ t = some (.bool b) ∧ o.dst = some d ∧ Nat.blt d N = true := by
  unfold gqB at h
  split at h
  · split at h
    · split at h
      · split at h
        · split at h
          · split at h
            · cases h
              exact ⟨_, _, _, by assumption, by assumption, xor_look (by assumption) (by assumption), by assumption, by assumption⟩
            · cases h
          · cases h
        · cases h
      · cases h
    · cases h
  · cases h
theorem O.gq {d : Tmp} {v : Value} (h1 : gqB ops σ N o = some d) (hp : Pu P w0 o σ H v) (h : O P N w0 ops Q rest ((d, v) :: σ) H) : O P N w0 ops Q (o :: rest) σ H := by
  obtain ⟨j, b, t, a1, a2, a3, a4, a5⟩ := gqB_ok h1
  exact O.gp a1 a2 a3 a4 a5 hp h
theorem O.gf {d : Tmp} {K : Value → List Assn → Prop} (h1 : gqB ops σ N o = some d) (hp : Ef P w0 o σ H Q K) (h : ∀ v H', K v H' → O P N w0 ops Q rest ((d, v) :: σ) H') : O P N w0 ops Q (o :: rest) σ H := by
  obtain ⟨j, b, t, a1, a2, a3, a4, a5⟩ := gqB_ok h1
  exact O.ge a1 a2 a3 a4 a5 hp h
def gmqB (ops : Array Oper) (σ : Sig) (N : Nat) (o : Oper) : Option (Tmp × Value) :=
  match gqB ops σ N o with
  | some d => match mvV σ o.op with | some v => some (d, v) | none => none
  | none => none
theorem gmqB_ok {d : Tmp} {v : Value} (h : gmqB ops σ N o = some (d, v)) : gqB ops σ N o = some d ∧ mvV σ o.op = some v := by
  unfold gmqB at h
  split at h
  · split at h
    · cases h; exact ⟨by assumption, by assumption⟩
    · cases h
  · cases h
theorem O.gm {d : Tmp} {v : Value} (h1 : gmqB ops σ N o = some (d, v)) (h : O P N w0 ops Q rest ((d, v) :: σ) H) : O P N w0 ops Q (o :: rest) σ H :=
  let h2 := gmqB_ok h1; O.gq h2.1 (mvV_ok h2.2) h
def sqB (ops : Array Oper) (σ : Sig) (N : Nat) (o : Oper) : Option Tmp :=
  match o.guard with
  | some (j, b) => match (ops[j]?).bind (·.dst) with
    | some t => match look σ t with
      | some u => match skipB b u with
        | true => match o.dst with
          | some d => match Nat.blt d N with | true => some d | false => none
          | none => none
        | false => none
      | none => none
    | none => none
  | none => none
theorem sqB_ok {d : Tmp} (h : sqB ops σ N o = some d) : ∃ j b t u, o.guard = some (j, b) ∧ (ops[j]?).bind (·.dst) = some t ∧ look σ t = some u ∧ skipB b u = true ∧ o.dst = some d ∧ Nat.blt d N = true := by
  unfold sqB at h
  split at h
  · split at h
    · split at h
      · split at h
        · split at h
          · split at h
            · cases h
              exact ⟨_, _, _, _, by assumption, by assumption, by assumption, by assumption, by assumption, by assumption⟩
            · cases h
          · cases h
        · cases h
      · cases h
    · cases h
  · cases h
theorem O.g {d : Tmp} (h1 : sqB ops σ N o = some d) (h : O P N w0 ops Q rest ((d, undef) :: σ) H) : O P N w0 ops Q (o :: rest) σ H := by
  obtain ⟨j, b, t, u, a1, a2, a3, a4, a5, a6⟩ := sqB_ok h1
  exact O.gs a1 a2 a3 a4 a5 a6 h

def nqB (ops : Array Oper) (done : List Nat) (i : Nat) : Option Oper :=
  match (done.contains i || !strictB ops i) with
  | false => ops[i]?
  | true => none
theorem nqB_ok {done : List Nat} {i : Nat} (h : nqB ops done i = some o) : ops[i]? = some o ∧ (done.contains i || !strictB ops i) = false := by
  unfold nqB at h
  split at h
  · exact ⟨h, by assumption⟩
  · cases h
def fqB (σ : Sig) (d : Option Tmp) : Option Tmp :=
  match d with
  | some d => match look σ d with | none => some d | some _ => none
  | none => none
theorem fqB_ok {x : Option Tmp} {d : Tmp} (h : fqB σ x = some d) : x = some d ∧ (look σ d).isNone = true := by
  unfold fqB at h
  split at h
  · split at h
    · rename_i h2; cases h; exact ⟨rfl, by rw [h2]; rfl⟩
    · cases h
  · cases h
def dqB (ops : Array Oper) (done : List Nat) (σ : Sig) (N : Nat) (i : Nat) : Option (Oper × Tmp) :=
  match nqB ops done i with
  | some o => match pqB N o with
    | some d => match fqB σ (some d) with | some _ => some (o, d) | none => none
    | none => none
  | none => none
theorem dqB_ok {done : List Nat} {i : Nat} {d : Tmp} (h : dqB ops done σ N i = some (o, d)) : nqB ops done i = some o ∧ pqB N o = some d ∧ (look σ d).isNone = true := by
  unfold dqB at h
  split at h
  · split at h
    · split at h
      · rename_i hf; cases h; have := fqB_ok hf; exact ⟨by assumption, by assumption, by rw [Option.some.inj this.1]; exact this.2⟩
      · cases h
    · cases h
  · cases h
theorem D.q {effs done : List Nat} {d : Tmp} {v : Value} (i : Nat) (h1 : dqB ops done σ N i = some (o, d)) (hp : Pu P w0 o σ Hs v) (h : D P N w0 ops Q effs (i :: done) ((d, v) :: σ) Hs H) : D P N w0 ops Q effs done σ Hs H := by
  obtain ⟨a1, a2, a3⟩ := dqB_ok h1
  obtain ⟨b1, b2⟩ := nqB_ok a1
  obtain ⟨c1, c2, c3⟩ := pqB_ok a2
  exact D.p i b1 b2 c1 c2 a3 c3 hp h
def dmqB (ops : Array Oper) (done : List Nat) (σ : Sig) (N : Nat) (i : Nat) : Option (Tmp × Value) :=
  match dqB ops done σ N i with
  | some (o, d) => match mvV σ o.op with | some v => some (d, v) | none => none
  | none => none
theorem D.m {effs done : List Nat} {d : Tmp} {v : Value} (i : Nat) (h1 : dmqB ops done σ N i = some (d, v)) (h : D P N w0 ops Q effs (i :: done) ((d, v) :: σ) Hs H) : D P N w0 ops Q effs done σ Hs H := by
  unfold dmqB at h1
  split at h1
  · split at h1
    · cases h1; exact D.q i (by assumption) (mvV_ok (by assumption)) h
    · cases h1
  · cases h1
def dgqB (ops : Array Oper) (done : List Nat) (σ : Sig) (N : Nat) (i : Nat) : Option (Oper × Tmp) :=
  match nqB ops done i with
  | some o => match gqB ops σ N o with
    | some d => match fqB σ (some d) with | some _ => some (o, d) | none => none
    | none => none
  | none => none
theorem dgqB_ok {done : List Nat} {i : Nat} {d : Tmp} (h : dgqB ops done σ N i = some (o, d)) : nqB ops done i = some o ∧ gqB ops σ N o = some d ∧ (look σ d).isNone = true := by
  unfold dgqB at h
  split at h
  · split at h
    · split at h
      · rename_i hf; cases h; have := fqB_ok hf; exact ⟨by assumption, by assumption, by rw [Option.some.inj this.1]; exact this.2⟩
      · cases h
    · cases h
  · cases h
theorem D.gq {effs done : List Nat} {d : Tmp} {v : Value} (i : Nat) (h1 : dgqB ops done σ N i = some (o, d)) (hp : Pu P w0 o σ Hs v) (h : D P N w0 ops Q effs (i :: done) ((d, v) :: σ) Hs H) : D P N w0 ops Q effs done σ Hs H := by
  obtain ⟨a1, a2, a3⟩ := dgqB_ok h1
  obtain ⟨b1, b2⟩ := nqB_ok a1
  obtain ⟨j, b, t, e1, e2, e3, e4, e5⟩ := gqB_ok a2
  exact D.gp i b1 b2 e1 e2 e3 e4 a3 e5 hp h
def dgmqB (ops : Array Oper) (done : List Nat) (σ : Sig) (N : Nat) (i : Nat) : Option (Tmp × Value) :=
  match dgqB ops done σ N i with
  | some (o, d) => match mvV σ o.op with | some v => some (d, v) | none => none
  | none => none
theorem D.gm {effs done : List Nat} {d : Tmp} {v : Value} (i : Nat) (h1 : dgmqB ops done σ N i = some (d, v)) (h : D P N w0 ops Q effs (i :: done) ((d, v) :: σ) Hs H) : D P N w0 ops Q effs done σ Hs H := by
  unfold dgmqB at h1
  split at h1
  · split at h1
    · cases h1; exact D.gq i (by assumption) (mvV_ok (by assumption)) h
    · cases h1
  · cases h1
def dsqB (ops : Array Oper) (done : List Nat) (σ : Sig) (N : Nat) (i : Nat) : Option Tmp :=
  match nqB ops done i with
  | some o => match sqB ops σ N o with
    | some d => fqB σ (some d)
    | none => none
  | none => none
theorem D.g {effs done : List Nat} {d : Tmp} (i : Nat) (h1 : dsqB ops done σ N i = some d) (h : D P N w0 ops Q effs (i :: done) ((d, undef) :: σ) Hs H) : D P N w0 ops Q effs done σ Hs H := by
  unfold dsqB at h1
  split at h1
  · rename_i a1
    split at h1
    · rename_i a2
      obtain ⟨b1, b2⟩ := nqB_ok a1
      obtain ⟨j, b, t, u, e1, e2, e3, e4, e5, e6⟩ := sqB_ok a2
      have := fqB_ok h1
      cases this.1
      exact D.gs i b1 b2 e1 e2 e3 e4 e5 this.2 e6 h
    · cases h1
  · cases h1
def efB (ops : Array Oper) (done : List Nat) (σ : Sig) (N : Nat) (e : Nat) : Option (Oper × Option Tmp) :=
  match nqB ops done e with
  | some o => match closedB ops done e with
    | true => match o.guard with
      | none => match o.dst with
        | none => some (o, none)
        | some d => match Nat.blt d N with
          | true => match look σ d with
            | none => some (o, some d)
            | some _ => none
          | false => none
      | some _ => none
    | false => none
  | none => none
theorem efB_ok {done : List Nat} {e : Nat} {d : Option Tmp} (h : efB ops done σ N e = some (o, d)) : nqB ops done e = some o ∧ closedB ops done e = true ∧ o.guard = none ∧ o.dst = d ∧ dstOk d N = true ∧ freshB d σ = true := by
  unfold efB at h
  split at h
  · split at h
    · split at h
      · split at h
        · cases h; exact ⟨by assumption, by assumption, by assumption, by assumption, rfl, rfl⟩
        · split at h
          · split at h
            · rename_i hl; cases h; exact ⟨by assumption, by assumption, by assumption, by assumption, by assumption, by unfold freshB; simp only [hl]; rfl⟩
            · cases h
          · cases h
      · cases h
    · cases h
  · cases h
theorem D.f (hwf : wfB ops = true) {effs done : List Nat} {K : Value → List Assn → Prop} {d : Option Tmp} (e : Nat) (h1 : efB ops done σ N e = some (o, d)) (hp : Ef P w0 o σ H Q K)
    (h : ∀ v H', K v H' → (∀ w, St w0 H w → St w0 Hs w) → (∀ w, St w0 H' w → St w0 Hs w) ∧ D P N w0 ops Q (e :: effs) (e :: done) (push d v σ) Hs H') : D P N w0 ops Q effs done σ Hs H := by
  obtain ⟨a1, a2, a3, a4, a5, a6⟩ := efB_ok h1
  obtain ⟨b1, b2⟩ := nqB_ok a1
  exact D.eff hwf b1 b2 a2 a3 hp a4 a5 a6 h
end
end Go.Vc

namespace Go.Vc
open Go Go.RowKit
def selN : List Nat → List Assn → Option (List Assn)
  | [], _ => some []
  | i :: is, H => match pull i H with
    | some (A, H1) => match selN is H1 with
      | some K => some (A :: K)
      | none => none
    | none => none
def drpS : Nat → List Assn → Option (List Assn)
  | 0, H => some H
  | _ + 1, [] => none
  | k + 1, _ :: H => drpS k H
def selT : List Nat → Nat → List Assn → Option (List Assn)
  | [], k, H => drpS k H
  | i :: is, k, H => match pull i H with
    | some (A, H1) => match selT is k H1 with
      | some K => some (A :: K)
      | none => none
    | none => none
theorem Sub.s : ∀ (is : List Nat) {H K : List Assn}, selN is H = some K → Sub H K
  | [], H, K, h => by cases h; exact Sub.nil _
  | i :: is, H, K, h => by
    unfold selN at h
    split at h
    · split at h
      · cases h; exact Sub.keep i (by assumption) (Sub.s is (by assumption))
      · cases h
    · cases h
theorem drpS_ok : ∀ (k : Nat) {H K : List Assn}, drpS k H = some K → Sub H K
  | 0, H, K, h => by cases h; exact Sub.refl _
  | k + 1, [], K, h => by cases h
  | k + 1, _ :: H, K, h => Sub.drop (drpS_ok k h)
theorem Sub.t : ∀ (is : List Nat) (k : Nat) {H K : List Assn}, selT is k H = some K → Sub H K
  | [], k, H, K, h => drpS_ok k h
  | i :: is, k, H, K, h => by
    unfold selT at h
    split at h
    · split at h
      · cases h; exact Sub.keep i (by assumption) (Sub.t is k (by assumption))
      · cases h
    · cases h
section
variable {P : Program} {N : Nat} {w0 : World} {Q : Exit → Act → World → Prop} {σ σ' : Sig} {H H' Hs : List Assn} {ops ops2 : Array Oper} {rest : List Oper} {o : Oper} {x y z u : Code} {i j k : Nat}
theorem Za (h : O P N w0 ops (Exit.then (fun a w => y.wp P Q a w) Q) ops.toList σ H) : V P N w0 (.seq (.region i ops false) y) Q σ H := V.seq (V.region h)
theorem Zj (h : O P N w0 ops (Exit.then (fun a w => y.wp P (Exit.then (fun a w => z.wp P Q a w) Q) a w) (Exit.then (fun a w => z.wp P Q a w) Q)) ops.toList σ H) : V P N w0 (.seq (.seq (.region i ops false) y) z) Q σ H := V.seq (V.seq (V.region h))
theorem Zf (h : V P N w0 y Q σ H) : O P N w0 ops (Exit.then (fun a w => y.wp P Q a w) Q) [] σ H := O.nil (X.next h)
theorem Zb (h : O P N w0 ops (Exit.then (fun a w => y.wp P Q a w) Q) ops.toList σ H) : O P N w0 ops2 (Exit.then (fun a w => (Code.seq (.region i ops false) y).wp P Q a w) Q) [] σ H := O.nil (X.next (V.seq (V.region h)))
theorem Zc (h : O P N w0 ops (Exit.then (fun a w => y.wp P (Exit.then (fun a w => z.wp P Q a w) Q) a w) (Exit.then (fun a w => z.wp P Q a w) Q)) ops.toList σ H) : O P N w0 ops2 (Exit.then (fun a w => (Code.seq (.seq (.region i ops false) y) z).wp P Q a w) Q) [] σ H := O.nil (X.next (V.seq (V.seq (V.region h))))
theorem Ze (h : X N w0 Q .ret σ H) : O P N w0 ops (Exit.then (fun a w => Code.ret.wp P Q a w) Q) [] σ H := O.nil (X.next (V.ret h))
theorem Zi (h : V P N w0 x (Exit.inBlock i Q) σ H) : O P N w0 ops (Exit.then (fun a w => (Code.block i x).wp P Q a w) Q) [] σ H := O.nil (X.next (V.block h))
theorem Zg (h : O P N w0 ops Q ops.toList σ H) : V P N w0 .skip (Exit.inBlock j (Exit.then (fun a w => (Code.region i ops false).wp P Q a w) Q)) σ H := V.skip (X.blockNormal (X.next (V.region h)))
theorem Zk (h : O P N w0 ops Q ops.toList σ H) : O P N w0 ops2 (Exit.inBlock j (Exit.then (fun a w => (Code.region i ops false).wp P Q a w) Q)) [] σ H := O.nil (X.blockNormal (X.next (V.region h)))
theorem Zd {K K2 : Act → World → Prop} (h : O P N w0 ops (Exit.then (fun a w => y.wp P Q a w) Q) ops.toList σ H) : V P N w0 (.exit j) (Exit.then K (Exit.then K2 (Exit.inBlock j (Exit.then (fun a w => (Code.seq (.region i ops false) y).wp P Q a w) Q)))) σ H := V.exit (X.thenExit (X.thenExit (X.blockHit (X.next (V.seq (V.region h))))))
theorem Zh (h : O P N w0 ops (Exit.then (fun a w => y.wp P (Exit.inBlock j (Exit.then (fun a w => z.wp P Q a w) Q)) a w) (Exit.inBlock j (Exit.then (fun a w => z.wp P Q a w) Q))) ops.toList σ H) : V P N w0 .skip (Exit.then (fun a w => (Code.seq (.block j (.seq (.region i ops false) y)) z).wp P Q a w) Q) σ H := V.skip (X.next (V.seq (V.block (V.seq (V.region h)))))
end
abbrev Vr := @V.region
abbrev Xn := @X.next
abbrev On := @O.nil
abbrev Vs := @V.seq
abbrev Vt := @V.ret
abbrev Xb := @X.blockNormal
abbrev Xe := @X.thenExit
abbrev Xr := @X.thenRet
abbrev Vk := @V.skip
abbrev Vb := @V.block
abbrev Ve := @V.exit
abbrev Xh := @X.blockHit
abbrev Xq := @X.blockRet
end Go.Vc

namespace Go.Vc
open Go Go.RowKit
section
variable {P : Program} {N : Nat} {w0 : World} {Q : Exit → Act → World → Prop} {σ : Sig} {H H' : List Assn} {ops : Array Oper} {rest : List Oper}
def CompK (T eT gT : TypeId) (cb gb v : Nat) (f : Value) (E : List (List B3) → Assn) (m : Nat) (xs : List B3) (l : List (List B3)) : Assn :=
  .exi fun q : (Option Addr × Nat) × (Int → Int → Int) => .sep (.pur (Rel v q.2 m)) (.sep (Blk cb [.int .i64 (v : Int), .pointer (some ⟨gb, 0, none⟩), .slice q.1.1 xs.length q.1.2, f] T) (.sep (Grid gb q.2 gT) (.sep (Own eT B3C q.1.1 q.1.2 xs) (E l))))
variable {T eT gT : TypeId} {cb gb v m : Nat} {f : Value} {E : List (List B3) → Assn} {xs : List B3} {l : List (List B3)}
theorem CompK.mk {A : Option Addr} {k : Nat} {G : Int → Int → Int} (hr : Rel v G m) {w : World} (hw : St w0 (Blk cb [.int .i64 (v : Int), .pointer (some ⟨gb, 0, none⟩), .slice A xs.length k, f] T :: Grid gb G gT :: Own eT B3C A k xs :: E l :: H) w) : St w0 (CompK T eT gT cb gb v f E m xs l :: H) w := by
  refine St.mkExi ((A, k), G) (St.unsep (St.addPur hr ?_))
  have h1 : St w0 (Own eT B3C A k xs :: E l :: Grid gb G gT :: Blk cb [.int .i64 (v : Int), .pointer (some ⟨gb, 0, none⟩), .slice A xs.length k, f] T :: H) w := hw.sub (Sub.keep 2 rfl (Sub.keep 2 rfl (Sub.keep 1 rfl (Sub.keep 0 rfl (Sub.refl _)))))
  have h2 := (St.unsep h1).perm (List.Perm.swap _ _ _)
  have h3 := (St.unsep h2).perm (List.Perm.swap _ _ _)
  exact St.unsep h3
end
section
variable {v m a b c n p k M : Nat} {cont : Nat → Bool} {xs : List B3} {l : List (List B3)} {okL : List B3 → Prop}
end
end Go.Vc

namespace Go.Vc
open Go Go.RowKit
section
variable {P : Program} {N : Nat} {w0 : World} {Q : Exit → Act → World → Prop} {σ σ' : Sig} {H H' : List Assn} {ops : Array Oper} {o : Oper}
theorem parts_eval {a : Act} {parts : Array (Nat × Operand)} {vs : List Value} (h2 : (parts.toList.map (·.2)).map a.eval = vs) : (parts.map fun (i, x) => (i, a.eval x)).toList = (parts.toList.map (·.1)).zip vs := by
  rw [← h2, Array.toList_map]
  generalize parts.toList = l
  induction l with
  | nil => rfl
  | cons p l ih => simp [ih]
theorem Pu.buildA {T e n sz : Nat} {parts : Array (Nat × Operand)} {vs cs : List Value} {z v : Value} (hv : v = .agg cs.toArray) (ho : o.op = .build T parts) (hT : P.underlying T = some (.array n e)) (hz : Zr P T z) (hs : Sz P e sz)
    (hx : evs σ (parts.toList.map (·.2)) = some vs) (hf : Instr.fill (fun i => some (i * sz, sz)) z.cells ((parts.toList.map (·.1)).zip vs) = some cs.toArray) : Pu P w0 o σ H v := by
  subst hv
  intro w hw a ha
  have h2 := evs_map (a := a) (fun x hx v hv => ha x (by simpa [ho, Op.operands] using hx) v hv) hx
  have hp := parts_eval h2
  simp only [execOp, ho, Instr.build, Sem.run_bind, run_zr hz, Result.andThen_ok, run_underlying hT, run_sz hs, hp, hf, Sem.run_pure]
def szOf (P : Program) (t : Nat) : Nat := ((P.info? t).map (·.size)).getD 0
def placesOf (P : Program) (fs : List Field) : List (Nat × Nat) := fs.map fun f => (f.offset, szOf P f.type)
def knownB (P : Program) (fs : List Field) : Bool := fs.all fun f => (P.info? f.type).isSome
theorem run_mapM {α β : Type} {f : α → Sem β} {g : α → β} {w : World} (l : Array α) (h : ∀ x, x ∈ l → (f x).run P w = .ok (g x) w) : (l.mapM f).run P w = .ok (l.toList.map g).toArray w := by
  obtain ⟨l⟩ := l
  rw [List.mapM_toArray, map_eq_pure_bind]
  have key : ∀ l : List α, (∀ x, x ∈ l → (f x).run P w = .ok (g x) w) → (l.mapM f).run P w = .ok (l.map g) w := by
    intro l
    induction l with
    | nil => intro _; rfl
    | cons x l ih =>
      intro h
      rw [List.mapM_cons]
      simp only [Sem.run_bind, h x (by simp), Result.andThen_ok, ih (fun y hy => h y (by simp [hy])), Sem.run_pure, List.map_cons]
  simp only [Sem.run_bind, key l (fun x hx => h x (by simpa using hx)), Result.andThen_ok, Sem.run_pure]
theorem Pu.buildS {T : Nat} {fields : Array Field} {parts : Array (Nat × Operand)} {vs cs : List Value} {z v : Value} (hv : v = .agg cs.toArray) (ho : o.op = .build T parts) (hT : P.underlying T = some (.struct fields)) (hz : Zr P T z) (hk : knownB P fields.toList = true)
    (hx : evs σ (parts.toList.map (·.2)) = some vs) (hf : Instr.fill (fun i => (placesOf P fields.toList).toArray[i]?) z.cells ((parts.toList.map (·.1)).zip vs) = some cs.toArray) : Pu P w0 o σ H v := by
  subst hv
  intro w hw a ha
  have h2 := evs_map (a := a) (fun x hx v hv => ha x (by simpa [ho, Op.operands] using hx) v hv) hx
  have hp := parts_eval h2
  have hm := run_mapM (P := P) (w := w) (f := fun f : Field => (do pure (f.offset, ← sizeOf f.type) : Sem (Nat × Nat))) (g := fun f => (f.offset, szOf P f.type)) fields (fun x hx => by
    have h3 := List.all_eq_true.1 hk x (by simpa using hx)
    obtain ⟨i, hi⟩ := Option.isSome_iff_exists.1 h3
    have hs : Sz P x.type (szOf P x.type) := by unfold Sz szOf; rw [hi]; rfl
    simp only [Sem.run_bind, run_sz hs, Result.andThen_ok, Sem.run_pure])
  have hm' : (fields.mapM fun f => (do pure (f.offset, ← sizeOf f.type) : Sem (Nat × Nat))).run P w = .ok (placesOf P fields.toList).toArray w := hm
  simp only [execOp, ho, Instr.build, Sem.run_bind, run_zr hz, Result.andThen_ok, run_underlying hT, hm', hp, hf, Sem.run_pure]
end
end Go.Vc

namespace Go.Vc
open Go Go.RowKit
def SyC (v : Int) : Cod Sl := ⟨2, fun s => [.int .i64 v, s.v], by decide, fun _ => rfl, fun _ u hu => by simp at hu; rcases hu with rfl | rfl <;> rfl⟩
section
variable {P : Program} {N : Nat} {w0 w : World} {Q : Exit → Act → World → Prop} {σ : Sig} {H H' : List Assn} {ops : Array Oper} {rest : List Oper} {T : TypeId} {v : Int}
structure RdY (v : Int) (w : World) (A : Option Addr) (ps : List (Sl × List B3)) : Prop where
  top : Rd (SyC v) w A (tops ps)
  len : LenOk ps
  row : ∀ k (hk : k < ps.length), Rd B3C w (ps[k]).1.A (ps[k]).2
theorem RdY.st {A : Option Addr} {ps : List (Sl × List B3)} (h : RdY v w0 A ps) (hw : St w0 H w) : RdY v w A ps := ⟨h.top.st hw, h.len, fun k hk => (h.row k hk).st hw⟩
theorem RdY.below {A : Option Addr} {ps : List (Sl × List B3)} (h : RdY v w0 A ps) (hb : Bel w0.heap.size w0 w) : RdY v w A ps := ⟨h.top.below hb, h.len, fun k hk => (h.row k hk).below hb⟩
def SysE (sT bT lT iT : TypeId) (v : Int) (b0 b1 : Nat) (l : List (List B3)) : Assn :=
  .exi fun q : (Option Addr × Nat) × List (Sl × List B3) => .sep (.pur (conts q.2 = l)) (.sep (Blk b0 [.slice q.1.1 (tops q.2).length q.1.2] lT) (.sep (Blk b1 [.int .i64 v] iT) (.sep (Own sT (SyC v) q.1.1 q.1.2 (tops q.2)) (RowsA bT B3C q.2))))
variable {sT bT lT iT : TypeId} {b0 b1 : Nat} {l : List (List B3)}
theorem SysE.mk {A : Option Addr} {k : Nat} {ps : List (Sl × List B3)} (hl : conts ps = l) (hw : St w0 (Blk b0 [.slice A (tops ps).length k] lT :: Blk b1 [.int .i64 v] iT :: Own sT (SyC v) A k (tops ps) :: RowsA bT B3C ps :: H) w) : St w0 (SysE sT bT lT iT v b0 b1 l :: H) w := by
  refine St.mkExi ((A, k), ps) (St.unsep (St.addPur hl ?_))
  have h1 : St w0 (Own sT (SyC v) A k (tops ps) :: RowsA bT B3C ps :: Blk b1 [.int .i64 v] iT :: Blk b0 [.slice A (tops ps).length k] lT :: H) w := hw.sub (Sub.keep 2 rfl (Sub.keep 2 rfl (Sub.keep 1 rfl (Sub.keep 0 rfl (Sub.refl _)))))
  have h2 := (St.unsep h1).perm (List.Perm.swap _ _ _)
  have h3 := (St.unsep h2).perm (List.Perm.swap _ _ _)
  exact St.unsep h3
end
end Go.Vc

namespace Go.Vc
theorem lt_trans3 {a b c : B3} (h1 : B3.lt a b) (h2 : B3.lt b c) : B3.lt a c := by unfold B3.lt at *; omega
section
variable {v m a b c n : Nat}
theorem next_cases (v m : Nat) : (∀ x y, x < y → y < v → usd m x y = true) ∨ ∃ a b, IsNext v m a b := by
  have key : ∀ k, k ≤ v → (∀ x y, x < k → x < y → y < v → usd m x y = true) ∨ ∃ a b, IsNext v m a b := by
    intro k
    induction k with
    | zero => intro _; exact .inl (fun x y h => by omega)
    | succ k ih =>
      intro hk
      rcases ih (by omega) with h | h
      · have key2 : ∀ j, j ≤ v → (∀ y, k < y → y < j → usd m k y = true) ∨ ∃ a b, IsNext v m a b := by
          intro j
          induction j with
          | zero => intro _; exact .inl (fun y _ h => by omega)
          | succ j ihj =>
            intro hj
            rcases ihj (by omega) with h1 | h1
            · by_cases hkj : k < j
              · cases hu : usd m k j with
                | true => exact .inl (fun y h2 h3 => by by_cases e : y = j; (· subst e; exact hu); (· exact h1 y h2 (by omega)))
                | false => exact .inr ⟨k, j, hkj, by omega, hu, h1, fun x y h2 h3 h4 => h x y h2 h3 h4⟩
              · exact .inl (fun y h2 h3 => by omega)
            · exact .inr h1
        rcases key2 v (Nat.le_refl _) with h1 | h1
        · exact .inl (fun x y h2 h3 h4 => by by_cases e : x = k; (· subst e; exact h1 y h3 h4); (· exact h x y (by omega) h3 h4))
        · exact .inr h1
      · exact .inr h
  rcases key v (Nat.le_refl _) with h | h
  · exact .inl (fun x y h1 h2 => h x y (by omega) h1 h2)
  · exact .inr h
theorem next_spec (h : nextM v m = some (a, b)) : IsNext v m a b := by
  rcases next_cases v m with h1 | ⟨x, y, h1⟩
  · rw [nextM_none h1] at h; cases h
  · rw [nextM_some h1] at h
    obtain ⟨rfl, rfl⟩ := Prod.mk.inj (Option.some.inj h)
    exact h1
theorem next_none (h : nextM v m = none) : ∀ x y, x < y → y < v → usd m x y = true := by
  rcases next_cases v m with h1 | ⟨x, y, h1⟩
  · exact h1
  · rw [nextM_some h1] at h; cases h
theorem may_spec (h : may m a b c = true) : b < c ∧ usd m a c = false ∧ usd m b c = false := by
  unfold may at h
  simp only [Bool.and_eq_true, Nat.blt_eq, Bool.not_eq_true'] at h
  exact ⟨h.1.1, h.1.2, h.2⟩
theorem mem_comp {q : List B3} (h : q ∈ compM n v m) : (q = [] ∧ nextM v m = none) ∨ ∃ k a b c r, n = k + 1 ∧ nextM v m = some (a, b) ∧ c < v ∧ may m a b c = true ∧ r ∈ compM k v (putM m a b c) ∧ q = b3N a b c :: r := by
  cases n with
  | zero =>
    unfold compM at h
    split at h
    · rename_i e; simp at h; exact .inl ⟨h, e⟩
    · simp at h
  | succ n =>
    unfold compM at h
    split at h
    · rename_i e; simp at h; exact .inl ⟨h, e⟩
    · rename_i a b e
      obtain ⟨c, hc, h1⟩ := List.mem_flatMap.1 h
      split at h1
      · rename_i hm
        obtain ⟨r, hr, rfl⟩ := List.mem_map.1 h1
        exact .inr ⟨n, a, b, c, r, rfl, e, List.mem_range.1 hc, hm, hr, rfl⟩
      · simp at h1
def Free (v m : Nat) (d : B3) : Prop := ∃ x y z : Nat, d = b3N x y z ∧ x < y ∧ y < z ∧ z < v ∧ usd m x y = false
theorem comp_free : ∀ n v m (q : List B3), v ≤ 15 → q ∈ compM n v m → ∀ d ∈ q, Free v m d := by
  intro n
  induction n with
  | zero =>
    intro v m q hv hq d hd
    rcases mem_comp hq with ⟨rfl, _⟩ | ⟨k, a, b, c, r, hk, _⟩
    · simp at hd
    · omega
  | succ n ih =>
    intro v m q hv hq d hd
    rcases mem_comp hq with ⟨rfl, _⟩ | ⟨k, a, b, c, r, hk, hn, hc, hm, hr, rfl⟩
    · simp at hd
    · obtain rfl : n = k := by omega
      have hI := next_spec hn
      obtain ⟨h1, h2, h3⟩ := may_spec hm
      rcases List.mem_cons.1 hd with rfl | hd
      · exact ⟨a, b, c, rfl, hI.ab, h1, hc, hI.left⟩
      · obtain ⟨x, y, z, e, hx, hy, hz, hu⟩ := ih _ _ _ hv hr d hd
        refine ⟨x, y, z, e, hx, hy, hz, ?_⟩
        cases hh : usd m x y with
        | false => rfl
        | true =>
          have := (usd_put (m := m) (a := a) (b := b) (c := c) (by have := hI.ab; have := hI.bv; omega) (by have := hI.bv; omega) (by omega) (x := x) (y := y) (by omega) (by omega)).2 (.inl hh)
          rw [this] at hu
          cases hu
theorem b3N_lt {x y z a b c : Nat} (h : a < x ∨ (a = x ∧ b < y)) : B3.lt (b3N a b c) (b3N x y z) := by unfold B3.lt b3N; simp only; omega
theorem comp_sorted : ∀ n v m (q : List B3), v ≤ 15 → q ∈ compM n v m → q.Pairwise B3.lt := by
  intro n
  induction n with
  | zero =>
    intro v m q hv hq
    rcases mem_comp hq with ⟨rfl, _⟩ | ⟨k, a, b, c, r, hk, _⟩
    · exact List.Pairwise.nil
    · omega
  | succ n ih =>
    intro v m q hv hq
    rcases mem_comp hq with ⟨rfl, _⟩ | ⟨k, a, b, c, r, hk, hn, hc, hm, hr, rfl⟩
    · exact List.Pairwise.nil
    · obtain rfl : n = k := by omega
      have hI := next_spec hn
      obtain ⟨h1, h2, h3⟩ := may_spec hm
      have hab := hI.ab
      have hbv := hI.bv
      refine List.pairwise_cons.2 ⟨fun d hd => ?_, ih _ _ _ hv hr⟩
      obtain ⟨x, y, z, rfl, hx, hy, hz, hu⟩ := comp_free _ _ _ _ hv hr d hd
      have hup := usd_put (m := m) (a := a) (b := b) (c := c) (by omega) (by omega) (by omega) (x := x) (y := y) (by omega) (by omega)
      refine b3N_lt ?_
      apply Decidable.byContradiction
      intro hc'
      have : usd (putM m a b c) x y = true := by
        rw [hup]
        by_cases e : x = a ∧ y = b
        · exact .inr (.inl (.inl e))
        · refine .inl ?_
          by_cases e1 : x < a
          · exact hI.rows x y e1 hx (by omega)
          · obtain rfl : x = a := by omega
            exact hI.row y hx (by omega)
      rw [this] at hu
      cases hu

end
end Go.Vc

namespace Go.Vc
section
variable {v m n : Nat}
def Opn (m : Nat) (d : B3) : Prop := ∃ x y z : Nat, d = b3N x y z ∧ x < y ∧ y < z ∧ usd m x y = false ∧ usd m x z = false ∧ usd m y z = false
def inB (v : Nat) (d : B3) : Prop := ∃ x y z : Nat, d = b3N x y z ∧ x < y ∧ y < z ∧ z < v
theorem good.inB {d : B3} (h : good v d) : inB v d := by
  obtain ⟨a, b, c⟩ := d
  unfold good at h
  simp only at h
  refine ⟨a.toNat, b.toNat, c.toNat, ?_, by omega, by omega, by omega⟩
  unfold b3N
  rw [Int.toNat_of_nonneg (by omega), Int.toNat_of_nonneg (by omega), Int.toNat_of_nonneg (by omega)]
structure Rest (v m : Nat) (B : List B3) : Prop where
  ok : ∀ d ∈ B, inB v d
  opn : ∀ d ∈ B, Opn m d
  lt : B.Pairwise B3.lt
  fit : B.Pairwise fun d e => common e d ≤ 1
theorem b3N_inj {x y z a b c : Nat} (h : b3N x y z = b3N a b c) : x = a ∧ y = b ∧ z = c := by
  unfold b3N at h
  simp only [Prod.mk.injEq] at h
  omega
theorem Rest.tail {x y z : Nat} {B : List B3} (hv : v ≤ 15) (h : Rest v m (b3N x y z :: B)) (hx : x < y) (hy : y < z) (hz : z < v) : Rest v (putM m x y z) B := by
  obtain ⟨h1, h2⟩ := List.pairwise_cons.1 h.lt
  obtain ⟨h3, h4⟩ := List.pairwise_cons.1 h.fit
  refine ⟨fun d hd => h.ok d (by simp [hd]), fun d hd => ?_, h2, h4⟩
  obtain ⟨a, b, c, rfl, ha, hb, u1, u2, u3⟩ := h.opn d (by simp [hd])
  obtain ⟨a', b', c', e, _, _, hc⟩ := h.ok _ (List.mem_cons_of_mem _ hd)
  obtain ⟨rfl, rfl, rfl⟩ := b3N_inj e
  have hc3 := h3 _ hd
  rw [common_le (b3N_three hx hy)] at hc3
  have k1 : ∀ p q : Nat, p < q → q < v → usd m p q = false → ¬ (has (b3N x y z) p ∧ has (b3N x y z) q) → usd (putM m x y z) p q = false := fun p q h1 h2 h3 h4 => (usd_putN hx hy (by omega) (by omega) (by omega) (by omega)).2 ⟨h3, h4⟩
  exact ⟨a, b, c, rfl, ha, hb, k1 a b (by omega) (by omega) u1 hc3.1, k1 a c (by omega) (by omega) u2 hc3.2.1, k1 b c (by omega) (by omega) u3 hc3.2.2⟩

def putB (m : Nat) (d : B3) : Nat := putM m d.1.toNat d.2.1.toNat d.2.2.toNat
def maskB (m : Nat) (bs : List B3) : Nat := bs.foldl putB m
theorem putB_b3N {x y z : Nat} : putB m (b3N x y z) = putM m x y z := by unfold putB b3N; simp
theorem usd_mask : ∀ (B : List B3) (m : Nat), v ≤ 15 → (∀ d ∈ B, inB v d) → ∀ x y, x < y → y < v → (usd (maskB m B) x y = true ↔ usd m x y = true ∨ ∃ d ∈ B, has d x ∧ has d y) := by
  intro B
  induction B with
  | nil => intro m _ _ x y _ _; simp [maskB]
  | cons b B ih =>
    intro m hv h x y hx hy
    obtain ⟨a, b', c, rfl, h1, h2, h3⟩ := h b (by simp)
    have e : maskB m (b3N a b' c :: B) = maskB (putM m a b' c) B := by unfold maskB; rw [List.foldl_cons, putB_b3N]
    rw [e, ih _ hv (fun d hd => h d (by simp [hd])) x y hx hy]
    have hup := usd_putN (m := m) (x := x) (y := y) h1 h2 (by omega : c < 16) (by omega) (by omega) (by omega)
    constructor
    · rintro (g | ⟨d, hd, g⟩)
      · cases hu : usd m x y with
        | true => exact .inl rfl
        | false =>
          refine .inr ⟨b3N a b' c, by simp, ?_⟩
          apply Decidable.byContradiction
          intro g2
          rw [hup.2 ⟨hu, g2⟩] at g
          cases g
      · exact .inr ⟨d, by simp [hd], g⟩
    · rintro (g | ⟨d, hd, g⟩)
      · refine .inl ?_
        cases hu : usd (putM m a b' c) x y with
        | true => rfl
        | false => rw [(hup.1 hu).1] at g; cases g
      · rcases List.mem_cons.1 hd with rfl | hd
        · refine .inl ?_
          cases hu : usd (putM m a b' c) x y with
          | true => rfl
          | false => exact absurd g (hup.1 hu).2
        · exact .inr ⟨d, hd, g⟩
theorem usd_zero (x y : Nat) : usd 0 x y = false := by simp [usd]
theorem sts_lt {v : Int} {bs : List B3} (h : STS v bs) : bs.Pairwise B3.lt := by
  have key : ∀ i j (hi : i < bs.length) (hj : j < bs.length), i < j → B3.lt bs[i] bs[j] := by
    intro i j
    induction j with
    | zero => intro _ _ h; omega
    | succ j ih =>
      intro hi hj hij
      have h1 := (h.ord (j + 1) hj hj).2 j (by omega) rfl
      by_cases e : i = j
      · subst e; exact h1
      · exact lt_trans3 (ih hi (by omega) (by omega)) h1
  rw [List.pairwise_iff_getElem]
  exact fun i j hi hj hij => key i j hi hj hij
theorem sts_rest {bs : List B3} (h : STS (v : Int) bs) : Rest v 0 bs := by
  have hg : ∀ d ∈ bs, inB v d := fun d hd => (h.good d hd).inB
  refine ⟨hg, fun d hd => ?_, sts_lt h, ?_⟩
  · obtain ⟨x, y, z, rfl, h1, h2, h3⟩ := hg d hd
    exact ⟨x, y, z, rfl, h1, h2, usd_zero _ _, usd_zero _ _, usd_zero _ _⟩
  · rw [List.pairwise_iff_getElem]
    exact fun i j hi hj hij => h.fits j hj hj i hi hij
end
end Go.Vc

