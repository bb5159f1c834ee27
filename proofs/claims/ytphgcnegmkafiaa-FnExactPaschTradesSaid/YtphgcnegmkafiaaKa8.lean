/-
  The calculus and plain words, part 8.
-/
import Derived.Test.YtphgcnegmkafiaaKa7
set_option linter.unusedVariables false
set_option linter.unusedSimpArgs false
/-
  Plain words: the systems of nine points as bits are as the families ask.
-/
namespace Go.Vc
def catG : List (List Nat) → List Nat
  | [] => []
  | g :: gs => g ++ catG gs
/-- The groups have their own bits. -/
def Bits (o : Nat) (gs : List (List Nat)) : Prop := ∀ k (h : k < gs.length), ∀ s ∈ gs[k], s % 128 = 2 ^ (o + k)
theorem Bits.head {o : Nat} {g : List Nat} {gs : List (List Nat)} (h : Bits o (g :: gs)) : ∀ s ∈ g, s % 128 = 2 ^ o := h 0 (by simp)
theorem Bits.tail {o : Nat} {g : List Nat} {gs : List (List Nat)} (h : Bits o (g :: gs)) : Bits (o + 1) gs := fun k hk s hs => by
  have := h (k + 1) (by simp; omega) s (by simpa using hs)
  rw [this]
  congr 1
  omega
/-! ### Families of a system -/
/-- All families with a system: the numbers of the others. -/
noncomputable def famL (bs : List B3) : List (List Int) := famT ms9 6 [] (mkF bs)
end Go.Vc
/-
  Plain words: the search that goes on from a place finds the same families, in the same order.
-/
namespace Go.Vc
def famS (ms ns : List Nat) : Nat → Nat → List Int → Nat → List (List Int)
  | 0, _, now, D => [now]
  | k + 1, f, now, D => (List.range ns.length).flatMap fun j => if f ≤ j ∧ nextF D (ms.getD (ns.getD j 0) 0) then famS ms ns k (j + 1) (now ++ [((ns.getD j 0 : Nat) : Int)]) (D ||| ms.getD (ns.getD j 0) 0) else []
def famJ (ms ns : List Nat) (k f : Nat) (now : List Int) (D c : Nat) : List (List Int) := (List.range c).flatMap fun j => if f ≤ j ∧ nextF D (ms.getD (ns.getD j 0) 0) then famS ms ns k (j + 1) (now ++ [((ns.getD j 0 : Nat) : Int)]) (D ||| ms.getD (ns.getD j 0) 0) else []
section
variable {ms ns : List Nat} {D X k f c j : Nat} {now : List Int}
/-- The systems that are apart from X. -/
def apartL (ms : List Nat) (X : Nat) : List Nat := (List.range ms.length).filter fun i => decide (ms.getD i 0 &&& X = 0)
end
end Go.Vc
namespace Go.Vc
/-! ### The places of blocks -/
end Go.Vc
namespace Go.Vc
/-! ### One after the other -/
def famP (ms : List Nat) (k : Nat) (now : List Int) (D c : Nat) : List (List Int) := (List.range c).flatMap fun i => if nextF D (ms.getD i 0) then famT ms k (now ++ [(i : Int)]) (D ||| ms.getD i 0) else []
section
variable {ms : List Nat} {D k c i n : Nat} {now : List Int}
/-- What has been taken is in order. -/
def NowOk (k : Nat) (now : List Int) (D : Nat) : Prop := now.Pairwise (· < ·) ∧ (0 < k → ∀ x ∈ now, x < 120 * (pivD D : Int))
end
end Go.Vc
namespace Go.Vc
/-- The code of families. -/
noncomputable def lfC (v : Int) (bs : List B3) : Int := if STS v bs then if v = 9 ∧ 6 * (bs.length : Int) = v * (v - 1) then 0 else 5 else 1
end Go.Vc
namespace Go.Vc
end Go.Vc
/-
  Plain words: the order of families, and what a large set with a system is.
-/
namespace Go.Vc
section
variable {ms : List Nat}
end
/-- The first of the families. -/
noncomputable def headF (bs : List B3) : List Int := (famL bs).headD []
theorem first_headD {α : Type} {L : List α} {d : α} (h0 : 0 < L.length) : L[0] = L.headD d := by
  cases L with
  | nil => simp at h0
  | cons x l => rfl
/-- The indices of a family. -/
noncomputable def headN (bs : List B3) : List Nat := (headF bs).map Int.toNat
/-- What both LargeSetWith return. -/
noncomputable def lsR (v : Int) (bs : List B3) : List (List B3) × Int := if lfC v bs = 0 then (if famL bs = [] then ([], 4) else (bs :: (headN bs).map fun i => (compM 40 9 0).getD i [], 0)) else ([], lfC v bs)
end Go.Vc
/-
  The calculus, part 30: some of a list of systems; marks of systems with their numbers of points.
-/
namespace Go.Vc
open Go Go.RowKit
section
variable {α : Type} {C : Cod α} {T T2 : TypeId} {w0 w : World} {H H' : List Assn}
theorem sub_list {A B : List Assn} (h : A.Sublist B) : Sub (B ++ H) (A ++ H) := by
  induction h with
  | slnil => exact Sub.refl _
  | cons x _ ih => exact Sub.drop ih
  | cons_cons x _ ih => exact Sub.keep 0 rfl ih
theorem RowsA.some {ps qs : List (Sl × List α)} (h : qs.Sublist ps) (hw : St w0 (RowsA T C ps :: H) w) : St w0 (RowsA T C qs :: H) w := St.rows.2 ((St.rows.1 hw).sub (sub_list (h.map _)))
def noRow : Sl × List α := (⟨none, 0, 0⟩, [])
end
/-! ### Marks of systems -/
/-- A system with its number of points. -/
def SyP : Cod (Int × Sl) := ⟨2, fun p => [.int .i64 p.1, p.2.v], by decide, fun _ => rfl, fun _ u hu => by simp at hu; rcases hu with rfl | rfl <;> rfl⟩
theorem Own.recodeP {α β : Type} {C : Cod α} {C2 : Cod β} {T : TypeId} {A : Option Addr} {c : Nat} {xs : List α} {ys : List β} (hz : C.sz = C2.sz) (hl : xs.length = ys.length) (hf : xs.flatMap C.enc = ys.flatMap C2.enc) : ∀ w F, (Own T C A c xs).P w F → (Own T C2 A c ys).P w F := by
  rintro w F ⟨h1, h2⟩
  rw [hz, hl, hf] at h1
  rw [hl] at h2
  exact ⟨h1, h2⟩
def sumB : List (Sl × List B3) → Nat
  | [] => 0
  | p :: r => 1 + 3 * p.2.length + sumB r
def mkT : Int → List (Sl × List B3) → List (Int × Sl)
  | _, [] => []
  | m, p :: r => (m, p.1) :: mkT (m + 1 + 3 * (p.2.length : Int)) r
def mkR : Int → List (Sl × List B3) → List (Sl × List B3)
  | _, [] => []
  | m, p :: r => (p.1, marksB (m + 1) p.2.length) :: mkR (m + 1 + 3 * (p.2.length : Int)) r
section
variable {ps : List (Sl × List B3)} {m v : Int} {k : Nat}
/-- The tops when k of the systems are marked. -/
def tS (v m : Int) (ps : List (Sl × List B3)) (k : Nat) : List (Int × Sl) := mkT m (ps.take k) ++ (ps.drop k).map fun p => (v, p.1)
end
section
variable {T : TypeId} {w0 w : World} {H H' : List Assn} {v : Int}
/-- Marked systems that are read. -/
structure RdP (m : Int) (w : World) (A : Option Addr) (ps : List (Sl × List B3)) : Prop where
  top : Rd SyP w A (mkT m ps)
  len : ∀ k (hk : k < ps.length), (ps[k]).1.n = (ps[k]).2.length
  row : ∀ k (hk : k < ps.length), Rd B3C w (ps[k]).1.A (marksB (m + (sumB (ps.take k) : Int) + 1) (ps[k]).2.length)
end
end Go.Vc
namespace Go.Vc
end Go.Vc
namespace Go.Vc
end Go.Vc
/-
  Plain words: the trade of a Pasch.
-/
namespace Go.Vc
/-- The first point, and the points that are in no block with it. -/
def ptA (fs : List B3) : Int := (fs.headD (0, 0, 0)).1
def PtC (fs : List B3) (p : Int) : Prop := p ≠ ptA fs ∧ (∃ c ∈ fs, has c p) ∧ ¬ ∃ c ∈ fs, has c p ∧ has c (ptA fs)
noncomputable instance (fs : List B3) : DecidablePred (PtC fs) := fun _ => Classical.propDecidable _
/-- The last number with a property, -1 if there is none. -/
def lastP (C : Int → Prop) [DecidablePred C] : Nat → Int
  | 0 => -1
  | n + 1 => if C (n : Int) then (n : Int) else lastP C n
noncomputable def ptB (n : Nat) (fs : List B3) : Int := lastP (PtC fs) n
def lastL (C : Int → Prop) [DecidablePred C] (l : List Int) : Int := l.foldl (fun a p => if C p then p else a) (-1)
section
variable {C : Int → Prop} [DecidablePred C] {n : Nat}
theorem lastP_yes (h : C (n : Int)) : lastP C (n + 1) = n := if_pos h
theorem lastP_no (h : ¬ C (n : Int)) : lastP C (n + 1) = lastP C n := if_neg h
theorem lastP_lt : -1 ≤ lastP C n ∧ lastP C n < n := by
  induction n with
  | zero => exact ⟨Int.le_refl _, (by show (-1 : Int) < 0; decide)⟩
  | succ n ih =>
    by_cases h : C (n : Int)
    · rw [lastP_yes h]; omega
    · rw [lastP_no h]; omega
theorem lastP_some : ∀ n : Nat, (∃ p : Int, 0 ≤ p ∧ p < n ∧ C p) → 0 ≤ lastP C n := by
  intro n
  induction n with
  | zero => rintro ⟨p, h1, h2, _⟩; omega
  | succ n ih =>
    rintro ⟨p, h1, h2, h3⟩
    by_cases h : C (n : Int)
    · rw [lastP_yes h]; omega
    · rw [lastP_no h]
      refine ih ⟨p, h1, ?_, h3⟩
      by_cases e : p = n
      · subst e; exact absurd h3 h
      · omega
theorem lastL_snoc {l : List Int} {p : Int} : lastL C (l ++ [p]) = if C p then p else lastL C l := by unfold lastL; rw [List.foldl_append]; rfl
end
/-! ### The points of a list -/
def ptsN (ps : List Int) (n : Nat) : List Int := ((List.range n).filter fun k : Nat => decide (0 < cN ps (k : Int))).map fun k : Nat => (k : Int)
section
variable {ps : List Int} {n : Nat}
theorem ptsN_yes (h : 0 < cN ps (n : Int)) : ptsN ps (n + 1) = ptsN ps n ++ [(n : Int)] := by
  unfold ptsN
  rw [List.range_succ, List.filter_append, List.filter_cons_of_pos (p := fun k : Nat => decide (0 < cN ps (k : Int))) (decide_eq_true h), List.map_append]
  rfl
theorem ptsN_no (h : ¬ 0 < cN ps (n : Int)) : ptsN ps (n + 1) = ptsN ps n := by
  unfold ptsN
  rw [List.range_succ, List.filter_append, List.filter_cons_of_neg (p := fun k : Nat => decide (0 < cN ps (k : Int))) (by rw [decide_eq_false h]; decide)]
  simp
theorem ptsN_mem {p : Int} : p ∈ ptsN ps n ↔ 0 ≤ p ∧ p < n ∧ 0 < cN ps p := by
  unfold ptsN
  simp only [List.mem_map, List.mem_filter, List.mem_range, decide_eq_true_eq]
  constructor
  · rintro ⟨k, ⟨h1, h2⟩, rfl⟩; exact ⟨by omega, by omega, h2⟩
  · rintro ⟨h1, h2, h3⟩
    exact ⟨p.toNat, ⟨by omega, by rw [show ((p.toNat : Nat) : Int) = p by omega]; exact h3⟩, by omega⟩
theorem ptsN_up : (ptsN ps n).Pairwise (· < ·) := by
  unfold ptsN
  rw [List.pairwise_map]
  exact (List.pairwise_lt_range.filter _).imp fun h => by omega
theorem ptsN_len : (ptsN ps n).length ≤ n := by
  unfold ptsN
  rw [List.length_map]
  refine Nat.le_trans (List.length_filter_le _ _) ?_
  rw [List.length_range]
  exact Nat.le_refl _
theorem lastL_pts {C : Int → Prop} [DecidablePred C] (h : ∀ p, C p → 0 < cN ps p) : ∀ n, lastL C (ptsN ps n) = lastP C n := by
  intro n
  induction n with
  | zero => rfl
  | succ n ih =>
    by_cases h1 : 0 < cN ps (n : Int)
    · rw [ptsN_yes h1, lastL_snoc, ih]; rfl
    · rw [ptsN_no h1, ih, lastP_no (fun hc => h1 (h _ hc))]
theorem posL_map {f : Nat → Int} : ∀ l : List Nat, posL (l.map f) = (l.filter fun k => decide (0 < f k)).length := by
  intro l
  induction l with
  | nil => rfl
  | cons x l ih =>
    rw [List.map_cons, List.filter_cons]
    simp only [posL, ih]
    by_cases h : 0 < f x
    · simp [h]; omega
    · simp [h]
theorem cntA_range (ps : List Int) : cntA ps = (List.range 15).map fun k : Nat => cN ps (k : Int) := rfl
theorem dist_pts (hn : n ≤ 15) (hp : ∀ p ∈ ps, 0 ≤ p ∧ p < n) : dist ps = (ptsN ps n).length := by
  have h15 : dist ps = (ptsN ps 15).length := by
    unfold dist ptsN
    rw [cntA_range, posL_map, List.length_map]
  have key : ∀ d, ptsN ps (n + d) = ptsN ps n := by
    intro d
    induction d with
    | zero => rfl
    | succ d ih =>
      rw [← Nat.add_assoc, ptsN_no, ih]
      intro h
      have h2 : ((n + d : Nat) : Int) ∈ ps := by
        unfold cN at h
        exact List.count_pos_iff.1 (by omega)
      have := hp _ h2
      omega
  rw [h15, show 15 = n + (15 - n) by omega, key]
/-- How often each point is there. -/
def cntV (ps : List Int) (n : Nat) : List Int := (List.range n).map fun k : Nat => cN ps (k : Int)
theorem cntV_len : (cntV ps n).length = n := by simp [cntV]
theorem cntV_nil : cntV [] n = List.replicate n 0 := by
  refine List.ext_getElem (by simp [cntV]) (fun i h1 h2 => ?_)
  simp [cntV, cN]
theorem cntV_get {p : Int} (h0 : 0 ≤ p) (h1 : p < n) (h : p.toNat < (cntV ps n).length) : (cntV ps n)[p.toNat] = cN ps p := by
  have e : ((p.toNat : Nat) : Int) = p := by omega
  simp only [cntV, List.getElem_map, List.getElem_range, e]
theorem cntV_set {p : Int} (h0 : 0 ≤ p) (h1 : p < n) : (cntV ps n).set p.toNat (cN ps p + 1) = cntV (ps ++ [p]) n := by
  refine List.ext_getElem (by simp [cntV]) (fun i h2 h3 => ?_)
  rw [List.getElem_set]
  simp only [cntV, List.getElem_map, List.getElem_range, cN_snoc]
  by_cases e : p.toNat = i
  · rw [if_pos e, if_pos (by omega), show ((i : Nat) : Int) = p by omega]
  · rw [if_neg e, if_neg (by omega)]
    omega
end
/-! ### The point that is in no block with the first one -/
section
variable {v : Int} {A B C D X Y Z : B3}
theorem hasN_pos {b : B3} {p : Int} : hasN b p = 1 ↔ has b p := by unfold hasN; split <;> simp_all
theorem far_core (gY : good v Y) (gZ : good v Z) (hp : ∀ p, hasN A p + hasN X p + hasN Y p + hasN Z p = 0 ∨ hasN A p + hasN X p + hasN Y p + hasN Z p = 2) (hX : has X A.1) : ∃ p, (has Y p ∨ has Z p) ∧ ¬ has A p ∧ ¬ has X p := by
  apply Classical.byContradiction
  intro hc
  have hall : ∀ p, has Y p ∨ has Z p → has A p ∨ has X p := by
    intro p h
    apply Classical.byContradiction
    intro h2
    exact hc ⟨p, h, fun h3 => h2 (.inl h3), fun h3 => h2 (.inr h3)⟩
  have hA1 : has A A.1 := .inl rfl
  have n1 := hasN_pos.2 hA1
  have n2 := hasN_pos.2 hX
  have hYa : ¬ has Y A.1 := fun h => by have := hp A.1; have := hasN_pos.2 h; omega
  have hZa : ¬ has Z A.1 := fun h => by have := hp A.1; have := hasN_pos.2 h; omega
  have hYZ : ∀ p, has Y p → ¬ has Z p := by
    intro p h1 h2
    have := hp p
    have := hasN_pos.2 h1
    have := hasN_pos.2 h2
    rcases hall p (.inl h1) with h | h
    · have := hasN_pos.2 h; omega
    · have := hasN_pos.2 h; omega
  have hnd : [Y.1, Y.2.1, Y.2.2, Z.1, Z.2.1, Z.2.2].Nodup := by
    have a1 := hYZ Y.1 (.inl rfl)
    have a2 := hYZ Y.2.1 (.inr (.inl rfl))
    have a3 := hYZ Y.2.2 (.inr (.inr rfl))
    unfold good at gY gZ
    unfold has at a1 a2 a3
    simp only [List.nodup_cons, List.mem_cons, List.not_mem_nil, or_false, not_false_eq_true, List.nodup_nil, and_true, not_or] at *
    omega
  have hsub : [Y.1, Y.2.1, Y.2.2, Z.1, Z.2.1, Z.2.2] ⊆ [A.2.1, A.2.2, X.1, X.2.1, X.2.2] := by
    have key : ∀ p, has Y p ∨ has Z p → p ∈ [A.2.1, A.2.2, X.1, X.2.1, X.2.2] := by
      intro p h
      have hne : p ≠ A.1 := by
        rintro rfl
        rcases h with h | h
        · exact hYa h
        · exact hZa h
      have := hall p h
      unfold has at this
      simp only [List.mem_cons, List.not_mem_nil, or_false]
      omega
    intro p hp2
    simp only [List.mem_cons, List.not_mem_nil, or_false] at hp2
    refine key p ?_
    unfold has
    omega
  have := hnd.length_le_of_subset hsub
  simp at this
theorem far_pt (gB : good v B) (gC : good v C) (gD : good v D) (hP : P4 A B C D) : ∃ p, PtC [A, B, C, D] p := by
  have hA1 : has A A.1 := .inl rfl
  have n1 := hasN_pos.2 hA1
  have h0 := hP A.1
  have fin : ∀ p X Y Z, (has Y p ∨ has Z p) → ¬ has A p → ¬ has X p → ¬ has Y A.1 → ¬ has Z A.1 → (∀ c, c ∈ [A, B, C, D] ↔ c ∈ [A, X, Y, Z]) → PtC [A, B, C, D] p := by
    intro p X Y Z h1 h2 h3 h4 h5 h6
    refine ⟨fun e => h2 (by rw [e]; exact hA1), ?_, ?_⟩
    · rcases h1 with h | h
      · exact ⟨Y, (h6 Y).2 (by simp), h⟩
      · exact ⟨Z, (h6 Z).2 (by simp), h⟩
    · rintro ⟨c, hc, hc1, hc2⟩
      have hc2 : has c A.1 := hc2
      have := (h6 c).1 hc
      simp only [List.mem_cons, List.not_mem_nil, or_false] at this
      rcases this with rfl | rfl | rfl | rfl
      · exact h2 hc1
      · exact h3 hc1
      · exact h4 hc2
      · exact h5 hc2
  have no : ∀ {X Y : B3}, hasN X A.1 = 0 → ¬ has X A.1 := fun h h2 => by have := hasN_pos.2 h2; omega
  by_cases hB : has B A.1
  · have := hasN_pos.2 hB
    obtain ⟨p, h1, h2, h3⟩ := far_core gC gD hP hB
    exact ⟨p, fin p B C D h1 h2 h3 (no (Y := A) (by omega)) (no (Y := A) (by omega)) (fun c => Iff.rfl)⟩
  · by_cases hC : has C A.1
    · have := hasN_pos.2 hC
      obtain ⟨p, h1, h2, h3⟩ := far_core (X := C) (Y := B) (Z := D) gB gD (fun p => by have := hP p; omega) hC
      exact ⟨p, fin p C B D h1 h2 h3 hB (no (Y := A) (by omega)) (fun c => by simp only [List.mem_cons, List.not_mem_nil, or_false]; constructor <;> (intro h; rcases h with h | h | h | h <;> simp [h]))⟩
    · by_cases hD : has D A.1
      · have := hasN_pos.2 hD
        obtain ⟨p, h1, h2, h3⟩ := far_core (X := D) (Y := B) (Z := C) gB gC (fun p => by have := hP p; omega) hD
        exact ⟨p, fin p D B C h1 h2 h3 hB hC (fun c => by simp only [List.mem_cons, List.not_mem_nil, or_false]; constructor <;> (intro h; rcases h with h | h | h | h <;> simp [h]))⟩
      · exfalso
        have b := hasN_le B A.1
        have hB' : hasN B A.1 ≠ 1 := fun h => hB (hasN_pos.1 h)
        have hC' : hasN C A.1 ≠ 1 := fun h => hC (hasN_pos.1 h)
        have hD' : hasN D A.1 ≠ 1 := fun h => hD (hasN_pos.1 h)
        have c := hasN_le C A.1
        have d := hasN_le D A.1
        omega
end
/-- The blocks that come for those of a Pasch, in order. -/
noncomputable def insT (n : Nat) (fs : List B3) : List B3 := Classical.epsilon fun i => i.Perm (fs.map (exB (ptA fs) (ptB n fs))) ∧ SrtB i
theorem insT_eq {n : Nat} {fs i : List B3} (h : i.Perm (fs.map (exB (ptA fs) (ptB n fs))) ∧ SrtB i) : i = insT n fs := by
  have h2 : (insT n fs).Perm (fs.map (exB (ptA fs) (ptB n fs))) ∧ SrtB (insT n fs) := Classical.epsilon_spec (p := fun i => i.Perm (fs.map (exB (ptA fs) (ptB n fs))) ∧ SrtB i) ⟨i, h⟩
  exact srtB_unique h.2 h2.2 (h.1.trans h2.1.symm)
/-- The trade of four blocks, by their numbers. -/
noncomputable def trQ (v : Int) (bs : List B3) (q : List Int) : List B3 × List B3 := (q.map (blk bs), insT v.toNat (q.map (blk bs)))
def TRL (v : Int) (bs : List B3) (c : List (List B3 × List B3)) : Prop := (STS v bs → ∃ ls, IsList (PQ bs) ls ∧ c = ls.map (trQ v bs)) ∧ (¬ STS v bs → c = [])
theorem TRL.unique {v : Int} {bs : List B3} {c d : List (List B3 × List B3)} (h1 : TRL v bs c) (h2 : TRL v bs d) : c = d := by
  by_cases h : STS v bs
  · obtain ⟨l1, a1, rfl⟩ := h1.1 h
    obtain ⟨l2, a2, rfl⟩ := h2.1 h
    rw [IsList.unique a1 a2]
  · rw [h1.2 h, h2.2 h]
end Go.Vc
namespace Go.Vc
/-! ### Four blocks, counted -/
theorem mem_blP {b : B3} {p : Int} : p ∈ bl b ↔ has b p := by
  unfold bl has
  simp only [List.mem_cons, List.not_mem_nil, or_false]
  constructor <;> (intro h; rcases h with h | h | h <;> simp [h])
theorem cN_has {fs : List B3} {p : Int} : 0 < cN (fs.flatMap bl) p ↔ ∃ c ∈ fs, has c p := by
  unfold cN
  have h1 : 0 < ((List.count p (fs.flatMap bl) : Nat) : Int) ↔ p ∈ fs.flatMap bl := by
    rw [← List.count_pos_iff (a := p) (l := fs.flatMap bl)]
    omega
  rw [h1, List.mem_flatMap]
  exact ⟨fun ⟨c, h, h2⟩ => ⟨c, h, mem_blP.1 h2⟩, fun ⟨c, h, h2⟩ => ⟨c, h, mem_blP.2 h2⟩⟩
theorem cN_bd {ps : List Int} {p : Int} : 0 ≤ cN ps p ∧ cN ps p ≤ ps.length := by
  unfold cN
  have := List.count_le_length (a := p) (l := ps)
  omega
section
variable {v : Int} {fs : List B3}
theorem fs_pts (hg : ∀ b ∈ fs, good v b) : ∀ p ∈ fs.flatMap bl, 0 ≤ p ∧ p < v := by
  intro p hp
  obtain ⟨c, hc, h⟩ := List.mem_flatMap.1 hp
  have h1 := hg c hc
  have h2 := mem_blP.1 h
  unfold good at h1
  unfold has at h2
  omega
theorem has_pt {c : B3} {p : Int} (hg : good v c) (h : has c p) : 0 ≤ p ∧ p < v := by
  unfold good at hg
  unfold has at h
  omega
theorem pt_far (h4 : fs.length = 4) (hg : ∀ b ∈ fs, good v b) (hP : PasB fs) : ∃ p : Int, 0 ≤ p ∧ p < v ∧ PtC fs p := by
  obtain ⟨A, B, C, D, rfl⟩ : ∃ A B C D, fs = [A, B, C, D] := by
    match fs, h4 with
    | [A, B, C, D], _ => exact ⟨A, B, C, D, rfl⟩
  have gA := hg A (by simp)
  have gB := hg B (by simp)
  have gC := hg C (by simp)
  have gD := hg D (by simp)
  obtain ⟨p, hp⟩ := far_pt gB gC gD ((pasB_four gA gB gC gD).1 hP)
  obtain ⟨c, hc, h⟩ := hp.2.1
  have h1 := has_pt (hg c hc) h
  exact ⟨p, h1.1, h1.2, hp⟩
theorem ptB_nonneg (hv : 0 ≤ v) (h4 : fs.length = 4) (hg : ∀ b ∈ fs, good v b) (hP : PasB fs) : 0 ≤ ptB v.toNat fs := by
  obtain ⟨p, h1, h2, h3⟩ := pt_far h4 hg hP
  exact lastP_some _ ⟨p, h1, by omega, h3⟩
theorem six_to (hv : 0 ≤ v ∧ v ≤ 15) (h4 : fs.length = 4) (hg : ∀ b ∈ fs, good v b) (hP : PasB fs) : (ptsN (fs.flatMap bl) v.toNat).length = 6 ∧ ∀ p, cN (fs.flatMap bl) p ≤ 2 := by
  have hp := fs_pts hg
  have h1 := (six_iff (ps := fs.flatMap bl) (fun p h => by have := hp p h; omega) (by rw [flat_len]; omega)).2 hP
  refine ⟨?_, fun p => ?_⟩
  · rw [← dist_pts (n := v.toNat) (by omega) (fun p h => by have := hp p h; omega)]
    exact h1.1
  · have := hP p
    unfold cN
    omega
theorem six_of (hv : 0 ≤ v ∧ v ≤ 15) (h4 : fs.length = 4) (hg : ∀ b ∈ fs, good v b) (hl : (ptsN (fs.flatMap bl) v.toNat).length = 6) (h2 : ∀ q : Nat, q < v.toNat → cN (fs.flatMap bl) (q : Int) ≤ 2) : PasB fs := by
  have hp := fs_pts hg
  refine (six_iff (ps := fs.flatMap bl) (fun p h => by have := hp p h; omega) (by rw [flat_len]; omega)).1 ⟨?_, ?_⟩
  · rw [dist_pts (n := v.toNat) (by omega) (fun p h => by have := hp p h; omega)]
    exact hl
  · rintro ⟨x, hx, hx2⟩
    obtain ⟨p, h1, h3, rfl⟩ := mem_cntA.1 hx
    by_cases hpv : p < v
    · have := h2 p.toNat (by omega)
      rw [show ((p.toNat : Nat) : Int) = p by omega] at this
      omega
    · have h0 : p ∈ fs.flatMap bl := by
        unfold cN at hx2
        exact List.count_pos_iff.1 (by omega)
      have := hp p h0
      omega
theorem pts_head (h4 : fs.length = 4) (hg : ∀ b ∈ fs, good v b) (hlt : fs.Pairwise B3.lt) {n : Nat} (hn : v.toNat = n) (h0 : 0 < (ptsN (fs.flatMap bl) n).length) : (ptsN (fs.flatMap bl) n)[0] = ptA fs := by
  have hp := fs_pts hg
  obtain ⟨A, r, rfl⟩ : ∃ A r, fs = A :: r := by
    match fs, h4 with
    | A :: r, _ => exact ⟨A, r, rfl⟩
  have gA := hg A (by simp)
  have hle : ∀ q ∈ ptsN ((A :: r).flatMap bl) n, A.1 ≤ q := by
    intro q hq
    obtain ⟨_, _, hc⟩ := ptsN_mem.1 hq
    obtain ⟨c, hc, hh⟩ := cN_has.1 hc
    have hcg := hg c hc
    have h1 : A.1 ≤ c.1 := by
      rcases List.mem_cons.1 hc with rfl | hc
      · exact Int.le_refl _
      · have := (List.pairwise_cons.1 hlt).1 c hc
        unfold B3.lt at this
        omega
    unfold good at hcg
    unfold has at hh
    omega
  have hm : A.1 ∈ ptsN ((A :: r).flatMap bl) n := by
    unfold good at gA
    exact ptsN_mem.2 ⟨by omega, by omega, cN_has.2 ⟨A, by simp, .inl rfl⟩⟩
  obtain ⟨j, hj, e⟩ := List.getElem_of_mem hm
  have h1 := hle _ (List.getElem_mem h0)
  show _ = A.1
  by_cases hj0 : j = 0
  · subst hj0; exact e
  · have := List.pairwise_iff_getElem.1 (ptsN_up (ps := (A :: r).flatMap bl) (n := n)) 0 j h0 hj (by omega)
    omega
theorem ptc_at {n i : Nat} {a : Int} (hi : i < (ptsN (fs.flatMap bl) n).length) (h0 : 0 < (ptsN (fs.flatMap bl) n).length) (ha : (ptsN (fs.flatMap bl) n)[0] = a) (ha2 : a = ptA fs) (hi0 : 0 < i) : PtC fs (ptsN (fs.flatMap bl) n)[i] ↔ ¬ ∃ c ∈ fs, has c a ∧ has c (ptsN (fs.flatMap bl) n)[i] := by
  have h1 := List.pairwise_iff_getElem.1 (ptsN_up (ps := fs.flatMap bl) (n := n)) 0 i h0 hi hi0
  have h2 := cN_has.1 (ptsN_mem.1 (List.getElem_mem hi)).2.2
  constructor
  · rintro ⟨_, _, h⟩ ⟨c, hc, h3, h4⟩
    exact h ⟨c, hc, h4, by rw [← ha2]; exact h3⟩
  · intro h
    exact ⟨by rw [← ha2]; omega, h2, fun ⟨c, hc, h3, h4⟩ => h ⟨c, hc, by rw [ha2]; exact h4, h3⟩⟩
theorem ptc_first : ¬ PtC fs (ptA fs) := fun h => h.1 rfl
theorem last_pts {n : Nat} : lastL (PtC fs) (ptsN (fs.flatMap bl) n) = ptB n fs := lastL_pts (fun p h => cN_has.2 h.2.1) n
end
theorem cntV_at {ps : List Int} {n k : Nat} (hk : k < n) (h : k < (cntV ps n).length) : (cntV ps n)[k] = cN ps (k : Int) := by
  simp only [cntV, List.getElem_map, List.getElem_range]
/-! ### Exchanged points in a list -/
def exS (p q : Int) (l : List Int) (i : Nat) : List Int := (l.take i).map (sw2 p q) ++ l.drop i
section
variable {p q : Int} {l : List Int} {i : Nat}
theorem exS_zero : exS p q l 0 = l := by simp [exS]
theorem exS_len (h : i ≤ l.length) : (exS p q l i).length = l.length := by simp [exS]; omega
theorem exS_at (h : i < l.length) (h1 : i < (exS p q l i).length) : (exS p q l i)[i] = l[i] := by
  have e : exS p q l i = (l.take i).map (sw2 p q) ++ l.drop i := rfl
  have hl : ((l.take i).map (sw2 p q)).length = i := by rw [List.length_map, List.length_take]; omega
  have h3 := List.getElem_of_eq e h1
  rw [h3, List.getElem_append_right (by omega)]
  simp only [hl, Nat.sub_self, List.drop_eq_getElem_cons h, List.getElem_cons_zero]
theorem exS_set (h : i < l.length) : (exS p q l i).set i (sw2 p q l[i]) = exS p q l (i + 1) := by
  have hl : ((l.take i).map (sw2 p q)).length = i := by rw [List.length_map, List.length_take]; omega
  unfold exS
  rw [List.set_append_right _ _ (by omega), hl, Nat.sub_self, List.drop_eq_getElem_cons h, List.set_cons_zero, take_snoc h, List.map_append]
  simp
theorem exS_all (h : i = l.length) : exS p q l i = l.map (sw2 p q) := by
  unfold exS
  rw [List.take_of_length_le (by omega), List.drop_eq_nil_of_le (by omega), List.append_nil]
end
end Go.Vc
namespace Go.Vc
theorem common_ne {v : Int} {bs : List B3} (h : STS v bs) {i j : Nat} (hi : i < bs.length) (hj : j < bs.length) (hne : i ≠ j) (hc : ¬ common bs[i] bs[j] = 1) : ¬ meets bs[i] bs[j] := by
  intro hm
  have t3 := (h.good _ (List.getElem_mem hj)).three
  have gi := h.good _ (List.getElem_mem hi)
  unfold good at gi
  have e1 : has bs[i] bs[i].1 := .inl rfl
  have e2 : has bs[i] bs[i].2.1 := .inr (.inl rfl)
  have e3 : has bs[i] bs[i].2.2 := .inr (.inr rfl)
  have hle : common bs[i] bs[j] ≤ 1 := (common_le t3).2 ⟨fun q => hne (h.two hi hj (by omega) e1 e2 q.1 q.2), fun q => hne (h.two hi hj (by omega) e1 e3 q.1 q.2), fun q => hne (h.two hi hj (by omega) e2 e3 q.1 q.2)⟩
  have hge : 1 ≤ common bs[i] bs[j] := by
    rw [common_has _ t3]
    unfold meets at hm
    (repeat' split) <;> first | omega | (exfalso; rcases hm with q | q | q <;> contradiction)
  omega
end Go.Vc
namespace Go.Vc
/-- None of the first k blocks has both points. -/
def apB (fs : List B3) (a q : Int) (k : Nat) : Bool := (fs.take k).all fun c => !(decide (has c a) && decide (has c q))
section
variable {fs : List B3} {a q : Int} {k : Nat}
theorem apB_zero : apB fs a q 0 = true := rfl
theorem apB_succ (ek : k < fs.length) : apB fs a q (k + 1) = (apB fs a q k && !(decide (has fs[k] a) && decide (has fs[k] q))) := by
  unfold apB
  rw [take_snoc ek, List.all_append]
  simp
theorem apB_iff (h : fs.length ≤ k) : apB fs a q k = true ↔ ¬ ∃ c ∈ fs, has c a ∧ has c q := by
  unfold apB
  rw [List.take_of_length_le h, List.all_eq_true]
  constructor
  · rintro h1 ⟨c, hc, h2, h3⟩
    have := h1 c hc
    simp [h2, h3] at this
  · intro h1 c hc
    by_cases h2 : has c a
    · by_cases h3 : has c q
      · exact absurd ⟨c, hc, h2, h3⟩ h1
      · simp [h3]
    · simp [h2]
theorem apart_yes (ek : k < fs.length) (hap : true = apB fs a q k) (h : has fs[k] a) : (!decide (has fs[k] q)) = apB fs a q (k + 1) := by
  rw [apB_succ ek, ← hap, decide_eq_true h]
  rfl
theorem apart_no (ek : k < fs.length) (hap : true = apB fs a q k) (h : ¬ has fs[k] a) : true = apB fs a q (k + 1) := by
  rw [apB_succ ek, ← hap, decide_eq_false h]
  rfl
theorem apart_off (ek : k < fs.length) (hap : false = apB fs a q k) : false = apB fs a q (k + 1) := by
  rw [apB_succ ek, ← hap]
  rfl
end
end Go.Vc
namespace Go.Vc
theorem trQ_four {v : Int} {bs : List B3} {i j k m : Nat} (hi : i < bs.length) (hj : j < bs.length) (hk : k < bs.length) (hm : m < bs.length) {o r : List B3} (h : o = [bs[i], bs[j], bs[k], bs[m]] ∧ (r.Perm ([bs[i], bs[j], bs[k], bs[m]].map (exB (ptA [bs[i], bs[j], bs[k], bs[m]]) (ptB v.toNat [bs[i], bs[j], bs[k], bs[m]]))) ∧ SrtB r)) : (o, r) = trQ v bs [(i : Int), (j : Int), (k : Int), (m : Int)] := by
  have e : [(i : Int), (j : Int), (k : Int), (m : Int)].map (blk bs) = [bs[i], bs[j], bs[k], bs[m]] := by
    simp only [List.map_cons, List.map_nil, blk_get hi, blk_get hj, blk_get hk, blk_get hm]
  unfold trQ
  rw [e, ← insT_eq h.2, h.1]
theorem four_lt {v : Int} {bs : List B3} (h : bs.Pairwise B3.lt) {i j k m : Nat} (h1 : i < j) (h2 : j < k) (h3 : k < m) (hm : m < bs.length) : [bs[i], bs[j], bs[k], bs[m]].Pairwise B3.lt := by
  have key := List.pairwise_iff_getElem.1 h
  simp only [List.pairwise_cons, List.mem_cons, List.not_mem_nil, or_false, forall_eq_or_imp, forall_eq, List.Pairwise.nil, and_true, false_implies, implies_true]
  exact ⟨⟨key i j (by omega) (by omega) h1, key i k (by omega) (by omega) (by omega), key i m (by omega) hm (by omega)⟩, ⟨key j k (by omega) (by omega) h2, key j m (by omega) hm (by omega)⟩, key k m (by omega) hm h3⟩
end Go.Vc
namespace Go.Vc
theorem srt_some : ∀ l : List B3, ∃ i, i.Perm l ∧ SrtB i := by
  intro l
  induction l with
  | nil => exact ⟨[], List.Perm.refl _, List.Pairwise.nil⟩
  | cons b l ih =>
    obtain ⟨i, hp, hs⟩ := ih
    have h0 := List.filter_append_perm (fun x => decide (leB x b)) i
    refine ⟨i.filter (fun x => decide (leB x b)) ++ b :: i.filter (fun x => !decide (leB x b)), (List.perm_middle.trans ((h0.trans hp).cons b)), ?_⟩
    unfold SrtB
    rw [List.pairwise_append, List.pairwise_cons]
    have h1 : ∀ x ∈ i.filter (fun x => decide (leB x b)), leB x b := fun x hx => of_decide_eq_true (List.mem_filter.1 hx).2
    have h2 : ∀ x ∈ i.filter (fun x => !decide (leB x b)), leB b x := fun x hx => by
      have h := (List.mem_filter.1 hx).2
      have h3 : ¬ leB x b := by simpa using h
      unfold leB at h3 ⊢
      unfold B3.lt at *
      omega
    exact ⟨hs.sublist List.filter_sublist, ⟨h2, hs.sublist List.filter_sublist⟩, fun x hx y hy => by
      rcases List.mem_cons.1 hy with rfl | hy
      · exact h1 x hx
      · exact leB_trans (h1 x hx) (h2 y hy)⟩
theorem insT_len {n : Nat} {fs : List B3} : (insT n fs).length = fs.length := by
  obtain ⟨i, h⟩ := srt_some (fs.map (exB (ptA fs) (ptB n fs)))
  rw [← insT_eq h, h.1.length_eq, List.length_map]
theorem TRL.small {v : Int} {bs : List B3} {c : List (List B3 × List B3)} (h : TRL v bs c) : ∀ q ∈ c, q.1.length ≤ 4 ∧ q.2.length ≤ 4 := by
  intro q hq
  by_cases hS : STS v bs
  · obtain ⟨ls, hl, rfl⟩ := h.1 hS
    obtain ⟨r, hr, rfl⟩ := List.mem_map.1 hq
    have h4 := ((hl.2 r).1 hr).four
    unfold trQ
    dsimp only
    rw [insT_len, List.length_map]
    omega
  · rw [h.2 hS] at hq
    simp at hq
end Go.Vc
/-
  The calculus, part 31: lists of trades, and their marks.
-/
namespace Go.Vc
open Go Go.RowKit
/-- A trade with v points: the slices of its two lists. -/
def TrC (v : Int) : Cod (Sl × Sl) := ⟨3, fun s => [.int .i64 v, s.1.v, s.2.v], by decide, fun _ => rfl, fun _ u hu => by simp at hu; rcases hu with rfl | rfl | rfl <;> rfl⟩
def TrP : Cod (Int × Sl × Sl) := ⟨3, fun p => [.int .i64 p.1, p.2.1.v, p.2.2.v], by decide, fun _ => rfl, fun _ u hu => by simp at hu; rcases hu with rfl | rfl | rfl <;> rfl⟩
abbrev TrL : Type := List ((Sl × List B3) × (Sl × List B3))
def topT (ts : TrL) : List (Sl × Sl) := ts.map fun t => (t.1.1, t.2.1)
def outT (ts : TrL) : List (Sl × List B3) := ts.map fun t => t.1
def innT (ts : TrL) : List (Sl × List B3) := ts.map fun t => t.2
def contT (ts : TrL) : List (List B3 × List B3) := ts.map fun t => (t.1.2, t.2.2)
theorem topT_len (ts : TrL) : (topT ts).length = ts.length := List.length_map ..
theorem outT_len (ts : TrL) : (outT ts).length = ts.length := List.length_map ..
theorem innT_len (ts : TrL) : (innT ts).length = ts.length := List.length_map ..
theorem contT_len (ts : TrL) : (contT ts).length = ts.length := List.length_map ..
theorem contT_append (ts us : TrL) : contT (ts ++ us) = contT ts ++ contT us := List.map_append ..
theorem topT_append (ts us : TrL) : topT (ts ++ us) = topT ts ++ topT us := List.map_append ..
theorem contT_get (ts : TrL) {k : Nat} (h : k < ts.length) (h1 : k < (contT ts).length) : (contT ts)[k] = ((ts[k]).1.2, (ts[k]).2.2) := List.getElem_map ..
section
variable {T tT : TypeId} {w0 w : World} {H H' H2 : List Assn} {v : Int}
/-- The lists of trades: each owned, apart. -/
def TrsA (T : TypeId) (ts : TrL) : Assn := .sep (RowsA T B3C (outT ts)) (RowsA T B3C (innT ts))
theorem TrsA.opened {ts : TrL} (hw : St w0 (TrsA T ts :: H) w) : St w0 (RowsA T B3C (outT ts) :: RowsA T B3C (innT ts) :: H) w := hw.sep
theorem TrsA.close {ts : TrL} (hw : St w0 (RowsA T B3C (outT ts) :: RowsA T B3C (innT ts) :: H) w) : St w0 (TrsA T ts :: H) w := hw.unsep
theorem TrsA.nil (hw : St w0 H w) : St w0 (TrsA T [] :: H) w := TrsA.close (RowsA.nil (RowsA.nil hw))
theorem rows_snoc {ps : List (Sl × List B3)} {B : Option Addr} {d : Nat} {xs : List B3} (hw : St w0 (Own T B3C B d xs :: RowsA T B3C ps :: H) w) : St w0 (RowsA T B3C (ps ++ [(⟨B, xs.length, d⟩, xs)]) :: H) w := by
  have h := RowsA.cons hw
  exact RowsA.perm (List.perm_append_comm (l₁ := [(⟨B, xs.length, d⟩, xs)]) (l₂ := ps)) h
theorem trs_snoc {A B1 B2 : Option Addr} {c d1 d2 : Nat} {ts : TrL} {os ns : List B3} (hw : St w0 (Own tT (TrC v) A c (topT ts ++ [(⟨B1, os.length, d1⟩, ⟨B2, ns.length, d2⟩)]) :: TrsA T ts :: Own T B3C B1 d1 os :: Own T B3C B2 d2 ns :: H) w) :
    St w0 (Own tT (TrC v) A c (topT (ts ++ [((⟨B1, os.length, d1⟩, os), (⟨B2, ns.length, d2⟩, ns))])) :: TrsA T (ts ++ [((⟨B1, os.length, d1⟩, os), (⟨B2, ns.length, d2⟩, ns))]) :: H) w := by
  rw [topT_append]
  have h1 : St w0 (TrsA T ts :: Own T B3C B1 d1 os :: Own T B3C B2 d2 ns :: Own tT (TrC v) A c (topT ts ++ [(⟨B1, os.length, d1⟩, ⟨B2, ns.length, d2⟩)]) :: H) w := hw.sub (Sub.keep 1 rfl (Sub.keep 1 rfl (Sub.keep 1 rfl (Sub.keep 0 rfl (Sub.refl _)))))
  have h2 := TrsA.opened h1
  have h3 := rows_snoc (h2.sub (Sub.keep 2 rfl (Sub.keep 0 rfl (Sub.keep 0 rfl (Sub.keep 0 rfl (Sub.keep 0 rfl (Sub.refl _)))))))
  have h4 := rows_snoc (h3.sub (Sub.keep 2 rfl (Sub.keep 1 rfl (Sub.keep 0 rfl (Sub.keep 0 rfl (Sub.refl _))))))
  have h5 := h4.perm (List.Perm.swap _ _ _)
  have e1 : outT (ts ++ [((⟨B1, os.length, d1⟩, os), (⟨B2, ns.length, d2⟩, ns))]) = outT ts ++ [(⟨B1, os.length, d1⟩, os)] := List.map_append ..
  have e2 : innT (ts ++ [((⟨B1, os.length, d1⟩, os), (⟨B2, ns.length, d2⟩, ns))]) = innT ts ++ [(⟨B2, ns.length, d2⟩, ns)] := List.map_append ..
  rw [← e1, ← e2] at h5
  exact (TrsA.close h5).perm (List.Perm.swap _ _ _)
/-- A list of trades that is read. -/
structure RdT (v : Int) (w : World) (A : Option Addr) (ts : TrL) : Prop where
  top : Rd (TrC v) w A (topT ts)
  lo : ∀ k (hk : k < ts.length), (ts[k]).1.1.n = (ts[k]).1.2.length
  li : ∀ k (hk : k < ts.length), (ts[k]).2.1.n = (ts[k]).2.2.length
  ro : ∀ k (hk : k < ts.length), Rd B3C w (ts[k]).1.1.A (ts[k]).1.2
  ri : ∀ k (hk : k < ts.length), Rd B3C w (ts[k]).2.1.A (ts[k]).2.2
theorem TrsA.rdT {A : Option Addr} {c : Nat} {ts : TrL} (hw : St w0 (Own tT (TrC v) A c (topT ts) :: TrsA T ts :: H) w) : RdT v w A ts := by
  have h1 := TrsA.opened (hw.perm (List.Perm.swap _ _ _))
  have e1 : ∀ k (hk : k < ts.length), (outT ts)[k]'(by rw [outT_len]; exact hk) = (ts[k]).1 := fun k hk => List.getElem_map ..
  have e2 : ∀ k (hk : k < ts.length), (innT ts)[k]'(by rw [innT_len]; exact hk) = (ts[k]).2 := fun k hk => List.getElem_map ..
  refine ⟨Own.rd (i := 2) h1 rfl, fun k hk => ?_, fun k hk => ?_, fun k hk => ?_, fun k hk => ?_⟩
  · have := (RowsA.len 0 rfl w h1 _ (List.getElem_mem (l := outT ts) (by rw [outT_len]; exact hk))).1
    rwa [e1 k hk] at this
  · have := (RowsA.len 1 rfl w h1 _ (List.getElem_mem (l := innT ts) (by rw [innT_len]; exact hk))).1
    rwa [e2 k hk] at this
  · have := Ld.rows 0 rfl (k := k) (ps := outT ts) (by rw [outT_len]; exact hk) w h1
    rwa [e1 k hk] at this
  · have := Ld.rows 1 rfl (k := k) (ps := innT ts) (by rw [innT_len]; exact hk) w h1
    rwa [e2 k hk] at this
theorem Ld.tt {A : Option Addr} {c : Nat} {ts : TrL} (i j : Nat) (hp : pull i H = some (Own tT (TrC v) A c (topT ts), H')) (hq : pull j H' = some (TrsA T ts, H2)) : ∀ w, St w0 H w → RdT v w A ts := by
  intro w hw
  have h1 := hw.perm (pull_perm hp)
  have h2 := h1.perm ((pull_perm hq).cons _)
  exact TrsA.rdT h2
theorem RdT.nil (w : World) (A : Option Addr) : RdT v w A [] := ⟨Rd.nil _ _ _, fun k hk => by simp at hk, fun k hk => by simp at hk, fun k hk => by simp at hk, fun k hk => by simp at hk⟩
theorem RdT.below {A : Option Addr} {ts : TrL} (h : RdT v w0 A ts) (hb : Bel w0.heap.size w0 w) : RdT v w A ts := ⟨h.top.below hb, h.lo, h.li, fun k hk => (h.ro k hk).below hb, fun k hk => (h.ri k hk).below hb⟩
/-- A trade that is read whole. -/
theorem Ld.rowT {A : Option Addr} {ts : TrL} (h : ∀ w, St w0 H w → RdT v w A ts) {k s : Nat} (hk : k < ts.length) (hs : s = 3) :
    ∀ w, St w0 H w → ∃ q, A.map (·.add (k * s)) = some q ∧ ∀ m u, ([.int .i64 v, .slice (ts[k]).1.1.A (ts[k]).1.2.length (ts[k]).1.1.c, .slice (ts[k]).2.1.A (ts[k]).2.2.length (ts[k]).2.1.c] : List Value)[m]? = some u → w.cell? (q.add m) = some u := by
  intro w hw
  have hk' : k < (topT ts).length := by rw [topT_len]; exact hk
  obtain ⟨q, h1, h2⟩ := Ld.rds (C := TrC v) (fun w hw => (h w hw).top) hk' (s := s) hs w hw
  refine ⟨q, h1, fun m u hm => h2 m u ?_⟩
  have e : (topT ts)[k] = ((ts[k]).1.1, (ts[k]).2.1) := List.getElem_map ..
  rw [e]
  simp only [TrC, Sl.v, (h w hw).lo k hk, (h w hw).li k hk]
  exact hm
end
/-! ### Marks -/
def sumT : TrL → Nat
  | [] => 0
  | t :: r => 1 + 3 * t.1.2.length + 3 * t.2.2.length + sumT r
def mkTT : Int → TrL → List (Int × Sl × Sl)
  | _, [] => []
  | m, t :: r => (m, t.1.1, t.2.1) :: mkTT (m + 1 + 3 * (t.1.2.length : Int) + 3 * (t.2.2.length : Int)) r
def mkTO : Int → TrL → List (Sl × List B3)
  | _, [] => []
  | m, t :: r => (t.1.1, marksB (m + 1) t.1.2.length) :: mkTO (m + 1 + 3 * (t.1.2.length : Int) + 3 * (t.2.2.length : Int)) r
def mkTN : Int → TrL → List (Sl × List B3)
  | _, [] => []
  | m, t :: r => (t.2.1, marksB (m + 1 + 3 * (t.1.2.length : Int)) t.2.2.length) :: mkTN (m + 1 + 3 * (t.1.2.length : Int) + 3 * (t.2.2.length : Int)) r
theorem sumT_append : ∀ ts us, sumT (ts ++ us) = sumT ts + sumT us := by
  intro ts us
  induction ts with
  | nil => simp [sumT]
  | cons t ts ih => simp only [List.cons_append, sumT, ih]; omega
theorem mkTT_append : ∀ ts us m, mkTT m (ts ++ us) = mkTT m ts ++ mkTT (m + (sumT ts : Int)) us := by
  intro ts us
  induction ts with
  | nil => intro m; simp [mkTT, sumT]
  | cons t ts ih => intro m; simp only [List.cons_append, mkTT, sumT, ih]; congr 3; push_cast; omega
theorem mkTO_append : ∀ ts us m, mkTO m (ts ++ us) = mkTO m ts ++ mkTO (m + (sumT ts : Int)) us := by
  intro ts us
  induction ts with
  | nil => intro m; simp [mkTO, sumT]
  | cons t ts ih => intro m; simp only [List.cons_append, mkTO, sumT, ih]; congr 3; push_cast; omega
theorem mkTN_append : ∀ ts us m, mkTN m (ts ++ us) = mkTN m ts ++ mkTN (m + (sumT ts : Int)) us := by
  intro ts us
  induction ts with
  | nil => intro m; simp [mkTN, sumT]
  | cons t ts ih => intro m; simp only [List.cons_append, mkTN, sumT, ih]; congr 3; push_cast; omega
theorem mkTT_len : ∀ ts m, (mkTT m ts).length = ts.length := by
  intro ts
  induction ts with
  | nil => intro m; rfl
  | cons t ts ih => intro m; simp [mkTT, ih]
theorem mkTO_len : ∀ ts m, (mkTO m ts).length = ts.length := by
  intro ts
  induction ts with
  | nil => intro m; rfl
  | cons t ts ih => intro m; simp [mkTO, ih]
theorem mkTN_len : ∀ ts m, (mkTN m ts).length = ts.length := by
  intro ts
  induction ts with
  | nil => intro m; rfl
  | cons t ts ih => intro m; simp [mkTN, ih]
section
variable {ts : TrL} {m v : Int} {k : Nat}
theorem sumT_take (h : k < ts.length) : sumT (ts.take (k + 1)) = sumT (ts.take k) + 1 + 3 * (ts[k]).1.2.length + 3 * (ts[k]).2.2.length := by
  rw [take_snoc h, sumT_append]
  simp only [sumT]
  omega
theorem sumT_le : sumT (ts.take k) ≤ sumT ts := by
  have h := sumT_append (ts.take k) (ts.drop k)
  rw [List.take_append_drop] at h
  omega
theorem at_mid {α β : Type} {f : Int → List α → List β} {g : List α → Nat} (hf : ∀ xs ys m, f m (xs ++ ys) = f m xs ++ f (m + (g xs : Int)) ys) (hl : ∀ xs m, (f m xs).length = xs.length) {xs : List α} {m : Int} {k : Nat} (hk : k < xs.length) (h1 : k < (f m xs).length) (h2 : 0 < (f (m + (g (xs.take k) : Int)) (xs[k] :: xs.drop (k + 1))).length) : (f m xs)[k] = (f (m + (g (xs.take k) : Int)) (xs[k] :: xs.drop (k + 1)))[0] := by
  have e : xs = xs.take k ++ (xs[k] :: xs.drop (k + 1)) := by rw [← List.drop_eq_getElem_cons hk, List.take_append_drop]
  have h2 : f m xs = f m (xs.take k) ++ f (m + (g (xs.take k) : Int)) (xs[k] :: xs.drop (k + 1)) := by rw [← hf, ← e]
  have hl : (f m (xs.take k)).length = k := by rw [hl, List.length_take]; omega
  have h3 := List.getElem_of_eq h2 h1
  rw [h3, List.getElem_append_right (by omega)]
  simp only [hl, Nat.sub_self]
theorem mkTT_get (hk : k < ts.length) (h1 : k < (mkTT m ts).length) : (mkTT m ts)[k] = (m + (sumT (ts.take k) : Int), (ts[k]).1.1, (ts[k]).2.1) := at_mid mkTT_append mkTT_len hk h1 (by simp [mkTT])
theorem mkTO_get (hk : k < ts.length) (h1 : k < (mkTO m ts).length) : (mkTO m ts)[k] = ((ts[k]).1.1, marksB (m + (sumT (ts.take k) : Int) + 1) (ts[k]).1.2.length) := at_mid mkTO_append mkTO_len hk h1 (by simp [mkTO])
theorem mkTN_get (hk : k < ts.length) (h1 : k < (mkTN m ts).length) : (mkTN m ts)[k] = ((ts[k]).2.1, marksB (m + (sumT (ts.take k) : Int) + 1 + 3 * ((ts[k]).1.2.length : Int)) (ts[k]).2.2.length) := at_mid mkTN_append mkTN_len hk h1 (by simp [mkTN])
/-- The tops when k of the trades are marked. -/
def tT (v m : Int) (ts : TrL) (k : Nat) : List (Int × Sl × Sl) := mkTT m (ts.take k) ++ (ts.drop k).map fun t => (v, t.1.1, t.2.1)
theorem tT_len (hk : k ≤ ts.length) : (tT v m ts k).length = ts.length := by
  unfold tT
  rw [List.length_append, mkTT_len, List.length_map, List.length_take, List.length_drop]
  omega
theorem tT_zero : tT v m ts 0 = ts.map fun t => (v, t.1.1, t.2.1) := by simp [tT, mkTT]
theorem tT_all (h : k = ts.length) : tT v m ts k = mkTT m ts := by
  unfold tT
  rw [List.take_of_length_le (by omega), List.drop_eq_nil_of_le (by omega)]
  simp
theorem tT_set (h : k < ts.length) : (tT v m ts k).set k (m + (sumT (ts.take k) : Int), (ts[k]).1.1, (ts[k]).2.1) = tT v m ts (k + 1) := by
  have hl : (mkTT m (ts.take k)).length = k := by rw [mkTT_len, List.length_take]; omega
  unfold tT
  rw [List.set_append_right _ _ (by omega), hl, Nat.sub_self, List.drop_eq_getElem_cons h, List.map_cons, List.set_cons_zero, take_snoc h, mkTT_append]
  simp [mkTT]
theorem tT_at (h : k < ts.length) (h1 : k < (tT v m ts k).length) : (tT v m ts k)[k] = (v, (ts[k]).1.1, (ts[k]).2.1) := by
  have hl : (mkTT m (ts.take k)).length = k := by rw [mkTT_len, List.length_take]; omega
  have e : tT v m ts k = mkTT m (ts.take k) ++ (ts.drop k).map fun t => (v, t.1.1, t.2.1) := rfl
  have h3 := List.getElem_of_eq e h1
  rw [h3, List.getElem_append_right (by omega)]
  simp only [hl, Nat.sub_self, List.drop_eq_getElem_cons h, List.map_cons, List.getElem_cons_zero]
theorem tT_last (h : k < ts.length) (h1 : k < (tT v m ts (k + 1)).length) : (tT v m ts (k + 1))[k] = (m + (sumT (ts.take k) : Int), (ts[k]).1.1, (ts[k]).2.1) := by
  have e := (tT_set (v := v) (m := m) h).symm
  rw [List.getElem_of_eq e h1, List.getElem_set_self]
theorem mkTO_take (h : k < ts.length) : mkTO m (ts.take (k + 1)) = mkTO m (ts.take k) ++ [((ts[k]).1.1, marksB (m + (sumT (ts.take k) : Int) + 1) (ts[k]).1.2.length)] := by
  rw [take_snoc h, mkTO_append]
  rfl
theorem mkTN_take (h : k < ts.length) : mkTN m (ts.take (k + 1)) = mkTN m (ts.take k) ++ [((ts[k]).2.1, marksB (m + (sumT (ts.take k) : Int) + 1 + 3 * ((ts[k]).1.2.length : Int)) (ts[k]).2.2.length)] := by
  rw [take_snoc h, mkTN_append]
  rfl
theorem outT_at (h : k < ts.length) (h1 : k < (outT ts).length) : (outT ts)[k] = (ts[k]).1 := List.getElem_map ..
theorem innT_at (h : k < ts.length) (h1 : k < (innT ts).length) : (innT ts)[k] = (ts[k]).2 := List.getElem_map ..
end
section
variable {T : TypeId} {w0 w : World} {H H' : List Assn} {v : Int}
theorem Own.toTP {A : Option Addr} {c : Nat} {ts : TrL} {m : Int} : ∀ w F, (Own T (TrC v) A c (topT ts)).P w F → (Own T TrP A c (tT v m ts 0)).P w F := by
  refine Own.recodeP rfl ?_ ?_
  · rw [tT_zero, topT_len, List.length_map]
  · rw [tT_zero]
    unfold topT
    rw [List.flatMap_map, List.flatMap_map]
    rfl
theorem Ld.partTP {A : Option Addr} {xs : List (Int × Sl × Sl)} {k s j : Nat} {u : Value} (hr : ∀ w, St w0 H w → Rd TrP w A xs) (hk : k < xs.length) (hs : s = 3) (hu : (TrP.enc xs[k])[j]? = some u) : ∀ w, St w0 H w → ∃ q, (A.map (·.add (k * s))).map (·.add j) = some q ∧ w.cell? q = some u := by
  intro w hw
  obtain ⟨q, h1, h2⟩ := Ld.rds hr hk (s := s) hs w hw
  exact ⟨q.add j, by rw [h1]; rfl, h2 j u hu⟩
/-- Marked trades that are read. -/
structure RdM (m : Int) (w : World) (A : Option Addr) (ts : TrL) : Prop where
  top : Rd TrP w A (mkTT m ts)
  lo : ∀ k (hk : k < ts.length), (ts[k]).1.1.n = (ts[k]).1.2.length
  li : ∀ k (hk : k < ts.length), (ts[k]).2.1.n = (ts[k]).2.2.length
  ro : ∀ k (hk : k < ts.length), Rd B3C w (ts[k]).1.1.A (marksB (m + (sumT (ts.take k) : Int) + 1) (ts[k]).1.2.length)
  ri : ∀ k (hk : k < ts.length), Rd B3C w (ts[k]).2.1.A (marksB (m + (sumT (ts.take k) : Int) + 1 + 3 * ((ts[k]).1.2.length : Int)) (ts[k]).2.2.length)
theorem Ld.mm {T2 c i j l : Nat} {A : Option Addr} {ts : TrL} {m : Int} {H2 H3 : List Assn} (hp : pull i H = some (Own T2 TrP A c (mkTT m ts), H')) (hq : pull j H = some (RowsA T B3C (mkTO m ts), H2)) (hr : pull l H = some (RowsA T B3C (mkTN m ts), H3)) : ∀ w, St w0 H w → RdM m w A ts := by
  intro w hw
  have b1 : ∀ k, k < ts.length → k < (mkTO m ts).length := fun k hk => by rw [mkTO_len]; exact hk
  have b2 : ∀ k, k < ts.length → k < (mkTN m ts).length := fun k hk => by rw [mkTN_len]; exact hk
  refine ⟨Own.rd hw hp, fun k hk => ?_, fun k hk => ?_, fun k hk => ?_, fun k hk => ?_⟩
  · have h := (RowsA.len j hq w hw _ (List.getElem_mem (b1 k hk))).1
    rwa [mkTO_get hk (b1 k hk), marksB_len] at h
  · have h := (RowsA.len l hr w hw _ (List.getElem_mem (b2 k hk))).1
    rwa [mkTN_get hk (b2 k hk), marksB_len] at h
  · have h := Ld.rows j hq (b1 k hk) w hw
    rwa [mkTO_get hk (b1 k hk)] at h
  · have h := Ld.rows l hr (b2 k hk) w hw
    rwa [mkTN_get hk (b2 k hk)] at h
end
end Go.Vc
namespace Go.Vc
open Go Go.RowKit
section
variable {T : TypeId} {w0 w : World} {H : List Assn} {ts : TrL} {k : Nat} {qs : List (Sl × List B3)}
theorem trow_out (hk : k < ts.length) (hw : St w0 (RowsA T B3C (qs ++ (outT ts).drop k) :: H) w) : St w0 (Own T B3C (ts[k]).1.1.A (ts[k]).1.1.c (ts[k]).1.2 :: RowsA T B3C (qs ++ (outT ts).drop (k + 1)) :: H) w := by
  have hk2 : k < (outT ts).length := by rw [outT_len]; exact hk
  have h := row_out hk2 hw
  rwa [outT_at hk hk2] at h
theorem trow_in (hk : k < ts.length) (hw : St w0 (RowsA T B3C (qs ++ (innT ts).drop k) :: H) w) : St w0 (Own T B3C (ts[k]).2.1.A (ts[k]).2.1.c (ts[k]).2.2 :: RowsA T B3C (qs ++ (innT ts).drop (k + 1)) :: H) w := by
  have hk2 : k < (innT ts).length := by rw [innT_len]; exact hk
  have h := row_out hk2 hw
  rwa [innT_at hk hk2] at h
theorem contT_ext {ts us : TrL} (hl : ts.length = us.length) (h : ∀ j (h1 : j < ts.length) (h2 : j < us.length), (ts[j]).1.2 = (us[j]).1.2 ∧ (ts[j]).2.2 = (us[j]).2.2) : contT ts = contT us := by
  refine List.ext_getElem (by rw [contT_len, contT_len]; exact hl) (fun j h1 h2 => ?_)
  rw [contT_len] at h1 h2
  rw [contT_get ts h1, contT_get us h2]
  exact Prod.ext (h j h1 h2).1 (h j h1 h2).2
theorem contT_at {ts us : TrL} (h : contT ts = contT us) {j : Nat} (h1 : j < ts.length) (h2 : j < us.length) : (ts[j]).1.2 = (us[j]).1.2 ∧ (ts[j]).2.2 = (us[j]).2.2 := by
  have e := List.getElem_of_eq h (by rw [contT_len]; exact h1)
  rw [contT_get ts h1, contT_get us h2] at e
  exact ⟨(Prod.mk.inj e).1, (Prod.mk.inj e).2⟩
theorem sumT_bd {K : Nat} : ∀ {ts : TrL}, (∀ q ∈ contT ts, q.1.length ≤ K ∧ q.2.length ≤ K) → sumT ts ≤ (1 + 6 * K) * ts.length := by
  intro ts
  induction ts with
  | nil => intro _; simp [sumT]
  | cons t ts ih =>
    intro h
    have h1 := ih (fun q hq => h q (List.mem_cons_of_mem _ hq))
    have h2 := h (t.1.2, t.2.2) (by unfold contT; rw [List.map_cons]; exact List.mem_cons_self)
    dsimp only at h2
    simp only [sumT, List.length_cons, Nat.mul_add, Nat.mul_one]
    omega
end
end Go.Vc
/-
  Plain words: lists of the trades of Pasch are not long.
-/
namespace Go.Vc
open Go Go.RowKit
theorem TRL.rows {v : Int} {bs : List B3} {ts : TrL} (h : TRL v bs (contT ts)) : ∀ k (hk : k < ts.length), (ts[k]).1.2.length ≤ 1000 ∧ (ts[k]).2.2.length ≤ 1000 := by
  intro k hk
  have hm : ((ts[k]).1.2, (ts[k]).2.2) ∈ contT ts := List.mem_map_of_mem (f := fun t : (Sl × List B3) × (Sl × List B3) => (t.1.2, t.2.2)) (List.getElem_mem hk)
  have h1 := h.small _ hm
  dsimp only at h1
  omega
theorem TRL.sum {v : Int} {bs : List B3} {ts : TrL} (h : TRL v bs (contT ts)) (hl : ts.length ≤ 1500625) : sumT ts ≤ 37515625 := by
  have h1 := sumT_bd h.small
  omega
section
variable {T tT : TypeId} {w0 w : World} {H : List Assn} {v : Int}
theorem trs_three {O : Assn} {ts : TrL} (hw : St w0 (O :: TrsA T ts :: H) w) : St w0 (O :: RowsA T B3C (outT ts) :: RowsA T B3C (innT ts) :: H) w := by
  have h := TrsA.opened (hw.perm (List.Perm.swap _ _ _))
  exact h.sub (Sub.keep 2 rfl (Sub.keep 0 rfl (Sub.keep 0 rfl (Sub.refl _))))
end
end Go.Vc
