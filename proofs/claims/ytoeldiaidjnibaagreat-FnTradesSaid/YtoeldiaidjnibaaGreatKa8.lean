/-
  The calculus and plain words, part 8.
-/
import Derived.Test.YtoeldiaidjnibaaGreatKa7
set_option linter.unusedVariables false
set_option linter.unusedSimpArgs false
/-
  Plain words: the systems of nine points as bits are as the families ask.
-/
namespace Go.Vc
def catG : List (List Nat) → List Nat
  | [] => []
  | g :: gs => g ++ catG gs
/-- The groups have their own bits. -/
def Bits (o : Nat) (gs : List (List Nat)) : Prop := ∀ k (h : k < gs.length), ∀ s ∈ gs[k], s % 128 = 2 ^ (o + k)
theorem Bits.head {o : Nat} {g : List Nat} {gs : List (List Nat)} (h : Bits o (g :: gs)) : ∀ s ∈ g, s % 128 = 2 ^ o := h 0 (by simp)
theorem Bits.tail {o : Nat} {g : List Nat} {gs : List (List Nat)} (h : Bits o (g :: gs)) : Bits (o + 1) gs := fun k hk s hs => by
  have := h (k + 1) (by simp; omega) s (by simpa using hs)
  rw [this]
  congr 1
  omega
/-! ### Families of a system -/
/-- All families with a system: the numbers of the others. -/
noncomputable def famL (bs : List B3) : List (List Int) := famT ms9 6 [] (mkF bs)
end Go.Vc
/-
  The calculus, part 30: some of a list of systems; marks of systems with their numbers of points.
-/
namespace Go.Vc
open Go Go.RowKit
section
variable {α : Type} {C : Cod α} {T T2 : TypeId} {w0 w : World} {H H' : List Assn}
theorem sub_list {A B : List Assn} (h : A.Sublist B) : Sub (B ++ H) (A ++ H) := by
  induction h with
  | slnil => exact Sub.refl _
  | cons x _ ih => exact Sub.drop ih
  | cons_cons x _ ih => exact Sub.keep 0 rfl ih
theorem RowsA.some {ps qs : List (Sl × List α)} (h : qs.Sublist ps) (hw : St w0 (RowsA T C ps :: H) w) : St w0 (RowsA T C qs :: H) w := St.rows.2 ((St.rows.1 hw).sub (sub_list (h.map _)))
def noRow : Sl × List α := (⟨none, 0, 0⟩, [])
end
/-! ### Marks of systems -/
/-- A system with its number of points. -/
def SyP : Cod (Int × Sl) := ⟨2, fun p => [.int .i64 p.1, p.2.v], by decide, fun _ => rfl, fun _ u hu => by simp at hu; rcases hu with rfl | rfl <;> rfl⟩
def sumB : List (Sl × List B3) → Nat
  | [] => 0
  | p :: r => 1 + 3 * p.2.length + sumB r
def mkT : Int → List (Sl × List B3) → List (Int × Sl)
  | _, [] => []
  | m, p :: r => (m, p.1) :: mkT (m + 1 + 3 * (p.2.length : Int)) r
def mkR : Int → List (Sl × List B3) → List (Sl × List B3)
  | _, [] => []
  | m, p :: r => (p.1, marksB (m + 1) p.2.length) :: mkR (m + 1 + 3 * (p.2.length : Int)) r
theorem mkR_append : ∀ ps qs m, mkR m (ps ++ qs) = mkR m ps ++ mkR (m + (sumB ps : Int)) qs := by
  intro ps qs
  induction ps with
  | nil => intro m; simp [mkR, sumB]
  | cons p ps ih =>
    intro m
    simp only [List.cons_append, mkR, sumB, ih]
    congr 3
    push_cast
    omega
theorem mkR_len : ∀ ps m, (mkR m ps).length = ps.length := by
  intro ps
  induction ps with
  | nil => intro m; rfl
  | cons p ps ih => intro m; simp [mkR, ih]
section
variable {ps : List (Sl × List B3)} {m v : Int} {k : Nat}
theorem mkR_get (hk : k < ps.length) (h1 : k < (mkR m ps).length) : (mkR m ps)[k] = ((ps[k]).1, marksB (m + (sumB (ps.take k) : Int) + 1) (ps[k]).2.length) := by
  have e : ps = ps.take k ++ (ps[k] :: ps.drop (k + 1)) := by rw [← List.drop_eq_getElem_cons hk, List.take_append_drop]
  have h2 : mkR m ps = mkR m (ps.take k) ++ mkR (m + (sumB (ps.take k) : Int)) (ps[k] :: ps.drop (k + 1)) := by rw [← mkR_append, ← e]
  have hl : (mkR m (ps.take k)).length = k := by rw [mkR_len, List.length_take]; omega
  have h3 := List.getElem_of_eq h2 h1
  rw [h3, List.getElem_append_right (by omega)]
  simp only [hl, Nat.sub_self, mkR, List.getElem_cons_zero]
/-- The tops when k of the systems are marked. -/
def tS (v m : Int) (ps : List (Sl × List B3)) (k : Nat) : List (Int × Sl) := mkT m (ps.take k) ++ (ps.drop k).map fun p => (v, p.1)
end
section
variable {T : TypeId} {w0 w : World} {H H' : List Assn} {v : Int}
/-- Marked systems that are read. -/
structure RdP (m : Int) (w : World) (A : Option Addr) (ps : List (Sl × List B3)) : Prop where
  top : Rd SyP w A (mkT m ps)
  len : ∀ k (hk : k < ps.length), (ps[k]).1.n = (ps[k]).2.length
  row : ∀ k (hk : k < ps.length), Rd B3C w (ps[k]).1.A (marksB (m + (sumB (ps.take k) : Int) + 1) (ps[k]).2.length)
theorem Ld.pp {T2 c i j : Nat} {A : Option Addr} {ps : List (Sl × List B3)} {m : Int} {H2 : List Assn} (hp : pull i H = some (Own T2 SyP A c (mkT m ps), H')) (hq : pull j H = some (RowsA T B3C (mkR m ps), H2)) : ∀ w, St w0 H w → RdP m w A ps := by
  intro w hw
  refine ⟨Own.rd hw hp, fun k hk => ?_, fun k hk => ?_⟩
  · have hk2 : k < (mkR m ps).length := by rw [mkR_len]; exact hk
    have h := (RowsA.len j hq w hw _ (List.getElem_mem hk2)).1
    rw [mkR_get hk hk2, marksB_len] at h
    exact h
  · have hk2 : k < (mkR m ps).length := by rw [mkR_len]; exact hk
    have h := Ld.rows j hq hk2 w hw
    rw [mkR_get hk hk2] at h
    exact h
end
end Go.Vc
namespace Go.Vc
end Go.Vc
namespace Go.Vc
end Go.Vc
/-
  Plain words: the trade of a Pasch.
-/
namespace Go.Vc
/-- The first point, and the points that are in no block with it. -/
def ptA (fs : List B3) : Int := (fs.headD (0, 0, 0)).1
def PtC (fs : List B3) (p : Int) : Prop := p ≠ ptA fs ∧ (∃ c ∈ fs, has c p) ∧ ¬ ∃ c ∈ fs, has c p ∧ has c (ptA fs)
noncomputable instance (fs : List B3) : DecidablePred (PtC fs) := fun _ => Classical.propDecidable _
/-- The last number with a property, -1 if there is none. -/
def lastP (C : Int → Prop) [DecidablePred C] : Nat → Int
  | 0 => -1
  | n + 1 => if C (n : Int) then (n : Int) else lastP C n
noncomputable def ptB (n : Nat) (fs : List B3) : Int := lastP (PtC fs) n
def lastL (C : Int → Prop) [DecidablePred C] (l : List Int) : Int := l.foldl (fun a p => if C p then p else a) (-1)
section
variable {C : Int → Prop} [DecidablePred C] {n : Nat}
theorem lastP_yes (h : C (n : Int)) : lastP C (n + 1) = n := if_pos h
theorem lastP_no (h : ¬ C (n : Int)) : lastP C (n + 1) = lastP C n := if_neg h
theorem lastP_lt : -1 ≤ lastP C n ∧ lastP C n < n := by
  induction n with
  | zero => exact ⟨Int.le_refl _, (by show (-1 : Int) < 0; decide)⟩
  | succ n ih =>
    by_cases h : C (n : Int)
    · rw [lastP_yes h]; omega
    · rw [lastP_no h]; omega
theorem lastP_some : ∀ n : Nat, (∃ p : Int, 0 ≤ p ∧ p < n ∧ C p) → 0 ≤ lastP C n := by
  intro n
  induction n with
  | zero => rintro ⟨p, h1, h2, _⟩; omega
  | succ n ih =>
    rintro ⟨p, h1, h2, h3⟩
    by_cases h : C (n : Int)
    · rw [lastP_yes h]; omega
    · rw [lastP_no h]
      refine ih ⟨p, h1, ?_, h3⟩
      by_cases e : p = n
      · subst e; exact absurd h3 h
      · omega
theorem lastL_snoc {l : List Int} {p : Int} : lastL C (l ++ [p]) = if C p then p else lastL C l := by unfold lastL; rw [List.foldl_append]; rfl
end
/-! ### The points of a list -/
def ptsN (ps : List Int) (n : Nat) : List Int := ((List.range n).filter fun k : Nat => decide (0 < cN ps (k : Int))).map fun k : Nat => (k : Int)
section
variable {ps : List Int} {n : Nat}
theorem ptsN_yes (h : 0 < cN ps (n : Int)) : ptsN ps (n + 1) = ptsN ps n ++ [(n : Int)] := by
  unfold ptsN
  rw [List.range_succ, List.filter_append, List.filter_cons_of_pos (p := fun k : Nat => decide (0 < cN ps (k : Int))) (decide_eq_true h), List.map_append]
  rfl
theorem ptsN_no (h : ¬ 0 < cN ps (n : Int)) : ptsN ps (n + 1) = ptsN ps n := by
  unfold ptsN
  rw [List.range_succ, List.filter_append, List.filter_cons_of_neg (p := fun k : Nat => decide (0 < cN ps (k : Int))) (by rw [decide_eq_false h]; decide)]
  simp
theorem ptsN_mem {p : Int} : p ∈ ptsN ps n ↔ 0 ≤ p ∧ p < n ∧ 0 < cN ps p := by
  unfold ptsN
  simp only [List.mem_map, List.mem_filter, List.mem_range, decide_eq_true_eq]
  constructor
  · rintro ⟨k, ⟨h1, h2⟩, rfl⟩; exact ⟨by omega, by omega, h2⟩
  · rintro ⟨h1, h2, h3⟩
    exact ⟨p.toNat, ⟨by omega, by rw [show ((p.toNat : Nat) : Int) = p by omega]; exact h3⟩, by omega⟩
theorem ptsN_up : (ptsN ps n).Pairwise (· < ·) := by
  unfold ptsN
  rw [List.pairwise_map]
  exact (List.pairwise_lt_range.filter _).imp fun h => by omega
theorem ptsN_len : (ptsN ps n).length ≤ n := by
  unfold ptsN
  rw [List.length_map]
  refine Nat.le_trans (List.length_filter_le _ _) ?_
  rw [List.length_range]
  exact Nat.le_refl _
theorem lastL_pts {C : Int → Prop} [DecidablePred C] (h : ∀ p, C p → 0 < cN ps p) : ∀ n, lastL C (ptsN ps n) = lastP C n := by
  intro n
  induction n with
  | zero => rfl
  | succ n ih =>
    by_cases h1 : 0 < cN ps (n : Int)
    · rw [ptsN_yes h1, lastL_snoc, ih]; rfl
    · rw [ptsN_no h1, ih, lastP_no (fun hc => h1 (h _ hc))]
theorem posL_map {f : Nat → Int} : ∀ l : List Nat, posL (l.map f) = (l.filter fun k => decide (0 < f k)).length := by
  intro l
  induction l with
  | nil => rfl
  | cons x l ih =>
    rw [List.map_cons, List.filter_cons]
    simp only [posL, ih]
    by_cases h : 0 < f x
    · simp [h]; omega
    · simp [h]
theorem cntA_range (ps : List Int) : cntA ps = (List.range 15).map fun k : Nat => cN ps (k : Int) := rfl
theorem dist_pts (hn : n ≤ 15) (hp : ∀ p ∈ ps, 0 ≤ p ∧ p < n) : dist ps = (ptsN ps n).length := by
  have h15 : dist ps = (ptsN ps 15).length := by
    unfold dist ptsN
    rw [cntA_range, posL_map, List.length_map]
  have key : ∀ d, ptsN ps (n + d) = ptsN ps n := by
    intro d
    induction d with
    | zero => rfl
    | succ d ih =>
      rw [← Nat.add_assoc, ptsN_no, ih]
      intro h
      have h2 : ((n + d : Nat) : Int) ∈ ps := by
        unfold cN at h
        exact List.count_pos_iff.1 (by omega)
      have := hp _ h2
      omega
  rw [h15, show 15 = n + (15 - n) by omega, key]
/-- How often each point is there. -/
def cntV (ps : List Int) (n : Nat) : List Int := (List.range n).map fun k : Nat => cN ps (k : Int)
theorem cntV_len : (cntV ps n).length = n := by simp [cntV]
theorem cntV_nil : cntV [] n = List.replicate n 0 := by
  refine List.ext_getElem (by simp [cntV]) (fun i h1 h2 => ?_)
  simp [cntV, cN]
theorem cntV_get {p : Int} (h0 : 0 ≤ p) (h1 : p < n) (h : p.toNat < (cntV ps n).length) : (cntV ps n)[p.toNat] = cN ps p := by
  have e : ((p.toNat : Nat) : Int) = p := by omega
  simp only [cntV, List.getElem_map, List.getElem_range, e]
theorem cntV_set {p : Int} (h0 : 0 ≤ p) (h1 : p < n) : (cntV ps n).set p.toNat (cN ps p + 1) = cntV (ps ++ [p]) n := by
  refine List.ext_getElem (by simp [cntV]) (fun i h2 h3 => ?_)
  rw [List.getElem_set]
  simp only [cntV, List.getElem_map, List.getElem_range, cN_snoc]
  by_cases e : p.toNat = i
  · rw [if_pos e, if_pos (by omega), show ((i : Nat) : Int) = p by omega]
  · rw [if_neg e, if_neg (by omega)]
    omega
end
/-! ### The point that is in no block with the first one -/
section
variable {v : Int} {A B C D X Y Z : B3}
theorem hasN_pos {b : B3} {p : Int} : hasN b p = 1 ↔ has b p := by unfold hasN; split <;> simp_all
theorem far_core (gY : good v Y) (gZ : good v Z) (hp : ∀ p, hasN A p + hasN X p + hasN Y p + hasN Z p = 0 ∨ hasN A p + hasN X p + hasN Y p + hasN Z p = 2) (hX : has X A.1) : ∃ p, (has Y p ∨ has Z p) ∧ ¬ has A p ∧ ¬ has X p := by
  apply Classical.byContradiction
  intro hc
  have hall : ∀ p, has Y p ∨ has Z p → has A p ∨ has X p := by
    intro p h
    apply Classical.byContradiction
    intro h2
    exact hc ⟨p, h, fun h3 => h2 (.inl h3), fun h3 => h2 (.inr h3)⟩
  have hA1 : has A A.1 := .inl rfl
  have n1 := hasN_pos.2 hA1
  have n2 := hasN_pos.2 hX
  have hYa : ¬ has Y A.1 := fun h => by have := hp A.1; have := hasN_pos.2 h; omega
  have hZa : ¬ has Z A.1 := fun h => by have := hp A.1; have := hasN_pos.2 h; omega
  have hYZ : ∀ p, has Y p → ¬ has Z p := by
    intro p h1 h2
    have := hp p
    have := hasN_pos.2 h1
    have := hasN_pos.2 h2
    rcases hall p (.inl h1) with h | h
    · have := hasN_pos.2 h; omega
    · have := hasN_pos.2 h; omega
  have hnd : [Y.1, Y.2.1, Y.2.2, Z.1, Z.2.1, Z.2.2].Nodup := by
    have a1 := hYZ Y.1 (.inl rfl)
    have a2 := hYZ Y.2.1 (.inr (.inl rfl))
    have a3 := hYZ Y.2.2 (.inr (.inr rfl))
    unfold good at gY gZ
    unfold has at a1 a2 a3
    simp only [List.nodup_cons, List.mem_cons, List.not_mem_nil, or_false, not_false_eq_true, List.nodup_nil, and_true, not_or] at *
    omega
  have hsub : [Y.1, Y.2.1, Y.2.2, Z.1, Z.2.1, Z.2.2] ⊆ [A.2.1, A.2.2, X.1, X.2.1, X.2.2] := by
    have key : ∀ p, has Y p ∨ has Z p → p ∈ [A.2.1, A.2.2, X.1, X.2.1, X.2.2] := by
      intro p h
      have hne : p ≠ A.1 := by
        rintro rfl
        rcases h with h | h
        · exact hYa h
        · exact hZa h
      have := hall p h
      unfold has at this
      simp only [List.mem_cons, List.not_mem_nil, or_false]
      omega
    intro p hp2
    simp only [List.mem_cons, List.not_mem_nil, or_false] at hp2
    refine key p ?_
    unfold has
    omega
  have := hnd.length_le_of_subset hsub
  simp at this
theorem far_pt (gB : good v B) (gC : good v C) (gD : good v D) (hP : P4 A B C D) : ∃ p, PtC [A, B, C, D] p := by
  have hA1 : has A A.1 := .inl rfl
  have n1 := hasN_pos.2 hA1
  have h0 := hP A.1
  have fin : ∀ p X Y Z, (has Y p ∨ has Z p) → ¬ has A p → ¬ has X p → ¬ has Y A.1 → ¬ has Z A.1 → (∀ c, c ∈ [A, B, C, D] ↔ c ∈ [A, X, Y, Z]) → PtC [A, B, C, D] p := by
    intro p X Y Z h1 h2 h3 h4 h5 h6
    refine ⟨fun e => h2 (by rw [e]; exact hA1), ?_, ?_⟩
    · rcases h1 with h | h
      · exact ⟨Y, (h6 Y).2 (by simp), h⟩
      · exact ⟨Z, (h6 Z).2 (by simp), h⟩
    · rintro ⟨c, hc, hc1, hc2⟩
      have hc2 : has c A.1 := hc2
      have := (h6 c).1 hc
      simp only [List.mem_cons, List.not_mem_nil, or_false] at this
      rcases this with rfl | rfl | rfl | rfl
      · exact h2 hc1
      · exact h3 hc1
      · exact h4 hc2
      · exact h5 hc2
  have no : ∀ {X Y : B3}, hasN X A.1 = 0 → ¬ has X A.1 := fun h h2 => by have := hasN_pos.2 h2; omega
  by_cases hB : has B A.1
  · have := hasN_pos.2 hB
    obtain ⟨p, h1, h2, h3⟩ := far_core gC gD hP hB
    exact ⟨p, fin p B C D h1 h2 h3 (no (Y := A) (by omega)) (no (Y := A) (by omega)) (fun c => Iff.rfl)⟩
  · by_cases hC : has C A.1
    · have := hasN_pos.2 hC
      obtain ⟨p, h1, h2, h3⟩ := far_core (X := C) (Y := B) (Z := D) gB gD (fun p => by have := hP p; omega) hC
      exact ⟨p, fin p C B D h1 h2 h3 hB (no (Y := A) (by omega)) (fun c => by simp only [List.mem_cons, List.not_mem_nil, or_false]; constructor <;> (intro h; rcases h with h | h | h | h <;> simp [h]))⟩
    · by_cases hD : has D A.1
      · have := hasN_pos.2 hD
        obtain ⟨p, h1, h2, h3⟩ := far_core (X := D) (Y := B) (Z := C) gB gC (fun p => by have := hP p; omega) hD
        exact ⟨p, fin p D B C h1 h2 h3 hB hC (fun c => by simp only [List.mem_cons, List.not_mem_nil, or_false]; constructor <;> (intro h; rcases h with h | h | h | h <;> simp [h]))⟩
      · exfalso
        have b := hasN_le B A.1
        have hB' : hasN B A.1 ≠ 1 := fun h => hB (hasN_pos.1 h)
        have hC' : hasN C A.1 ≠ 1 := fun h => hC (hasN_pos.1 h)
        have hD' : hasN D A.1 ≠ 1 := fun h => hD (hasN_pos.1 h)
        have c := hasN_le C A.1
        have d := hasN_le D A.1
        omega
end
/-- The blocks that come for those of a Pasch, in order. -/
noncomputable def insT (n : Nat) (fs : List B3) : List B3 := Classical.epsilon fun i => i.Perm (fs.map (exB (ptA fs) (ptB n fs))) ∧ SrtB i
theorem insT_eq {n : Nat} {fs i : List B3} (h : i.Perm (fs.map (exB (ptA fs) (ptB n fs))) ∧ SrtB i) : i = insT n fs := by
  have h2 : (insT n fs).Perm (fs.map (exB (ptA fs) (ptB n fs))) ∧ SrtB (insT n fs) := Classical.epsilon_spec (p := fun i => i.Perm (fs.map (exB (ptA fs) (ptB n fs))) ∧ SrtB i) ⟨i, h⟩
  exact srtB_unique h.2 h2.2 (h.1.trans h2.1.symm)
/-- The trade of four blocks, by their numbers. -/
noncomputable def trQ (v : Int) (bs : List B3) (q : List Int) : List B3 × List B3 := (q.map (blk bs), insT v.toNat (q.map (blk bs)))
def TRL (v : Int) (bs : List B3) (c : List (List B3 × List B3)) : Prop := (STS v bs → ∃ ls, IsList (PQ bs) ls ∧ c = ls.map (trQ v bs)) ∧ (¬ STS v bs → c = [])
theorem TRL.unique {v : Int} {bs : List B3} {c d : List (List B3 × List B3)} (h1 : TRL v bs c) (h2 : TRL v bs d) : c = d := by
  by_cases h : STS v bs
  · obtain ⟨l1, a1, rfl⟩ := h1.1 h
    obtain ⟨l2, a2, rfl⟩ := h2.1 h
    rw [IsList.unique a1 a2]
  · rw [h1.2 h, h2.2 h]
end Go.Vc
namespace Go.Vc
/-! ### Four blocks, counted -/
theorem mem_blP {b : B3} {p : Int} : p ∈ bl b ↔ has b p := by
  unfold bl has
  simp only [List.mem_cons, List.not_mem_nil, or_false]
  constructor <;> (intro h; rcases h with h | h | h <;> simp [h])
theorem cN_has {fs : List B3} {p : Int} : 0 < cN (fs.flatMap bl) p ↔ ∃ c ∈ fs, has c p := by
  unfold cN
  have h1 : 0 < ((List.count p (fs.flatMap bl) : Nat) : Int) ↔ p ∈ fs.flatMap bl := by
    rw [← List.count_pos_iff (a := p) (l := fs.flatMap bl)]
    omega
  rw [h1, List.mem_flatMap]
  exact ⟨fun ⟨c, h, h2⟩ => ⟨c, h, mem_blP.1 h2⟩, fun ⟨c, h, h2⟩ => ⟨c, h, mem_blP.2 h2⟩⟩
theorem cN_bd {ps : List Int} {p : Int} : 0 ≤ cN ps p ∧ cN ps p ≤ ps.length := by
  unfold cN
  have := List.count_le_length (a := p) (l := ps)
  omega
section
variable {v : Int} {fs : List B3}
theorem fs_pts (hg : ∀ b ∈ fs, good v b) : ∀ p ∈ fs.flatMap bl, 0 ≤ p ∧ p < v := by
  intro p hp
  obtain ⟨c, hc, h⟩ := List.mem_flatMap.1 hp
  have h1 := hg c hc
  have h2 := mem_blP.1 h
  unfold good at h1
  unfold has at h2
  omega
theorem has_pt {c : B3} {p : Int} (hg : good v c) (h : has c p) : 0 ≤ p ∧ p < v := by
  unfold good at hg
  unfold has at h
  omega
theorem pt_far (h4 : fs.length = 4) (hg : ∀ b ∈ fs, good v b) (hP : PasB fs) : ∃ p : Int, 0 ≤ p ∧ p < v ∧ PtC fs p := by
  obtain ⟨A, B, C, D, rfl⟩ : ∃ A B C D, fs = [A, B, C, D] := by
    match fs, h4 with
    | [A, B, C, D], _ => exact ⟨A, B, C, D, rfl⟩
  have gA := hg A (by simp)
  have gB := hg B (by simp)
  have gC := hg C (by simp)
  have gD := hg D (by simp)
  obtain ⟨p, hp⟩ := far_pt gB gC gD ((pasB_four gA gB gC gD).1 hP)
  obtain ⟨c, hc, h⟩ := hp.2.1
  have h1 := has_pt (hg c hc) h
  exact ⟨p, h1.1, h1.2, hp⟩
theorem ptB_nonneg (hv : 0 ≤ v) (h4 : fs.length = 4) (hg : ∀ b ∈ fs, good v b) (hP : PasB fs) : 0 ≤ ptB v.toNat fs := by
  obtain ⟨p, h1, h2, h3⟩ := pt_far h4 hg hP
  exact lastP_some _ ⟨p, h1, by omega, h3⟩
theorem six_to (hv : 0 ≤ v ∧ v ≤ 15) (h4 : fs.length = 4) (hg : ∀ b ∈ fs, good v b) (hP : PasB fs) : (ptsN (fs.flatMap bl) v.toNat).length = 6 ∧ ∀ p, cN (fs.flatMap bl) p ≤ 2 := by
  have hp := fs_pts hg
  have h1 := (six_iff (ps := fs.flatMap bl) (fun p h => by have := hp p h; omega) (by rw [flat_len]; omega)).2 hP
  refine ⟨?_, fun p => ?_⟩
  · rw [← dist_pts (n := v.toNat) (by omega) (fun p h => by have := hp p h; omega)]
    exact h1.1
  · have := hP p
    unfold cN
    omega
theorem six_of (hv : 0 ≤ v ∧ v ≤ 15) (h4 : fs.length = 4) (hg : ∀ b ∈ fs, good v b) (hl : (ptsN (fs.flatMap bl) v.toNat).length = 6) (h2 : ∀ q : Nat, q < v.toNat → cN (fs.flatMap bl) (q : Int) ≤ 2) : PasB fs := by
  have hp := fs_pts hg
  refine (six_iff (ps := fs.flatMap bl) (fun p h => by have := hp p h; omega) (by rw [flat_len]; omega)).1 ⟨?_, ?_⟩
  · rw [dist_pts (n := v.toNat) (by omega) (fun p h => by have := hp p h; omega)]
    exact hl
  · rintro ⟨x, hx, hx2⟩
    obtain ⟨p, h1, h3, rfl⟩ := mem_cntA.1 hx
    by_cases hpv : p < v
    · have := h2 p.toNat (by omega)
      rw [show ((p.toNat : Nat) : Int) = p by omega] at this
      omega
    · have h0 : p ∈ fs.flatMap bl := by
        unfold cN at hx2
        exact List.count_pos_iff.1 (by omega)
      have := hp p h0
      omega
theorem pts_head (h4 : fs.length = 4) (hg : ∀ b ∈ fs, good v b) (hlt : fs.Pairwise B3.lt) {n : Nat} (hn : v.toNat = n) (h0 : 0 < (ptsN (fs.flatMap bl) n).length) : (ptsN (fs.flatMap bl) n)[0] = ptA fs := by
  have hp := fs_pts hg
  obtain ⟨A, r, rfl⟩ : ∃ A r, fs = A :: r := by
    match fs, h4 with
    | A :: r, _ => exact ⟨A, r, rfl⟩
  have gA := hg A (by simp)
  have hle : ∀ q ∈ ptsN ((A :: r).flatMap bl) n, A.1 ≤ q := by
    intro q hq
    obtain ⟨_, _, hc⟩ := ptsN_mem.1 hq
    obtain ⟨c, hc, hh⟩ := cN_has.1 hc
    have hcg := hg c hc
    have h1 : A.1 ≤ c.1 := by
      rcases List.mem_cons.1 hc with rfl | hc
      · exact Int.le_refl _
      · have := (List.pairwise_cons.1 hlt).1 c hc
        unfold B3.lt at this
        omega
    unfold good at hcg
    unfold has at hh
    omega
  have hm : A.1 ∈ ptsN ((A :: r).flatMap bl) n := by
    unfold good at gA
    exact ptsN_mem.2 ⟨by omega, by omega, cN_has.2 ⟨A, by simp, .inl rfl⟩⟩
  obtain ⟨j, hj, e⟩ := List.getElem_of_mem hm
  have h1 := hle _ (List.getElem_mem h0)
  show _ = A.1
  by_cases hj0 : j = 0
  · subst hj0; exact e
  · have := List.pairwise_iff_getElem.1 (ptsN_up (ps := (A :: r).flatMap bl) (n := n)) 0 j h0 hj (by omega)
    omega
theorem ptc_at {n i : Nat} {a : Int} (hi : i < (ptsN (fs.flatMap bl) n).length) (h0 : 0 < (ptsN (fs.flatMap bl) n).length) (ha : (ptsN (fs.flatMap bl) n)[0] = a) (ha2 : a = ptA fs) (hi0 : 0 < i) : PtC fs (ptsN (fs.flatMap bl) n)[i] ↔ ¬ ∃ c ∈ fs, has c a ∧ has c (ptsN (fs.flatMap bl) n)[i] := by
  have h1 := List.pairwise_iff_getElem.1 (ptsN_up (ps := fs.flatMap bl) (n := n)) 0 i h0 hi hi0
  have h2 := cN_has.1 (ptsN_mem.1 (List.getElem_mem hi)).2.2
  constructor
  · rintro ⟨_, _, h⟩ ⟨c, hc, h3, h4⟩
    exact h ⟨c, hc, h4, by rw [← ha2]; exact h3⟩
  · intro h
    exact ⟨by rw [← ha2]; omega, h2, fun ⟨c, hc, h3, h4⟩ => h ⟨c, hc, by rw [ha2]; exact h4, h3⟩⟩
theorem ptc_first : ¬ PtC fs (ptA fs) := fun h => h.1 rfl
theorem last_pts {n : Nat} : lastL (PtC fs) (ptsN (fs.flatMap bl) n) = ptB n fs := lastL_pts (fun p h => cN_has.2 h.2.1) n
end
theorem cntV_at {ps : List Int} {n k : Nat} (hk : k < n) (h : k < (cntV ps n).length) : (cntV ps n)[k] = cN ps (k : Int) := by
  simp only [cntV, List.getElem_map, List.getElem_range]
/-! ### Exchanged points in a list -/
def exS (p q : Int) (l : List Int) (i : Nat) : List Int := (l.take i).map (sw2 p q) ++ l.drop i
section
variable {p q : Int} {l : List Int} {i : Nat}
theorem exS_zero : exS p q l 0 = l := by simp [exS]
theorem exS_len (h : i ≤ l.length) : (exS p q l i).length = l.length := by simp [exS]; omega
theorem exS_at (h : i < l.length) (h1 : i < (exS p q l i).length) : (exS p q l i)[i] = l[i] := by
  have e : exS p q l i = (l.take i).map (sw2 p q) ++ l.drop i := rfl
  have hl : ((l.take i).map (sw2 p q)).length = i := by rw [List.length_map, List.length_take]; omega
  have h3 := List.getElem_of_eq e h1
  rw [h3, List.getElem_append_right (by omega)]
  simp only [hl, Nat.sub_self, List.drop_eq_getElem_cons h, List.getElem_cons_zero]
theorem exS_set (h : i < l.length) : (exS p q l i).set i (sw2 p q l[i]) = exS p q l (i + 1) := by
  have hl : ((l.take i).map (sw2 p q)).length = i := by rw [List.length_map, List.length_take]; omega
  unfold exS
  rw [List.set_append_right _ _ (by omega), hl, Nat.sub_self, List.drop_eq_getElem_cons h, List.set_cons_zero, take_snoc h, List.map_append]
  simp
theorem exS_all (h : i = l.length) : exS p q l i = l.map (sw2 p q) := by
  unfold exS
  rw [List.take_of_length_le (by omega), List.drop_eq_nil_of_le (by omega), List.append_nil]
end
end Go.Vc
namespace Go.Vc
theorem common_ne {v : Int} {bs : List B3} (h : STS v bs) {i j : Nat} (hi : i < bs.length) (hj : j < bs.length) (hne : i ≠ j) (hc : ¬ common bs[i] bs[j] = 1) : ¬ meets bs[i] bs[j] := by
  intro hm
  have t3 := (h.good _ (List.getElem_mem hj)).three
  have gi := h.good _ (List.getElem_mem hi)
  unfold good at gi
  have e1 : has bs[i] bs[i].1 := .inl rfl
  have e2 : has bs[i] bs[i].2.1 := .inr (.inl rfl)
  have e3 : has bs[i] bs[i].2.2 := .inr (.inr rfl)
  have hle : common bs[i] bs[j] ≤ 1 := (common_le t3).2 ⟨fun q => hne (h.two hi hj (by omega) e1 e2 q.1 q.2), fun q => hne (h.two hi hj (by omega) e1 e3 q.1 q.2), fun q => hne (h.two hi hj (by omega) e2 e3 q.1 q.2)⟩
  have hge : 1 ≤ common bs[i] bs[j] := by
    rw [common_has _ t3]
    unfold meets at hm
    (repeat' split) <;> first | omega | (exfalso; rcases hm with q | q | q <;> contradiction)
  omega
end Go.Vc
namespace Go.Vc
/-- None of the first k blocks has both points. -/
def apB (fs : List B3) (a q : Int) (k : Nat) : Bool := (fs.take k).all fun c => !(decide (has c a) && decide (has c q))
section
variable {fs : List B3} {a q : Int} {k : Nat}
theorem apB_zero : apB fs a q 0 = true := rfl
theorem apB_succ (ek : k < fs.length) : apB fs a q (k + 1) = (apB fs a q k && !(decide (has fs[k] a) && decide (has fs[k] q))) := by
  unfold apB
  rw [take_snoc ek, List.all_append]
  simp
theorem apB_iff (h : fs.length ≤ k) : apB fs a q k = true ↔ ¬ ∃ c ∈ fs, has c a ∧ has c q := by
  unfold apB
  rw [List.take_of_length_le h, List.all_eq_true]
  constructor
  · rintro h1 ⟨c, hc, h2, h3⟩
    have := h1 c hc
    simp [h2, h3] at this
  · intro h1 c hc
    by_cases h2 : has c a
    · by_cases h3 : has c q
      · exact absurd ⟨c, hc, h2, h3⟩ h1
      · simp [h3]
    · simp [h2]
theorem apart_yes (ek : k < fs.length) (hap : true = apB fs a q k) (h : has fs[k] a) : (!decide (has fs[k] q)) = apB fs a q (k + 1) := by
  rw [apB_succ ek, ← hap, decide_eq_true h]
  rfl
theorem apart_no (ek : k < fs.length) (hap : true = apB fs a q k) (h : ¬ has fs[k] a) : true = apB fs a q (k + 1) := by
  rw [apB_succ ek, ← hap, decide_eq_false h]
  rfl
theorem apart_off (ek : k < fs.length) (hap : false = apB fs a q k) : false = apB fs a q (k + 1) := by
  rw [apB_succ ek, ← hap]
  rfl
end
end Go.Vc
namespace Go.Vc
theorem trQ_four {v : Int} {bs : List B3} {i j k m : Nat} (hi : i < bs.length) (hj : j < bs.length) (hk : k < bs.length) (hm : m < bs.length) {o r : List B3} (h : o = [bs[i], bs[j], bs[k], bs[m]] ∧ (r.Perm ([bs[i], bs[j], bs[k], bs[m]].map (exB (ptA [bs[i], bs[j], bs[k], bs[m]]) (ptB v.toNat [bs[i], bs[j], bs[k], bs[m]]))) ∧ SrtB r)) : (o, r) = trQ v bs [(i : Int), (j : Int), (k : Int), (m : Int)] := by
  have e : [(i : Int), (j : Int), (k : Int), (m : Int)].map (blk bs) = [bs[i], bs[j], bs[k], bs[m]] := by
    simp only [List.map_cons, List.map_nil, blk_get hi, blk_get hj, blk_get hk, blk_get hm]
  unfold trQ
  rw [e, ← insT_eq h.2, h.1]
theorem four_lt {v : Int} {bs : List B3} (h : bs.Pairwise B3.lt) {i j k m : Nat} (h1 : i < j) (h2 : j < k) (h3 : k < m) (hm : m < bs.length) : [bs[i], bs[j], bs[k], bs[m]].Pairwise B3.lt := by
  have key := List.pairwise_iff_getElem.1 h
  simp only [List.pairwise_cons, List.mem_cons, List.not_mem_nil, or_false, forall_eq_or_imp, forall_eq, List.Pairwise.nil, and_true, false_implies, implies_true]
  exact ⟨⟨key i j (by omega) (by omega) h1, key i k (by omega) (by omega) (by omega), key i m (by omega) hm (by omega)⟩, ⟨key j k (by omega) (by omega) h2, key j m (by omega) hm (by omega)⟩, key k m (by omega) hm h3⟩
end Go.Vc
namespace Go.Vc
theorem srt_some : ∀ l : List B3, ∃ i, i.Perm l ∧ SrtB i := by
  intro l
  induction l with
  | nil => exact ⟨[], List.Perm.refl _, List.Pairwise.nil⟩
  | cons b l ih =>
    obtain ⟨i, hp, hs⟩ := ih
    have h0 := List.filter_append_perm (fun x => decide (leB x b)) i
    refine ⟨i.filter (fun x => decide (leB x b)) ++ b :: i.filter (fun x => !decide (leB x b)), (List.perm_middle.trans ((h0.trans hp).cons b)), ?_⟩
    unfold SrtB
    rw [List.pairwise_append, List.pairwise_cons]
    have h1 : ∀ x ∈ i.filter (fun x => decide (leB x b)), leB x b := fun x hx => of_decide_eq_true (List.mem_filter.1 hx).2
    have h2 : ∀ x ∈ i.filter (fun x => !decide (leB x b)), leB b x := fun x hx => by
      have h := (List.mem_filter.1 hx).2
      have h3 : ¬ leB x b := by simpa using h
      unfold leB at h3 ⊢
      unfold B3.lt at *
      omega
    exact ⟨hs.sublist List.filter_sublist, ⟨h2, hs.sublist List.filter_sublist⟩, fun x hx y hy => by
      rcases List.mem_cons.1 hy with rfl | hy
      · exact h1 x hx
      · exact leB_trans (h1 x hx) (h2 y hy)⟩
theorem insT_len {n : Nat} {fs : List B3} : (insT n fs).length = fs.length := by
  obtain ⟨i, h⟩ := srt_some (fs.map (exB (ptA fs) (ptB n fs)))
  rw [← insT_eq h, h.1.length_eq, List.length_map]
theorem TRL.all4 {v : Int} {bs : List B3} {c : List (List B3 × List B3)} (h : TRL v bs c) : ∀ q ∈ c, q.1.length = 4 ∧ q.2.length = 4 := by
  intro q hq
  by_cases hS : STS v bs
  · obtain ⟨ls, hl, rfl⟩ := h.1 hS
    obtain ⟨r, hr, rfl⟩ := List.mem_map.1 hq
    have h4 := ((hl.2 r).1 hr).four
    unfold trQ
    dsimp only
    rw [insT_len, List.length_map]
    omega
  · rw [h.2 hS] at hq
    simp at hq
theorem TRL.small {v : Int} {bs : List B3} {c : List (List B3 × List B3)} (h : TRL v bs c) : ∀ q ∈ c, q.1.length ≤ 4 ∧ q.2.length ≤ 4 := by
  intro q hq
  by_cases hS : STS v bs
  · obtain ⟨ls, hl, rfl⟩ := h.1 hS
    obtain ⟨r, hr, rfl⟩ := List.mem_map.1 hq
    have h4 := ((hl.2 r).1 hr).four
    unfold trQ
    dsimp only
    rw [insT_len, List.length_map]
    omega
  · rw [h.2 hS] at hq
    simp at hq
end Go.Vc
/-
  The calculus, part 31: lists of trades, and their marks.
-/
namespace Go.Vc
open Go Go.RowKit
/-- A trade with v points: the slices of its two lists. -/
def TrC (v : Int) : Cod (Sl × Sl) := ⟨3, fun s => [.int .i64 v, s.1.v, s.2.v], by decide, fun _ => rfl, fun _ u hu => by simp at hu; rcases hu with rfl | rfl | rfl <;> rfl⟩
def TrP : Cod (Int × Sl × Sl) := ⟨3, fun p => [.int .i64 p.1, p.2.1.v, p.2.2.v], by decide, fun _ => rfl, fun _ u hu => by simp at hu; rcases hu with rfl | rfl | rfl <;> rfl⟩
abbrev TrL : Type := List ((Sl × List B3) × (Sl × List B3))
def topT (ts : TrL) : List (Sl × Sl) := ts.map fun t => (t.1.1, t.2.1)
def outT (ts : TrL) : List (Sl × List B3) := ts.map fun t => t.1
def innT (ts : TrL) : List (Sl × List B3) := ts.map fun t => t.2
def contT (ts : TrL) : List (List B3 × List B3) := ts.map fun t => (t.1.2, t.2.2)
theorem topT_len (ts : TrL) : (topT ts).length = ts.length := List.length_map ..
theorem outT_len (ts : TrL) : (outT ts).length = ts.length := List.length_map ..
theorem innT_len (ts : TrL) : (innT ts).length = ts.length := List.length_map ..
theorem contT_len (ts : TrL) : (contT ts).length = ts.length := List.length_map ..
theorem contT_append (ts us : TrL) : contT (ts ++ us) = contT ts ++ contT us := List.map_append ..
theorem topT_append (ts us : TrL) : topT (ts ++ us) = topT ts ++ topT us := List.map_append ..
section
variable {T tT : TypeId} {w0 w : World} {H H' H2 : List Assn} {v : Int}
/-- The lists of trades: each owned, apart. -/
def TrsA (T : TypeId) (ts : TrL) : Assn := .sep (RowsA T B3C (outT ts)) (RowsA T B3C (innT ts))
theorem TrsA.opened {ts : TrL} (hw : St w0 (TrsA T ts :: H) w) : St w0 (RowsA T B3C (outT ts) :: RowsA T B3C (innT ts) :: H) w := hw.sep
theorem TrsA.close {ts : TrL} (hw : St w0 (RowsA T B3C (outT ts) :: RowsA T B3C (innT ts) :: H) w) : St w0 (TrsA T ts :: H) w := hw.unsep
theorem TrsA.nil (hw : St w0 H w) : St w0 (TrsA T [] :: H) w := TrsA.close (RowsA.nil (RowsA.nil hw))
theorem rows_snoc {ps : List (Sl × List B3)} {B : Option Addr} {d : Nat} {xs : List B3} (hw : St w0 (Own T B3C B d xs :: RowsA T B3C ps :: H) w) : St w0 (RowsA T B3C (ps ++ [(⟨B, xs.length, d⟩, xs)]) :: H) w := by
  have h := RowsA.cons hw
  exact RowsA.perm (List.perm_append_comm (l₁ := [(⟨B, xs.length, d⟩, xs)]) (l₂ := ps)) h
theorem trs_snoc {A B1 B2 : Option Addr} {c d1 d2 : Nat} {ts : TrL} {os ns : List B3} (hw : St w0 (Own tT (TrC v) A c (topT ts ++ [(⟨B1, os.length, d1⟩, ⟨B2, ns.length, d2⟩)]) :: TrsA T ts :: Own T B3C B1 d1 os :: Own T B3C B2 d2 ns :: H) w) :
    St w0 (Own tT (TrC v) A c (topT (ts ++ [((⟨B1, os.length, d1⟩, os), (⟨B2, ns.length, d2⟩, ns))])) :: TrsA T (ts ++ [((⟨B1, os.length, d1⟩, os), (⟨B2, ns.length, d2⟩, ns))]) :: H) w := by
  rw [topT_append]
  have h1 : St w0 (TrsA T ts :: Own T B3C B1 d1 os :: Own T B3C B2 d2 ns :: Own tT (TrC v) A c (topT ts ++ [(⟨B1, os.length, d1⟩, ⟨B2, ns.length, d2⟩)]) :: H) w := hw.sub (Sub.keep 1 rfl (Sub.keep 1 rfl (Sub.keep 1 rfl (Sub.keep 0 rfl (Sub.refl _)))))
  have h2 := TrsA.opened h1
  have h3 := rows_snoc (h2.sub (Sub.keep 2 rfl (Sub.keep 0 rfl (Sub.keep 0 rfl (Sub.keep 0 rfl (Sub.keep 0 rfl (Sub.refl _)))))))
  have h4 := rows_snoc (h3.sub (Sub.keep 2 rfl (Sub.keep 1 rfl (Sub.keep 0 rfl (Sub.keep 0 rfl (Sub.refl _))))))
  have h5 := h4.perm (List.Perm.swap _ _ _)
  have e1 : outT (ts ++ [((⟨B1, os.length, d1⟩, os), (⟨B2, ns.length, d2⟩, ns))]) = outT ts ++ [(⟨B1, os.length, d1⟩, os)] := List.map_append ..
  have e2 : innT (ts ++ [((⟨B1, os.length, d1⟩, os), (⟨B2, ns.length, d2⟩, ns))]) = innT ts ++ [(⟨B2, ns.length, d2⟩, ns)] := List.map_append ..
  rw [← e1, ← e2] at h5
  exact (TrsA.close h5).perm (List.Perm.swap _ _ _)
/-- A list of trades that is read. -/
structure RdT (v : Int) (w : World) (A : Option Addr) (ts : TrL) : Prop where
  top : Rd (TrC v) w A (topT ts)
  lo : ∀ k (hk : k < ts.length), (ts[k]).1.1.n = (ts[k]).1.2.length
  li : ∀ k (hk : k < ts.length), (ts[k]).2.1.n = (ts[k]).2.2.length
  ro : ∀ k (hk : k < ts.length), Rd B3C w (ts[k]).1.1.A (ts[k]).1.2
  ri : ∀ k (hk : k < ts.length), Rd B3C w (ts[k]).2.1.A (ts[k]).2.2
theorem TrsA.rdT {A : Option Addr} {c : Nat} {ts : TrL} (hw : St w0 (Own tT (TrC v) A c (topT ts) :: TrsA T ts :: H) w) : RdT v w A ts := by
  have h1 := TrsA.opened (hw.perm (List.Perm.swap _ _ _))
  have e1 : ∀ k (hk : k < ts.length), (outT ts)[k]'(by rw [outT_len]; exact hk) = (ts[k]).1 := fun k hk => List.getElem_map ..
  have e2 : ∀ k (hk : k < ts.length), (innT ts)[k]'(by rw [innT_len]; exact hk) = (ts[k]).2 := fun k hk => List.getElem_map ..
  refine ⟨Own.rd (i := 2) h1 rfl, fun k hk => ?_, fun k hk => ?_, fun k hk => ?_, fun k hk => ?_⟩
  · have := (RowsA.len 0 rfl w h1 _ (List.getElem_mem (l := outT ts) (by rw [outT_len]; exact hk))).1
    rwa [e1 k hk] at this
  · have := (RowsA.len 1 rfl w h1 _ (List.getElem_mem (l := innT ts) (by rw [innT_len]; exact hk))).1
    rwa [e2 k hk] at this
  · have := Ld.rows 0 rfl (k := k) (ps := outT ts) (by rw [outT_len]; exact hk) w h1
    rwa [e1 k hk] at this
  · have := Ld.rows 1 rfl (k := k) (ps := innT ts) (by rw [innT_len]; exact hk) w h1
    rwa [e2 k hk] at this
theorem Ld.tt {A : Option Addr} {c : Nat} {ts : TrL} (i j : Nat) (hp : pull i H = some (Own tT (TrC v) A c (topT ts), H')) (hq : pull j H' = some (TrsA T ts, H2)) : ∀ w, St w0 H w → RdT v w A ts := by
  intro w hw
  have h1 := hw.perm (pull_perm hp)
  have h2 := h1.perm ((pull_perm hq).cons _)
  exact TrsA.rdT h2
theorem RdT.nil (w : World) (A : Option Addr) : RdT v w A [] := ⟨Rd.nil _ _ _, fun k hk => by simp at hk, fun k hk => by simp at hk, fun k hk => by simp at hk, fun k hk => by simp at hk⟩
theorem RdT.below {A : Option Addr} {ts : TrL} (h : RdT v w0 A ts) (hb : Bel w0.heap.size w0 w) : RdT v w A ts := ⟨h.top.below hb, h.lo, h.li, fun k hk => (h.ro k hk).below hb, fun k hk => (h.ri k hk).below hb⟩
/-- A trade that is read whole. -/
theorem Ld.rowT {A : Option Addr} {ts : TrL} (h : ∀ w, St w0 H w → RdT v w A ts) {k s : Nat} (hk : k < ts.length) (hs : s = 3) :
    ∀ w, St w0 H w → ∃ q, A.map (·.add (k * s)) = some q ∧ ∀ m u, ([.int .i64 v, .slice (ts[k]).1.1.A (ts[k]).1.2.length (ts[k]).1.1.c, .slice (ts[k]).2.1.A (ts[k]).2.2.length (ts[k]).2.1.c] : List Value)[m]? = some u → w.cell? (q.add m) = some u := by
  intro w hw
  have hk' : k < (topT ts).length := by rw [topT_len]; exact hk
  obtain ⟨q, h1, h2⟩ := Ld.rds (C := TrC v) (fun w hw => (h w hw).top) hk' (s := s) hs w hw
  refine ⟨q, h1, fun m u hm => h2 m u ?_⟩
  have e : (topT ts)[k] = ((ts[k]).1.1, (ts[k]).2.1) := List.getElem_map ..
  rw [e]
  simp only [TrC, Sl.v, (h w hw).lo k hk, (h w hw).li k hk]
  exact hm
end
/-! ### Marks -/
def sumT : TrL → Nat
  | [] => 0
  | t :: r => 1 + 3 * t.1.2.length + 3 * t.2.2.length + sumT r
def mkTT : Int → TrL → List (Int × Sl × Sl)
  | _, [] => []
  | m, t :: r => (m, t.1.1, t.2.1) :: mkTT (m + 1 + 3 * (t.1.2.length : Int) + 3 * (t.2.2.length : Int)) r
def mkTO : Int → TrL → List (Sl × List B3)
  | _, [] => []
  | m, t :: r => (t.1.1, marksB (m + 1) t.1.2.length) :: mkTO (m + 1 + 3 * (t.1.2.length : Int) + 3 * (t.2.2.length : Int)) r
def mkTN : Int → TrL → List (Sl × List B3)
  | _, [] => []
  | m, t :: r => (t.2.1, marksB (m + 1 + 3 * (t.1.2.length : Int)) t.2.2.length) :: mkTN (m + 1 + 3 * (t.1.2.length : Int) + 3 * (t.2.2.length : Int)) r
section
variable {ts : TrL} {m v : Int} {k : Nat}
/-- The tops when k of the trades are marked. -/
def tT (v m : Int) (ts : TrL) (k : Nat) : List (Int × Sl × Sl) := mkTT m (ts.take k) ++ (ts.drop k).map fun t => (v, t.1.1, t.2.1)
end
section
variable {T : TypeId} {w0 w : World} {H H' : List Assn} {v : Int}
/-- Marked trades that are read. -/
structure RdM (m : Int) (w : World) (A : Option Addr) (ts : TrL) : Prop where
  top : Rd TrP w A (mkTT m ts)
  lo : ∀ k (hk : k < ts.length), (ts[k]).1.1.n = (ts[k]).1.2.length
  li : ∀ k (hk : k < ts.length), (ts[k]).2.1.n = (ts[k]).2.2.length
  ro : ∀ k (hk : k < ts.length), Rd B3C w (ts[k]).1.1.A (marksB (m + (sumT (ts.take k) : Int) + 1) (ts[k]).1.2.length)
  ri : ∀ k (hk : k < ts.length), Rd B3C w (ts[k]).2.1.A (marksB (m + (sumT (ts.take k) : Int) + 1 + 3 * ((ts[k]).1.2.length : Int)) (ts[k]).2.2.length)
end
end Go.Vc
namespace Go.Vc
open Go Go.RowKit
section
variable {T : TypeId} {w0 w : World} {H : List Assn} {ts : TrL} {k : Nat} {qs : List (Sl × List B3)}
theorem sumT_bd {K : Nat} : ∀ {ts : TrL}, (∀ q ∈ contT ts, q.1.length ≤ K ∧ q.2.length ≤ K) → sumT ts ≤ (1 + 6 * K) * ts.length := by
  intro ts
  induction ts with
  | nil => intro _; simp [sumT]
  | cons t ts ih =>
    intro h
    have h1 := ih (fun q hq => h q (List.mem_cons_of_mem _ hq))
    have h2 := h (t.1.2, t.2.2) (by unfold contT; rw [List.map_cons]; exact List.mem_cons_self)
    dsimp only at h2
    simp only [sumT, List.length_cons, Nat.mul_add, Nat.mul_one]
    omega
end
end Go.Vc
/-
  Plain words: lists of the trades of Pasch are not long.
-/
namespace Go.Vc
open Go Go.RowKit
theorem TRL.rows {v : Int} {bs : List B3} {ts : TrL} (h : TRL v bs (contT ts)) : ∀ k (hk : k < ts.length), (ts[k]).1.2.length ≤ 1000 ∧ (ts[k]).2.2.length ≤ 1000 := by
  intro k hk
  have hm : ((ts[k]).1.2, (ts[k]).2.2) ∈ contT ts := List.mem_map_of_mem (f := fun t : (Sl × List B3) × (Sl × List B3) => (t.1.2, t.2.2)) (List.getElem_mem hk)
  have h1 := h.small _ hm
  dsimp only at h1
  omega
theorem TRL.four {v : Int} {bs : List B3} {ts : TrL} (h : TRL v bs (contT ts)) : ∀ k (hk : k < ts.length), (ts[k]).1.2.length = 4 ∧ (ts[k]).2.2.length = 4 := by
  intro k hk
  have hm : ((ts[k]).1.2, (ts[k]).2.2) ∈ contT ts := List.mem_map_of_mem (f := fun t : (Sl × List B3) × (Sl × List B3) => (t.1.2, t.2.2)) (List.getElem_mem hk)
  have h1 := h.all4 _ hm
  dsimp only at h1
  omega
theorem TRL.sum {v : Int} {bs : List B3} {ts : TrL} (h : TRL v bs (contT ts)) (hl : ts.length ≤ 1500625) : sumT ts ≤ 37515625 := by
  have h1 := sumT_bd h.small
  omega
section
variable {T tT : TypeId} {w0 w : World} {H : List Assn} {v : Int}
end
end Go.Vc
/-
  Plain words: turned systems are systems, and turn back.
-/
namespace Go.Vc
section
variable {v : Int} {bs r : List B3}
theorem sts_of (lo : 3 ≤ v) (hi : v ≤ 15) (few : bs.length ≤ 35) (hg : ∀ b ∈ bs, good v b) (hlt : bs.Pairwise B3.lt) (hc : ∀ a ∈ bs, ∀ b ∈ bs, a ≠ b → common a b ≤ 1) : STS v bs := by
  have key := List.pairwise_iff_getElem.1 hlt
  refine ⟨lo, hi, few, fun i h _ => ⟨hg _ (List.getElem_mem h), fun j hj e => key j i hj h (by omega)⟩, fun i h _ j hj hji => hc _ (List.getElem_mem h) _ (List.getElem_mem hj) ?_⟩
  intro e
  have := key j i hj h hji
  rw [e] at this
  unfold B3.lt at this
  omega
theorem sts_pairs (h : STS v bs) {a b : B3} (ha : a ∈ bs) (hb : b ∈ bs) (hne : a ≠ b) : common a b ≤ 1 := by
  obtain ⟨i, hi, rfl⟩ := List.getElem_of_mem ha
  obtain ⟨j, hj, rfl⟩ := List.getElem_of_mem hb
  have hij : i ≠ j := fun e => hne (by subst e; rfl)
  have t3 := (h.good _ (List.getElem_mem hj)).three
  have gi := h.good _ (List.getElem_mem hi)
  unfold good at gi
  have e1 : has bs[i] bs[i].1 := .inl rfl
  have e2 : has bs[i] bs[i].2.1 := .inr (.inl rfl)
  have e3 : has bs[i] bs[i].2.2 := .inr (.inr rfl)
  exact (common_le t3).2 ⟨fun q => hij (h.two hi hj (by omega) e1 e2 q.1 q.2), fun q => hij (h.two hi hj (by omega) e1 e3 q.1 q.2), fun q => hij (h.two hi hj (by omega) e2 e3 q.1 q.2)⟩
theorem lt_of_srt (hs : SrtB r) (hn : r.Nodup) : r.Pairwise B3.lt := by
  refine (hs.and hn).imp fun {a b} h => ?_
  obtain ⟨h1, h2⟩ := h
  apply Decidable.byContradiction
  intro h3
  exact h2 (leB_anti h1 h3)
end
/-! ### Turning -/
/-- A block, turned: in order again. -/
def turnE (v k : Int) (b : B3) : B3 :=
  if b.2.2 + k < v then (b.1 + k, b.2.1 + k, b.2.2 + k)
  else if b.2.1 + k < v then (b.2.2 + k - v, b.1 + k, b.2.1 + k)
  else if b.1 + k < v then (b.2.1 + k - v, b.2.2 + k - v, b.1 + k)
  else (b.1 + k - v, b.2.1 + k - v, b.2.2 + k - v)
section
variable {v k : Int} {b c : B3} {bs r s : List B3}
theorem emod_tau {x : Int} (hx : 0 ≤ x ∧ x < v) (hk : 0 ≤ k ∧ k < v) : (x + k) % v = if x + k < v then x + k else x + k - v := by
  by_cases h : x + k < v
  · rw [if_pos h]; exact Int.emod_eq_of_lt (by omega) h
  · rw [if_neg h]
    have e : x + k = (x + k - v) + v := by omega
    rw [e, Int.add_emod_right, Int.emod_eq_of_lt (by omega) (by omega)]
    omega
theorem turn_at {x : Int} (hx : 0 ≤ x ∧ x < v) (hk : 0 ≤ k ∧ k < v) : (turnL v k v.toNat).getD x.toNat 0 = if x + k < v then x + k else x + k - v := by
  have hl : x.toNat < (turnL v k v.toNat).length := by rw [turnL_len]; omega
  rw [getD_at hl]
  simp only [turnL, List.getElem_map, List.getElem_range]
  rw [show ((x.toNat : Nat) : Int) = x by omega]
  exact emod_tau hx hk
theorem ren_turn (hg : good v b) (hk : 0 ≤ k ∧ k < v) : renB (turnL v k v.toNat) b = turnE v k b := by
  unfold good at hg
  unfold renB
  rw [turn_at (by omega) hk, turn_at (by omega) hk, turn_at (by omega) hk]
  unfold turnE bk3 mi3 lo3 hi3
  by_cases h3 : b.2.2 + k < v
  · rw [if_pos h3, if_pos h3, if_pos (show b.2.1 + k < v by omega), if_pos (show b.1 + k < v by omega)]
    refine Prod.ext ?_ (Prod.ext ?_ ?_) <;> dsimp only <;> omega
  · rw [if_neg h3, if_neg h3]
    by_cases h2 : b.2.1 + k < v
    · rw [if_pos h2, if_pos h2, if_pos (show b.1 + k < v by omega)]
      refine Prod.ext ?_ (Prod.ext ?_ ?_) <;> dsimp only <;> omega
    · rw [if_neg h2, if_neg h2]
      by_cases h1 : b.1 + k < v
      · rw [if_pos h1, if_pos h1]
        refine Prod.ext ?_ (Prod.ext ?_ ?_) <;> dsimp only <;> omega
      · rw [if_neg h1, if_neg h1]
        refine Prod.ext ?_ (Prod.ext ?_ ?_) <;> dsimp only <;> omega
theorem turnE_good (hg : good v b) (hk : 0 ≤ k ∧ k < v) : good v (turnE v k b) := by
  unfold good at hg
  unfold turnE
  split
  · unfold good; dsimp only; omega
  · split
    · unfold good; dsimp only; omega
    · split
      · unfold good; dsimp only; omega
      · unfold good; dsimp only; omega
theorem turnE_back (hg : good v b) (hk : 0 < k ∧ k < v) : turnE v (v - k) (turnE v k b) = b := by
  unfold good at hg
  obtain ⟨x, y, z⟩ := b
  dsimp only at hg
  unfold turnE
  dsimp only
  by_cases h3 : z + k < v
  · simp only [h3, if_true]
    rw [if_neg (by omega), if_neg (by omega), if_neg (by omega)]
    refine Prod.ext ?_ (Prod.ext ?_ ?_) <;> dsimp only <;> omega
  · simp only [h3, if_false]
    by_cases h2 : y + k < v
    · simp only [h2, if_true]
      rw [if_neg (by omega), if_neg (by omega), if_pos (by omega)]
      refine Prod.ext ?_ (Prod.ext ?_ ?_) <;> dsimp only <;> omega
    · simp only [h2, if_false]
      by_cases h1 : x + k < v
      · simp only [h1, if_true]
        rw [if_neg (by omega), if_pos (by omega)]
        refine Prod.ext ?_ (Prod.ext ?_ ?_) <;> dsimp only <;> omega
      · simp only [h1, if_false]
        rw [if_pos (by omega)]
        refine Prod.ext ?_ (Prod.ext ?_ ?_) <;> dsimp only <;> omega
theorem turnE_zero (hg : good v b) : turnE v 0 b = b := by
  unfold good at hg
  unfold turnE
  rw [if_pos (by omega)]
  refine Prod.ext ?_ (Prod.ext ?_ ?_) <;> dsimp only <;> omega
theorem turnE_inj (hb : good v b) (hc : good v c) (hk : 0 ≤ k ∧ k < v) (h : turnE v k b = turnE v k c) : b = c := by
  by_cases h0 : k = 0
  · subst h0; rwa [turnE_zero hb, turnE_zero hc] at h
  · have e := congrArg (turnE v (v - k)) h
    rwa [turnE_back hb (by omega), turnE_back hc (by omega)] at e
theorem turnE_has (hg : good v b) (hk : 0 ≤ k ∧ k < v) {p : Int} : has (turnE v k b) p ↔ ∃ q, has b q ∧ p = if q + k < v then q + k else q + k - v := by
  unfold good at hg
  constructor
  · intro h
    have key : ∀ q, (q = b.1 ∨ q = b.2.1 ∨ q = b.2.2) → p = (if q + k < v then q + k else q + k - v) → ∃ q, has b q ∧ p = if q + k < v then q + k else q + k - v := by
      intro q hq hp
      exact ⟨q, by unfold has; omega, hp⟩
    unfold turnE at h
    split at h
    · unfold has at h; dsimp only at h
      rcases h with h | h | h
      · exact key b.1 (by omega) (by rw [if_pos (by omega)]; omega)
      · exact key b.2.1 (by omega) (by rw [if_pos (by omega)]; omega)
      · exact key b.2.2 (by omega) (by rw [if_pos (by omega)]; omega)
    · split at h
      · unfold has at h; dsimp only at h
        rcases h with h | h | h
        · exact key b.2.2 (by omega) (by rw [if_neg (by omega)]; omega)
        · exact key b.1 (by omega) (by rw [if_pos (by omega)]; omega)
        · exact key b.2.1 (by omega) (by rw [if_pos (by omega)]; omega)
      · split at h
        · unfold has at h; dsimp only at h
          rcases h with h | h | h
          · exact key b.2.1 (by omega) (by rw [if_neg (by omega)]; omega)
          · exact key b.2.2 (by omega) (by rw [if_neg (by omega)]; omega)
          · exact key b.1 (by omega) (by rw [if_pos (by omega)]; omega)
        · unfold has at h; dsimp only at h
          rcases h with h | h | h
          · exact key b.1 (by omega) (by rw [if_neg (by omega)]; omega)
          · exact key b.2.1 (by omega) (by rw [if_neg (by omega)]; omega)
          · exact key b.2.2 (by omega) (by rw [if_neg (by omega)]; omega)
  · rintro ⟨q, hq, rfl⟩
    unfold has at hq
    unfold turnE has
    split <;> (repeat' split) <;> dsimp only at * <;> omega
theorem has_rng {p : Int} (hg : good v b) (h : has b p) : 0 ≤ p ∧ p < v := by
  unfold good at hg
  unfold has at h
  omega
theorem turnE_common (hb : good v b) (hc : good v c) (hk : 0 ≤ k ∧ k < v) (h : common b c ≤ 1) : common (turnE v k b) (turnE v k c) ≤ 1 := by
  have h1 := (common_le hc.three).1 h
  have two : ∀ p q, p ≠ q → has b p → has b q → has c p → has c q → False := by
    intro p q hne hp hq hp2 hq2
    unfold has at hp hq
    rcases hp with rfl | rfl | rfl <;> rcases hq with rfl | rfl | rfl <;> first | exact hne rfl | exact h1.1 ⟨hp2, hq2⟩ | exact h1.1 ⟨hq2, hp2⟩ | exact h1.2.1 ⟨hp2, hq2⟩ | exact h1.2.1 ⟨hq2, hp2⟩ | exact h1.2.2 ⟨hp2, hq2⟩ | exact h1.2.2 ⟨hq2, hp2⟩
  have key : ∀ p q, p ≠ q → has (turnE v k b) p → has (turnE v k b) q → has (turnE v k c) p → has (turnE v k c) q → False := by
    intro p q hne a1 a2 a3 a4
    obtain ⟨p1, b1, e1⟩ := (turnE_has hb hk).1 a1
    obtain ⟨q1, b2, e2⟩ := (turnE_has hb hk).1 a2
    obtain ⟨p2, b3, e3⟩ := (turnE_has hc hk).1 a3
    obtain ⟨q2, b4, e4⟩ := (turnE_has hc hk).1 a4
    have r1 := has_rng hb b1
    have r2 := has_rng hb b2
    have r3 := has_rng hc b3
    have r4 := has_rng hc b4
    have f1 : p1 = p2 := by split at e1 <;> split at e3 <;> omega
    have f2 : q1 = q2 := by split at e2 <;> split at e4 <;> omega
    subst f1 f2
    exact two p1 q1 (fun e => hne (by rw [e1, e2, e])) b1 b2 b3 b4
  have gb := turnE_good hb hk
  have gc := turnE_good hc hk
  refine (common_le gc.three).2 ?_
  have e1 : has (turnE v k b) (turnE v k b).1 := .inl rfl
  have e2 : has (turnE v k b) (turnE v k b).2.1 := .inr (.inl rfl)
  have e3 : has (turnE v k b) (turnE v k b).2.2 := .inr (.inr rfl)
  unfold good at gb
  exact ⟨fun q => key _ _ (by omega) e1 e2 q.1 q.2, fun q => key _ _ (by omega) e1 e3 q.1 q.2, fun q => key _ _ (by omega) e2 e3 q.1 q.2⟩
theorem turnB_eq (h : STS v bs) (hk : 0 ≤ k ∧ k < v) : turnB v k bs = bs.map (turnE v k) := by
  unfold turnB
  exact List.map_congr_left fun b hb => ren_turn (h.good b hb) hk
/-- A turned system is one. -/
theorem TSR.sts (h : STS v bs) (hk : 0 ≤ k ∧ k < v) (ht : TSR v bs k r) : STS v r ∧ r.length = bs.length := by
  unfold TSR at ht
  rw [if_pos ⟨h, hk.1, by omega⟩] at ht
  obtain ⟨hp, hs⟩ := ht
  rw [turnB_eq h hk] at hp
  have hl := hp.length_eq
  rw [List.length_map] at hl
  have hm : ∀ x ∈ r, ∃ b ∈ bs, turnE v k b = x := fun x hx => List.mem_map.1 (hp.mem_iff.1 hx)
  have hnb : (bs.map (turnE v k)).Nodup := by
    have hlt : bs.Pairwise B3.lt := List.pairwise_iff_getElem.2 fun i j hi hj hij => by
      have key : ∀ d, ∀ i (hi : i < bs.length), ∀ (hj : i + d + 1 < bs.length), B3.lt (bs[i]) (bs[i + d + 1]) := by
        intro d
        induction d with
        | zero => intro i hi hj; exact (h.ord (i + 1) hj (by omega)).2 i hi rfl
        | succ d ih =>
          intro i hi hj
          have h1 := ih i hi (by omega)
          have h2 := (h.ord (i + d + 1 + 1) (by omega) (by omega)).2 (i + d + 1) (by omega) rfl
          have h3 : B3.lt bs[i] bs[i + d + 1 + 1] := by unfold B3.lt at *; omega
          exact h3
      have h4 := key (j - i - 1) i hi (by omega)
      have e : i + (j - i - 1) + 1 = j := by omega
      simpa only [e] using h4
    unfold List.Nodup
    rw [List.pairwise_map]
    refine hlt.imp_of_mem fun {a b} ha hb hab e => ?_
    have := turnE_inj (h.good a ha) (h.good b hb) hk e
    subst this
    unfold B3.lt at hab
    omega
  have hn : r.Nodup := hp.nodup_iff.2 hnb
  refine ⟨sts_of h.lo h.hi (by rw [hl]; exact h.few) (fun x hx => ?_) (lt_of_srt hs hn) (fun x hx y hy hne => ?_), hl⟩
  · obtain ⟨b, hb, rfl⟩ := hm x hx
    exact turnE_good (h.good b hb) hk
  · obtain ⟨b, hb, rfl⟩ := hm x hx
    obtain ⟨c, hc, rfl⟩ := hm y hy
    exact turnE_common (h.good b hb) (h.good c hc) hk (sts_pairs h hb hc (fun e => hne (by rw [e])))
theorem sts_srt (h : STS v bs) : SrtB bs := by
  refine List.pairwise_iff_getElem.2 fun i j hi hj hij => ?_
  have key : ∀ d, ∀ i (hi : i < bs.length), ∀ (hj : i + d + 1 < bs.length), B3.lt (bs[i]) (bs[i + d + 1]) := by
    intro d
    induction d with
    | zero => intro i hi hj; exact (h.ord (i + 1) hj (by omega)).2 i hi rfl
    | succ d ih =>
      intro i hi hj
      have h1 := ih i hi (by omega)
      have h2 := (h.ord (i + d + 1 + 1) (by omega) (by omega)).2 (i + d + 1) (by omega) rfl
      have h3 : B3.lt bs[i] bs[i + d + 1 + 1] := by unfold B3.lt at *; omega
      exact h3
  have h4 := key (j - i - 1) i hi (by omega)
  have e : i + (j - i - 1) + 1 = j := by omega
  exact leB_of (by simpa only [e] using h4)
theorem back_code (hv : 0 < v) (hk : 0 ≤ k ∧ k < v) : (v - k) % v = if k = 0 then 0 else v - k := by
  by_cases h : k = 0
  · subst h; rw [if_pos rfl, Int.sub_zero, Int.emod_self]
  · rw [if_neg h]; exact Int.emod_eq_of_lt (by omega) (by omega)
/-- Turned back. -/
theorem TSR.back (h : STS v bs) (hk : 0 ≤ k ∧ k < v) (ht : TSR v bs k r) (hb : TSR v r ((v - k) % v) s) : s = bs := by
  have hr := TSR.sts h hk ht
  have hv : 0 < v := by omega
  have hk2 : 0 ≤ (v - k) % v ∧ (v - k) % v < v := ⟨Int.emod_nonneg _ (by omega), Int.emod_lt_of_pos _ hv⟩
  unfold TSR at ht hb
  rw [if_pos ⟨h, hk.1, by omega⟩] at ht
  rw [if_pos ⟨hr.1, hk2.1, by omega⟩] at hb
  obtain ⟨hp, _⟩ := ht
  obtain ⟨hp2, hs2⟩ := hb
  rw [turnB_eq h hk] at hp
  rw [turnB_eq hr.1 hk2] at hp2
  have h3 : s.Perm ((bs.map (turnE v k)).map (turnE v ((v - k) % v))) := hp2.trans (hp.map _)
  have e : (bs.map (turnE v k)).map (turnE v ((v - k) % v)) = bs := by
    rw [List.map_map]
    refine (List.map_congr_left fun b hb => ?_).trans (List.map_id bs)
    show turnE v ((v - k) % v) (turnE v k b) = id b
    have hg := h.good b hb
    rw [back_code hv hk]
    by_cases h0 : k = 0
    · subst h0; rw [if_pos rfl, turnE_zero hg, turnE_zero hg]; rfl
    · rw [if_neg h0, turnE_back hg (by omega)]; rfl
  rw [e] at h3
  exact srtB_unique hs2 (sts_srt h) h3
end
end Go.Vc
/-
  Plain words: trades that are carried out and back.
-/
namespace Go.Vc
/-- The blocks of a list that are not in another one. -/
def lessB (xs ys : List B3) : List B3 := xs.filter fun b => !decide (b ∈ ys)
theorem mem_lessB {xs ys : List B3} {b : B3} : b ∈ lessB xs ys ↔ b ∈ xs ∧ b ∉ ys := by
  unfold lessB; simp
theorem lessB_len {xs ys : List B3} : (lessB xs ys).length ≤ xs.length := List.length_filter_le _ _
def FIT (v : Int) (bs : List B3) (p : Int) (os : List B3) : Prop := v = p ∧ ∀ b ∈ os, b ∈ bs
noncomputable instance (v : Int) (bs : List B3) (p : Int) (os : List B3) : Decidable (FIT v bs p os) := Classical.propDecidable _
theorem fit_len {bs os : List B3} : (os.filter fun b => decide (b ∈ bs)).length = os.length ↔ ∀ b ∈ os, b ∈ bs := by
  rw [List.length_filter_eq_length_iff]; simp
/-- The code of a trade that is carried out. -/
noncomputable def crC (v : Int) (bs : List B3) (p : Int) (os ns : List B3) : Int := if STS v bs ∧ TRD p os ns then if FIT v bs p os then 0 else 5 else 1
def CRR (v : Int) (bs : List B3) (p : Int) (os ns r : List B3) : Prop := (crC v bs p os ns = 0 → r.Perm (lessB bs os ++ ns) ∧ SrtB r) ∧ (crC v bs p os ns ≠ 0 → r = [])
section
variable {v p : Int} {bs os ns r s : List B3}
theorem crC_1 (h : ¬ (STS v bs ∧ TRD p os ns)) : crC v bs p os ns = 1 := if_neg h
theorem crC_5 (h : STS v bs) (g : TRD p os ns) (f : ¬ FIT v bs p os) : crC v bs p os ns = 5 := by unfold crC; rw [if_pos ⟨h, g⟩, if_neg f]
theorem crC_0 (h : STS v bs) (g : TRD p os ns) (f : FIT v bs p os) : crC v bs p os ns = 0 := by unfold crC; rw [if_pos ⟨h, g⟩, if_pos f]
theorem crC_ok (h : crC v bs p os ns = 0) : STS v bs ∧ TRD p os ns ∧ FIT v bs p os := by
  unfold crC at h
  split at h
  · rename_i h1
    split at h
    · exact ⟨h1.1, h1.2, by assumption⟩
    · omega
  · omega
theorem CRR.unique (h : CRR v bs p os ns r) (g : CRR v bs p os ns s) : r = s := by
  by_cases hc : crC v bs p os ns = 0
  · exact srtB_unique (h.1 hc).2 (g.1 hc).2 ((h.1 hc).1.trans (g.1 hc).1.symm)
  · rw [h.2 hc, g.2 hc]
theorem CRR.len (h : CRR v bs p os ns r) : r.length ≤ 100 := by
  by_cases hc : crC v bs p os ns = 0
  · obtain ⟨h1, h2, h3⟩ := crC_ok hc
    have e := (h.1 hc).1.length_eq
    rw [List.length_append] at e
    have := lessB_len (xs := bs) (ys := os)
    have := h1.few
    have := h2.2.1.few
    omega
  · rw [h.2 hc]; simp
/-- The code of a difference of two systems. -/
noncomputable def dfC (v : Int) (bs : List B3) (u : Int) (cs : List B3) : Int :=
  haveI := Classical.propDecidable ((prsB bs).Perm (prsB cs))
  if STS v bs ∧ STS u cs then if v = u ∧ (prsB bs).Perm (prsB cs) then 0 else 5 else 1
def DFR (v : Int) (bs : List B3) (u : Int) (cs : List B3) (o i : List B3) : Prop := (dfC v bs u cs = 0 → (o.Perm (lessB bs cs) ∧ SrtB o) ∧ (i.Perm (lessB cs bs) ∧ SrtB i)) ∧ (dfC v bs u cs ≠ 0 → o = [] ∧ i = [])
theorem dfC_1 {u : Int} {cs : List B3} (h : ¬ (STS v bs ∧ STS u cs)) : dfC v bs u cs = 1 := if_neg h
theorem dfC_5 {u : Int} {cs : List B3} (h : STS v bs) (g : STS u cs) (f : ¬ (v = u ∧ (prsB bs).Perm (prsB cs))) : dfC v bs u cs = 5 := by unfold dfC; rw [if_pos ⟨h, g⟩, if_neg f]
theorem dfC_0 {u : Int} {cs : List B3} (h : STS v bs) (g : STS u cs) (f : v = u ∧ (prsB bs).Perm (prsB cs)) : dfC v bs u cs = 0 := by unfold dfC; rw [if_pos ⟨h, g⟩, if_pos f]
theorem dfC_ok {u : Int} {cs : List B3} (h : dfC v bs u cs = 0) : STS v bs ∧ STS u cs ∧ v = u ∧ (prsB bs).Perm (prsB cs) := by
  unfold dfC at h
  split at h
  · rename_i h1
    split at h
    · rename_i h2; exact ⟨h1.1, h1.2, h2.1, h2.2⟩
    · omega
  · omega
theorem DFR.unique {u : Int} {cs o i o2 i2 : List B3} (h : DFR v bs u cs o i) (g : DFR v bs u cs o2 i2) : o = o2 ∧ i = i2 := by
  by_cases hc : dfC v bs u cs = 0
  · exact ⟨srtB_unique (h.1 hc).1.2 (g.1 hc).1.2 ((h.1 hc).1.1.trans (g.1 hc).1.1.symm), srtB_unique (h.1 hc).2.2 (g.1 hc).2.2 ((h.1 hc).2.1.trans (g.1 hc).2.1.symm)⟩
  · obtain ⟨rfl, rfl⟩ := h.2 hc
    obtain ⟨rfl, rfl⟩ := g.2 hc
    exact ⟨rfl, rfl⟩
theorem DFR.len {u : Int} {cs o i : List B3} (h : DFR v bs u cs o i) : o.length ≤ 35 ∧ i.length ≤ 35 := by
  by_cases hc : dfC v bs u cs = 0
  · have h1 := (h.1 hc).1.1.length_eq
    have h2 := (h.1 hc).2.1.length_eq
    have h3 := (dfC_ok hc).1.few
    have h4 := (dfC_ok hc).2.1.few
    have h5 := lessB_len (xs := bs) (ys := cs)
    have h6 := lessB_len (xs := cs) (ys := bs)
    omega
  · obtain ⟨rfl, rfl⟩ := h.2 hc
    simp
theorem flt_less_yes {xs ys : List B3} {i : Nat} (hi : i < xs.length) (h : xs[i] ∉ ys) : lessB (xs.take (i + 1)) ys = lessB (xs.take i) ys ++ [xs[i]] := by
  unfold lessB
  rw [take_snoc hi, List.filter_append]
  simp [h]
theorem flt_less_no {xs ys : List B3} {i : Nat} (hi : i < xs.length) (h : xs[i] ∈ ys) : lessB (xs.take (i + 1)) ys = lessB (xs.take i) ys := by
  unfold lessB
  rw [take_snoc hi, List.filter_append]
  simp [h]
/-- What a trade turned round is. -/
def INR (v : Int) (os ns o i : List B3) : Prop := (TRD v os ns → o = ns ∧ i = os) ∧ (¬ TRD v os ns → o = [] ∧ i = [])
theorem INR.unique {o i o2 i2 : List B3} (h : INR v os ns o i) (g : INR v os ns o2 i2) : o = o2 ∧ i = i2 := by
  by_cases hc : TRD v os ns
  · obtain ⟨rfl, rfl⟩ := h.1 hc
    obtain ⟨rfl, rfl⟩ := g.1 hc
    exact ⟨rfl, rfl⟩
  · obtain ⟨rfl, rfl⟩ := h.2 hc
    obtain ⟨rfl, rfl⟩ := g.2 hc
    exact ⟨rfl, rfl⟩
theorem INR.len {o i : List B3} (h : INR v os ns o i) : o.length ≤ 35 ∧ i.length ≤ 35 := by
  by_cases hc : TRD v os ns
  · obtain ⟨rfl, rfl⟩ := h.1 hc
    exact ⟨hc.2.1.few, hc.1.few⟩
  · obtain ⟨rfl, rfl⟩ := h.2 hc
    simp
theorem trd_symm (h : TRD v os ns) : TRD v ns os := ⟨h.2.1, h.1, fun b hb ho => h.2.2.1 b ho hb, h.2.2.2.symm⟩
theorem trd_len (h : TRD v os ns) : os.length = ns.length := by
  have := h.2.2.2.length_eq
  rw [prsB_len, prsB_len] at this
  omega
theorem sts_two {a b : B3} (h : STS v bs) (ha : a ∈ bs) (hb : b ∈ bs) {x y : Int} (hxy : x ≠ y) (h1 : has a x) (h2 : has a y) (h3 : has b x) (h4 : has b y) : a = b := by
  obtain ⟨i, hi, rfl⟩ := List.getElem_of_mem ha
  obtain ⟨j, hj, rfl⟩ := List.getElem_of_mem hb
  have e := h.two hi hj hxy h1 h2 h3 h4
  subst e
  rfl
theorem trd_share (h : TRD v os ns) {d : B3} (hd : d ∈ os) {x y : Int} (hxy : x ≠ y) (h1 : has d x) (h2 : has d y) : ∃ e ∈ ns, has e x ∧ has e y := by
  have hv := h.1.lo
  have ev : ((v.toNat : Nat) : Int) = v := by omega
  have ho : STS (v.toNat : Int) os := by rw [ev]; exact h.1
  have hn : STS (v.toNat : Int) ns := by rw [ev]; exact h.2.1
  have hg := h.1.good d hd
  unfold good at hg
  have hx : 0 ≤ x := by unfold has at h1; omega
  have hy : 0 ≤ y := by unfold has at h2; omega
  have key : ∀ x y : Nat, x < y → has d x → has d y → ∃ e ∈ ns, has e x ∧ has e y := fun x y hlt a b => (prsB_mem hn hlt).1 (h.2.2.2.mem_iff.1 ((prsB_mem ho hlt).2 ⟨d, hd, a, b⟩))
  obtain ⟨x, rfl⟩ := Int.eq_ofNat_of_zero_le hx
  obtain ⟨y, rfl⟩ := Int.eq_ofNat_of_zero_le hy
  rcases Nat.lt_or_gt_of_ne (show x ≠ y by omega) with h3 | h3
  · exact key x y h3 h1 h2
  · obtain ⟨e, he, a, b⟩ := key y x h3 h2 h1
    exact ⟨e, he, b, a⟩
theorem good_all {a b : B3} (ha : good v a) (hb : good v b) (h1 : has b a.1) (h2 : has b a.2.1) (h3 : has b a.2.2) : b = a := by
  unfold good at ha hb
  unfold has at h1 h2 h3
  obtain ⟨a1, a2, a3⟩ := a
  obtain ⟨b1, b2, b3⟩ := b
  simp only at *
  have e1 : b1 = a1 := by omega
  have e2 : b2 = a2 := by omega
  have e3 : b3 = a3 := by omega
  rw [e1, e2, e3]
theorem good_third {b : B3} (hb : good v b) (x y : Int) : ∃ z, has b z ∧ z ≠ x ∧ z ≠ y := by
  unfold good at hb
  by_cases h1 : b.1 ≠ x ∧ b.1 ≠ y
  · exact ⟨b.1, .inl rfl, h1⟩
  · by_cases h2 : b.2.1 ≠ x ∧ b.2.1 ≠ y
    · exact ⟨b.2.1, .inr (.inl rfl), h2⟩
    · exact ⟨b.2.2, .inr (.inr rfl), by omega, by omega⟩
theorem pts_iff (h : TRD v os ns) (x : Int) : (∃ b ∈ os, has b x) → ∃ b ∈ ns, has b x := by
  rintro ⟨b, hb, hx⟩
  have hg := h.1.good b hb
  obtain ⟨y, hy, hne, _⟩ := good_third hg x x
  obtain ⟨e, he, h1, _⟩ := trd_share h hb (fun e => hne e.symm) hx hy
  exact ⟨e, he, h1⟩
theorem trd_pts (h : TRD v os ns) (n : Nat) : ptsB os n = ptsB ns n := by
  unfold ptsB
  congr 1
  exact List.filter_congr fun p _ => decide_eq_decide.2 ⟨pts_iff h p, pts_iff (trd_symm h) p⟩
theorem mem_ptsB {n : Nat} {x : Int} (h : ∃ b ∈ os, has b x) (h0 : 0 ≤ x) (hx : x < n) : x ∈ ptsB os n := by
  unfold ptsB
  refine List.mem_map.2 ⟨x.toNat, List.mem_filter.2 ⟨List.mem_range.2 (by omega), ?_⟩, by omega⟩
  rw [show ((x.toNat : Nat) : Int) = x by omega]
  exact decide_eq_true h
/-- A trade that has blocks has six points or more. -/
theorem trd_six (h : TRD v os ns) (hne : 0 < os.length) : 6 ≤ (ptsB os v.toNat).length := by
  have hd := List.getElem_mem hne
  generalize os[0] = d at hd
  have hg := h.1.good d hd
  have hdn := h.2.2.1 d hd
  have a1 : has d d.1 := .inl rfl
  have a2 : has d d.2.1 := .inr (.inl rfl)
  have a3 : has d d.2.2 := .inr (.inr rfl)
  have hg2 := hg
  unfold good at hg2
  obtain ⟨e1, m1, p1, p2⟩ := trd_share h hd (show d.1 ≠ d.2.1 by omega) a1 a2
  obtain ⟨e2, m2, q1, q2⟩ := trd_share h hd (show d.1 ≠ d.2.2 by omega) a1 a3
  obtain ⟨e3, m3, r1, r2⟩ := trd_share h hd (show d.2.1 ≠ d.2.2 by omega) a2 a3
  have n1 : ¬ has e1 d.2.2 := fun hh => hdn (good_all hg (h.2.1.good _ m1) p1 p2 hh ▸ m1)
  have n2 : ¬ has e2 d.2.1 := fun hh => hdn (good_all hg (h.2.1.good _ m2) q1 hh q2 ▸ m2)
  have n3 : ¬ has e3 d.1 := fun hh => hdn (good_all hg (h.2.1.good _ m3) hh r1 r2 ▸ m3)
  obtain ⟨x, hx, x1, x2⟩ := good_third (h.2.1.good _ m1) d.1 d.2.1
  obtain ⟨y, hy, y1, y2⟩ := good_third (h.2.1.good _ m2) d.1 d.2.2
  obtain ⟨z, hz, z1, z2⟩ := good_third (h.2.1.good _ m3) d.2.1 d.2.2
  have x3 : x ≠ d.2.2 := fun e => n1 (e ▸ hx)
  have y3 : y ≠ d.2.1 := fun e => n2 (e ▸ hy)
  have z3 : z ≠ d.1 := fun e => n3 (e ▸ hz)
  have xy : x ≠ y := fun e => n1 (sts_two h.2.1 m2 m1 (fun q => y1 q.symm) q1 hy p1 (e ▸ hx) ▸ q2)
  have xz : x ≠ z := fun e => n1 (sts_two h.2.1 m3 m1 (fun q => z1 q.symm) r1 hz p2 (e ▸ hx) ▸ r2)
  have yz : y ≠ z := fun e => n2 (sts_two h.2.1 m3 m2 (fun q => z2 q.symm) r2 hz q2 (e ▸ hy) ▸ r1)
  have hnd : ([d.1, d.2.1, d.2.2, x, y, z] : List Int).Nodup := by
    simp only [List.nodup_cons, List.mem_cons, List.not_mem_nil, or_false, not_false_eq_true, List.nodup_nil, and_true]
    omega
  have hi := h.2.1.hi
  refine nodup_len [d.1, d.2.1, d.2.2, x, y, z] _ hnd fun q hq => ?_
  rw [trd_pts h]
  have bnd : ∀ e ∈ ns, has e q → q ∈ ptsB ns v.toNat := fun e he hh => by
    have gg := h.2.1.good e he
    unfold good at gg
    have hh2 := hh
    unfold has at hh2
    exact mem_ptsB ⟨e, he, hh⟩ (by omega) (by omega)
  simp only [List.mem_cons, List.not_mem_nil, or_false] at hq
  rcases hq with rfl | rfl | rfl | rfl | rfl | rfl
  · exact bnd e1 m1 p1
  · exact bnd e1 m1 p2
  · exact bnd e2 m2 q2
  · exact bnd e1 m1 hx
  · exact bnd e2 m2 hy
  · exact bnd e3 m3 hz
theorem sts_lts (h : STS v bs) : bs.Pairwise B3.lt := by
  refine lt_of_srt (sts_srt h) ?_
  refine List.pairwise_iff_getElem.2 fun i j hi hj hij e => ?_
  have g := h.good _ (List.getElem_mem hi)
  have t := h.fits j hj hj i hi hij
  rw [← e] at t
  have c := (common_le g.three).1 t
  exact c.1 ⟨.inl rfl, .inr (.inl rfl)⟩
theorem sts_nodup (h : STS v bs) : bs.Nodup := (sts_lts h).imp fun {a b} hl e => by
  rw [e] at hl
  unfold B3.lt at hl
  omega
theorem kept_apart (hs : STS v bs) (h : TRD v os ns) (hf : ∀ b ∈ os, b ∈ bs) {a b : B3} (ha : a ∈ bs) (hao : a ∉ os) (hb : b ∈ ns) {x y : Int} (hxy : x ≠ y) (h1 : has a x) (h2 : has a y) (h3 : has b x) (h4 : has b y) : False := by
  obtain ⟨e, he, e1, e2⟩ := trd_share (trd_symm h) hb hxy h3 h4
  exact hao (sts_two hs (hf e he) ha hxy e1 e2 h1 h2 ▸ he)
theorem common_two {a b : B3} (ha : good v a) (hb : good v b) (h : ¬ common a b ≤ 1) : ∃ x y, x ≠ y ∧ has a x ∧ has a y ∧ has b x ∧ has b y := by
  rw [common_le hb.three] at h
  unfold good at ha
  by_cases h1 : has b a.1 ∧ has b a.2.1
  · exact ⟨a.1, a.2.1, by omega, .inl rfl, .inr (.inl rfl), h1.1, h1.2⟩
  · by_cases h2 : has b a.1 ∧ has b a.2.2
    · exact ⟨a.1, a.2.2, by omega, .inl rfl, .inr (.inr rfl), h2.1, h2.2⟩
    · by_cases h3 : has b a.2.1 ∧ has b a.2.2
      · exact ⟨a.2.1, a.2.2, by omega, .inr (.inl rfl), .inr (.inr rfl), h3.1, h3.2⟩
      · exact absurd ⟨h1, h2, h3⟩ h
theorem kept_not (hs : STS v bs) (h : TRD v os ns) (hf : ∀ b ∈ os, b ∈ bs) {a : B3} (ha : a ∈ bs) (hao : a ∉ os) : a ∉ ns := fun hn => by
  have g := hs.good a ha
  unfold good at g
  exact kept_apart hs h hf ha hao hn (show a.1 ≠ a.2.1 by omega) (.inl rfl) (.inr (.inl rfl)) (.inl rfl) (.inr (.inl rfl))
theorem less_perm (hs : bs.Nodup) (ho : os.Nodup) (hf : ∀ b ∈ os, b ∈ bs) : (lessB bs os ++ os).Perm bs := by
  refine (List.perm_ext_iff_of_nodup ?_ hs).2 fun b => ?_
  · refine List.nodup_append.2 ⟨hs.filter _, ho, fun a ha b hb e => ?_⟩
    subst e
    exact (mem_lessB.1 ha).2 hb
  · rw [List.mem_append, mem_lessB]
    by_cases hb : b ∈ os
    · simp [hb, hf b hb]
    · simp [hb]
theorem carry_sts (hs : STS v bs) (h : TRD v os ns) (hf : ∀ b ∈ os, b ∈ bs) (hp : r.Perm (lessB bs os ++ ns)) (hr : SrtB r) : STS v r := by
  have hm : ∀ {b}, b ∈ r ↔ (b ∈ bs ∧ b ∉ os) ∨ b ∈ ns := by
    intro b
    rw [hp.mem_iff, List.mem_append, mem_lessB]
  have hnd : r.Nodup := by
    rw [hp.nodup_iff]
    refine List.nodup_append.2 ⟨(sts_nodup hs).filter _, sts_nodup h.2.1, fun a ha b hb e => ?_⟩
    subst e
    exact kept_not hs h hf (mem_lessB.1 ha).1 (mem_lessB.1 ha).2 hb
  have hl : r.length = bs.length := by
    have e := hp.length_eq
    have e2 := (less_perm (sts_nodup hs) (sts_nodup h.1) hf).length_eq
    rw [List.length_append] at e e2
    have := trd_len h
    omega
  have hg : ∀ b ∈ r, good v b := fun b hb => by
    rcases hm.1 hb with h1 | h1
    · exact hs.good b h1.1
    · exact h.2.1.good b h1
  refine sts_of hs.lo hs.hi (by rw [hl]; exact hs.few) hg (lt_of_srt hr hnd) fun a ha b hb hne => ?_
  apply Decidable.byContradiction
  intro hc
  obtain ⟨x, y, hxy, k1, k2, k3, k4⟩ := common_two (hg a ha) (hg b hb) hc
  rcases hm.1 ha with h1 | h1 <;> rcases hm.1 hb with h2 | h2
  · exact hne (sts_two hs h1.1 h2.1 hxy k1 k2 k3 k4)
  · exact kept_apart hs h hf h1.1 h1.2 h2 hxy k1 k2 k3 k4
  · exact kept_apart hs h hf h2.1 h2.2 h1 hxy k3 k4 k1 k2
  · exact hne (sts_two h.2.1 h1 h2 hxy k1 k2 k3 k4)
/-- Carried out, and back. -/
theorem carry_back (h0 : crC v bs p os ns = 0) (h : CRR v bs p os ns r) : crC v r p ns os = 0 ∧ r.length = bs.length ∧ ∀ s, CRR v r p ns os s → s = bs := by
  obtain ⟨hs, ht, hfv, hf⟩ := crC_ok h0
  subst hfv
  obtain ⟨hp, hr⟩ := h.1 h0
  have hn := carry_sts hs ht hf hp hr
  have hm : ∀ {b}, b ∈ r ↔ (b ∈ bs ∧ b ∉ os) ∨ b ∈ ns := by
    intro b
    rw [hp.mem_iff, List.mem_append, mem_lessB]
  have hf2 : ∀ b ∈ ns, b ∈ r := fun b hb => hm.2 (.inr hb)
  have hc := crC_0 hn (trd_symm ht) ⟨rfl, hf2⟩
  have e1 := hp.length_eq
  have e2 := (less_perm (sts_nodup hs) (sts_nodup ht.1) hf).length_eq
  rw [List.length_append] at e1 e2
  have e3 := trd_len ht
  refine ⟨hc, by omega, fun s hS => ?_⟩
  obtain ⟨q1, q2⟩ := hS.1 hc
  refine srtB_unique q2 (sts_srt hs) (q1.trans ?_)
  refine (List.perm_ext_iff_of_nodup ?_ (sts_nodup hs)).2 fun b => ?_
  · refine List.nodup_append.2 ⟨(sts_nodup hn).filter _, sts_nodup ht.1, fun a ha b hb e => ?_⟩
    subst e
    have h3 := mem_lessB.1 ha
    rcases hm.1 h3.1 with h4 | h4
    · exact h4.2 hb
    · exact h3.2 h4
  · rw [List.mem_append, mem_lessB, hm]
    constructor
    · rintro (⟨h1 | h1, h2⟩ | h1)
      · exact h1.1
      · exact absurd h1 h2
      · exact hf b h1
    · intro hb
      by_cases ho : b ∈ os
      · exact .inr ho
      · exact .inl ⟨.inl ⟨hb, ho⟩, kept_not hs ht hf hb ho⟩
end
end Go.Vc
/-
  The calculus: two lists of blocks that can be read; they may be one, or a part of it.
-/
namespace Go.Vc
open Go Go.RowKit
section
variable {α : Type} {C : Cod α} {T : TypeId} {w w' w0 : World} {F G : Nat → Prop} {A B : Option Addr} {c d i : Nat} {xs : List α} {H H' : List Assn}
/-- A list that can be read from the blocks F. -/
def InF (C : Cod α) (w : World) (F : Nat → Prop) (A : Option Addr) (c : Nat) (xs : List α) : Prop :=
  Rd C w A xs ∧ (A = none → xs.length = 0 ∧ c = 0) ∧ xs.length ≤ c ∧ ∀ q, A = some q → 0 < xs.length → F q.block
theorem add_block (q : Addr) (n : Nat) : (q.add n).block = q.block := by unfold Addr.add; split <;> rfl
theorem InF.loc (h : InF C w F A c xs) (hk : ∀ k, F k → w'.heap[k]? = w.heap[k]?) : InF C w' F A c xs := by
  obtain ⟨h1, h2, h3, h4⟩ := h
  refine ⟨fun k hk2 => ?_, h2, h3, h4⟩
  obtain ⟨q, hq, hc⟩ := h1 k hk2
  refine ⟨q, hq, fun j u hj => ?_⟩
  rw [World.cell?_of_block (w := w) (a := q.add (k * C.sz + j)) (by rw [add_block]; exact hk _ (h4 q hq (by omega)))]
  exact hc j u hj
theorem InF.mono (h : InF C w F A c xs) (hk : ∀ k, F k → G k) : InF C w G A c xs := ⟨h.1, h.2.1, h.2.2.1, fun q hq hx => hk _ (h.2.2.2 q hq hx)⟩
theorem InF.own (h : (Own T C A c xs).P w F) : InF C w F A c xs := by
  obtain ⟨ho, hF⟩ := h
  rcases ho.2 with ⟨h1, h2⟩ | ⟨g, cap, cur, hv, hb, hh, hle, hmax, hcs, htake⟩
  · have e1 : A = none := by injection h1
    have e2 : c = 0 := by injection h1
    have h0 : xs.length = 0 := h2
    exact ⟨fun k hk => by omega, fun _ => ⟨h0, e2⟩, by omega, fun q hq => by rw [e1] at hq; cases hq⟩
  · have hA : A = Option.some ⟨g, 0, none⟩ := by injection hv
    have hc : c = cap := by injection hv
    refine And.intro (fun k hk => ?_) (And.intro (fun e => ?_) (And.intro (by omega) (fun q hq hx => ?_)))
    · refine ⟨⟨g, 0, none⟩, hA, fun j u hj => ?_⟩
      have hjs : j < C.sz := by have := (List.getElem?_eq_some_iff.1 hj).1; rwa [C.len] at this
      exact ho.cells (g := g) (by rw [hv]; rfl) (k * C.sz + j) u (by rw [getElem?_flatMap_enc C xs k j hk hjs]; exact hj)
    · rw [hA] at e; cases e
    · rw [hA] at hq
      cases hq
      exact (hF g).2 (by rw [hv]; rfl)
theorem InF.drop (h : InF C w F A c xs) {s : Nat} (hs : s = C.sz) (hx : 0 < xs.length) : InF C w F (if c = 1 then A else A.map (·.add (1 * s))) (c - 1) (xs.drop 1) := by
  obtain ⟨h1, h2, h3, h4⟩ := h
  refine ⟨h1.drop hs h3, fun e => ?_, by rw [List.length_drop]; omega, fun q hq hl => ?_⟩
  · split at e
    · have := h2 e; omega
    · cases A with
      | none => have := h2 rfl; omega
      | some q => cases e
  · split at hq
    · exact h4 q hq hx
    · cases A with
      | none => cases hq
      | some r =>
        have e : r.add (1 * s) = q := by simpa using hq
        rw [← e, add_block]
        exact h4 r rfl hx
end
section
variable {T T2 : TypeId} {w w' w0 : World} {F : Nat → Prop} {A B : Option Addr} {c d : Nat} {xs ys : List B3} {H H' : List Assn}
def TrdA (A : Option Addr) (c : Nat) (xs : List B3) (B : Option Addr) (d : Nat) (ys : List B3) : Assn :=
  ⟨fun w F => InF B3C w F A c xs ∧ InF B3C w F B d ys, fun h hk => ⟨h.1.loc hk, h.2.loc hk⟩⟩
theorem trd_own : ∀ w F, (Assn.sep (Own T B3C A c xs) (Own T2 B3C B d ys)).P w F → (TrdA A c xs B d ys).P w F := by
  rintro w F ⟨F1, F2, h1, h2, hd, hF⟩
  exact ⟨(InF.own h1).mono fun k h => (hF k).2 (.inl h), (InF.own h2).mono fun k h => (hF k).2 (.inr h)⟩
theorem trd_dup : ∀ w F, (TrdA A c xs B d ys).P w F → (TrdA A c xs A c xs).P w F := fun w F h => ⟨h.1, h.1⟩
theorem trd_tail (hy : 0 < ys.length) : ∀ w F, (TrdA A c xs B d ys).P w F → (TrdA A c xs (if d = 1 then B else B.map (·.add (1 * 3))) (d - 1) (ys.drop 1)).P w F := fun w F h => ⟨h.1, h.2.drop rfl hy⟩
theorem rows_at {α : Type} {C : Cod α} {T : TypeId} {ps : List (Sl × List α)} {k : Nat} (hk : k < ps.length) (h : (RowsA T C ps).P w F) : InF C w F (ps[k]).1.A (ps[k]).1.c (ps[k]).2 := by
  have key : ∀ (ps : List (Sl × List α)) (k : Nat) (hk : k < ps.length) (F : Nat → Prop), SatF (ps.map (rowA T C)) w F → InF C w F (ps[k]).1.A (ps[k]).1.c (ps[k]).2 := by
    intro ps
    induction ps with
    | nil => intro k hk; simp at hk
    | cons p ps ih =>
      rintro k hk F ⟨F1, F2, h1, h2, hd, hF⟩
      cases k with
      | zero =>
        obtain ⟨G1, G2, ⟨_, _⟩, g2, _, gF⟩ := h1
        exact (InF.own g2).mono fun j hj => (hF j).2 (.inl ((gF j).2 (.inr hj)))
      | succ k => exact (ih k (by simpa using hk) F2 h2).mono fun j hj => (hF j).2 (.inr hj)
  exact key ps k hk F h
theorem trd_pick {ts : TrL} {k : Nat} (hk : k < ts.length) : ∀ w F, (TrsA T ts).P w F → (TrdA (ts[k]).1.1.A (ts[k]).1.1.c (ts[k]).1.2 (ts[k]).2.1.A (ts[k]).2.1.c (ts[k]).2.2).P w F := by
  rintro w F ⟨F1, F2, h1, h2, hd, hF⟩
  have a := rows_at (k := k) (by rw [outT_len]; exact hk) h1
  have b := rows_at (k := k) (by rw [innT_len]; exact hk) h2
  have e1 : (outT ts)[k]'(by rw [outT_len]; exact hk) = (ts[k]).1 := List.getElem_map ..
  have e2 : (innT ts)[k]'(by rw [innT_len]; exact hk) = (ts[k]).2 := List.getElem_map ..
  rw [e1] at a
  rw [e2] at b
  exact ⟨a.mono fun j hj => (hF j).2 (.inl hj), b.mono fun j hj => (hF j).2 (.inr hj)⟩
theorem TrdA.get {i : Nat} (hw : St w0 H w) (hp : pull i H = some (TrdA A c xs B d ys, H')) : (Rd B3C w A xs ∧ Rd B3C w B ys) ∧ (A = none → c = 0) ∧ (B = none → d = 0) ∧ xs.length ≤ c ∧ ys.length ≤ d := by
  obtain ⟨F, h1, h2⟩ := hw.get i hp
  exact ⟨⟨h1.1, h2.1⟩, fun e => (h1.2.1 e).2, fun e => (h2.2.1 e).2, h1.2.2.1, h2.2.2.1⟩
theorem Ld.trO (i : Nat) (hp : pull i H = some (TrdA A c xs B d ys, H')) : ∀ w, St w0 H w → Rd B3C w A xs := fun w hw => (TrdA.get hw hp).1.1
theorem Ld.trI (i : Nat) (hp : pull i H = some (TrdA A c xs B d ys, H')) : ∀ w, St w0 H w → Rd B3C w B ys := fun w hw => (TrdA.get hw hp).1.2
theorem St.trd (hw : St w0 (Own T B3C A c xs :: Own T2 B3C B d ys :: H) w) : St w0 (TrdA A c xs B d ys :: H) w := hw.unsep.sub (.cons 0 rfl trd_own (Sub.refl _))
theorem St.trd_pick {ts : TrL} {k : Nat} (hk : k < ts.length) (hw : St w0 (TrsA T ts :: H) w) : St w0 (TrdA (ts[k]).1.1.A (ts[k]).1.1.c (ts[k]).1.2 (ts[k]).2.1.A (ts[k]).2.1.c (ts[k]).2.2 :: H) w := hw.sub (.cons 0 rfl (Go.Vc.trd_pick hk) (Sub.refl _))
theorem St.trd_new {T3 : TypeId} {E : Option Addr} {e : Nat} {zs : List B3} (hw : St w0 (TrdA A c xs B d ys :: Own T3 B3C E e zs :: H) w) : St w0 (TrdA A c xs E e zs :: H) w :=
  hw.unsep.sub (.cons 0 rfl (fun w F ⟨F1, F2, h1, h2, _, hF⟩ => ⟨h1.1.mono fun k h => (hF k).2 (.inl h), (InF.own h2).mono fun k h => (hF k).2 (.inr h)⟩) (Sub.refl _))
theorem St.trd_one (hw : St w0 (Own T B3C A c xs :: H) w) : St w0 (TrdA A c xs A c xs :: H) w := hw.sub (.cons 0 rfl (fun w F h => ⟨InF.own h, InF.own h⟩) (Sub.refl _))
theorem RetM.map {K : List Assn} (hs : ∀ w, St w0 H w → St w0 H' w) (h : ∀ w, St w0 H' w → St w0 K w) : ∀ w, St w0 H w → St w0 K w := fun w hw => h w (hs w hw)
theorem TrdA.nilc {i : Nat} (hw : St w0 H w) (hp : pull i H = some (TrdA A c xs B d ys, H')) : (A = none → c = 0) ∧ (B = none → d = 0) := ⟨(TrdA.get hw hp).2.1, (TrdA.get hw hp).2.2.1⟩
end
end Go.Vc
