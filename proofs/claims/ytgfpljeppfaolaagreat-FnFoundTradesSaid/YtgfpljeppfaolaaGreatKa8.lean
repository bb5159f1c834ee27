/-
  The calculus and plain words, part 8.
-/
import Derived.Test.YtgfpljeppfaolaaGreatKa7
set_option linter.unusedVariables false
set_option linter.unusedSimpArgs false
namespace Go.Vc
def Bits (o : Nat) (gs : List (List Nat)) : Prop := ∀ k (h : k < gs.length), ∀ s ∈ gs[k], s % 128 = 2 ^ (o + k)
theorem Bits.tail {o : Nat} {g : List Nat} {gs : List (List Nat)} (h : Bits o (g :: gs)) : Bits (o + 1) gs := fun k hk s hs => by
  have := h (k + 1) (by simp; omega) s (by simpa using hs)
  rw [this]
  congr 1
  omega

end Go.Vc

namespace Go.Vc
section
variable {ms ns : List Nat} {D X k f c j : Nat} {now : List Int}
end
end Go.Vc
namespace Go.Vc

end Go.Vc
namespace Go.Vc

section
variable {ms : List Nat} {D k c i n : Nat} {now : List Int}
end
end Go.Vc
namespace Go.Vc
end Go.Vc
namespace Go.Vc
end Go.Vc

namespace Go.Vc
section
variable {ms : List Nat}
end
theorem first_headD {α : Type} {L : List α} {d : α} (h0 : 0 < L.length) : L[0] = L.headD d := by
  cases L with
  | nil => simp at h0
  | cons x l => rfl
end Go.Vc

namespace Go.Vc
open Go Go.RowKit
section
variable {α : Type} {C : Cod α} {T T2 : TypeId} {w0 w : World} {H H' : List Assn}
theorem sub_list {A B : List Assn} (h : A.Sublist B) : Sub (B ++ H) (A ++ H) := by
  induction h with
  | slnil => exact Sub.refl _
  | cons x _ ih => exact Sub.drop ih
  | cons_cons x _ ih => exact Sub.keep 0 rfl ih
theorem RowsA.some {ps qs : List (Sl × List α)} (h : qs.Sublist ps) (hw : St w0 (RowsA T C ps :: H) w) : St w0 (RowsA T C qs :: H) w := St.rows.2 ((St.rows.1 hw).sub (sub_list (h.map _)))
end

def SyP : Cod (Int × Sl) := ⟨2, fun p => [.int .i64 p.1, p.2.v], by decide, fun _ => rfl, fun _ u hu => by simp at hu; rcases hu with rfl | rfl <;> rfl⟩
def sumB : List (Sl × List B3) → Nat
  | [] => 0
  | p :: r => 1 + 3 * p.2.length + sumB r
def mkT : Int → List (Sl × List B3) → List (Int × Sl)
  | _, [] => []
  | m, p :: r => (m, p.1) :: mkT (m + 1 + 3 * (p.2.length : Int)) r
def mkR : Int → List (Sl × List B3) → List (Sl × List B3)
  | _, [] => []
  | m, p :: r => (p.1, marksB (m + 1) p.2.length) :: mkR (m + 1 + 3 * (p.2.length : Int)) r
theorem mkR_append : ∀ ps qs m, mkR m (ps ++ qs) = mkR m ps ++ mkR (m + (sumB ps : Int)) qs := by
  intro ps qs
  induction ps with
  | nil => intro m; simp [mkR, sumB]
  | cons p ps ih =>
    intro m
    simp only [List.cons_append, mkR, sumB, ih]
    congr 3
    push_cast
    omega
theorem mkR_len : ∀ ps m, (mkR m ps).length = ps.length := by
  intro ps
  induction ps with
  | nil => intro m; rfl
  | cons p ps ih => intro m; simp [mkR, ih]
section
variable {ps : List (Sl × List B3)} {m v : Int} {k : Nat}
theorem mkR_get (hk : k < ps.length) (h1 : k < (mkR m ps).length) : (mkR m ps)[k] = ((ps[k]).1, marksB (m + (sumB (ps.take k) : Int) + 1) (ps[k]).2.length) := by
  have e : ps = ps.take k ++ (ps[k] :: ps.drop (k + 1)) := by rw [← List.drop_eq_getElem_cons hk, List.take_append_drop]
  have h2 : mkR m ps = mkR m (ps.take k) ++ mkR (m + (sumB (ps.take k) : Int)) (ps[k] :: ps.drop (k + 1)) := by rw [← mkR_append, ← e]
  have hl : (mkR m (ps.take k)).length = k := by rw [mkR_len, List.length_take]; omega
  have h3 := List.getElem_of_eq h2 h1
  rw [h3, List.getElem_append_right (by omega)]
  simp only [hl, Nat.sub_self, mkR, List.getElem_cons_zero]
end
section
variable {T : TypeId} {w0 w : World} {H H' : List Assn} {v : Int}
structure RdP (m : Int) (w : World) (A : Option Addr) (ps : List (Sl × List B3)) : Prop where
  top : Rd SyP w A (mkT m ps)
  len : ∀ k (hk : k < ps.length), (ps[k]).1.n = (ps[k]).2.length
  row : ∀ k (hk : k < ps.length), Rd B3C w (ps[k]).1.A (marksB (m + (sumB (ps.take k) : Int) + 1) (ps[k]).2.length)
theorem Ld.pp {T2 c i j : Nat} {A : Option Addr} {ps : List (Sl × List B3)} {m : Int} {H2 : List Assn} (hp : pull i H = some (Own T2 SyP A c (mkT m ps), H')) (hq : pull j H = some (RowsA T B3C (mkR m ps), H2)) : ∀ w, St w0 H w → RdP m w A ps := by
  intro w hw
  refine ⟨Own.rd hw hp, fun k hk => ?_, fun k hk => ?_⟩
  · have hk2 : k < (mkR m ps).length := by rw [mkR_len]; exact hk
    have h := (RowsA.len j hq w hw _ (List.getElem_mem hk2)).1
    rw [mkR_get hk hk2, marksB_len] at h
    exact h
  · have hk2 : k < (mkR m ps).length := by rw [mkR_len]; exact hk
    have h := Ld.rows j hq hk2 w hw
    rw [mkR_get hk hk2] at h
    exact h
end
end Go.Vc
namespace Go.Vc
end Go.Vc
namespace Go.Vc
end Go.Vc

namespace Go.Vc
def ptA (fs : List B3) : Int := (fs.headD (0, 0, 0)).1
def PtC (fs : List B3) (p : Int) : Prop := p ≠ ptA fs ∧ (∃ c ∈ fs, has c p) ∧ ¬ ∃ c ∈ fs, has c p ∧ has c (ptA fs)
noncomputable instance (fs : List B3) : DecidablePred (PtC fs) := fun _ => Classical.propDecidable _
def lastP (C : Int → Prop) [DecidablePred C] : Nat → Int
  | 0 => -1
  | n + 1 => if C (n : Int) then (n : Int) else lastP C n
noncomputable def ptB (n : Nat) (fs : List B3) : Int := lastP (PtC fs) n
def lastL (C : Int → Prop) [DecidablePred C] (l : List Int) : Int := l.foldl (fun a p => if C p then p else a) (-1)
section
variable {C : Int → Prop} [DecidablePred C] {n : Nat}
theorem lastP_yes (h : C (n : Int)) : lastP C (n + 1) = n := if_pos h
theorem lastP_no (h : ¬ C (n : Int)) : lastP C (n + 1) = lastP C n := if_neg h
theorem lastP_lt : -1 ≤ lastP C n ∧ lastP C n < n := by
  induction n with
  | zero => exact ⟨Int.le_refl _, (by show (-1 : Int) < 0; decide)⟩
  | succ n ih =>
    by_cases h : C (n : Int)
    · rw [lastP_yes h]; omega
    · rw [lastP_no h]; omega
theorem lastP_some : ∀ n : Nat, (∃ p : Int, 0 ≤ p ∧ p < n ∧ C p) → 0 ≤ lastP C n := by
  intro n
  induction n with
  | zero => rintro ⟨p, h1, h2, _⟩; omega
  | succ n ih =>
    rintro ⟨p, h1, h2, h3⟩
    by_cases h : C (n : Int)
    · rw [lastP_yes h]; omega
    · rw [lastP_no h]
      refine ih ⟨p, h1, ?_, h3⟩
      by_cases e : p = n
      · subst e; exact absurd h3 h
      · omega
theorem lastL_snoc {l : List Int} {p : Int} : lastL C (l ++ [p]) = if C p then p else lastL C l := by unfold lastL; rw [List.foldl_append]; rfl
end

def ptsN (ps : List Int) (n : Nat) : List Int := ((List.range n).filter fun k : Nat => decide (0 < cN ps (k : Int))).map fun k : Nat => (k : Int)
section
variable {ps : List Int} {n : Nat}
theorem ptsN_yes (h : 0 < cN ps (n : Int)) : ptsN ps (n + 1) = ptsN ps n ++ [(n : Int)] := by
  unfold ptsN
  rw [List.range_succ, List.filter_append, List.filter_cons_of_pos (p := fun k : Nat => decide (0 < cN ps (k : Int))) (decide_eq_true h), List.map_append]
  rfl
theorem ptsN_no (h : ¬ 0 < cN ps (n : Int)) : ptsN ps (n + 1) = ptsN ps n := by
  unfold ptsN
  rw [List.range_succ, List.filter_append, List.filter_cons_of_neg (p := fun k : Nat => decide (0 < cN ps (k : Int))) (by rw [decide_eq_false h]; decide)]
  simp
theorem ptsN_mem {p : Int} : p ∈ ptsN ps n ↔ 0 ≤ p ∧ p < n ∧ 0 < cN ps p := by
  unfold ptsN
  simp only [List.mem_map, List.mem_filter, List.mem_range, decide_eq_true_eq]
  constructor
  · rintro ⟨k, ⟨h1, h2⟩, rfl⟩; exact ⟨by omega, by omega, h2⟩
  · rintro ⟨h1, h2, h3⟩
    exact ⟨p.toNat, ⟨by omega, by rw [show ((p.toNat : Nat) : Int) = p by omega]; exact h3⟩, by omega⟩
theorem ptsN_up : (ptsN ps n).Pairwise (· < ·) := by
  unfold ptsN
  rw [List.pairwise_map]
  exact (List.pairwise_lt_range.filter _).imp fun h => by omega
theorem ptsN_len : (ptsN ps n).length ≤ n := by
  unfold ptsN
  rw [List.length_map]
  refine Nat.le_trans (List.length_filter_le _ _) ?_
  rw [List.length_range]
  exact Nat.le_refl _
theorem lastL_pts {C : Int → Prop} [DecidablePred C] (h : ∀ p, C p → 0 < cN ps p) : ∀ n, lastL C (ptsN ps n) = lastP C n := by
  intro n
  induction n with
  | zero => rfl
  | succ n ih =>
    by_cases h1 : 0 < cN ps (n : Int)
    · rw [ptsN_yes h1, lastL_snoc, ih]; rfl
    · rw [ptsN_no h1, ih, lastP_no (fun hc => h1 (h _ hc))]
theorem posL_map {f : Nat → Int} : ∀ l : List Nat, posL (l.map f) = (l.filter fun k => decide (0 < f k)).length := by
  intro l
  induction l with
  | nil => rfl
  | cons x l ih =>
    rw [List.map_cons, List.filter_cons]
    simp only [posL, ih]
    by_cases h : 0 < f x
    · simp [h]; omega
    · simp [h]
theorem cntA_range (ps : List Int) : cntA ps = (List.range 15).map fun k : Nat => cN ps (k : Int) := rfl
theorem dist_pts (hn : n ≤ 15) (hp : ∀ p ∈ ps, 0 ≤ p ∧ p < n) : dist ps = (ptsN ps n).length := by
  have h15 : dist ps = (ptsN ps 15).length := by
    unfold dist ptsN
    rw [cntA_range, posL_map, List.length_map]
  have key : ∀ d, ptsN ps (n + d) = ptsN ps n := by
    intro d
    induction d with
    | zero => rfl
    | succ d ih =>
      rw [← Nat.add_assoc, ptsN_no, ih]
      intro h
      have h2 : ((n + d : Nat) : Int) ∈ ps := by
        unfold cN at h
        exact List.count_pos_iff.1 (by omega)
      have := hp _ h2
      omega
  rw [h15, show 15 = n + (15 - n) by omega, key]
def cntV (ps : List Int) (n : Nat) : List Int := (List.range n).map fun k : Nat => cN ps (k : Int)
theorem cntV_len : (cntV ps n).length = n := by simp [cntV]
theorem cntV_nil : cntV [] n = List.replicate n 0 := by
  refine List.ext_getElem (by simp [cntV]) (fun i h1 h2 => ?_)
  simp [cntV, cN]
theorem cntV_get {p : Int} (h0 : 0 ≤ p) (h1 : p < n) (h : p.toNat < (cntV ps n).length) : (cntV ps n)[p.toNat] = cN ps p := by
  have e : ((p.toNat : Nat) : Int) = p := by omega
  simp only [cntV, List.getElem_map, List.getElem_range, e]
theorem cntV_set {p : Int} (h0 : 0 ≤ p) (h1 : p < n) : (cntV ps n).set p.toNat (cN ps p + 1) = cntV (ps ++ [p]) n := by
  refine List.ext_getElem (by simp [cntV]) (fun i h2 h3 => ?_)
  rw [List.getElem_set]
  simp only [cntV, List.getElem_map, List.getElem_range, cN_snoc]
  by_cases e : p.toNat = i
  · rw [if_pos e, if_pos (by omega), show ((i : Nat) : Int) = p by omega]
  · rw [if_neg e, if_neg (by omega)]
    omega
end

section
variable {v : Int} {A B C D X Y Z : B3}
theorem hasN_pos {b : B3} {p : Int} : hasN b p = 1 ↔ has b p := by unfold hasN; split <;> simp_all
theorem far_core (gY : good v Y) (gZ : good v Z) (hp : ∀ p, hasN A p + hasN X p + hasN Y p + hasN Z p = 0 ∨ hasN A p + hasN X p + hasN Y p + hasN Z p = 2) (hX : has X A.1) : ∃ p, (has Y p ∨ has Z p) ∧ ¬ has A p ∧ ¬ has X p := by
  apply Classical.byContradiction
  intro hc
  have hall : ∀ p, has Y p ∨ has Z p → has A p ∨ has X p := by
    intro p h
    apply Classical.byContradiction
    intro h2
    exact hc ⟨p, h, fun h3 => h2 (.inl h3), fun h3 => h2 (.inr h3)⟩
  have hA1 : has A A.1 := .inl rfl
  have n1 := hasN_pos.2 hA1
  have n2 := hasN_pos.2 hX
  have hYa : ¬ has Y A.1 := fun h => by have := hp A.1; have := hasN_pos.2 h; omega
  have hZa : ¬ has Z A.1 := fun h => by have := hp A.1; have := hasN_pos.2 h; omega
  have hYZ : ∀ p, has Y p → ¬ has Z p := by
    intro p h1 h2
    have := hp p
    have := hasN_pos.2 h1
    have := hasN_pos.2 h2
    rcases hall p (.inl h1) with h | h
    · have := hasN_pos.2 h; omega
    · have := hasN_pos.2 h; omega
  have hnd : [Y.1, Y.2.1, Y.2.2, Z.1, Z.2.1, Z.2.2].Nodup := by
    have a1 := hYZ Y.1 (.inl rfl)
    have a2 := hYZ Y.2.1 (.inr (.inl rfl))
    have a3 := hYZ Y.2.2 (.inr (.inr rfl))
    unfold good at gY gZ
    unfold has at a1 a2 a3
    simp only [List.nodup_cons, List.mem_cons, List.not_mem_nil, or_false, not_false_eq_true, List.nodup_nil, and_true, not_or] at *
    omega
  have hsub : [Y.1, Y.2.1, Y.2.2, Z.1, Z.2.1, Z.2.2] ⊆ [A.2.1, A.2.2, X.1, X.2.1, X.2.2] := by
    have key : ∀ p, has Y p ∨ has Z p → p ∈ [A.2.1, A.2.2, X.1, X.2.1, X.2.2] := by
      intro p h
      have hne : p ≠ A.1 := by
        rintro rfl
        rcases h with h | h
        · exact hYa h
        · exact hZa h
      have := hall p h
      unfold has at this
      simp only [List.mem_cons, List.not_mem_nil, or_false]
      omega
    intro p hp2
    simp only [List.mem_cons, List.not_mem_nil, or_false] at hp2
    refine key p ?_
    unfold has
    omega
  have := hnd.length_le_of_subset hsub
  simp at this
theorem far_pt (gB : good v B) (gC : good v C) (gD : good v D) (hP : P4 A B C D) : ∃ p, PtC [A, B, C, D] p := by
  have hA1 : has A A.1 := .inl rfl
  have n1 := hasN_pos.2 hA1
  have h0 := hP A.1
  have fin : ∀ p X Y Z, (has Y p ∨ has Z p) → ¬ has A p → ¬ has X p → ¬ has Y A.1 → ¬ has Z A.1 → (∀ c, c ∈ [A, B, C, D] ↔ c ∈ [A, X, Y, Z]) → PtC [A, B, C, D] p := by
    intro p X Y Z h1 h2 h3 h4 h5 h6
    refine ⟨fun e => h2 (by rw [e]; exact hA1), ?_, ?_⟩
    · rcases h1 with h | h
      · exact ⟨Y, (h6 Y).2 (by simp), h⟩
      · exact ⟨Z, (h6 Z).2 (by simp), h⟩
    · rintro ⟨c, hc, hc1, hc2⟩
      have hc2 : has c A.1 := hc2
      have := (h6 c).1 hc
      simp only [List.mem_cons, List.not_mem_nil, or_false] at this
      rcases this with rfl | rfl | rfl | rfl
      · exact h2 hc1
      · exact h3 hc1
      · exact h4 hc2
      · exact h5 hc2
  have no : ∀ {X Y : B3}, hasN X A.1 = 0 → ¬ has X A.1 := fun h h2 => by have := hasN_pos.2 h2; omega
  by_cases hB : has B A.1
  · have := hasN_pos.2 hB
    obtain ⟨p, h1, h2, h3⟩ := far_core gC gD hP hB
    exact ⟨p, fin p B C D h1 h2 h3 (no (Y := A) (by omega)) (no (Y := A) (by omega)) (fun c => Iff.rfl)⟩
  · by_cases hC : has C A.1
    · have := hasN_pos.2 hC
      obtain ⟨p, h1, h2, h3⟩ := far_core (X := C) (Y := B) (Z := D) gB gD (fun p => by have := hP p; omega) hC
      exact ⟨p, fin p C B D h1 h2 h3 hB (no (Y := A) (by omega)) (fun c => by simp only [List.mem_cons, List.not_mem_nil, or_false]; constructor <;> (intro h; rcases h with h | h | h | h <;> simp [h]))⟩
    · by_cases hD : has D A.1
      · have := hasN_pos.2 hD
        obtain ⟨p, h1, h2, h3⟩ := far_core (X := D) (Y := B) (Z := C) gB gC (fun p => by have := hP p; omega) hD
        exact ⟨p, fin p D B C h1 h2 h3 hB hC (fun c => by simp only [List.mem_cons, List.not_mem_nil, or_false]; constructor <;> (intro h; rcases h with h | h | h | h <;> simp [h]))⟩
      · exfalso
        have b := hasN_le B A.1
        have hB' : hasN B A.1 ≠ 1 := fun h => hB (hasN_pos.1 h)
        have hC' : hasN C A.1 ≠ 1 := fun h => hC (hasN_pos.1 h)
        have hD' : hasN D A.1 ≠ 1 := fun h => hD (hasN_pos.1 h)
        have c := hasN_le C A.1
        have d := hasN_le D A.1
        omega
end
noncomputable def insT (n : Nat) (fs : List B3) : List B3 := Classical.epsilon fun i => i.Perm (fs.map (exB (ptA fs) (ptB n fs))) ∧ SrtB i
theorem insT_eq {n : Nat} {fs i : List B3} (h : i.Perm (fs.map (exB (ptA fs) (ptB n fs))) ∧ SrtB i) : i = insT n fs := by
  have h2 : (insT n fs).Perm (fs.map (exB (ptA fs) (ptB n fs))) ∧ SrtB (insT n fs) := Classical.epsilon_spec (p := fun i => i.Perm (fs.map (exB (ptA fs) (ptB n fs))) ∧ SrtB i) ⟨i, h⟩
  exact srtB_unique h.2 h2.2 (h.1.trans h2.1.symm)
noncomputable def trQ (v : Int) (bs : List B3) (q : List Int) : List B3 × List B3 := (q.map (blk bs), insT v.toNat (q.map (blk bs)))
def TRL (v : Int) (bs : List B3) (c : List (List B3 × List B3)) : Prop := (STS v bs → ∃ ls, IsList (PQ bs) ls ∧ c = ls.map (trQ v bs)) ∧ (¬ STS v bs → c = [])
theorem TRL.unique {v : Int} {bs : List B3} {c d : List (List B3 × List B3)} (h1 : TRL v bs c) (h2 : TRL v bs d) : c = d := by
  by_cases h : STS v bs
  · obtain ⟨l1, a1, rfl⟩ := h1.1 h
    obtain ⟨l2, a2, rfl⟩ := h2.1 h
    rw [IsList.unique a1 a2]
  · rw [h1.2 h, h2.2 h]
end Go.Vc
namespace Go.Vc

theorem mem_blP {b : B3} {p : Int} : p ∈ bl b ↔ has b p := by
  unfold bl has
  simp only [List.mem_cons, List.not_mem_nil, or_false]
  constructor <;> (intro h; rcases h with h | h | h <;> simp [h])
theorem cN_has {fs : List B3} {p : Int} : 0 < cN (fs.flatMap bl) p ↔ ∃ c ∈ fs, has c p := by
  unfold cN
  have h1 : 0 < ((List.count p (fs.flatMap bl) : Nat) : Int) ↔ p ∈ fs.flatMap bl := by
    rw [← List.count_pos_iff (a := p) (l := fs.flatMap bl)]
    omega
  rw [h1, List.mem_flatMap]
  exact ⟨fun ⟨c, h, h2⟩ => ⟨c, h, mem_blP.1 h2⟩, fun ⟨c, h, h2⟩ => ⟨c, h, mem_blP.2 h2⟩⟩
theorem cN_bd {ps : List Int} {p : Int} : 0 ≤ cN ps p ∧ cN ps p ≤ ps.length := by
  unfold cN
  have := List.count_le_length (a := p) (l := ps)
  omega
section
variable {v : Int} {fs : List B3}
theorem fs_pts (hg : ∀ b ∈ fs, good v b) : ∀ p ∈ fs.flatMap bl, 0 ≤ p ∧ p < v := by
  intro p hp
  obtain ⟨c, hc, h⟩ := List.mem_flatMap.1 hp
  have h1 := hg c hc
  have h2 := mem_blP.1 h
  unfold good at h1
  unfold has at h2
  omega
theorem has_pt {c : B3} {p : Int} (hg : good v c) (h : has c p) : 0 ≤ p ∧ p < v := by
  unfold good at hg
  unfold has at h
  omega
theorem pt_far (h4 : fs.length = 4) (hg : ∀ b ∈ fs, good v b) (hP : PasB fs) : ∃ p : Int, 0 ≤ p ∧ p < v ∧ PtC fs p := by
  obtain ⟨A, B, C, D, rfl⟩ : ∃ A B C D, fs = [A, B, C, D] := by
    match fs, h4 with
    | [A, B, C, D], _ => exact ⟨A, B, C, D, rfl⟩
  have gA := hg A (by simp)
  have gB := hg B (by simp)
  have gC := hg C (by simp)
  have gD := hg D (by simp)
  obtain ⟨p, hp⟩ := far_pt gB gC gD ((pasB_four gA gB gC gD).1 hP)
  obtain ⟨c, hc, h⟩ := hp.2.1
  have h1 := has_pt (hg c hc) h
  exact ⟨p, h1.1, h1.2, hp⟩
theorem ptB_nonneg (hv : 0 ≤ v) (h4 : fs.length = 4) (hg : ∀ b ∈ fs, good v b) (hP : PasB fs) : 0 ≤ ptB v.toNat fs := by
  obtain ⟨p, h1, h2, h3⟩ := pt_far h4 hg hP
  exact lastP_some _ ⟨p, h1, by omega, h3⟩
theorem six_to (hv : 0 ≤ v ∧ v ≤ 15) (h4 : fs.length = 4) (hg : ∀ b ∈ fs, good v b) (hP : PasB fs) : (ptsN (fs.flatMap bl) v.toNat).length = 6 ∧ ∀ p, cN (fs.flatMap bl) p ≤ 2 := by
  have hp := fs_pts hg
  have h1 := (six_iff (ps := fs.flatMap bl) (fun p h => by have := hp p h; omega) (by rw [flat_len]; omega)).2 hP
  refine ⟨?_, fun p => ?_⟩
  · rw [← dist_pts (n := v.toNat) (by omega) (fun p h => by have := hp p h; omega)]
    exact h1.1
  · have := hP p
    unfold cN
    omega
theorem six_of (hv : 0 ≤ v ∧ v ≤ 15) (h4 : fs.length = 4) (hg : ∀ b ∈ fs, good v b) (hl : (ptsN (fs.flatMap bl) v.toNat).length = 6) (h2 : ∀ q : Nat, q < v.toNat → cN (fs.flatMap bl) (q : Int) ≤ 2) : PasB fs := by
  have hp := fs_pts hg
  refine (six_iff (ps := fs.flatMap bl) (fun p h => by have := hp p h; omega) (by rw [flat_len]; omega)).1 ⟨?_, ?_⟩
  · rw [dist_pts (n := v.toNat) (by omega) (fun p h => by have := hp p h; omega)]
    exact hl
  · rintro ⟨x, hx, hx2⟩
    obtain ⟨p, h1, h3, rfl⟩ := mem_cntA.1 hx
    by_cases hpv : p < v
    · have := h2 p.toNat (by omega)
      rw [show ((p.toNat : Nat) : Int) = p by omega] at this
      omega
    · have h0 : p ∈ fs.flatMap bl := by
        unfold cN at hx2
        exact List.count_pos_iff.1 (by omega)
      have := hp p h0
      omega
theorem pts_head (h4 : fs.length = 4) (hg : ∀ b ∈ fs, good v b) (hlt : fs.Pairwise B3.lt) {n : Nat} (hn : v.toNat = n) (h0 : 0 < (ptsN (fs.flatMap bl) n).length) : (ptsN (fs.flatMap bl) n)[0] = ptA fs := by
  have hp := fs_pts hg
  obtain ⟨A, r, rfl⟩ : ∃ A r, fs = A :: r := by
    match fs, h4 with
    | A :: r, _ => exact ⟨A, r, rfl⟩
  have gA := hg A (by simp)
  have hle : ∀ q ∈ ptsN ((A :: r).flatMap bl) n, A.1 ≤ q := by
    intro q hq
    obtain ⟨_, _, hc⟩ := ptsN_mem.1 hq
    obtain ⟨c, hc, hh⟩ := cN_has.1 hc
    have hcg := hg c hc
    have h1 : A.1 ≤ c.1 := by
      rcases List.mem_cons.1 hc with rfl | hc
      · exact Int.le_refl _
      · have := (List.pairwise_cons.1 hlt).1 c hc
        unfold B3.lt at this
        omega
    unfold good at hcg
    unfold has at hh
    omega
  have hm : A.1 ∈ ptsN ((A :: r).flatMap bl) n := by
    unfold good at gA
    exact ptsN_mem.2 ⟨by omega, by omega, cN_has.2 ⟨A, by simp, .inl rfl⟩⟩
  obtain ⟨j, hj, e⟩ := List.getElem_of_mem hm
  have h1 := hle _ (List.getElem_mem h0)
  show _ = A.1
  by_cases hj0 : j = 0
  · subst hj0; exact e
  · have := List.pairwise_iff_getElem.1 (ptsN_up (ps := (A :: r).flatMap bl) (n := n)) 0 j h0 hj (by omega)
    omega
theorem ptc_at {n i : Nat} {a : Int} (hi : i < (ptsN (fs.flatMap bl) n).length) (h0 : 0 < (ptsN (fs.flatMap bl) n).length) (ha : (ptsN (fs.flatMap bl) n)[0] = a) (ha2 : a = ptA fs) (hi0 : 0 < i) : PtC fs (ptsN (fs.flatMap bl) n)[i] ↔ ¬ ∃ c ∈ fs, has c a ∧ has c (ptsN (fs.flatMap bl) n)[i] := by
  have h1 := List.pairwise_iff_getElem.1 (ptsN_up (ps := fs.flatMap bl) (n := n)) 0 i h0 hi hi0
  have h2 := cN_has.1 (ptsN_mem.1 (List.getElem_mem hi)).2.2
  constructor
  · rintro ⟨_, _, h⟩ ⟨c, hc, h3, h4⟩
    exact h ⟨c, hc, h4, by rw [← ha2]; exact h3⟩
  · intro h
    exact ⟨by rw [← ha2]; omega, h2, fun ⟨c, hc, h3, h4⟩ => h ⟨c, hc, by rw [ha2]; exact h4, h3⟩⟩
theorem ptc_first : ¬ PtC fs (ptA fs) := fun h => h.1 rfl
theorem last_pts {n : Nat} : lastL (PtC fs) (ptsN (fs.flatMap bl) n) = ptB n fs := lastL_pts (fun p h => cN_has.2 h.2.1) n
end
theorem cntV_at {ps : List Int} {n k : Nat} (hk : k < n) (h : k < (cntV ps n).length) : (cntV ps n)[k] = cN ps (k : Int) := by
  simp only [cntV, List.getElem_map, List.getElem_range]

def exS (p q : Int) (l : List Int) (i : Nat) : List Int := (l.take i).map (sw2 p q) ++ l.drop i
section
variable {p q : Int} {l : List Int} {i : Nat}
theorem exS_zero : exS p q l 0 = l := by simp [exS]
theorem exS_len (h : i ≤ l.length) : (exS p q l i).length = l.length := by simp [exS]; omega
theorem exS_at (h : i < l.length) (h1 : i < (exS p q l i).length) : (exS p q l i)[i] = l[i] := by
  have e : exS p q l i = (l.take i).map (sw2 p q) ++ l.drop i := rfl
  have hl : ((l.take i).map (sw2 p q)).length = i := by rw [List.length_map, List.length_take]; omega
  have h3 := List.getElem_of_eq e h1
  rw [h3, List.getElem_append_right (by omega)]
  simp only [hl, Nat.sub_self, List.drop_eq_getElem_cons h, List.getElem_cons_zero]
theorem exS_set (h : i < l.length) : (exS p q l i).set i (sw2 p q l[i]) = exS p q l (i + 1) := by
  have hl : ((l.take i).map (sw2 p q)).length = i := by rw [List.length_map, List.length_take]; omega
  unfold exS
  rw [List.set_append_right _ _ (by omega), hl, Nat.sub_self, List.drop_eq_getElem_cons h, List.set_cons_zero, take_snoc h, List.map_append]
  simp
theorem exS_all (h : i = l.length) : exS p q l i = l.map (sw2 p q) := by
  unfold exS
  rw [List.take_of_length_le (by omega), List.drop_eq_nil_of_le (by omega), List.append_nil]
end
end Go.Vc
namespace Go.Vc
theorem common_ne {v : Int} {bs : List B3} (h : STS v bs) {i j : Nat} (hi : i < bs.length) (hj : j < bs.length) (hne : i ≠ j) (hc : ¬ common bs[i] bs[j] = 1) : ¬ meets bs[i] bs[j] := by
  intro hm
  have t3 := (h.good _ (List.getElem_mem hj)).three
  have gi := h.good _ (List.getElem_mem hi)
  unfold good at gi
  have e1 : has bs[i] bs[i].1 := .inl rfl
  have e2 : has bs[i] bs[i].2.1 := .inr (.inl rfl)
  have e3 : has bs[i] bs[i].2.2 := .inr (.inr rfl)
  have hle : common bs[i] bs[j] ≤ 1 := (common_le t3).2 ⟨fun q => hne (h.two hi hj (by omega) e1 e2 q.1 q.2), fun q => hne (h.two hi hj (by omega) e1 e3 q.1 q.2), fun q => hne (h.two hi hj (by omega) e2 e3 q.1 q.2)⟩
  have hge : 1 ≤ common bs[i] bs[j] := by
    rw [common_has _ t3]
    unfold meets at hm
    (repeat' split) <;> first | omega | (exfalso; rcases hm with q | q | q <;> contradiction)
  omega
end Go.Vc
namespace Go.Vc
def apB (fs : List B3) (a q : Int) (k : Nat) : Bool := (fs.take k).all fun c => !(decide (has c a) && decide (has c q))
section
variable {fs : List B3} {a q : Int} {k : Nat}
theorem apB_zero : apB fs a q 0 = true := rfl
theorem apB_succ (ek : k < fs.length) : apB fs a q (k + 1) = (apB fs a q k && !(decide (has fs[k] a) && decide (has fs[k] q))) := by
  unfold apB
  rw [take_snoc ek, List.all_append]
  simp
theorem apB_iff (h : fs.length ≤ k) : apB fs a q k = true ↔ ¬ ∃ c ∈ fs, has c a ∧ has c q := by
  unfold apB
  rw [List.take_of_length_le h, List.all_eq_true]
  constructor
  · rintro h1 ⟨c, hc, h2, h3⟩
    have := h1 c hc
    simp [h2, h3] at this
  · intro h1 c hc
    by_cases h2 : has c a
    · by_cases h3 : has c q
      · exact absurd ⟨c, hc, h2, h3⟩ h1
      · simp [h3]
    · simp [h2]
theorem apart_yes (ek : k < fs.length) (hap : true = apB fs a q k) (h : has fs[k] a) : (!decide (has fs[k] q)) = apB fs a q (k + 1) := by
  rw [apB_succ ek, ← hap, decide_eq_true h]
  rfl
theorem apart_no (ek : k < fs.length) (hap : true = apB fs a q k) (h : ¬ has fs[k] a) : true = apB fs a q (k + 1) := by
  rw [apB_succ ek, ← hap, decide_eq_false h]
  rfl
theorem apart_off (ek : k < fs.length) (hap : false = apB fs a q k) : false = apB fs a q (k + 1) := by
  rw [apB_succ ek, ← hap]
  rfl
end
end Go.Vc
namespace Go.Vc
theorem trQ_four {v : Int} {bs : List B3} {i j k m : Nat} (hi : i < bs.length) (hj : j < bs.length) (hk : k < bs.length) (hm : m < bs.length) {o r : List B3} (h : o = [bs[i], bs[j], bs[k], bs[m]] ∧ (r.Perm ([bs[i], bs[j], bs[k], bs[m]].map (exB (ptA [bs[i], bs[j], bs[k], bs[m]]) (ptB v.toNat [bs[i], bs[j], bs[k], bs[m]]))) ∧ SrtB r)) : (o, r) = trQ v bs [(i : Int), (j : Int), (k : Int), (m : Int)] := by
  have e : [(i : Int), (j : Int), (k : Int), (m : Int)].map (blk bs) = [bs[i], bs[j], bs[k], bs[m]] := by
    simp only [List.map_cons, List.map_nil, blk_get hi, blk_get hj, blk_get hk, blk_get hm]
  unfold trQ
  rw [e, ← insT_eq h.2, h.1]
theorem four_lt {v : Int} {bs : List B3} (h : bs.Pairwise B3.lt) {i j k m : Nat} (h1 : i < j) (h2 : j < k) (h3 : k < m) (hm : m < bs.length) : [bs[i], bs[j], bs[k], bs[m]].Pairwise B3.lt := by
  have key := List.pairwise_iff_getElem.1 h
  simp only [List.pairwise_cons, List.mem_cons, List.not_mem_nil, or_false, forall_eq_or_imp, forall_eq, List.Pairwise.nil, and_true, false_implies, implies_true]
  exact ⟨⟨key i j (by omega) (by omega) h1, key i k (by omega) (by omega) (by omega), key i m (by omega) hm (by omega)⟩, ⟨key j k (by omega) (by omega) h2, key j m (by omega) hm (by omega)⟩, key k m (by omega) hm h3⟩
end Go.Vc
namespace Go.Vc
theorem srt_some : ∀ l : List B3, ∃ i, i.Perm l ∧ SrtB i := by
  intro l
  induction l with
  | nil => exact ⟨[], List.Perm.refl _, List.Pairwise.nil⟩
  | cons b l ih =>
    obtain ⟨i, hp, hs⟩ := ih
    have h0 := List.filter_append_perm (fun x => decide (leB x b)) i
    refine ⟨i.filter (fun x => decide (leB x b)) ++ b :: i.filter (fun x => !decide (leB x b)), (List.perm_middle.trans ((h0.trans hp).cons b)), ?_⟩
    unfold SrtB
    rw [List.pairwise_append, List.pairwise_cons]
    have h1 : ∀ x ∈ i.filter (fun x => decide (leB x b)), leB x b := fun x hx => of_decide_eq_true (List.mem_filter.1 hx).2
    have h2 : ∀ x ∈ i.filter (fun x => !decide (leB x b)), leB b x := fun x hx => by
      have h := (List.mem_filter.1 hx).2
      have h3 : ¬ leB x b := by simpa using h
      unfold leB at h3 ⊢
      unfold B3.lt at *
      omega
    exact ⟨hs.sublist List.filter_sublist, ⟨h2, hs.sublist List.filter_sublist⟩, fun x hx y hy => by
      rcases List.mem_cons.1 hy with rfl | hy
      · exact h1 x hx
      · exact leB_trans (h1 x hx) (h2 y hy)⟩
theorem insT_len {n : Nat} {fs : List B3} : (insT n fs).length = fs.length := by
  obtain ⟨i, h⟩ := srt_some (fs.map (exB (ptA fs) (ptB n fs)))
  rw [← insT_eq h, h.1.length_eq, List.length_map]
theorem TRL.small {v : Int} {bs : List B3} {c : List (List B3 × List B3)} (h : TRL v bs c) : ∀ q ∈ c, q.1.length ≤ 4 ∧ q.2.length ≤ 4 := by
  intro q hq
  by_cases hS : STS v bs
  · obtain ⟨ls, hl, rfl⟩ := h.1 hS
    obtain ⟨r, hr, rfl⟩ := List.mem_map.1 hq
    have h4 := ((hl.2 r).1 hr).four
    unfold trQ
    dsimp only
    rw [insT_len, List.length_map]
    omega
  · rw [h.2 hS] at hq
    simp at hq
end Go.Vc

namespace Go.Vc
open Go Go.RowKit
def TrC (v : Int) : Cod (Sl × Sl) := ⟨3, fun s => [.int .i64 v, s.1.v, s.2.v], by decide, fun _ => rfl, fun _ u hu => by simp at hu; rcases hu with rfl | rfl | rfl <;> rfl⟩
abbrev TrL : Type := List ((Sl × List B3) × (Sl × List B3))
def topT (ts : TrL) : List (Sl × Sl) := ts.map fun t => (t.1.1, t.2.1)
def outT (ts : TrL) : List (Sl × List B3) := ts.map fun t => t.1
def innT (ts : TrL) : List (Sl × List B3) := ts.map fun t => t.2
def contT (ts : TrL) : List (List B3 × List B3) := ts.map fun t => (t.1.2, t.2.2)
theorem topT_len (ts : TrL) : (topT ts).length = ts.length := List.length_map ..
theorem outT_len (ts : TrL) : (outT ts).length = ts.length := List.length_map ..
theorem innT_len (ts : TrL) : (innT ts).length = ts.length := List.length_map ..
theorem contT_len (ts : TrL) : (contT ts).length = ts.length := List.length_map ..
theorem contT_append (ts us : TrL) : contT (ts ++ us) = contT ts ++ contT us := List.map_append ..
theorem topT_append (ts us : TrL) : topT (ts ++ us) = topT ts ++ topT us := List.map_append ..
theorem contT_get (ts : TrL) {k : Nat} (h : k < ts.length) (h1 : k < (contT ts).length) : (contT ts)[k] = ((ts[k]).1.2, (ts[k]).2.2) := List.getElem_map ..
section
variable {T tT : TypeId} {w0 w : World} {H H' H2 : List Assn} {v : Int}
def TrsA (T : TypeId) (ts : TrL) : Assn := .sep (RowsA T B3C (outT ts)) (RowsA T B3C (innT ts))
theorem TrsA.opened {ts : TrL} (hw : St w0 (TrsA T ts :: H) w) : St w0 (RowsA T B3C (outT ts) :: RowsA T B3C (innT ts) :: H) w := hw.sep
theorem TrsA.close {ts : TrL} (hw : St w0 (RowsA T B3C (outT ts) :: RowsA T B3C (innT ts) :: H) w) : St w0 (TrsA T ts :: H) w := hw.unsep
theorem TrsA.nil (hw : St w0 H w) : St w0 (TrsA T [] :: H) w := TrsA.close (RowsA.nil (RowsA.nil hw))
theorem rows_snoc {ps : List (Sl × List B3)} {B : Option Addr} {d : Nat} {xs : List B3} (hw : St w0 (Own T B3C B d xs :: RowsA T B3C ps :: H) w) : St w0 (RowsA T B3C (ps ++ [(⟨B, xs.length, d⟩, xs)]) :: H) w := by
  have h := RowsA.cons hw
  exact RowsA.perm (List.perm_append_comm (l₁ := [(⟨B, xs.length, d⟩, xs)]) (l₂ := ps)) h
theorem trs_snoc {A B1 B2 : Option Addr} {c d1 d2 : Nat} {ts : TrL} {os ns : List B3} (hw : St w0 (Own tT (TrC v) A c (topT ts ++ [(⟨B1, os.length, d1⟩, ⟨B2, ns.length, d2⟩)]) :: TrsA T ts :: Own T B3C B1 d1 os :: Own T B3C B2 d2 ns :: H) w) :
    St w0 (Own tT (TrC v) A c (topT (ts ++ [((⟨B1, os.length, d1⟩, os), (⟨B2, ns.length, d2⟩, ns))])) :: TrsA T (ts ++ [((⟨B1, os.length, d1⟩, os), (⟨B2, ns.length, d2⟩, ns))]) :: H) w := by
  rw [topT_append]
  have h1 : St w0 (TrsA T ts :: Own T B3C B1 d1 os :: Own T B3C B2 d2 ns :: Own tT (TrC v) A c (topT ts ++ [(⟨B1, os.length, d1⟩, ⟨B2, ns.length, d2⟩)]) :: H) w := hw.sub (Sub.keep 1 rfl (Sub.keep 1 rfl (Sub.keep 1 rfl (Sub.keep 0 rfl (Sub.refl _)))))
  have h2 := TrsA.opened h1
  have h3 := rows_snoc (h2.sub (Sub.keep 2 rfl (Sub.keep 0 rfl (Sub.keep 0 rfl (Sub.keep 0 rfl (Sub.keep 0 rfl (Sub.refl _)))))))
  have h4 := rows_snoc (h3.sub (Sub.keep 2 rfl (Sub.keep 1 rfl (Sub.keep 0 rfl (Sub.keep 0 rfl (Sub.refl _))))))
  have h5 := h4.perm (List.Perm.swap _ _ _)
  have e1 : outT (ts ++ [((⟨B1, os.length, d1⟩, os), (⟨B2, ns.length, d2⟩, ns))]) = outT ts ++ [(⟨B1, os.length, d1⟩, os)] := List.map_append ..
  have e2 : innT (ts ++ [((⟨B1, os.length, d1⟩, os), (⟨B2, ns.length, d2⟩, ns))]) = innT ts ++ [(⟨B2, ns.length, d2⟩, ns)] := List.map_append ..
  rw [← e1, ← e2] at h5
  exact (TrsA.close h5).perm (List.Perm.swap _ _ _)
structure RdT (v : Int) (w : World) (A : Option Addr) (ts : TrL) : Prop where
  top : Rd (TrC v) w A (topT ts)
  lo : ∀ k (hk : k < ts.length), (ts[k]).1.1.n = (ts[k]).1.2.length
  li : ∀ k (hk : k < ts.length), (ts[k]).2.1.n = (ts[k]).2.2.length
  ro : ∀ k (hk : k < ts.length), Rd B3C w (ts[k]).1.1.A (ts[k]).1.2
  ri : ∀ k (hk : k < ts.length), Rd B3C w (ts[k]).2.1.A (ts[k]).2.2
theorem TrsA.rdT {A : Option Addr} {c : Nat} {ts : TrL} (hw : St w0 (Own tT (TrC v) A c (topT ts) :: TrsA T ts :: H) w) : RdT v w A ts := by
  have h1 := TrsA.opened (hw.perm (List.Perm.swap _ _ _))
  have e1 : ∀ k (hk : k < ts.length), (outT ts)[k]'(by rw [outT_len]; exact hk) = (ts[k]).1 := fun k hk => List.getElem_map ..
  have e2 : ∀ k (hk : k < ts.length), (innT ts)[k]'(by rw [innT_len]; exact hk) = (ts[k]).2 := fun k hk => List.getElem_map ..
  refine ⟨Own.rd (i := 2) h1 rfl, fun k hk => ?_, fun k hk => ?_, fun k hk => ?_, fun k hk => ?_⟩
  · have := (RowsA.len 0 rfl w h1 _ (List.getElem_mem (l := outT ts) (by rw [outT_len]; exact hk))).1
    rwa [e1 k hk] at this
  · have := (RowsA.len 1 rfl w h1 _ (List.getElem_mem (l := innT ts) (by rw [innT_len]; exact hk))).1
    rwa [e2 k hk] at this
  · have := Ld.rows 0 rfl (k := k) (ps := outT ts) (by rw [outT_len]; exact hk) w h1
    rwa [e1 k hk] at this
  · have := Ld.rows 1 rfl (k := k) (ps := innT ts) (by rw [innT_len]; exact hk) w h1
    rwa [e2 k hk] at this
theorem Ld.tt {A : Option Addr} {c : Nat} {ts : TrL} (i j : Nat) (hp : pull i H = some (Own tT (TrC v) A c (topT ts), H')) (hq : pull j H' = some (TrsA T ts, H2)) : ∀ w, St w0 H w → RdT v w A ts := by
  intro w hw
  have h1 := hw.perm (pull_perm hp)
  have h2 := h1.perm ((pull_perm hq).cons _)
  exact TrsA.rdT h2
theorem RdT.nil (w : World) (A : Option Addr) : RdT v w A [] := ⟨Rd.nil _ _ _, fun k hk => by simp at hk, fun k hk => by simp at hk, fun k hk => by simp at hk, fun k hk => by simp at hk⟩
theorem RdT.below {A : Option Addr} {ts : TrL} (h : RdT v w0 A ts) (hb : Bel w0.heap.size w0 w) : RdT v w A ts := ⟨h.top.below hb, h.lo, h.li, fun k hk => (h.ro k hk).below hb, fun k hk => (h.ri k hk).below hb⟩
theorem Ld.rowT {A : Option Addr} {ts : TrL} (h : ∀ w, St w0 H w → RdT v w A ts) {k s : Nat} (hk : k < ts.length) (hs : s = 3) :
    ∀ w, St w0 H w → ∃ q, A.map (·.add (k * s)) = some q ∧ ∀ m u, ([.int .i64 v, .slice (ts[k]).1.1.A (ts[k]).1.2.length (ts[k]).1.1.c, .slice (ts[k]).2.1.A (ts[k]).2.2.length (ts[k]).2.1.c] : List Value)[m]? = some u → w.cell? (q.add m) = some u := by
  intro w hw
  have hk' : k < (topT ts).length := by rw [topT_len]; exact hk
  obtain ⟨q, h1, h2⟩ := Ld.rds (C := TrC v) (fun w hw => (h w hw).top) hk' (s := s) hs w hw
  refine ⟨q, h1, fun m u hm => h2 m u ?_⟩
  have e : (topT ts)[k] = ((ts[k]).1.1, (ts[k]).2.1) := List.getElem_map ..
  rw [e]
  simp only [TrC, Sl.v, (h w hw).lo k hk, (h w hw).li k hk]
  exact hm
end

section
variable {ts : TrL} {m v : Int} {k : Nat}
end
section
variable {T : TypeId} {w0 w : World} {H H' : List Assn} {v : Int}
end
end Go.Vc
namespace Go.Vc
open Go Go.RowKit
section
variable {T : TypeId} {w0 w : World} {H : List Assn} {ts : TrL} {k : Nat} {qs : List (Sl × List B3)}
theorem contT_ext {ts us : TrL} (hl : ts.length = us.length) (h : ∀ j (h1 : j < ts.length) (h2 : j < us.length), (ts[j]).1.2 = (us[j]).1.2 ∧ (ts[j]).2.2 = (us[j]).2.2) : contT ts = contT us := by
  refine List.ext_getElem (by rw [contT_len, contT_len]; exact hl) (fun j h1 h2 => ?_)
  rw [contT_len] at h1 h2
  rw [contT_get ts h1, contT_get us h2]
  exact Prod.ext (h j h1 h2).1 (h j h1 h2).2
theorem contT_at {ts us : TrL} (h : contT ts = contT us) {j : Nat} (h1 : j < ts.length) (h2 : j < us.length) : (ts[j]).1.2 = (us[j]).1.2 ∧ (ts[j]).2.2 = (us[j]).2.2 := by
  have e := List.getElem_of_eq h (by rw [contT_len]; exact h1)
  rw [contT_get ts h1, contT_get us h2] at e
  exact ⟨(Prod.mk.inj e).1, (Prod.mk.inj e).2⟩
end
end Go.Vc

namespace Go.Vc
open Go Go.RowKit
theorem TRL.rows {v : Int} {bs : List B3} {ts : TrL} (h : TRL v bs (contT ts)) : ∀ k (hk : k < ts.length), (ts[k]).1.2.length ≤ 1000 ∧ (ts[k]).2.2.length ≤ 1000 := by
  intro k hk
  have hm : ((ts[k]).1.2, (ts[k]).2.2) ∈ contT ts := List.mem_map_of_mem (f := fun t : (Sl × List B3) × (Sl × List B3) => (t.1.2, t.2.2)) (List.getElem_mem hk)
  have h1 := h.small _ hm
  dsimp only at h1
  omega
section
variable {T tT : TypeId} {w0 w : World} {H : List Assn} {v : Int}
end
end Go.Vc

namespace Go.Vc
section
variable {v : Int} {bs r : List B3}
theorem sts_of (lo : 3 ≤ v) (hi : v ≤ 15) (few : bs.length ≤ 35) (hg : ∀ b ∈ bs, good v b) (hlt : bs.Pairwise B3.lt) (hc : ∀ a ∈ bs, ∀ b ∈ bs, a ≠ b → common a b ≤ 1) : STS v bs := by
  have key := List.pairwise_iff_getElem.1 hlt
  refine ⟨lo, hi, few, fun i h _ => ⟨hg _ (List.getElem_mem h), fun j hj e => key j i hj h (by omega)⟩, fun i h _ j hj hji => hc _ (List.getElem_mem h) _ (List.getElem_mem hj) ?_⟩
  intro e
  have := key j i hj h hji
  rw [e] at this
  unfold B3.lt at this
  omega
theorem lt_of_srt (hs : SrtB r) (hn : r.Nodup) : r.Pairwise B3.lt := by
  refine (hs.and hn).imp fun {a b} h => ?_
  obtain ⟨h1, h2⟩ := h
  apply Decidable.byContradiction
  intro h3
  exact h2 (leB_anti h1 h3)
end

section
variable {v k : Int} {b c : B3} {bs r s : List B3}
theorem sts_srt (h : STS v bs) : SrtB bs := by
  refine List.pairwise_iff_getElem.2 fun i j hi hj hij => ?_
  have key : ∀ d, ∀ i (hi : i < bs.length), ∀ (hj : i + d + 1 < bs.length), B3.lt (bs[i]) (bs[i + d + 1]) := by
    intro d
    induction d with
    | zero => intro i hi hj; exact (h.ord (i + 1) hj (by omega)).2 i hi rfl
    | succ d ih =>
      intro i hi hj
      have h1 := ih i hi (by omega)
      have h2 := (h.ord (i + d + 1 + 1) (by omega) (by omega)).2 (i + d + 1) (by omega) rfl
      have h3 : B3.lt bs[i] bs[i + d + 1 + 1] := by unfold B3.lt at *; omega
      exact h3
  have h4 := key (j - i - 1) i hi (by omega)
  have e : i + (j - i - 1) + 1 = j := by omega
  exact leB_of (by simpa only [e] using h4)
end
end Go.Vc

namespace Go.Vc
open Go Go.RowKit
abbrev PsL : Type := List (Int × Sl × List B3)
def topP (ps : PsL) : List (Int × Sl) := ps.map fun p => (p.1, p.2.1)
section
variable {T T2 : TypeId} {w0 w : World} {H H' H2 : List Assn} {v : Int} {ps : PsL}
structure RdPs (w : World) (A : Option Addr) (ps : PsL) : Prop where
  top : Rd SyP w A (topP ps)
  len : ∀ k (hk : k < ps.length), (ps[k]).2.1.n = (ps[k]).2.2.length
  row : ∀ k (hk : k < ps.length), Rd B3C w (ps[k]).2.1.A (ps[k]).2.2
theorem RdPs.below {A : Option Addr} (h : RdPs w0 A ps) (hb : Bel w0.heap.size w0 w) : RdPs w A ps := ⟨h.top.below hb, h.len, fun k hk => (h.row k hk).below hb⟩
theorem RdPs.st {A : Option Addr} (h : RdPs w0 A ps) (hw : St w0 H w) : RdPs w A ps := h.below hw.below
theorem RdPs.nil (w : World) (A : Option Addr) : RdPs w A [] := ⟨Rd.nil _ _ _, fun k hk => by simp at hk, fun k hk => by simp at hk⟩
end

section
variable {ps : PsL}
end
end Go.Vc
namespace Go.Vc
open Go Go.RowKit
section
variable {T T2 : TypeId} {w0 w : World} {H : List Assn} {v : Int}
end
end Go.Vc

namespace Go.Vc
def lessB (xs ys : List B3) : List B3 := xs.filter fun b => !decide (b ∈ ys)
theorem mem_lessB {xs ys : List B3} {b : B3} : b ∈ lessB xs ys ↔ b ∈ xs ∧ b ∉ ys := by
  unfold lessB; simp
theorem lessB_len {xs ys : List B3} : (lessB xs ys).length ≤ xs.length := List.length_filter_le _ _
def FIT (v : Int) (bs : List B3) (p : Int) (os : List B3) : Prop := v = p ∧ ∀ b ∈ os, b ∈ bs
noncomputable instance (v : Int) (bs : List B3) (p : Int) (os : List B3) : Decidable (FIT v bs p os) := Classical.propDecidable _
theorem fit_len {bs os : List B3} : (os.filter fun b => decide (b ∈ bs)).length = os.length ↔ ∀ b ∈ os, b ∈ bs := by
  rw [List.length_filter_eq_length_iff]; simp
noncomputable def crC (v : Int) (bs : List B3) (p : Int) (os ns : List B3) : Int := if STS v bs ∧ TRD p os ns then if FIT v bs p os then 0 else 5 else 1
def CRR (v : Int) (bs : List B3) (p : Int) (os ns r : List B3) : Prop := (crC v bs p os ns = 0 → r.Perm (lessB bs os ++ ns) ∧ SrtB r) ∧ (crC v bs p os ns ≠ 0 → r = [])
section
variable {v p : Int} {bs os ns r s : List B3}
theorem crC_1 (h : ¬ (STS v bs ∧ TRD p os ns)) : crC v bs p os ns = 1 := if_neg h
theorem crC_5 (h : STS v bs) (g : TRD p os ns) (f : ¬ FIT v bs p os) : crC v bs p os ns = 5 := by unfold crC; rw [if_pos ⟨h, g⟩, if_neg f]
theorem crC_0 (h : STS v bs) (g : TRD p os ns) (f : FIT v bs p os) : crC v bs p os ns = 0 := by unfold crC; rw [if_pos ⟨h, g⟩, if_pos f]
theorem crC_ok (h : crC v bs p os ns = 0) : STS v bs ∧ TRD p os ns ∧ FIT v bs p os := by
  unfold crC at h
  split at h
  · rename_i h1
    split at h
    · exact ⟨h1.1, h1.2, by assumption⟩
    · omega
  · omega
theorem CRR.len (h : CRR v bs p os ns r) : r.length ≤ 100 := by
  by_cases hc : crC v bs p os ns = 0
  · obtain ⟨h1, h2, h3⟩ := crC_ok hc
    have e := (h.1 hc).1.length_eq
    rw [List.length_append] at e
    have := lessB_len (xs := bs) (ys := os)
    have := h1.few
    have := h2.2.1.few
    omega
  · rw [h.2 hc]; simp
noncomputable def dfC (v : Int) (bs : List B3) (u : Int) (cs : List B3) : Int :=
  haveI := Classical.propDecidable ((prsB bs).Perm (prsB cs))
  if STS v bs ∧ STS u cs then if v = u ∧ (prsB bs).Perm (prsB cs) then 0 else 5 else 1
def DFR (v : Int) (bs : List B3) (u : Int) (cs : List B3) (o i : List B3) : Prop := (dfC v bs u cs = 0 → (o.Perm (lessB bs cs) ∧ SrtB o) ∧ (i.Perm (lessB cs bs) ∧ SrtB i)) ∧ (dfC v bs u cs ≠ 0 → o = [] ∧ i = [])
theorem dfC_1 {u : Int} {cs : List B3} (h : ¬ (STS v bs ∧ STS u cs)) : dfC v bs u cs = 1 := if_neg h
theorem dfC_5 {u : Int} {cs : List B3} (h : STS v bs) (g : STS u cs) (f : ¬ (v = u ∧ (prsB bs).Perm (prsB cs))) : dfC v bs u cs = 5 := by unfold dfC; rw [if_pos ⟨h, g⟩, if_neg f]
theorem dfC_0 {u : Int} {cs : List B3} (h : STS v bs) (g : STS u cs) (f : v = u ∧ (prsB bs).Perm (prsB cs)) : dfC v bs u cs = 0 := by unfold dfC; rw [if_pos ⟨h, g⟩, if_pos f]
theorem dfC_ok {u : Int} {cs : List B3} (h : dfC v bs u cs = 0) : STS v bs ∧ STS u cs ∧ v = u ∧ (prsB bs).Perm (prsB cs) := by
  unfold dfC at h
  split at h
  · rename_i h1
    split at h
    · rename_i h2; exact ⟨h1.1, h1.2, h2.1, h2.2⟩
    · omega
  · omega
theorem DFR.unique {u : Int} {cs o i o2 i2 : List B3} (h : DFR v bs u cs o i) (g : DFR v bs u cs o2 i2) : o = o2 ∧ i = i2 := by
  by_cases hc : dfC v bs u cs = 0
  · exact ⟨srtB_unique (h.1 hc).1.2 (g.1 hc).1.2 ((h.1 hc).1.1.trans (g.1 hc).1.1.symm), srtB_unique (h.1 hc).2.2 (g.1 hc).2.2 ((h.1 hc).2.1.trans (g.1 hc).2.1.symm)⟩
  · obtain ⟨rfl, rfl⟩ := h.2 hc
    obtain ⟨rfl, rfl⟩ := g.2 hc
    exact ⟨rfl, rfl⟩
theorem DFR.len {u : Int} {cs o i : List B3} (h : DFR v bs u cs o i) : o.length ≤ 35 ∧ i.length ≤ 35 := by
  by_cases hc : dfC v bs u cs = 0
  · have h1 := (h.1 hc).1.1.length_eq
    have h2 := (h.1 hc).2.1.length_eq
    have h3 := (dfC_ok hc).1.few
    have h4 := (dfC_ok hc).2.1.few
    have h5 := lessB_len (xs := bs) (ys := cs)
    have h6 := lessB_len (xs := cs) (ys := bs)
    omega
  · obtain ⟨rfl, rfl⟩ := h.2 hc
    simp
theorem flt_less_yes {xs ys : List B3} {i : Nat} (hi : i < xs.length) (h : xs[i] ∉ ys) : lessB (xs.take (i + 1)) ys = lessB (xs.take i) ys ++ [xs[i]] := by
  unfold lessB
  rw [take_snoc hi, List.filter_append]
  simp [h]
theorem flt_less_no {xs ys : List B3} {i : Nat} (hi : i < xs.length) (h : xs[i] ∈ ys) : lessB (xs.take (i + 1)) ys = lessB (xs.take i) ys := by
  unfold lessB
  rw [take_snoc hi, List.filter_append]
  simp [h]
def INR (v : Int) (os ns o i : List B3) : Prop := (TRD v os ns → o = ns ∧ i = os) ∧ (¬ TRD v os ns → o = [] ∧ i = [])
theorem INR.len {o i : List B3} (h : INR v os ns o i) : o.length ≤ 35 ∧ i.length ≤ 35 := by
  by_cases hc : TRD v os ns
  · obtain ⟨rfl, rfl⟩ := h.1 hc
    exact ⟨hc.2.1.few, hc.1.few⟩
  · obtain ⟨rfl, rfl⟩ := h.2 hc
    simp
theorem trd_symm (h : TRD v os ns) : TRD v ns os := ⟨h.2.1, h.1, fun b hb ho => h.2.2.1 b ho hb, h.2.2.2.symm⟩
theorem trd_len (h : TRD v os ns) : os.length = ns.length := by
  have := h.2.2.2.length_eq
  rw [prsB_len, prsB_len] at this
  omega
theorem sts_two {a b : B3} (h : STS v bs) (ha : a ∈ bs) (hb : b ∈ bs) {x y : Int} (hxy : x ≠ y) (h1 : has a x) (h2 : has a y) (h3 : has b x) (h4 : has b y) : a = b := by
  obtain ⟨i, hi, rfl⟩ := List.getElem_of_mem ha
  obtain ⟨j, hj, rfl⟩ := List.getElem_of_mem hb
  have e := h.two hi hj hxy h1 h2 h3 h4
  subst e
  rfl
theorem trd_share (h : TRD v os ns) {d : B3} (hd : d ∈ os) {x y : Int} (hxy : x ≠ y) (h1 : has d x) (h2 : has d y) : ∃ e ∈ ns, has e x ∧ has e y := by
  have hv := h.1.lo
  have ev : ((v.toNat : Nat) : Int) = v := by omega
  have ho : STS (v.toNat : Int) os := by rw [ev]; exact h.1
  have hn : STS (v.toNat : Int) ns := by rw [ev]; exact h.2.1
  have hg := h.1.good d hd
  unfold good at hg
  have hx : 0 ≤ x := by unfold has at h1; omega
  have hy : 0 ≤ y := by unfold has at h2; omega
  have key : ∀ x y : Nat, x < y → has d x → has d y → ∃ e ∈ ns, has e x ∧ has e y := fun x y hlt a b => (prsB_mem hn hlt).1 (h.2.2.2.mem_iff.1 ((prsB_mem ho hlt).2 ⟨d, hd, a, b⟩))
  obtain ⟨x, rfl⟩ := Int.eq_ofNat_of_zero_le hx
  obtain ⟨y, rfl⟩ := Int.eq_ofNat_of_zero_le hy
  rcases Nat.lt_or_gt_of_ne (show x ≠ y by omega) with h3 | h3
  · exact key x y h3 h1 h2
  · obtain ⟨e, he, a, b⟩ := key y x h3 h2 h1
    exact ⟨e, he, b, a⟩
theorem good_all {a b : B3} (ha : good v a) (hb : good v b) (h1 : has b a.1) (h2 : has b a.2.1) (h3 : has b a.2.2) : b = a := by
  unfold good at ha hb
  unfold has at h1 h2 h3
  obtain ⟨a1, a2, a3⟩ := a
  obtain ⟨b1, b2, b3⟩ := b
  simp only at *
  have e1 : b1 = a1 := by omega
  have e2 : b2 = a2 := by omega
  have e3 : b3 = a3 := by omega
  rw [e1, e2, e3]
theorem good_third {b : B3} (hb : good v b) (x y : Int) : ∃ z, has b z ∧ z ≠ x ∧ z ≠ y := by
  unfold good at hb
  by_cases h1 : b.1 ≠ x ∧ b.1 ≠ y
  · exact ⟨b.1, .inl rfl, h1⟩
  · by_cases h2 : b.2.1 ≠ x ∧ b.2.1 ≠ y
    · exact ⟨b.2.1, .inr (.inl rfl), h2⟩
    · exact ⟨b.2.2, .inr (.inr rfl), by omega, by omega⟩
theorem sts_lts (h : STS v bs) : bs.Pairwise B3.lt := by
  refine lt_of_srt (sts_srt h) ?_
  refine List.pairwise_iff_getElem.2 fun i j hi hj hij e => ?_
  have g := h.good _ (List.getElem_mem hi)
  have t := h.fits j hj hj i hi hij
  rw [← e] at t
  have c := (common_le g.three).1 t
  exact c.1 ⟨.inl rfl, .inr (.inl rfl)⟩
theorem sts_nodup (h : STS v bs) : bs.Nodup := (sts_lts h).imp fun {a b} hl e => by
  rw [e] at hl
  unfold B3.lt at hl
  omega
theorem kept_apart (hs : STS v bs) (h : TRD v os ns) (hf : ∀ b ∈ os, b ∈ bs) {a b : B3} (ha : a ∈ bs) (hao : a ∉ os) (hb : b ∈ ns) {x y : Int} (hxy : x ≠ y) (h1 : has a x) (h2 : has a y) (h3 : has b x) (h4 : has b y) : False := by
  obtain ⟨e, he, e1, e2⟩ := trd_share (trd_symm h) hb hxy h3 h4
  exact hao (sts_two hs (hf e he) ha hxy e1 e2 h1 h2 ▸ he)
theorem common_two {a b : B3} (ha : good v a) (hb : good v b) (h : ¬ common a b ≤ 1) : ∃ x y, x ≠ y ∧ has a x ∧ has a y ∧ has b x ∧ has b y := by
  rw [common_le hb.three] at h
  unfold good at ha
  by_cases h1 : has b a.1 ∧ has b a.2.1
  · exact ⟨a.1, a.2.1, by omega, .inl rfl, .inr (.inl rfl), h1.1, h1.2⟩
  · by_cases h2 : has b a.1 ∧ has b a.2.2
    · exact ⟨a.1, a.2.2, by omega, .inl rfl, .inr (.inr rfl), h2.1, h2.2⟩
    · by_cases h3 : has b a.2.1 ∧ has b a.2.2
      · exact ⟨a.2.1, a.2.2, by omega, .inr (.inl rfl), .inr (.inr rfl), h3.1, h3.2⟩
      · exact absurd ⟨h1, h2, h3⟩ h
theorem kept_not (hs : STS v bs) (h : TRD v os ns) (hf : ∀ b ∈ os, b ∈ bs) {a : B3} (ha : a ∈ bs) (hao : a ∉ os) : a ∉ ns := fun hn => by
  have g := hs.good a ha
  unfold good at g
  exact kept_apart hs h hf ha hao hn (show a.1 ≠ a.2.1 by omega) (.inl rfl) (.inr (.inl rfl)) (.inl rfl) (.inr (.inl rfl))
theorem less_perm (hs : bs.Nodup) (ho : os.Nodup) (hf : ∀ b ∈ os, b ∈ bs) : (lessB bs os ++ os).Perm bs := by
  refine (List.perm_ext_iff_of_nodup ?_ hs).2 fun b => ?_
  · refine List.nodup_append.2 ⟨hs.filter _, ho, fun a ha b hb e => ?_⟩
    subst e
    exact (mem_lessB.1 ha).2 hb
  · rw [List.mem_append, mem_lessB]
    by_cases hb : b ∈ os
    · simp [hb, hf b hb]
    · simp [hb]
theorem carry_sts (hs : STS v bs) (h : TRD v os ns) (hf : ∀ b ∈ os, b ∈ bs) (hp : r.Perm (lessB bs os ++ ns)) (hr : SrtB r) : STS v r := by
  have hm : ∀ {b}, b ∈ r ↔ (b ∈ bs ∧ b ∉ os) ∨ b ∈ ns := by
    intro b
    rw [hp.mem_iff, List.mem_append, mem_lessB]
  have hnd : r.Nodup := by
    rw [hp.nodup_iff]
    refine List.nodup_append.2 ⟨(sts_nodup hs).filter _, sts_nodup h.2.1, fun a ha b hb e => ?_⟩
    subst e
    exact kept_not hs h hf (mem_lessB.1 ha).1 (mem_lessB.1 ha).2 hb
  have hl : r.length = bs.length := by
    have e := hp.length_eq
    have e2 := (less_perm (sts_nodup hs) (sts_nodup h.1) hf).length_eq
    rw [List.length_append] at e e2
    have := trd_len h
    omega
  have hg : ∀ b ∈ r, good v b := fun b hb => by
    rcases hm.1 hb with h1 | h1
    · exact hs.good b h1.1
    · exact h.2.1.good b h1
  refine sts_of hs.lo hs.hi (by rw [hl]; exact hs.few) hg (lt_of_srt hr hnd) fun a ha b hb hne => ?_
  apply Decidable.byContradiction
  intro hc
  obtain ⟨x, y, hxy, k1, k2, k3, k4⟩ := common_two (hg a ha) (hg b hb) hc
  rcases hm.1 ha with h1 | h1 <;> rcases hm.1 hb with h2 | h2
  · exact hne (sts_two hs h1.1 h2.1 hxy k1 k2 k3 k4)
  · exact kept_apart hs h hf h1.1 h1.2 h2 hxy k1 k2 k3 k4
  · exact kept_apart hs h hf h2.1 h2.2 h1 hxy k3 k4 k1 k2
  · exact hne (sts_two h.2.1 h1 h2 hxy k1 k2 k3 k4)
theorem carry_back (h0 : crC v bs p os ns = 0) (h : CRR v bs p os ns r) : crC v r p ns os = 0 ∧ r.length = bs.length ∧ ∀ s, CRR v r p ns os s → s = bs := by
  obtain ⟨hs, ht, hfv, hf⟩ := crC_ok h0
  subst hfv
  obtain ⟨hp, hr⟩ := h.1 h0
  have hn := carry_sts hs ht hf hp hr
  have hm : ∀ {b}, b ∈ r ↔ (b ∈ bs ∧ b ∉ os) ∨ b ∈ ns := by
    intro b
    rw [hp.mem_iff, List.mem_append, mem_lessB]
  have hf2 : ∀ b ∈ ns, b ∈ r := fun b hb => hm.2 (.inr hb)
  have hc := crC_0 hn (trd_symm ht) ⟨rfl, hf2⟩
  have e1 := hp.length_eq
  have e2 := (less_perm (sts_nodup hs) (sts_nodup ht.1) hf).length_eq
  rw [List.length_append] at e1 e2
  have e3 := trd_len ht
  refine ⟨hc, by omega, fun s hS => ?_⟩
  obtain ⟨q1, q2⟩ := hS.1 hc
  refine srtB_unique q2 (sts_srt hs) (q1.trans ?_)
  refine (List.perm_ext_iff_of_nodup ?_ (sts_nodup hs)).2 fun b => ?_
  · refine List.nodup_append.2 ⟨(sts_nodup hn).filter _, sts_nodup ht.1, fun a ha b hb e => ?_⟩
    subst e
    have h3 := mem_lessB.1 ha
    rcases hm.1 h3.1 with h4 | h4
    · exact h4.2 hb
    · exact h3.2 h4
  · rw [List.mem_append, mem_lessB, hm]
    constructor
    · rintro (⟨h1 | h1, h2⟩ | h1)
      · exact h1.1
      · exact absurd h1 h2
      · exact hf b h1
    · intro hb
      by_cases ho : b ∈ os
      · exact .inr ho
      · exact .inl ⟨.inl ⟨hb, ho⟩, kept_not hs ht hf hb ho⟩
end
end Go.Vc

namespace Go.Vc
open Go Go.RowKit
section
variable {α : Type} {C : Cod α} {T : TypeId} {w w' w0 : World} {F G : Nat → Prop} {A B : Option Addr} {c d i : Nat} {xs : List α} {H H' : List Assn}
def InF (C : Cod α) (w : World) (F : Nat → Prop) (A : Option Addr) (c : Nat) (xs : List α) : Prop :=
  Rd C w A xs ∧ (A = none → xs.length = 0 ∧ c = 0) ∧ xs.length ≤ c ∧ ∀ q, A = some q → 0 < xs.length → F q.block
theorem add_block (q : Addr) (n : Nat) : (q.add n).block = q.block := by unfold Addr.add; split <;> rfl
theorem InF.loc (h : InF C w F A c xs) (hk : ∀ k, F k → w'.heap[k]? = w.heap[k]?) : InF C w' F A c xs := by
  obtain ⟨h1, h2, h3, h4⟩ := h
  refine ⟨fun k hk2 => ?_, h2, h3, h4⟩
  obtain ⟨q, hq, hc⟩ := h1 k hk2
  refine ⟨q, hq, fun j u hj => ?_⟩
  rw [World.cell?_of_block (w := w) (a := q.add (k * C.sz + j)) (by rw [add_block]; exact hk _ (h4 q hq (by omega)))]
  exact hc j u hj
theorem InF.mono (h : InF C w F A c xs) (hk : ∀ k, F k → G k) : InF C w G A c xs := ⟨h.1, h.2.1, h.2.2.1, fun q hq hx => hk _ (h.2.2.2 q hq hx)⟩
theorem InF.own (h : (Own T C A c xs).P w F) : InF C w F A c xs := by
  obtain ⟨ho, hF⟩ := h
  rcases ho.2 with ⟨h1, h2⟩ | ⟨g, cap, cur, hv, hb, hh, hle, hmax, hcs, htake⟩
  · have e1 : A = none := by injection h1
    have e2 : c = 0 := by injection h1
    have h0 : xs.length = 0 := h2
    exact ⟨fun k hk => by omega, fun _ => ⟨h0, e2⟩, by omega, fun q hq => by rw [e1] at hq; cases hq⟩
  · have hA : A = Option.some ⟨g, 0, none⟩ := by injection hv
    have hc : c = cap := by injection hv
    refine And.intro (fun k hk => ?_) (And.intro (fun e => ?_) (And.intro (by omega) (fun q hq hx => ?_)))
    · refine ⟨⟨g, 0, none⟩, hA, fun j u hj => ?_⟩
      have hjs : j < C.sz := by have := (List.getElem?_eq_some_iff.1 hj).1; rwa [C.len] at this
      exact ho.cells (g := g) (by rw [hv]; rfl) (k * C.sz + j) u (by rw [getElem?_flatMap_enc C xs k j hk hjs]; exact hj)
    · rw [hA] at e; cases e
    · rw [hA] at hq
      cases hq
      exact (hF g).2 (by rw [hv]; rfl)
theorem InF.drop (h : InF C w F A c xs) {s : Nat} (hs : s = C.sz) (hx : 0 < xs.length) : InF C w F (if c = 1 then A else A.map (·.add (1 * s))) (c - 1) (xs.drop 1) := by
  obtain ⟨h1, h2, h3, h4⟩ := h
  refine ⟨h1.drop hs h3, fun e => ?_, by rw [List.length_drop]; omega, fun q hq hl => ?_⟩
  · split at e
    · have := h2 e; omega
    · cases A with
      | none => have := h2 rfl; omega
      | some q => cases e
  · split at hq
    · exact h4 q hq hx
    · cases A with
      | none => cases hq
      | some r =>
        have e : r.add (1 * s) = q := by simpa using hq
        rw [← e, add_block]
        exact h4 r rfl hx
end
section
variable {T T2 : TypeId} {w w' w0 : World} {F : Nat → Prop} {A B : Option Addr} {c d : Nat} {xs ys : List B3} {H H' : List Assn}
def TrdA (A : Option Addr) (c : Nat) (xs : List B3) (B : Option Addr) (d : Nat) (ys : List B3) : Assn :=
  ⟨fun w F => InF B3C w F A c xs ∧ InF B3C w F B d ys, fun h hk => ⟨h.1.loc hk, h.2.loc hk⟩⟩
theorem trd_own : ∀ w F, (Assn.sep (Own T B3C A c xs) (Own T2 B3C B d ys)).P w F → (TrdA A c xs B d ys).P w F := by
  rintro w F ⟨F1, F2, h1, h2, hd, hF⟩
  exact ⟨(InF.own h1).mono fun k h => (hF k).2 (.inl h), (InF.own h2).mono fun k h => (hF k).2 (.inr h)⟩
theorem rows_at {α : Type} {C : Cod α} {T : TypeId} {ps : List (Sl × List α)} {k : Nat} (hk : k < ps.length) (h : (RowsA T C ps).P w F) : InF C w F (ps[k]).1.A (ps[k]).1.c (ps[k]).2 := by
  have key : ∀ (ps : List (Sl × List α)) (k : Nat) (hk : k < ps.length) (F : Nat → Prop), SatF (ps.map (rowA T C)) w F → InF C w F (ps[k]).1.A (ps[k]).1.c (ps[k]).2 := by
    intro ps
    induction ps with
    | nil => intro k hk; simp at hk
    | cons p ps ih =>
      rintro k hk F ⟨F1, F2, h1, h2, hd, hF⟩
      cases k with
      | zero =>
        obtain ⟨G1, G2, ⟨_, _⟩, g2, _, gF⟩ := h1
        exact (InF.own g2).mono fun j hj => (hF j).2 (.inl ((gF j).2 (.inr hj)))
      | succ k => exact (ih k (by simpa using hk) F2 h2).mono fun j hj => (hF j).2 (.inr hj)
  exact key ps k hk F h
theorem trd_pick {ts : TrL} {k : Nat} (hk : k < ts.length) : ∀ w F, (TrsA T ts).P w F → (TrdA (ts[k]).1.1.A (ts[k]).1.1.c (ts[k]).1.2 (ts[k]).2.1.A (ts[k]).2.1.c (ts[k]).2.2).P w F := by
  rintro w F ⟨F1, F2, h1, h2, hd, hF⟩
  have a := rows_at (k := k) (by rw [outT_len]; exact hk) h1
  have b := rows_at (k := k) (by rw [innT_len]; exact hk) h2
  have e1 : (outT ts)[k]'(by rw [outT_len]; exact hk) = (ts[k]).1 := List.getElem_map ..
  have e2 : (innT ts)[k]'(by rw [innT_len]; exact hk) = (ts[k]).2 := List.getElem_map ..
  rw [e1] at a
  rw [e2] at b
  exact ⟨a.mono fun j hj => (hF j).2 (.inl hj), b.mono fun j hj => (hF j).2 (.inr hj)⟩
theorem TrdA.get {i : Nat} (hw : St w0 H w) (hp : pull i H = some (TrdA A c xs B d ys, H')) : (Rd B3C w A xs ∧ Rd B3C w B ys) ∧ (A = none → c = 0) ∧ (B = none → d = 0) ∧ xs.length ≤ c ∧ ys.length ≤ d := by
  obtain ⟨F, h1, h2⟩ := hw.get i hp
  exact ⟨⟨h1.1, h2.1⟩, fun e => (h1.2.1 e).2, fun e => (h2.2.1 e).2, h1.2.2.1, h2.2.2.1⟩
theorem Ld.trO (i : Nat) (hp : pull i H = some (TrdA A c xs B d ys, H')) : ∀ w, St w0 H w → Rd B3C w A xs := fun w hw => (TrdA.get hw hp).1.1
theorem Ld.trI (i : Nat) (hp : pull i H = some (TrdA A c xs B d ys, H')) : ∀ w, St w0 H w → Rd B3C w B ys := fun w hw => (TrdA.get hw hp).1.2
theorem St.trd (hw : St w0 (Own T B3C A c xs :: Own T2 B3C B d ys :: H) w) : St w0 (TrdA A c xs B d ys :: H) w := hw.unsep.sub (.cons 0 rfl trd_own (Sub.refl _))
theorem St.trd_pick {ts : TrL} {k : Nat} (hk : k < ts.length) (hw : St w0 (TrsA T ts :: H) w) : St w0 (TrdA (ts[k]).1.1.A (ts[k]).1.1.c (ts[k]).1.2 (ts[k]).2.1.A (ts[k]).2.1.c (ts[k]).2.2 :: H) w := hw.sub (.cons 0 rfl (Go.Vc.trd_pick hk) (Sub.refl _))
theorem St.trd_new {T3 : TypeId} {E : Option Addr} {e : Nat} {zs : List B3} (hw : St w0 (TrdA A c xs B d ys :: Own T3 B3C E e zs :: H) w) : St w0 (TrdA A c xs E e zs :: H) w :=
  hw.unsep.sub (.cons 0 rfl (fun w F ⟨F1, F2, h1, h2, _, hF⟩ => ⟨h1.1.mono fun k h => (hF k).2 (.inl h), (InF.own h2).mono fun k h => (hF k).2 (.inr h)⟩) (Sub.refl _))
theorem St.trd_one (hw : St w0 (Own T B3C A c xs :: H) w) : St w0 (TrdA A c xs A c xs :: H) w := hw.sub (.cons 0 rfl (fun w F h => ⟨InF.own h, InF.own h⟩) (Sub.refl _))
theorem X.retCell4 {P : Program} {N : Nat} {σ : Sig} {fn : Func} {t n : Nat} {s1 s2 s3 : Nat} {T : TypeId} {p : Option Addr} {cs : List Value} {u1 u2 u3 : Value} {R : Value → List Assn} (hr : fn.results = #[.cell t T, .tmp s1, .tmp s2, .tmp s3]) (hT : aggT P T = true) (hz : Sz P T n) (hl : cs.length = n) (ht : look σ t = some (.pointer p)) (hs1 : look σ s1 = some u1) (hs2 : look σ s2 = some u2) (hs3 : look σ s3 = some u3)
    (hc : ∀ w, St w0 H w → ∃ q, p = some q ∧ ∀ j u, cs[j]? = some u → w.cell? (q.add j) = some u) (hs : ∀ w, St w0 H w → St w0 (R (.tuple #[.agg cs.toArray, u1, u2, u3])) w) :
    X N w0 (bodyPost P fn (fun e w' => ∃ v, e = .returned v ∧ St w0 (R v) w')) .ret σ H := by
  intro w hw a ha
  refine ⟨ha.defers, .tuple #[.agg cs.toArray, u1, u2, u3], ?_, _, rfl, hs w hw⟩
  have h1 := ha.look_ t _ ht
  have g1 := ha.look_ s1 _ hs1
  have g2 := ha.look_ s2 _ hs2
  have g3 := ha.look_ s3 _ hs3
  obtain ⟨q, rfl, hq⟩ := hc w hw
  subst hl
  have hrn := run_loadCells_list (P := P) (w := w) q cs hq
  simp [results, hr, h1, g1, g2, g3, asAddr, loadVar, run_isAgg_t hT, run_sz hz, hrn]
theorem RetM.map {K : List Assn} (hs : ∀ w, St w0 H w → St w0 H' w) (h : ∀ w, St w0 H' w → St w0 K w) : ∀ w, St w0 H w → St w0 K w := fun w hw => h w (hs w hw)
theorem Ld.rowTf {v : Int} {A : Option Addr} {ts : TrL} (h : ∀ w, St w0 H w → RdT v w A ts) {k s j : Nat} {u : Value} (hk : k < ts.length) (hs : s = 3) (hu : ([.int .i64 v, .slice (ts[k]).1.1.A (ts[k]).1.2.length (ts[k]).1.1.c, .slice (ts[k]).2.1.A (ts[k]).2.2.length (ts[k]).2.1.c] : List Value)[j]? = some u) :
    ∀ w, St w0 H w → ∃ q, (A.map (·.add (k * s))).map (·.add j) = some q ∧ w.cell? q = some u := by
  intro w hw
  obtain ⟨q, h1, h2⟩ := Ld.rowT h hk hs w hw
  exact ⟨q.add j, by rw [h1]; rfl, h2 j u hu⟩
end
end Go.Vc

namespace Go.Vc
def cvr (s : List B3) (x y : Int) : Prop := ∃ c ∈ s, has c x ∧ has c y
def cvrB (s : List B3) (b : B3) : Prop := cvr s b.1 b.2.1 ∧ cvr s b.1 b.2.2 ∧ cvr s b.2.1 b.2.2
noncomputable instance (s : List B3) : DecidablePred (cvrB s) := fun _ => Classical.propDecidable _
noncomputable def parL (s ns : List B3) : List B3 := ns.filter fun b => decide (cvrB s b)
theorem tab_cvr {s : List B3} (h : ∀ b ∈ s, three b) {x y : Int} (hxy : x ≠ y) : ¬ tab s x y = -1 ↔ cvr s x y := by
  rw [tab_left h]
  constructor
  · intro hn
    apply Classical.byContradiction
    intro hc
    exact hn fun b hb hh => hc ⟨b, hb, hh.1, hh.2.1⟩
  · rintro ⟨c, hc, k1, k2⟩ hn
    exact hn c hc ⟨k1, k2, hxy⟩
theorem parL_yes {s ns : List B3} {i : Nat} (hi : i < ns.length) (h : cvrB s ns[i]) : parL s (ns.take (i + 1)) = parL s (ns.take i) ++ [ns[i]] := by
  unfold parL
  rw [take_snoc hi, List.filter_append]
  simp [h]
theorem parL_no {s ns : List B3} {i : Nat} (hi : i < ns.length) (h : ¬ cvrB s ns[i]) : parL s (ns.take (i + 1)) = parL s (ns.take i) := by
  unfold parL
  rw [take_snoc hi, List.filter_append]
  simp [h]
theorem sub_step {out now os : List B3} {i : Nat} (hi : i < out.length) (h : (now ++ out).Sublist os) : ((now ++ [out[i]]) ++ out.drop (i + 1)).Sublist os := by
  rw [List.append_assoc, List.singleton_append, ← List.drop_eq_getElem_cons hi]
  exact (List.Sublist.append_left (List.drop_sublist _ _) _).trans h
theorem fits_part {v : Int} {os s : List B3} (h : STS v os) (hs : s.Sublist os) : fitsAt s s.length ∧ ∀ b ∈ s, good 15 b := by
  have hS : STS v s := by
    have hlt := (sts_lts h).sublist hs
    refine sts_of h.lo h.hi (by have := h.few; have := hs.length_le; omega) (fun c hc => h.good c (hs.subset hc)) hlt fun c hc d hd hne => ?_
    apply Decidable.byContradiction
    intro hn
    obtain ⟨x, y, hxy, k1, k2, k3, k4⟩ := common_two (h.good c (hs.subset hc)) (h.good d (hs.subset hd)) hn
    exact hne (sts_two h (hs.subset hc) (hs.subset hd) hxy k1 k2 k3 k4)
  exact ⟨hS.fits, fun b hb => (hS.good b hb).mono hS.hi⟩
theorem pr_mem {v x y : Int} {c : B3} (hg : good v c) (hx : x < y) (h1 : has c x) (h2 : has c y) : (x, y) = (c.1, c.2.1) ∨ (x, y) = (c.1, c.2.2) ∨ (x, y) = (c.2.1, c.2.2) := by
  unfold good at hg
  unfold has at h1 h2
  simp only [Prod.mk.injEq]
  omega
theorem cov_prs {v x y : Int} {s : List B3} (hg : ∀ b ∈ s, good v b) (hx : x < y) (h : cvr s x y) : (x, y) ∈ prsB s := by
  obtain ⟨c, hc, h1, h2⟩ := h
  exact mem_prsB.2 ⟨c, hc, pr_mem (hg c hc) hx h1 h2⟩
theorem prs_cov {x y : Int} {s : List B3} (h : (x, y) ∈ prsB s) : cvr s x y := by
  obtain ⟨c, hc, h1 | h1 | h1⟩ := mem_prsB.1 h
  · cases h1; exact ⟨c, hc, .inl rfl, .inr (.inl rfl)⟩
  · cases h1; exact ⟨c, hc, .inl rfl, .inr (.inr rfl)⟩
  · cases h1; exact ⟨c, hc, .inr (.inl rfl), .inr (.inr rfl)⟩
theorem no_part {v : Int} {os ns s : List B3} (h : TRD v os ns) (h4 : os.length = 4) (hs : s.Sublist os) (h0 : 0 < s.length) (h3 : s.length < 4) : (parL s ns).length ≠ s.length := by
  intro he
  have hgo := h.1.good
  have hgn := h.2.1.good
  have hgs : ∀ b ∈ s, good v b := fun b hb => hgo b (hs.subset hb)
  have hln := trd_len h
  have hL : ∀ b, b ∈ parL s ns ↔ b ∈ ns ∧ cvrB s b := fun b => by unfold parL; simp
  have hdis : ∀ {c e : B3}, c ∈ os → e ∈ ns → has c e.1 → has c e.2.1 → has c e.2.2 → False := fun {c e} hc hE k1 k2 k3 =>
    h.2.2.1 c hc (good_all (hgn e hE) (hgo c hc) k1 k2 k3 ▸ hE)
  have hsl : 3 ≤ s.length := by
    have hm : (parL s ns)[0]'(by omega) ∈ parL s ns := List.getElem_mem _
    generalize (parL s ns)[0]'(by omega) = e at hm
    obtain ⟨hE, ⟨c1, m1, a1, b1⟩, ⟨c2, m2, a2, b2⟩, ⟨c3, m3, a3, b3⟩⟩ := (hL e).1 hm
    have n12 : c1 ≠ c2 := fun q => hdis (hs.subset m1) hE a1 b1 (q ▸ b2)
    have n13 : c1 ≠ c3 := fun q => hdis (hs.subset m1) hE a1 b1 (q ▸ b3)
    have n23 : c2 ≠ c3 := fun q => hdis (hs.subset m2) hE a2 (q ▸ a3) b2
    have := nodup_len [c1, c2, c3] s (by simp [n12, n13, n23]) (by simp [m1, m2, m3])
    simpa using this
  have hf : ∃ f ∈ ns, ¬ cvrB s f := by
    apply Classical.byContradiction
    intro hn
    have hall : ∀ b ∈ ns, cvrB s b := fun b hb => Classical.byContradiction fun q => hn ⟨b, hb, q⟩
    have : parL s ns = ns := by unfold parL; exact List.filter_eq_self.2 fun b hb => decide_eq_true (hall b hb)
    rw [this] at he
    omega
  obtain ⟨f, hF, hnf⟩ := hf
  have ndo : (prsB os).Nodup := by
    have hlo := h.1.lo
    have hhi := h.1.hi
    have := prsB_nodup (v := v.toNat) (by omega) (by rw [show ((v.toNat : Nat) : Int) = v by omega]; exact h.1)
    exact this
  have ndn : (prsB ns).Nodup := h.2.2.2.nodup_iff.1 ndo
  have ndL : (prsB (parL s ns)).Nodup := ndn.sublist (prsB_sub List.filter_sublist)
  have sub : ∀ q ∈ prsB (parL s ns), q ∈ prsB s := fun q hq => by
    obtain ⟨b, hb, hq2⟩ := mem_prsB.1 hq
    obtain ⟨hbn, k1, k2, k3⟩ := (hL b).1 hb
    have hg := hgn b hbn
    unfold good at hg
    rcases hq2 with rfl | rfl | rfl
    · exact cov_prs hgs (by omega) k1
    · exact cov_prs hgs (by omega) k2
    · exact cov_prs hgs (by omega) k3
  have back : ∀ q ∈ prsB s, q ∈ prsB (parL s ns) := fun q hq => Classical.byContradiction fun hn => by
    have hx := nodup_len (q :: prsB (parL s ns)) (prsB s) (List.nodup_cons.2 ⟨hn, ndL⟩) (fun r hr => by
      rcases List.mem_cons.1 hr with rfl | hr
      · exact hq
      · exact sub r hr)
    rw [List.length_cons, prsB_len, prsB_len] at hx
    omega
  have open_ : ∀ {x y : Int}, x < y → has f x → has f y → ¬ cvr s x y := fun {x y} hxy k1 k2 hc => by
    obtain ⟨g, hg, g1, g2⟩ := prs_cov (back _ (cov_prs hgs hxy hc))
    obtain ⟨hgn2, hcov⟩ := (hL g).1 hg
    exact hnf (sts_two h.2.1 hgn2 hF (by omega) g1 g2 k1 k2 ▸ hcov)
  have hgf := hgn f hF
  unfold good at hgf
  have share : ∀ {x y : Int}, x < y → has f x → has f y → ∃ e ∈ os, e ∉ s ∧ has e x ∧ has e y := fun {x y} hxy k1 k2 => by
    obtain ⟨e, hE, e1, e2⟩ := trd_share (trd_symm h) hF (show x ≠ y by omega) k1 k2
    exact ⟨e, hE, fun q => open_ hxy k1 k2 ⟨e, q, e1, e2⟩, e1, e2⟩
  have nds : os.Nodup := sts_nodup h.1
  have uniq : ∀ {a b : B3}, a ∈ os → a ∉ s → b ∈ os → b ∉ s → a = b := fun {a b} ha has_ hb hbs => Classical.byContradiction fun hn => by
    have := nodup_len (a :: b :: s) os (by
      rw [List.nodup_cons, List.nodup_cons]
      exact ⟨fun q => by rcases List.mem_cons.1 q with q | q; (· exact hn q); (· exact has_ q), hbs, nds.sublist hs⟩) (fun r hr => by
      rcases List.mem_cons.1 hr with rfl | hr
      · exact ha
      · rcases List.mem_cons.1 hr with rfl | hr
        · exact hb
        · exact hs.subset hr)
    simp only [List.length_cons] at this
    omega
  have f1 : has f f.1 := .inl rfl
  have f2 : has f f.2.1 := .inr (.inl rfl)
  have f3 : has f f.2.2 := .inr (.inr rfl)
  obtain ⟨a, ma, na, a1, a2⟩ := share (x := f.1) (y := f.2.1) (by omega) f1 f2
  obtain ⟨b, mb, nb, b1, b2⟩ := share (x := f.1) (y := f.2.2) (by omega) f1 f3
  have e := uniq ma na mb nb
  exact hdis ma hF a1 a2 (e ▸ b2)
end Go.Vc

namespace Go.Vc
section
variable {v a b x y z : Int} {os ns bs cs r : List B3} {c d : B3}
theorem sw2_sw2 : sw2 a b (sw2 a b z) = z := by unfold sw2; (repeat' split) <;> omega
theorem sw2_a : sw2 a b a = b := if_pos rfl
theorem sw2_b : sw2 a b b = a := by unfold sw2; split <;> first | omega | rw [if_pos rfl]
theorem sw2_n (h1 : z ≠ a) (h2 : z ≠ b) : sw2 a b z = z := by unfold sw2; rw [if_neg h1, if_neg h2]
theorem sw2_pt (pa : Pt v a) (pb : Pt v b) (h : Pt v z) : Pt v (sw2 a b z) := by unfold sw2; (repeat' split) <;> assumption
theorem has_bk : has (bk3 x y z) d.1 ↔ d.1 = x ∨ d.1 = y ∨ d.1 = z := by unfold has bk3 mi3 lo3 hi3; simp only; omega
theorem has_bk3' {t : Int} : has (bk3 x y z) t ↔ t = x ∨ t = y ∨ t = z := has_bk (d := (t, t, t))
theorem has_exB : has (exB a b c) z ↔ has c (sw2 a b z) := by
  unfold exB
  rw [has_bk3']
  unfold has
  have key : ∀ t, z = sw2 a b t ↔ sw2 a b z = t := fun t => ⟨fun h => by rw [h, sw2_sw2], fun h => by rw [← h, sw2_sw2]⟩
  rw [key, key, key]
  constructor <;> intro h <;> omega
theorem sw2_inj (h : sw2 a b x = sw2 a b y) : x = y := by rw [← sw2_sw2 (a := a) (b := b) (z := x), h, sw2_sw2]
theorem good_exB (pa : Pt v a) (pb : Pt v b) (hg : good v c) : good v (exB a b c) := by
  have hg2 := hg
  unfold good at hg2
  have k1 := sw2_pt pa pb (show Pt v c.1 from ⟨by omega, by omega⟩)
  have k2 := sw2_pt pa pb (show Pt v c.2.1 from ⟨by omega, by omega⟩)
  have k3 := sw2_pt pa pb (show Pt v c.2.2 from ⟨by omega, by omega⟩)
  unfold Pt at k1 k2 k3
  exact good_bk3 k1 k2 k3 (fun e => by have := sw2_inj e; omega) (fun e => by have := sw2_inj e; omega) (fun e => by have := sw2_inj e; omega)
theorem cov_comm {s : List B3} : cvr s x y ↔ cvr s y x := ⟨fun ⟨c, h, k1, k2⟩ => ⟨c, h, k2, k1⟩, fun ⟨c, h, k1, k2⟩ => ⟨c, h, k2, k1⟩⟩
theorem sts_part (h : STS v bs) (hm : ∀ c ∈ os, c ∈ bs) (hlt : os.Pairwise B3.lt) : STS v os := by
  have hnd : os.Nodup := hlt.imp fun {a b} hl e => by rw [e] at hl; exact lt_irrefl _ hl
  have hl := nodup_len os bs hnd hm
  refine sts_of h.lo h.hi (by have := h.few; omega) (fun c hc => h.good c (hm c hc)) hlt fun c hc d hd hne => ?_
  apply Decidable.byContradiction
  intro hn
  obtain ⟨x, y, hxy, k1, k2, k3, k4⟩ := common_two (h.good c (hm c hc)) (h.good d (hm d hd)) hn
  exact hne (sts_two h (hm c hc) (hm d hd) hxy k1 k2 k3 k4)
theorem prs_iff {s : List B3} (hg : ∀ b ∈ s, good v b) {q : Int × Int} : q ∈ prsB s ↔ q.1 < q.2 ∧ cvr s q.1 q.2 := by
  constructor
  · intro h
    refine ⟨?_, prs_cov (x := q.1) (y := q.2) h⟩
    obtain ⟨c, hc, h1⟩ := mem_prsB.1 h
    have := hg c hc
    unfold good at this
    rcases h1 with rfl | rfl | rfl <;> simp only <;> omega
  · rintro ⟨h1, h2⟩; exact cov_prs hg h1 h2
theorem swap_trd (hs : STS v os) (pa : Pt v a) (pb : Pt v b) (hab : a ≠ b) (hone : ∀ c ∈ os, (has c a ∨ has c b) ∧ ¬ (has c a ∧ has c b)) (hl : ∀ x, x ≠ a → x ≠ b → (cvr os a x ↔ cvr os b x)) (hp : ns.Perm (os.map (exB a b))) (hr : SrtB ns) : TRD v os ns := by
  have hm : ∀ d, d ∈ ns ↔ ∃ c ∈ os, exB a b c = d := fun d => by rw [hp.mem_iff, List.mem_map]
  have hinj : ∀ c ∈ os, ∀ d ∈ os, exB a b c = exB a b d → c = d := fun c hc d hd e => by
    have k : ∀ z, has c z ↔ has d z := fun z => by
      have := has_exB (a := a) (b := b) (c := c) (z := sw2 a b z)
      rw [e, has_exB, sw2_sw2] at this
      exact this.symm
    exact good_all (hs.good d hd) (hs.good c hc) ((k _).2 (.inl rfl)) ((k _).2 (.inr (.inl rfl))) ((k _).2 (.inr (.inr rfl)))
  have hod := sts_nodup hs
  have hnd : ns.Nodup := by
    rw [hp.nodup_iff]
    unfold List.Nodup
    rw [List.pairwise_map]
    exact hod.imp_of_mem fun {c d} hc hd hne e => hne (hinj c hc d hd e)
  have hgn : ∀ d ∈ ns, good v d := fun d hd => by
    obtain ⟨c, hc, rfl⟩ := (hm d).1 hd
    exact good_exB pa pb (hs.good c hc)
  have hlen : ns.length = os.length := by rw [hp.length_eq, List.length_map]
  have hSn : STS v ns := by
    refine sts_of hs.lo hs.hi (by rw [hlen]; exact hs.few) hgn (lt_of_srt hr hnd) fun c hc d hd hne => ?_
    apply Decidable.byContradiction
    intro hn
    obtain ⟨x, y, hxy, k1, k2, k3, k4⟩ := common_two (hgn c hc) (hgn d hd) hn
    obtain ⟨c', hc', rfl⟩ := (hm c).1 hc
    obtain ⟨d', hd', rfl⟩ := (hm d).1 hd
    rw [has_exB] at k1 k2 k3 k4
    exact hne (by rw [sts_two hs hc' hd' (fun e => hxy (sw2_inj e)) k1 k2 k3 k4])
  refine ⟨hs, hSn, fun d hd hdn => ?_, ?_⟩
  · obtain ⟨c, hc, e⟩ := (hm d).1 hdn
    have hg := hs.good c hc
    obtain ⟨h1, h2⟩ := hone c hc
    have k : ∀ z, has d z ↔ has c (sw2 a b z) := fun z => by rw [← e, has_exB]
    have fin : ∀ t, has c t → (t = a ∨ t = b) → has d (sw2 a b t) → False := fun t ht hab2 hdt => by
      obtain ⟨x, hx, n1, n2⟩ := good_third hg a b
      obtain ⟨y, hy, m1, m2⟩ := good_third hg t x
      have m3 : y ≠ a := fun q => by
        rcases hab2 with w | w
        · exact m1 (q.trans w.symm)
        · exact h2 ⟨q ▸ hy, w ▸ ht⟩
      have m4 : y ≠ b := fun q => by
        rcases hab2 with w | w
        · exact h2 ⟨w ▸ ht, q ▸ hy⟩
        · exact m1 (q.trans w.symm)
      have dx : has d x := (k x).2 (by rw [sw2_n n1 n2]; exact hx)
      have dy : has d y := (k y).2 (by rw [sw2_n m3 m4]; exact hy)
      have ec := sts_two hs hc hd (fun q => m2 q.symm) hx hy dx dy
      rw [← ec] at hdt
      rcases hab2 with w | w
      · rw [w, sw2_a] at hdt; exact h2 ⟨w ▸ ht, hdt⟩
      · rw [w, sw2_b] at hdt; exact h2 ⟨hdt, w ▸ ht⟩
    rcases h1 with h1 | h1
    · exact fin a h1 (.inl rfl) ((k _).2 (by rw [sw2_sw2]; exact h1))
    · exact fin b h1 (.inr rfl) ((k _).2 (by rw [sw2_sw2]; exact h1))
  · have hv := hs.lo
    have hh := hs.hi
    have ev : ((v.toNat : Nat) : Int) = v := by omega
    refine (List.perm_ext_iff_of_nodup (prsB_nodup (v := v.toNat) (by omega) (by rw [ev]; exact hs)) (prsB_nodup (v := v.toNat) (by omega) (by rw [ev]; exact hSn))).2 fun q => ?_
    rw [prs_iff hs.good, prs_iff hgn]
    have hcv : ∀ x y, cvr ns x y ↔ cvr os (sw2 a b x) (sw2 a b y) := fun x y => by
      constructor
      · rintro ⟨d, hd, k1, k2⟩
        obtain ⟨c, hc, rfl⟩ := (hm d).1 hd
        exact ⟨c, hc, has_exB.1 k1, has_exB.1 k2⟩
      · rintro ⟨c, hc, k1, k2⟩
        exact ⟨exB a b c, (hm _).2 ⟨c, hc, rfl⟩, has_exB.2 k1, has_exB.2 k2⟩
    have hno : ¬ cvr os a b := fun ⟨c, hc, k1, k2⟩ => (hone c hc).2 ⟨k1, k2⟩
    have key : ∀ x y, x ≠ y → (cvr os x y ↔ cvr ns x y) := fun x y hxy => by
      rw [hcv]
      by_cases xa : x = a
      · by_cases yb : y = b
        · rw [xa, yb, sw2_a, sw2_b]; exact cov_comm
        · rw [xa, sw2_a, sw2_n (fun q => hxy (xa.trans q.symm)) yb]; exact hl y (fun q => hxy (xa.trans q.symm)) yb
      · by_cases xb : x = b
        · by_cases ya : y = a
          · rw [xb, ya, sw2_a, sw2_b]; exact cov_comm
          · rw [xb, sw2_b, sw2_n ya (fun q => hxy (xb.trans q.symm))]; exact (hl y ya (fun q => hxy (xb.trans q.symm))).symm
        · rw [sw2_n xa xb]
          by_cases ya : y = a
          · rw [ya, sw2_a, cov_comm, hl x xa xb, cov_comm]
          · by_cases yb : y = b
            · rw [yb, sw2_b, cov_comm, ← hl x xa xb, cov_comm]
            · rw [sw2_n ya yb]
    constructor
    · rintro ⟨h1, h2⟩; exact ⟨h1, (key _ _ (by omega)).1 h2⟩
    · rintro ⟨h1, h2⟩; exact ⟨h1, (key _ _ (by omega)).2 h2⟩

theorem lessB_lts (h : STS v bs) : (lessB bs cs).Pairwise B3.lt := (sts_lts h).filter _
theorem srt_lt {s : List B3} (h : s.Pairwise B3.lt) : SrtB s := by
  refine h.imp fun {a b} hl => ?_
  unfold leB
  exact fun q => by unfold B3.lt at *; omega
theorem prsB_app (s t : List B3) : prsB (s ++ t) = prsB s ++ prsB t := List.flatMap_append ..
theorem prsB_perm {s t : List B3} (h : s.Perm t) : (prsB s).Perm (prsB t) := h.flatMap_right _
def comB (bs cs : List B3) : List B3 := bs.filter fun b => decide (b ∈ cs)
theorem com_less (bs cs : List B3) : (comB bs cs ++ lessB bs cs).Perm bs := List.filter_append_perm _ _
theorem cmB_comm (h : STS v bs) (g : STS v cs) : comB bs cs = comB cs bs := by
  refine srtB_unique (srt_lt ((sts_lts h).filter _)) (srt_lt ((sts_lts g).filter _)) ?_
  refine (List.perm_ext_iff_of_nodup ((sts_nodup h).filter _) ((sts_nodup g).filter _)).2 fun b => ?_
  simp only [List.mem_filter, decide_eq_true_eq]
  exact And.comm
theorem diff_trd (h : STS v bs) (g : STS v cs) (hp : (prsB bs).Perm (prsB cs)) : TRD v (lessB bs cs) (lessB cs bs) := by
  refine ⟨sts_part h (fun c hc => (mem_lessB.1 hc).1) (lessB_lts h), sts_part g (fun c hc => (mem_lessB.1 hc).1) (lessB_lts g), fun b hb hn => (mem_lessB.1 hb).2 (mem_lessB.1 hn).1, ?_⟩
  have h1 := (prsB_perm (com_less bs cs)).trans (hp.trans (prsB_perm (com_less cs bs)).symm)
  rw [prsB_app, prsB_app, cmB_comm g h] at h1
  exact (List.perm_append_left_iff _).1 h1
theorem diff_ok {u : Int} {o i : List B3} (h0 : dfC v bs u cs = 0) (hr : DFR v bs u cs o i) : TRD v o i ∧ crC v bs v o i = 0 ∧ v = u ∧ ∀ s, CRR v bs v o i s → s = cs := by
  obtain ⟨h, g, rfl, hp⟩ := dfC_ok h0
  obtain ⟨⟨p1, s1⟩, p2, s2⟩ := hr.1 h0
  have e1 : o = lessB bs cs := srtB_unique s1 (srt_lt (lessB_lts h)) p1
  have e2 : i = lessB cs bs := srtB_unique s2 (srt_lt (lessB_lts g)) p2
  subst e1
  subst e2
  have ht := diff_trd h g hp
  have hc := crC_0 h ht ⟨rfl, fun b hb => (mem_lessB.1 hb).1⟩
  refine ⟨ht, hc, rfl, fun s hS => ?_⟩
  obtain ⟨q1, q2⟩ := hS.1 hc
  refine srtB_unique q2 (sts_srt g) (q1.trans ?_)
  have e : lessB bs (lessB bs cs) = comB bs cs := by
    unfold lessB comB
    refine List.filter_congr fun b hb => ?_
    simp [hb]
  rw [e, cmB_comm h g]
  exact com_less cs bs

theorem lastP_is {C : Int → Prop} [DecidablePred C] : ∀ {n : Nat}, 0 ≤ lastP C n → C (lastP C n)
  | 0, h => by unfold lastP at h; omega
  | n + 1, h => by
    by_cases hc : C (n : Int)
    · rw [lastP_yes hc]; exact hc
    · rw [lastP_no hc] at h ⊢; exact lastP_is h
theorem hN (B : B3) (p : Int) : (hasN B p = 1 ∧ has B p) ∨ (hasN B p = 0 ∧ ¬ has B p) := by
  unfold hasN
  split
  · exact .inl ⟨rfl, by assumption⟩
  · exact .inr ⟨rfl, by assumption⟩
theorem pair_no (h : STS v os) {c d : B3} (hc : c ∈ os) (hd : d ∈ os) (hne : c ≠ d) {x y : Int} (hxy : x ≠ y) : hasN c x + hasN c y + hasN d x + hasN d y ≤ 3 := by
  apply Decidable.byContradiction
  intro hn
  have h1 := hN c x
  have h2 := hN c y
  have h3 := hN d x
  have h4 := hN d y
  have k1 : has c x := by rcases h1 with h1 | h1; (· exact h1.2); (· have := hasN_le c y; have := hasN_le d x; have := hasN_le d y; omega)
  have k2 : has c y := by rcases h2 with h1 | h1; (· exact h1.2); (· have := hasN_le c x; have := hasN_le d x; have := hasN_le d y; omega)
  have k3 : has d x := by rcases h3 with h1 | h1; (· exact h1.2); (· have := hasN_le c y; have := hasN_le c x; have := hasN_le d y; omega)
  have k4 : has d y := by rcases h4 with h1 | h1; (· exact h1.2); (· have := hasN_le c y; have := hasN_le d x; have := hasN_le c x; omega)
  exact hne (sts_two h hc hd hxy k1 k2 k3 k4)
theorem p4_swap {A B C D : B3} (h : STS v [A, B, C, D]) (hP : P4 A B C D) (hb : PtC [A, B, C, D] b) : ∀ a, a = A.1 → (∀ c ∈ [A, B, C, D], (has c a ∨ has c b) ∧ ¬ (has c a ∧ has c b)) ∧ ∀ x, x ≠ a → x ≠ b → (cvr [A, B, C, D] a x ↔ cvr [A, B, C, D] b x) := by
  rintro a rfl
  have hn := sts_nodup h
  simp only [List.nodup_cons, List.mem_cons, List.not_mem_nil, or_false, not_or] at hn
  obtain ⟨⟨nab, nac, nad⟩, ⟨nbc, nbd⟩, ncd, _⟩ := hn
  obtain ⟨hne, ⟨c0, hc0, hcb⟩, hno⟩ := hb
  have hno2 : ∀ c ∈ [A, B, C, D], hasN c A.1 + hasN c b ≤ 1 := fun c hc => by
    have h1 := hN c A.1
    have h2 := hN c b
    rcases h1 with h1 | h1 <;> rcases h2 with h2 | h2
    · exact absurd ⟨c, hc, h2.2, h1.2⟩ hno
    all_goals omega
  have hA := hno2 A (by simp)
  have hB := hno2 B (by simp)
  have hC := hno2 C (by simp)
  have hD := hno2 D (by simp)
  have sa := hP A.1
  have sb := hP b
  have a1 : hasN A A.1 = 1 := hasN_one (.inl rfl)
  have b1 : 1 ≤ hasN A b + hasN B b + hasN C b + hasN D b := by
    have := hasN_one hcb
    simp only [List.mem_cons, List.not_mem_nil, or_false] at hc0
    rcases hc0 with rfl | rfl | rfl | rfl <;> omega
  have one : ∀ c ∈ [A, B, C, D], hasN c A.1 + hasN c b = 1 := fun c hc => by
    simp only [List.mem_cons, List.not_mem_nil, or_false] at hc
    rcases hc with rfl | rfl | rfl | rfl <;> omega
  refine ⟨fun c hc => ?_, fun x xa xb => ?_⟩
  · have h1 := hN c A.1
    have h2 := hN c b
    have h3 := one c hc
    constructor
    · rcases h1 with h1 | h1
      · exact .inl h1.2
      · rcases h2 with h2 | h2
        · exact .inr h2.2
        · omega
    · rintro ⟨k1, k2⟩
      have := hasN_one k1
      have := hasN_one k2
      omega
  · have go : ∀ e f : Int, x ≠ e → x ≠ f → (∀ c ∈ [A, B, C, D], hasN c e + hasN c f = 1) → cvr [A, B, C, D] e x → cvr [A, B, C, D] f x := fun e f xe xf he ⟨c, hc, k1, k2⟩ => by
      apply Classical.byContradiction
      intro hcv
      have lim : ∀ d ∈ [A, B, C, D], hasN d f + hasN d x ≤ 1 := fun d hd => by
        have h1 := hN d f
        have h2 := hN d x
        rcases h1 with h1 | h1 <;> rcases h2 with h2 | h2
        · exact absurd ⟨d, hd, h1.2, h2.2⟩ hcv
        all_goals omega
      have lA := lim A (by simp)
      have lB := lim B (by simp)
      have lC := lim C (by simp)
      have lD := lim D (by simp)
      have oA := he A (by simp)
      have oB := he B (by simp)
      have oC := he C (by simp)
      have oD := he D (by simp)
      have sx := hP x
      have p1 := pair_no h (c := A) (d := B) (by simp) (by simp) nab xe
      have p2 := pair_no h (c := A) (d := C) (by simp) (by simp) nac xe
      have p3 := pair_no h (c := A) (d := D) (by simp) (by simp) nad xe
      have p4 := pair_no h (c := B) (d := C) (by simp) (by simp) nbc xe
      have p5 := pair_no h (c := B) (d := D) (by simp) (by simp) nbd xe
      have p6 := pair_no h (c := C) (d := D) (by simp) (by simp) ncd xe
      have c1 := hasN_one k1
      have c2 := hasN_one k2
      have z1 := hasN_le A x
      have z2 := hasN_le B x
      have z3 := hasN_le C x
      have z4 := hasN_le D x
      simp only [List.mem_cons, List.not_mem_nil, or_false] at hc
      rcases hc with rfl | rfl | rfl | rfl <;> omega
    exact ⟨go A.1 b xa xb one, go b A.1 xb xa (fun c hc => by have := one c hc; omega)⟩
theorem pasch_trd (h : STS v bs) {q : List Int} (hq : PQ bs q) : TRD v (trQ v bs q).1 (trQ v bs q).2 ∧ (∀ b ∈ (trQ v bs q).1, b ∈ bs) ∧ (trQ v bs q).1.length = 4 ∧ (ptsB (trQ v bs q).1 v.toNat).length = 6 := by
  obtain ⟨i, j, k, m, h1, h2, h3, h4, rfl⟩ := pq_quad hq
  have hP := pq_p4 h1 h2 h3 h4 hq
  have ef : [(i : Int), (j : Int), (k : Int), (m : Int)].map (blk bs) = [bs[i], bs[j], bs[k], bs[m]] := by
    simp only [List.map_cons, List.map_nil]
    rw [blk_get (by omega), blk_get (by omega), blk_get (by omega), blk_get h4]
  have hsub : ∀ c ∈ [bs[i], bs[j], bs[k], bs[m]], c ∈ bs := fun c hc => by
    simp only [List.mem_cons, List.not_mem_nil, or_false] at hc
    rcases hc with rfl | rfl | rfl | rfl <;> exact List.getElem_mem _
  have hlt : [bs[i], bs[j], bs[k], bs[m]].Pairwise B3.lt := by
    have hp := List.pairwise_iff_getElem.1 (sts_lts h)
    have ht : ∀ {x y : Nat} (hx : x < bs.length) (hy : y < bs.length), x < y → B3.lt bs[x] bs[y] := fun hx hy hxy => hp _ _ hx hy hxy
    simp only [List.pairwise_cons, List.mem_cons, List.not_mem_nil, or_false, forall_eq_or_imp, forall_eq, List.Pairwise.nil, and_true, false_implies, implies_true]
    exact ⟨⟨ht _ _ (by omega), ht _ _ (by omega), ht _ _ (by omega)⟩, ⟨ht _ _ (by omega), ht _ _ (by omega)⟩, ht _ _ (by omega)⟩
  have hS := sts_part h hsub hlt
  have hg := hS.good
  have gA := hg bs[i] (by simp)
  have gB := hg bs[j] (by simp)
  have gC := hg bs[k] (by simp)
  have gD := hg bs[m] (by simp)
  have hPB := (pasB_four gA gB gC gD).2 hP
  have hv := h.lo
  have hv2 := h.hi
  have hb0 := ptB_nonneg (v := v) (by omega) rfl hg hPB
  have hbC := lastP_is hb0
  have hlt2 := (lastP_lt (C := PtC [bs[i], bs[j], bs[k], bs[m]]) (n := v.toNat)).2
  have pa : Pt v (ptA [bs[i], bs[j], bs[k], bs[m]]) := by
    have := gA
    unfold good at this
    show Pt v bs[i].1
    exact ⟨by omega, by omega⟩
  have pb : Pt v (ptB v.toNat [bs[i], bs[j], bs[k], bs[m]]) := ⟨hb0, by unfold ptB; omega⟩
  obtain ⟨w1, w2⟩ := p4_swap hS hP hbC (ptA [bs[i], bs[j], bs[k], bs[m]]) rfl
  obtain ⟨s, hs⟩ := srt_some ([bs[i], bs[j], bs[k], bs[m]].map (exB (ptA [bs[i], bs[j], bs[k], bs[m]]) (ptB v.toNat [bs[i], bs[j], bs[k], bs[m]])))
  unfold trQ
  rw [ef]
  dsimp only
  rw [← insT_eq hs]
  refine ⟨swap_trd hS pa pb (fun e => hbC.1 e.symm) w1 w2 hs.1 hs.2, hsub, rfl, ?_⟩
  have e : ptsB [bs[i], bs[j], bs[k], bs[m]] v.toNat = ptsN ([bs[i], bs[j], bs[k], bs[m]].flatMap bl) v.toNat := by
    unfold ptsB ptsN
    congr 1
    exact List.filter_congr fun p _ => decide_eq_decide.2 cN_has.symm
  rw [e]
  exact (six_to (by omega) rfl hg hPB).1
theorem pasch_all (h : STS v bs) {c : List (List B3 × List B3)} (ht : TRL v bs c) {k : Nat} (hk : k < c.length) : TRD v (c[k]).1 (c[k]).2 ∧ (∀ b ∈ (c[k]).1, b ∈ bs) ∧ (c[k]).1.length = 4 ∧ (ptsB (c[k]).1 v.toNat).length = 6 := by
  obtain ⟨ls, hl, rfl⟩ := ht.1 h
  rw [List.getElem_map]
  exact pasch_trd h ((hl.2 _).1 (List.getElem_mem _))
end

section
variable {v : Int} {bs : List B3} {a b p : Int} {N : Nat}
theorem cyc_two (g : Ab v bs a b) (c : Cy v bs a b p) (P : Per bs a b p N) : 2 ≤ N := by
  apply Decidable.byContradiction
  intro hn
  have h1 : N = 1 := by have := P.pos; omega
  subst h1
  obtain ⟨m0, t0⟩ := ucE_tri g c 0
  obtain ⟨m1, t1⟩ := ucE_tri g c 1
  have hr := P.ret
  rw [show 2 * 1 = 1 + 1 by rfl] at hr
  rw [hr] at t1
  exact ucE_inj g c P (m := 0) (n := 1) (by omega) (by omega) (sts_two g.h m0 m1 t0.2.2.1 t0.h2 t0.h3 t1.h3 t1.h2)
theorem uc_blocks (g : Ab v bs a b) (c : Cy v bs a b p) (P : Per bs a b p N) {j r : Nat} (hj : j ≤ 2 * N) (hr : r < 2) : ∃ m, m < 2 * N ∧ m % 2 = r ∧ has (ucE bs a b p m) (uc bs a b p j) := by
  have hN := P.pos
  have main : ∀ j, j < 2 * N → ∃ m, m < 2 * N ∧ m % 2 = r ∧ has (ucE bs a b p m) (uc bs a b p j) := fun j hj => by
    by_cases e : j % 2 = r
    · exact ⟨j, hj, e, (ucE_tri g c j).2.h2⟩
    · by_cases e0 : j = 0
      · subst e0
        refine ⟨2 * N - 1, by omega, by omega, ?_⟩
        have t := (ucE_tri g c (2 * N - 1)).2.h3
        rw [show 2 * N - 1 + 1 = 2 * N by omega, P.ret] at t
        exact t
      · refine ⟨j - 1, by omega, by omega, ?_⟩
        have t := (ucE_tri g c (j - 1)).2.h3
        rwa [show j - 1 + 1 = j by omega] at t
  by_cases e : j = 2 * N
  · subst e
    rw [P.ret]
    exact main 0 (by omega)
  · exact main j (by omega)
theorem cyc_trd (h0 : cyCode v bs a b p = 0) {o i : List B3} (hr : CYR v bs a b p o i) : TRD v o i ∧ (∀ c ∈ o, c ∈ bs) ∧ ∃ N, Per bs a b p N ∧ 2 ≤ N ∧ o.length = 2 * N ∧ o.Perm (outL bs a b p N) ∧ i.Perm (inL bs a b p N) := by
  obtain ⟨g, c⟩ := cy_ok h0
  obtain ⟨N, P, ⟨p1, s1⟩, p2, s2⟩ := hr.1 h0
  have hm : ∀ d, d ∈ o ↔ ∃ m, m < 2 * N ∧ ucE bs a b p m = d := fun d => by
    rw [p1.mem_iff]
    unfold outL
    rw [List.mem_map]
    exact ⟨fun ⟨m, h, e⟩ => ⟨m, List.mem_range.1 h, e⟩, fun ⟨m, h, e⟩ => ⟨m, List.mem_range.2 h, e⟩⟩
  have hsub : ∀ d ∈ o, d ∈ bs := fun d hd => by
    obtain ⟨m, _, rfl⟩ := (hm d).1 hd
    exact (ucE_tri g c m).1
  have hS := sts_part g.h hsub (lt_of_srt s1 (p1.nodup_iff.2 (outL_nodup g c P)))
  have hpt : ∀ {d : B3} {x : Int}, d ∈ o → has d x → x ≠ a → x ≠ b → ∃ j, j ≤ 2 * N ∧ uc bs a b p j = x := fun {d x} hd hx xa xb => by
    obtain ⟨m, hmN, rfl⟩ := (hm d).1 hd
    rcases ((ucE_tri g c m).2.2.2.2 x).1 hx with e | e | e
    · rcases cm_or (a := a) (b := b) m with k | k
      · exact absurd (e.trans k) xa
      · exact absurd (e.trans k) xb
    · exact ⟨m, by omega, e.symm⟩
    · exact ⟨m + 1, by omega, e.symm⟩
  have hcm : ∀ m, (m % 2 = 0 → cm a b m = a) ∧ (m % 2 = 1 → cm a b m = b) := fun m => ⟨fun h => if_pos h, fun h => if_neg (by omega)⟩
  refine ⟨swap_trd hS g.pa g.pb g.ne (fun d hd => ?_) (fun x xa xb => ?_) (p2.trans (by rw [← inL_map g c]; exact (p1.map _).symm)) s2, hsub, N, P, cyc_two g c P, ?_, p1, p2⟩
  · obtain ⟨m, hmN, rfl⟩ := (hm d).1 hd
    have t := (ucE_tri g c m).2
    constructor
    · rcases cm_or (a := a) (b := b) m with k | k
      · exact .inl (by have := t.h1; rwa [k] at this)
      · exact .inr (by have := t.h1; rwa [k] at this)
    · rintro ⟨k1, k2⟩
      have u1 := uc_cy g c m
      have u2 := uc_cy g c (m + 1)
      rcases (t.2.2.2 a).1 k1 with e | e | e
      · rcases (t.2.2.2 b).1 k2 with f | f | f
        · exact g.ne (e.trans f.symm)
        · exact u1.nb f.symm
        · exact u2.nb f.symm
      · exact u1.na e.symm
      · exact u2.na e.symm
  · have go : ∀ (e : Int) (r : Nat), r < 2 → (∀ m, m % 2 = r → cm a b m = e) → ∀ f : Int, cvr o f x → cvr o e x := fun e r hr2 he f ⟨d, hd, _, k2⟩ => by
      obtain ⟨j, hj, rfl⟩ := hpt hd k2 xa xb
      obtain ⟨m, hmN, hm2, hh⟩ := uc_blocks g c P hj hr2
      exact ⟨ucE bs a b p m, (hm _).2 ⟨m, hmN, rfl⟩, by have := (ucE_tri g c m).2.h1; rwa [he m hm2] at this, hh⟩
    exact ⟨go b 1 (by omega) (fun m h => (hcm m).2 h) a, go a 0 (by omega) (fun m h => (hcm m).1 h) b⟩
  · rw [p1.length_eq]
    unfold outL
    rw [List.length_map, List.length_range]
theorem ucF_tri (g : Ab v bs a b) (c : Cy v bs a b p) (m : Nat) : Tri (ucF bs a b p m) (cm b a m) (uc bs a b p m) (uc bs a b p (m + 1)) := by
  have t := (ucE_tri g c m).2
  have u1 := uc_cy g c m
  have u2 := uc_cy g c (m + 1)
  refine ⟨?_, ?_, t.2.2.1, fun q => has_bk3'⟩
  · rcases cm_or (a := b) (b := a) m with k | k <;> rw [k]
    · exact fun e => u1.nb e.symm
    · exact fun e => u1.na e.symm
  · rcases cm_or (a := b) (b := a) m with k | k <;> rw [k]
    · exact fun e => u2.nb e.symm
    · exact fun e => u2.na e.symm
theorem cyc_again (h0 : cyCode v bs a b p = 0) {o i r : List B3} (hr : CYR v bs a b p o i) (hc : CRR v bs v o i r) : crC v bs v o i = 0 ∧ STS v r ∧ 6 * (r.length : Int) = v * (v - 1) ∧ cyCode v r b a p = 0 ∧ ∀ o2 i2, CYR v r b a p o2 i2 → o2.length = o.length := by
  obtain ⟨g, c⟩ := cy_ok h0
  obtain ⟨ht, hsub, N, P, hN, hlen, p1, p2⟩ := cyc_trd h0 hr
  have hc0 := crC_0 g.h ht ⟨rfl, hsub⟩
  obtain ⟨q1, q2⟩ := hc.1 hc0
  have hSr := carry_sts g.h ht hsub q1 q2
  have hrl := (carry_back hc0 hc).2.1
  have hfull : 6 * (bs.length : Int) = v * (v - 1) := by
    unfold cyCode at h0
    split at h0
    · split at h0
      · split at h0
        · assumption
        · omega
      · omega
    · omega
  have hfr : 6 * (r.length : Int) = v * (v - 1) := by rw [hrl]; exact hfull
  have hm : ∀ {d}, d ∈ r ↔ (d ∈ bs ∧ d ∉ o) ∨ d ∈ i := by
    intro d
    rw [q1.mem_iff, List.mem_append, mem_lessB]
  have thr : ∀ {d : B3} {x y z : Int}, d ∈ r → Tri d x y z → third r x y = z := fun {d x y z} hd t => by
    obtain ⟨k, hk, rfl⟩ := List.mem_iff_getElem.1 hd
    exact (third_tri hSr hk t).2
  have hF : ∀ m, m < 2 * N → ucF bs a b p m ∈ r := fun m hmN => hm.2 (.inr (p2.mem_iff.2 (List.mem_map.2 ⟨m, List.mem_range.2 hmN, rfl⟩)))
  have same : ∀ m, m ≤ 2 * N → uc r b a p m = uc bs a b p m := by
    intro m
    induction m with
    | zero => intro _; rfl
    | succ m ih =>
      intro hle
      show third r (cm b a m) (uc r b a p m) = _
      rw [ih (by omega)]
      exact thr (hF m (by omega)) (ucF_tri g c m)
  have hth : third r b a = third bs a b := by
    have t := th_of g.h g.f g.pa g.pb g.ne
    obtain ⟨d, hd, t⟩ := t.blk
    have hdo : d ∉ o := fun hd2 => by
      have hdm := p1.mem_iff.1 hd2
      unfold outL at hdm
      obtain ⟨m, _, rfl⟩ := List.mem_map.1 hdm
      have t2 := (ucE_tri g c m).2
      have u1 := uc_cy g c m
      have u2 := uc_cy g c (m + 1)
      rcases (t2.2.2.2 a).1 t.h1 with e | e | e
      · rcases (t2.2.2.2 b).1 t.h2 with f | f | f
        · exact g.ne (e.trans f.symm)
        · exact u1.nb f.symm
        · exact u2.nb f.symm
      · exact u1.na e.symm
      · exact u2.na e.symm
    exact thr (hm.2 (.inl ⟨hd, hdo⟩)) t.rot
  have hok : CyOk v r b a p := ⟨g.pb, g.pa, c.pt, fun e => g.ne e.symm, c.nb, c.na, by rw [hth]; exact c.nc⟩
  have hcy : cyCode v r b a p = 0 := cyCode_0 hSr hok hfr
  have PR : Per r b a p N := ⟨P.pos, P.le, by rw [same _ (Nat.le_refl _)]; exact P.ret, fun k hk hkN => by rw [same _ (by omega)]; exact P.least k hk hkN⟩
  refine ⟨hc0, hSr, hfr, hcy, fun o2 i2 h2 => ?_⟩
  obtain ⟨M, Q, ⟨w1, _⟩, _⟩ := h2.1 hcy
  have e := PR.unique Q
  subst e
  rw [w1.length_eq, hlen]
  unfold outL
  rw [List.length_map, List.length_range]
end
end Go.Vc

