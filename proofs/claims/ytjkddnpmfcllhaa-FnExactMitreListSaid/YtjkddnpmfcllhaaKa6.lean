/-
  The calculus and plain words, part 6.
-/
import Derived.Test.YtjkddnpmfcllhaaKa5
set_option linter.unusedVariables false
set_option linter.unusedSimpArgs false
/-
  The calculus, part 25: lists of lists in order; each once.
-/
namespace Go.Vc
open Go Go.RowKit
open Go.Proofs (ltOf)
open Go.Sort (SWO)
section
variable {P : Program} {w0 w : World} {H : List Assn} {T T2 c : Nat} {A : Option Addr} {ps : List (Sl × List Int)}
def RowC : Cod (Sl × List Int) := ⟨1, fun p => SlC.enc p.1, by decide, fun p => SlC.len p.1, fun p u hu => SlC.one p.1 u hu⟩
theorem own_tops : Own T SlC A c (tops ps) = Own T RowC A c ps := by
  have h1 : (tops ps).length = ps.length := tops_len ps
  have h2 : (tops ps).flatMap SlC.enc = ps.flatMap RowC.enc := by unfold tops; rw [List.flatMap_map]; rfl
  unfold Own
  simp only [h1, h2]
  rfl
/-- slices.SortFunc at lists of numbers. -/
theorem sortRows_does {ρ : Go.Shelf.Ren} (L : Go.Proofs.SlLaysF.n6 P ρ) (cf : List Int → List Int → Int) (hO : SWO (ltOf cf)) {f : Nat} {cb : Array Value} (hok : CallOk P f)
    (hcmp : ∀ W (x y : Sl × List Int), x ∈ ps → y ∈ ps → St w0 (RowsA T2 I64 ps :: H) W → Rd I64 W x.1.A x.2 → Rd I64 W y.1.A y.2 → x.2.length ≤ 9223372036854775807 → y.2.length ≤ 9223372036854775807 → Does P f ([.slice x.1.A x.2.length x.1.c, .slice y.1.A y.2.length y.1.c] ++ cb.toList) W [] (fun v => [.pur (v = .int .i64 (cf x.2 y.2))])) (hlen : ps.length < 4611686018427387904) :
    Does P (ρ.f 6) [.slice A (tops ps).length c, .func (.func f) #[] cb] w0 (Own T SlC A c (tops ps) :: RowsA T2 I64 ps :: H) (fun v => [.exi fun qs : List (Sl × List Int) => .sep (.pur (v = .tuple #[] ∧ qs.Perm ps ∧ (conts qs).Pairwise fun x y => ¬ cf y x < 0)) (.sep (Own T SlC A c (tops qs)) (RowsA T2 I64 qs))] ++ H) := by
  rw [own_tops, tops_len]
  have hO' : SWO (ltOf fun x y : {x // x ∈ ps} => cf x.1.2 y.1.2) := by
    obtain ⟨h1, h2, h3⟩ := hO
    exact ⟨fun x => h1 _, fun x y z => h2 _ _ _, fun x y z => h3 _ _ _⟩
  have h := sort1_does (C := RowC) (T := T) (A := A) (c := c) (w0 := w0) (H := RowsA T2 I64 ps :: H) (xs := ps) (enc := fun p : Sl × List Int => .slice p.1.A p.1.n p.1.c) L (fun x => rfl) rfl (fun x => rfl) (fun x => x ∈ ps) (fun x hx => hx) (fun x y => cf x.1.2 y.1.2) hO' hok (cb := cb) (fun zs W hz hw x y => by
    have k1 := RowsA.rd (i := 1) hw rfl x.2
    have k2 := RowsA.rd (i := 1) hw rfl y.2
    have hw2 := hw.sub (Sub.drop (Sub.refl _))
    have := hcmp W x.1 y.1 x.2 y.2 hw2 k1.2 k2.2 k1.1.2 k2.1.2
    rw [← k1.1.1, ← k2.1.1] at this
    exact this) hlen
  refine h.mono fun v w hs => ?_
  obtain ⟨ys, hs⟩ := St.exi hs
  have hs := hs.sep
  obtain ⟨⟨h1, h2, h3⟩, hs⟩ := hs.pur
  refine St.mkExi ys (St.unsep (St.addPur ⟨h1, h2, ?_⟩ (St.unsep ?_)))
  · unfold conts
    rw [List.pairwise_map]
    refine List.Pairwise.imp_of_mem ?_ h3
    intro a b ha hb hab
    exact hab (h2.mem_iff.1 ha) (h2.mem_iff.1 hb)
  · rw [own_tops]
    have := hs.perm (List.Perm.swap _ _ _)
    have := RowsA.perm h2.symm this
    exact this.perm (List.Perm.swap _ _ _)
end
instance decLtL (x y : List Int) : Decidable (ltL x y) := inferInstanceAs (Decidable (cmpL x y < 0))
theorem swoL : SWO (ltOf cmpL) := by
  have e : ∀ x y : List Int, ltOf cmpL x y = decide (ltL x y) := fun x y => rfl
  refine ⟨fun x => ?_, fun x y z h1 h2 => ?_, fun x y z h1 h2 => ?_⟩
  · rw [e]; exact decide_eq_false (ltL_irrefl x)
  · rw [e] at *
    simp only [decide_eq_true_eq] at *
    exact ltL_trans h1 h2
  · rw [e] at *
    simp only [decide_eq_false_iff_not] at *
    intro h3
    by_cases h4 : ltL y x
    · exact h2 (ltL_trans h4 h3)
    · have := ltL_tri h1 h4
      subst this
      exact h2 h3
/-! ### Each once -/
abbrev SL := Sl × List Int
def d0 : SL := (⟨none, 0, 0⟩, [])
def keepA (l : List SL) (j : Nat) : Prop := j = 0 ∨ (l.getD j d0).2 ≠ (l.getD (j - 1) d0).2
instance (l : List SL) (j : Nat) : Decidable (keepA l j) := inferInstanceAs (Decidable (_ ∨ _))
def kpt (l : List SL) (i : Nat) : List SL := ((List.range i).filter fun j => decide (keepA l j)).map fun j => l.getD j d0
section
variable {l : List SL} {i j k : Nat}
theorem kpt_yes (hi : i < l.length) (h : keepA l i) : kpt l (i + 1) = kpt l i ++ [l[i]] := by
  unfold kpt
  rw [List.range_succ, List.filter_append, List.map_append]
  simp [decide_eq_true h, List.getD, hi]
theorem kpt_no (h : ¬ keepA l i) : kpt l (i + 1) = kpt l i := by
  unfold kpt
  rw [List.range_succ, List.filter_append, List.map_append]
  simp [decide_eq_false h]
theorem kpt_le : (kpt l i).length ≤ i := by
  unfold kpt
  rw [List.length_map]
  exact Nat.le_trans (List.length_filter_le _ _) (by simp)
theorem kpt_all (h : ∀ j, j < i → keepA l j) (hi : i ≤ l.length) : kpt l i = l.take i := by
  induction i with
  | zero => simp [kpt]
  | succ i ih => rw [kpt_yes (by omega) (h i (by omega)), ih (fun j hj => h j (by omega)) (by omega), take_snoc (by omega)]
theorem kpt_sub (hi : i ≤ l.length) : (kpt l i).Sublist l := by
  have : ∀ i, i ≤ l.length → (kpt l i).Sublist (l.take i) := by
    intro i
    induction i with
    | zero => intro _; simp [kpt]
    | succ i ih =>
      intro hi
      rw [take_snoc (by omega)]
      by_cases h : keepA l i
      · rw [kpt_yes (by omega) h]; exact (ih (by omega)).append_right _
      · rw [kpt_no h]; exact (ih (by omega)).trans (List.sublist_append_left _ _)
  exact (this i hi).trans (List.take_sublist _ _)
/-- What the row holds while its elements are moved. -/
def mvt (l : List SL) (i : Nat) : List Sl := tops (kpt l i) ++ (tops l).drop (kpt l i).length
theorem mvt_len (hi : i ≤ l.length) : (mvt l i).length = l.length := by
  have := kpt_le (l := l) (i := i)
  unfold mvt
  rw [List.length_append, List.length_drop, tops_len, tops_len]
  omega
theorem mvt_get (hi : i ≤ l.length) (hk : (kpt l i).length ≤ k) (hkl : k < l.length) (h2 : k < (mvt l i).length) : (mvt l i)[k] = (l[k]).1 := by
  apply Option.some.inj
  rw [← List.getElem?_eq_getElem h2]
  unfold mvt
  rw [List.getElem?_append_right (by rw [tops_len]; exact hk), List.getElem?_drop, tops_len, show (kpt l i).length + (k - (kpt l i).length) = k by omega]
  unfold tops
  rw [List.getElem?_map, List.getElem?_eq_getElem hkl]
  rfl
theorem mvt_yes (hi : i < l.length) (h : keepA l i) : (mvt l i).set (kpt l i).length (l[i]).1 = mvt l (i + 1) := by
  have h1 := kpt_le (l := l) (i := i)
  have hl : (tops (kpt l i)).length = (kpt l i).length := tops_len _
  unfold mvt
  rw [kpt_yes hi h, List.set_append_right _ _ (by omega), hl, Nat.sub_self, List.length_append, List.length_singleton, drop_cons (show (kpt l i).length < (tops l).length by rw [tops_len]; omega), List.set_cons_zero]
  unfold tops
  simp
theorem mvt_no (h : ¬ keepA l i) : mvt l i = mvt l (i + 1) := by
  unfold mvt
  rw [kpt_no h]
theorem mvt_start (h : ∀ j, j < i → keepA l j) (hi : i ≤ l.length) : mvt l i = tops l ∧ (kpt l i).length = i := by
  have e := kpt_all h hi
  have h2 : (kpt l i).length = i := by rw [e, List.length_take]; omega
  refine ⟨?_, h2⟩
  unfold mvt
  rw [h2, e]
  unfold tops
  rw [← List.map_drop, ← List.map_append, List.take_append_drop]
theorem mvt_take : (mvt l i).take (kpt l i).length = tops (kpt l i) := by
  unfold mvt
  rw [List.take_append_of_le_length (by rw [tops_len]; exact Nat.le_refl _), List.take_of_length_le (by rw [tops_len]; exact Nat.le_refl _)]
theorem keepA_at {j : Nat} (hj : 0 < j) (h : j < l.length) : keepA l j ↔ (l[j]).2 ≠ (l[j - 1]).2 := by
  unfold keepA
  have q1 : l.getD j d0 = l[j] := by simp [List.getD, h]
  have q2 : l.getD (j - 1) d0 = l[j - 1] := by simp [List.getD, show j - 1 < l.length by omega]
  rw [q1, q2]
  exact ⟨fun h => h.elim (fun e => by omega) id, .inr⟩
theorem sl_of {s : Sl} {n : Nat} (h : s.n = n) : (⟨s.A, n, s.c⟩ : Sl) = s := by subst h; rfl
theorem mvt_v {k0 k2 K : Nat} (hn : LenOk l) (hi : i ≤ l.length) (hK : K = k0 + k2) (hk : (kpt l i).length ≤ K) (hkl : K < l.length) (h2 : k2 < ((mvt l i).drop k0).length) : (((mvt l i).drop k0)[k2]).v = .slice (l[K]).1.A (l[K]).2.length (l[K]).1.c := by
  subst hK
  rw [List.getElem_drop, mvt_get hi hk hkl]
  unfold Sl.v
  rw [(hn _ (List.getElem_mem hkl)).1]
/-- A list in order, each once. -/
theorem kpt_srt (hs : (conts l).Pairwise fun x y => ¬ ltL y x) : ∀ i, i ≤ l.length → SrtL (conts (kpt l i)) ∧ ∀ r, r ∈ conts (kpt l i) ↔ r ∈ (conts l).take i := by
  have hle : ∀ j k (hj : j < l.length) (hk : k < l.length), j ≤ k → ¬ ltL (l[k]).2 (l[j]).2 := fun j k hj hk hjk => by
    by_cases e : j = k
    · subst e; exact ltL_irrefl _
    · have := List.pairwise_iff_getElem.1 hs j k (by rw [conts_len]; omega) (by rw [conts_len]; omega) (by omega)
      simpa [conts] using this
  intro i
  induction i with
  | zero => intro _; exact ⟨by simp [kpt, conts, SrtL], fun r => by simp [kpt, conts]⟩
  | succ i ih =>
    intro hi
    obtain ⟨h1, h2⟩ := ih (by omega)
    have hc : (conts l)[i]'(by rw [conts_len]; omega) = (l[i]).2 := by simp [conts]
    by_cases h : keepA l i
    · rw [kpt_yes (by omega) h]
      have e : conts (kpt l i ++ [l[i]]) = conts (kpt l i) ++ [(l[i]).2] := by simp [conts]
      rw [e]
      constructor
      · unfold SrtL
        rw [List.pairwise_append]
        refine ⟨h1, List.pairwise_singleton _ _, fun x hx y hy => ?_⟩
        rw [List.mem_singleton] at hy
        subst hy
        obtain ⟨j, hj, rfl⟩ := List.mem_iff_getElem.1 ((h2 x).1 hx)
        rw [List.length_take, conts_len] at hj
        have hjl : j < l.length := by omega
        have ex : ((conts l).take i)[j]'(by rw [List.length_take, conts_len]; omega) = (l[j]).2 := by simp [conts]
        rw [ex]
        have g1 := hle j i hjl (by omega) (by omega)
        have g2 := hle j (i - 1) hjl (by omega) (by omega)
        have g3 := hle (i - 1) i (by omega) (by omega) (by omega)
        apply Classical.byContradiction
        intro g4
        have e1 := ltL_tri g4 g1
        rcases h with h | h
        · omega
        · have q1 : l.getD i d0 = l[i] := by simp [List.getD, show i < l.length by omega]
          have q2 : l.getD (i - 1) d0 = l[i - 1] := by simp [List.getD, show i - 1 < l.length by omega]
          rw [q1, q2] at h
          rw [e1] at g2
          exact h (ltL_tri g3 g2)
      · intro r
        rw [List.mem_append, h2, take_snoc (by rw [conts_len]; omega), List.mem_append, hc]
    · rw [kpt_no h]
      refine ⟨h1, fun r => ?_⟩
      rw [h2, take_snoc (by rw [conts_len]; omega), List.mem_append, hc, List.mem_singleton]
      refine ⟨.inl, fun h3 => h3.elim id fun e => ?_⟩
      subst e
      unfold keepA at h
      have h0 : i ≠ 0 := fun e => h (.inl e)
      have h5 : (l.getD i d0).2 = (l.getD (i - 1) d0).2 := Decidable.byContradiction fun e => h (.inr e)
      have q1 : l.getD i d0 = l[i] := by simp [List.getD, show i < l.length by omega]
      have q2 : l.getD (i - 1) d0 = l[i - 1] := by simp [List.getD, show i - 1 < l.length by omega]
      rw [q1, q2] at h5
      rw [h5]
      refine List.mem_iff_getElem.2 ⟨i - 1, by rw [List.length_take, conts_len]; omega, by simp [conts]⟩
theorem kpt_final (hs : (conts l).Pairwise fun x y => ¬ ltL y x) : SrtL (conts (kpt l l.length)) ∧ ∀ r, r ∈ conts (kpt l l.length) ↔ r ∈ conts l := by
  have h := kpt_srt hs l.length (Nat.le_refl _)
  rwa [List.take_of_length_le (by rw [conts_len]; exact Nat.le_refl _)] at h
end
end Go.Vc
/-
  Plain words: the list of all mitres.
-/
namespace Go.Vc
section
variable {v : Int} {bs : List B3} {a : Int} {q : List Int} {out ys : List SL}
noncomputable def mitF (bs : List B3) (k : Nat) : List (List Int) := mitI bs (k : Int)
def MitA (v : Int) (bs : List B3) (q : List Int) : Prop := ∃ k : Nat, k < v.toNat ∧ Mit bs (k : Int) q
theorem Mit.len (h : Mit bs a q) : q.length = 5 := by
  obtain ⟨x, y, z, _, _, _, _, _, _, _, _, p, r, _, _, _, hp, _⟩ := h
  rw [hp.length_eq]
  rfl
theorem MitA.len (h : MitA v bs q) : q.length ≤ 5 := by
  obtain ⟨k, _, h⟩ := h
  rw [h.len]
  exact Nat.le_refl _
theorem mitA_mem (h : STS v bs) (e : conts out = fmR (mitF bs) v.toNat) : q ∈ conts out ↔ MitA v bs q := by
  rw [e, mem_fmR]
  exact ⟨fun ⟨k, hk, hq⟩ => ⟨k, hk, (mitI_mem h).1 hq⟩, fun ⟨k, hk, hq⟩ => ⟨k, hk, (mitI_mem h).2 hq⟩⟩
theorem mitA_small (h : STS v bs) (e : conts out = fmR (mitF bs) v.toNat) : ∀ q ∈ conts out, q.length ≤ 1000 := fun q hq => by
  have := ((mitA_mem h e).1 hq).len
  omega
theorem mitA_sorted (h : STS v bs) (e : conts out = fmR (mitF bs) v.toNat) (hp : ys.Perm out) (hs : (conts ys).Pairwise fun x y => ¬ ltL y x) : IsList (MitA v bs) (conts (kpt ys ys.length)) := by
  have hf := kpt_final hs
  refine ⟨hf.1, fun r => ?_⟩
  rw [hf.2, ← mitA_mem h e]
  exact (hp.map (·.2)).mem_iff
theorem mit_step {n : Nat} : ((∃ k : Nat, k < n ∧ Mit bs (k : Int) q) ∨ Mit bs (n : Int) q) ↔ ∃ k : Nat, k < n + 1 ∧ Mit bs (k : Int) q := by
  constructor
  · rintro (⟨k, hk, h⟩ | h)
    · exact ⟨k, by omega, h⟩
    · exact ⟨n, by omega, h⟩
  · rintro ⟨k, hk, h⟩
    by_cases e : k = n
    · subst e; exact .inr h
    · exact .inl ⟨k, by omega, h⟩
/-- The number of all mitres. -/
def CntM (v : Int) (bs : List B3) (n : Int) : Prop := (STS v bs → ∃ l, IsList (MitA v bs) l ∧ n = (l.length : Int)) ∧ (¬ STS v bs → n = 0)
theorem CntM.unique {m n : Int} (h1 : CntM v bs m) (h2 : CntM v bs n) : m = n := by
  by_cases h : STS v bs
  · obtain ⟨l1, k1, rfl⟩ := h1.1 h
    obtain ⟨l2, k2, rfl⟩ := h2.1 h
    rw [k1.unique k2]
  · rw [h1.2 h, h2.2 h]
theorem mit_small {l : List (List Int)} (h1 : STS v bs → IsList (MitA v bs) l) (h2 : ¬ STS v bs → l = []) : ∀ q ∈ l, q.length ≤ 5 := by
  intro q hq
  by_cases hS : STS v bs
  · exact (((h1 hS).2 q).1 hq).len
  · rw [h2 hS] at hq
    simp at hq
end
section
variable {α : Type} {T : TypeId} {C : Cod α} {w0 w : World} {H : List Assn}
theorem RowsA.takeOne {ps : List (Sl × List α)} {k : Nat} (hk : k < ps.length) (hw : St w0 (RowsA T C (ps.drop k) :: H) w) : St w0 (Own T C (ps[k]).1.A (ps[k]).1.c (ps[k]).2 :: RowsA T C (ps.drop (k + 1)) :: H) w := by
  rw [drop_cons hk] at hw
  exact (RowsA.uncons (s := (ps[k]).1) (xs := (ps[k]).2) hw).2
end
end Go.Vc
