/-
  The calculus and plain words, part 5.
-/
import Derived.Test.YtgjfcepnkllklaaGreatKa4
set_option linter.unusedVariables false
set_option linter.unusedSimpArgs false
/-
  Plain words: sums of counts at points: Pasch have six points, mitres one centre.
-/
namespace Go.Vc
section
variable {v : Int} {bs : List B3} {a b : Int} {r : List Int}
theorem hasN_two {A B : B3} {t : Int} (h : ¬ (has A t ∧ has B t)) : hasN A t + hasN B t ≤ 1 := by
  by_cases h1 : has A t
  · have h2 : ¬ has B t := fun h2 => h ⟨h1, h2⟩
    rw [hasN_one h1, hasN_zero h2]
    exact Nat.le_refl _
  · rw [hasN_zero h1]
    have := hasN_le B t
    omega
theorem mit_cnt (h : STS v bs) (hm : Mit bs a r) : cntP bs r a = 3 ∧ ∀ t, t ≠ a → cntP bs r t ≤ 2 := by
  obtain ⟨x, y, z, hx, hy, hz, xy, yz, gx, gy, gz, p, q, hp, hq, hc, hperm, _⟩ := hm
  have e : ∀ t, cntP bs r t = hasN bs[x] t + hasN bs[y] t + hasN bs[z] t + hasN bs[p] t + hasN bs[q] t := by
    intro t
    rw [cntP_perm hperm]
    simp only [cntP, List.cons_append, List.nil_append, List.map_cons, List.map_nil, List.sum_cons, List.sum_nil, blk_get hx, blk_get hy, blk_get hz, blk_get hp, blk_get hq]
    omega
  refine ⟨?_, fun t ht => ?_⟩
  · rw [e, hasN_one gx, hasN_one gy, hasN_one gz, hasN_zero hc.pa, hasN_zero hc.qa]
  · rw [e]
    have k1 := hasN_two (A := bs[x]) (B := bs[y]) (t := t) (fun hh => ht (far h hx hy (by omega) gx gy t hh.1 hh.2))
    have k2 := hasN_two (A := bs[x]) (B := bs[z]) (t := t) (fun hh => ht (far h hx hz (by omega) gx gz t hh.1 hh.2))
    have k3 := hasN_two (A := bs[y]) (B := bs[z]) (t := t) (fun hh => ht (far h hy hz (by omega) gy gz t hh.1 hh.2))
    have k4 := hasN_two (A := bs[p]) (B := bs[q]) (t := t) (fun hh => hc.dis t hh.1 hh.2)
    omega
/-- A mitre has one centre. -/
theorem mit_one (h : STS v bs) (h1 : Mit bs a r) (h2 : Mit bs b r) : a = b := by
  apply Decidable.byContradiction
  intro hne
  have e1 := (mit_cnt h h1).1
  have e2 := (mit_cnt h h2).2 a hne
  omega
theorem cat_len {p : Nat → List Int → Prop} {f : Nat → Int} (hd : ∀ i j r, p i r → p j r → i = j) : ∀ n : Nat, (∀ k, k < n → ∃ ls : List (List Int), ls.Nodup ∧ (∀ r, r ∈ ls ↔ p k r) ∧ f k = (ls.length : Int)) →
    ∃ L : List (List Int), L.Nodup ∧ (∀ r, r ∈ L ↔ ∃ k, k < n ∧ p k r) ∧ ((List.range n).map f).sum = (L.length : Int) := by
  intro n
  induction n with
  | zero => intro _; exact ⟨[], List.nodup_nil, fun r => ⟨fun h => by simp at h, fun ⟨k, hk, _⟩ => by omega⟩, rfl⟩
  | succ n ih =>
    intro h
    obtain ⟨L, h1, h2, h3⟩ := ih (fun k hk => h k (by omega))
    obtain ⟨ls, g1, g2, g3⟩ := h n (by omega)
    refine ⟨L ++ ls, ?_, fun r => ?_, ?_⟩
    · rw [List.nodup_append]
      refine ⟨h1, g1, fun x hx y hy e => ?_⟩
      subst e
      obtain ⟨k, hk, hp⟩ := (h2 x).1 hx
      have := hd _ _ _ hp ((g2 x).1 hy)
      omega
    · rw [List.mem_append, h2, g2]
      constructor
      · rintro (⟨k, hk, hp⟩ | hp)
        · exact ⟨k, by omega, hp⟩
        · exact ⟨n, by omega, hp⟩
      · rintro ⟨k, hk, hp⟩
        by_cases e : k = n
        · subst e; exact .inr hp
        · exact .inl ⟨k, by omega, hp⟩
    · rw [List.range_succ, List.map_append, List.sum_append, h3, List.length_append]
      simp only [List.map_cons, List.map_nil, List.sum_cons, List.sum_nil, g3]
      omega
theorem range_self (o : List Int) : o = (List.range o.length).map fun k => o.getD k 0 := by
  apply List.ext_getElem
  · simp
  · intro i h1 h2
    simp [List.getD_eq_getElem?_getD, h1]
theorem mit_sum (h : STS v bs) {o : List Int} {l : List (List Int)} (h1 : MCR v bs o) (h2 : IsList (MitA v bs) l) : o.sum = (l.length : Int) := by
  obtain ⟨hl, hk⟩ := h1.1 h
  obtain ⟨L, g1, g2, g3⟩ := cat_len (p := fun k r => Mit bs (k : Int) r) (f := fun k => o.getD k 0) (fun i j r q1 q2 => by have := mit_one h q1 q2; omega) o.length (fun k hk' => by
    obtain ⟨n, e1, ls, q1, q2, q3⟩ := hk k (by omega)
    exact ⟨ls, q1, q2, by rw [e1, q3]⟩)
  have e := range_self o
  rw [e, g3]
  have hp : L.Perm l := (List.perm_ext_iff_of_nodup g1 (SrtL.nodup h2.1)).2 (fun r => by rw [g2, h2.2]; unfold MitA; rw [hl])
  rw [hp.length_eq]
/-! ### Pasch -/
theorem has_sum {d : B3} (hg : good v d) : ((List.range v.toNat).map fun q : Nat => ((hasN d (q : Int) : Nat) : Int)).sum = 3 := by
  have e : (fun q : Nat => ((hasN d (q : Int) : Nat) : Int)) = fun q => ((if d.1.toNat = q then (1 : Int) else 0) + (if d.2.1.toNat = q then 1 else 0)) + (if d.2.2.toNat = q then 1 else 0) := by
    funext q
    unfold good at hg
    by_cases h : has d (q : Int)
    · rw [hasN_one h]
      unfold has at h
      (repeat' split) <;> omega
    · rw [hasN_zero h]
      unfold has at h
      (repeat' split) <;> omega
  rw [e, sum_add, sum_add, sum_ind, sum_ind, sum_ind]
  unfold good at hg
  rw [if_pos (by omega), if_pos (by omega), if_pos (by omega)]
  rfl
theorem cnt_sum {l : List Int} (hb : ∀ d ∈ bs, good v d) (h : ∀ k ∈ l, okIx bs k) : ((List.range v.toNat).map fun q : Nat => ((cntP bs l (q : Int) : Nat) : Int)).sum = 3 * l.length := by
  induction l with
  | nil =>
    have e : (fun q : Nat => ((cntP bs [] (q : Int) : Nat) : Int)) = fun _ => 0 := rfl
    rw [e]
    induction v.toNat with
    | zero => rfl
    | succ n ih => rw [List.range_succ, List.map_append, List.sum_append, ih]; rfl
  | cons k l ih =>
    have e : (fun q : Nat => ((cntP bs (k :: l) (q : Int) : Nat) : Int)) = fun q : Nat => ((hasN (blk bs k) (q : Int) : Nat) : Int) + ((cntP bs l (q : Int) : Nat) : Int) := by
      funext q
      simp only [cntP, List.map_cons, List.sum_cons]
      omega
    have hk := h k (by simp)
    have hg : good v (blk bs k) := by
      obtain ⟨h0, h1⟩ := hk
      rw [blk_at (by omega)]
      exact hb _ (List.getElem_mem _)
    rw [e, sum_add, has_sum hg, ih (fun j hj => h j (by simp [hj]))]
    simp only [List.length_cons]
    omega
theorem cnt_zero {l : List Int} {p : Int} : cntP bs l p = 0 ↔ ¬ ∃ k ∈ l, has (blk bs k) p := by
  induction l with
  | nil => simp [cntP]
  | cons k l ih =>
    have e : cntP bs (k :: l) p = hasN (blk bs k) p + cntP bs l p := by simp [cntP]
    rw [e]
    by_cases hk : has (blk bs k) p
    · rw [hasN_one hk]
      exact ⟨fun h => by omega, fun h => absurd ⟨k, by simp, hk⟩ h⟩
    · rw [hasN_zero hk, Nat.zero_add, ih]
      refine not_congr ⟨fun ⟨j, hj, hh⟩ => ⟨j, by simp [hj], hh⟩, fun ⟨j, hj, hh⟩ => ?_⟩
      rcases List.mem_cons.1 hj with rfl | hj
      · exact absurd hh hk
      · exact ⟨j, hj, hh⟩
theorem hits_six {l : List Int} (hb : ∀ d ∈ bs, good v d) (h : PQ bs l) : ((List.range v.toNat).map fun q : Nat => hitsQ bs l (q : Int)).sum = 6 := by
  have e : (fun q : Nat => ((cntP bs l (q : Int) : Nat) : Int)) = fun q : Nat => hitsQ bs l (q : Int) + hitsQ bs l (q : Int) := by
    funext q
    have h2 := h.two (q : Int)
    have h3 := cnt_zero (bs := bs) (l := l) (p := (q : Int))
    unfold hitsQ
    split
    · rename_i hh
      have : ¬ cntP bs l (q : Int) = 0 := fun h0 => (h3.1 h0) hh
      omega
    · rename_i hh
      have := h3.2 hh
      omega
  have hs := cnt_sum hb h.ix
  rw [e, sum_add, h.four] at hs
  omega
theorem hits_sum (hb : ∀ d ∈ bs, good v d) : ∀ ls : List (List Int), (∀ q ∈ ls, PQ bs q) → ((List.range v.toNat).map fun q : Nat => hitsP bs ls (q : Int)).sum = 6 * ls.length := by
  intro ls
  induction ls with
  | nil =>
    intro _
    have e : (fun q : Nat => hitsP bs [] (q : Int)) = fun _ => 0 := rfl
    rw [e]
    induction v.toNat with
    | zero => rfl
    | succ n ih => rw [List.range_succ, List.map_append, List.sum_append, ih]; rfl
  | cons l ls ih =>
    intro h
    have e : (fun q : Nat => hitsP bs (l :: ls) (q : Int)) = fun q : Nat => hitsQ bs l (q : Int) + hitsP bs ls (q : Int) := by
      funext q
      simp [hitsP]
    rw [e, sum_add, hits_six hb (h l (by simp)), ih (fun q hq => h q (by simp [hq]))]
    simp only [List.length_cons]
    omega
theorem par_sum (h : STS v bs) {o : List Int} {l : List (List Int)} (h1 : PAR v bs o) (h2 : IsList (PQ bs) l) : o.sum = 6 * (l.length : Int) := by
  obtain ⟨ls, g1, g2⟩ := h1.1 h
  obtain rfl := g1.unique h2
  rw [g2]
  have e : mixP bs ls v.toNat ls.length 0 = (List.range v.toNat).map fun q : Nat => hitsP bs ls (q : Int) := by
    unfold mixP
    refine List.map_congr_left fun q _ => ?_
    rw [if_neg (by omega), List.take_length]
  rw [e]
  exact hits_sum h.good ls (fun q hq => (g1.2 q).1 hq)
theorem par_bd (h : STS v bs) {o : List Int} (h1 : PAR v bs o) : o.length ≤ 15 ∧ ∀ ls, IsList (PQ bs) ls → ∀ x ∈ o, 0 ≤ x ∧ x ≤ ls.length := by
  obtain ⟨ls, g1, g2⟩ := h1.1 h
  have := h.hi
  refine ⟨by rw [g2, mixP_len]; omega, fun ls' h' x hx => ?_⟩
  obtain rfl := g1.unique h'
  rw [g2] at hx
  obtain ⟨q, _, rfl⟩ := List.mem_map.1 hx
  split
  · omega
  · exact hitsP_bd _
theorem le_sum : ∀ {o : List Int}, (∀ x ∈ o, 0 ≤ x) → 0 ≤ o.sum ∧ ∀ x ∈ o, x ≤ o.sum := by
  intro o
  induction o with
  | nil => intro _; exact ⟨Int.le_refl _, fun x h => by simp at h⟩
  | cons y o ih =>
    intro h
    obtain ⟨h1, h2⟩ := ih (fun x hx => h x (by simp [hx]))
    have hy := h y (by simp)
    rw [List.sum_cons]
    refine ⟨by omega, fun x hx => ?_⟩
    rcases List.mem_cons.1 hx with rfl | hx
    · omega
    · have := h2 x hx; omega
theorem mcr_bd (h : STS v bs) {o : List Int} {l : List (List Int)} (h1 : MCR v bs o) (h2 : IsList (MitA v bs) l) : ∀ x ∈ o, 0 ≤ x ∧ x ≤ l.length := by
  have h0 : ∀ x ∈ o, 0 ≤ x := by
    intro x hx
    obtain ⟨i, hi, rfl⟩ := List.getElem_of_mem hx
    obtain ⟨hl, hk⟩ := h1.1 h
    obtain ⟨n, e, _⟩ := hk i (by omega)
    rw [getD_at hi] at e
    omega
  have hs := mit_sum h h1 h2
  exact fun x hx => ⟨h0 x hx, by rw [← hs]; exact (le_sum h0).2 x hx⟩
/-- The number of all Pasch. -/
def CntP (v : Int) (bs : List B3) (n : Int) : Prop := (STS v bs → ∃ l, IsList (PQ bs) l ∧ n = (l.length : Int)) ∧ (¬ STS v bs → n = 0)
theorem CntP.unique {m n : Int} (h1 : CntP v bs m) (h2 : CntP v bs n) : m = n := by
  by_cases h : STS v bs
  · obtain ⟨l1, k1, rfl⟩ := h1.1 h
    obtain ⟨l2, k2, rfl⟩ := h2.1 h
    rw [k1.unique k2]
  · rw [h1.2 h, h2.2 h]
theorem cntP_of (h : STS v bs) {n : Int} {l : List (List Int)} (h1 : CntP v bs n) (h2 : IsList (PQ bs) l) : n = (l.length : Int) := by
  obtain ⟨l1, k1, rfl⟩ := h1.1 h
  rw [k1.unique h2]
theorem cntM_of (h : STS v bs) {n : Int} {l : List (List Int)} (h1 : CntM v bs n) (h2 : IsList (MitA v bs) l) : n = (l.length : Int) := by
  obtain ⟨l1, k1, rfl⟩ := h1.1 h
  rw [k1.unique h2]
end
end Go.Vc
/-
  The calculus, part 26: bytes as a statement's argument.
-/
namespace Go.Vc
open Go Go.RowKit Go.ChangeShapes Go.WideShapes
section
variable {H : Type} {enc : TypeId × Value → H} {P : Program} {w : World} {base : Nat} {spare : Nat → Bool} {held : Bool}
theorem open_bytes {t e : TypeId} {fuel : Nat} {cs : List Value} {x : DataW H × List MemPlace} (ht : P.underlying t = some (.slice e)) (he : P.underlying e = some (.int .u8)) (ce : P.cellsOf e = 1)
    (h : DataW.trod enc P w base spare held fuel t cs = some x) : ∃ (A : Option Addr) (c : Nat) (bs : List UInt8), cs = [.slice A bs.length c] ∧ bs.length ≤ 9223372036854775807 ∧ Rd U8C w A bs := by
  rcases Deep.open_slice ht h with ⟨rfl, _⟩ | ⟨a, len, cap, m, n, D, Pl, rfl, hb, hl, hm, hmm, _, hx⟩
  · exact ⟨none, 0, [], rfl, by simp, Rd.nil _ _ _⟩
  · have hlm : len ≤ m := by rw [hmm]; split <;> omega
    have each : ∀ i, i < len → ∃ b : UInt8, w.cells? base (a.add (i * U8C.sz)) U8C.sz = some (U8C.enc b) := by
      intro j hj
      obtain ⟨cs', h1, h2⟩ := hx j (by omega)
      obtain ⟨n, e0, _, hv⟩ := DataW.trod_int he h2
      subst e0
      simp [Lit.wf, IntKind.min, IntKind.max, IntKind.signed, IntKind.bits] at hv
      rw [ce] at h1
      refine ⟨UInt8.ofNat n.toNat, ?_⟩
      have e : ((UInt8.ofNat n.toNat).toNat : Int) = n := by
        rw [UInt8.toNat_ofNat']
        omega
      have e2 : U8C.enc (UInt8.ofNat n.toNat) = [.int .u8 n] := by
        show [Value.int .u8 ((UInt8.ofNat n.toNat).toNat : Int)] = _
        rw [e]
      rw [e2]
      exact h1
    obtain ⟨bs, hbl, hr⟩ := rd_of_cells each
    subst hbl
    simp only [maxLen] at hm
    exact ⟨some a, cap, bs, rfl, by omega, hr⟩
end
end Go.Vc
