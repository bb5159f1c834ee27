/-
  Plain words: counts of points; the walks that find all Pasch.
-/
import Derived.Test.YtnbbkcpafkooaaaPurePasch
set_option linter.unusedVariables false
set_option linter.unusedSimpArgs false
namespace Go.Vc

/-! ### Counts -/
def cN (ps : List Int) (k : Int) : Int := ((ps.count k : Nat) : Int)
def cntA (ps : List Int) : List Int := [cN ps 0, cN ps 1, cN ps 2, cN ps 3, cN ps 4, cN ps 5, cN ps 6, cN ps 7, cN ps 8, cN ps 9, cN ps 10, cN ps 11, cN ps 12, cN ps 13, cN ps 14]
theorem cntA_len (ps : List Int) : (cntA ps).length = 15 := rfl
theorem pt15 {p : Int} (h0 : 0 ≤ p) (h1 : p < 15) : p = 0 ∨ p = 1 ∨ p = 2 ∨ p = 3 ∨ p = 4 ∨ p = 5 ∨ p = 6 ∨ p = 7 ∨ p = 8 ∨ p = 9 ∨ p = 10 ∨ p = 11 ∨ p = 12 ∨ p = 13 ∨ p = 14 := by omega
theorem cntA_get (ps : List Int) {p : Int} (h0 : 0 ≤ p) (h1 : p < 15) : (cntA ps).getD p.toNat 0 = cN ps p := by
  rcases pt15 h0 h1 with rfl | rfl | rfl | rfl | rfl | rfl | rfl | rfl | rfl | rfl | rfl | rfl | rfl | rfl | rfl <;> rfl
theorem cN_snoc (ps : List Int) (p k : Int) : cN (ps ++ [p]) k = cN ps k + if p = k then 1 else 0 := by
  unfold cN
  rw [List.count_append, List.count_singleton]
  by_cases h : p = k
  · subst h; simp
  · simp [h]
theorem cntA_set (ps : List Int) {p : Int} (h0 : 0 ≤ p) (h1 : p < 15) : (cntA ps).set p.toNat ((cntA ps).getD p.toNat 0 + 1) = cntA (ps ++ [p]) := by
  rw [cntA_get ps h0 h1]
  rcases pt15 h0 h1 with rfl | rfl | rfl | rfl | rfl | rfl | rfl | rfl | rfl | rfl | rfl | rfl | rfl | rfl | rfl <;> simp [cntA, cN_snoc]
theorem cnt_bd {ps : List Int} (h : ps.length ≤ 100) (k : Nat) : 0 ≤ (cntA ps).getD k 0 ∧ (cntA ps).getD k 0 ≤ 100 := by
  have key : ∀ x ∈ cntA ps, 0 ≤ x ∧ x ≤ 100 := by
    intro x hx
    have h1 : ∀ p, 0 ≤ cN ps p ∧ cN ps p ≤ 100 := fun p => by unfold cN; have := List.count_le_length (a := p) (l := ps); omega
    simp only [cntA, List.mem_cons, List.not_mem_nil, or_false] at hx
    rcases hx with h | h | h | h | h | h | h | h | h | h | h | h | h | h | h <;> rw [h] <;> exact h1 _
  by_cases hk : k < (cntA ps).length
  · have e : (cntA ps).getD k 0 = (cntA ps)[k] := by simp [List.getD, hk]
    rw [e]
    exact key _ (List.getElem_mem hk)
  · have e : (cntA ps).getD k 0 = 0 := by simp [List.getD, Nat.le_of_not_lt hk]
    rw [e]
    omega
/-- How many numbers from 0 on are counted at least once. -/
def posL : List Int → Nat
  | [] => 0
  | x :: r => (if 0 < x then 1 else 0) + posL r
def dist (ps : List Int) : Nat := posL (cntA ps)
theorem posL_set : ∀ (xs : List Int) (k : Nat), k < xs.length → 0 ≤ xs.getD k 0 → posL (xs.set k (xs.getD k 0 + 1)) = posL xs + if xs.getD k 0 = 0 then 1 else 0 := by
  intro xs
  induction xs with
  | nil => intro k hk; simp at hk
  | cons x xs ih =>
    intro k hk h0
    cases k with
    | zero =>
      simp only [List.getD_cons_zero, List.set_cons_zero, posL] at *
      by_cases h : x = 0
      · subst h; simp; omega
      · rw [if_pos (by omega), if_pos (by omega), if_neg h]; omega
    | succ k =>
      simp only [List.getD_cons_succ, List.set_cons_succ, posL] at *
      rw [ih k (by simpa using hk) h0]
      omega
theorem dist_snoc (ps : List Int) {p : Int} (h0 : 0 ≤ p) (h1 : p < 15) : dist (ps ++ [p]) = dist ps + if cN ps p = 0 then 1 else 0 := by
  unfold dist
  rw [← cntA_set ps h0 h1, posL_set _ _ (by rw [cntA_len]; omega) (by rw [cntA_get ps h0 h1]; unfold cN; omega), cntA_get ps h0 h1]
theorem cnt_one (ps : List Int) {p : Int} (h0 : 0 ≤ p) (h1 : p < 15) : (cntA (ps ++ [p])).getD p.toNat 0 = 1 ↔ cN ps p = 0 := by
  rw [cntA_get _ h0 h1, cN_snoc, if_pos rfl]
  omega
theorem dist_le (ps : List Int) : dist ps ≤ 15 := by
  have : ∀ xs : List Int, posL xs ≤ xs.length := by
    intro xs
    induction xs with
    | nil => simp [posL]
    | cons x xs ih => simp only [posL, List.length_cons]; split <;> omega
  exact this _
theorem sumL_cnt : ∀ ps : List Int, (∀ p ∈ ps, 0 ≤ p ∧ p < 15) → (cntA ps).sum = ps.length := by
  intro ps
  have key : ∀ (n : Nat) (ps : List Int), ps.length = n → (∀ p ∈ ps, 0 ≤ p ∧ p < 15) → (cntA ps).sum = ps.length := by
    intro n
    induction n with
    | zero => intro ps h _; rw [List.eq_nil_of_length_eq_zero h]; rfl
    | succ n ih =>
      intro ps h hp
      have hne : ps ≠ [] := by intro e; subst e; simp at h
      obtain ⟨qs, q, rfl⟩ : ∃ qs q, ps = qs ++ [q] := ⟨ps.dropLast, ps.getLast hne, (List.dropLast_concat_getLast hne).symm⟩
      rw [List.length_append, List.length_singleton] at h ⊢
      have h1 := ih qs (by omega) (fun p h => hp p (by simp [h]))
      have h2 := hp q (by simp)
      have h3 : (cntA (qs ++ [q])).sum = (cntA qs).sum + 1 := by
        rcases pt15 h2.1 h2.2 with rfl | rfl | rfl | rfl | rfl | rfl | rfl | rfl | rfl | rfl | rfl | rfl | rfl | rfl | rfl <;> simp [cntA, cN_snoc] <;> omega
      rw [h3, h1]
      push_cast
      rfl
  exact key _ ps rfl
theorem pos_two : ∀ xs : List Int, (∀ x ∈ xs, 0 ≤ x) → (∀ x ∈ xs, x ≤ 2) → xs.sum ≤ 2 * posL xs ∧ (xs.sum = 2 * posL xs → ∀ x ∈ xs, x = 0 ∨ x = 2) := by
  intro xs
  induction xs with
  | nil => intro _ _; simp [posL]
  | cons x xs ih =>
    intro h0 h2
    obtain ⟨i1, i2⟩ := ih (fun y hy => h0 y (by simp [hy])) (fun y hy => h2 y (by simp [hy]))
    have hx := h0 x (by simp)
    have hx2 := h2 x (by simp)
    simp only [posL, List.sum_cons]
    push_cast
    by_cases hp : 0 < x
    · rw [if_pos hp]
      refine ⟨by omega, fun e y hy => ?_⟩
      rcases List.mem_cons.1 hy with rfl | hy
      · omega
      · exact i2 (by omega) y hy
    · rw [if_neg hp]
      refine ⟨by omega, fun e y hy => ?_⟩
      rcases List.mem_cons.1 hy with rfl | hy
      · omega
      · exact i2 (by omega) y hy
theorem two_pos : ∀ xs : List Int, (∀ x ∈ xs, x = 0 ∨ x = 2) → xs.sum = 2 * posL xs := by
  intro xs
  induction xs with
  | nil => intro _; simp [posL]
  | cons x xs ih =>
    intro h
    have i1 := ih (fun y hy => h y (by simp [hy]))
    have hx := h x (by simp)
    simp only [posL, List.sum_cons]
    push_cast
    rcases hx with rfl | rfl <;> simp <;> omega
theorem mem_cntA {ps : List Int} {x : Int} : x ∈ cntA ps ↔ ∃ p : Int, 0 ≤ p ∧ p < 15 ∧ x = cN ps p := by
  constructor
  · intro h
    simp only [cntA, List.mem_cons, List.not_mem_nil, or_false] at h
    rcases h with h | h | h | h | h | h | h | h | h | h | h | h | h | h | h <;> exact ⟨_, by decide, by decide, h⟩
  · rintro ⟨p, h0, h1, rfl⟩
    rcases pt15 h0 h1 with rfl | rfl | rfl | rfl | rfl | rfl | rfl | rfl | rfl | rfl | rfl | rfl | rfl | rfl | rfl <;> simp [cntA]
theorem six_iff {ps : List Int} (hp : ∀ p ∈ ps, 0 ≤ p ∧ p < 15) (hl : ps.length = 12) : (dist ps = 6 ∧ ¬ ∃ x ∈ cntA ps, 2 < x) ↔ ∀ p, ps.count p = 0 ∨ ps.count p = 2 := by
  have hs := sumL_cnt ps hp
  rw [hl] at hs
  have h0 : ∀ x ∈ cntA ps, 0 ≤ x := by
    intro x hx
    obtain ⟨p, _, _, rfl⟩ := mem_cntA.1 hx
    unfold cN
    omega
  constructor
  · rintro ⟨h1, h2⟩ p
    have h3 := pos_two (cntA ps) h0 (fun x hx => by
      by_cases e : 2 < x
      · exact absurd ⟨x, hx, e⟩ h2
      · omega)
    by_cases hm : p ∈ ps
    · obtain ⟨q1, q2⟩ := hp p hm
      have h4 := h3.2 (by unfold dist at h1; rw [hs, h1]; rfl) (cN ps p) (mem_cntA.2 ⟨p, q1, q2, rfl⟩)
      unfold cN at h4
      omega
    · exact .inl (List.count_eq_zero.2 hm)
  · intro h
    have h5 : ∀ x ∈ cntA ps, x = 0 ∨ x = 2 := by
      intro x hx
      obtain ⟨p, _, _, rfl⟩ := mem_cntA.1 hx
      have := h p
      unfold cN
      omega
    have h3 := two_pos (cntA ps) h5
    refine ⟨by unfold dist; omega, ?_⟩
    rintro ⟨x, hx, h6⟩
    have := h5 x hx
    omega
theorem bl_count {v : Int} {b : B3} (hg : good v b) (p : Int) : (bl b).count p = hasN b p := by
  unfold good at hg
  unfold bl hasN has
  by_cases h1 : b.1 = p
  · have : ¬ b.2.1 = p := by omega
    have : ¬ b.2.2 = p := by omega
    simp_all
  · by_cases h2 : b.2.1 = p
    · have : ¬ b.2.2 = p := by omega
      simp_all
    · by_cases h3 : b.2.2 = p <;> simp_all
/-- Each point is in none or two of them. -/
def PasB (l : List B3) : Prop := ∀ p, (l.flatMap bl).count p = 0 ∨ (l.flatMap bl).count p = 2
noncomputable instance (l : List B3) : Decidable (PasB l) := Classical.propDecidable _
theorem pasB_four {v : Int} {a b c d : B3} (ha : good v a) (hb : good v b) (hc : good v c) (hd : good v d) : PasB [a, b, c, d] ↔ P4 a b c d := by
  unfold PasB P4
  refine forall_congr' fun p => ?_
  simp only [List.flatMap_cons, List.flatMap_nil, List.append_nil, List.count_append, bl_count ha, bl_count hb, bl_count hc, bl_count hd]
  have : ∀ x y z u : Nat, x + (y + (z + u)) = x + y + z + u := by intros; omega
  rw [this]
theorem flat_pts {l : List B3} (h : ∀ b ∈ l, good 15 b) : ∀ p ∈ l.flatMap bl, 0 ≤ p ∧ p < 15 := by
  intro p hp
  obtain ⟨b, hb, h1⟩ := List.mem_flatMap.1 hp
  have hg := h b hb
  unfold good at hg
  simp only [bl, List.mem_cons, List.not_mem_nil, or_false] at h1
  omega
theorem flat_len (l : List B3) : (l.flatMap bl).length = 3 * l.length := by
  induction l with
  | nil => rfl
  | cons b l ih => simp [List.flatMap_cons, bl, ih]; omega
theorem flat_snoc (l : List B3) {k : Nat} (hk : k < l.length) : (l.take (k + 1)).flatMap bl = (((l.take k).flatMap bl ++ [l[k].1]) ++ [l[k].2.1]) ++ [l[k].2.2] := by
  rw [take_snoc hk, List.flatMap_append]
  simp [bl]

/-! ### The program's walk -/
section
variable {v : Int} {bs : List B3}
theorem pq_quad {r : List Int} (h : PQ bs r) : ∃ i j k m : Nat, i < j ∧ j < k ∧ k < m ∧ m < bs.length ∧ r = [(i : Int), (j : Int), (k : Int), (m : Int)] := by
  obtain ⟨h4, hu, hi, _⟩ := h
  match r, h4 with
  | [a, b, c, d], _ =>
    have ha := hi a (by simp)
    have hb := hi b (by simp)
    have hc := hi c (by simp)
    have hd := hi d (by simp)
    unfold okIx at ha hb hc hd
    simp only [List.pairwise_cons, List.mem_cons, List.not_mem_nil, or_false] at hu
    have u1 := hu.1 b (by simp)
    have u2 := hu.2.1 c (by simp)
    have u3 := hu.2.2.1 d (by simp)
    refine ⟨a.toNat, b.toNat, c.toNat, d.toNat, by omega, by omega, by omega, by omega, ?_⟩
    congr 1
    · omega
    · congr 1
      · omega
      · congr 1
        · omega
        · congr 1; omega
theorem pq_of {i j k m : Nat} (h1 : i < j) (h2 : j < k) (h3 : k < m) (h4 : m < bs.length) (hp : P4 bs[i] bs[j] bs[k] bs[m]) : PQ bs [(i : Int), (j : Int), (k : Int), (m : Int)] := by
  refine ⟨rfl, by simp; omega, fun q hq => ?_, fun p => ?_⟩
  · simp only [List.mem_cons, List.not_mem_nil, or_false] at hq
    unfold okIx
    omega
  · rw [cntP_four, blk_get (by omega), blk_get (by omega), blk_get (by omega), blk_get h4]
    exact hp p
theorem pq_p4 {i j k m : Nat} (h1 : i < j) (h2 : j < k) (h3 : k < m) (h4 : m < bs.length) (h : PQ bs [(i : Int), (j : Int), (k : Int), (m : Int)]) : P4 bs[i] bs[j] bs[k] bs[m] := by
  intro p
  have := h.two p
  rwa [cntP_four, blk_get (by omega), blk_get (by omega), blk_get (by omega), blk_get h4] at this
theorem pre4 {a b c d : Int} {i j k m : Nat} : ([a] <+: [(i : Int), (j : Int), (k : Int), (m : Int)] ↔ a = i) ∧ ([a, b] <+: [(i : Int), (j : Int), (k : Int), (m : Int)] ↔ a = i ∧ b = j) ∧ ([a, b, c] <+: [(i : Int), (j : Int), (k : Int), (m : Int)] ↔ a = i ∧ b = j ∧ c = k) ∧ ([a, b, c, d] <+: [(i : Int), (j : Int), (k : Int), (m : Int)] ↔ a = i ∧ b = j ∧ c = k ∧ d = m) := by
  simp [List.cons_prefix_cons]
theorem pas0 : IsList (PreB (PQ bs) [] 0) [] := preB_none fun r j _ _ => Nat.zero_le _
theorem pas1 {i : Nat} : IsList (PreB (PQ bs) [(i : Int)] (i + 1)) [] := by
  refine preB_none fun r x h hp => ?_
  obtain ⟨a, b, c, d, h1, h2, h3, h4, rfl⟩ := pq_quad h
  have := (pre4 (c := 0) (d := 0)).2.1.1 hp
  omega
theorem pas2 {i j : Nat} : IsList (PreB (PQ bs) [(i : Int), (j : Int)] (j + 1)) [] := by
  refine preB_none fun r x h hp => ?_
  obtain ⟨a, b, c, d, h1, h2, h3, h4, rfl⟩ := pq_quad h
  have := (pre4 (d := 0)).2.2.1.1 hp
  omega
theorem pas3 {i j k : Nat} : IsList (PreB (PQ bs) [(i : Int), (j : Int), (k : Int)] (k + 1)) [] := by
  refine preB_none fun r x h hp => ?_
  obtain ⟨a, b, c, d, h1, h2, h3, h4, rfl⟩ := pq_quad h
  have := pre4.2.2.2.1 hp
  omega
theorem pas3_all {i j k n : Nat} {ls : List (List Int)} (hn : bs.length ≤ n) (h : IsList (PreB (PQ bs) [(i : Int), (j : Int), (k : Int)] n) ls) : IsList (Pre (PQ bs) [(i : Int), (j : Int), (k : Int)]) ls := by
  refine preB_all h fun r hq hp => ?_
  obtain ⟨a, b, c, d, h1, h2, h3, h4, rfl⟩ := pq_quad hq
  have := (pre4 (d := 0)).2.2.1.1 hp
  exact ⟨d, by omega, pre4.2.2.2.2 (by omega)⟩
theorem pas2_all {i j n : Nat} {ls : List (List Int)} (hn : bs.length ≤ n) (h : IsList (PreB (PQ bs) [(i : Int), (j : Int)] n) ls) : IsList (Pre (PQ bs) [(i : Int), (j : Int)]) ls := by
  refine preB_all h fun r hq hp => ?_
  obtain ⟨a, b, c, d, h1, h2, h3, h4, rfl⟩ := pq_quad hq
  have := (pre4 (c := 0) (d := 0)).2.1.1 hp
  exact ⟨c, by omega, (pre4 (d := 0)).2.2.1.2 (by omega)⟩
theorem pas1_all {i n : Nat} {ls : List (List Int)} (hn : bs.length ≤ n) (h : IsList (PreB (PQ bs) [(i : Int)] n) ls) : IsList (Pre (PQ bs) [(i : Int)]) ls := by
  refine preB_all h fun r hq hp => ?_
  obtain ⟨a, b, c, d, h1, h2, h3, h4, rfl⟩ := pq_quad hq
  have := (pre4 (b := 0) (c := 0) (d := 0)).1.1 hp
  exact ⟨b, by omega, (pre4 (c := 0) (d := 0)).2.1.2 (by omega)⟩
theorem pas0_all {n : Nat} {ls : List (List Int)} (hn : bs.length ≤ n) (h : IsList (PreB (PQ bs) [] n) ls) : IsList (PQ bs) ls := by
  refine pre_top (preB_all h fun r hq hp => ?_)
  obtain ⟨a, b, c, d, h1, h2, h3, h4, rfl⟩ := pq_quad hq
  exact ⟨a, by omega, (pre4 (b := 0) (c := 0) (d := 0)).1.2 rfl⟩
/-- Blocks of a Pasch meet. -/
theorem pas_meet (h : STS v bs) {r : List Int} {i j : Nat} (hi : i < bs.length) (hj : j < bs.length) (hne : i ≠ j) (hq : PQ bs r) (hir : (i : Int) ∈ r) (hjr : (j : Int) ∈ r) : meets bs[i] bs[j] := by
  by_cases hm : meets bs[i] bs[j]
  · exact hm
  · obtain ⟨p, h1, h2⟩ := pq_meet h hi hj hne hq hir hjr
    exact absurd ⟨h1, h2⟩ (meets_disj.1 hm p)
theorem pas_skip1 (h : STS v bs) {i j : Nat} {ls : List (List Int)} (hij : i < j) (hj : j < bs.length) (hm : ¬ meets bs[i] bs[j]) (hl : IsList (PreB (PQ bs) [(i : Int)] j) ls) : IsList (PreB (PQ bs) [(i : Int)] (j + 1)) ls := by
  refine preB_skip hl fun r hq hp => hm ?_
  have m1 : (i : Int) ∈ r := hp.subset (by simp)
  have m2 : (j : Int) ∈ r := hp.subset (by simp)
  exact pas_meet h (by omega) hj (by omega) hq m1 m2
theorem pas_skip2 (h : STS v bs) {i j k : Nat} {ls : List (List Int)} (hij : i < j) (hjk : j < k) (hk : k < bs.length) (hm : ¬ meets bs[i] bs[k] ∨ ¬ meets bs[j] bs[k]) (hl : IsList (PreB (PQ bs) [(i : Int), (j : Int)] k) ls) : IsList (PreB (PQ bs) [(i : Int), (j : Int)] (k + 1)) ls := by
  refine preB_skip hl fun r hq hp => ?_
  have m1 : (i : Int) ∈ r := hp.subset (by simp)
  have m2 : (j : Int) ∈ r := hp.subset (by simp)
  have m3 : (k : Int) ∈ r := hp.subset (by simp)
  rcases hm with hm | hm
  · exact hm (pas_meet h (by omega) hk (by omega) hq m1 m3)
  · exact hm (pas_meet h (by omega) hk (by omega) hq m2 m3)
theorem pas_yes {i j k m : Nat} {ls : List (List Int)} (h1 : i < j) (h2 : j < k) (h3 : k < m) (h4 : m < bs.length) (hp : P4 bs[i] bs[j] bs[k] bs[m]) (hl : IsList (PreB (PQ bs) [(i : Int), (j : Int), (k : Int)] m) ls) : IsList (PreB (PQ bs) [(i : Int), (j : Int), (k : Int)] (m + 1)) (ls ++ [[(i : Int), (j : Int), (k : Int), (m : Int)]]) :=
  preB_step hl (pre_one (fun r hr => by rw [hr.four]; rfl) (pq_of h1 h2 h3 h4 hp))
theorem pas_no {i j k m : Nat} {ls : List (List Int)} (h1 : i < j) (h2 : j < k) (h3 : k < m) (h4 : m < bs.length) (hp : ¬ P4 bs[i] bs[j] bs[k] bs[m]) (hl : IsList (PreB (PQ bs) [(i : Int), (j : Int), (k : Int)] m) ls) : IsList (PreB (PQ bs) [(i : Int), (j : Int), (k : Int)] (m + 1)) ls := by
  refine preB_skip hl fun r hq hpre => hp ?_
  have e : [(i : Int), (j : Int), (k : Int), (m : Int)] = r := hpre.eq_of_length (by rw [hq.four]; rfl)
  subst e
  exact pq_p4 h1 h2 h3 h4 hq

/-! ### The reference's walk -/
/-- What has been found from pairs ahead of (i, j). -/
def SeenP (bs : List B3) (i j : Nat) (r : List Int) : Prop := PQ bs r ∧ ∃ x y : Nat, y < x ∧ (x < i ∨ (x = i ∧ y < j)) ∧ (x : Int) ∈ r ∧ (y : Int) ∈ r
theorem seen_zero {r : List Int} : ¬ SeenP bs 0 0 r := by rintro ⟨_, x, y, h1, h2, _⟩; omega
theorem seen_row {i : Nat} {r : List Int} : SeenP bs i i r ↔ SeenP bs (i + 1) 0 r := by
  constructor
  · rintro ⟨h, x, y, h1, h2, h3⟩; exact ⟨h, x, y, h1, by omega, h3⟩
  · rintro ⟨h, x, y, h1, h2, h3⟩; exact ⟨h, x, y, h1, by omega, h3⟩
theorem seen_step {i j : Nat} (hij : j < i) {r : List Int} : SeenP bs i (j + 1) r ↔ SeenP bs i j r ∨ (PQ bs r ∧ (i : Int) ∈ r ∧ (j : Int) ∈ r) := by
  constructor
  · rintro ⟨h, x, y, h1, h2, h3, h4⟩
    by_cases e : x = i ∧ y = j
    · obtain ⟨rfl, rfl⟩ := e
      exact .inr ⟨h, h3, h4⟩
    · exact .inl ⟨h, x, y, h1, by omega, h3, h4⟩
  · rintro (⟨h, x, y, h1, h2, h3, h4⟩ | ⟨h, h3, h4⟩)
    · exact ⟨h, x, y, h1, by omega, h3, h4⟩
    · exact ⟨h, i, j, hij, .inr ⟨rfl, by omega⟩, h3, h4⟩
theorem seen_skip (h : STS v bs) {i j : Nat} (hij : j < i) (hi : i < bs.length) (hm : ∀ p, ¬ (has bs[i] p ∧ has bs[j] p)) {r : List Int} : SeenP bs i (j + 1) r ↔ SeenP bs i j r := by
  rw [seen_step hij]
  constructor
  · rintro (h1 | ⟨h1, h2, h3⟩)
    · exact h1
    · obtain ⟨p, hp⟩ := pq_meet h hi (show j < bs.length by omega) (by omega) h1 h2 h3
      exact absurd hp (hm p)
  · exact .inl
/-- What the turns have found. -/
def HitT (bs : List B3) (i j c e d f : Int) (turn : Nat) (r : List Int) : Prop := (0 < turn ∧ Hit bs i j c e d f r) ∨ (1 < turn ∧ Hit bs i j c e f d r)
theorem hitT_zero {i j c e d f : Int} {r : List Int} : ¬ HitT bs i j c e d f 0 r := by rintro (⟨h, _⟩ | ⟨h, _⟩) <;> omega
theorem hitT_step {i j c e d f d' f' : Int} {turn : Nat} {r : List Int} (ht : turn < 2) (h0 : turn % 2 = 0 → d' = d ∧ f' = f) (h1 : turn % 2 = 1 → d' = f ∧ f' = d) : HitT bs i j c e d f (turn + 1) r ↔ HitT bs i j c e d f turn r ∨ Hit bs i j c e d' f' r := by
  unfold HitT
  by_cases e0 : turn = 0
  · subst e0
    obtain ⟨rfl, rfl⟩ := h0 rfl
    simp
  · have e1 : turn = 1 := by omega
    subst e1
    obtain ⟨rfl, rfl⟩ := h1 rfl
    simp
theorem hit_eq {i j c e d f : Int} {q r : List Int} (h1 : ¬ third bs c f < 0) (h2 : third bs d e = third bs c f) (hp : q.Perm [i, j, num bs c f, num bs d e]) (hs : q.Pairwise (· ≤ ·)) : Hit bs i j c e d f r ↔ r = q := by
  constructor
  · rintro ⟨_, _, h3, h4⟩
    exact (h3.trans hp.symm).eq_of_pairwise (fun a b _ _ h5 h6 => by omega) h4 hs
  · rintro rfl
    exact ⟨h1, h2, hp, hs⟩
theorem hitT_end {i j c e d f : Int} {turn : Nat} {r : List Int} (ht : 2 ≤ turn) : HitT bs i j c e d f turn r ↔ Hit bs i j c e d f r ∨ Hit bs i j c e f d r := by
  unfold HitT
  have h1 : 0 < turn := by omega
  have h2 : 1 < turn := by omega
  simp [h1, h2]
theorem seen_all {r : List Int} : SeenP bs bs.length 0 r ↔ PQ bs r := by
  constructor
  · exact fun h => h.1
  · intro h
    obtain ⟨i, j, k, m, h1, h2, h3, h4, rfl⟩ := pq_quad h
    exact ⟨h, j, i, h1, .inl (by omega), by simp, by simp⟩
end
end Go.Vc
