/-
  Plain words: masks of points; classes: sets of disjoint blocks that have all points.
-/
import Derived.Test.YtjpfngmoabnffaaPure2
import Derived.Test.YtjpfngmoabnffaaPureRow
set_option linter.unusedVariables false
set_option linter.unusedSimpArgs false
namespace Go.Vc

/-! ### Masks -/
theorem bit_one (m p : Nat) : (m >>> p) &&& 1 = if m.testBit p then 1 else 0 := by
  rw [Nat.and_one_is_mod, Nat.shiftRight_eq_div_pow, Nat.testBit_eq_decide_div_mod_eq]
  have := Nat.mod_two_eq_zero_or_one (m / 2 ^ p)
  rcases this with h | h <;> simp [h]
theorem bit_is (m p : Nat) : (m >>> p) &&& 1 = 1 ↔ m.testBit p = true := by rw [bit_one]; split <;> simp_all
theorem bit_not (m p : Nat) : (m >>> p) &&& 1 = 0 ↔ m.testBit p = false := by rw [bit_one]; split <;> simp_all
def bmask (b : B3) : Nat := 2 ^ b.1.toNat + 2 ^ b.2.1.toNat + 2 ^ b.2.2.toNat
theorem three_bits {x y z : Nat} (h1 : x < y) (h2 : y < z) (i : Nat) : (2 ^ x + 2 ^ y + 2 ^ z).testBit i = decide (i = x ∨ i = y ∨ i = z) := by
  have e1 : 2 ^ x + 2 ^ y + 2 ^ z = 2 ^ z + (2 ^ y + 2 ^ x) := by omega
  have l1 : 2 ^ x < 2 ^ y := Nat.pow_lt_pow_right (by decide) h1
  have l2 : 2 ^ y + 2 ^ x < 2 ^ z := by
    have : 2 ^ (y + 1) ≤ 2 ^ z := Nat.pow_le_pow_right (by decide) h2
    rw [Nat.pow_succ] at this
    omega
  have e2 := Nat.two_pow_add_eq_or_of_lt l2 1
  have e3 := Nat.two_pow_add_eq_or_of_lt l1 1
  rw [Nat.mul_one] at e2 e3
  rw [e1, e2, e3]
  simp only [Nat.testBit_or, Nat.testBit_two_pow]
  by_cases a : i = x <;> by_cases b : i = y <;> by_cases c : i = z <;> simp [a, b, c] <;> omega
theorem bmask_bit {v : Int} {b : B3} (h : good v b) (p : Nat) : (bmask b).testBit p = true ↔ has b (p : Int) := by
  unfold good at h
  unfold bmask has
  rw [three_bits (by omega) (by omega)]
  simp only [decide_eq_true_eq]
  omega
theorem bmask_lt {b : B3} (h : good 15 b) : bmask b < 65536 := by
  unfold good at h
  unfold bmask
  have h1 : 2 ^ b.1.toNat ≤ 2 ^ 14 := Nat.pow_le_pow_right (by decide) (by omega)
  have h2 : 2 ^ b.2.1.toNat ≤ 2 ^ 14 := Nat.pow_le_pow_right (by decide) (by omega)
  have h3 : 2 ^ b.2.2.toNat ≤ 2 ^ 14 := Nat.pow_le_pow_right (by decide) (by omega)
  omega
theorem and_zero {m n : Nat} : m &&& n = 0 ↔ ∀ p, ¬ (m.testBit p = true ∧ n.testBit p = true) := by
  constructor
  · intro h p hp
    have : (m &&& n).testBit p = true := by rw [Nat.testBit_and]; simp [hp]
    rw [h] at this
    simp at this
  · intro h
    apply Nat.eq_of_testBit_eq
    intro p
    rw [Nat.testBit_and]
    have := h p
    cases h1 : m.testBit p <;> cases h2 : n.testBit p <;> simp_all
theorem and_self {m n : Nat} : m &&& n = m ↔ ∀ p, m.testBit p = true → n.testBit p = true := by
  constructor
  · intro h p hp
    rw [← h, Nat.testBit_and] at hp
    simp at hp
    exact hp.2
  · intro h
    apply Nat.eq_of_testBit_eq
    intro p
    rw [Nat.testBit_and]
    have := h p
    cases h1 : m.testBit p <;> cases h2 : n.testBit p <;> simp_all

/-- How many of the first points a mask has. -/
def cov (m : Nat) : Nat → Nat
  | 0 => 0
  | v + 1 => cov m v + (if m.testBit v then 1 else 0)
theorem cov_le (m : Nat) : ∀ v, cov m v ≤ v := by
  intro v
  induction v with
  | zero => simp [cov]
  | succ v ih => simp only [cov]; split <;> omega
theorem cov_all {m : Nat} : ∀ {v : Nat}, cov m v = v ↔ ∀ p, p < v → m.testBit p = true := by
  intro v
  induction v with
  | zero => simp [cov]
  | succ v ih =>
    have := cov_le m v
    simp only [cov]
    constructor
    · intro h p hp
      split at h
      · by_cases e : p = v
        · subst e; assumption
        · exact ih.1 (by omega) p (by omega)
      · omega
    · intro h
      rw [if_pos (h v (by omega)), ih.2 (fun p hp => h p (by omega))]
theorem cov_or {m n : Nat} (h : m &&& n = 0) : ∀ v, cov (m ||| n) v = cov m v + cov n v := by
  intro v
  induction v with
  | zero => rfl
  | succ v ih =>
    have := and_zero.1 h v
    simp only [cov, ih, Nat.testBit_or]
    cases h1 : m.testBit v <;> cases h2 : n.testBit v <;> simp_all <;> omega
theorem cov_three {n x y z : Nat} (h1 : x < y) (h2 : y < z) (hn : ∀ p, n.testBit p = decide (p = x ∨ p = y ∨ p = z)) : ∀ v, cov n v = (if x < v then 1 else 0) + (if y < v then 1 else 0) + (if z < v then 1 else 0) := by
  intro v
  induction v with
  | zero => simp [cov]
  | succ v ih =>
    simp only [cov, ih, hn, decide_eq_true_eq]
    (repeat' split) <;> omega
theorem cov_bmask {v : Int} {b : B3} (h : good v b) : cov (bmask b) v.toNat = 3 := by
  have hb := h
  unfold good at h
  unfold bmask
  rw [cov_three (x := b.1.toNat) (y := b.2.1.toNat) (z := b.2.2.toNat) (by omega) (by omega) (fun p => three_bits (by omega) (by omega) p), if_pos (by omega), if_pos (by omega), if_pos (by omega)]

theorem pow35 {n : Nat} (h : 0 < n) : 35 ^ n = 35 * 35 ^ (n - 1) := by
  cases n with
  | zero => omega
  | succ n => rw [Nat.pow_succ, Nat.mul_comm]; rfl
/-! ### Classes -/
def blk (bs : List B3) (k : Int) : B3 := bs.getD k.toNat (0, 0, 0)
theorem blk_get {bs : List B3} {i : Nat} (h : i < bs.length) : blk bs (i : Int) = bs[i] := by simp [blk, h]
def okIx (bs : List B3) (k : Int) : Prop := 0 ≤ k ∧ k < bs.length
theorem blk_ix {bs : List B3} {k : Int} (h : okIx bs k) : blk bs k = bs[k.toNat]'(by obtain ⟨h1, h2⟩ := h; omega) := by
  obtain ⟨h1, h2⟩ := h
  have h3 : k.toNat < bs.length := by omega
  simp [blk, h3]
theorem blk_mem {bs : List B3} {k : Int} (h : okIx bs k) : blk bs k ∈ bs := by
  obtain ⟨h1, h2⟩ := h
  have h3 : k.toNat < bs.length := by omega
  have : blk bs k = bs[k.toNat] := by simp [blk, h3]
  rw [this]
  exact List.getElem_mem _
def disj (a b : B3) : Prop := ∀ p, ¬ (has a p ∧ has b p)
theorem disj.symm {a b : B3} (h : disj a b) : disj b a := fun p hp => h p ⟨hp.2, hp.1⟩
theorem not_disj_self (a : B3) : ¬ disj a a := fun h => h a.1 ⟨.inl rfl, .inl rfl⟩
/-- Blocks of numbers are disjoint. -/
def Djs (bs : List B3) (r : List Int) : Prop := r.Pairwise fun i j => disj (blk bs i) (blk bs j)
structure Cls (v : Int) (bs : List B3) (r : List Int) : Prop where
  ix : ∀ k ∈ r, okIx bs k
  up : r.Pairwise (· < ·)
  dj : Djs bs r
  all : ∀ p, 0 ≤ p → p < v → ∃ k ∈ r, has (blk bs k) p
structure Part (bs : List B3) (xs : List Int) (m : Nat) : Prop where
  ix : ∀ k ∈ xs, okIx bs k
  dj : Djs bs xs
  pts : ∀ p : Nat, m.testBit p = true ↔ ∃ k ∈ xs, has (blk bs k) (p : Int)
theorem Djs.inj {bs : List B3} {r : List Int} (h : Djs bs r) {i j : Int} (hi : i ∈ r) (hj : j ∈ r) (hne : i ≠ j) : disj (blk bs i) (blk bs j) := by
  induction r with
  | nil => simp at hi
  | cons a r ih =>
    obtain ⟨h1, h2⟩ := List.pairwise_cons.1 h
    rcases List.mem_cons.1 hi with rfl | hi'
    · rcases List.mem_cons.1 hj with rfl | hj'
      · exact absurd rfl hne
      · exact h1 _ hj'
    · rcases List.mem_cons.1 hj with rfl | hj'
      · exact (h1 _ hi').symm
      · exact ih h2 hi' hj'
theorem Djs.nodup {bs : List B3} {r : List Int} (h : Djs bs r) : r.Nodup := List.Pairwise.imp (fun {a b} hd e => by subst e; exact not_disj_self _ hd) h
/-- Two lists that strictly rise and have the same members. -/
theorem rise_unique : ∀ {l m : List Int}, l.Pairwise (· < ·) → m.Pairwise (· < ·) → (∀ r, r ∈ l ↔ r ∈ m) → l = m := by
  intro l
  induction l with
  | nil =>
    intro m _ _ h
    cases m with
    | nil => rfl
    | cons b m => exact absurd ((h b).2 (by simp)) (by simp)
  | cons a l ih =>
    intro m h1 h2 h
    cases m with
    | nil => exact absurd ((h a).1 (by simp)) (by simp)
    | cons b m =>
      obtain ⟨ha, hl⟩ := List.pairwise_cons.1 h1
      obtain ⟨hb, hm⟩ := List.pairwise_cons.1 h2
      have hab : a = b := by
        rcases List.mem_cons.1 ((h a).1 (by simp)) with e | e
        · exact e
        · rcases List.mem_cons.1 ((h b).2 (by simp)) with e' | e'
          · exact e'.symm
          · have := hb a e; have := ha b e'; omega
      subst hab
      rw [ih hl hm]
      intro r
      constructor
      · intro hr
        rcases List.mem_cons.1 ((h r).1 (by simp [hr])) with e | e
        · subst e
          have := ha _ hr; omega
        · exact e
      · intro hr
        rcases List.mem_cons.1 ((h r).2 (by simp [hr])) with e | e
        · subst e
          have := hb _ hr; omega
        · exact e
theorem rise_of {l : List Int} (hs : l.Pairwise (· ≤ ·)) (hn : l.Nodup) : l.Pairwise (· < ·) := by
  have := hs.and hn
  exact this.imp (fun {a b} h => by have := h.1; have := h.2; omega)
theorem good_lt {v : Int} {b : B3} (h : good v b) {p : Int} (hp : has b p) : 0 ≤ p ∧ p < v := by
  unfold good at h
  rcases hp with e | e | e <;> omega

section
variable {v : Int} {bs : List B3} {xs ys : List Int} {m : Nat}
/-- All points are met: one class begins so. -/
theorem cls_full (hb : ∀ b ∈ bs, good v b) (hp : Part bs xs m) (hm : m = 2 ^ v.toNat - 1) (hperm : ys.Perm xs) (hs : ys.Pairwise (· ≤ ·)) (r : List Int) : r = ys ↔ Cls v bs r ∧ ∀ k ∈ xs, k ∈ r := by
  have hup : ys.Pairwise (· < ·) := rise_of hs (hperm.nodup_iff.2 hp.dj.nodup)
  have hall : ∀ p, 0 ≤ p → p < v → ∃ k ∈ xs, has (blk bs k) p := by
    intro p h0 h1
    have h2 : m.testBit p.toNat = true := by rw [hm, Nat.testBit_two_pow_sub_one]; simp; omega
    obtain ⟨k, hk, hk2⟩ := (hp.pts _).1 h2
    exact ⟨k, hk, by rwa [Int.toNat_of_nonneg h0] at hk2⟩
  constructor
  · rintro rfl
    exact ⟨⟨fun k hk => hp.ix k (hperm.mem_iff.1 hk), hup, (hperm.pairwise_iff (fun h => h.symm)).2 hp.dj, fun p h0 h1 => let ⟨k, hk, h⟩ := hall p h0 h1; ⟨k, hperm.mem_iff.2 hk, h⟩⟩, fun k hk => hperm.mem_iff.2 hk⟩
  · rintro ⟨hc, hx⟩
    refine rise_unique hc.up hup (fun k => ?_)
    rw [hperm.mem_iff]
    refine ⟨fun hk => ?_, hx k⟩
    have hg := good_lt (hb _ (blk_mem (hc.ix k hk))) (p := (blk bs k).1) (.inl rfl)
    obtain ⟨j, hj, hj2⟩ := hall _ hg.1 hg.2
    by_cases e : j = k
    · exact e ▸ hj
    · exact absurd ⟨hj2, .inl rfl⟩ (hc.dj.inj (hx j hj) hk e (blk bs k).1)
/-- A block more. -/
theorem part_snoc (hb : ∀ b ∈ bs, good v b) (hp : Part bs xs m) {i : Nat} (hi : i < bs.length) (h0 : bmask bs[i] &&& m = 0) : Part bs (xs ++ [(i : Int)]) (m ||| bmask bs[i]) := by
  have hg := hb _ (List.getElem_mem hi)
  have h0' := and_zero.1 h0
  refine ⟨?_, ?_, ?_⟩
  · intro k hk
    rcases List.mem_append.1 hk with h | h
    · exact hp.ix k h
    · simp at h; subst h; exact ⟨by omega, by omega⟩
  · refine List.pairwise_append.2 ⟨hp.dj, List.pairwise_singleton .., ?_⟩
    intro a ha b hb'
    simp at hb'
    subst hb'
    intro p hpp
    rw [blk_get hi] at hpp
    have hq := good_lt hg hpp.2
    have h1 : m.testBit p.toNat = true := (hp.pts _).2 ⟨a, ha, by rw [Int.toNat_of_nonneg hq.1]; exact hpp.1⟩
    have h2 : (bmask bs[i]).testBit p.toNat = true := (bmask_bit hg _).2 (by rw [Int.toNat_of_nonneg hq.1]; exact hpp.2)
    exact h0' _ ⟨h2, h1⟩
  · intro p
    rw [Nat.testBit_or, Bool.or_eq_true, hp.pts, bmask_bit hg]
    constructor
    · rintro (⟨k, hk, h⟩ | h)
      · exact ⟨k, by simp [hk], h⟩
      · exact ⟨i, by simp, by rw [blk_get hi]; exact h⟩
    · rintro ⟨k, hk, h⟩
      rcases List.mem_append.1 hk with hk | hk
      · exact .inl ⟨k, hk, h⟩
      · simp at hk; subst hk; rw [blk_get hi] at h; exact .inr h
/-- What is found with the first blocks that have a point. -/
def FoundC (v : Int) (bs : List B3) (xs : List Int) (p : Int) (i : Nat) (r : List Int) : Prop := Cls v bs r ∧ (∀ k ∈ xs, k ∈ r) ∧ ∃ j : Nat, j < i ∧ (j : Int) ∈ r ∧ has (blk bs j) p
theorem found_zero {p : Int} {r : List Int} : ¬ FoundC v bs xs p 0 r := by rintro ⟨_, _, j, hj, _⟩; omega
theorem found_skip {p : Int} {i : Nat} {r : List Int} (h : ∀ r, ¬ (Cls v bs r ∧ (∀ k ∈ xs, k ∈ r) ∧ (i : Int) ∈ r ∧ has (blk bs i) p)) : FoundC v bs xs p (i + 1) r ↔ FoundC v bs xs p i r := by
  constructor
  · rintro ⟨h1, h2, j, hj, h3, h4⟩
    by_cases e : j = i
    · subst e
      exact absurd ⟨h1, h2, h3, h4⟩ (h r)
    · exact ⟨h1, h2, j, by omega, h3, h4⟩
  · rintro ⟨h1, h2, j, hj, h3⟩
    exact ⟨h1, h2, j, by omega, h3⟩
theorem found_succ {p : Int} {i : Nat} {r : List Int} (hh : has (blk bs i) p) : FoundC v bs xs p (i + 1) r ↔ FoundC v bs xs p i r ∨ (Cls v bs r ∧ ∀ k ∈ xs ++ [(i : Int)], k ∈ r) := by
  constructor
  · rintro ⟨h1, h2, j, hj, h3, h4⟩
    by_cases e : j = i
    · subst e
      refine .inr ⟨h1, fun k hk => ?_⟩
      rcases List.mem_append.1 hk with h | h
      · exact h2 k h
      · simp at h; subst h; exact h3
    · exact .inl ⟨h1, h2, j, by omega, h3, h4⟩
  · rintro (⟨h1, h2, j, hj, h3⟩ | ⟨h1, h2⟩)
    · exact ⟨h1, h2, j, by omega, h3⟩
    · exact ⟨h1, fun k hk => h2 k (by simp [hk]), i, by omega, h2 i (by simp), hh⟩
theorem found_all {p : Nat} (hv : (p : Int) < v) {r : List Int} : FoundC v bs xs (p : Int) bs.length r ↔ Cls v bs r ∧ ∀ k ∈ xs, k ∈ r := by
  constructor
  · rintro ⟨h1, h2, _⟩
    exact ⟨h1, h2⟩
  · rintro ⟨h1, h2⟩
    obtain ⟨k, hk, h3⟩ := h1.all p (by omega) hv
    have hk2 := h1.ix k hk
    have hk3 : ((k.toNat : Nat) : Int) = k := Int.toNat_of_nonneg hk2.1
    exact ⟨h1, h2, k.toNat, by have := hk2.2; omega, by rw [hk3]; exact hk, by rw [hk3]; exact h3⟩
/-- A block that meets those there are leads nowhere. -/
theorem found_meets (hb : ∀ b ∈ bs, good v b) (hp : Part bs xs m) {p i : Nat} (hi : i < bs.length) (hpm : m.testBit p = false) (h0 : ¬ bmask bs[i] &&& m = 0) (r : List Int) : ¬ (Cls v bs r ∧ (∀ k ∈ xs, k ∈ r) ∧ (i : Int) ∈ r ∧ has (blk bs i) (p : Int)) := by
  rintro ⟨h1, h2, h3, h4⟩
  apply h0
  rw [and_zero]
  rintro q ⟨hq1, hq2⟩
  have hg := hb _ (List.getElem_mem hi)
  obtain ⟨k, hk, hk2⟩ := (hp.pts q).1 hq2
  have hq3 := (bmask_bit hg q).1 hq1
  by_cases e : k = (i : Int)
  · subst e
    have : m.testBit p = true := (hp.pts p).2 ⟨_, hk, h4⟩
    rw [hpm] at this
    cases this
  · exact h1.dj.inj (h2 k hk) h3 e _ ⟨hk2, by rw [blk_get hi]; exact hq3⟩
theorem part_nil : Part bs [] 0 := ⟨by simp, List.Pairwise.nil, by simp⟩
/-- Points are left. -/
theorem part_left (hb : ∀ b ∈ bs, good v b) (hp : Part bs xs m) (hm : ¬ m = 2 ^ v.toNat - 1) {p : Nat} (h : ∀ q, q < p → m.testBit q = true) : (p : Int) < v := by
  rcases Int.lt_or_le (p : Int) v with h1 | h1
  · exact h1
  · exfalso
    apply hm
    apply Nat.eq_of_testBit_eq
    intro q
    rw [Nat.testBit_two_pow_sub_one]
    by_cases hq : q < v.toNat
    · rw [h q (by omega)]; simp [hq]
    · simp only [hq, decide_false]
      cases hc : m.testBit q with
      | false => rfl
      | true =>
        obtain ⟨k, hk, hk2⟩ := (hp.pts q).1 hc
        have := good_lt (hb _ (blk_mem (hp.ix k hk))) hk2
        omega
theorem part_pos (hb : ∀ b ∈ bs, good v b) (hp : Part bs xs m) (hm : ¬ m = 2 ^ v.toNat - 1) (hv : 0 ≤ v) : cov m v.toNat < v.toNat := by
  have h1 := cov_le m v.toNat
  rcases Nat.lt_or_ge (cov m v.toNat) v.toNat with h | h
  · exact h
  · have h2 := cov_all.1 (Nat.le_antisymm h1 h)
    have := part_left hb hp hm h2
    omega
theorem cov_snoc (hb : ∀ b ∈ bs, good v b) {i : Nat} (hi : i < bs.length) (h0 : bmask bs[i] &&& m = 0) : cov (m ||| bmask bs[i]) v.toNat = cov m v.toNat + 3 := by
  rw [cov_or (by rw [Nat.and_comm]; exact h0), cov_bmask (hb _ (List.getElem_mem hi))]
theorem mask_inside (hb : ∀ b ∈ bs, good v b) {i : Nat} (hi : i < bs.length) : bmask bs[i] &&& (2 ^ v.toNat - 1) = bmask bs[i] := by
  rw [and_self]
  intro p hp
  have hg := hb _ (List.getElem_mem hi)
  have := good_lt hg ((bmask_bit hg p).1 hp)
  rw [Nat.testBit_two_pow_sub_one]
  simp
  omega
end

/-! ### Extensions: sets of so many disjoint blocks that begin with some -/
def meets (b c : B3) : Prop := has c b.1 ∨ has c b.2.1 ∨ has c b.2.2
instance (b c : B3) : Decidable (meets b c) := inferInstanceAs (Decidable (_ ∨ _ ∨ _))
theorem meets_disj {b c : B3} : ¬ meets b c ↔ disj b c := by
  unfold meets disj
  constructor
  · intro h p ⟨h1, h2⟩
    rcases h1 with e | e | e
    · exact h (.inl (e ▸ h2))
    · exact h (.inr (.inl (e ▸ h2)))
    · exact h (.inr (.inr (e ▸ h2)))
  · intro h h'
    rcases h' with e | e | e
    · exact h _ ⟨.inl rfl, e⟩
    · exact h _ ⟨.inr (.inl rfl), e⟩
    · exact h _ ⟨.inr (.inr rfl), e⟩
structure Dj (bs : List B3) (r : List Int) : Prop where
  ix : ∀ k ∈ r, okIx bs k
  up : r.Pairwise (· < ·)
  dj : Djs bs r
def Ext (bs : List B3) (now : List Int) (many : Nat) (r : List Int) : Prop := Dj bs r ∧ now <+: r ∧ r.length = many
def ExtB (bs : List B3) (now : List Int) (many i : Nat) (r : List Int) : Prop := Ext bs now many r ∧ ∃ j : Nat, j < i ∧ (now ++ [(j : Int)]) <+: r
section
variable {bs : List B3} {now : List Int} {many i : Nat}
theorem ext_self (h : Dj bs now) (hl : now.length = many) : IsList (Ext bs now many) [now] := by
  refine ⟨List.pairwise_singleton .., fun r => ?_⟩
  rw [List.mem_singleton]
  constructor
  · rintro rfl
    exact ⟨h, List.prefix_refl _, hl⟩
  · rintro ⟨_, h2, h3⟩
    exact (h2.eq_of_length (by omega)).symm
/-- Where the search begins. -/
def fromOf (now : List Int) : Int := match now.getLast? with | some k => k + 1 | none => 0
theorem fromOf_pos {now : List Int} (h : 0 < now.length) : fromOf now = now[now.length - 1] + 1 := by
  unfold fromOf
  rw [List.getLast?_eq_getElem?, List.getElem?_eq_getElem (by omega)]
theorem fromOf_nil {now : List Int} (h : now.length = 0) : fromOf now = 0 := by
  have := List.eq_nil_of_length_eq_zero h
  subst this
  rfl
theorem fromOf_nonneg (h : Dj bs now) : 0 ≤ fromOf now ∧ fromOf now ≤ bs.length := by
  rcases Nat.eq_zero_or_pos now.length with h1 | h1
  · rw [fromOf_nil h1]; omega
  · rw [fromOf_pos h1]
    have := h.ix _ (List.getElem_mem (l := now) (n := now.length - 1) (by omega))
    unfold okIx at this
    omega
theorem last_lt (h : now.Pairwise (· < ·)) {j : Int} : (now ++ [j]).Pairwise (· < ·) ↔ (0 < now.length → fromOf now ≤ j) := by
  rw [List.pairwise_append]
  constructor
  · rintro ⟨_, _, h3⟩ hp
    rw [fromOf_pos hp]
    have := h3 _ (List.getElem_mem (l := now) (n := now.length - 1) (by omega)) j (by simp)
    omega
  · intro h2
    refine ⟨h, List.pairwise_singleton .., ?_⟩
    intro a ha b hb
    simp at hb
    subst hb
    obtain ⟨k, hk, rfl⟩ := List.getElem_of_mem ha
    have h3 := h2 (by omega)
    rw [fromOf_pos (by omega)] at h3
    by_cases e : k = now.length - 1
    · subst e; omega
    · have := List.pairwise_iff_getElem.1 h k (now.length - 1) hk (by omega) (by omega)
      omega
theorem extB_from (h : Dj bs now) {f : Nat} (hf : (f : Int) = fromOf now) {r : List Int} : ¬ ExtB bs now many f r := by
  rintro ⟨⟨h1, _, _⟩, j, hj, h2⟩
  have h3 := h1.up.sublist h2.sublist
  have h4 := (last_lt h.up).1 h3
  rcases Nat.eq_zero_or_pos now.length with h5 | h5
  · rw [fromOf_nil h5] at hf; omega
  · have := h4 h5; omega
theorem dj_snoc (h : Dj bs now) (hi : i < bs.length) (hf : fromOf now ≤ i) (hm : ∀ k ∈ now, ¬ meets (blk bs k) (blk bs i)) : Dj bs (now ++ [(i : Int)]) := by
  refine ⟨fun k hk => ?_, (last_lt h.up).2 (fun _ => hf), ?_⟩
  · rcases List.mem_append.1 hk with h1 | h1
    · exact h.ix k h1
    · simp at h1; subst h1; exact ⟨by omega, by omega⟩
  · refine List.pairwise_append.2 ⟨h.dj, List.pairwise_singleton .., ?_⟩
    intro a ha b hb
    simp at hb
    subst hb
    exact meets_disj.1 (hm a ha)
theorem extB_skip (h : ∃ k ∈ now, meets (blk bs k) (blk bs i)) (hn : ∀ k ∈ now, k < i) {r : List Int} : ExtB bs now many (i + 1) r ↔ ExtB bs now many i r := by
  constructor
  · rintro ⟨h1, j, hj, h2⟩
    refine ⟨h1, j, ?_, h2⟩
    by_cases e : j = i
    · subst e
      exfalso
      obtain ⟨k, hk, hm⟩ := h
      have h3 := h1.1.dj.sublist h2.sublist
      have h4 := (List.pairwise_append.1 h3).2.2 k hk j (by simp)
      exact meets_disj.2 h4 hm
    · omega
  · rintro ⟨h1, j, hj, h2⟩
    exact ⟨h1, j, by omega, h2⟩
theorem extB_succ {r : List Int} : ExtB bs now many (i + 1) r ↔ ExtB bs now many i r ∨ Ext bs (now ++ [(i : Int)]) many r := by
  constructor
  · rintro ⟨h1, j, hj, h2⟩
    by_cases e : j = i
    · subst e
      exact .inr ⟨h1.1, h2, h1.2.2⟩
    · exact .inl ⟨h1, j, by omega, h2⟩
  · rintro (⟨h1, j, hj, h2⟩ | ⟨h1, h2, h3⟩)
    · exact ⟨h1, j, by omega, h2⟩
    · exact ⟨⟨h1, (List.prefix_append _ _).trans h2, h3⟩, i, by omega, h2⟩
theorem ltL_prefix {now a b : List Int} {i j : Int} (hij : j < i) (ha : (now ++ [j]) <+: a) (hb : (now ++ [i]) <+: b) : ltL a b := by
  obtain ⟨a', rfl⟩ := ha
  obtain ⟨b', rfl⟩ := hb
  induction now with
  | nil => exact ltL_cons.2 (.inl hij)
  | cons x now ih => exact ltL_cons.2 (.inr ⟨rfl, ih⟩)
theorem extB_list {ls ls' : List (List Int)} (h1 : IsList (ExtB bs now many i) ls) (h2 : IsList (Ext bs (now ++ [(i : Int)]) many) ls') : IsList (ExtB bs now many (i + 1)) (ls ++ ls') := by
  refine ⟨List.pairwise_append.2 ⟨h1.1, h2.1, ?_⟩, fun r => ?_⟩
  · intro a ha b hb
    obtain ⟨_, j, hj, h3⟩ := (h1.2 a).1 ha
    exact ltL_prefix (by omega) h3 ((h2.2 b).1 hb).2.1
  · rw [List.mem_append, h1.2, h2.2, extB_succ]
theorem extB_all (hn : now.length < many) {r : List Int} : ExtB bs now many bs.length r ↔ Ext bs now many r := by
  constructor
  · exact fun h => h.1
  · rintro ⟨h1, h2, h3⟩
    refine ⟨⟨h1, h2, h3⟩, ?_⟩
    obtain ⟨t, rfl⟩ := h2
    cases t with
    | nil => simp at h3; omega
    | cons k t =>
      have hk := h1.ix k (by simp)
      have hk3 : ((k.toNat : Nat) : Int) = k := Int.toNat_of_nonneg hk.1
      refine ⟨k.toNat, by have := hk.2; omega, ?_⟩
      rw [hk3]
      exact ⟨t, by simp⟩
theorem below_from (h : Dj bs now) {j : Int} (hf : fromOf now ≤ j) : ∀ k ∈ now, k < j := by
  intro k hk
  have h1 := (last_lt h.up (j := j)).2 (fun _ => hf)
  exact (List.pairwise_append.1 h1).2.2 k hk j (by simp)
theorem dj_nil : Dj bs [] := ⟨by simp, List.Pairwise.nil, List.Pairwise.nil⟩
/-- The mask of a set of blocks. -/
def maskOf (bs : List B3) : List Int → Nat
  | [] => 0
  | k :: r => bmask (blk bs k) ||| maskOf bs r
theorem maskOf_bit {v : Int} (hb : ∀ b ∈ bs, good v b) {r : List Int} (hr : ∀ k ∈ r, okIx bs k) (p : Nat) : (maskOf bs r).testBit p = true ↔ ∃ k ∈ r, has (blk bs k) (p : Int) := by
  induction r with
  | nil => simp [maskOf]
  | cons k r ih =>
    simp only [maskOf, Nat.testBit_or, Bool.or_eq_true, ih (fun k hk => hr k (by simp [hk])), bmask_bit (hb _ (blk_mem (hr k (by simp)))), List.mem_cons]
    constructor
    · rintro (h | ⟨j, hj, h⟩)
      · exact ⟨k, .inl rfl, h⟩
      · exact ⟨j, .inr hj, h⟩
    · rintro ⟨j, rfl | hj, h⟩
      · exact .inl h
      · exact .inr ⟨j, hj, h⟩
theorem maskOf_cov {v : Int} (hb : ∀ b ∈ bs, good v b) {r : List Int} (hr : ∀ k ∈ r, okIx bs k) (hd : Djs bs r) : cov (maskOf bs r) v.toNat = 3 * r.length := by
  induction r with
  | nil =>
    have : ∀ n, cov 0 n = 0 := by
      intro n
      induction n with
      | zero => rfl
      | succ n ih => simp [cov, ih]
    simp [maskOf, this]
  | cons k r ih =>
    obtain ⟨h1, h2⟩ := List.pairwise_cons.1 hd
    have hr' : ∀ k ∈ r, okIx bs k := fun k hk => hr k (by simp [hk])
    have hk := hb _ (blk_mem (hr k (by simp)))
    have h0 : bmask (blk bs k) &&& maskOf bs r = 0 := by
      rw [and_zero]
      rintro p ⟨hp1, hp2⟩
      obtain ⟨j, hj, h3⟩ := (maskOf_bit hb hr' p).1 hp2
      exact h1 j hj _ ⟨(bmask_bit hk p).1 hp1, h3⟩
    simp only [maskOf, cov_or h0, ih hr' h2, cov_bmask hk, List.length_cons]
    omega
/-- Classes are the sets of a third of the points as many disjoint blocks. -/
theorem cls_count {v : Int} (hb : ∀ b ∈ bs, good v b) (hv : 0 ≤ v) (r : List Int) : Cls v bs r ↔ Dj bs r ∧ 3 * r.length = v.toNat := by
  have key : ∀ h : Dj bs r, (3 * r.length = v.toNat ↔ ∀ p : Int, 0 ≤ p → p < v → ∃ k ∈ r, has (blk bs k) p) := by
    intro h
    rw [← maskOf_cov hb h.ix h.dj, cov_all]
    constructor
    · intro h1 p h2 h3
      have := (maskOf_bit hb h.ix _).1 (h1 p.toNat (by omega))
      rwa [Int.toNat_of_nonneg h2] at this
    · intro h1 p hp
      exact (maskOf_bit hb h.ix p).2 (h1 p (by omega) (by omega))
  constructor
  · intro h
    have hd : Dj bs r := ⟨h.ix, h.up, h.dj⟩
    exact ⟨hd, (key hd).2 h.all⟩
  · rintro ⟨hd, h2⟩
    exact ⟨hd.ix, hd.up, hd.dj, (key hd).1 h2⟩
theorem cls_ext {v : Int} (hb : ∀ b ∈ bs, good v b) (hv : 0 ≤ v) (h3 : v % 3 = 0) {l : List (List Int)} (h : IsList (Ext bs [] (v / 3).toNat) l) : IsList (Cls v bs) l := by
  refine ⟨h.1, fun r => ?_⟩
  rw [h.2 r, cls_count hb hv]
  unfold Ext
  simp only [List.nil_prefix, true_and]
  constructor
  · rintro ⟨h1, h2⟩
    exact ⟨h1, by omega⟩
  · rintro ⟨h1, h2⟩
    exact ⟨h1, by omega⟩
theorem cls_none {v : Int} (hb : ∀ b ∈ bs, good v b) (hv : 0 ≤ v) (h3 : ¬ v % 3 = 0) : IsList (Cls v bs) [] := by
  refine ⟨List.Pairwise.nil, fun r => ?_⟩
  rw [cls_count hb hv]
  simp
  intro _
  omega
end
end Go.Vc
