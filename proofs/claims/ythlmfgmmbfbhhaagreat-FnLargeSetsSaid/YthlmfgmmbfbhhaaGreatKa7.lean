/-
  The calculus and plain words, part 7.
-/
import Derived.Test.YthlmfgmmbfbhhaaGreatKa6
set_option linter.unusedVariables false
set_option linter.unusedSimpArgs false
/-
  Plain words: families of systems of nine points that are apart, each system as the bits of its blocks.
-/
namespace Go.Vc
/-! ### Bits -/
/-- The first bit that is not set. -/
def pivD (D : Nat) : Nat := ((List.range 84).find? fun n => !D.testBit n).getD 84
theorem pivD_spec {D n : Nat} (hn : n < 84) (h1 : D.testBit n = false) : pivD D ≤ n ∧ D.testBit (pivD D) = false ∧ ∀ j, j < pivD D → D.testBit j = true := by
  obtain ⟨m, hm⟩ : ∃ m, (List.range 84).find? (fun n => !D.testBit n) = some m := by
    cases h : (List.range 84).find? (fun n => !D.testBit n) with
    | some m => exact ⟨m, rfl⟩
    | none =>
      rw [List.find?_eq_none] at h
      have := h n (List.mem_range.2 hn)
      rw [h1] at this
      simp at this
  have e : pivD D = m := by unfold pivD; rw [hm]; rfl
  rw [List.find?_range_eq_some] at hm
  rw [e]
  refine ⟨?_, by simpa using hm.1, fun j hj => by simpa using hm.2.2 j hj⟩
  apply Decidable.byContradiction
  intro hc
  have := hm.2.2 n (by omega)
  rw [h1] at this
  simp at this
theorem land_bits {a b : Nat} : a &&& b = 0 ↔ ∀ j, ¬ (a.testBit j = true ∧ b.testBit j = true) := by
  constructor
  · intro h j hj
    have h2 : (a &&& b).testBit j = true := by rw [Nat.testBit_and, hj.1, hj.2]; rfl
    rw [h, Nat.zero_testBit] at h2
    cases h2
  · intro h
    apply Nat.eq_of_testBit_eq
    intro j
    rw [Nat.testBit_and, Nat.zero_testBit]
    have := h j
    cases ha : a.testBit j <;> cases hb : b.testBit j <;> simp_all
/-- Two words. -/
theorem land_words {a b k : Nat} : a &&& b = 0 ↔ (a % 2 ^ k) &&& (b % 2 ^ k) = 0 ∧ (a / 2 ^ k) &&& (b / 2 ^ k) = 0 := by
  rw [land_bits, land_bits, land_bits]
  constructor
  · intro h
    refine ⟨fun j hj => ?_, fun j hj => ?_⟩
    · rw [Nat.testBit_mod_two_pow, Nat.testBit_mod_two_pow] at hj
      simp only [Bool.and_eq_true, decide_eq_true_eq] at hj
      exact h j ⟨hj.1.2, hj.2.2⟩
    · rw [Nat.testBit_div_two_pow, Nat.testBit_div_two_pow] at hj
      exact h _ hj
  · rintro ⟨h1, h2⟩ j hj
    by_cases hk : j < k
    · refine h1 j ?_
      rw [Nat.testBit_mod_two_pow, Nat.testBit_mod_two_pow]
      simp [hk, hj.1, hj.2]
    · refine h2 (j - k) ?_
      rw [Nat.testBit_div_two_pow, Nat.testBit_div_two_pow, show j - k + k = j by omega]
      exact hj
theorem lor_mod {a b k : Nat} : (a ||| b) % 2 ^ k = (a % 2 ^ k) ||| (b % 2 ^ k) := by
  apply Nat.eq_of_testBit_eq
  intro j
  simp only [Nat.testBit_or, Nat.testBit_mod_two_pow]
  cases decide (j < k) <;> simp
theorem lor_div {a b k : Nat} : (a ||| b) / 2 ^ k = (a / 2 ^ k) ||| (b / 2 ^ k) := by
  apply Nat.eq_of_testBit_eq
  intro j
  simp only [Nat.testBit_or, Nat.testBit_div_two_pow]
/-! ### How many bits -/
def onesR (n D : Nat) : Nat := ((List.range n).filter fun j => D.testBit j).length
theorem ones_or {a b : Nat} (h : a &&& b = 0) (n : Nat) : onesR n (a ||| b) = onesR n a + onesR n b := by
  unfold onesR
  have hb := land_bits.1 h
  induction n with
  | zero => rfl
  | succ n ih =>
    rw [List.range_succ, List.filter_append, List.filter_append, List.filter_append, List.length_append, List.length_append, List.length_append, ih]
    have := hb n
    simp only [List.filter_cons, List.filter_nil, Nat.testBit_or]
    cases ha : a.testBit n <;> cases hbb : b.testBit n <;> simp_all <;> omega
theorem ones_all {D n : Nat} (h : n ≤ onesR n D) : ∀ j, j < n → D.testBit j = true := by
  intro j hj
  unfold onesR at h
  have h1 : (List.range n).filter (fun j => D.testBit j) = List.range n := by
    apply List.filter_sublist.eq_of_length
    have := List.length_filter_le (fun j => D.testBit j) (List.range n)
    simp only [List.length_range] at *
    omega
  have h2 : j ∈ (List.range n).filter fun j => D.testBit j := by rw [h1]; exact List.mem_range.2 hj
  exact (List.mem_filter.1 h2).2
theorem ones_not {D n : Nat} (h : onesR n D < n) : ∃ j, j < n ∧ D.testBit j = false := by
  apply Classical.byContradiction
  intro hc
  have h1 : ∀ j, j < n → D.testBit j = true := by
    intro j hj
    cases hd : D.testBit j with
    | true => rfl
    | false => exact absurd ⟨j, hj, hd⟩ hc
  have h2 : (List.range n).filter (fun j => D.testBit j) = List.range n := List.filter_eq_self.2 fun j hj => h1 j (List.mem_range.1 hj)
  unfold onesR at h
  rw [h2, List.length_range] at h
  omega
/-! ### The families -/
/-- What is asked of the systems: each has one of the first seven bits, in this order, and 12 of 84 bits. -/
structure Nines (ms : List Nat) : Prop where
  len : ms.length = 840
  lt : ∀ i (h : i < ms.length), ms[i] < 2 ^ 84
  piv : ∀ i (h : i < ms.length), ms[i] % 128 = 2 ^ (i / 120)
  ones : ∀ i (h : i < ms.length), onesR 84 ms[i] = 12
  dif : ms.Nodup
/-- Systems that go on: the next one has the first bit that is missing, and is apart. -/
def nextF (D S : Nat) : Prop := S.testBit (pivD D) = true ∧ S &&& D = 0
instance (D S : Nat) : Decidable (nextF D S) := inferInstanceAs (Decidable (_ ∧ _))
def famT (ms : List Nat) : Nat → List Int → Nat → List (List Int)
  | 0, now, D => [now]
  | k + 1, now, D => (List.range ms.length).flatMap fun i => if nextF D (ms.getD i 0) then famT ms k (now ++ [(i : Int)]) (D ||| ms.getD i 0) else []
/-- What is there, when k systems are missing. -/
structure Fam (k D : Nat) : Prop where
  k6 : k ≤ 6
  lt : D < 2 ^ 84
  o7 : onesR 7 D = 7 - k
  o84 : onesR 84 D = 12 * (7 - k)
section
variable {ms : List Nat} {D k i j n : Nat} {now : List Int}
theorem mod_bit {a : Nat} (hj : j < 7) : a.testBit j = (a % 128).testBit j := by
  rw [show (128 : Nat) = 2 ^ 7 from rfl, Nat.testBit_mod_two_pow]
  simp [hj]
theorem Nines.bit (h : Nines ms) (hi : i < ms.length) (hj : j < 7) : ms[i].testBit j = decide (j = i / 120) := by
  rw [mod_bit hj, h.piv i hi, Nat.testBit_two_pow]
  by_cases e : i / 120 = j
  · simp [e]
  · simp [e, Ne.symm e]
theorem ones7_mod {a : Nat} : onesR 7 a = onesR 7 (a % 128) := by
  unfold onesR
  congr 1
  apply List.filter_congr
  intro j hj
  exact mod_bit (List.mem_range.1 hj)
theorem ones7_pow : ∀ c, c < 7 → onesR 7 (2 ^ c) = 1 := by decide
theorem Nines.o7 (h : Nines ms) (hi : i < ms.length) : onesR 7 ms[i] = 1 := by
  rw [ones7_mod, h.piv i hi]
  exact ones7_pow _ (by have := h.len; omega)
theorem Nines.fam (h : Nines ms) (hi : i < ms.length) : Fam 6 ms[i] := ⟨Nat.le_refl _, h.lt i hi, h.o7 hi, h.ones i hi⟩
theorem Fam.piv (h : Fam k D) (hk : 0 < k) : pivD D < 7 ∧ D.testBit (pivD D) = false ∧ ∀ j, j < pivD D → D.testBit j = true := by
  have h1 := h.o7
  obtain ⟨j, hj, hb⟩ := ones_not (n := 7) (D := D) (by omega)
  have := pivD_spec (by omega : j < 84) hb
  exact ⟨by omega, this.2⟩
theorem Fam.step (hn : Nines ms) (h : Fam (k + 1) D) (hi : i < ms.length) (hx : nextF D ms[i]) : Fam k (D ||| ms[i]) := by
  have hand : D &&& ms[i] = 0 := by rw [Nat.and_comm]; exact hx.2
  have hk := h.k6
  have h7 := h.o7
  have h8 := h.o84
  have h9 := hn.o7 hi
  have h10 := hn.ones i hi
  refine ⟨by omega, Nat.or_lt_two_pow h.lt (hn.lt i hi), ?_, ?_⟩
  · rw [ones_or hand]; omega
  · rw [ones_or hand]; omega
/-- The next one's number tells which of the first bits it has. -/
theorem next_piv (hn : Nines ms) (h : Fam (k + 1) D) (hi : i < ms.length) (hx : nextF D ms[i]) : i / 120 = pivD D := by
  have h1 := h.piv (by omega)
  have h2 := hx.1
  rw [hn.bit hi h1.1] at h2
  exact (of_decide_eq_true h2).symm
theorem piv_up (hn : Nines ms) (h : Fam (k + 2) D) (hi : i < ms.length) (hx : nextF D ms[i]) : pivD D < pivD (D ||| ms[i]) := by
  have h1 := h.piv (by omega)
  have h2 := (Fam.step hn h hi hx).piv (by omega)
  apply Decidable.byContradiction
  intro hc
  have h3 : (D ||| ms[i]).testBit (pivD (D ||| ms[i])) = true := by
    rw [Nat.testBit_or]
    by_cases e : pivD (D ||| ms[i]) = pivD D
    · rw [e, hx.1, Bool.or_true]
    · rw [h1.2.2 _ (by omega), Bool.true_or]
  rw [h2.2.1] at h3
  cases h3
/-- Those that come ahead are of no use any more. -/
theorem next_from (hn : Nines ms) (h : Fam (k + 2) D) (hi : i < ms.length) (hx : nextF D ms[i]) {i' : Nat} (hi' : i' ≤ i) : ¬ nextF (D ||| ms[i]) (ms[i']'(by omega)) := by
  intro hc
  have h1 := next_piv hn h hi hx
  have h2 := next_piv hn (Fam.step hn h hi hx) (by omega) hc
  have h3 := piv_up hn h hi hx
  have : i' / 120 ≤ i / 120 := Nat.div_le_div_right hi'
  omega
/-- The last one is the only one. -/
theorem last_one (hn : Nines ms) (h : Fam 1 D) (hi : i < ms.length) (hj : j < ms.length) (hx : nextF D ms[i]) (hy : nextF D ms[j]) : i = j := by
  have key : ∀ i (hi : i < ms.length), nextF D ms[i] → ∀ b, b < 84 → ms[i].testBit b = !D.testBit b := by
    intro i hi hx b hb
    have h1 := (Fam.step hn h hi hx).o84
    have h2 := ones_all (D := D ||| ms[i]) (n := 84) (by omega) b hb
    rw [Nat.testBit_or] at h2
    have h3 := land_bits.1 hx.2 b
    cases hd : D.testBit b <;> cases hm : ms[i].testBit b <;> simp_all
  have e : ms[i] = ms[j] := by
    apply Nat.eq_of_testBit_eq
    intro b
    by_cases hb : b < 84
    · rw [key i hi hx b hb, key j hj hy b hb]
    · have hp : 2 ^ 84 ≤ 2 ^ b := Nat.pow_le_pow_right (by decide) (by omega)
      rw [Nat.testBit_lt_two_pow (by have := hn.lt i hi; omega), Nat.testBit_lt_two_pow (by have := hn.lt j hj; omega)]
  exact (List.getElem_inj hn.dif).1 e
/-! ### How many -/
/-- Of the systems with a bit, those that are apart from a system are 32 at most. -/
def Few32 (ms : List Nat) : Prop := ∀ X ∈ ms, ∀ n, n < 7 → (ms.filter fun S => S.testBit n && (S &&& X == 0)).length ≤ 32
theorem fam_step : famT ms (k + 1) now D = (List.range ms.length).flatMap fun i => if nextF D (ms.getD i 0) then famT ms k (now ++ [(i : Int)]) (D ||| ms.getD i 0) else [] := rfl
theorem flat_lenF {α : Type} {p : Nat → Prop} [DecidablePred p] {f : Nat → List α} {K : Nat} : ∀ l : List Nat, (∀ c ∈ l, p c → (f c).length ≤ K) → (l.flatMap fun c => if p c then f c else []).length ≤ (l.filter fun c => decide (p c)).length * K := by
  intro l
  induction l with
  | nil => intro _; simp
  | cons c l ih =>
    intro h
    have h1 := ih (fun d hd => h d (by simp [hd]))
    rw [List.flatMap_cons, List.length_append, List.filter_cons]
    by_cases hp : p c
    · have := h c (by simp) hp
      rw [if_pos hp, if_pos (by simpa using hp), List.length_cons, Nat.add_mul]
      omega
    · rw [if_neg hp, if_neg (by simpa using hp)]
      simpa using h1
theorem sub_land {X D S : Nat} (hX : X &&& D = X) (h : S &&& D = 0) : S &&& X = 0 := by
  rw [land_bits] at h ⊢
  intro j hj
  refine h j ⟨hj.1, ?_⟩
  have : (X &&& D).testBit j = true := by rw [hX]; exact hj.2
  rw [Nat.testBit_and] at this
  simp only [Bool.and_eq_true] at this
  exact this.2
theorem sub_or {X D S : Nat} (hX : X &&& D = X) : X &&& (D ||| S) = X := by
  apply Nat.eq_of_testBit_eq
  intro j
  have h : (X &&& D).testBit j = X.testBit j := by rw [hX]
  rw [Nat.testBit_and] at h ⊢
  rw [Nat.testBit_or]
  cases hx : X.testBit j <;> simp_all
theorem nodup_1F {l : List Nat} (h1 : l.Nodup) (h2 : ∀ x ∈ l, ∀ y ∈ l, x = y) : l.length ≤ 1 := by
  match l, h1, h2 with
  | [], _, _ => simp
  | [a], _, _ => simp
  | a :: b :: l, h1, h2 =>
    have := h2 a (by simp) b (by simp)
    subst this
    simp at h1
theorem fam_bound (hn : Nines ms) (hf : Few32 ms) {X : Nat} (hX : X ∈ ms) : ∀ k D now, Fam k D → X &&& D = X → (famT ms k now D).length ≤ 32 ^ (k - 1) := by
  intro k
  induction k with
  | zero => intro D now h _; simp [famT]
  | succ k ih =>
    intro D now h hXD
    rw [fam_step]
    have hp := h.piv (by omega)
    have hat : ∀ i (hi : i < ms.length), ms.getD i 0 = ms[i] := fun i hi => by simp [hi]
    have h1 := flat_lenF (p := fun i => nextF D (ms.getD i 0)) (f := fun i => famT ms k (now ++ [(i : Int)]) (D ||| ms.getD i 0)) (K := 32 ^ (k - 1)) (List.range ms.length) (fun i hi hx => by
      have hi := List.mem_range.1 hi
      rw [hat i hi] at hx ⊢
      exact ih _ _ (Fam.step hn h hi hx) (sub_or hXD))
    refine Nat.le_trans h1 ?_
    cases k with
    | zero =>
      have h2 : ((List.range ms.length).filter fun i => decide (nextF D (ms.getD i 0))).length ≤ 1 := nodup_1F (List.nodup_range.filter _) (fun x hx y hy => by
        obtain ⟨hx1, hx2⟩ := List.mem_filter.1 hx
        obtain ⟨hy1, hy2⟩ := List.mem_filter.1 hy
        have hx1 := List.mem_range.1 hx1
        have hy1 := List.mem_range.1 hy1
        rw [hat _ hx1, decide_eq_true_eq] at hx2
        rw [hat _ hy1, decide_eq_true_eq] at hy2
        exact last_one hn h hx1 hy1 hx2 hy2)
      simpa using h2
    | succ k =>
      have h2 : ((List.range ms.length).filter fun i => decide (nextF D (ms.getD i 0))).length ≤ 32 := by
        refine Nat.le_trans ?_ (hf X hX (pivD D) hp.1)
        rw [← List.length_map (f := fun i => ms.getD i 0)]
        refine len_sub _ _ ?_ (fun S hS => ?_)
        · rw [List.nodup_iff_pairwise_ne, List.pairwise_map]
          refine ((List.nodup_iff_pairwise_ne.1 (List.nodup_range.filter _)).imp_of_mem fun {a b} ha hb hab => ?_)
          have ha := List.mem_range.1 (List.mem_filter.1 ha).1
          have hb := List.mem_range.1 (List.mem_filter.1 hb).1
          rw [hat _ ha, hat _ hb]
          exact fun e => hab ((List.getElem_inj hn.dif).1 e)
        · obtain ⟨i, hi, rfl⟩ := List.mem_map.1 hS
          obtain ⟨hi1, hi2⟩ := List.mem_filter.1 hi
          have hi3 := List.mem_range.1 hi1
          rw [decide_eq_true_eq] at hi2
          have hi4 := hi2
          rw [hat _ hi3] at hi4
          refine List.mem_filter.2 ⟨by rw [hat _ hi3]; exact List.getElem_mem _, ?_⟩
          rw [hat _ hi3, hi4.1, sub_land hXD hi4.2]
          rfl
      rw [show k + 1 + 1 - 1 = (k + 1 - 1) + 1 by omega, Nat.pow_succ, Nat.mul_comm]
      exact Nat.mul_le_mul_left _ h2
end
end Go.Vc
