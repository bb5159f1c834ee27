/-
  Plain words: sets of points as masks: how many, which; blocks inside, blocks met.
-/
import Derived.Test.YtjpfngmoabnffaaPureCls
set_option linter.unusedVariables false
set_option linter.unusedSimpArgs false
namespace Go.Vc

/-- How many bits a number has. -/
def ones (m : Nat) : Nat := if h : m = 0 then 0 else m % 2 + ones (m / 2)
termination_by m
decreasing_by omega
theorem ones_zero : ones 0 = 0 := by unfold ones; simp
theorem ones_step {m : Nat} (h : 0 < m) : ones m = m % 2 + ones (m / 2) := by
  rw [ones, dif_neg (by omega)]
theorem ones_le (m : Nat) : ones m ≤ m := by
  induction m using Nat.strongRecOn with
  | _ m ih =>
    by_cases h : m = 0
    · subst h; simp [ones_zero]
    · rw [ones_step (by omega)]
      have := ih (m / 2) (by omega)
      omega
theorem cov_half (m : Nat) : ∀ v, cov m (v + 1) = m % 2 + cov (m / 2) v := by
  intro v
  induction v with
  | zero =>
    simp only [cov, Nat.zero_add, Nat.add_zero]
    rw [Nat.testBit_zero]
    have := Nat.mod_two_eq_zero_or_one m
    rcases this with h | h <;> simp [h]
  | succ v ih =>
    rw [cov, ih, cov, Nat.testBit_succ]
    omega
theorem cov_ones : ∀ {v m : Nat}, m < 2 ^ v → cov m v = ones m := by
  intro v
  induction v with
  | zero =>
    intro m h
    have : m = 0 := by simpa using h
    subst this
    rw [ones_zero]; rfl
  | succ v ih =>
    intro m h
    rw [cov_half, ih (by rw [Nat.pow_succ] at h; omega)]
    by_cases h0 : m = 0
    · subst h0; simp [ones_zero]
    · exact (ones_step (by omega)).symm
/-- What the word-wise count gives, step by step. -/
def st1 (x : Nat) : Nat := Nat.add (Nat.land (Nat.shiftRight x 1) 6148914691236517205) (Nat.land x 6148914691236517205)
def st2 (x : Nat) : Nat := Nat.add (Nat.land (Nat.shiftRight x 2) 3689348814741910323) (Nat.land x 3689348814741910323)
def st3 (x : Nat) : Nat := Nat.land (Nat.add (Nat.shiftRight x 4) x) 1085102592571150095
def st4 (x : Nat) : Nat := Nat.add x (Nat.shiftRight x 8)
def st5 (x : Nat) : Nat := Nat.add x (Nat.shiftRight x 16)
def st6 (x : Nat) : Nat := Nat.add x (Nat.shiftRight x 32)
def c64 (x : Nat) : Nat := Nat.land (st6 (st5 (st4 (st3 (st2 (st1 x)))))) 127
theorem shr_le (x k : Nat) : Nat.shiftRight x k ≤ x := by
  have : Nat.shiftRight x k = x / 2 ^ k := Nat.shiftRight_eq_div_pow x k
  rw [this]
  exact Nat.div_le_self _ _
theorem land_le (x y : Nat) : Nat.land x y ≤ x := Nat.and_le_left
theorem nadd (a b : Nat) : Nat.add a b = a + b := rfl
theorem st1_le (x : Nat) : st1 x ≤ 2 * x := by
  have h1 := land_le (Nat.shiftRight x 1) 6148914691236517205
  have h2 := land_le x 6148914691236517205
  have h3 := shr_le x 1
  unfold st1
  rw [nadd]
  omega
theorem st2_le (x : Nat) : st2 x ≤ 2 * x := by
  have h1 := land_le (Nat.shiftRight x 2) 3689348814741910323
  have h2 := land_le x 3689348814741910323
  have h3 := shr_le x 2
  unfold st2
  rw [nadd]
  omega
theorem st3_le (x : Nat) : st3 x ≤ 2 * x := by
  have h1 := land_le (Nat.add (Nat.shiftRight x 4) x) 1085102592571150095
  have h3 := shr_le x 4
  unfold st3
  rw [nadd] at *
  omega
theorem st4_le (x : Nat) : st4 x ≤ 2 * x := by
  have h3 := shr_le x 8
  unfold st4
  rw [nadd]
  omega
theorem st5_le (x : Nat) : st5 x ≤ 2 * x := by
  have h3 := shr_le x 16
  unfold st5
  rw [nadd]
  omega
theorem st6_le (x : Nat) : st6 x ≤ 2 * x := by
  have h3 := shr_le x 32
  unfold st6
  rw [nadd]
  omega
theorem and_add_lt {x k c B : Nat} (h : 2 * x < B) : ((x >>> k) &&& c) + (x &&& c) < B := by
  have h1 : (x >>> k) &&& c ≤ x >>> k := Nat.and_le_left
  have h2 : x &&& c ≤ x := Nat.and_le_left
  have h3 : x >>> k ≤ x := shr_le x k
  omega
theorem shr_add_lt {x k B : Nat} (h : 2 * x < B) : (x >>> k) + x < B := by
  have h3 : x >>> k ≤ x := shr_le x k
  omega
theorem add_shr_lt {x k B : Nat} (h : 2 * x < B) : x + (x >>> k) < B := by
  have h3 : x >>> k ≤ x := shr_le x k
  omega
def covB (m : Nat) : Nat → Nat
  | 0 => 0
  | v + 1 => covB m v + (m >>> v) % 2
theorem covB_eq (m : Nat) : ∀ v, covB m v = cov m v := by
  intro v
  induction v with
  | zero => rfl
  | succ v ih =>
    simp only [cov, covB, ih]
    congr 1
    rw [← Nat.and_one_is_mod, bit_one]
def cB (m : Nat) : Nat := Nat.add (Nat.mod m 2) (Nat.add (Nat.mod (Nat.shiftRight m 1) 2) (Nat.add (Nat.mod (Nat.shiftRight m 2) 2) (Nat.add (Nat.mod (Nat.shiftRight m 3) 2) (Nat.add (Nat.mod (Nat.shiftRight m 4) 2) (Nat.add (Nat.mod (Nat.shiftRight m 5) 2) (Nat.add (Nat.mod (Nat.shiftRight m 6) 2) (Nat.add (Nat.mod (Nat.shiftRight m 7) 2) (Nat.add (Nat.mod (Nat.shiftRight m 8) 2) (Nat.add (Nat.mod (Nat.shiftRight m 9) 2) (Nat.add (Nat.mod (Nat.shiftRight m 10) 2) (Nat.add (Nat.mod (Nat.shiftRight m 11) 2) (Nat.add (Nat.mod (Nat.shiftRight m 12) 2) (Nat.add (Nat.mod (Nat.shiftRight m 13) 2) (Nat.mod (Nat.shiftRight m 14) 2))))))))))))))
def loB (h n : Nat) : Bool := Nat.rec true (fun l r => (Nat.beq (c64 (Nat.add (Nat.mul 256 h) l)) (cB (Nat.add (Nat.mul 256 h) l))).and r) n
def hiB (n : Nat) : Bool := Nat.rec true (fun h r => (loB h 256).and r) n
theorem hiB_all : hiB 128 = true := by decide +kernel
theorem loB_at (h : Nat) : ∀ n, loB h n = true → ∀ l, l < n → c64 (256 * h + l) = cB (256 * h + l) := by
  intro n
  induction n with
  | zero => intro _ l hl; omega
  | succ n ih =>
    intro hh l hl
    have h1 : ((Nat.beq (c64 (256 * h + n)) (cB (256 * h + n))).and (loB h n)) = true := hh
    rw [Bool.and_eq_true] at h1
    by_cases e : l = n
    · subst e; exact Nat.eq_of_beq_eq_true h1.1
    · exact ih h1.2 l (by omega)
theorem hiB_at : ∀ n, hiB n = true → ∀ h, h < n → loB h 256 = true := by
  intro n
  induction n with
  | zero => intro _ l hl; omega
  | succ n ih =>
    intro hh l hl
    have h1 : ((loB n 256).and (hiB n)) = true := hh
    rw [Bool.and_eq_true] at h1
    by_cases e : l = n
    · subst e; exact h1.1
    · exact ih h1.2 l (by omega)
theorem cB_cov (m : Nat) : cB m = covB m 15 := by
  have e : ∀ a b : Nat, Nat.add a b = a + b := fun _ _ => rfl
  have f : ∀ k : Nat, Nat.mod (Nat.shiftRight m k) 2 = (m >>> k) % 2 := fun _ => rfl
  have g : Nat.mod m 2 = (m >>> 0) % 2 := rfl
  unfold cB
  simp only [covB, e, f, g]
  omega
theorem c64_small (m : Nat) (hm : m < 32768) : c64 m = cov m 15 := by
  rw [← covB_eq, ← cB_cov]
  have h1 := loB_at (m / 256) 256 (hiB_at 128 hiB_all (m / 256) (by omega)) (m % 256) (by omega)
  rwa [Nat.div_add_mod] at h1
theorem c64_ones {m : Nat} (h : m < 32768) : c64 m = ones m := by rw [c64_small m h, cov_ones (by simpa using h)]

/-- The points of a set, below v. -/
def ptsAt (m : Nat) : Nat → List Int
  | 0 => []
  | v + 1 => if m.testBit v then ptsAt m v ++ [(v : Int)] else ptsAt m v
def pts (m : Nat) : List Int := ptsAt m 15
theorem ptsAt_len (m : Nat) : ∀ v, (ptsAt m v).length = cov m v := by
  intro v
  induction v with
  | zero => rfl
  | succ v ih => simp only [ptsAt, cov]; split <;> simp [ih]
theorem ptsAt_mem (m : Nat) {p : Int} : ∀ v, p ∈ ptsAt m v ↔ 0 ≤ p ∧ p < v ∧ m.testBit p.toNat = true := by
  intro v
  induction v with
  | zero => simp [ptsAt]; omega
  | succ v ih =>
    simp only [ptsAt]
    split
    · rename_i h
      rw [List.mem_append, ih, List.mem_singleton]
      constructor
      · rintro (h1 | h1)
        · exact ⟨h1.1, by omega, h1.2.2⟩
        · subst h1; exact ⟨by omega, by omega, by simpa using h⟩
      · rintro ⟨h1, h2, h3⟩
        by_cases e : p = v
        · exact .inr e
        · exact .inl ⟨h1, by omega, h3⟩
    · rename_i h
      rw [ih]
      constructor
      · rintro ⟨h1, h2, h3⟩
        exact ⟨h1, by omega, h3⟩
      · rintro ⟨h1, h2, h3⟩
        refine ⟨h1, ?_, h3⟩
        by_cases e : p = v
        · subst e
          simp at h h3
          rw [h] at h3
          cases h3
        · omega
theorem pts_inj {m n : Nat} (hm : m < 32768) (hn : n < 32768) (h : pts m = pts n) : m = n := by
  apply Nat.eq_of_testBit_eq
  intro i
  by_cases hi : i < 15
  · have h1 := ptsAt_mem m (p := (i : Int)) 15
    have h2 := ptsAt_mem n (p := (i : Int)) 15
    unfold pts at h
    rw [h] at h1
    have h3 := h1.symm.trans h2
    simp only [Int.toNat_natCast] at h3
    have h4 : m.testBit i = true ↔ n.testBit i = true := by
      constructor
      · intro hb; exact (h3.1 ⟨by omega, by omega, hb⟩).2.2
      · intro hb; exact (h3.2 ⟨by omega, by omega, hb⟩).2.2
    cases hx : m.testBit i <;> cases hy : n.testBit i <;> simp_all
  · have h1 : m < 2 ^ i := Nat.lt_of_lt_of_le hm (by have : 2 ^ 15 ≤ 2 ^ i := Nat.pow_le_pow_right (by decide) (by omega); omega)
    have h2 : n < 2 ^ i := Nat.lt_of_lt_of_le hn (by have : 2 ^ 15 ≤ 2 ^ i := Nat.pow_le_pow_right (by decide) (by omega); omega)
    rw [Nat.testBit_lt_two_pow h1, Nat.testBit_lt_two_pow h2]
/-- No block lies inside. -/
def Indep (bs : List B3) (s : Nat) : Prop := ∀ b ∈ bs, ¬ bmask b &&& s = bmask b
/-- All blocks are met. -/
def MeetsAll (bs : List B3) (s : Nat) : Prop := ∀ b ∈ bs, ¬ bmask b &&& s = 0
/-- How many of the first blocks lie inside. -/
def inside (bs : List B3) (s k : Nat) : Nat := ((bs.take k).filter fun b => decide (bmask b &&& s = bmask b)).length
theorem inside_succ {bs : List B3} {s k : Nat} (hk : k < bs.length) : inside bs s (k + 1) = inside bs s k + if bmask bs[k] &&& s = bmask bs[k] then 1 else 0 := by
  unfold inside
  rw [take_snoc hk, List.filter_append, List.length_append]
  congr 1
  by_cases h : bmask bs[k] &&& s = bmask bs[k] <;> simp [h]
theorem inside_le {bs : List B3} {s k : Nat} : inside bs s k ≤ k := by
  unfold inside
  exact Nat.le_trans (List.length_filter_le _ _) (by simp; omega)
theorem inside_none {bs : List B3} {s : Nat} : inside bs s bs.length = 0 ↔ Indep bs s := by
  unfold inside Indep
  rw [List.take_length, List.length_eq_zero_iff, List.filter_eq_nil_iff]
  simp
/-- The mask of a list of points. -/
def maskL (xs : List Int) : Nat := xs.foldl (fun m p => m ||| 2 ^ p.toNat) 0
theorem maskL_snoc (xs : List Int) (p : Int) : maskL (xs ++ [p]) = maskL xs ||| 2 ^ p.toNat := by simp [maskL, List.foldl_append]
theorem maskL_succ {xs : List Int} {k : Nat} (hk : k < xs.length) : maskL (xs.take (k + 1)) = maskL (xs.take k) ||| 2 ^ (xs[k]).toNat := by rw [take_snoc hk, maskL_snoc]
theorem maskL_lt {xs : List Int} (h : ∀ p ∈ xs, 0 ≤ p ∧ p < 15) : maskL xs < 32768 := by
  have key : ∀ (xs : List Int) (m : Nat), (∀ p ∈ xs, 0 ≤ p ∧ p < 15) → m < 2 ^ 15 → xs.foldl (fun m p => m ||| 2 ^ p.toNat) m < 2 ^ 15 := by
    intro xs
    induction xs with
    | nil => intro m _ hm; exact hm
    | cons p xs ih =>
      intro m hp hm
      refine ih _ (fun q hq => hp q (by simp [hq])) (Nat.or_lt_two_pow hm ?_)
      have := hp p (by simp)
      exact Nat.pow_lt_pow_right (by decide) (by omega)
  exact key xs 0 h (by decide)
theorem maskL_block {v : Int} {b : B3} (h : good v b) : maskL (bl b) = bmask b := by
  have hb := h
  unfold good at h
  apply Nat.eq_of_testBit_eq
  intro i
  have h1 : maskL (bl b) = ((0 ||| 2 ^ b.1.toNat) ||| 2 ^ b.2.1.toNat) ||| 2 ^ b.2.2.toNat := rfl
  rw [h1]
  unfold bmask
  rw [three_bits (by omega) (by omega)]
  simp only [Nat.testBit_or, Nat.testBit_two_pow, Nat.zero_testBit, Bool.false_or]
  by_cases a : i = b.1.toNat <;> by_cases b' : i = b.2.1.toNat <;> by_cases c : i = b.2.2.toNat <;> simp [a, b', c] <;> omega
end Go.Vc
