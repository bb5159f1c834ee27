/-
  The calculus and plain words, part 3.
-/
import Derived.Test.YtgjfcepnkllklaaGreatKa2
import Derived.Shelf.SlSortCmp.NoneTotal
set_option linter.unusedVariables false
set_option linter.unusedSimpArgs false
/-
  Plain words: sets of points as masks: how many, which; blocks inside, blocks met.
-/
namespace Go.Vc

/-- How many bits a number has. -/
def ones (m : Nat) : Nat := if h : m = 0 then 0 else m % 2 + ones (m / 2)
termination_by m
decreasing_by omega
theorem ones_zero : ones 0 = 0 := by unfold ones; simp
theorem ones_step {m : Nat} (h : 0 < m) : ones m = m % 2 + ones (m / 2) := by
  rw [ones, dif_neg (by omega)]
theorem ones_le (m : Nat) : ones m ≤ m := by
  induction m using Nat.strongRecOn with
  | _ m ih =>
    by_cases h : m = 0
    · subst h; simp [ones_zero]
    · rw [ones_step (by omega)]
      have := ih (m / 2) (by omega)
      omega
theorem cov_half (m : Nat) : ∀ v, cov m (v + 1) = m % 2 + cov (m / 2) v := by
  intro v
  induction v with
  | zero =>
    simp only [cov, Nat.zero_add, Nat.add_zero]
    rw [Nat.testBit_zero]
    have := Nat.mod_two_eq_zero_or_one m
    rcases this with h | h <;> simp [h]
  | succ v ih =>
    rw [cov, ih, cov, Nat.testBit_succ]
    omega
theorem cov_ones : ∀ {v m : Nat}, m < 2 ^ v → cov m v = ones m := by
  intro v
  induction v with
  | zero =>
    intro m h
    have : m = 0 := by simpa using h
    subst this
    rw [ones_zero]; rfl
  | succ v ih =>
    intro m h
    rw [cov_half, ih (by rw [Nat.pow_succ] at h; omega)]
    by_cases h0 : m = 0
    · subst h0; simp [ones_zero]
    · exact (ones_step (by omega)).symm
/-- What the word-wise count gives, step by step. -/
def st1 (x : Nat) : Nat := Nat.add (Nat.land (Nat.shiftRight x 1) 6148914691236517205) (Nat.land x 6148914691236517205)
def st2 (x : Nat) : Nat := Nat.add (Nat.land (Nat.shiftRight x 2) 3689348814741910323) (Nat.land x 3689348814741910323)
def st3 (x : Nat) : Nat := Nat.land (Nat.add (Nat.shiftRight x 4) x) 1085102592571150095
def st4 (x : Nat) : Nat := Nat.add x (Nat.shiftRight x 8)
def st5 (x : Nat) : Nat := Nat.add x (Nat.shiftRight x 16)
def st6 (x : Nat) : Nat := Nat.add x (Nat.shiftRight x 32)
def c64 (x : Nat) : Nat := Nat.land (st6 (st5 (st4 (st3 (st2 (st1 x)))))) 127
theorem shr_le (x k : Nat) : Nat.shiftRight x k ≤ x := by
  have : Nat.shiftRight x k = x / 2 ^ k := Nat.shiftRight_eq_div_pow x k
  rw [this]
  exact Nat.div_le_self _ _
theorem land_le (x y : Nat) : Nat.land x y ≤ x := Nat.and_le_left
theorem nadd (a b : Nat) : Nat.add a b = a + b := rfl
theorem st1_le (x : Nat) : st1 x ≤ 2 * x := by
  have h1 := land_le (Nat.shiftRight x 1) 6148914691236517205
  have h2 := land_le x 6148914691236517205
  have h3 := shr_le x 1
  unfold st1
  rw [nadd]
  omega
theorem st2_le (x : Nat) : st2 x ≤ 2 * x := by
  have h1 := land_le (Nat.shiftRight x 2) 3689348814741910323
  have h2 := land_le x 3689348814741910323
  have h3 := shr_le x 2
  unfold st2
  rw [nadd]
  omega
theorem st3_le (x : Nat) : st3 x ≤ 2 * x := by
  have h1 := land_le (Nat.add (Nat.shiftRight x 4) x) 1085102592571150095
  have h3 := shr_le x 4
  unfold st3
  rw [nadd] at *
  omega
theorem st4_le (x : Nat) : st4 x ≤ 2 * x := by
  have h3 := shr_le x 8
  unfold st4
  rw [nadd]
  omega
theorem st5_le (x : Nat) : st5 x ≤ 2 * x := by
  have h3 := shr_le x 16
  unfold st5
  rw [nadd]
  omega
theorem st6_le (x : Nat) : st6 x ≤ 2 * x := by
  have h3 := shr_le x 32
  unfold st6
  rw [nadd]
  omega
theorem and_add_lt {x k c B : Nat} (h : 2 * x < B) : ((x >>> k) &&& c) + (x &&& c) < B := by
  have h1 : (x >>> k) &&& c ≤ x >>> k := Nat.and_le_left
  have h2 : x &&& c ≤ x := Nat.and_le_left
  have h3 : x >>> k ≤ x := shr_le x k
  omega
theorem shr_add_lt {x k B : Nat} (h : 2 * x < B) : (x >>> k) + x < B := by
  have h3 : x >>> k ≤ x := shr_le x k
  omega
theorem add_shr_lt {x k B : Nat} (h : 2 * x < B) : x + (x >>> k) < B := by
  have h3 : x >>> k ≤ x := shr_le x k
  omega
def covB (m : Nat) : Nat → Nat
  | 0 => 0
  | v + 1 => covB m v + (m >>> v) % 2
theorem covB_eq (m : Nat) : ∀ v, covB m v = cov m v := by
  intro v
  induction v with
  | zero => rfl
  | succ v ih =>
    simp only [cov, covB, ih]
    congr 1
    rw [← Nat.and_one_is_mod, bit_one]
def cB (m : Nat) : Nat := Nat.add (Nat.mod m 2) (Nat.add (Nat.mod (Nat.shiftRight m 1) 2) (Nat.add (Nat.mod (Nat.shiftRight m 2) 2) (Nat.add (Nat.mod (Nat.shiftRight m 3) 2) (Nat.add (Nat.mod (Nat.shiftRight m 4) 2) (Nat.add (Nat.mod (Nat.shiftRight m 5) 2) (Nat.add (Nat.mod (Nat.shiftRight m 6) 2) (Nat.add (Nat.mod (Nat.shiftRight m 7) 2) (Nat.add (Nat.mod (Nat.shiftRight m 8) 2) (Nat.add (Nat.mod (Nat.shiftRight m 9) 2) (Nat.add (Nat.mod (Nat.shiftRight m 10) 2) (Nat.add (Nat.mod (Nat.shiftRight m 11) 2) (Nat.add (Nat.mod (Nat.shiftRight m 12) 2) (Nat.add (Nat.mod (Nat.shiftRight m 13) 2) (Nat.mod (Nat.shiftRight m 14) 2))))))))))))))
def loB (h n : Nat) : Bool := Nat.rec true (fun l r => (Nat.beq (c64 (Nat.add (Nat.mul 256 h) l)) (cB (Nat.add (Nat.mul 256 h) l))).and r) n
def hiB (n : Nat) : Bool := Nat.rec true (fun h r => (loB h 256).and r) n
theorem hiB_all : hiB 128 = true := by decide +kernel
theorem loB_at (h : Nat) : ∀ n, loB h n = true → ∀ l, l < n → c64 (256 * h + l) = cB (256 * h + l) := by
  intro n
  induction n with
  | zero => intro _ l hl; omega
  | succ n ih =>
    intro hh l hl
    have h1 : ((Nat.beq (c64 (256 * h + n)) (cB (256 * h + n))).and (loB h n)) = true := hh
    rw [Bool.and_eq_true] at h1
    by_cases e : l = n
    · subst e; exact Nat.eq_of_beq_eq_true h1.1
    · exact ih h1.2 l (by omega)
theorem hiB_at : ∀ n, hiB n = true → ∀ h, h < n → loB h 256 = true := by
  intro n
  induction n with
  | zero => intro _ l hl; omega
  | succ n ih =>
    intro hh l hl
    have h1 : ((loB n 256).and (hiB n)) = true := hh
    rw [Bool.and_eq_true] at h1
    by_cases e : l = n
    · subst e; exact h1.1
    · exact ih h1.2 l (by omega)
theorem cB_cov (m : Nat) : cB m = covB m 15 := by
  have e : ∀ a b : Nat, Nat.add a b = a + b := fun _ _ => rfl
  have f : ∀ k : Nat, Nat.mod (Nat.shiftRight m k) 2 = (m >>> k) % 2 := fun _ => rfl
  have g : Nat.mod m 2 = (m >>> 0) % 2 := rfl
  unfold cB
  simp only [covB, e, f, g]
  omega
theorem c64_small (m : Nat) (hm : m < 32768) : c64 m = cov m 15 := by
  rw [← covB_eq, ← cB_cov]
  have h1 := loB_at (m / 256) 256 (hiB_at 128 hiB_all (m / 256) (by omega)) (m % 256) (by omega)
  rwa [Nat.div_add_mod] at h1
theorem c64_ones {m : Nat} (h : m < 32768) : c64 m = ones m := by rw [c64_small m h, cov_ones (by simpa using h)]

/-- The points of a set, below v. -/
def ptsAt (m : Nat) : Nat → List Int
  | 0 => []
  | v + 1 => if m.testBit v then ptsAt m v ++ [(v : Int)] else ptsAt m v
def pts (m : Nat) : List Int := ptsAt m 15
theorem ptsAt_len (m : Nat) : ∀ v, (ptsAt m v).length = cov m v := by
  intro v
  induction v with
  | zero => rfl
  | succ v ih => simp only [ptsAt, cov]; split <;> simp [ih]
theorem ptsAt_mem (m : Nat) {p : Int} : ∀ v, p ∈ ptsAt m v ↔ 0 ≤ p ∧ p < v ∧ m.testBit p.toNat = true := by
  intro v
  induction v with
  | zero => simp [ptsAt]; omega
  | succ v ih =>
    simp only [ptsAt]
    split
    · rename_i h
      rw [List.mem_append, ih, List.mem_singleton]
      constructor
      · rintro (h1 | h1)
        · exact ⟨h1.1, by omega, h1.2.2⟩
        · subst h1; exact ⟨by omega, by omega, by simpa using h⟩
      · rintro ⟨h1, h2, h3⟩
        by_cases e : p = v
        · exact .inr e
        · exact .inl ⟨h1, by omega, h3⟩
    · rename_i h
      rw [ih]
      constructor
      · rintro ⟨h1, h2, h3⟩
        exact ⟨h1, by omega, h3⟩
      · rintro ⟨h1, h2, h3⟩
        refine ⟨h1, ?_, h3⟩
        by_cases e : p = v
        · subst e
          simp at h h3
          rw [h] at h3
          cases h3
        · omega
theorem pts_inj {m n : Nat} (hm : m < 32768) (hn : n < 32768) (h : pts m = pts n) : m = n := by
  apply Nat.eq_of_testBit_eq
  intro i
  by_cases hi : i < 15
  · have h1 := ptsAt_mem m (p := (i : Int)) 15
    have h2 := ptsAt_mem n (p := (i : Int)) 15
    unfold pts at h
    rw [h] at h1
    have h3 := h1.symm.trans h2
    simp only [Int.toNat_natCast] at h3
    have h4 : m.testBit i = true ↔ n.testBit i = true := by
      constructor
      · intro hb; exact (h3.1 ⟨by omega, by omega, hb⟩).2.2
      · intro hb; exact (h3.2 ⟨by omega, by omega, hb⟩).2.2
    cases hx : m.testBit i <;> cases hy : n.testBit i <;> simp_all
  · have h1 : m < 2 ^ i := Nat.lt_of_lt_of_le hm (by have : 2 ^ 15 ≤ 2 ^ i := Nat.pow_le_pow_right (by decide) (by omega); omega)
    have h2 : n < 2 ^ i := Nat.lt_of_lt_of_le hn (by have : 2 ^ 15 ≤ 2 ^ i := Nat.pow_le_pow_right (by decide) (by omega); omega)
    rw [Nat.testBit_lt_two_pow h1, Nat.testBit_lt_two_pow h2]
/-- No block lies inside. -/
def Indep (bs : List B3) (s : Nat) : Prop := ∀ b ∈ bs, ¬ bmask b &&& s = bmask b
/-- All blocks are met. -/
def MeetsAll (bs : List B3) (s : Nat) : Prop := ∀ b ∈ bs, ¬ bmask b &&& s = 0
/-- How many of the first blocks lie inside. -/
def inside (bs : List B3) (s k : Nat) : Nat := ((bs.take k).filter fun b => decide (bmask b &&& s = bmask b)).length
theorem inside_succ {bs : List B3} {s k : Nat} (hk : k < bs.length) : inside bs s (k + 1) = inside bs s k + if bmask bs[k] &&& s = bmask bs[k] then 1 else 0 := by
  unfold inside
  rw [take_snoc hk, List.filter_append, List.length_append]
  congr 1
  by_cases h : bmask bs[k] &&& s = bmask bs[k] <;> simp [h]
theorem inside_le {bs : List B3} {s k : Nat} : inside bs s k ≤ k := by
  unfold inside
  exact Nat.le_trans (List.length_filter_le _ _) (by simp; omega)
/-- The mask of a list of points. -/
def maskL (xs : List Int) : Nat := xs.foldl (fun m p => m ||| 2 ^ p.toNat) 0
theorem maskL_snoc (xs : List Int) (p : Int) : maskL (xs ++ [p]) = maskL xs ||| 2 ^ p.toNat := by simp [maskL, List.foldl_append]
theorem maskL_succ {xs : List Int} {k : Nat} (hk : k < xs.length) : maskL (xs.take (k + 1)) = maskL (xs.take k) ||| 2 ^ (xs[k]).toNat := by rw [take_snoc hk, maskL_snoc]
theorem maskL_lt {xs : List Int} (h : ∀ p ∈ xs, 0 ≤ p ∧ p < 15) : maskL xs < 32768 := by
  have key : ∀ (xs : List Int) (m : Nat), (∀ p ∈ xs, 0 ≤ p ∧ p < 15) → m < 2 ^ 15 → xs.foldl (fun m p => m ||| 2 ^ p.toNat) m < 2 ^ 15 := by
    intro xs
    induction xs with
    | nil => intro m _ hm; exact hm
    | cons p xs ih =>
      intro m hp hm
      refine ih _ (fun q hq => hp q (by simp [hq])) (Nat.or_lt_two_pow hm ?_)
      have := hp p (by simp)
      exact Nat.pow_lt_pow_right (by decide) (by omega)
  exact key xs 0 h (by decide)
theorem maskL_block {v : Int} {b : B3} (h : good v b) : maskL (bl b) = bmask b := by
  have hb := h
  unfold good at h
  apply Nat.eq_of_testBit_eq
  intro i
  have h1 : maskL (bl b) = ((0 ||| 2 ^ b.1.toNat) ||| 2 ^ b.2.1.toNat) ||| 2 ^ b.2.2.toNat := rfl
  rw [h1]
  unfold bmask
  rw [three_bits (by omega) (by omega)]
  simp only [Nat.testBit_or, Nat.testBit_two_pow, Nat.zero_testBit, Bool.false_or]
  by_cases a : i = b.1.toNat <;> by_cases b' : i = b.2.1.toNat <;> by_cases c : i = b.2.2.toNat <;> simp [a, b', c] <;> omega
end Go.Vc
/-
  Plain words: the most points without a block; the least set that meets all blocks.
-/
namespace Go.Vc

/-- T is a set with points from p on, below v, added to it. -/
def Over (v set p T : Nat) : Prop := (∀ q, set.testBit q = true → T.testBit q = true) ∧ ∀ q, T.testBit q = true → set.testBit q = true ∨ (p ≤ q ∧ q < v)
theorem Over.mono {v set p q T : Nat} (h : Over v set p T) (hn : ∀ x, T.testBit x = true → set.testBit x = true ∨ q ≤ x) : Over v set q T :=
  ⟨h.1, fun x hx => by
    rcases h.2 x hx with h1 | h1
    · exact .inl h1
    · rcases hn x hx with h2 | h2
      · exact .inl h2
      · exact .inr ⟨h2, h1.2⟩⟩
theorem Over.step {v set p T : Nat} (h : Over v set p T) (hp : T.testBit p = true) : Over v (set ||| 2 ^ p) (p + 1) T := by
  refine ⟨fun q hq => ?_, fun q hq => ?_⟩
  · rw [Nat.testBit_or, Nat.testBit_two_pow, Bool.or_eq_true] at hq
    rcases hq with h1 | h1
    · exact h.1 q h1
    · simp at h1; subst h1; exact hp
  · rw [Nat.testBit_or, Nat.testBit_two_pow, Bool.or_eq_true]
    rcases h.2 q hq with h1 | h1
    · exact .inl (.inl h1)
    · by_cases e : p = q
      · subst e; exact .inl (.inr (by simp))
      · exact .inr ⟨by omega, h1.2⟩
theorem Indep.sub {bs : List B3} {s T : Nat} (h : Indep bs T) (hs : ∀ q, s.testBit q = true → T.testBit q = true) : Indep bs s := by
  intro b hb he
  refine h b hb ?_
  rw [and_self] at *
  exact fun p hp => hs p (he p hp)
structure MostR (v : Nat) (bs : List B3) (set best p r : Nat) : Prop where
  ok : r = best ∨ (Indep bs r ∧ r < 2 ^ v)
  ge : ones best ≤ ones r
  all : ∀ T, T < 2 ^ v → Over v set p T → Indep bs T → ones T ≤ ones r
structure MostI (v : Nat) (bs : List B3) (set best from' p r : Nat) : Prop where
  ok : r = best ∨ (Indep bs r ∧ r < 2 ^ v)
  ge : ones best ≤ ones r
  geS : ones set ≤ ones r
  seen : ∀ T, T < 2 ^ v → Over v set from' T → Indep bs T → (∃ q, from' ≤ q ∧ q < p ∧ T.testBit q = true ∧ ¬ set.testBit q = true) → ones T ≤ ones r
section
variable {v : Nat} {bs : List B3} {set best f p r r' : Nat}
end
/-! ### The least meeting set -/
structure MC (v : Nat) (bs : List B3) (set k f T : Nat) : Prop where
  lt : T < 2 ^ v
  over : Over v set f T
  num : ones T = ones set + k
  meets : MeetsAll bs T
/-- The least of all that are such, or -1. -/
def MeetR (v : Nat) (bs : List B3) (set k f : Nat) (r : Int) : Prop :=
  (r = -1 ∧ ∀ T, ¬ MC v bs set k f T) ∨ ∃ T : Nat, r = T ∧ MC v bs set k f T ∧ ∀ U, MC v bs set k f U → ¬ ltL (pts U) (pts T)
/-- No such set has a point more below p. -/
def MeetI (v : Nat) (bs : List B3) (set k f p : Nat) : Prop := ∀ T, MC v bs set k f T → Over v set p T
section
variable {v : Nat} {bs : List B3} {set k f p : Nat}
end
end Go.Vc
/-
  Plain words: the best set among all; the least meeting set, of both.
-/
namespace Go.Vc

structure BestI (sign : Int) (p : Nat → Prop) (s : Nat) (found : Bool) (most : Int) (out : List Int) : Prop where
  no : found = false → ∀ q, q < s → ¬ p q
  yes : found = true → ∃ t, t < s ∧ p t ∧ out = pts t ∧ most = sign * ones t ∧ ∀ q, q < s → p q → sign * ones q < most ∨ (sign * ones q = most ∧ ¬ ltL (pts q) out)
section
variable {sign most : Int} {p : Nat → Prop} {s : Nat} {found : Bool} {out : List Int}
end

theorem pts_len (m : Nat) : (pts m).length ≤ 15 := by
  unfold pts
  rw [ptsAt_len]
  exact cov_le m 15
def LM (v : Nat) (bs : List B3) (out : List Int) : Prop :=
  ∃ T, T < 2 ^ v ∧ MeetsAll bs T ∧ out = pts T ∧ ∀ U, U < 2 ^ v → MeetsAll bs U → ones T ≤ ones U ∧ (ones U = ones T → ¬ ltL (pts U) (pts T))
theorem LM.unique {v : Nat} {bs : List B3} {a b : List Int} (h1 : LM v bs a) (h2 : LM v bs b) : a = b := by
  obtain ⟨T, a1, a2, rfl, a4⟩ := h1
  obtain ⟨U, b1, b2, rfl, b4⟩ := h2
  have h3 := a4 U b1 b2
  have h4 := b4 T a1 a2
  exact ltL_tri (fun h => h4.2 (by omega) h) (fun h => h3.2 (by omega) h)
end Go.Vc
/-
  The calculus, part 10: values of functions with bound arguments.
-/
namespace Go.Vc
open Go Go.RowKit
section
variable {P : Program} {w0 w : World} {H H' : List Assn} {Q : Exit → Act → World → Prop} {σ : Sig} {o : Oper}
/-- One of two operations comes next. -/
theorem D.either {N : Nat} {ops : Array Oper} {Hs : List Assn} (hwf : wfB ops = true) {effs done : List Nat} {e1 e2 : Nat} (hcl : closedL ops done [e1, e2] = true) (h1 : Cand P N w0 ops Q effs done σ Hs H e1) (h2 : Cand P N w0 ops Q effs done σ Hs H e2) : D P N w0 ops Q effs done σ Hs H := by
  refine D.effS hwf [e1, e2] e1 (by simp) hcl ?_
  intro e he
  simp only [List.mem_cons, List.not_mem_nil, or_false] at he
  rcases he with rfl | rfl
  · exact h1
  · exact h2
/-! ### Arrays of numbers, by an index -/
end
end Go.Vc
/-
  Plain words: lists with a prefix; four blocks with six points, each in two of them.
-/
namespace Go.Vc

/-! ### Lists with a prefix -/
section
variable {p : List Int → Prop} {now : List Int} {ls ls' : List (List Int)} {i n f : Nat}
def Pre (p : List Int → Prop) (now r : List Int) : Prop := p r ∧ now <+: r
def PreB (p : List Int → Prop) (now : List Int) (i : Nat) (r : List Int) : Prop := p r ∧ ∃ j : Nat, j < i ∧ (now ++ [(j : Int)]) <+: r
end

/-! ### Three points of a block -/
def Tri (B : B3) (x y z : Int) : Prop := x ≠ y ∧ x ≠ z ∧ y ≠ z ∧ ∀ p, has B p ↔ p = x ∨ p = y ∨ p = z
theorem Tri.swap {B : B3} {x y z : Int} (h : Tri B x y z) : Tri B x z y := ⟨h.2.1, h.1, fun e => h.2.2.1 e.symm, fun p => (h.2.2.2 p).trans (by omega)⟩
theorem Tri.rot {B : B3} {x y z : Int} (h : Tri B x y z) : Tri B y x z := ⟨fun e => h.1 e.symm, h.2.2.1, h.2.1, fun p => (h.2.2.2 p).trans (by omega)⟩
theorem Tri.h1 {B : B3} {x y z : Int} (h : Tri B x y z) : has B x := (h.2.2.2 x).2 (.inl rfl)
theorem Tri.h2 {B : B3} {x y z : Int} (h : Tri B x y z) : has B y := (h.2.2.2 y).2 (.inr (.inl rfl))
theorem Tri.h3 {B : B3} {x y z : Int} (h : Tri B x y z) : has B z := (h.2.2.2 z).2 (.inr (.inr rfl))
theorem tri_of {v : Int} {B : B3} (hg : good v B) {x y z : Int} (hx : has B x) (hy : has B y) (hz : has B z) (h1 : x ≠ y) (h2 : x ≠ z) (h3 : y ≠ z) : Tri B x y z := by
  refine ⟨h1, h2, h3, fun p => ?_⟩
  unfold good at hg
  unfold has at *
  omega
theorem tri_sum {v : Int} {B : B3} (hg : good v B) {x y z : Int} (h : Tri B x y z) : B.1 + B.2.1 + B.2.2 = x + y + z := by
  have h1 := h.h1
  have h2 := h.h2
  have h3 := h.h3
  obtain ⟨e1, e2, e3, _⟩ := h
  unfold good at hg
  unfold has at *
  omega
/-- The other points of a block. -/
def oth1 (b : B3) (a : Int) : Int := if a = b.1 then b.2.1 else b.1
def oth2 (b : B3) (a : Int) : Int := if a = b.1 then b.2.2 else if a = b.2.1 then b.2.2 else b.2.1
theorem tri_oth {v : Int} {B : B3} (hg : good v B) {a : Int} (ha : has B a) : Tri B a (oth1 B a) (oth2 B a) := by
  unfold good at hg
  have ha' := ha
  unfold has at ha'
  refine tri_of (v := v) (by unfold good; exact hg) ha ?_ ?_ ?_ ?_ ?_
  all_goals (try unfold oth1); (try unfold oth2); (try unfold has); (repeat' split) <;> omega
/-- A common point, the first of the first block, or -1. -/
noncomputable def cpt (a b : B3) : Int := if has b a.1 then a.1 else if has b a.2.1 then a.2.1 else if has b a.2.2 then a.2.2 else -1
/-! ### The block of two points, and its third point -/
noncomputable def num (bs : List B3) (a b : Int) : Int := idxP (fun c => has c a ∧ has c b) bs
noncomputable def third (bs : List B3) (a b : Int) : Int := if num bs a b < 0 then -1 else (blk bs (num bs a b)).1 + (blk bs (num bs a b)).2.1 + (blk bs (num bs a b)).2.2 - a - b
theorem third_found {bs : List B3} {a b : Int} {k : Nat} (hk : k < bs.length) (h1 : has bs[k] a) (h2 : has bs[k] b) (hn : ∀ j (hj : j < bs.length), j < k → ¬ (has bs[j] a ∧ has bs[j] b)) : num bs a b = k ∧ third bs a b = bs[k].1 + bs[k].2.1 + bs[k].2.2 - a - b := by
  have h := idxP_found (p := fun c => has c a ∧ has c b) hk ⟨h1, h2⟩ hn
  have e : num bs a b = k := h
  refine ⟨e, ?_⟩
  unfold third
  rw [e, if_neg (by omega), blk_get hk]
theorem third_none {bs : List B3} {a b : Int} (hn : ∀ j (hj : j < bs.length), ¬ (has bs[j] a ∧ has bs[j] b)) : num bs a b = -1 ∧ third bs a b = -1 := by
  have e : num bs a b = -1 := idxP_none (p := fun c => has c a ∧ has c b) hn
  refine ⟨e, ?_⟩
  unfold third
  rw [e, if_pos (by omega)]
section
variable {v : Int} {bs : List B3}
theorem STS.two (h : STS v bs) {i j : Nat} (hi : i < bs.length) (hj : j < bs.length) {x y : Int} (hxy : x ≠ y) (h1 : has bs[i] x) (h2 : has bs[i] y) (h3 : has bs[j] x) (h4 : has bs[j] y) : i = j := by
  have key : ∀ {i j : Nat} (hi : i < bs.length) (hj : j < bs.length), j < i → has bs[i] x → has bs[i] y → has bs[j] x → has bs[j] y → False := by
    intro i j hi hj hji h1 h2 h3 h4
    have hc := (common_le (h.good _ (List.getElem_mem hj)).three).1 (h.fits i hi hi j hj hji)
    obtain ⟨c1, c2, c3⟩ := hc
    unfold has at h1 h2
    rcases h1 with rfl | rfl | rfl <;> rcases h2 with rfl | rfl | rfl <;> first | exact hxy rfl | exact c1 ⟨h3, h4⟩ | exact c1 ⟨h4, h3⟩ | exact c2 ⟨h3, h4⟩ | exact c2 ⟨h4, h3⟩ | exact c3 ⟨h3, h4⟩ | exact c3 ⟨h4, h3⟩
  rcases Nat.lt_trichotomy i j with h5 | h5 | h5
  · exact (key hj hi h5 h3 h4 h1 h2).elim
  · exact h5
  · exact (key hi hj h5 h1 h2 h3 h4).elim
theorem third_tri (h : STS v bs) {k : Nat} (hk : k < bs.length) {x y z : Int} (ht : Tri bs[k] x y z) : num bs x y = k ∧ third bs x y = z := by
  have h1 := third_found hk ht.h1 ht.h2 (fun j hj hjk hh => by have := h.two hj hk ht.1 hh.1 hh.2 ht.h1 ht.h2; omega)
  refine ⟨h1.1, ?_⟩
  rw [h1.2]
  have := tri_sum (h.good _ (List.getElem_mem hk)) ht
  omega
end

/-! ### Pasch -/
def hasN (B : B3) (p : Int) : Nat := if has B p then 1 else 0
/-- How many blocks of a list of numbers have a point. -/
def cntP (bs : List B3) (q : List Int) (p : Int) : Nat := (q.map fun k => hasN (blk bs k) p).sum
structure PQ (bs : List B3) (q : List Int) : Prop where
  four : q.length = 4
  up : q.Pairwise (· < ·)
  ix : ∀ k ∈ q, okIx bs k
  two : ∀ p, cntP bs q p = 0 ∨ cntP bs q p = 2
def P4 (A B C D : B3) : Prop := ∀ p, hasN A p + hasN B p + hasN C p + hasN D p = 0 ∨ hasN A p + hasN B p + hasN C p + hasN D p = 2
/-- Two blocks have no two points in common. -/
def Two (A B : B3) : Prop := ∀ x y, x ≠ y → has A x → has A y → has B x → has B y → False
theorem Two.symm {A B : B3} (h : Two A B) : Two B A := fun x y e h1 h2 h3 h4 => h x y e h3 h4 h1 h2
section
variable {v : Int} {bs : List B3}
/-- What is found for two blocks. -/
def Hit (bs : List B3) (i j c e d f : Int) (r : List Int) : Prop := ¬ third bs c f < 0 ∧ third bs d e = third bs c f ∧ r.Perm [i, j, num bs c f, num bs d e] ∧ r.Pairwise (· ≤ ·)
end
end Go.Vc
/-
  The calculus, part 11: slices of slices; clear; rows that lose some.
-/
namespace Go.Vc
open Go Go.RowKit
section
variable {P : Program} {w0 w : World} {H H' : List Assn} {α : Type} {Q : Exit → Act → World → Prop} {σ : Sig} {o : Oper} {T e : TypeId} {C : Cod α}

theorem elem_of {T e : TypeId} (hT : P.underlying T = some (.slice e)) : P.underlying T = some (.slice (P.elem T)) ∧ P.elem T = e := by
  have : P.elem T = e := by simp [Program.elem, hT]
  exact ⟨this ▸ hT, this⟩
theorem map_add_zero (A : Option Addr) : A.map (·.add 0) = A := by
  cases A with
  | none => rfl
  | some q =>
    simp only [Option.map_some, Option.some.injEq]
    unfold Addr.add
    split <;> simp_all
/-- x[:h]. -/
theorem Pu.sliceH {x y : Operand} {A : Option Addr} {n c s : Nat} {K : IntKind} {i : Int} (k : Nat) (ho : o.op = .slice T x none (some y) none) (hT : P.underlying T = some (.slice e)) (hs : Sz P e s) (hx : ev σ x = some (.slice A n c)) (hy : ev σ y = some (.int K i)) (hi : i = (k : Int)) (hk : k ≤ c) :
    Pu P w0 o σ H (.slice A k c) := by
  intro w hw a ha
  have h1 := ha x (by simp [ho, Op.operands]) _ hx
  have h2 := ha y (by simp [ho, Op.operands]) _ hy
  subst hi
  obtain ⟨e1, e2⟩ := elem_of hT
  have e3 : Value.slice (if c = 0 then A else A.map (·.add 0)) k c = .slice A k c := by rw [map_add_zero]; simp
  have hr := run_slice_h (w := w) T A n c e1 K (k : Int) (by omega) (by omega)
  rw [e2, run_sz hs] at hr
  simp only [Result.andThen_ok, sliced, Int.toNat_natCast, Nat.zero_mul, Nat.sub_zero, e3] at hr
  simp [execOp, ho, h1, h2, run_sliceAt_slice (h := e1), hr]
/-- x[l:]. -/
theorem Pu.sliceL {x y : Operand} {A : Option Addr} {n c s : Nat} {K : IntKind} {i : Int} (k : Nat) (ho : o.op = .slice T x (some y) none none) (hT : P.underlying T = some (.slice e)) (hs : Sz P e s) (hx : ev σ x = some (.slice A n c)) (hy : ev σ y = some (.int K i)) (hi : i = (k : Int)) (hk : k ≤ n) :
    Pu P w0 o σ H (.slice (if c = k then A else A.map (·.add (k * s))) (n - k) (c - k)) := by
  intro w hw a ha
  have h1 := ha x (by simp [ho, Op.operands]) _ hx
  have h2 := ha y (by simp [ho, Op.operands]) _ hy
  subst hi
  obtain ⟨e1, e2⟩ := elem_of hT
  have hr := run_slice_l (w := w) T A n c e1 K (k : Int) (by omega) (by omega)
  rw [e2, run_sz hs] at hr
  simp only [Result.andThen_ok, sliced, Int.toNat_natCast] at hr
  simp [execOp, ho, h1, h2, run_sliceAt_slice (h := e1), hr]
theorem Rd.drop {A : Option Addr} {xs : List α} {c k s : Nat} (h : Rd C w A xs) (hs : s = C.sz) (hc : xs.length ≤ c) : Rd C w (if c = k then A else A.map (·.add (k * s))) (xs.drop k) := by
  intro i hi
  rw [List.length_drop] at hi
  obtain ⟨q, hq, hr⟩ := h (k + i) (by omega)
  rw [if_neg (by omega), hq]
  refine ⟨_, rfl, fun j u hj => ?_⟩
  rw [List.getElem_drop] at hj
  have := hr j u hj
  rw [Addr.add_add', hs]
  rw [show k * C.sz + (i * C.sz + j) = (k + i) * C.sz + j by rw [Nat.add_mul]; omega]
  exact this
theorem Rd.take {A : Option Addr} {xs : List α} (h : Rd C w A xs) (k : Nat) : Rd C w A (xs.take k) := by
  intro i hi
  rw [List.length_take] at hi
  obtain ⟨q, hq, hr⟩ := h i (by omega)
  exact ⟨q, hq, fun j u hj => hr j u (by rw [List.getElem_take] at hj; exact hj)⟩
theorem Own.cap {c i : Nat} {A : Option Addr} {xs : List α} (hw : St w0 H w) (hp : pull i H = Option.some (Own T C A c xs, H')) : xs.length ≤ c := by
  obtain ⟨F, ho, hF⟩ := hw.get i hp
  rcases ho.2 with ⟨h1, h2⟩ | ⟨g, cap, cur, hvv, hbase, hh, hle, hmax, hcs, htake⟩
  · omega
  · have hcap : c = cap := by injection hvv
    omega
theorem Pu.cast {u v : Value} (e : u = v) (h : Pu P w0 o σ H u) : Pu P w0 o σ H v := e ▸ h
/-- Some rows are dropped. -/
theorem RowsA.sublist {ps qs : List (Sl × List α)} (h : qs.Sublist ps) : St w0 (RowsA T C ps :: H) w → St w0 (RowsA T C qs :: H) w := by
  induction h generalizing H with
  | slnil => exact id
  | cons p _ ih =>
    intro hw
    exact ih (RowsA.uncons (s := p.1) (xs := p.2) hw).2.tail
  | cons_cons p _ ih =>
    intro hw
    obtain ⟨h1, h2⟩ := RowsA.uncons (s := p.1) (xs := p.2) hw
    have h3 := ih (h2.perm (List.Perm.swap _ _ _))
    have h4 := RowsA.cons (h3.perm (List.Perm.swap _ _ _))
    have e : (⟨p.1.A, p.2.length, p.1.c⟩ : Sl) = p.1 := by rw [← h1]
    rw [e] at h4
    exact h4
end
/-! ### Arrays of three numbers, compared -/
section
variable {P : Program} {w0 w : World} {H : List Assn} {σ : Sig} {o : Oper}
theorem run_part_int {T : TypeId} (hT : P.underlying T = some (.int .i64)) (cs : Array Value) (j : Nat) (v : Value) (h : cs[j]? = some v) : (part T cs j).run P w = .ok v w := by
  have hp : plainT P T = true := by simp [plainT, hT]
  simp [part, run_isAgg_f hp, h]
theorem run_eq3 {T E : TypeId} (hT : P.underlying T = some (.array 3 E)) (hE : P.underlying E = some (.int .i64)) (hs : Sz P E 1) (a b : B3) (d : Nat) (w : World) : (Op.equalIn (d + 1 + 1) T (B3.v a) (B3.v b)).run P w = .ok (decide (a = b)) w := by
  obtain ⟨i, hi, hsz⟩ := Option.map_eq_some_iff.1 hs
  have hc : P.cellsOf E = 1 := by simp [Program.cellsOf, hi, hsz]
  unfold B3.v
  rw [run_equalIn_array w (d + 1) _ _ hT hi, hc]
  have r : List.range 3 = [0, 1, 2] := rfl
  have e0 : ∀ x y z : Value, (part E #[x, y, z] 0).run P w = .ok x w := fun x y z => run_part_int hE _ _ _ rfl
  have e1 : ∀ x y z : Value, (part E #[x, y, z] 1).run P w = .ok y w := fun x y z => run_part_int hE _ _ _ rfl
  have e2 : ∀ x y z : Value, (part E #[x, y, z] 2).run P w = .ok z w := fun x y z => run_part_int hE _ _ _ rfl
  have q : ∀ x y : Int, (Op.equalIn (d + 1) E (.int .i64 x) (.int .i64 y)).run P w = .ok (x == y) w := fun x y => run_equalIn_int w d E .i64 .i64 x y hE
  obtain ⟨a1, a2, a3⟩ := a
  obtain ⟨b1, b2, b3⟩ := b
  rw [r]
  simp only [Op.eqItems, Sem.run_bind, Nat.zero_mul, Nat.one_mul, Nat.mul_one, e0, e1, e2, q, Result.andThen_ok]
  by_cases h1 : a1 = b1
  · subst h1
    by_cases h2 : a2 = b2
    · subst h2
      by_cases h3 : a3 = b3
      · subst h3; simp [e0, e1, e2, q]
      · simp [h3, e0, e1, e2, q]
    · simp [h2, e0, e1, e2, q]
  · simp [h1, e0, e1, e2, q]
theorem guard3 {T : TypeId} {op : BinOp} {x y : Operand} {a b : B3} (hg : P.eqGuardType P.depth T = false) : (eqGuard op T x y (B3.v a) (B3.v b)).run P w = .ok () w := by
  unfold B3.v
  exact run_eqGuard_agg w op T x y _ _ hg
theorem Pu.eqlB3 {T T2 E : TypeId} {x y : Operand} {a b : B3} (hT : P.underlying T = some (.array 3 E)) (hE : P.underlying E = some (.int .i64)) (hs : Sz P E 1) (hg : P.eqGuardType P.depth T = false) (ho : o.op = .binOp .eql T x y T2) (hx : ev σ x = some (B3.v a)) (hy : ev σ y = some (B3.v b)) : Pu P w0 o σ H (.bool (decide (a = b))) := by
  intro w hw ac ha
  have h1 := ha x (by simp [ho, Op.operands]) _ hx
  have h2 := ha y (by simp [ho, Op.operands]) _ hy
  have hb : (Go.binOp .eql T (B3.v a) (B3.v b)).run P w = .ok (.bool (decide (a = b))) w := by
    have := run_eq3 hT hE hs a b 9998 w
    unfold B3.v at *
    rw [run_eql_struct, show (10000 : Nat) = 9998 + 1 + 1 from rfl, this]
    rfl
  simp only [execOp, ho, h1, h2, Sem.run_bind, guard3 hg, hb, Result.andThen_ok, Sem.run_pure]
theorem Pu.neqB3 {T T2 E : TypeId} {x y : Operand} {a b : B3} (hT : P.underlying T = some (.array 3 E)) (hE : P.underlying E = some (.int .i64)) (hs : Sz P E 1) (hg : P.eqGuardType P.depth T = false) (ho : o.op = .binOp .neq T x y T2) (hx : ev σ x = some (B3.v a)) (hy : ev σ y = some (B3.v b)) : Pu P w0 o σ H (.bool (!decide (a = b))) := by
  intro w hw ac ha
  have h1 := ha x (by simp [ho, Op.operands]) _ hx
  have h2 := ha y (by simp [ho, Op.operands]) _ hy
  have hb : (Go.binOp .neq T (B3.v a) (B3.v b)).run P w = .ok (.bool (!decide (a = b))) w := by
    have := run_eq3 hT hE hs a b 9998 w
    unfold B3.v at *
    rw [run_neq_struct, show (10000 : Nat) = 9998 + 1 + 1 from rfl, this]
    rfl
  simp only [execOp, ho, h1, h2, Sem.run_bind, guard3 hg, hb, Result.andThen_ok, Sem.run_pure]
end
theorem idxP_at {β : Type} {p : β → Prop} [DecidablePred p] {xs : List β} (h : ¬ idxP p xs = -1) : ∃ k, ∃ hk : k < xs.length, idxP p xs = (k : Int) ∧ p xs[k] ∧ ∀ j (hj : j < xs.length), j < k → ¬ p xs[j] := by
  by_cases hc : ∃ k, ∃ hk : k < xs.length, p xs[k]
  · obtain ⟨k, hk, h1⟩ := hc
    have key : ∀ n k (hk : k < xs.length), k ≤ n → p xs[k] → ∃ k, ∃ hk : k < xs.length, p xs[k] ∧ ∀ j (hj : j < xs.length), j < k → ¬ p xs[j] := by
      intro n
      induction n with
      | zero => intro k hk h0 h1; exact ⟨k, hk, h1, fun j hj h => by omega⟩
      | succ n ih =>
        intro k hk h0 h1
        by_cases h2 : ∃ j, ∃ hj : j < xs.length, j < k ∧ p xs[j]
        · obtain ⟨j, hj, h3, h4⟩ := h2
          exact ih j hj (by omega) h4
        · exact ⟨k, hk, h1, fun j hj h3 h4 => h2 ⟨j, hj, h3, h4⟩⟩
    obtain ⟨k, hk, h1, h2⟩ := key k k hk (Nat.le_refl _) h1
    exact ⟨k, hk, idxP_found hk h1 h2, h1, h2⟩
  · exact absurd (idxP_none (fun j hj hh => hc ⟨j, hj, hh⟩)) h
/-! ### What is kept -/
section
variable {β : Type} {p : β → Prop} [DecidablePred p] {ps : List β} {j : Nat}
def keptL (p : β → Prop) [DecidablePred p] (ps : List β) (j : Nat) : List β := (ps.take j).filter fun x => !decide (p x)
/-- The row while it is being moved together. -/
def movL (p : β → Prop) [DecidablePred p] (ps : List β) (j : Nat) : List β := keptL p ps j ++ ps.drop (keptL p ps j).length
end
end Go.Vc
/-
  Plain words: resolutions, by the numbers of their classes in a list.
-/
namespace Go.Vc

/-- Class j may come next, with the blocks that are left. -/
def okC (cl : List (List Int)) (left : List Int) (j : Nat) : Prop := (cl.getD j []).head? = left.head? ∧ ∀ k ∈ cl.getD j [], k ∈ left
noncomputable instance (cl : List (List Int)) (left : List Int) (j : Nat) : Decidable (okC cl left j) := Classical.propDecidable _
/-- The blocks that are left behind it. -/
def lessL (left c : List Int) : List Int := left.filter fun x => !decide (x ∈ c)
open Classical in
/-- All resolutions that go on, by the numbers of their classes. -/
noncomputable def resN (cl : List (List Int)) : Nat → List Int → List (List Nat)
  | 0, left => if left = [] then [[]] else []
  | n + 1, left => if left = [] then [[]] else (List.range cl.length).flatMap fun j => if okC cl left j then (resN cl n (lessL left (cl.getD j []))).map (j :: ·) else []
/-- .. of the first classes. -/
noncomputable def resJ (cl : List (List Int)) (n : Nat) (left : List Int) (j : Nat) : List (List Nat) := (List.range j).flatMap fun j => if okC cl left j then (resN cl n (lessL left (cl.getD j []))).map (j :: ·) else []
section
variable {cl : List (List Int)} {left : List Int} {n j m : Nat}
/-- The slices of a list of numbers of classes. -/
def topJ (tp : List Sl) (js : List Nat) : List Sl := js.map fun j => tp.getD j ⟨none, 0, 0⟩
/-- The numbers of the blocks that are such. -/
def numsAt (p : B3 → Prop) [DecidablePred p] (bs : List B3) (i : Nat) : List Int := ((List.range i).filter fun j => decide (p (bs.getD j (0, 0, 0)))).map fun (j : Nat) => (j : Int)
end
section
variable {p : B3 → Prop} [DecidablePred p] {bs : List B3} {i : Nat}
end
/-! ### The blocks that are left, by bits -/
def leftM (m len : Nat) : List Int := ((List.range len).filter fun i => !m.testBit i).map fun (i : Nat) => (i : Int)
theorem maskL_bit {xs : List Int} (h : ∀ p ∈ xs, 0 ≤ p) (q : Nat) : (maskL xs).testBit q = true ↔ (q : Int) ∈ xs := by
  have key : ∀ (xs : List Int) (m : Nat), (∀ p ∈ xs, 0 ≤ p) → ((xs.foldl (fun m p => m ||| 2 ^ p.toNat) m).testBit q = true ↔ m.testBit q = true ∨ (q : Int) ∈ xs) := by
    intro xs
    induction xs with
    | nil => intro m _; simp
    | cons x xs ih =>
      intro m hx
      rw [List.foldl_cons, ih _ (fun p hp => hx p (by simp [hp]))]
      have := hx x (by simp)
      simp only [Nat.testBit_or, Nat.testBit_two_pow, Bool.or_eq_true, decide_eq_true_eq, List.mem_cons, or_assoc]
      have e : x.toNat = q ↔ (q : Int) = x := by omega
      rw [e]
  unfold maskL
  rw [key xs 0 h]
  simp
theorem maskL_lt' {xs : List Int} {n : Nat} (h : ∀ p ∈ xs, 0 ≤ p ∧ p < n) : maskL xs < 2 ^ n := by
  have key : ∀ (xs : List Int) (m : Nat), m < 2 ^ n → (∀ p ∈ xs, 0 ≤ p ∧ p < n) → xs.foldl (fun m p => m ||| 2 ^ p.toNat) m < 2 ^ n := by
    intro xs
    induction xs with
    | nil => intro m hm _; exact hm
    | cons x xs ih =>
      intro m hm hx
      rw [List.foldl_cons]
      have := hx x (by simp)
      exact ih _ (Nat.or_lt_two_pow hm (Nat.pow_lt_pow_right (by decide) (by omega))) (fun p hp => hx p (by simp [hp]))
  exact key xs 0 (Nat.two_pow_pos n) h
/-- The lists that numbers of classes lead to. -/
def psJ (cl : List (Sl × List Int)) (q : List Nat) : List (Sl × List Int) := q.map fun j => cl.getD j (⟨none, 0, 0⟩, [])
theorem psJ_tops (cl : List (Sl × List Int)) (q : List Nat) : tops (psJ cl q) = topJ (tops cl) q := by
  unfold tops psJ topJ
  rw [List.map_map]
  refine List.map_congr_left fun j _ => ?_
  simp only [Function.comp, List.getD_eq_getElem?_getD, List.getElem?_map]
  cases cl[j]? <;> rfl
theorem psJ_mem {cl : List (Sl × List Int)} {q : List Nat} (hq : ∀ j ∈ q, j < cl.length) : ∀ p ∈ psJ cl q, p ∈ cl := by
  intro p hp
  obtain ⟨j, hj, rfl⟩ := List.mem_map.1 hp
  have := hq j hj
  rw [List.getD_eq_getElem?_getD, List.getElem?_eq_getElem this, Option.getD_some]
  exact List.getElem_mem _
theorem RdL.psJ {w : Go.World} {A : Option Go.Addr} {cl : List (Sl × List Int)} {q : List Nat} (htop : Rd SlC w A (topJ (tops cl) q)) (hn : LenOk cl) (hr : ∀ p ∈ cl, Rd I64 w p.1.A p.2) (hq : ∀ j ∈ q, j < cl.length) : RdL I64 w A (Vc.psJ cl q) :=
  ⟨by rw [psJ_tops]; exact htop, fun p hp => hn p (psJ_mem hq p hp), fun k hk => hr _ (psJ_mem hq _ (List.getElem_mem hk))⟩
def RSol (v : Int) (bs : List B3) (most : Nat) (cl : List (Sl × List Int)) (rs : List (List Sl)) (code : Int) : Prop :=
  (¬ STS v bs → code = 1 ∧ rs = []) ∧ (STS v bs → IsList (Cls v bs) (conts cl) ∧ ((80 < cl.length ∧ code = 3 ∧ rs = []) ∨ (cl.length ≤ 80 ∧ code = 0 ∧ rs = ((resN (conts cl) bs.length (leftM 0 bs.length)).take most).map (topJ (tops cl)))))
/-! ### The results -/
def CRes (v : Int) (bs : List B3) (n code : Int) : Prop :=
  (¬ STS v bs → n = 0 ∧ code = 1) ∧ (STS v bs → ∃ cl, IsList (Cls v bs) cl ∧ ((80 < cl.length ∧ n = 0 ∧ code = 3) ∨ (cl.length ≤ 80 ∧ 300 < (resN cl bs.length (leftM 0 bs.length)).length ∧ n = 0 ∧ code = 3) ∨ (cl.length ≤ 80 ∧ (resN cl bs.length (leftM 0 bs.length)).length ≤ 300 ∧ n = (resN cl bs.length (leftM 0 bs.length)).length ∧ code = 0)))
theorem CRes.unique {v : Int} {bs : List B3} {n n' code code' : Int} (h1 : CRes v bs n code) (h2 : CRes v bs n' code') : n' = n ∧ code' = code := by
  by_cases h : STS v bs
  · obtain ⟨l, a1, a2⟩ := h1.2 h
    obtain ⟨m, b1, b2⟩ := h2.2 h
    have e := a1.unique b1
    subst e
    omega
  · have := h1.1 h
    have := h2.1 h
    omega
noncomputable def fres (bs : List B3) (cl : List (List Int)) : List (List Int) × Int :=
  if 80 < cl.length then ([], 3) else match resN cl bs.length (leftM 0 bs.length) with
    | [] => ([], 4)
    | q :: _ => (q.map (fun j => cl.getD j []), 0)
def FRes (v : Int) (bs : List B3) (ls : List (List Int)) (code : Int) : Prop :=
  (¬ STS v bs → ls = [] ∧ code = 1) ∧ (STS v bs → ∃ cl, IsList (Cls v bs) cl ∧ (ls, code) = fres bs cl)
theorem FRes.unique {v : Int} {bs : List B3} {ls ls' : List (List Int)} {code code' : Int} (h1 : FRes v bs ls code) (h2 : FRes v bs ls' code') : ls' = ls ∧ code' = code := by
  by_cases h : STS v bs
  · obtain ⟨l, a1, a2⟩ := h1.2 h
    obtain ⟨m, b1, b2⟩ := h2.2 h
    have e := a1.unique b1
    subst e
    rw [← a2] at b2
    exact Prod.mk.injEq .. ▸ b2
  · have a := h1.1 h
    have b := h2.1 h
    exact ⟨by rw [a.1, b.1], by rw [a.2, b.2]⟩
theorem Ld.psJ {w0 : Go.World} {H H' H2 : List Assn} {T T2 : Go.TypeId} {ps : List (Sl × List Sl)} {cl : List (Sl × List Int)} {q : List Nat} (i j : Nat) (hp : pull i H = some (RowsA T SlC ps, H')) (hq : pull j H = some (RowsA T2 I64 cl, H2)) (e0 : 0 < ps.length) (hr0 : (ps[0]).2 = tops (Vc.psJ cl q)) (hn : LenOk cl) (hqix : ∀ j ∈ q, j < cl.length) : ∀ w, St w0 H w → RdL I64 w (ps[0]).1.A (Vc.psJ cl q) :=
  fun w hw => RdL.psJ (by rw [← psJ_tops, ← hr0]; exact Ld.rows i hp e0 w hw) hn (fun p hp' => (RowsA.rd hw hq hp').2) hqix
end Go.Vc
/-
  Plain words: completions, by the bits of the pairs that are used.
-/
namespace Go.Vc

theorem blt_no {a b : Nat} (h : ¬ a < b) : Nat.blt a b = false := by
  cases hh : Nat.blt a b with
  | false => rfl
  | true => rw [Nat.blt_eq] at hh; exact absurd hh h
/-- The number of a pair. -/
def prI (a b : Nat) : Nat := min a b * 16 + max a b
def usd (m a b : Nat) : Bool := m.testBit (prI a b)
def putM (m a b c : Nat) : Nat := m ||| 2 ^ prI a b ||| 2 ^ prI a c ||| 2 ^ prI b c
/-- The first pair that is left. -/
def rowN (v m a : Nat) : Option Nat := (List.range v).find? fun b => Nat.blt a b && !usd m a b
def nextM (v m : Nat) : Option (Nat × Nat) := (List.range v).findSome? fun a => (rowN v m a).map fun b => (a, b)
def may (m a b c : Nat) : Bool := Nat.blt b c && !usd m a c && !usd m b c
def b3N (a b c : Nat) : B3 := ((a : Int), (b : Int), (c : Int))
/-- All completions, each as the blocks that are put in. -/
def compM : Nat → Nat → Nat → List (List B3)
  | 0, v, m => match nextM v m with
    | none => [[]]
    | some _ => []
  | n + 1, v, m => match nextM v m with
    | none => [[]]
    | some (a, b) => (List.range v).flatMap fun c => if may m a b c then (compM n v (putM m a b c)).map (b3N a b c :: ·) else []
def compJ (n v m a b c : Nat) : List (List B3) := (List.range c).flatMap fun c => if may m a b c then (compM n v (putM m a b c)).map (b3N a b c :: ·) else []
/-- How many. -/
def cntM : Nat → Nat → Nat → Nat
  | 0, v, m => match nextM v m with
    | none => 1
    | some _ => 0
  | n + 1, v, m => match nextM v m with
    | none => 1
    | some (a, b) => (List.range v).foldl (fun s c => if may m a b c then s + cntM n v (putM m a b c) else s) 0
section
variable {v m a b c n : Nat}
structure IsNext (v m a b : Nat) : Prop where
  ab : a < b
  bv : b < v
  left : usd m a b = false
  row : ∀ y, a < y → y < b → usd m a y = true
  rows : ∀ x y, x < a → x < y → y < v → usd m x y = true
theorem rowN_none (h : ∀ y, a < y → y < v → usd m a y = true) : rowN v m a = none := by
  unfold rowN
  rw [List.find?_eq_none]
  intro y hy
  have := List.mem_range.1 hy
  simp only [Bool.and_eq_true, Nat.blt_eq, Bool.not_eq_true', not_and, Bool.not_eq_false]
  exact fun h1 => h y h1 this
theorem rowN_some (h1 : a < b) (h2 : b < v) (h3 : usd m a b = false) (h4 : ∀ y, a < y → y < b → usd m a y = true) : rowN v m a = some b := by
  unfold rowN
  rw [List.find?_range_eq_some]
  refine ⟨by simp [h1, h3], List.mem_range.2 h2, fun y hy => ?_⟩
  by_cases e : a < y
  · simp [h4 y e hy]
  · simp [blt_no e]
theorem nextM_none (h : ∀ x y, x < y → y < v → usd m x y = true) : nextM v m = none := by
  unfold nextM
  rw [List.findSome?_eq_none_iff]
  intro x hx
  rw [rowN_none (fun y h1 h2 => h x y h1 h2)]
  rfl
theorem findSome_range {α : Type} {f : Nat → Option α} {n k : Nat} {r : α} (hk : k < n) (hr : f k = some r) (hn : ∀ j, j < k → f j = none) : (List.range n).findSome? f = some r := by
  have e : List.range n = List.range k ++ k :: (List.range (n - k - 1)).map (k + 1 + ·) := by
    have h1 : n = k + (1 + (n - k - 1)) := by omega
    conv => lhs; rw [h1]
    rw [List.range_add, List.range_add]
    simp [List.range_succ, Nat.add_assoc, Nat.add_comm, Nat.add_left_comm]
  rw [e, List.findSome?_append]
  have h2 : (List.range k).findSome? f = none := by
    rw [List.findSome?_eq_none_iff]
    exact fun x hx => hn x (List.mem_range.1 hx)
  rw [h2]
  simp [hr]
theorem nextM_some (h : IsNext v m a b) : nextM v m = some (a, b) := by
  unfold nextM
  refine findSome_range (k := a) (Nat.lt_trans h.ab h.bv) ?_ ?_
  · rw [rowN_some h.ab h.bv h.left h.row]
    rfl
  · intro x hx
    rw [rowN_none (fun y h1 h2 => h.rows x y hx h1 h2)]
    rfl
/-! ### Pairs -/
theorem prI_comm (a b : Nat) : prI a b = prI b a := by unfold prI; rw [Nat.min_comm, Nat.max_comm]
theorem prI_inj {x y : Nat} (ha : a < 16) (hb : b < 16) (hx : x < 16) (hy : y < 16) (h : prI a b = prI x y) : (a = x ∧ b = y) ∨ (a = y ∧ b = x) := by
  unfold prI at h
  omega
theorem usd_put {x y : Nat} (ha : a < 16) (hb : b < 16) (hc : c < 16) (hx : x < 16) (hy : y < 16) : usd (putM m a b c) x y = true ↔ usd m x y = true ∨ ((x = a ∧ y = b) ∨ (x = b ∧ y = a)) ∨ ((x = a ∧ y = c) ∨ (x = c ∧ y = a)) ∨ ((x = b ∧ y = c) ∨ (x = c ∧ y = b)) := by
  unfold usd putM
  simp only [Nat.testBit_or, Nat.testBit_two_pow, Bool.or_eq_true, decide_eq_true_eq]
  have h1 : prI a b = prI x y ↔ (x = a ∧ y = b) ∨ (x = b ∧ y = a) := ⟨fun h => by have := prI_inj ha hb hx hy h; omega, by rintro (⟨rfl, rfl⟩ | ⟨rfl, rfl⟩); rfl; exact prI_comm _ _⟩
  have h2 : prI a c = prI x y ↔ (x = a ∧ y = c) ∨ (x = c ∧ y = a) := ⟨fun h => by have := prI_inj ha hc hx hy h; omega, by rintro (⟨rfl, rfl⟩ | ⟨rfl, rfl⟩); rfl; exact prI_comm _ _⟩
  have h3 : prI b c = prI x y ↔ (x = b ∧ y = c) ∨ (x = c ∧ y = b) := ⟨fun h => by have := prI_inj hb hc hx hy h; omega, by rintro (⟨rfl, rfl⟩ | ⟨rfl, rfl⟩); rfl; exact prI_comm _ _⟩
  rw [h1, h2, h3]
  simp only [or_assoc]
/-- How many pairs are left. -/
def prs (v : Nat) : List (Nat × Nat) := (List.range v).flatMap fun a => (List.range v).map fun b => (a, b)
def leftN (v m : Nat) : Nat := ((prs v).filter fun p => Nat.blt p.1 p.2 && !usd m p.1 p.2).length
end
end Go.Vc
/-
  Plain words: completions, by the table of third points; a list that is handed on one by one till it is enough.
-/
namespace Go.Vc
section
variable {v m a b c n : Nat} {G : Int → Int → Int}
/-- The pairs that the table has. -/
def Rel (v : Nat) (G : Int → Int → Int) (m : Nat) : Prop := ∀ x y : Nat, x < v → y < v → x ≠ y → (G x y = -1 ↔ usd m x y = false)
theorem b3N_three (h1 : a < b) (h2 : b < c) : three (b3N a b c) := by unfold three b3N; simp only; omega
theorem has_b3N {x : Nat} : has (b3N a b c) x ↔ x = a ∨ x = b ∨ x = c := by
  unfold has b3N
  simp only
  omega
theorem usd_putN {x y : Nat} (ha : a < b) (hb : b < c) (hc : c < 16) (hx : x < 16) (hy : y < 16) (hne : x ≠ y) : usd (putM m a b c) x y = false ↔ usd m x y = false ∧ ¬ (has (b3N a b c) x ∧ has (b3N a b c) y) := by
  have h := usd_put (m := m) (a := a) (b := b) (c := c) (by omega) (by omega) hc hx hy
  rw [has_b3N, has_b3N]
  constructor
  · intro h1
    have h2 : ¬ (usd (putM m a b c) x y = true) := by rw [h1]; decide
    rw [h] at h2
    refine ⟨?_, ?_⟩
    · cases hm : usd m x y with
      | false => rfl
      | true => exact absurd (.inl hm) h2
    · omega
  · rintro ⟨h1, h2⟩
    cases hm : usd (putM m a b c) x y with
    | false => rfl
    | true =>
      have h3 := h.1 hm
      rw [h1] at h3
      rcases h3 with h3 | h3
      · exact absurd h3 (by decide)
      · omega
/-! ### Handed on one by one -/
variable {α β : Type}
/-- What is handed on of a list, k being there already: till it is told to stop. -/
def runC (cont : Nat → Bool) : Nat → List α → List α
  | _, [] => []
  | k, x :: r => if cont (k + 1) then x :: runC cont (k + 1) r else [x]
def goesC (cont : Nat → Bool) : Nat → List α → Bool
  | _, [] => true
  | k, _ :: r => cont (k + 1) && goesC cont (k + 1) r
variable {cont : Nat → Bool} {k : Nat}
/-- The completions, behind blocks. -/
def leaf (xs : List B3) (l : List (List B3)) : List (List B3) := l.map (xs ++ ·)
end
end Go.Vc
/-
  The calculus, part 13: a store behind which less is known; a call of a value that turns memory.
-/
namespace Go.Vc
open Go Go.RowKit
section
variable {P : Program} {N : Nat} {w0 : World} {Q : Exit → Act → World → Prop} {σ σ' : Sig} {H H' Hs Hs' : List Assn} {ops : Array Oper}
def coverB (ops : Array Oper) (done free : List Nat) (o : Oper) : Bool := done.all fun i => (afters o).contains i || free.contains i
/-- A store: what has been read before may change, if those who read it are listed. -/
theorem D.effX (hwf : wfB ops = true) {effs done : List Nat} {e : Nat} {o : Oper} {K : Value → List Assn → Prop} (ho : ops[e]? = some o) (hne' : (done.contains e || !strictB ops e) = false) (hcl : closedB ops done e = true) (hg : o.guard = none)
    (hp : Ef P w0 o σ H Q K) (hd : o.dst = none) (free : List Nat) (hfree : coverB ops done free o = true) (hfreeD : ∀ i ∈ free, ∃ d v, look σ d = some v ∧ Nat.blt d N = true ∧ Det P w0 ops Q i σ Hs' d v)
    (h : ∀ v H', K v H' → (∀ w, St w0 H' w → St w0 Hs' w) ∧ D P N w0 ops Q (e :: afters o) (e :: done) σ Hs' H') : D P N w0 ops Q effs done σ Hs H := by
  have hne := (new_of hne').1
  have hcov : ∀ i ∈ done, i ∈ afters o ∨ i ∈ free := by
    intro i hi
    have := List.all_eq_true.1 hfree i hi
    simpa using this
  intro fuel
  induction fuel with
  | zero =>
    intro L a w hI hf
    exfalso
    have hel : e < L.size := by rw [hI.size]; exact (Array.getElem?_eq_some_iff.1 ho).1
    cases hv : L[e] with
    | true =>
      have := hI.listed e (by rw [Array.getElem?_eq_getElem hel, hv])
      simp [this] at hne
    | false =>
      have hmem : false ∈ L.toList := by
        rw [← hv]
        simp
      have : 0 < L.toList.countP (fun b => !b) := List.countP_pos_iff.2 ⟨false, hmem, rfl⟩
      omega
  | succ fuel ih =>
    intro L a w hI hf
    have hel : e < L.size := by rw [hI.size]; exact (Array.getElem?_eq_some_iff.1 ho).1
    have hLe : L[e]? = some false := by
      rw [Array.getElem?_eq_getElem hel]
      cases hv : L[e] with
      | true =>
        have := hI.listed e (by rw [Array.getElem?_eq_getElem hel, hv])
        simp [this] at hne
      | false => rfl
    refine ⟨fun hr => ?_, fun i hi => ?_⟩
    · obtain ⟨j, hj⟩ := pending_ready hwf hI.size (e + 1) e (by omega) hLe
      rw [hr] at hj
      simp at hj
    · obtain ⟨hLi, oi, hoi, hall⟩ := (mem_ready hI.size).1 hi
      by_cases hid : i ∈ done
      · rcases hI.dets i hid with he | ⟨d, v, σ1, ⟨o', ho', hod, hdet⟩, hv, hsub, hdN⟩
        · have := hI.effs_ i he
          rw [hLi] at this
          cases this
        · rw [hoi] at ho'
          cases ho'
          have hag := hI.agree hwf hi hoi
          refine hdet w (hI.sub w hI.st) a _ (fun t ht u hu => hag t ht u (hsub t u hu)) ?_
          exact ih _ _ _ (hI.step_det hwf hoi hod hLi hv hdN hid) (count_set hLi hf)
      · by_cases hie : i = e
        · subst hie
          obtain rfl : o = oi := by rw [ho] at hoi; exact Option.some.inj hoi
          have hag := hI.agree hwf hi ho
          have hlst : ∀ j ∈ afters o, L[j]? = some true := fun j hj => ready_after hI.size hi ho hj
          unfold wpOp
          rw [ho]
          simp only
          rw [if_pos (wanted_none hg _)]
          refine .inl (Oper.wp_mono ?_ (hp w hI.st a ?_))
          · rintro a' w' ⟨v, H', rfl, hw', hK⟩
            obtain ⟨hs', hD⟩ := h v H' hK
            have ha : a.put o.dst v = a := by rw [hd]; rfl
            rw [ha]
            refine hD _ _ _ _ ⟨by simpa using hI.size, hw', hI.defers, hI.tmps, ?_, ?_, ?_, ?_, hs', fun j hj => by rcases List.mem_cons.1 hj with e1 | e1; (· exact e1 ▸ (new_of hne').2); (· exact hI.strict j e1)⟩ (count_set hLi hf)
            · intro j hj
              rw [set_some hel] at hj
              by_cases e1 : j = i
              · simp [e1]
              · rw [if_neg e1] at hj
                exact List.mem_cons_of_mem _ (hI.listed j hj)
            · intro j hj
              rw [set_some hel]
              split
              · rfl
              · rename_i e1
                rcases List.mem_cons.1 hj with e2 | e2
                · exact absurd e2 e1
                · exact hlst j e2
            · intro t u hu
              rcases hI.slots t u hu with h1 | ⟨j, q, hj, hLj, hq, hqd⟩
              · exact .inl h1
              · refine .inr ⟨j, q, List.mem_cons_of_mem _ hj, ?_, hq, hqd⟩
                rw [set_some hel, if_neg]
                · exact hLj
                · rintro rfl
                  exact hid hj
            · intro j hj
              rcases List.mem_cons.1 hj with e1 | e1
              · exact .inl (by simp [e1])
              · rcases hcov j e1 with h1 | h1
                · exact .inl (List.mem_cons_of_mem _ h1)
                · obtain ⟨d, v1, hv1, hdN, hdet⟩ := hfreeD j h1
                  exact .inr ⟨d, v1, σ, hdet, hv1, fun t u hu => hu, hdN⟩
          · intro x hx u hu
            cases x with
            | tmp t =>
              have ht : t ∈ reads ops o := by
                unfold reads
                exact List.mem_append.2 (.inl (List.mem_filterMap.2 ⟨.tmp t, by simpa using hx, rfl⟩))
              have := hag t ht u hu
              simp [Act.eval, this]
            | const c => simpa [ev, Act.eval] using hu
            | global g => simpa [ev, Act.eval] using hu
            | func g => simpa [ev, Act.eval] using hu
        · exfalso
          have hc := List.all_eq_true.1 hcl i (List.mem_range.2 (by have := (Array.getElem?_eq_some_iff.1 hoi).1; exact this))
          simp only [hoi, Bool.or_eq_true] at hc
          rcases hc with (hc | hc) | hc
          · exact hid (by simpa using hc)
          · exact hie (Nat.eq_of_beq_eq_true hc)
          · obtain ⟨j, hj, hjd⟩ := List.any_eq_true.1 hc
            have := hI.listed j (ready_after hI.size hi hoi hj)
            simp [this] at hjd
/-- An operation that reads no memory is settled whatever the heap. -/
theorem Det.of {i d : Nat} {v : Value} {o : Oper} (ho : ops[i]? = some o) (hg : o.guard = none) (hd : o.dst = some d) (hp : Pu P w0 o σ Hs v) : Det P w0 ops Q i σ Hs d v := by
  refine ⟨o, ho, hd, fun w hw a K hag hK => ?_⟩
  unfold wpOp
  rw [ho]
  simp only
  rw [if_pos (wanted_none hg _)]
  refine .inl (upon_ok (hp w hw a ?_) ?_)
  · intro x hx u hu
    cases x with
    | tmp t =>
      have ht : t ∈ reads ops o := by
        unfold reads
        exact List.mem_append.2 (.inl (List.mem_filterMap.2 ⟨.tmp t, by simpa using hx, rfl⟩))
      have := hag t ht u hu
      simp [Act.eval, this]
    | const c => simpa [ev, Act.eval] using hu
    | global g => simpa [ev, Act.eval] using hu
    | func g => simpa [ev, Act.eval] using hu
  · rw [hd]
    exact hK
end
end Go.Vc
/-
  The calculus, part 14: a search for completions that hands them on.
-/
namespace Go.Vc
open Go Go.RowKit
section
variable {P : Program} {N : Nat} {w0 : World} {Q : Exit → Act → World → Prop} {σ : Sig} {H H' : List Assn} {ops : Array Oper} {rest : List Oper}
/-- A search: the completer's cells, its grid, its list; what has been handed on, l. -/
def CompK (T eT gT : TypeId) (cb gb v : Nat) (f : Value) (E : List (List B3) → Assn) (m : Nat) (xs : List B3) (l : List (List B3)) : Assn :=
  .exi fun q : (Option Addr × Nat) × (Int → Int → Int) => .sep (.pur (Rel v q.2 m)) (.sep (Blk cb [.int .i64 (v : Int), .pointer (some ⟨gb, 0, none⟩), .slice q.1.1 xs.length q.1.2, f] T) (.sep (Grid gb q.2 gT) (.sep (Own eT B3C q.1.1 q.1.2 xs) (E l))))
variable {T eT gT : TypeId} {cb gb v m : Nat} {f : Value} {E : List (List B3) → Assn} {xs : List B3} {l : List (List B3)}
theorem CompK.mk {A : Option Addr} {k : Nat} {G : Int → Int → Int} (hr : Rel v G m) {w : World} (hw : St w0 (Blk cb [.int .i64 (v : Int), .pointer (some ⟨gb, 0, none⟩), .slice A xs.length k, f] T :: Grid gb G gT :: Own eT B3C A k xs :: E l :: H) w) : St w0 (CompK T eT gT cb gb v f E m xs l :: H) w := by
  refine St.mkExi ((A, k), G) (St.unsep (St.addPur hr ?_))
  have h1 : St w0 (Own eT B3C A k xs :: E l :: Grid gb G gT :: Blk cb [.int .i64 (v : Int), .pointer (some ⟨gb, 0, none⟩), .slice A xs.length k, f] T :: H) w := hw.sub (Sub.keep 2 rfl (Sub.keep 2 rfl (Sub.keep 1 rfl (Sub.keep 0 rfl (Sub.refl _)))))
  have h2 := (St.unsep h1).perm (List.Perm.swap _ _ _)
  have h3 := (St.unsep h2).perm (List.Perm.swap _ _ _)
  exact St.unsep h3
/-- What a search calls with each completion. -/
def CallB (P : Program) (w0 : World) (eT : TypeId) (gf : Nat) (caps : Array Value) (E : List (List B3) → Assn) (cont : Nat → Bool) (okL : List B3 → Prop) (M : Nat) : Prop :=
  ∀ (l : List (List B3)) (xs : List B3) (A : Option Addr) (k : Nat) (H : List Assn), l.length < M → okL xs → Does P gf ([.slice A xs.length k] ++ caps.toList) w0 (Own eT B3C A k xs :: E l :: H) (fun r => [.sep (.pur (r = .bool (cont (l.length + 1)))) (.sep (Own eT B3C A k xs) (E (l ++ [xs])))] ++ H)
end
section
variable {v m a b c n p k M : Nat} {cont : Nat → Bool} {xs : List B3} {l : List (List B3)} {okL : List B3 → Prop}
end
end Go.Vc
/-
  The calculus, part 15: arrays and structs that are built.
-/
namespace Go.Vc
open Go Go.RowKit
section
variable {P : Program} {N : Nat} {w0 : World} {Q : Exit → Act → World → Prop} {σ σ' : Sig} {H H' : List Assn} {ops : Array Oper} {o : Oper}
theorem parts_eval {a : Act} {parts : Array (Nat × Operand)} {vs : List Value} (h2 : (parts.toList.map (·.2)).map a.eval = vs) : (parts.map fun (i, x) => (i, a.eval x)).toList = (parts.toList.map (·.1)).zip vs := by
  rw [← h2, Array.toList_map]
  generalize parts.toList = l
  induction l with
  | nil => rfl
  | cons p l ih => simp [ih]
theorem Pu.buildA {T e n sz : Nat} {parts : Array (Nat × Operand)} {vs cs : List Value} {z v : Value} (hv : v = .agg cs.toArray) (ho : o.op = .build T parts) (hT : P.underlying T = some (.array n e)) (hz : Zr P T z) (hs : Sz P e sz)
    (hx : evs σ (parts.toList.map (·.2)) = some vs) (hf : Instr.fill (fun i => some (i * sz, sz)) z.cells ((parts.toList.map (·.1)).zip vs) = some cs.toArray) : Pu P w0 o σ H v := by
  subst hv
  intro w hw a ha
  have h2 := evs_map (a := a) (fun x hx v hv => ha x (by simpa [ho, Op.operands] using hx) v hv) hx
  have hp := parts_eval h2
  simp only [execOp, ho, Instr.build, Sem.run_bind, run_zr hz, Result.andThen_ok, run_underlying hT, run_sz hs, hp, hf, Sem.run_pure]
def szOf (P : Program) (t : Nat) : Nat := ((P.info? t).map (·.size)).getD 0
def placesOf (P : Program) (fs : List Field) : List (Nat × Nat) := fs.map fun f => (f.offset, szOf P f.type)
def knownB (P : Program) (fs : List Field) : Bool := fs.all fun f => (P.info? f.type).isSome
theorem run_mapM {α β : Type} {f : α → Sem β} {g : α → β} {w : World} (l : Array α) (h : ∀ x, x ∈ l → (f x).run P w = .ok (g x) w) : (l.mapM f).run P w = .ok (l.toList.map g).toArray w := by
  obtain ⟨l⟩ := l
  rw [List.mapM_toArray, map_eq_pure_bind]
  have key : ∀ l : List α, (∀ x, x ∈ l → (f x).run P w = .ok (g x) w) → (l.mapM f).run P w = .ok (l.map g) w := by
    intro l
    induction l with
    | nil => intro _; rfl
    | cons x l ih =>
      intro h
      rw [List.mapM_cons]
      simp only [Sem.run_bind, h x (by simp), Result.andThen_ok, ih (fun y hy => h y (by simp [hy])), Sem.run_pure, List.map_cons]
  simp only [Sem.run_bind, key l (fun x hx => h x (by simpa using hx)), Result.andThen_ok, Sem.run_pure]
theorem Pu.buildS {T : Nat} {fields : Array Field} {parts : Array (Nat × Operand)} {vs cs : List Value} {z v : Value} (hv : v = .agg cs.toArray) (ho : o.op = .build T parts) (hT : P.underlying T = some (.struct fields)) (hz : Zr P T z) (hk : knownB P fields.toList = true)
    (hx : evs σ (parts.toList.map (·.2)) = some vs) (hf : Instr.fill (fun i => (placesOf P fields.toList).toArray[i]?) z.cells ((parts.toList.map (·.1)).zip vs) = some cs.toArray) : Pu P w0 o σ H v := by
  subst hv
  intro w hw a ha
  have h2 := evs_map (a := a) (fun x hx v hv => ha x (by simpa [ho, Op.operands] using hx) v hv) hx
  have hp := parts_eval h2
  have hm := run_mapM (P := P) (w := w) (f := fun f : Field => (do pure (f.offset, ← sizeOf f.type) : Sem (Nat × Nat))) (g := fun f => (f.offset, szOf P f.type)) fields (fun x hx => by
    have h3 := List.all_eq_true.1 hk x (by simpa using hx)
    obtain ⟨i, hi⟩ := Option.isSome_iff_exists.1 h3
    have hs : Sz P x.type (szOf P x.type) := by unfold Sz szOf; rw [hi]; rfl
    simp only [Sem.run_bind, run_sz hs, Result.andThen_ok, Sem.run_pure])
  have hm' : (fields.mapM fun f => (do pure (f.offset, ← sizeOf f.type) : Sem (Nat × Nat))).run P w = .ok (placesOf P fields.toList).toArray w := hm
  simp only [execOp, ho, Instr.build, Sem.run_bind, run_zr hz, Result.andThen_ok, run_underlying hT, hm', hp, hf, Sem.run_pure]
end
end Go.Vc
/-
  The calculus, part 16: lists of systems with one number of points.
-/
namespace Go.Vc
open Go Go.RowKit
/-- A system with v points: the number and the slice of its blocks. -/
def SyC (v : Int) : Cod Sl := ⟨2, fun s => [.int .i64 v, s.v], by decide, fun _ => rfl, fun _ u hu => by simp at hu; rcases hu with rfl | rfl <;> rfl⟩
section
variable {P : Program} {N : Nat} {w0 w : World} {Q : Exit → Act → World → Prop} {σ : Sig} {H H' : List Assn} {ops : Array Oper} {rest : List Oper} {T : TypeId} {v : Int}
/-- A list of systems that is read. -/
structure RdY (v : Int) (w : World) (A : Option Addr) (ps : List (Sl × List B3)) : Prop where
  top : Rd (SyC v) w A (tops ps)
  len : LenOk ps
  row : ∀ k (hk : k < ps.length), Rd B3C w (ps[k]).1.A (ps[k]).2
theorem RdY.st {A : Option Addr} {ps : List (Sl × List B3)} (h : RdY v w0 A ps) (hw : St w0 H w) : RdY v w A ps := ⟨h.top.st hw, h.len, fun k hk => (h.row k hk).st hw⟩
theorem RdY.below {A : Option Addr} {ps : List (Sl × List B3)} (h : RdY v w0 A ps) (hb : Bel w0.heap.size w0 w) : RdY v w A ps := ⟨h.top.below hb, h.len, fun k hk => (h.row k hk).below hb⟩
/-- A box with a list of systems, and a box with their number of points: what has come so far, l. -/
def SysE (sT bT lT iT : TypeId) (v : Int) (b0 b1 : Nat) (l : List (List B3)) : Assn :=
  .exi fun q : (Option Addr × Nat) × List (Sl × List B3) => .sep (.pur (conts q.2 = l)) (.sep (Blk b0 [.slice q.1.1 (tops q.2).length q.1.2] lT) (.sep (Blk b1 [.int .i64 v] iT) (.sep (Own sT (SyC v) q.1.1 q.1.2 (tops q.2)) (RowsA bT B3C q.2))))
variable {sT bT lT iT : TypeId} {b0 b1 : Nat} {l : List (List B3)}
theorem SysE.elim (hw : St w0 (SysE sT bT lT iT v b0 b1 l :: H) w) : ∃ A k ps, conts ps = l ∧ St w0 (Blk b0 [.slice A (tops ps).length k] lT :: Blk b1 [.int .i64 v] iT :: Own sT (SyC v) A k (tops ps) :: RowsA bT B3C ps :: H) w := by
  obtain ⟨q, hw⟩ := hw.exi
  have h1 := hw.sep.pur
  refine ⟨q.1.1, q.1.2, q.2, h1.1, ?_⟩
  have h2 := h1.2.sep
  have h3 := (h2.perm (List.Perm.swap _ _ _)).sep
  have h5 := (h3.perm (List.Perm.swap _ _ _)).sep
  exact (h5.sub (Sub.keep 3 rfl (Sub.keep 2 rfl (Sub.keep 0 rfl (Sub.keep 0 rfl (Sub.refl _))))))
theorem SysE.mk {A : Option Addr} {k : Nat} {ps : List (Sl × List B3)} (hl : conts ps = l) (hw : St w0 (Blk b0 [.slice A (tops ps).length k] lT :: Blk b1 [.int .i64 v] iT :: Own sT (SyC v) A k (tops ps) :: RowsA bT B3C ps :: H) w) : St w0 (SysE sT bT lT iT v b0 b1 l :: H) w := by
  refine St.mkExi ((A, k), ps) (St.unsep (St.addPur hl ?_))
  have h1 : St w0 (Own sT (SyC v) A k (tops ps) :: RowsA bT B3C ps :: Blk b1 [.int .i64 v] iT :: Blk b0 [.slice A (tops ps).length k] lT :: H) w := hw.sub (Sub.keep 2 rfl (Sub.keep 2 rfl (Sub.keep 1 rfl (Sub.keep 0 rfl (Sub.refl _)))))
  have h2 := (St.unsep h1).perm (List.Perm.swap _ _ _)
  have h3 := (St.unsep h2).perm (List.Perm.swap _ _ _)
  exact St.unsep h3
end
end Go.Vc
/-
  Plain words: completions are in order, and none lacks.
-/
namespace Go.Vc
theorem lt_trans3 {a b c : B3} (h1 : B3.lt a b) (h2 : B3.lt b c) : B3.lt a c := by unfold B3.lt at *; omega
section
variable {v m a b c n : Nat}
theorem next_cases (v m : Nat) : (∀ x y, x < y → y < v → usd m x y = true) ∨ ∃ a b, IsNext v m a b := by
  have key : ∀ k, k ≤ v → (∀ x y, x < k → x < y → y < v → usd m x y = true) ∨ ∃ a b, IsNext v m a b := by
    intro k
    induction k with
    | zero => intro _; exact .inl (fun x y h => by omega)
    | succ k ih =>
      intro hk
      rcases ih (by omega) with h | h
      · have key2 : ∀ j, j ≤ v → (∀ y, k < y → y < j → usd m k y = true) ∨ ∃ a b, IsNext v m a b := by
          intro j
          induction j with
          | zero => intro _; exact .inl (fun y _ h => by omega)
          | succ j ihj =>
            intro hj
            rcases ihj (by omega) with h1 | h1
            · by_cases hkj : k < j
              · cases hu : usd m k j with
                | true => exact .inl (fun y h2 h3 => by by_cases e : y = j; (· subst e; exact hu); (· exact h1 y h2 (by omega)))
                | false => exact .inr ⟨k, j, hkj, by omega, hu, h1, fun x y h2 h3 h4 => h x y h2 h3 h4⟩
              · exact .inl (fun y h2 h3 => by omega)
            · exact .inr h1
        rcases key2 v (Nat.le_refl _) with h1 | h1
        · exact .inl (fun x y h2 h3 h4 => by by_cases e : x = k; (· subst e; exact h1 y h3 h4); (· exact h x y (by omega) h3 h4))
        · exact .inr h1
      · exact .inr h
  rcases key v (Nat.le_refl _) with h | h
  · exact .inl (fun x y h1 h2 => h x y (by omega) h1 h2)
  · exact .inr h
theorem next_spec (h : nextM v m = some (a, b)) : IsNext v m a b := by
  rcases next_cases v m with h1 | ⟨x, y, h1⟩
  · rw [nextM_none h1] at h; cases h
  · rw [nextM_some h1] at h
    obtain ⟨rfl, rfl⟩ := Prod.mk.inj (Option.some.inj h)
    exact h1
theorem next_none (h : nextM v m = none) : ∀ x y, x < y → y < v → usd m x y = true := by
  rcases next_cases v m with h1 | ⟨x, y, h1⟩
  · exact h1
  · rw [nextM_some h1] at h; cases h
theorem may_spec (h : may m a b c = true) : b < c ∧ usd m a c = false ∧ usd m b c = false := by
  unfold may at h
  simp only [Bool.and_eq_true, Nat.blt_eq, Bool.not_eq_true'] at h
  exact ⟨h.1.1, h.1.2, h.2⟩
/-- A member is either the empty one, or begins with a block. -/
theorem mem_comp {q : List B3} (h : q ∈ compM n v m) : (q = [] ∧ nextM v m = none) ∨ ∃ k a b c r, n = k + 1 ∧ nextM v m = some (a, b) ∧ c < v ∧ may m a b c = true ∧ r ∈ compM k v (putM m a b c) ∧ q = b3N a b c :: r := by
  cases n with
  | zero =>
    unfold compM at h
    split at h
    · rename_i e; simp at h; exact .inl ⟨h, e⟩
    · simp at h
  | succ n =>
    unfold compM at h
    split at h
    · rename_i e; simp at h; exact .inl ⟨h, e⟩
    · rename_i a b e
      obtain ⟨c, hc, h1⟩ := List.mem_flatMap.1 h
      split at h1
      · rename_i hm
        obtain ⟨r, hr, rfl⟩ := List.mem_map.1 h1
        exact .inr ⟨n, a, b, c, r, rfl, e, List.mem_range.1 hc, hm, hr, rfl⟩
      · simp at h1
/-- A block whose first pair is left. -/
def Free (v m : Nat) (d : B3) : Prop := ∃ x y z : Nat, d = b3N x y z ∧ x < y ∧ y < z ∧ z < v ∧ usd m x y = false
theorem comp_free : ∀ n v m (q : List B3), v ≤ 15 → q ∈ compM n v m → ∀ d ∈ q, Free v m d := by
  intro n
  induction n with
  | zero =>
    intro v m q hv hq d hd
    rcases mem_comp hq with ⟨rfl, _⟩ | ⟨k, a, b, c, r, hk, _⟩
    · simp at hd
    · omega
  | succ n ih =>
    intro v m q hv hq d hd
    rcases mem_comp hq with ⟨rfl, _⟩ | ⟨k, a, b, c, r, hk, hn, hc, hm, hr, rfl⟩
    · simp at hd
    · obtain rfl : n = k := by omega
      have hI := next_spec hn
      obtain ⟨h1, h2, h3⟩ := may_spec hm
      rcases List.mem_cons.1 hd with rfl | hd
      · exact ⟨a, b, c, rfl, hI.ab, h1, hc, hI.left⟩
      · obtain ⟨x, y, z, e, hx, hy, hz, hu⟩ := ih _ _ _ hv hr d hd
        refine ⟨x, y, z, e, hx, hy, hz, ?_⟩
        cases hh : usd m x y with
        | false => rfl
        | true =>
          have := (usd_put (m := m) (a := a) (b := b) (c := c) (by have := hI.ab; have := hI.bv; omega) (by have := hI.bv; omega) (by omega) (x := x) (y := y) (by omega) (by omega)).2 (.inl hh)
          rw [this] at hu
          cases hu
theorem b3N_lt {x y z a b c : Nat} (h : a < x ∨ (a = x ∧ b < y)) : B3.lt (b3N a b c) (b3N x y z) := by unfold B3.lt b3N; simp only; omega
theorem comp_sorted : ∀ n v m (q : List B3), v ≤ 15 → q ∈ compM n v m → q.Pairwise B3.lt := by
  intro n
  induction n with
  | zero =>
    intro v m q hv hq
    rcases mem_comp hq with ⟨rfl, _⟩ | ⟨k, a, b, c, r, hk, _⟩
    · exact List.Pairwise.nil
    · omega
  | succ n ih =>
    intro v m q hv hq
    rcases mem_comp hq with ⟨rfl, _⟩ | ⟨k, a, b, c, r, hk, hn, hc, hm, hr, rfl⟩
    · exact List.Pairwise.nil
    · obtain rfl : n = k := by omega
      have hI := next_spec hn
      obtain ⟨h1, h2, h3⟩ := may_spec hm
      have hab := hI.ab
      have hbv := hI.bv
      refine List.pairwise_cons.2 ⟨fun d hd => ?_, ih _ _ _ hv hr⟩
      obtain ⟨x, y, z, rfl, hx, hy, hz, hu⟩ := comp_free _ _ _ _ hv hr d hd
      have hup := usd_put (m := m) (a := a) (b := b) (c := c) (by omega) (by omega) (by omega) (x := x) (y := y) (by omega) (by omega)
      refine b3N_lt ?_
      apply Decidable.byContradiction
      intro hc'
      have : usd (putM m a b c) x y = true := by
        rw [hup]
        by_cases e : x = a ∧ y = b
        · exact .inr (.inl (.inl e))
        · refine .inl ?_
          by_cases e1 : x < a
          · exact hI.rows x y e1 hx (by omega)
          · obtain rfl : x = a := by omega
            exact hI.row y hx (by omega)
      rw [this] at hu
      cases hu
/-- One list of blocks comes ahead of another one: at the first place where they differ. -/
def befB : List B3 → List B3 → Prop
  | x :: a, y :: b => if x = y then befB a b else B3.lt x y
  | _, _ => False
noncomputable instance (a b : List B3) : Decidable (befB a b) := Classical.propDecidable _
/-! ### How many blocks -/
end
end Go.Vc
/-
  Plain words: each full system is a completion of the empty one.
-/
namespace Go.Vc
section
variable {v m n : Nat}
/-- A block whose pairs are left. -/
def Opn (m : Nat) (d : B3) : Prop := ∃ x y z : Nat, d = b3N x y z ∧ x < y ∧ y < z ∧ usd m x y = false ∧ usd m x z = false ∧ usd m y z = false
def inB (v : Nat) (d : B3) : Prop := ∃ x y z : Nat, d = b3N x y z ∧ x < y ∧ y < z ∧ z < v
theorem good.inB {d : B3} (h : good v d) : inB v d := by
  obtain ⟨a, b, c⟩ := d
  unfold good at h
  simp only at h
  refine ⟨a.toNat, b.toNat, c.toNat, ?_, by omega, by omega, by omega⟩
  unfold b3N
  rw [Int.toNat_of_nonneg (by omega), Int.toNat_of_nonneg (by omega), Int.toNat_of_nonneg (by omega)]
/-- What is asked of the blocks that are yet to come. -/
structure Rest (v m : Nat) (B : List B3) : Prop where
  ok : ∀ d ∈ B, inB v d
  opn : ∀ d ∈ B, Opn m d
  lt : B.Pairwise B3.lt
  fit : B.Pairwise fun d e => common e d ≤ 1
theorem b3N_inj {x y z a b c : Nat} (h : b3N x y z = b3N a b c) : x = a ∧ y = b ∧ z = c := by
  unfold b3N at h
  simp only [Prod.mk.injEq] at h
  omega
theorem Rest.tail {x y z : Nat} {B : List B3} (hv : v ≤ 15) (h : Rest v m (b3N x y z :: B)) (hx : x < y) (hy : y < z) (hz : z < v) : Rest v (putM m x y z) B := by
  obtain ⟨h1, h2⟩ := List.pairwise_cons.1 h.lt
  obtain ⟨h3, h4⟩ := List.pairwise_cons.1 h.fit
  refine ⟨fun d hd => h.ok d (by simp [hd]), fun d hd => ?_, h2, h4⟩
  obtain ⟨a, b, c, rfl, ha, hb, u1, u2, u3⟩ := h.opn d (by simp [hd])
  obtain ⟨a', b', c', e, _, _, hc⟩ := h.ok _ (List.mem_cons_of_mem _ hd)
  obtain ⟨rfl, rfl, rfl⟩ := b3N_inj e
  have hc3 := h3 _ hd
  rw [common_le (b3N_three hx hy)] at hc3
  have k1 : ∀ p q : Nat, p < q → q < v → usd m p q = false → ¬ (has (b3N x y z) p ∧ has (b3N x y z) q) → usd (putM m x y z) p q = false := fun p q h1 h2 h3 h4 => (usd_putN hx hy (by omega) (by omega) (by omega) (by omega)).2 ⟨h3, h4⟩
  exact ⟨a, b, c, rfl, ha, hb, k1 a b (by omega) (by omega) u1 hc3.1, k1 a c (by omega) (by omega) u2 hc3.2.1, k1 b c (by omega) (by omega) u3 hc3.2.2⟩
/-! ### The pairs of blocks -/
def putB (m : Nat) (d : B3) : Nat := putM m d.1.toNat d.2.1.toNat d.2.2.toNat
def maskB (m : Nat) (bs : List B3) : Nat := bs.foldl putB m
theorem putB_b3N {x y z : Nat} : putB m (b3N x y z) = putM m x y z := by unfold putB b3N; simp
theorem usd_mask : ∀ (B : List B3) (m : Nat), v ≤ 15 → (∀ d ∈ B, inB v d) → ∀ x y, x < y → y < v → (usd (maskB m B) x y = true ↔ usd m x y = true ∨ ∃ d ∈ B, has d x ∧ has d y) := by
  intro B
  induction B with
  | nil => intro m _ _ x y _ _; simp [maskB]
  | cons b B ih =>
    intro m hv h x y hx hy
    obtain ⟨a, b', c, rfl, h1, h2, h3⟩ := h b (by simp)
    have e : maskB m (b3N a b' c :: B) = maskB (putM m a b' c) B := by unfold maskB; rw [List.foldl_cons, putB_b3N]
    rw [e, ih _ hv (fun d hd => h d (by simp [hd])) x y hx hy]
    have hup := usd_putN (m := m) (x := x) (y := y) h1 h2 (by omega : c < 16) (by omega) (by omega) (by omega)
    constructor
    · rintro (g | ⟨d, hd, g⟩)
      · cases hu : usd m x y with
        | true => exact .inl rfl
        | false =>
          refine .inr ⟨b3N a b' c, by simp, ?_⟩
          apply Decidable.byContradiction
          intro g2
          rw [hup.2 ⟨hu, g2⟩] at g
          cases g
      · exact .inr ⟨d, by simp [hd], g⟩
    · rintro (g | ⟨d, hd, g⟩)
      · refine .inl ?_
        cases hu : usd (putM m a b' c) x y with
        | true => rfl
        | false => rw [(hup.1 hu).1] at g; cases g
      · rcases List.mem_cons.1 hd with rfl | hd
        · refine .inl ?_
          cases hu : usd (putM m a b' c) x y with
          | true => rfl
          | false => exact absurd g (hup.1 hu).2
        · exact .inr ⟨d, hd, g⟩
theorem usd_zero (x y : Nat) : usd 0 x y = false := by simp [usd]
theorem sts_lt {v : Int} {bs : List B3} (h : STS v bs) : bs.Pairwise B3.lt := by
  have key : ∀ i j (hi : i < bs.length) (hj : j < bs.length), i < j → B3.lt bs[i] bs[j] := by
    intro i j
    induction j with
    | zero => intro _ _ h; omega
    | succ j ih =>
      intro hi hj hij
      have h1 := (h.ord (j + 1) hj hj).2 j (by omega) rfl
      by_cases e : i = j
      · subst e; exact h1
      · exact lt_trans3 (ih hi (by omega) (by omega)) h1
  rw [List.pairwise_iff_getElem]
  exact fun i j hi hj hij => key i j hi hj hij
theorem sts_rest {bs : List B3} (h : STS (v : Int) bs) : Rest v 0 bs := by
  have hg : ∀ d ∈ bs, inB v d := fun d hd => (h.good d hd).inB
  refine ⟨hg, fun d hd => ?_, sts_lt h, ?_⟩
  · obtain ⟨x, y, z, rfl, h1, h2, h3⟩ := hg d hd
    exact ⟨x, y, z, rfl, h1, h2, usd_zero _ _, usd_zero _ _, usd_zero _ _⟩
  · rw [List.pairwise_iff_getElem]
    exact fun i j hi hj hij => h.fits j hj hj i hi hij
end
end Go.Vc
/-
  How many systems of 3, 7 and 9 points there are, counted by the kernel.
-/
namespace Go.Vc
end Go.Vc
/-
  Plain words: the number of a system; what is common.
-/
namespace Go.Vc
def few9 (v : Int) : Prop := v = 3 ∨ v = 7 ∨ v = 9
instance (v : Int) : Decidable (few9 v) := inferInstanceAs (Decidable (_ ∨ _))
/-- Full, with few points. -/
def Few (v : Int) (bs : List B3) : Prop := few9 v ∧ 6 * (bs.length : Int) = v * (v - 1)
instance (v : Int) (bs : List B3) : Decidable (Few v bs) := inferInstanceAs (Decidable (_ ∧ _))
/-- All systems of few points. -/
noncomputable def allN (v : Int) : List (List B3) := compM 40 v.toNat 0
theorem sts_mul {v : Int} {bs : List B3} (h : STS v bs) : 0 ≤ v * (v - 1) ∧ v * (v - 1) ≤ 1000000 := by
  have h1 := h.lo
  have h2 := h.hi
  refine ⟨Int.mul_nonneg (by omega) (by omega), ?_⟩
  have := Int.mul_le_mul h2 (show v - 1 ≤ 15 by omega) (by omega) (by omega)
  omega
/-- The number of a system, and the code. -/
def NOS (v : Int) (bs : List B3) (r code : Int) : Prop := (¬ STS v bs → r = 0 ∧ code = 1) ∧ (STS v bs → ¬ Few v bs → r = 0 ∧ code = 5) ∧ (STS v bs → Few v bs → r = idxP (fun q => bs = q) (allN v) ∧ code = 0)
theorem NOS.unique {v : Int} {bs : List B3} {r c s d : Int} (h : NOS v bs r c) (g : NOS v bs s d) : r = s ∧ c = d := by
  by_cases hS : STS v bs
  · by_cases hf : Few v bs
    · have := h.2.2 hS hf; have := g.2.2 hS hf; omega
    · have := h.2.1 hS hf; have := g.2.1 hS hf; omega
  · have := h.1 hS; have := g.1 hS; omega
end Go.Vc
/-
  The calculus, part 17: the least and the greatest of integers.
-/
namespace Go.Vc
open Go Go.RowKit
section
variable {P : Program} {w0 w : World} {Q : Exit → Act → World → Prop} {σ : Sig} {H : List Assn} {o : Oper} {ts : Array TypeId}
theorem run_min2 (a b : Int) : (Builtin.min2 (.int .i64 a) (.int .i64 b)).run P w = .ok (.int .i64 (if b < a then b else a)) w := by
  unfold Builtin.min2
  by_cases h : b < a <;> simp [h]
theorem run_max2 (a b : Int) : (Builtin.max2 (.int .i64 a) (.int .i64 b)).run P w = .ok (.int .i64 (if a < b then b else a)) w := by
  unfold Builtin.max2
  by_cases h : a < b <;> simp [h]
theorem Pu.min3 {x y z : Operand} {a b d r : Int} (hr : r = if d < (if b < a then b else a) then d else (if b < a then b else a)) (ho : o.op = .call { callee := .builtin .min, args := #[x, y, z], argTypes := ts }) (hx : ev σ x = some (.int .i64 a)) (hy : ev σ y = some (.int .i64 b)) (hz : ev σ z = some (.int .i64 d)) : Pu P w0 o σ H (.int .i64 r) := by
  subst hr
  intro w hw c ha
  have h1 := ha x (by simp [ho, Op.operands, Call.operands]) _ hx
  have h2 := ha y (by simp [ho, Op.operands, Call.operands]) _ hy
  have h3 := ha z (by simp [ho, Op.operands, Call.operands]) _ hz
  simp [execOp, ho, h1, h2, h3, resolve, invoke, builtin, Builtin.min_, run_min2]
theorem Pu.max3 {x y z : Operand} {a b d r : Int} (hr : r = if (if a < b then b else a) < d then d else (if a < b then b else a)) (ho : o.op = .call { callee := .builtin .max, args := #[x, y, z], argTypes := ts }) (hx : ev σ x = some (.int .i64 a)) (hy : ev σ y = some (.int .i64 b)) (hz : ev σ z = some (.int .i64 d)) : Pu P w0 o σ H (.int .i64 r) := by
  subst hr
  intro w hw c ha
  have h1 := ha x (by simp [ho, Op.operands, Call.operands]) _ hx
  have h2 := ha y (by simp [ho, Op.operands, Call.operands]) _ hy
  have h3 := ha z (by simp [ho, Op.operands, Call.operands]) _ hz
  simp [execOp, ho, h1, h2, h3, resolve, invoke, builtin, Builtin.max_, run_max2]
end
end Go.Vc
/-
  Plain words: blocks in order, by insertion.
-/
namespace Go.Vc
def leB (a b : B3) : Prop := ¬ B3.lt b a
theorem leB_trans {a b c : B3} (h1 : leB a b) (h2 : leB b c) : leB a c := by unfold leB B3.lt at *; omega
theorem leB_of {a b : B3} (h : B3.lt a b) : leB a b := by unfold leB B3.lt at *; omega
theorem leB_anti {a b : B3} (h1 : leB a b) (h2 : leB b a) : a = b := by
  obtain ⟨a1, a2, a3⟩ := a
  obtain ⟨b1, b2, b3⟩ := b
  unfold leB B3.lt at *
  simp only at *
  have e1 : a1 = b1 := by omega
  have e2 : a2 = b2 := by omega
  have e3 : a3 = b3 := by omega
  rw [e1, e2, e3]
def SrtB (l : List B3) : Prop := l.Pairwise leB
theorem ins_perm {l : List B3} {b : B3} {y : Nat} : (l.take y ++ b :: l.drop y).Perm (l ++ [b]) := by
  refine List.perm_middle.trans ?_
  rw [List.take_append_drop]
  exact (List.perm_append_comm (l₁ := [b])).trans (List.Perm.refl _)
theorem ins_sorted {l : List B3} {b : B3} {y : Nat} (hs : SrtB l) (hy : y ≤ l.length) (h1 : ∀ j (hj : j < l.length), y ≤ j → B3.lt b l[j]) (h2 : ∀ (h0 : 0 < y), ¬ B3.lt b (l[y - 1]'(by omega))) : SrtB (l.take y ++ b :: l.drop y) := by
  have hp := List.pairwise_iff_getElem.1 hs
  unfold SrtB
  rw [List.pairwise_append, List.pairwise_cons]
  have hd : ∀ x ∈ l.drop y, B3.lt b x := by
    intro x hx
    obtain ⟨j, hj, rfl⟩ := List.getElem_of_mem hx
    rw [List.length_drop] at hj
    rw [List.getElem_drop]
    exact h1 (y + j) (by omega) (by omega)
  have ht : ∀ x ∈ l.take y, leB x b := by
    intro x hx
    obtain ⟨j, hj, rfl⟩ := List.getElem_of_mem hx
    rw [List.length_take] at hj
    rw [List.getElem_take]
    have h3 := h2 (by omega)
    by_cases e : j = y - 1
    · subst e; exact h3
    · exact leB_trans (hp j (y - 1) (by omega) (by omega) (by omega)) h3
  refine ⟨hs.sublist (List.take_sublist _ _), ⟨fun x hx => leB_of (hd x hx), hs.sublist (List.drop_sublist _ _)⟩, fun x hx z hz => ?_⟩
  rcases List.mem_cons.1 hz with rfl | hz
  · exact ht x hx
  · exact leB_trans (ht x hx) (leB_of (hd z hz))
theorem srtB_unique : ∀ {l m : List B3}, SrtB l → SrtB m → l.Perm m → l = m := by
  intro l
  induction l with
  | nil => intro m _ _ h; exact (List.Perm.nil_eq h)
  | cons a l ih =>
    intro m h1 h2 h
    cases m with
    | nil => exact absurd h.length_eq (by simp)
    | cons b m =>
      obtain ⟨ha, hl⟩ := List.pairwise_cons.1 h1
      obtain ⟨hb, hm⟩ := List.pairwise_cons.1 h2
      have e : a = b := by
        rcases List.mem_cons.1 (h.mem_iff.1 (List.mem_cons_self ..)) with e | e
        · exact e
        · rcases List.mem_cons.1 (h.mem_iff.2 (List.mem_cons_self ..)) with e' | e'
          · exact e'.symm
          · exact leB_anti (ha b e') (hb a e)
      subst e
      rw [ih hl hm (List.Perm.cons_inv h)]
end Go.Vc
/-
  The calculus, part 18: a search for completions that keeps or counts them.
-/
namespace Go.Vc
open Go Go.RowKit
section
variable {v m a b c n p k : Nat} {U : List Bool}
/-- The pairs that are used, by their numbers. -/
def RelU (v : Nat) (U : List Bool) (m : Nat) : Prop := U.length = 256 ∧ ∀ x y : Nat, x < v → y < v → x ≠ y → U.getD (prI x y) false = usd m x y
/-- What the loops for the first pair have found. -/
def Fnd (v m : Nat) (a b : Int) (p : Nat) : Prop := (a = -1 ∧ b = -1 ∧ p ≤ v ∧ ∀ i j, i < p → i < j → j < v → usd m i j = true) ∨ ∃ x y : Nat, a = x ∧ b = y ∧ IsNext v m x y
variable {most : Nat} {α : Type}
end
section
variable {P : Program} {N : Nat} {w0 w : World} {Q : Exit → Act → World → Prop} {σ : Sig} {H H' : List Assn} {ops : Array Oper} {rest : List Oper}
/-- A search: its cells, the pairs that are used, what it has found; what has been counted, l. -/
def SrchK (T uT fT bT : TypeId) (sb v most : Nat) (keep : Bool) (m : Nat) (l : List (List B3)) : Assn :=
  .exi fun q : ((Option Addr × Nat) × List Bool) × (Option Addr × Nat) × List (Sl × List B3) => .sep (.pur (RelU v q.1.2 m ∧ (conts q.2.2 = if keep then l else []) ∧ ∀ p ∈ q.2.2, p.1.A.isSome = true))
    (.sep (Blk sb [.int .i64 (v : Int), .slice q.1.1.1 q.1.2.length q.1.1.2, .int .i64 (l.length : Int), .int .i64 (most : Int), .bool keep, .slice q.2.1.1 (tops q.2.2).length q.2.1.2] T)
      (.sep (Own uT BoolC q.1.1.1 q.1.1.2 q.1.2) (.sep (Own fT SlC q.2.1.1 q.2.1.2 (tops q.2.2)) (RowsA bT B3C q.2.2))))
variable {T uT fT bT : TypeId} {sb v most m : Nat} {keep : Bool} {l : List (List B3)}
theorem SrchK.elim (hw : St w0 (SrchK T uT fT bT sb v most keep m l :: H) w) : ∃ uA uk U fA fk ps, RelU v U m ∧ conts ps = (if keep then l else []) ∧ (∀ p ∈ ps, p.1.A.isSome = true) ∧
    St w0 (Blk sb [.int .i64 (v : Int), .slice uA U.length uk, .int .i64 (l.length : Int), .int .i64 (most : Int), .bool keep, .slice fA (tops ps).length fk] T :: Own uT BoolC uA uk U :: Own fT SlC fA fk (tops ps) :: RowsA bT B3C ps :: H) w := by
  obtain ⟨q, hw⟩ := hw.exi
  have h1 := hw.sep.pur
  refine ⟨q.1.1.1, q.1.1.2, q.1.2, q.2.1.1, q.2.1.2, q.2.2, h1.1.1, h1.1.2.1, h1.1.2.2, ?_⟩
  have h2 := h1.2.sep
  have h3 := (h2.perm (List.Perm.swap _ _ _)).sep
  have h5 := (h3.perm (List.Perm.swap _ _ _)).sep
  exact (h5.sub (Sub.keep 3 rfl (Sub.keep 2 rfl (Sub.keep 0 rfl (Sub.keep 0 rfl (Sub.refl _))))))
theorem SrchK.mk {uA fA : Option Addr} {uk fk : Nat} {U : List Bool} {ps : List (Sl × List B3)} (hr : RelU v U m) (hc : conts ps = if keep then l else []) (hso : ∀ p ∈ ps, p.1.A.isSome = true)
    (hw : St w0 (Blk sb [.int .i64 (v : Int), .slice uA U.length uk, .int .i64 (l.length : Int), .int .i64 (most : Int), .bool keep, .slice fA (tops ps).length fk] T :: Own uT BoolC uA uk U :: Own fT SlC fA fk (tops ps) :: RowsA bT B3C ps :: H) w) : St w0 (SrchK T uT fT bT sb v most keep m l :: H) w := by
  refine St.mkExi (((uA, uk), U), (fA, fk), ps) (St.unsep (St.addPur ⟨hr, hc, hso⟩ ?_))
  have h1 : St w0 (Own fT SlC fA fk (tops ps) :: RowsA bT B3C ps :: Own uT BoolC uA uk U :: Blk sb [.int .i64 (v : Int), .slice uA U.length uk, .int .i64 (l.length : Int), .int .i64 (most : Int), .bool keep, .slice fA (tops ps).length fk] T :: H) w := hw.sub (Sub.keep 2 rfl (Sub.keep 2 rfl (Sub.keep 1 rfl (Sub.keep 0 rfl (Sub.refl _)))))
  have h2 := (St.unsep h1).perm (List.Perm.swap _ _ _)
  have h3 := (St.unsep h2).perm (List.Perm.swap _ _ _)
  exact St.unsep h3
end
end Go.Vc
/-
  The calculus, part 19: fields of a list's elements.
-/
namespace Go.Vc
open Go Go.RowKit
section
variable {P : Program} {w0 w : World} {σ : Sig} {H H' : List Assn} {o : Oper} {v : Int}
end
end Go.Vc
/-
  Plain words: the first system that is apart; how many blocks are common.
-/
namespace Go.Vc
/-- No block in common. -/
def ApartB (bs q : List B3) : Prop := ∀ b ∈ bs, b ∉ q
instance (bs q : List B3) : Decidable (ApartB bs q) := inferInstanceAs (Decidable (∀ b ∈ bs, b ∉ q))
/-- The first of all systems that is apart. -/
noncomputable def firstA (v : Int) (bs : List B3) : Option (List B3) := (allN v).find? fun q => decide (ApartB bs q)
/-- What both FirstApart return. -/
noncomputable def apR (v : Int) (bs : List B3) : Int × List B3 × Int :=
  if STS v bs then if Few v bs then match firstA v bs with | some q => (v, q, 0) | none => (0, [], 4) else (0, [], 5) else (0, [], 1)
/-- How many of the first i lists have q blocks of bs, for each q. -/
def cntC (bs : List B3) (ls : List (List B3)) (n i : Nat) : List Int := (List.range n).map fun q => (((ls.take i).filter fun y => decide ((bs.filter fun b => decide (b ∈ y)).length = q)).length : Int)
section
variable {bs : List B3} {ls : List (List B3)} {n i : Nat}
end
/-- What both CommonNumbers return. -/
noncomputable def cmR (v : Int) (bs : List B3) : List Int × Int :=
  if STS v bs then if Few v bs then (cntC bs (allN v) (bs.length + 1) (allN v).length, 0) else ([], 5) else ([], 1)
section
variable {w0 w : World} {H : List Assn} {α : Type} {T : TypeId} {C : Cod α}
/-- One row is kept. -/
theorem RowsA.out {ps : List (Sl × List α)} {k : Nat} (hk : k < ps.length) (hw : St w0 (RowsA T C ps :: H) w) : St w0 (Own T C (ps[k]).1.A (ps[k]).1.c (ps[k]).2 :: H) w := by
  have e : ps = ps.take k ++ ps[k] :: ps.drop (k + 1) := by
    rw [← List.drop_eq_getElem_cons hk, List.take_append_drop]
  have hp : ps.Perm (ps[k] :: (ps.take k ++ ps.drop (k + 1))) := by
    conv => lhs; rw [e]
    exact List.perm_middle
  have h1 := RowsA.perm hp hw
  exact ((RowsA.uncons (s := (ps[k]).1) (xs := (ps[k]).2) h1).2).sub (Sub.keep 0 rfl (Sub.drop (Sub.refl _)))
end
end Go.Vc
/-
  The calculus, part 19: two results, the first of which lies in memory; the marks of blocks.
-/
namespace Go.Vc
open Go Go.RowKit
section
variable {P : Program} {N : Nat} {w0 w : World} {Q : Exit → Act → World → Prop} {σ : Sig} {H H' : List Assn}
theorem X.retCell2 {fn : Func} {t s n : Nat} {T : TypeId} {p : Option Addr} {cs : List Value} {u : Value} {R : Value → List Assn} (hr : fn.results = #[.cell t T, .tmp s]) (hT : aggT P T = true) (hz : Sz P T n) (hl : cs.length = n) (ht : look σ t = some (.pointer p)) (hs' : look σ s = some u)
    (hc : ∀ w, St w0 H w → ∃ q, p = some q ∧ ∀ j u, cs[j]? = some u → w.cell? (q.add j) = some u) (hs : ∀ w, St w0 H w → St w0 (R (.tuple #[.agg cs.toArray, u])) w) :
    X N w0 (bodyPost P fn (fun e w' => ∃ v, e = .returned v ∧ St w0 (R v) w')) .ret σ H := by
  intro w hw a ha
  refine ⟨ha.defers, .tuple #[.agg cs.toArray, u], ?_, _, rfl, hs w hw⟩
  have h1 := ha.look_ t _ ht
  have h2 := ha.look_ s _ hs'
  obtain ⟨q, rfl, hq⟩ := hc w hw
  subst hl
  have hrn := run_loadCells_list (P := P) (w := w) q cs hq
  simp [results, hr, h1, h2, asAddr, loadVar, run_isAgg_t hT, run_sz hz, hrn]
end
section
variable {w0 : World} {H : List Assn}
theorem Ld.part {A : Option Addr} {xs : List B3} {k s j : Nat} {u : Value} (hr : ∀ w, St w0 H w → Rd B3C w A xs) (hk : k < xs.length) (hs : s = 3) (hu : (B3.cs xs[k])[j]? = some u) : ∀ w, St w0 H w → ∃ q, (A.map (·.add (k * s))).map (·.add j) = some q ∧ w.cell? q = some u := by
  intro w hw
  obtain ⟨q, h1, h2⟩ := Ld.rds hr hk (s := s) hs w hw
  exact ⟨q.add j, by rw [h1]; rfl, h2 j u hu⟩
end
/-- Two strings are equal, or not. -/
theorem Pu.eqlStr {P : Program} {w0 : World} {H : List Assn} {σ : Sig} {o : Oper} {T T2 : TypeId} {x y : Operand} {s t : ByteArray} {b : Bool} (hb : (s.toList == t.toList) = b) (ho : o.op = .binOp .eql T x y T2) (hx : ev σ x = some (.string s)) (hy : ev σ y = some (.string t)) : Pu P w0 o σ H (.bool b) := by
  subst hb
  intro w hw a ha
  have h1 := ha x (by simp [ho, Op.operands]) _ hx
  have h2 := ha y (by simp [ho, Op.operands]) _ hy
  have he : (eqGuard .eql T x y (.string s) (.string t)).run P w = .ok () w := by
    unfold eqGuard
    simp
  simp [execOp, ho, h1, h2, he, Go.binOp, Op.stringOp]
/-- The marks of n blocks. -/
def marksB (m : Int) (n : Nat) : List B3 := (List.range n).map fun i : Nat => (m + 3 * (i : Int), m + 3 * (i : Int) + 1, m + 3 * (i : Int) + 2)
def markBAt (xs : List B3) (m : Int) (k : Nat) : List B3 := marksB m k ++ xs.drop k
end Go.Vc
/-
  Plain words: parts that fix a system.
-/
namespace Go.Vc
instance (a b : B3) : Decidable (leB a b) := inferInstanceAs (Decidable (¬ _))
section
variable {v m n : Nat}
theorem usd_put_false {a b c x y : Nat} (ha : a < 16) (hb : b < 16) (hc : c < 16) (hx : x < 16) (hy : y < 16) (h : usd (putM m a b c) x y = false) : usd m x y = false := by
  cases hh : usd m x y with
  | false => rfl
  | true =>
    have := (usd_put (m := m) ha hb hc hx hy).2 (.inl hh)
    rw [this] at h
    cases h
/-- What a completion is. -/
theorem comp_rest : ∀ n v m (q : List B3), v ≤ 15 → q ∈ compM n v m → Rest v m q := by
  intro n
  induction n with
  | zero =>
    intro v m q hv hq
    rcases mem_comp hq with ⟨rfl, _⟩ | ⟨k, a, b, c, r, hk, _⟩
    · exact ⟨fun _ h => by simp at h, fun _ h => by simp at h, List.Pairwise.nil, List.Pairwise.nil⟩
    · omega
  | succ n ih =>
    intro v m q hv hq
    have hs := comp_sorted _ _ _ _ hv hq
    rcases mem_comp hq with ⟨rfl, _⟩ | ⟨k, a, b, c, r, hk, hn, hc, hm, hr, rfl⟩
    · exact ⟨fun _ h => by simp at h, fun _ h => by simp at h, List.Pairwise.nil, List.Pairwise.nil⟩
    · obtain rfl : n = k := by omega
      have hI := next_spec hn
      have hab := hI.ab
      have hbv := hI.bv
      obtain ⟨h1, h2, h3⟩ := may_spec hm
      have h := ih _ _ _ hv hr
      refine ⟨fun d hd => ?_, fun d hd => ?_, hs, List.pairwise_cons.2 ⟨fun d hd => ?_, h.fit⟩⟩
      · rcases List.mem_cons.1 hd with rfl | hd
        · exact ⟨a, b, c, rfl, hab, h1, hc⟩
        · exact h.ok d hd
      · rcases List.mem_cons.1 hd with rfl | hd
        · exact ⟨a, b, c, rfl, hab, h1, hI.left, h2, h3⟩
        · obtain ⟨x, y, z, rfl, hx, hy, u1, u2, u3⟩ := h.opn d hd
          obtain ⟨x', y', z', e, _, _, hz⟩ := h.ok _ hd
          obtain ⟨rfl, rfl, rfl⟩ := b3N_inj e
          exact ⟨x, y, z, rfl, hx, hy, usd_put_false (by omega) (by omega) (by omega) (by omega) (by omega) u1, usd_put_false (by omega) (by omega) (by omega) (by omega) (by omega) u2, usd_put_false (by omega) (by omega) (by omega) (by omega) (by omega) u3⟩
      · obtain ⟨x, y, z, rfl, hx, hy, u1, u2, u3⟩ := h.opn d hd
        obtain ⟨x', y', z', e, _, _, hz⟩ := h.ok _ hd
        obtain ⟨rfl, rfl, rfl⟩ := b3N_inj e
        rw [common_le (b3N_three hab h1)]
        have k : ∀ p q : Nat, p < q → q < v → usd (putM m a b c) p q = false → ¬ (has (b3N a b c) p ∧ has (b3N a b c) q) := fun p q h4 h5 h6 => ((usd_putN hab h1 (by omega) (by omega) (by omega) (by omega)).1 h6).2
        exact ⟨k x y hx (by omega) u1, k x z (by omega) (by omega) u2, k y z hy (by omega) u3⟩
/-- .. and that it leaves no pair. -/
theorem comp_full : ∀ n v m (q : List B3), v ≤ 15 → q ∈ compM n v m → ∀ x y, x < y → y < v → usd (maskB m q) x y = true := by
  intro n
  induction n with
  | zero =>
    intro v m q hv hq
    rcases mem_comp hq with ⟨rfl, h⟩ | ⟨k, a, b, c, r, hk, _⟩
    · exact next_none h
    · omega
  | succ n ih =>
    intro v m q hv hq
    rcases mem_comp hq with ⟨rfl, h⟩ | ⟨k, a, b, c, r, hk, hn, hc, hm, hr, rfl⟩
    · exact next_none h
    · obtain rfl : n = k := by omega
      have h := ih _ _ _ hv hr
      have e : maskB m (b3N a b c :: r) = maskB (putM m a b c) r := by
        show maskB (putB m (b3N a b c)) r = _
        rw [putB_b3N]
      rw [e]
      exact h
/-- A full system, as plain words have it. -/
structure FullS (v : Nat) (T : List B3) : Prop where
  rest : Rest v 0 T
  full : ∀ x y, x < y → y < v → ∃ d ∈ T, has d x ∧ has d y
theorem FullS.of {T : List B3} (hv : v ≤ 15) (h : T ∈ compM n v 0) : FullS v T := by
  have hr := comp_rest _ _ _ _ hv h
  refine ⟨hr, fun x y h1 h2 => ?_⟩
  rcases (usd_mask T 0 hv hr.ok x y h1 h2).1 (comp_full _ _ _ _ hv h x y h1 h2) with h3 | h3
  · rw [usd_zero] at h3; cases h3
  · exact h3
theorem Rest.sub {T Q : List B3} (h : Rest v 0 T) (hs : Q.Sublist T) : Rest v 0 Q := ⟨fun d hd => h.ok d (hs.subset hd), fun d hd => h.opn d (hs.subset hd), h.lt.sublist hs, h.fit.sublist hs⟩
end
end Go.Vc
/-
  Plain words: the least part that fixes a system.
-/
namespace Go.Vc
/-- The least set with a property. -/
def LeastP (n : Nat) (p : Nat → Prop) (o : List Int) : Prop :=
  ∃ t, t < 2 ^ n ∧ p t ∧ o = pts t ∧ ∀ q, q < 2 ^ n → p q → ones t ≤ ones q ∧ (ones q = ones t → ¬ ltL (pts q) (pts t))
theorem LeastP.unique {n : Nat} {p : Nat → Prop} {a b : List Int} (h1 : LeastP n p a) (h2 : LeastP n p b) : a = b := by
  obtain ⟨T, a1, a2, rfl, a4⟩ := h1
  obtain ⟨U, b1, b2, rfl, b4⟩ := h2
  have h3 := a4 U b1 b2
  have h4 := b4 T a1 a2
  exact ltL_tri (fun h => h4.2 (by omega) h) (fun h => h3.2 (by omega) h)
/-- Which of the first k blocks a system has. -/
def hasM (bs U : List B3) : Nat → Nat
  | 0 => 0
  | k + 1 => if bs.getD k (0, 0, 0) ∈ U then hasM bs U k ||| 2 ^ k else hasM bs U k
/-- A part's blocks. -/
def partB (bs : List B3) (s : Nat) : List B3 := (pts s).map (blk bs)
/-- No other full system has all blocks of the part. -/
def FixP (bs : List B3) (all : List (List B3)) (s : Nat) : Prop := ∀ U ∈ all, (∀ q, s.testBit q = true → bs.getD q (0, 0, 0) ∈ U) → U = bs
/-- Lists of so many of the numbers below n, from one on, in order. -/
def setsN (n : Nat) : Nat → Nat → List (List Int)
  | 0, _ => [[]]
  | c + 1, f => (List.range (n - f)).flatMap fun i => (setsN n c (f + i + 1)).map (((f + i : Nat) : Int) :: ·)
theorem ptsAt_sorted (m : Nat) : ∀ v, (ptsAt m v).Pairwise (· < ·) := by
  intro v
  induction v with
  | zero => exact List.Pairwise.nil
  | succ v ih =>
    simp only [ptsAt]
    split
    · refine List.pairwise_append.2 ⟨ih, by simp, fun a ha b hb => ?_⟩
      have := (ptsAt_mem m v).1 ha
      simp only [List.mem_singleton] at hb
      omega
    · exact ih
theorem asc_ext {A B : List Int} (ha : A.Pairwise (· < ·)) (hb : B.Pairwise (· < ·)) (h : ∀ d, d ∈ A ↔ d ∈ B) : A = B := by
  have n1 : A.Nodup := ha.imp fun h => by omega
  have n2 : B.Nodup := hb.imp fun h => by omega
  exact ((List.perm_ext_iff_of_nodup n1 n2).2 h).eq_of_pairwise (fun a b _ _ h1 h2 => by omega) ha hb
end Go.Vc
/-
  Plain words: what both LeastFixing return.
-/
namespace Go.Vc
/-- What both LeastFixing return. -/
def LFR (v : Int) (bs : List B3) (o : List Int) : Prop := if STS v bs ∧ 6 * (bs.length : Int) = v * (v - 1) ∧ ¬ 9 < v then LeastP bs.length (FixP bs (allN v)) o else o = []
theorem LFR.unique {v : Int} {bs : List B3} {a b : List Int} (h1 : LFR v bs a) (h2 : LFR v bs b) : a = b := by
  unfold LFR at *
  split at h1
  · rename_i hc
    rw [if_pos hc] at h2
    exact h1.unique h2
  · rename_i hc
    rw [if_neg hc] at h2
    rw [h1, h2]
theorem LFR.len {v : Int} {bs : List B3} {a : List Int} (h : LFR v bs a) : a.length ≤ 15 := by
  unfold LFR at h
  split at h
  · obtain ⟨t, _, _, rfl, _⟩ := h
    exact pts_len t
  · simp [h]
end Go.Vc
namespace Go.Vc
end Go.Vc
/-
  The calculus, part 22: lists of words; a box with such a list beside a box with a system.
-/
namespace Go.Vc
open Go Go.RowKit
def U64 : Cod Nat := ⟨1, fun x => [.int .u64 (x : Int)], by decide, fun _ => rfl, fun _ u hu => by simp at hu; subst hu; rfl⟩
/-- What is told of each of the systems. -/
def othL (bs : List B3) (l : List (List B3)) : List Nat := (l.map fun U => hasM bs U bs.length).filter fun h => decide (¬ h = 2 ^ bs.length - 1)
section
variable {P : Program} {N : Nat} {w0 w : World} {Q : Exit → Act → World → Prop} {σ : Sig} {H H' : List Assn} {ops : Array Oper} {rest : List Oper} {v : Int}
/-- A box with what has been told so far of the systems l, and the box with the system. -/
def UE (uT lT yT : TypeId) (v : Int) (A : Option Addr) (c : Nat) (bs : List B3) (b0 b1 : Nat) (l : List (List B3)) : Assn :=
  .exi fun q : Option Addr × Nat => .sep (Blk b0 [.slice q.1 (othL bs l).length q.2] lT) (.sep (Blk b1 [.int .i64 v, .slice A bs.length c] yT) (Own uT U64 q.1 q.2 (othL bs l)))
variable {uT lT yT : TypeId} {A : Option Addr} {c : Nat} {bs : List B3} {b0 b1 : Nat} {l : List (List B3)}
theorem UE.elim (hw : St w0 (UE uT lT yT v A c bs b0 b1 l :: H) w) : ∃ A2 k, St w0 (Blk b0 [.slice A2 (othL bs l).length k] lT :: Blk b1 [.int .i64 v, .slice A bs.length c] yT :: Own uT U64 A2 k (othL bs l) :: H) w := by
  obtain ⟨q, hw⟩ := hw.exi
  refine ⟨q.1, q.2, ?_⟩
  have h2 := hw.sep
  have h3 := (h2.perm (List.Perm.swap _ _ _)).sep
  exact h3.sub (Sub.keep 2 rfl (Sub.keep 0 rfl (Sub.keep 0 rfl (Sub.refl _))))
theorem UE.mk {A2 : Option Addr} {k : Nat} (hw : St w0 (Blk b0 [.slice A2 (othL bs l).length k] lT :: Blk b1 [.int .i64 v, .slice A bs.length c] yT :: Own uT U64 A2 k (othL bs l) :: H) w) : St w0 (UE uT lT yT v A c bs b0 b1 l :: H) w := by
  refine St.mkExi (A2, k) ?_
  have h1 : St w0 (Blk b1 [.int .i64 v, .slice A bs.length c] yT :: Own uT U64 A2 k (othL bs l) :: Blk b0 [.slice A2 (othL bs l).length k] lT :: H) w := hw.sub (Sub.keep 1 rfl (Sub.keep 1 rfl (Sub.keep 0 rfl (Sub.refl _))))
  have h2 := (St.unsep h1).perm (List.Perm.swap _ _ _)
  exact St.unsep h2
end
end Go.Vc
namespace Go.Vc
/-- The best so far, told by its length. -/
def BestF (bs : List B3) (all : List (List B3)) (s : Nat) (found : Bool) (best : List Int) : Prop := BestI (-1) (FixP bs all) s found (-(best.length : Int)) best
section
variable {bs : List B3} {all : List (List B3)} {s : Nat} {found : Bool} {best : List Int}
end
end Go.Vc
namespace Go.Vc
end Go.Vc
/-
  The calculus, part 20: Go's own sorting of an owned row.
-/
namespace Go.Vc
open Go Go.RowKit
open Go.Proofs (sortWorldK CmpLays ltOf)
open Go.Sort (flatK HoldsK putRowK get_flatK size_flatK putCells putRow mapBlock onCells PermIn SortedIn SWO)
section
variable {P : Program} {α : Type} {w0 w w' : World} {H : List Assn} {T c g : Nat} {A : Option Addr} {C : Cod α} {xs ys : List α}
theorem own_cases (hw : St w0 (Own T C A c xs :: H) w) : (A = none ∧ c = 0 ∧ xs = []) ∨ ∃ g, A = some ⟨g, 0, none⟩ := by
  obtain ⟨F, ho, hF⟩ := hw.get 0 rfl
  rcases ho.2 with ⟨h1, h2⟩ | ⟨g, cap, cur, hvv, _⟩
  · injection h1 with e1 e2 e3
    exact .inl ⟨e1, e3, List.eq_nil_of_length_eq_zero h2⟩
  · injection hvv with e1
    exact .inr ⟨g, e1⟩
/-- A world that has only grown. -/
theorem Bel.grown (h : Bel w.heap.size w w') : ∃ q os', w' = Go.Sort.grow (w.drewN q) os' := by
  refine ⟨w'.drawn - w.drawn, w'.heap.extract w.heap.size w'.heap.size, ?_⟩
  have hd := h.drawn
  have hs := h.size
  have e : w'.heap = w.heap ++ w'.heap.extract w.heap.size w'.heap.size := by
    apply Array.ext_getElem?
    intro k
    by_cases hk : k < w.heap.size
    · rw [Array.getElem?_append_left hk, h.block k hk]
    · rw [Array.getElem?_append_right (by omega), Array.getElem?_extract]
      by_cases h2 : k < w'.heap.size
      · rw [if_pos (by omega)]
        congr 1
        omega
      · rw [Array.getElem?_eq_none (by omega), if_neg (by omega)]
  cases w'
  cases w
  simp only [Go.Sort.grow, World.drewN] at *
  have h1 := h.os
  have h2 := h.tape
  have h3 := h.output
  simp only at h1 h2 h3 hd
  subst h1 h2 h3
  rw [← e]
  congr 1
  omega
/-- What a comparison hands back. -/
def CmpD (P : Program) (f : Nat) (cb : Array Value) (enc : α → Value) (cf : α → α → Int) (W : World) : Prop :=
  ∀ x y : α, Does P f ([enc x, enc y] ++ cb.toList) W [] (fun v => [.pur (v = .int .i64 (cf x y))])
theorem sorted_pair [Inhabited α] {lt : α → α → Bool} {d : Array α} (h : SortedIn lt 0 d.size d) : d.toList.Pairwise fun x y => lt y x = false := by
  rw [List.pairwise_iff_getElem]
  intro i j hi hj hij
  have h1 := h i j (Nat.zero_le _) hij (by simpa using hj)
  rw [getElem!_pos d i (by simpa using hi), getElem!_pos d j (by simpa using hj)] at h1
  simpa using h1
theorem permIn_perm [Inhabited α] {d d' : Array α} (h : PermIn 0 d.size d d') : d'.toList.Perm d.toList := by
  obtain ⟨h1, _, h3⟩ := h
  have e1 : d.extract 0 d.size = d := by simp
  have e2 : d'.extract 0 d.size = d' := by rw [← h1]; simp
  rwa [e1, e2] at h3
end
end Go.Vc
