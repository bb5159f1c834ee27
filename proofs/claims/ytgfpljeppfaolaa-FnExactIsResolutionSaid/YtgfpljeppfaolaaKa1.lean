/-
  The calculus and plain words, part 1.
-/
import Derived.Orders
import Derived.WalkKit
import Derived.Below
import Derived.RowKit
import Derived.Laws.AppendOwn
import Derived.Laws.MakeOwn
import Derived.Laws.Rows
import Derived.KernelRfl
import Derived.IntWalk
import Derived.ChangeKeysEq
import Derived.LoopN
set_option linter.unusedVariables false
set_option linter.unusedSimpArgs false
namespace Go.Vc
abbrev B3 := Int × Int × Int

def cmpI (x y : Int) : Int := if x < y then -1 else if y < x then 1 else 0
def cmpL : List Int → List Int → Int
  | [], [] => 0
  | [], _ :: _ => -1
  | _ :: _, [] => 1
  | x :: xs, y :: ys => if x < y then -1 else if y < x then 1 else cmpL xs ys

theorem drop_cons {α : Type} {xs : List α} {k : Nat} (h : k < xs.length) : xs.drop k = xs[k] :: xs.drop (k + 1) := List.drop_eq_getElem_cons h
theorem take_snoc {α : Type} {xs : List α} {k : Nat} (h : k < xs.length) : xs.take (k + 1) = xs.take k ++ [xs[k]] := List.take_succ_eq_append_getElem h

def rises (n : Int) : List Int → Prop
  | [] => True
  | [x] => 0 ≤ x ∧ x < n
  | x :: y :: r => (0 ≤ x ∧ x < n) ∧ x < y ∧ rises n (y :: r)
instance risesDec (n : Int) : (l : List Int) → Decidable (rises n l)
  | [] => .isTrue trivial
  | [x] => inferInstanceAs (Decidable (0 ≤ x ∧ x < n))
  | x :: y :: r => @instDecidableAnd _ _ _ (@instDecidableAnd _ _ _ (risesDec n (y :: r)))

def risesAt (n : Int) (xs : List Int) (k : Nat) : Prop := ∀ i (h : i < xs.length), i < k → (0 ≤ xs[i] ∧ xs[i] < n) ∧ ∀ j (hj : j < xs.length), j + 1 = i → xs[j] < xs[i]
theorem rises_iff (n : Int) : ∀ xs : List Int, rises n xs ↔ risesAt n xs xs.length := by
  intro xs
  match xs with
  | [] => simp [rises, risesAt]
  | [x] =>
    simp only [rises, risesAt, List.length_cons, List.length_nil]
    constructor
    · intro h i hi _
      have : i = 0 := by omega
      subst this
      exact ⟨h, fun j hj e => by omega⟩
    · intro h
      exact (h 0 (by simp) (by omega)).1
  | x :: y :: r =>
    have ih := rises_iff n (y :: r)
    simp only [rises]
    rw [ih]
    constructor
    · rintro ⟨hx, hxy, h⟩ i hi _
      match i with
      | 0 => exact ⟨hx, fun j hj e => by omega⟩
      | i + 1 =>
        have := h i (by simpa using hi) (by simpa using hi)
        refine ⟨this.1, fun j hj e => ?_⟩
        match j with
        | 0 =>
          have : i = 0 := by omega
          subst this
          exact hxy
        | j + 1 => exact this.2 j (by simpa using hj) (by omega)
    · intro h
      refine ⟨(h 0 (by simp) (by simp)).1, (h 1 (by simp) (by simp)).2 0 (by simp) rfl, fun i hi _ => ?_⟩
      have := h (i + 1) (by simpa using hi) (by simpa using hi)
      exact ⟨this.1, fun j hj e => this.2 (j + 1) (by simpa using hj) (by omega)⟩

theorem risesAt_succ {n : Int} {xs : List Int} {k : Nat} (hk : k < xs.length) (h : risesAt n xs k) (h1 : 0 ≤ xs[k] ∧ xs[k] < n) (h2 : ∀ j (hj : j < xs.length), j + 1 = k → xs[j] < xs[k]) : risesAt n xs (k + 1) := by
  intro i hi hik
  by_cases e : i = k
  · subst e
    exact ⟨h1, h2⟩
  · exact h i hi (by omega)
theorem cmpI_zero {x y : Int} : cmpI x y = 0 ↔ x = y := by unfold cmpI; split <;> (try split) <;> omega
theorem cmpL_cons (x y : Int) (xs ys : List Int) : cmpL (x :: xs) (y :: ys) = if cmpI x y = 0 then cmpL xs ys else cmpI x y := by
  simp only [cmpL, cmpI]
  by_cases h1 : x < y
  · simp [h1]
  · by_cases h2 : y < x
    · simp [h1, h2]
    · simp [h1, h2]
theorem cmpL_step {xs ys : List Int} {k : Nat} {r : Int} (h : cmpL (xs.drop k) (ys.drop k) = r) (h1 : k < xs.length) (h2 : k < ys.length) (h3 : cmpI xs[k] ys[k] = 0) : cmpL (xs.drop (k + 1)) (ys.drop (k + 1)) = r := by
  rw [drop_cons h1, drop_cons h2, cmpL_cons, if_pos h3] at h
  exact h
theorem cmpL_ne {xs ys : List Int} {k : Nat} (h1 : k < xs.length) (h2 : k < ys.length) (h3 : ¬ cmpI xs[k] ys[k] = 0) : cmpI xs[k] ys[k] = cmpL (xs.drop k) (ys.drop k) := by
  rw [drop_cons h1, drop_cons h2, cmpL_cons, if_neg h3]
theorem cmpL_more {xs ys : List Int} {k : Nat} (h1 : k < xs.length) (h2 : ys.length ≤ k) : 1 = cmpL (xs.drop k) (ys.drop k) := by
  rw [drop_cons h1, List.drop_eq_nil_of_le h2]; rfl
theorem cmpL_less {xs ys : List Int} {k : Nat} (h1 : xs.length ≤ k) (h2 : k < ys.length) : -1 = cmpL (xs.drop k) (ys.drop k) := by
  rw [drop_cons h2, List.drop_eq_nil_of_le h1]; rfl
theorem cmpL_end {xs ys : List Int} {k : Nat} (h1 : xs.length ≤ k) (h2 : ys.length ≤ k) : 0 = cmpL (xs.drop k) (ys.drop k) := by
  rw [List.drop_eq_nil_of_le h1, List.drop_eq_nil_of_le h2]; rfl

def fill {α : Type} (xs : List α) (z : α) (k : Nat) : List α := xs.take k ++ List.replicate (xs.length - k) z
theorem fill_zero {α : Type} (xs : List α) (z : α) : fill xs z 0 = List.replicate xs.length z := by simp [fill]
theorem fill_all {α : Type} {xs : List α} {z : α} {k : Nat} (h : xs.length ≤ k) : fill xs z k = xs := by
  unfold fill
  rw [List.take_of_length_le h, show xs.length - k = 0 by omega]
  simp
theorem fill_length {α : Type} {xs : List α} {z : α} {k : Nat} (h : k ≤ xs.length) : (fill xs z k).length = xs.length := by simp [fill]; omega
theorem fill_set {α : Type} {xs : List α} {z : α} {k : Nat} (h : k < xs.length) : (fill xs z k).set k xs[k] = fill xs z (k + 1) := by
  unfold fill
  rw [List.set_append_right _ _ (by simp; omega)]
  rw [show xs.length - k = (xs.length - (k + 1)) + 1 by omega, List.replicate_succ]
  have : k - (xs.take k).length = 0 := by simp; omega
  rw [this]
  simp only [List.set_cons_zero, List.append_assoc, List.singleton_append]
  rw [take_snoc h, List.append_assoc, List.singleton_append]
def roomLeft (n : Nat) (left : Int) : Int := if left - n < 0 then -1 else left - n
end Go.Vc

namespace Go.Vc

def B3.lt (a b : B3) : Prop := a.1 < b.1 ∨ (a.1 = b.1 ∧ (a.2.1 < b.2.1 ∨ (a.2.1 = b.2.1 ∧ a.2.2 < b.2.2)))
instance (a b : B3) : Decidable (B3.lt a b) := inferInstanceAs (Decidable (_ ∨ _))
def good (v : Int) (b : B3) : Prop := 0 ≤ b.1 ∧ b.1 < b.2.1 ∧ b.2.1 < b.2.2 ∧ b.2.2 < v
instance (v : Int) (b : B3) : Decidable (good v b) := inferInstanceAs (Decidable (_ ∧ _))
def common (a b : B3) : Int :=
  0 + (if a.1 = b.1 then 1 else 0) + (if a.1 = b.2.1 then 1 else 0) + (if a.1 = b.2.2 then 1 else 0)
    + (if a.2.1 = b.1 then 1 else 0) + (if a.2.1 = b.2.1 then 1 else 0) + (if a.2.1 = b.2.2 then 1 else 0)
    + (if a.2.2 = b.1 then 1 else 0) + (if a.2.2 = b.2.1 then 1 else 0) + (if a.2.2 = b.2.2 then 1 else 0)
def ordAt (v : Int) (bs : List B3) (k : Nat) : Prop := ∀ i (h : i < bs.length), i < k → good v bs[i] ∧ ∀ j (hj : j < bs.length), j + 1 = i → B3.lt bs[j] bs[i]
def fitsAt (bs : List B3) (k : Nat) : Prop := ∀ i (h : i < bs.length), i < k → ∀ j (hj : j < bs.length), j < i → common bs[i] bs[j] ≤ 1
structure STS (v : Int) (bs : List B3) : Prop where
  lo : 3 ≤ v
  hi : v ≤ 15
  few : bs.length ≤ 35
  ord : ordAt v bs bs.length
  fits : fitsAt bs bs.length
noncomputable instance (v : Int) (bs : List B3) : Decidable (STS v bs) := Classical.propDecidable _
noncomputable instance (v : Int) (bs : List B3) (k : Nat) : Decidable (ordAt v bs k) := Classical.propDecidable _
noncomputable instance (bs : List B3) (k : Nat) : Decidable (fitsAt bs k) := Classical.propDecidable _

theorem ordAt_zero (v : Int) (bs : List B3) : ordAt v bs 0 := fun i _ h => by omega
theorem ordAt_succ {v : Int} {bs : List B3} {k : Nat} (hk : k < bs.length) (h : ordAt v bs k) (hg : good v bs[k]) (hl : ∀ j (hj : j < bs.length), j + 1 = k → B3.lt bs[j] bs[k]) : ordAt v bs (k + 1) := by
  intro i hi hik
  by_cases e : i = k
  · subst e
    exact ⟨hg, hl⟩
  · exact h i hi (by omega)
theorem fitsAt_zero (bs : List B3) : fitsAt bs 0 := fun i _ h => by omega
theorem fitsAt_succ {bs : List B3} {k : Nat} (hk : k < bs.length) (h : fitsAt bs k) (hl : ∀ j (hj : j < bs.length), j < k → common bs[k] bs[j] ≤ 1) : fitsAt bs (k + 1) := by
  intro i hi hik
  by_cases e : i = k
  · subst e
    exact hl
  · exact h i hi (by omega)
theorem fitsAt_len {bs : List B3} {k : Nat} (hk : bs.length ≤ k) (h : fitsAt bs k) : fitsAt bs bs.length := fun i hi hik => h i hi (by omega)
theorem ordAt_len {v : Int} {bs : List B3} {k : Nat} (hk : bs.length ≤ k) (h : ordAt v bs k) : ordAt v bs bs.length := fun i hi hik => h i hi (by omega)

def bl (b : B3) : List Int := [b.1, b.2.1, b.2.2]
theorem rises_bl {v : Int} (b : B3) : rises v (bl b) ↔ good v b := by
  simp only [bl, rises, good]
  omega
theorem cmpL_bl (a b : B3) : cmpL (bl a) (bl b) < 0 ↔ B3.lt a b := by
  simp only [bl, cmpL, B3.lt]
  (repeat' split) <;> omega

def gset (G : Int → Int → Int) (a b v : Int) : Int → Int → Int := fun x y => if x = a ∧ y = b then v else G x y
def tabPut (G : Int → Int → Int) (b : B3) : Int → Int → Int :=
  gset (gset (gset (gset (gset (gset G b.1 b.2.1 b.2.2) b.2.1 b.1 b.2.2) b.2.1 b.2.2 b.1) b.2.2 b.2.1 b.1) b.2.2 b.1 b.2.1) b.1 b.2.2 b.2.1
theorem good.pts {b : B3} (h : good 15 b) : (0 ≤ b.1 ∧ b.1 < 15) ∧ (0 ≤ b.2.1 ∧ b.2.1 < 15) ∧ (0 ≤ b.2.2 ∧ b.2.2 < 15) := by unfold good at h; omega
theorem good.mono {v v' : Int} {b : B3} (h : good v b) (hv : v ≤ v') : good v' b := by unfold good at *; omega
theorem ordAt.good {v : Int} {bs : List B3} {k : Nat} (hk : bs.length ≤ k) (h : ordAt v bs k) : ∀ b ∈ bs, Vc.good v b := by
  intro b hb
  obtain ⟨i, hi, rfl⟩ := List.mem_iff_getElem.1 hb
  exact (h i hi (by omega)).1
theorem STS.good {v : Int} {bs : List B3} (h : STS v bs) : ∀ b ∈ bs, Vc.good v b := h.ord.good (Nat.le_refl _)
def tab (bs : List B3) : Int → Int → Int := bs.foldl tabPut (fun _ _ => -1)
theorem tab_snoc (bs : List B3) (b : B3) : tab (bs ++ [b]) = tabPut (tab bs) b := by simp [tab, List.foldl_append]
theorem tab_succ {bs : List B3} {k : Nat} (hk : k < bs.length) : tab (bs.take (k + 1)) = tabPut (tab (bs.take k)) bs[k] := by rw [take_snoc hk, tab_snoc]

def has (b : B3) (p : Int) : Prop := b.1 = p ∨ b.2.1 = p ∨ b.2.2 = p
instance (b : B3) (p : Int) : Decidable (has b p) := inferInstanceAs (Decidable (_ ∨ _))
def isLeft (G : Int → Int → Int) (b : B3) : Prop := G b.1 b.2.1 = -1 ∧ G b.1 b.2.2 = -1 ∧ G b.2.1 b.2.2 = -1
instance (G : Int → Int → Int) (b : B3) : Decidable (isLeft G b) := inferInstanceAs (Decidable (_ ∧ _))
def three (b : B3) : Prop := 0 ≤ b.1 ∧ 0 ≤ b.2.1 ∧ 0 ≤ b.2.2 ∧ b.1 ≠ b.2.1 ∧ b.1 ≠ b.2.2 ∧ b.2.1 ≠ b.2.2
theorem good.three {v : Int} {b : B3} (h : good v b) : three b := by unfold good at h; unfold Vc.three; omega

theorem tabPut_left {G : Int → Int → Int} {b : B3} (h : three b) (x y : Int) : tabPut G b x y = -1 ↔ G x y = -1 ∧ ¬ (has b x ∧ has b y ∧ x ≠ y) := by
  unfold tabPut gset has
  unfold Vc.three at h
  (repeat' split) <;> omega
theorem tab_left {bs : List B3} (h : ∀ b ∈ bs, three b) (x y : Int) : tab bs x y = -1 ↔ ∀ b ∈ bs, ¬ (has b x ∧ has b y ∧ x ≠ y) := by
  have key : ∀ (bs : List B3) (G : Int → Int → Int), (∀ b ∈ bs, three b) → (bs.foldl tabPut G x y = -1 ↔ G x y = -1 ∧ ∀ b ∈ bs, ¬ (has b x ∧ has b y ∧ x ≠ y)) := by
    intro bs
    induction bs with
    | nil => intro G _; simp
    | cons b bs ih =>
      intro G hb
      rw [List.foldl_cons, ih _ (fun c hc => hb c (by simp [hc])), tabPut_left (hb b (by simp))]
      simp only [List.mem_cons, forall_eq_or_imp, and_assoc]
  rw [tab, key bs _ h]
  simp
theorem cnt_has {b : B3} (h : three b) (a : Int) : (if a = b.1 then 1 else 0) + (if a = b.2.1 then 1 else 0) + (if a = b.2.2 then 1 else 0) = (if has b a then (1 : Int) else 0) := by
  unfold Vc.three at h
  unfold has
  (repeat' split) <;> omega
theorem common_has (a : B3) {b : B3} (h : three b) : common a b = (if has b a.1 then 1 else 0) + (if has b a.2.1 then 1 else 0) + (if has b a.2.2 then 1 else 0) := by
  rw [← cnt_has h, ← cnt_has h, ← cnt_has h]
  unfold common
  omega
theorem common_le {a b : B3} (h : three b) : common a b ≤ 1 ↔ ¬ (has b a.1 ∧ has b a.2.1) ∧ ¬ (has b a.1 ∧ has b a.2.2) ∧ ¬ (has b a.2.1 ∧ has b a.2.2) := by
  rw [common_has a h]
  by_cases h1 : has b a.1 <;> by_cases h2 : has b a.2.1 <;> by_cases h3 : has b a.2.2 <;> simp [h1, h2, h3]
theorem isLeft_tab {bs : List B3} {b : B3} (hb : three b) (h : ∀ c ∈ bs, three c) : isLeft (tab bs) b ↔ ∀ c ∈ bs, common b c ≤ 1 := by
  unfold isLeft
  rw [tab_left h, tab_left h, tab_left h]
  have hd := hb
  unfold Vc.three at hd
  constructor
  · rintro ⟨h1, h2, h3⟩ c hc
    rw [common_le (h c hc)]
    exact ⟨fun hh => h1 c hc ⟨hh.1, hh.2, hd.2.2.2.1⟩, fun hh => h2 c hc ⟨hh.1, hh.2, hd.2.2.2.2.1⟩, fun hh => h3 c hc ⟨hh.1, hh.2, hd.2.2.2.2.2⟩⟩
  · intro hh
    refine ⟨fun c hc h1 => ?_, fun c hc h1 => ?_, fun c hc h1 => ?_⟩
    · exact ((common_le (h c hc)).1 (hh c hc)).1 ⟨h1.1, h1.2.1⟩
    · exact ((common_le (h c hc)).1 (hh c hc)).2.1 ⟨h1.1, h1.2.1⟩
    · exact ((common_le (h c hc)).1 (hh c hc)).2.2 ⟨h1.1, h1.2.1⟩
theorem mem_take_iff {α : Type} {bs : List α} {k : Nat} {c : α} : c ∈ bs.take k ↔ ∃ j, ∃ hj : j < bs.length, j < k ∧ bs[j] = c := by
  rw [List.mem_iff_getElem]
  constructor
  · rintro ⟨j, hj, rfl⟩
    have : j < k ∧ j < bs.length := by rw [List.length_take] at hj; omega
    exact ⟨j, this.2, this.1, by simp⟩
  · rintro ⟨j, hj, hk, rfl⟩
    exact ⟨j, by rw [List.length_take]; omega, by simp⟩
theorem isLeft_fits {bs : List B3} {k : Nat} (hk : k < bs.length) (h : ∀ b ∈ bs, three b) : isLeft (tab (bs.take k)) bs[k] ↔ ∀ j (hj : j < bs.length), j < k → common bs[k] bs[j] ≤ 1 := by
  rw [isLeft_tab (h _ (List.getElem_mem hk)) (fun c hc => h c (List.mem_of_mem_take hc))]
  constructor
  · intro hh j hj hjk
    exact hh _ (mem_take_iff.2 ⟨j, hj, hjk, rfl⟩)
  · intro hh c hc
    obtain ⟨j, hj, hjk, rfl⟩ := mem_take_iff.1 hc
    exact hh j hj hjk
end Go.Vc

namespace Go.Vc
def lo3 (a b c : Int) : Int := min (min a b) c
def hi3 (a b c : Int) : Int := max (max a b) c
def mi3 (a b c : Int) : Int := a + b + c - lo3 a b c - hi3 a b c
def bk3 (a b c : Int) : B3 := (lo3 a b c, mi3 a b c, hi3 a b c)
def renB (p : List Int) (b : B3) : B3 := bk3 (p.getD b.1.toNat 0) (p.getD b.2.1.toNat 0) (p.getD b.2.2.toNat 0)
end Go.Vc

namespace Go.Vc
open Go Go.RowKit


theorem ask_drawn {α : Type} : ∀ (m : Ask α) (w : World), w.drawn ≤ (w.ask m).2.drawn := by
  intro m
  induction m with
  | done a => intro w; exact Nat.le_refl _
  | ask what range k ih =>
    intro w
    unfold World.ask
    dsimp only
    split
    · exact ih 0 w
    · exact Nat.le_trans (Nat.le_succ _) (ih _ { w with drawn := w.drawn + 1 })
theorem sys_drawn (w : World) (c : Sys) : w.drawn ≤ (w.sys c).2.drawn := by
  have h := ask_drawn (Kernel.perform c w.os) w
  unfold World.sys
  split
  · exact Nat.le_refl _
  · rename_i h2
    rw [h2] at h
    exact h
theorem viewStore_drawn {P : Program} {w w' : World} {at_ : Addr} {u : TypeId} {k : Addr} {v : Value} {b : Bool} {l : List Addr} (h : w.viewStore P at_ u k v b = .ok (w', l)) : w'.drawn = w.drawn := by
  unfold World.viewStore at h
  simp only [bind, Except.bind, pure, Except.pure] at h
  repeat' split at h
  all_goals first | (cases h; done) | skip
  all_goals (cases h; rfl)
theorem farStore_drawn {P : Program} {w w' : World} {a : Addr} {v : Value} {b : Bool} {l : List Addr} (h : w.farStore P a v b = .ok (w', l)) : w'.drawn = w.drawn := by
  unfold World.farStore at h
  split at h
  · split at h
    · rename_i r hr
      cases h
      exact viewStore_drawn hr
    · cases h
  · cases h
theorem run_drawn {α : Type} {P : Program} : ∀ (m : Sem α) {w w' : World} {a : α}, m.run P w = .ok a w' → w.drawn ≤ w'.drawn := by
  intro m
  induction m with
  | pure x => intro w w' a h; simp only [Sem.run] at h; cases h; exact Nat.le_refl _
  | load md ad k ih =>
    intro w w' a h
    simp only [Sem.run] at h
    split at h
    · have h3 := ih _ h; exact h3
    · split at h
      · have h3 := ih _ h; exact h3
      · cases h
  | store md ad v k ih =>
    intro w w' a h
    cases v
    all_goals simp only [Sem.run] at h
    all_goals first | (cases h; done) | skip
    all_goals
      split at h
      · split at h
        · cases h
        · have h3 := ih h; exact h3
      · split at h
        · rename_i w2 l hf
          exact Nat.le_trans (Nat.le_of_eq (farStore_drawn hf).symm) (ih h)
        · cases h
  | new o k ih => intro w w' a h; simp only [Sem.run] at h; have h3 := ih _ h; exact h3
  | shape r k ih => intro w w' a h; simp only [Sem.run] at h; exact ih _ h
  | freeze ad n k ih =>
    intro w w' a h
    simp only [Sem.run] at h
    have h3 := ih h
    unfold World.freeze at h3
    split at h3 <;> exact h3
  | frozen ad k ih => intro w w' a h; simp only [Sem.run] at h; exact ih _ h
  | getObj r k ih =>
    intro w w' a h
    simp only [Sem.run] at h
    split at h
    · cases h
    · have h3 := ih _ h; exact h3
    · cases h
  | setObj r o k ih =>
    intro w w' a h
    simp only [Sem.run] at h
    split at h
    · cases h
    · have h3 := ih h; exact h3
    · cases h
  | choose q k ih =>
    intro w w' a h
    simp only [Sem.run] at h
    split at h
    · have h3 := ih _ h; exact h3
    · exact Nat.le_trans (Nat.le_succ _) (ih _ h)
  | sys c k ih => intro w w' a h; simp only [Sem.run] at h; exact Nat.le_trans (sys_drawn w c) (ih _ h)
  | program k ih => intro w w' a h; simp only [Sem.run] at h; exact ih _ h
  | mark m k ih => intro w w' a h; simp only [Sem.run] at h; exact ih h
  | halt h0 => intro w w' a h; simp only [Sem.run] at h; cases h
structure Bel (B : Nat) (w w' : World) : Prop where
  os : w'.os = w.os
  tape : w'.tape = w.tape
  output : w'.output = w.output
  size : w.heap.size ≤ w'.heap.size
  block : ∀ k, k < B → w'.heap[k]? = w.heap[k]?
  drawn : w.drawn ≤ w'.drawn
theorem Bel.low {B : Nat} {w w' : World} (h : Bel B w w') : Below B w w' := ⟨h.os, h.tape, h.output, h.size, h.block⟩
theorem Bel.of {B : Nat} {w w' : World} (h : Below B w w') (hd : w.drawn ≤ w'.drawn) : Bel B w w' := ⟨h.os, h.tape, h.output, h.size, h.block, hd⟩
theorem Bel.refl (B : Nat) (w : World) : Bel B w w := ⟨rfl, rfl, rfl, Nat.le_refl _, fun _ _ => rfl, Nat.le_refl _⟩

theorem beq_ne {t s : Nat} (e : t ≠ s) : Nat.beq t s = false := by
  cases hh : Nat.beq t s with
  | true => exact absurd (Nat.eq_of_beq_eq_true hh) e
  | false => rfl
theorem ne_of_beq {t s : Nat} (h : Nat.beq t s = false) : t ≠ s := by
  rintro rfl
  rw [Nat.beq_refl] at h
  cases h


abbrev Sig := List (Nat × Value)

def look : Sig → Nat → Option Value
  | [], _ => none
  | (k, v) :: r, t => bif Nat.beq k t then some v else look r t

def ev (σ : Sig) : Operand → Option Value
  | .tmp t => look σ t
  | .const v => some v
  | .global g => some (.pointer (some ⟨g, 0, none⟩))
  | .func f => some (.func (.func f) #[] #[])

def evs (σ : Sig) : List Operand → Option (List Value)
  | [] => some []
  | x :: r => match ev σ x, evs σ r with
    | some v, some vs => some (v :: vs)
    | _, _ => none

structure Env (N : Nat) (σ : Sig) (a : Act) : Prop where
  defers : a.defers = []
  size : a.tmps.size = N
  look_ : ∀ t v, look σ t = some v → a.tmps[t]? = some v

theorem Env.eval {N : Nat} {σ : Sig} {a : Act} (h : Env N σ a) {x : Operand} {v : Value} (hx : ev σ x = some v) : a.eval x = v := by
  cases x with
  | tmp t => simp [Act.eval, Array.getD_eq_getD_getElem?, h.look_ t v hx]
  | const u => simpa [ev, Act.eval] using hx
  | global g => simpa [ev, Act.eval] using hx
  | func f => simpa [ev, Act.eval] using hx

def push (d : Option Tmp) (v : Value) (σ : Sig) : Sig := match d with | some t => (t, v) :: σ | none => σ
def dstOk (d : Option Tmp) (N : Nat) : Bool := match d with | some t => Nat.blt t N | none => true

theorem Env.put {N : Nat} {σ : Sig} {a : Act} (h : Env N σ a) {d : Option Tmp} (hd : dstOk d N = true) (v : Value) : Env N (push d v σ) (a.put d v) := by
  cases d with
  | none => exact h
  | some t =>
    have ht : t < N := by simpa [dstOk, Nat.blt_eq] using hd
    refine ⟨h.defers, by simp [Act.put, h.size], fun s u hs => ?_⟩
    simp only [push, look] at hs
    by_cases e : t = s
    · subst e
      rw [show Nat.beq t t = true from Nat.beq_refl t] at hs
      simp only [cond_true, Option.some.injEq] at hs
      subst hs
      simp [Act.put, h.size, ht]
    · have hb : Nat.beq t s = false := beq_ne e
      rw [hb] at hs
      simp only [cond_false] at hs
      simp only [Act.put]
      rw [Array.getElem?_setIfInBounds_ne e]
      exact h.look_ s u hs

def Ent (σ σ' : Sig) : Prop := ∀ t v, look σ' t = some v → look σ t = some v
theorem Ent.nil (σ : Sig) : Ent σ [] := fun _ _ h => by cases h
theorem Ent.refl (σ : Sig) : Ent σ σ := fun _ _ h => h
theorem Ent.cons {σ σ' : Sig} {t : Nat} {v : Value} (h : look σ t = some v) (hr : Ent σ σ') : Ent σ ((t, v) :: σ') := by
  intro s u hs
  simp only [look] at hs
  by_cases e : t = s
  · subst e
    rw [show Nat.beq t t = true from Nat.beq_refl t] at hs
    simp only [cond_true, Option.some.injEq] at hs
    exact hs ▸ h
  · have hb : Nat.beq t s = false := beq_ne e
    rw [hb] at hs
    exact hr s u hs
theorem Ent.cons' {σ σ' : Sig} {t : Nat} {v u : Value} (h : look σ t = some u) (e : u = v) (hr : Ent σ σ') : Ent σ ((t, v) :: σ') := Ent.cons (e ▸ h) hr
theorem Env.ent {N : Nat} {σ σ' : Sig} {a : Act} (h : Env N σ a) (he : Ent σ σ') : Env N σ' a := ⟨h.defers, h.size, fun t v ht => h.look_ t v (he t v ht)⟩


structure Assn where
  P : World → (Nat → Prop) → Prop
  loc : ∀ {w w' : World} {F : Nat → Prop}, P w F → (∀ k, F k → w'.heap[k]? = w.heap[k]?) → P w' F

def SatF : List Assn → World → (Nat → Prop) → Prop
  | [], _, F => ∀ k, ¬ F k
  | A :: H, w, F => ∃ F1 F2 : Nat → Prop, A.P w F1 ∧ SatF H w F2 ∧ (∀ k, F1 k → ¬ F2 k) ∧ (∀ k, F k ↔ F1 k ∨ F2 k)

theorem SatF.loc {H : List Assn} : ∀ {w w' : World} {F : Nat → Prop}, SatF H w F → (∀ k, F k → w'.heap[k]? = w.heap[k]?) → SatF H w' F := by
  induction H with
  | nil => exact fun h _ => h
  | cons A H ih =>
    rintro w w' F ⟨F1, F2, h1, h2, hd, hF⟩ hk
    exact ⟨F1, F2, A.loc h1 (fun k h => hk k ((hF k).2 (.inl h))), ih h2 (fun k h => hk k ((hF k).2 (.inr h))), hd, hF⟩

theorem SatF.perm {H H' : List Assn} (hp : H.Perm H') : ∀ {w : World} {F : Nat → Prop}, SatF H w F → SatF H' w F := by
  induction hp with
  | nil => exact fun h => h
  | cons A _ ih =>
    rintro w F ⟨F1, F2, h1, h2, hd, hF⟩
    exact ⟨F1, F2, h1, ih h2, hd, hF⟩
  | swap A B H =>
    rintro w F ⟨F1, F2, h1, ⟨F3, F4, h3, h4, hd2, hF2⟩, hd, hF⟩
    refine ⟨F3, fun k => F1 k ∨ F4 k, h3, ⟨F1, F4, h1, h4, fun k h => fun h' => hd k h ((hF2 k).2 (.inr h')), fun _ => Iff.rfl⟩, ?_, ?_⟩
    · rintro k h (h' | h')
      · exact hd k h' ((hF2 k).2 (.inl h))
      · exact hd2 k h h'
    · intro k
      rw [hF k, hF2 k]
      constructor
      · rintro (h | h | h)
        · exact .inr (.inl h)
        · exact .inl h
        · exact .inr (.inr h)
      · rintro (h | h | h)
        · exact .inr (.inl h)
        · exact .inl h
        · exact .inr (.inr h)
  | trans _ _ ih1 ih2 => exact fun h => ih2 (ih1 h)

structure St (w0 : World) (H : List Assn) (w : World) : Prop where
  below : Bel w0.heap.size w0 w
  sat : ∃ F : Nat → Prop, SatF H w F ∧ ∀ k, F k → w0.heap.size ≤ k ∧ k < w.heap.size

theorem St.start (w : World) : St w [] w := ⟨Bel.refl _ _, fun _ => False, fun _ h => h, fun _ h => h.elim⟩

theorem St.perm {w0 w : World} {H H' : List Assn} (h : St w0 H w) (hp : H.Perm H') : St w0 H' w :=
  ⟨h.below, let ⟨F, h1, h2⟩ := h.sat; ⟨F, h1.perm hp, h2⟩⟩

theorem St.tail {w0 w : World} {A : Assn} {H : List Assn} (h : St w0 (A :: H) w) : St w0 H w := by
  obtain ⟨hb, F, ⟨F1, F2, h1, h2, hd, hF⟩, hk⟩ := h
  exact ⟨hb, F2, h2, fun k h => hk k ((hF k).2 (.inr h))⟩

theorem St.head {w0 w : World} {A : Assn} {H : List Assn} (h : St w0 (A :: H) w) : ∃ F, A.P w F ∧ ∀ k, F k → w0.heap.size ≤ k ∧ k < w.heap.size := by
  obtain ⟨hb, F, ⟨F1, F2, h1, h2, hd, hF⟩, hk⟩ := h
  exact ⟨F1, h1, fun k h => hk k ((hF k).2 (.inl h))⟩

theorem St.grow {w0 w w' : World} {H : List Assn} (h : St w0 H w) (hb : Bel w.heap.size w w') : St w0 H w' := by
  obtain ⟨h0, F, hs, hk⟩ := h
  refine ⟨⟨hb.os.trans h0.os, hb.tape.trans h0.tape, hb.output.trans h0.output, Nat.le_trans h0.size hb.size, fun k hk' => (hb.block k (Nat.lt_of_lt_of_le hk' h0.size)).trans (h0.block k hk'), Nat.le_trans h0.drawn hb.drawn⟩,
    F, hs.loc (fun k hF => hb.block k (hk k hF).2), fun k hF => ⟨(hk k hF).1, Nat.lt_of_lt_of_le (hk k hF).2 hb.size⟩⟩

theorem St.add {w0 w w' : World} {H : List Assn} {A : Assn} (h : St w0 H w) (hb : Bel w.heap.size w w') {F : Nat → Prop} (hA : A.P w' F) (hF : ∀ k, F k → w.heap.size ≤ k ∧ k < w'.heap.size) : St w0 (A :: H) w' := by
  have hsz := h.below.size
  obtain ⟨h0, F2, hs, hk⟩ := h.grow hb
  obtain ⟨_, F3, hs3, hk3⟩ := h
  refine ⟨h0, fun k => F k ∨ F3 k, ⟨F, F3, hA, hs3.loc (fun k hF => hb.block k (hk3 k hF).2), fun k h1 h2 => ?_, fun _ => Iff.rfl⟩, ?_⟩
  · have := (hF k h1).1
    have := (hk3 k h2).2
    omega
  · rintro k (h1 | h1)
    · exact ⟨Nat.le_trans hsz (hF k h1).1, (hF k h1).2⟩
    · exact ⟨(hk3 k h1).1, Nat.lt_of_lt_of_le (hk3 k h1).2 hb.size⟩

structure KeepBut (F : Nat → Prop) (w w' : World) : Prop where
  os : w'.os = w.os
  tape : w'.tape = w.tape
  output : w'.output = w.output
  size : w.heap.size ≤ w'.heap.size
  block : ∀ k, k < w.heap.size → ¬ F k → w'.heap[k]? = w.heap[k]?
  drawn : w.drawn ≤ w'.drawn

theorem St.upd {w0 w w' : World} {H : List Assn} {A B : Assn} (h : St w0 (A :: H) w)
    (hu : ∀ F, A.P w F → (∀ k, F k → w0.heap.size ≤ k ∧ k < w.heap.size) → KeepBut F w w' ∧ ∃ F', B.P w' F' ∧ ∀ k, F' k → (F k ∨ w.heap.size ≤ k) ∧ k < w'.heap.size) : St w0 (B :: H) w' := by
  obtain ⟨h0, F, ⟨F1, F2, h1, h2, hd, hF⟩, hk⟩ := h
  obtain ⟨hkeep, F', hB, hF'⟩ := hu F1 h1 (fun k h => hk k ((hF k).2 (.inl h)))
  refine ⟨⟨hkeep.os.trans h0.os, hkeep.tape.trans h0.tape, hkeep.output.trans h0.output, Nat.le_trans h0.size hkeep.size, fun k hk' => ?_, Nat.le_trans h0.drawn hkeep.drawn⟩,
    fun k => F' k ∨ F2 k, ⟨F', F2, hB, h2.loc (fun k h2' => hkeep.block k (hk k ((hF k).2 (.inr h2'))).2 (fun h1' => hd k h1' h2')), fun k h1' h2' => ?_, fun _ => Iff.rfl⟩, ?_⟩
  · exact (hkeep.block k (Nat.lt_of_lt_of_le hk' h0.size) (fun h1' => by have := (hk k ((hF k).2 (.inl h1'))).1; omega)).trans (h0.block k hk')
  · rcases (hF' k h1').1 with h | h
    · exact hd k h h2'
    · have := (hk k ((hF k).2 (.inr h2'))).2
      omega
  · rintro k (h | h)
    · refine ⟨?_, (hF' k h).2⟩
      rcases (hF' k h).1 with h' | h'
      · exact (hk k ((hF k).2 (.inl h'))).1
      · exact Nat.le_trans h0.size h'
    · exact ⟨(hk k ((hF k).2 (.inr h))).1, Nat.lt_of_lt_of_le (hk k ((hF k).2 (.inr h))).2 hkeep.size⟩

def pull : Nat → List Assn → Option (Assn × List Assn)
  | _, [] => none
  | 0, A :: H => some (A, H)
  | i + 1, A :: H => match pull i H with
    | some (B, H') => some (B, A :: H')
    | none => none

theorem pull_perm : ∀ {i : Nat} {H H' : List Assn} {A : Assn}, pull i H = some (A, H') → H.Perm (A :: H') := by
  intro i
  induction i with
  | zero =>
    intro H H' A h
    cases H with
    | nil => cases h
    | cons B H =>
      simp only [pull, Option.some.injEq, Prod.mk.injEq] at h
      obtain ⟨rfl, rfl⟩ := h
      exact .refl _
  | succ i ih =>
    intro H H' A h
    cases H with
    | nil => cases h
    | cons B H =>
      simp only [pull] at h
      cases hp : pull i H with
      | none => simp [hp] at h
      | some q =>
        obtain ⟨C, H2⟩ := q
        simp only [hp, Option.some.injEq, Prod.mk.injEq] at h
        obtain ⟨rfl, rfl⟩ := h
        exact (List.Perm.cons B (ih hp)).trans (List.Perm.swap _ _ _)

theorem St.get {w0 w : World} {H H' : List Assn} {A : Assn} (h : St w0 H w) (i : Nat) (hp : pull i H = some (A, H')) : ∃ F, A.P w F := by
  obtain ⟨F, hF, _⟩ := (h.perm (pull_perm hp)).head
  exact ⟨F, hF⟩

def Assn.pur (p : Prop) : Assn := ⟨fun _ F => p ∧ ∀ k, ¬ F k, fun h _ => h⟩
def Assn.exi {α : Type} (A : α → Assn) : Assn := ⟨fun w F => ∃ x, (A x).P w F, fun ⟨x, hx⟩ hk => ⟨x, (A x).loc hx hk⟩⟩
def Assn.sep (A B : Assn) : Assn := ⟨fun w F => ∃ F1 F2 : Nat → Prop, A.P w F1 ∧ B.P w F2 ∧ (∀ k, F1 k → ¬ F2 k) ∧ (∀ k, F k ↔ F1 k ∨ F2 k),
  fun {w w' F} ⟨F1, F2, h1, h2, hd, hF⟩ hk => ⟨F1, F2, A.loc h1 (fun k h => hk k ((hF k).2 (.inl h))), B.loc h2 (fun k h => hk k ((hF k).2 (.inr h))), hd, hF⟩⟩
theorem St.pur {w0 w : World} {p : Prop} {H : List Assn} (h : St w0 (.pur p :: H) w) : p ∧ St w0 H w := by
  obtain ⟨F, hF, _⟩ := h.head
  exact ⟨hF.1, h.tail⟩
theorem St.exi {w0 w : World} {α : Type} {A : α → Assn} {H : List Assn} (h : St w0 (.exi A :: H) w) : ∃ x, St w0 (A x :: H) w := by
  obtain ⟨hb, F, ⟨F1, F2, ⟨x, hx⟩, h2, hd, hF⟩, hk⟩ := h
  exact ⟨x, hb, F, ⟨F1, F2, hx, h2, hd, hF⟩, hk⟩
theorem St.sep {w0 w : World} {A B : Assn} {H : List Assn} (h : St w0 (.sep A B :: H) w) : St w0 (A :: B :: H) w := by
  obtain ⟨hb, F, ⟨F1, F2, ⟨F3, F4, h3, h4, hd', hF'⟩, h2, hd, hF⟩, hk⟩ := h
  refine ⟨hb, F, ⟨F3, fun k => F4 k ∨ F2 k, h3, ⟨F4, F2, h4, h2, fun k h5 h6 => hd k ((hF' k).2 (.inr h5)) h6, fun _ => Iff.rfl⟩, ?_, ?_⟩, hk⟩
  · rintro k h5 (h6 | h6)
    · exact hd' k h5 h6
    · exact hd k ((hF' k).2 (.inl h5)) h6
  · intro k
    rw [hF k, hF' k]
    exact ⟨fun h => by rcases h with (h | h) | h <;> simp [h], fun h => by rcases h with h | h | h <;> simp [h]⟩
theorem St.unsep {w0 w : World} {A B : Assn} {H : List Assn} (h : St w0 (A :: B :: H) w) : St w0 (.sep A B :: H) w := by
  obtain ⟨hb, F, ⟨F3, F5, h3, ⟨F4, F2, h4, h2, hd', hF'⟩, hd, hF⟩, hk⟩ := h
  refine ⟨hb, F, ⟨fun k => F3 k ∨ F4 k, F2, ⟨F3, F4, h3, h4, fun k h5 h6 => hd k h5 ((hF' k).2 (.inl h6)), fun _ => Iff.rfl⟩, h2, ?_, ?_⟩, hk⟩
  · rintro k (h5 | h5) h6
    · exact hd k h5 ((hF' k).2 (.inr h6))
    · exact hd' k h5 h6
  · intro k
    rw [hF k, hF' k]
    exact ⟨fun h => by rcases h with h | h | h <;> simp [h], fun h => by rcases h with (h | h) | h <;> simp [h]⟩
theorem St.addPur {w0 w : World} {p : Prop} {H : List Assn} (hp : p) (h : St w0 H w) : St w0 (.pur p :: H) w := by
  obtain ⟨hb, F, hs, hk⟩ := h
  exact ⟨hb, F, ⟨fun _ => False, F, ⟨hp, fun _ h => h⟩, hs, fun _ h => h.elim, fun k => by simp⟩, hk⟩
theorem St.mkExi {w0 w : World} {α : Type} {A : α → Assn} {H : List Assn} (x : α) (h : St w0 (A x :: H) w) : St w0 (.exi A :: H) w := by
  obtain ⟨hb, F, ⟨F1, F2, hx, h2, hd, hF⟩, hk⟩ := h
  exact ⟨hb, F, ⟨F1, F2, ⟨x, hx⟩, h2, hd, hF⟩, hk⟩
theorem St.mono {w0 w : World} {A B : Assn} {H : List Assn} (hAB : ∀ w F, A.P w F → B.P w F) (h : St w0 (A :: H) w) : St w0 (B :: H) w := by
  obtain ⟨hb, F, ⟨F1, F2, hx, h2, hd, hF⟩, hk⟩ := h
  exact ⟨hb, F, ⟨F1, F2, hAB _ _ hx, h2, hd, hF⟩, hk⟩

inductive Sub : List Assn → List Assn → Prop where
  | nil (H : List Assn) : Sub H []
  | cons {H H1 H' : List Assn} {A B : Assn} (i : Nat) (hp : pull i H = some (A, H1)) (hAB : ∀ w F, A.P w F → B.P w F) (h : Sub H1 H') : Sub H (B :: H')
  | pur {H H' : List Assn} {p : Prop} (hp : p) (h : Sub H H') : Sub H (.pur p :: H')
  | drop {H H' : List Assn} {A : Assn} (h : Sub H H') : Sub (A :: H) H'
  | refl (H : List Assn) : Sub H H
theorem Sub.keep {H H1 H' : List Assn} {A : Assn} (i : Nat) (hp : pull i H = some (A, H1)) (h : Sub H1 H') : Sub H (A :: H') := .cons i hp (fun _ _ h => h) h
theorem SatF.sub {H H' : List Assn} (hs : Sub H H') : ∀ {w : World} {F : Nat → Prop}, SatF H w F → ∃ F', SatF H' w F' ∧ ∀ k, F' k → F k := by
  induction hs with
  | nil H => exact fun h => ⟨fun _ => False, fun _ h => h, fun _ h => h.elim⟩
  | cons i hp hAB _ ih =>
    intro w F h
    obtain ⟨F1, F2, h1, h2, hd, hF⟩ := h.perm (pull_perm hp)
    obtain ⟨F', hs', hF'⟩ := ih h2
    exact ⟨fun k => F1 k ∨ F' k, ⟨F1, F', hAB _ _ h1, hs', fun k h3 h4 => hd k h3 (hF' k h4), fun _ => Iff.rfl⟩, fun k h => (hF k).2 (h.imp id (hF' k))⟩
  | pur hp _ ih =>
    intro w F h
    obtain ⟨F', hs', hF'⟩ := ih h
    exact ⟨F', ⟨fun _ => False, F', ⟨hp, fun _ h => h⟩, hs', fun _ h => h.elim, fun k => by simp⟩, hF'⟩
  | drop _ ih =>
    rintro w F ⟨F1, F2, h1, h2, hd, hF⟩
    obtain ⟨F', hs', hF'⟩ := ih h2
    exact ⟨F', hs', fun k h => (hF k).2 (.inr (hF' k h))⟩
  | refl H => exact fun h => ⟨_, h, fun _ h => h⟩
theorem St.sub {w0 w : World} {H H' : List Assn} (h : St w0 H w) (hs : Sub H H') : St w0 H' w := by
  obtain ⟨hb, F, hF, hk⟩ := h
  obtain ⟨F', hs', hF'⟩ := hF.sub hs
  exact ⟨hb, F', hs', fun k hh => hk k (hF' k hh)⟩

theorem least {p : Nat → Prop} : ∀ n, p n → ∃ m, p m ∧ ∀ k, p k → m ≤ k := by
  intro n
  induction n using Nat.strongRecOn with
  | _ n ih =>
    intro hn
    by_cases h : ∃ k, k < n ∧ p k
    · obtain ⟨k, hk, hp⟩ := h
      exact ih k hk hp
    · exact ⟨n, hn, fun k hk => by
        rcases Nat.lt_or_ge k n with h' | h'
        · exact absurd ⟨k, h', hk⟩ h
        · exact h'⟩

open Classical in
theorem wp_loop_ind {P : Program} {c : Code} {Q : Exit → Act → World → Prop} (J : Nat → Act → World → Prop)
    (round : ∀ n a w, J n a w → c.wp P (Exit.then (fun a' w' => ∃ n', n' < n ∧ J n' a' w') Q) a w) {a : Act} {w : World} (n : Nat) (h : J n a w) : (Code.loop c).wp P Q a w := by
  have key : ∀ a w, (∃ n, J n a w) → ∃ m, J m a w ∧ ∀ k, J k a w → m ≤ k := fun a w ⟨n, hn⟩ => least n hn
  refine wp_loop (fun a w => ∃ n, J n a w) (fun a w => if h : ∃ n, J n a w then Classical.choose (key a w h) else 0) ⟨n, h⟩ ?_
  intro a w hI
  have hm := Classical.choose_spec (key a w hI)
  refine wp_mono (round _ a w hm.1) ?_
  intro e a' w' hq
  cases e with
  | normal =>
    obtain ⟨n', hn', hJ⟩ := hq
    refine ⟨⟨n', hJ⟩, ?_⟩
    rw [dif_pos (⟨n', hJ⟩ : ∃ n, J n a' w'), dif_pos hI]
    exact Nat.lt_of_le_of_lt ((Classical.choose_spec (key a' w' ⟨n', hJ⟩)).2 n' hJ) hn'
  | _ => exact hq


variable {P : Program}

def V (P : Program) (N : Nat) (w0 : World) (c : Code) (Q : Exit → Act → World → Prop) (σ : Sig) (H : List Assn) : Prop :=
  ∀ w, St w0 H w → ∀ a, Env N σ a → c.wp P Q a w
def X (N : Nat) (w0 : World) (Q : Exit → Act → World → Prop) (e : Exit) (σ : Sig) (H : List Assn) : Prop :=
  ∀ w, St w0 H w → ∀ a, Env N σ a → Q e a w
def O (P : Program) (N : Nat) (w0 : World) (ops : Array Oper) (Q : Exit → Act → World → Prop) (rest : List Oper) (σ : Sig) (H : List Assn) : Prop :=
  ∀ w, St w0 H w → ∀ a, Env N σ a → wpList P ops Q rest a w

section rules
variable {N : Nat} {w0 : World} {Q : Exit → Act → World → Prop} {σ σ' : Sig} {H H' : List Assn}

theorem V.seq {x y : Code} (h : V P N w0 x (Exit.then (fun a w => y.wp P Q a w) Q) σ H) : V P N w0 (.seq x y) Q σ H :=
  fun w hw a ha => wp_seq (h w hw a ha)
theorem X.next {y : Code} (h : V P N w0 y Q σ H) : X N w0 (Exit.then (fun a w => y.wp P Q a w) Q) .normal σ H := h
theorem V.skip (h : X N w0 Q .normal σ H) : V P N w0 .skip Q σ H := fun w hw a ha => wp_skip (h w hw a ha)
theorem V.exit {id : Nat} (h : X N w0 Q (.exit id) σ H) : V P N w0 (.exit id) Q σ H := fun w hw a ha => wp_exit (h w hw a ha)
theorem V.ret (h : X N w0 Q .ret σ H) : V P N w0 .ret Q σ H := fun w hw a ha => wp_ret (h w hw a ha)
theorem X.thenRet {K : Act → World → Prop} (h : X N w0 Q .ret σ H) : X N w0 (Exit.then K Q) .ret σ H := h
theorem X.thenExit {K : Act → World → Prop} {id : Nat} (h : X N w0 Q (.exit id) σ H) : X N w0 (Exit.then K Q) (.exit id) σ H := h
theorem X.blockRet {id : Nat} (h : X N w0 Q .ret σ H) : X N w0 (Exit.inBlock id Q) .ret σ H := h
theorem X.blockNormal {id : Nat} (h : X N w0 Q .normal σ H) : X N w0 (Exit.inBlock id Q) .normal σ H := h
theorem X.blockHit {id : Nat} (h : X N w0 Q .normal σ H) : X N w0 (Exit.inBlock id Q) (.exit id) σ H := by
  intro w hw a ha
  simp only [Exit.inBlock, if_true]
  exact h w hw a ha
theorem V.block {id : Nat} {c : Code} (h : V P N w0 c (Exit.inBlock id Q) σ H) : V P N w0 (.block id c) Q σ H := fun w hw a ha => wp_block (h w hw a ha)

theorem V.cond {c : Operand} {x y : Code} {b : Bool} (hc : ev σ c = some (.bool b)) (ht : b = true → V P N w0 x Q σ H) (hf : b = false → V P N w0 y Q σ H) : V P N w0 (.cond c x y) Q σ H := by
  intro w hw a ha
  exact wp_cond_split (ha.eval hc) (fun h => ht h w hw a ha) (fun h => hf h w hw a ha)
theorem V.condD {c : Operand} {x y : Code} {p : Prop} [Decidable p] (hc : ev σ c = some (.bool (decide p))) (ht : p → V P N w0 x Q σ H) (hf : ¬ p → V P N w0 y Q σ H) : V P N w0 (.cond c x y) Q σ H :=
  V.cond hc (fun h => ht (of_decide_eq_true h)) (fun h => hf (of_decide_eq_false h))
theorem V.condNot {c : Operand} {x y : Code} {p : Prop} [Decidable p] (hc : ev σ c = some (.bool (!decide p))) (ht : ¬ p → V P N w0 x Q σ H) (hf : p → V P N w0 y Q σ H) : V P N w0 (.cond c x y) Q σ H :=
  V.cond hc (fun h => ht (by simpa using h)) (fun h => hf (by simpa using h))
theorem V.condT {c : Operand} {x y : Code} (hc : ev σ c = some (.bool true)) (ht : V P N w0 x Q σ H) : V P N w0 (.cond c x y) Q σ H := V.cond hc (fun _ => ht) (fun h => by cases h)
theorem V.condF {c : Operand} {x y : Code} (hc : ev σ c = some (.bool false)) (hf : V P N w0 y Q σ H) : V P N w0 (.cond c x y) Q σ H := V.cond hc (fun h => by cases h) (fun _ => hf)

theorem V.ent {c : Code} (hσ : Ent σ σ') (h : V P N w0 c Q σ' H) : V P N w0 c Q σ H := fun w hw a ha => h w hw a (ha.ent hσ)

def Back (N : Nat) (w0 : World) {α : Type} (σi : α → Sig) (Hi : α → List Assn) (Φ : α → Prop) (m : α → Nat) (x : α) (a : Act) (w : World) : Prop :=
  ∃ y, Φ y ∧ m y < m x ∧ Env N (σi y) a ∧ St w0 (Hi y) w

theorem V.loop {c : Code} {α : Type} (σi : α → Sig) (Hi : α → List Assn) (Φ : α → Prop) (m : α → Nat) (x : α) (hΦ : Φ x) (hσ : Ent σ (σi x)) (hH : Sub H (Hi x))
    (round : ∀ x, Φ x → V P N w0 c (Exit.then (Back N w0 σi Hi Φ m x) Q) (σi x) (Hi x)) : V P N w0 (.loop c) Q σ H := by
  intro w hw a ha
  refine wp_loop_ind (fun n a w => ∃ x, m x = n ∧ Φ x ∧ Env N (σi x) a ∧ St w0 (Hi x) w) ?_ (m x) ⟨x, rfl, hΦ, ha.ent hσ, hw.sub hH⟩
  rintro n a w ⟨x, hn, hΦ, ha, hw⟩
  refine wp_mono (round x hΦ w hw a ha) ?_
  intro e a' w' hq
  cases e with
  | normal =>
    obtain ⟨y, hy, hm, ha', hw'⟩ := hq
    exact ⟨m y, hn ▸ hm, y, rfl, hy, ha', hw'⟩
  | _ => exact hq
theorem X.back {α : Type} {σi : α → Sig} {Hi : α → List Assn} {Φ : α → Prop} {m : α → Nat} {x : α} (y : α) (hΦ : Φ y) (hm : m y < m x) (hσ : Ent σ (σi y)) (hH : Sub H (Hi y)) :
    X N w0 (Exit.then (Back N w0 σi Hi Φ m x) Q) .normal σ H := fun w hw a ha => ⟨y, hΦ, hm, ha.ent hσ, hw.sub hH⟩
end rules
end Go.Vc

namespace Go.Vc
open Go Go.RowKit


def Sz (P : Program) (t n : Nat) : Prop := (P.info? t).map (·.size) = some n
def plainT (P : Program) (t : Nat) : Bool := match P.underlying t with
  | some (.struct _) | some (.array _ _) | none => false
  | _ => true
def aggT (P : Program) (t : Nat) : Bool := match P.underlying t with
  | some (.struct _) | some (.array _ _) => true
  | _ => false

section
variable {P : Program} {w : World}
theorem run_sz {t n : Nat} (h : Sz P t n) : (sizeOf t).run P w = .ok n w := by
  unfold Sz at h
  obtain ⟨i, hi, rfl⟩ := Option.map_eq_some_iff.1 h
  simp [sizeOf, typeInfo, hi]
theorem run_isAgg_f {t : Nat} (h : plainT P t = true) : (isAgg t).run P w = .ok false w := by
  unfold plainT at h
  cases hu : P.underlying t with
  | none => simp [hu] at h
  | some d => cases d <;> simp_all [isAgg, run_underlying hu]
theorem run_isAgg_t {t : Nat} (h : aggT P t = true) : (isAgg t).run P w = .ok true w := by
  unfold aggT at h
  cases hu : P.underlying t with
  | none => simp [hu] at h
  | some d => cases d <;> simp_all [isAgg, run_underlying hu]
end

def Agree (σ : Sig) (o : Oper) (a : Act) : Prop := ∀ x, x ∈ o.op.operands → ∀ v, ev σ x = some v → a.eval x = v
theorem Env.agree {N : Nat} {σ : Sig} {a : Act} (h : Env N σ a) (o : Oper) : Agree σ o a := fun _ _ _ hv => h.eval hv

def Pu (P : Program) (w0 : World) (o : Oper) (σ : Sig) (H : List Assn) (v : Value) : Prop :=
  ∀ w, St w0 H w → ∀ a, Agree σ o a → (execOp a.eval o).run P w = .ok (.value v) w
def Ef (P : Program) (w0 : World) (o : Oper) (σ : Sig) (H : List Assn) (Q : Exit → Act → World → Prop) (K : Value → List Assn → Prop) : Prop :=
  ∀ w, St w0 H w → ∀ a, Agree σ o a → o.wp P a w (fun a' w' => ∃ v H', a' = a.put o.dst v ∧ St w0 H' w' ∧ K v H') Q

section rules
variable {P : Program} {N : Nat} {w0 : World} {Q : Exit → Act → World → Prop} {σ σ' : Sig} {H H' : List Assn} {ops : Array Oper} {rest : List Oper} {o : Oper}

theorem V.region {id : Nat} {l : List Oper} (h : O P N w0 l.toArray Q l σ H) : V P N w0 (.region id l.toArray false) Q σ H :=
  fun w hw a ha => wp_region_lit (h w hw a ha)
theorem O.nil (h : X N w0 Q .normal σ H) : O P N w0 ops Q [] σ H := fun w hw a ha => wpList_nil (h w hw a ha)

theorem wanted_none (hg : o.guard = none) (f : Nat → Option Bool) : Region.wanted o f = true := by simp [Region.wanted, hg]

theorem upon_ok {a : Act} {w w' : World} {v : Value} {K : Act → World → Prop} (h : (execOp a.eval o).run P w = .ok (.value v) w') (hK : K (a.put o.dst v) w') : o.wp P a w K Q := by
  unfold Oper.wp
  rw [h]
  exact hK

theorem O.pu {d : Option Tmp} {v : Value} (hg : o.guard = none) (hd : o.dst = d) (hN : dstOk d N = true) (hp : Pu P w0 o σ H v) (h : O P N w0 ops Q rest (push d v σ) H) : O P N w0 ops Q (o :: rest) σ H := by
  intro w hw a ha
  unfold wpList
  rw [if_pos (wanted_none hg _)]
  subst hd
  exact .inl (upon_ok (hp w hw a (ha.agree o)) (h w hw _ (ha.put hN v)))
theorem O.p {d : Tmp} {v : Value} (hg : o.guard = none) (hd : o.dst = some d) (hN : Nat.blt d N = true) (hp : Pu P w0 o σ H v) (h : O P N w0 ops Q rest ((d, v) :: σ) H) : O P N w0 ops Q (o :: rest) σ H :=
  O.pu hg hd hN hp h
theorem O.ef {d : Option Tmp} {K : Value → List Assn → Prop} (hg : o.guard = none) (hd : o.dst = d) (hN : dstOk d N = true) (hp : Ef P w0 o σ H Q K) (h : ∀ v H', K v H' → O P N w0 ops Q rest (push d v σ) H') : O P N w0 ops Q (o :: rest) σ H := by
  intro w hw a ha
  unfold wpList
  rw [if_pos (wanted_none hg _)]
  subst hd
  refine .inl (Oper.wp_mono ?_ (hp w hw a (ha.agree o)))
  rintro a' w' ⟨v, H', rfl, hw', hK⟩
  exact h v H' hK w' hw' _ (ha.put hN v)
theorem O.e {d : Tmp} {K : Value → List Assn → Prop} (hg : o.guard = none) (hd : o.dst = some d) (hN : Nat.blt d N = true) (hp : Ef P w0 o σ H Q K) (h : ∀ v H', K v H' → O P N w0 ops Q rest ((d, v) :: σ) H') : O P N w0 ops Q (o :: rest) σ H :=
  O.ef hg hd hN hp h
theorem O.s {K : Value → List Assn → Prop} (hg : o.guard = none) (hd : o.dst = none) (hp : Ef P w0 o σ H Q K) (h : ∀ v H', K v H' → O P N w0 ops Q rest σ H') : O P N w0 ops Q (o :: rest) σ H :=
  O.ef hg hd rfl hp h

theorem yielded_of {a : Act} {j t : Nat} {u : Value} (ha : Env N σ a) (hj : (ops[j]?).bind (·.dst) = some t) (hu : look σ t = some u) : yielded ops a.tmps j = (match u with | .bool b => some b | _ => none) := by
  unfold yielded
  rw [hj]
  simp only [Option.bind_some]
  rw [ha.look_ t u hu]
  cases u <;> rfl
theorem O.gp {d : Tmp} {v : Value} {j t : Nat} {b : Bool} (hg : o.guard = some (j, b)) (hj : (ops[j]?).bind (·.dst) = some t) (hu : look σ t = some (.bool b)) (hd : o.dst = some d) (hN : Nat.blt d N = true) (hp : Pu P w0 o σ H v)
    (h : O P N w0 ops Q rest ((d, v) :: σ) H) : O P N w0 ops Q (o :: rest) σ H := by
  intro w hw a ha
  unfold wpList
  have hy := yielded_of ha hj hu
  rw [if_pos (by simp [Region.wanted, hg, hy])]
  refine .inl (upon_ok (hp w hw a (ha.agree o)) ?_)
  rw [hd]
  exact h w hw _ (ha.put (d := some d) hN v)
theorem O.ge {d : Tmp} {K : Value → List Assn → Prop} {j t : Nat} {b : Bool} (hg : o.guard = some (j, b)) (hj : (ops[j]?).bind (·.dst) = some t) (hu : look σ t = some (.bool b)) (hd : o.dst = some d) (hN : Nat.blt d N = true) (hp : Ef P w0 o σ H Q K)
    (h : ∀ v H', K v H' → O P N w0 ops Q rest ((d, v) :: σ) H') : O P N w0 ops Q (o :: rest) σ H := by
  intro w hw a ha
  unfold wpList
  have hy := yielded_of ha hj hu
  rw [if_pos (by simp [Region.wanted, hg, hy])]
  refine .inl (Oper.wp_mono ?_ (hp w hw a (ha.agree o)))
  rintro a' w' ⟨v, H', rfl, hw', hK⟩
  rw [hd]
  exact h v H' hK w' hw' _ (ha.put (d := some d) hN v)
def skipB (b : Bool) : Value → Bool
  | .bool c => c != b
  | _ => true
theorem O.gs {d : Tmp} {j t : Nat} {b : Bool} {u : Value} (hg : o.guard = some (j, b)) (hj : (ops[j]?).bind (·.dst) = some t) (hu : look σ t = some u) (hne : skipB b u = true) (hd : o.dst = some d) (hN : Nat.blt d N = true)
    (h : O P N w0 ops Q rest ((d, undef) :: σ) H) : O P N w0 ops Q (o :: rest) σ H := by
  intro w hw a ha
  unfold wpList
  have hy := yielded_of ha hj hu
  rw [if_neg]
  · rw [hd]
    exact h w hw _ (ha.put (d := some d) hN undef)
  · simp only [Region.wanted, hg, hy]
    cases u <;> simp_all [skipB]

theorem O.fact {p : Prop} (hp : ∀ w, St w0 H w → p) (h : p → O P N w0 ops Q rest σ H) : O P N w0 ops Q rest σ H := fun w hw a ha => h (hp w hw) w hw a ha
theorem O.pur {p : Prop} (h : p → O P N w0 ops Q rest σ H) : O P N w0 ops Q rest σ (.pur p :: H) := fun w hw a ha => h hw.pur.1 w hw.pur.2 a ha
theorem O.exi {α : Type} {A : α → Assn} (h : ∀ x, O P N w0 ops Q rest σ (A x :: H)) : O P N w0 ops Q rest σ (.exi A :: H) := fun w hw a ha => let ⟨x, hx⟩ := hw.exi; h x w hx a ha
theorem O.sep {A B : Assn} (h : O P N w0 ops Q rest σ (A :: B :: H)) : O P N w0 ops Q rest σ (.sep A B :: H) := fun w hw a ha => h w hw.sep a ha
theorem V.pur {c : Code} {p : Prop} (h : p → V P N w0 c Q σ H) : V P N w0 c Q σ (.pur p :: H) := fun w hw a ha => h hw.pur.1 w hw.pur.2 a ha
theorem V.exi {c : Code} {α : Type} {A : α → Assn} (h : ∀ x, V P N w0 c Q σ (A x :: H)) : V P N w0 c Q σ (.exi A :: H) := fun w hw a ha => let ⟨x, hx⟩ := hw.exi; h x w hx a ha
theorem V.sep {c : Code} {A B : Assn} (h : V P N w0 c Q σ (A :: B :: H)) : V P N w0 c Q σ (.sep A B :: H) := fun w hw a ha => h w hw.sep a ha
theorem O.ent (hσ : Ent σ σ') (h : O P N w0 ops Q rest σ' H) : O P N w0 ops Q rest σ H := fun w hw a ha => h w hw a (ha.ent hσ)
theorem O.sub (hH : Sub H H') (h : O P N w0 ops Q rest σ H') : O P N w0 ops Q rest σ H := fun w hw a ha => h w (hw.sub hH) a ha
theorem V.sub {c : Code} (hH : Sub H H') (h : V P N w0 c Q σ H') : V P N w0 c Q σ H := fun w hw a ha => h w (hw.sub hH) a ha
theorem V.pull {c : Code} {A : Assn} (i : Nat) (hp : Vc.pull i H = some (A, H')) (h : V P N w0 c Q σ (A :: H')) : V P N w0 c Q σ H := fun w hw a ha => h w (hw.perm (pull_perm hp)) a ha
theorem O.pull {A : Assn} (i : Nat) (hp : Vc.pull i H = some (A, H')) (h : O P N w0 ops Q rest σ (A :: H')) : O P N w0 ops Q rest σ H := fun w hw a ha => h w (hw.perm (pull_perm hp)) a ha


theorem Pu.move {x : Operand} {v : Value} (ho : o.op = .move x) (hx : ev σ x = some v) : Pu P w0 o σ H v := by
  intro w hw a ha
  have h1 := ha x (by simp [ho, Op.operands]) v hx
  simp [execOp, ho, h1]
theorem Pu.assign {x : Operand} {v : Value} (ho : o.op = .assign x) (hx : ev σ x = some v) : Pu P w0 o σ H v := by
  intro w hw a ha
  have h1 := ha x (by simp [ho, Op.operands]) v hx
  simp [execOp, ho, h1]
theorem Pu.pickT {c x y : Operand} {v : Value} (ho : o.op = .pick c x y) (hc : ev σ c = some (.bool true)) (hx : ev σ x = some v) : Pu P w0 o σ H v := by
  intro w hw a ha
  have h1 := ha c (by simp [ho, Op.operands]) _ hc
  have h2 := ha x (by simp [ho, Op.operands]) v hx
  simp [execOp, ho, h1, h2, asBool]
theorem Pu.pickF {c x y : Operand} {v : Value} (ho : o.op = .pick c x y) (hc : ev σ c = some (.bool false)) (hy : ev σ y = some v) : Pu P w0 o σ H v := by
  intro w hw a ha
  have h1 := ha c (by simp [ho, Op.operands]) _ hc
  have h2 := ha y (by simp [ho, Op.operands]) v hy
  simp [execOp, ho, h1, h2, asBool]
section ints
variable {T T2 : TypeId} {x y : Operand} {k : IntKind} {m n : Int}
theorem Pu.bin {op : BinOp} {v : Value} (ho : o.op = .binOp op T x y T2) (hx : ev σ x = some (.int k m)) (hy : ev σ y = some (.int k n))
    (hr : ∀ w, (Go.binOp op T (.int k m) (.int k n)).run P w = .ok v w) : Pu P w0 o σ H v := by
  intro w hw a ha
  have h1 := ha x (by simp [ho, Op.operands]) _ hx
  have h2 := ha y (by simp [ho, Op.operands]) _ hy
  have he : (eqGuard op T x y (.int k m) (.int k n)).run P w = .ok () w := by
    unfold eqGuard
    cases op <;> simp
  simp [execOp, ho, h1, h2, he, hr w]
theorem Pu.lss (ho : o.op = .binOp .lss T x y T2) (hx : ev σ x = some (.int k m)) (hy : ev σ y = some (.int k n)) : Pu P w0 o σ H (.bool (decide (m < n))) :=
  Pu.bin ho hx hy fun w => by simp [Go.binOp, Op.intCmp]
theorem Pu.leq (ho : o.op = .binOp .leq T x y T2) (hx : ev σ x = some (.int k m)) (hy : ev σ y = some (.int k n)) : Pu P w0 o σ H (.bool (decide (m ≤ n))) :=
  Pu.bin ho hx hy fun w => by simp [Go.binOp, Op.intCmp]
theorem Pu.gtr (ho : o.op = .binOp .gtr T x y T2) (hx : ev σ x = some (.int k m)) (hy : ev σ y = some (.int k n)) : Pu P w0 o σ H (.bool (decide (n < m))) :=
  Pu.bin ho hx hy fun w => by simp [Go.binOp, Op.intCmp]
theorem Pu.geq (ho : o.op = .binOp .geq T x y T2) (hx : ev σ x = some (.int k m)) (hy : ev σ y = some (.int k n)) : Pu P w0 o σ H (.bool (decide (n ≤ m))) :=
  Pu.bin ho hx hy fun w => by simp [Go.binOp, Op.intCmp]
theorem Pu.eql (ho : o.op = .binOp .eql T x y T2) (hx : ev σ x = some (.int k m)) (hy : ev σ y = some (.int k n)) : Pu P w0 o σ H (.bool (decide (m = n))) :=
  Pu.bin ho hx hy fun w => by simp [Go.binOp, Op.intCmp]; rfl
theorem Pu.neq (ho : o.op = .binOp .neq T x y T2) (hx : ev σ x = some (.int k m)) (hy : ev σ y = some (.int k n)) : Pu P w0 o σ H (.bool (!decide (m = n))) :=
  Pu.bin ho hx hy fun w => by simp [Go.binOp, Op.intCmp]; rfl
theorem Pu.add (ho : o.op = .binOp .add T x y T2) (hx : ev σ x = some (.int k m)) (hy : ev σ y = some (.int k n)) : Pu P w0 o σ H (.int k (k.wrap (m + n))) :=
  Pu.bin ho hx hy fun w => by simp [Go.binOp, Op.intArith]
theorem Pu.subW (ho : o.op = .binOp .sub T x y T2) (hx : ev σ x = some (.int k m)) (hy : ev σ y = some (.int k n)) : Pu P w0 o σ H (.int k (k.wrap (m - n))) :=
  Pu.bin ho hx hy fun w => by simp [Go.binOp, Op.intArith]
theorem Pu.mulW (ho : o.op = .binOp .mul T x y T2) (hx : ev σ x = some (.int k m)) (hy : ev σ y = some (.int k n)) : Pu P w0 o σ H (.int k (k.wrap (m * n))) :=
  Pu.bin ho hx hy fun w => by simp [Go.binOp, Op.intArith]
theorem Pu.add64 {r : Int} (hr : m + n = r) (hb : -9223372036854775808 ≤ r ∧ r ≤ 9223372036854775807) (ho : o.op = .binOp .add T x y T2) (hx : ev σ x = some (.int .i64 m)) (hy : ev σ y = some (.int .i64 n)) : Pu P w0 o σ H (.int .i64 r) := by
  have := Pu.add (P := P) (w0 := w0) (H := H) ho hx hy
  rwa [hr, IntWalk.i64_in _ hb] at this
theorem Pu.sub64 {r : Int} (hr : m - n = r) (hb : -9223372036854775808 ≤ r ∧ r ≤ 9223372036854775807) (ho : o.op = .binOp .sub T x y T2) (hx : ev σ x = some (.int .i64 m)) (hy : ev σ y = some (.int .i64 n)) : Pu P w0 o σ H (.int .i64 r) := by
  have := Pu.subW (P := P) (w0 := w0) (H := H) ho hx hy
  rwa [hr, IntWalk.i64_in _ hb] at this
theorem Pu.mul64 {r : Int} (hr : m * n = r) (hb : -9223372036854775808 ≤ r ∧ r ≤ 9223372036854775807) (ho : o.op = .binOp .mul T x y T2) (hx : ev σ x = some (.int .i64 m)) (hy : ev σ y = some (.int .i64 n)) : Pu P w0 o σ H (.int .i64 r) := by
  have := Pu.mulW (P := P) (w0 := w0) (H := H) ho hx hy
  rwa [hr, IntWalk.i64_in _ hb] at this
theorem Pu.rem64' {r : Int} (h0 : 0 ≤ m) (hn : 0 < n) (hr : m % n = r) (ho : o.op = .binOp .rem T x y T2) (hx : ev σ x = some (.int .i64 m)) (hy : ev σ y = some (.int .i64 n)) : Pu P w0 o σ H (.int .i64 r) :=
  Pu.bin ho hx hy fun w => by
    have h1 : m.tmod n = m % n := Int.tmod_eq_emod_of_nonneg h0
    have h5 : n ≠ 0 := by omega
    simp [Go.binOp, Op.intDiv, h1, h5, hr]
end ints

theorem Pu.lssF {T T2 : TypeId} {x y : Operand} {k : IntKind} {m n : Int} (h : ¬ m < n) (ho : o.op = .binOp .lss T x y T2) (hx : ev σ x = some (.int k m)) (hy : ev σ y = some (.int k n)) : Pu P w0 o σ H (.bool false) := by
  have := Pu.lss (P := P) (w0 := w0) (H := H) ho hx hy
  rwa [decide_eq_false h] at this
theorem Pu.isT {p : Prop} [Decidable p] (hp : p) (h : Pu P w0 o σ H (.bool (decide p))) : Pu P w0 o σ H (.bool true) := by rwa [decide_eq_true hp] at h
theorem Pu.isF {p : Prop} [Decidable p] (hp : ¬ p) (h : Pu P w0 o σ H (.bool (decide p))) : Pu P w0 o σ H (.bool false) := by rwa [decide_eq_false hp] at h
theorem Pu.not' {T : TypeId} {x : Operand} {b : Bool} (ho : o.op = .unOp .not T x) (hx : ev σ x = some (.bool b)) : Pu P w0 o σ H (.bool (!b)) := by
  intro w hw a ha
  have h1 := ha x (by simp [ho, Op.operands]) _ hx
  simp [execOp, ho, h1, Op.unary]
theorem Pu.notT {T : TypeId} {x : Operand} (ho : o.op = .unOp .not T x) (hx : ev σ x = some (.bool true)) : Pu P w0 o σ H (.bool false) := Pu.not' ho hx
theorem Pu.not {T : TypeId} {x : Operand} {b : Bool} (ho : o.op = .unOp .not T x) (hx : ev σ x = some (.bool b)) : Pu P w0 o σ H (.bool (!b)) := by
  intro w hw a ha
  have h1 := ha x (by simp [ho, Op.operands]) _ hx
  simp [execOp, ho, h1, Op.unary]
theorem run_equalIn_bool {T : TypeId} {b c : Bool} (hT : P.underlying T = some .bool) (d : Nat) (w : World) : (Op.equalIn (d + 1) T (.bool b) (.bool c)).run P w = .ok (b == c) w := by
  simp [Op.equalIn, run_underlying hT]
theorem run_equal_of {T : TypeId} {u v : Value} {b : Bool} {w : World} (h : ∀ d, (Op.equalIn (d + 1) T u v).run P w = .ok b w) : (Op.equal T u v).run P w = .ok b w := by
  rw [show Op.equal T u v = Op.equalIn (9999 + 1) T u v from rfl]
  exact h 9999
theorem Pu.boolNeq {T T2 : TypeId} {x y : Operand} {b c : Bool} (hT : P.underlying T = some .bool) (ho : o.op = .binOp .neq T x y T2) (hx : ev σ x = some (.bool b)) (hy : ev σ y = some (.bool c)) : Pu P w0 o σ H (.bool (!(b == c))) := by
  intro w hw a ha
  have h1 := ha x (by simp [ho, Op.operands]) _ hx
  have h2 := ha y (by simp [ho, Op.operands]) _ hy
  have he := run_equal_of (P := P) (T := T) (fun d => run_equalIn_bool (b := b) (c := c) hT d w)
  have hg : (eqGuard .neq T x y (.bool b) (.bool c)).run P w = .ok () w := by simp [eqGuard]
  have hb : (Go.binOp .neq T (.bool b) (.bool c)).run P w = .ok (.bool (!(b == c))) w := by
    rw [show Go.binOp .neq T (.bool b) (.bool c) = (do pure (.bool (!(← Op.equal T (.bool b) (.bool c))))) from rfl]
    simp only [Sem.run_bind, he, Result.andThen_ok, Sem.run_pure]
  simp only [execOp, ho, h1, h2, Sem.run_bind, hg, hb, Result.andThen_ok, Sem.run_pure]
theorem Pu.convert {s t : TypeId} {x : Operand} {k k' : IntKind} {n : Int} (hs : ∃ d, P.underlying s = some d) (ht : P.underlying t = some (.int k')) (ho : o.op = .convert s t x) (hx : ev σ x = some (.int k n)) : Pu P w0 o σ H (.int k' (k'.wrap n)) := by
  intro w hw a ha
  have h1 := ha x (by simp [ho, Op.operands]) _ hx
  obtain ⟨d, hd⟩ := hs
  simp [execOp, ho, h1, Go.convert, run_underlying hd, run_underlying ht, Conv.intToInt]
theorem Pu.extract {x : Operand} {i : Nat} {vs : Array Value} {v : Value} (ho : o.op = .extract x i) (hx : ev σ x = some (.tuple vs)) (hv : vs[i]? = some v) : Pu P w0 o σ H v := by
  intro w hw a ha
  have h1 := ha x (by simp [ho, Op.operands]) _ hx
  simp [execOp, ho, h1, Instr.extract, hv]
theorem Pu.nilCheck {x : Operand} {q : Addr} (ho : o.op = .nilCheck x) (hx : ev σ x = some (.pointer (some q))) : Pu P w0 o σ H (.pointer (some q)) := by
  intro w hw a ha
  have h1 := ha x (by simp [ho, Op.operands]) _ hx
  simp [execOp, ho, h1]
theorem Pu.makeFunc {f : Nat} {caps : Array Operand} {vs : List Value} (ho : o.op = .makeFunc (.func f) #[] caps) (hx : evs σ caps.toList = some vs) : Pu P w0 o σ H (.func (.func f) #[] vs.toArray) := by
  intro w hw a ha
  have key : ∀ (l : List Operand) (vs : List Value), (∀ x ∈ l, ∀ v, ev σ x = some v → a.eval x = v) → evs σ l = some vs → l.map a.eval = vs := by
    intro l
    induction l with
    | nil => intro vs _ h; simpa [evs] using h
    | cons x l ih =>
      intro vs hl h
      simp only [evs] at h
      cases h1 : ev σ x with
      | none => simp [h1] at h
      | some v =>
        cases h2 : evs σ l with
        | none => simp [h1, h2] at h
        | some us =>
          simp only [h1, h2, Option.some.injEq] at h
          subst h
          simp only [List.map_cons]
          rw [hl x (by simp) v h1, ih us (fun y hy => hl y (by simp [hy])) h2]
  have hk := key caps.toList vs (fun x hx v hv => ha x (by simp [ho, Op.operands]; simpa using hx) v hv) hx
  have : caps.map a.eval = vs.toArray := by
    rw [← hk]
    apply Array.ext'
    simp
  simp [execOp, ho, Instr.makeFunc, this]
theorem Pu.len {T : TypeId} {x : Operand} {A : Option Addr} {n c : Nat} {e : TypeId} (ho : o.op = .call { callee := .builtin .len, args := #[x], argTypes := #[T] }) (hT : P.underlying T = some (.slice e)) (hx : ev σ x = some (.slice A n c)) : Pu P w0 o σ H (.int .i64 (n : Int)) := by
  intro w hw a ha
  have h1 := ha x (by simp [ho, Op.operands, Call.operands]) _ hx
  simp [execOp, ho, h1, resolve, invoke, builtin, Builtin.len_, run_underlying hT, goInt]
theorem add_mk (b j m : Nat) : (⟨b, j, none⟩ : Addr).add m = ⟨b, j + m, none⟩ := by unfold Addr.add; split <;> simp_all

theorem Pu.fieldAddr {T : TypeId} {x : Operand} {f b j : Nat} {fs : Array Field} {fd : Field} {n : Nat} (r : Nat) (ho : o.op = .fieldAddr T x f) (hT : P.underlying T = some (.struct fs)) (hf : fs[f]? = some fd) (hs : Sz P fd.type (n + 1)) (hx : ev σ x = some (.pointer (some ⟨b, j, none⟩))) (hr : j + fd.offset = r) :
    Pu P w0 o σ H (.pointer (some ⟨b, r, none⟩)) := by
  intro w hw a ha
  subst hr
  have h1 := ha x (by simp [ho, Op.operands]) _ hx
  simp [execOp, ho, h1, Instr.fieldAt, run_underlying hT, hf, Instr.sureAddr, fieldPlace, run_sz hs, add_mk]
theorem Pu.indexAddr {T : TypeId} {x y : Operand} {A : Option Addr} {n c : Nat} {e sz : Nat} {K : IntKind} {i : Int} (k : Nat) (ho : o.op = .indexAddr T x y) (hT : P.underlying T = some (.slice e)) (hs : Sz P e sz) (hx : ev σ x = some (.slice A n c)) (hy : ev σ y = some (.int K i)) (hi : i = (k : Int)) (hk : k < n) (hA : A.isSome = true) :
    Pu P w0 o σ H (.pointer (A.map (·.add (k * sz)))) := by
  intro w hw a ha
  have h1 := ha x (by simp [ho, Op.operands]) _ hx
  have h2 := ha y (by simp [ho, Op.operands]) _ hy
  obtain ⟨q, rfl⟩ := Option.isSome_iff_exists.1 hA
  subst hi
  simp [execOp, ho, h1, h2, Instr.indexAt, asIntOf, run_underlying hT, run_sz hs, hk]
theorem Pu.indexArr {T : TypeId} {x y : Operand} {b j : Nat} {e sz n : Nat} {K : IntKind} {i : Int} (k r : Nat) (ho : o.op = .indexAddr T x y) (hT : P.underlying T = some (.array n e)) (hs : Sz P e sz) (hx : ev σ x = some (.pointer (some ⟨b, j, none⟩))) (hy : ev σ y = some (.int K i)) (hi : i = (k : Int)) (hk : k < n) (hr : j + k * sz = r) :
    Pu P w0 o σ H (.pointer (some ⟨b, r, none⟩)) := by
  intro w hw a ha
  subst hr
  have h1 := ha x (by simp [ho, Op.operands]) _ hx
  have h2 := ha y (by simp [ho, Op.operands]) _ hy
  subst hi
  simp [execOp, ho, h1, h2, Instr.indexAt, asIntOf, run_underlying hT, run_sz hs, hk, Instr.sureAddr, add_mk]
theorem Pu.indexAgg {T : TypeId} {x y : Operand} {cs : Array Value} {v : Value} {e n : Nat} {K : IntKind} {i : Int} (k : Nat) (ho : o.op = .index T x y) (hT : P.underlying T = some (.array n e)) (hs : Sz P e 1) (he : plainT P e = true) (hx : ev σ x = some (.agg cs)) (hy : ev σ y = some (.int K i)) (hi : i = (k : Int)) (hk : k < n) (hv : cs[k]? = some v) :
    Pu P w0 o σ H v := by
  intro w hw a ha
  have h1 := ha x (by simp [ho, Op.operands]) _ hx
  have h2 := ha y (by simp [ho, Op.operands]) _ hy
  subst hi
  simp [execOp, ho, h1, h2, Instr.index, asIntOf, run_underlying hT, run_sz hs, hk, part, run_isAgg_f he, hv]
theorem Pu.slicePtr {T : TypeId} {x : Operand} {q : Addr} {n e sz : Nat} (ho : o.op = .slice T x none none none) (hT : P.underlying T = some (.array n e)) (hs : Sz P e sz) (hx : ev σ x = some (.pointer (some q))) : Pu P w0 o σ H (.slice (some q) n n) := by
  intro w hw a ha
  have h1 := ha x (by simp [ho, Op.operands]) _ hx
  have hq : q.add 0 = q := by simp [Addr.add]
  simp [execOp, ho, h1, Instr.sliceAt, run_underlying hT, Instr.sureAddr, Instr.sliceBounds, run_sz hs, hq]
theorem Pu.load {T : TypeId} {x : Operand} {p : Option Addr} {v : Value} (ho : o.op = .load T x) (hT : plainT P T = true) (hx : ev σ x = some (.pointer p)) (hc : ∀ w, St w0 H w → ∃ q, p = some q ∧ w.cell? q = some v) : Pu P w0 o σ H v := by
  intro w hw a ha
  have h1 := ha x (by simp [ho, Op.operands]) _ hx
  obtain ⟨q, rfl, hq⟩ := hc w hw
  simp [execOp, ho, h1, Instr.loadAt, Instr.sureAddr, loadVar, run_isAgg_f hT, hq]
theorem Pu.loadAgg' {T : TypeId} {x : Operand} {p : Option Addr} {n : Nat} {cs : List Value} {v : Value} (hv : v = .agg cs.toArray) (ho : o.op = .load T x) (hT : aggT P T = true) (hs : Sz P T n) (hl : cs.length = n) (hx : ev σ x = some (.pointer p)) (hc : ∀ w, St w0 H w → ∃ q, p = some q ∧ ∀ j u, cs[j]? = some u → w.cell? (q.add j) = some u) :
    Pu P w0 o σ H v := by
  subst hv
  intro w hw a ha
  have h1 := ha x (by simp [ho, Op.operands]) _ hx
  obtain ⟨q, rfl, hq⟩ := hc w hw
  subst hl
  have hr := run_loadCells_list (P := P) (w := w) q cs hq
  simp [execOp, ho, h1, Instr.loadAt, Instr.sureAddr, loadVar, run_isAgg_t hT, run_sz hs, hr]
theorem Pu.loadAgg {T : TypeId} {x : Operand} {p : Option Addr} {n : Nat} {cs : List Value} (ho : o.op = .load T x) (hT : aggT P T = true) (hs : Sz P T n) (hl : cs.length = n) (hx : ev σ x = some (.pointer p)) (hc : ∀ w, St w0 H w → ∃ q, p = some q ∧ ∀ j u, cs[j]? = some u → w.cell? (q.add j) = some u) :
    Pu P w0 o σ H (.agg cs.toArray) := by
  intro w hw a ha
  have h1 := ha x (by simp [ho, Op.operands]) _ hx
  obtain ⟨q, rfl, hq⟩ := hc w hw
  subst hl
  have hr := run_loadCells_list (P := P) (w := w) q cs hq
  simp [execOp, ho, h1, Instr.loadAt, Instr.sureAddr, loadVar, run_isAgg_t hT, run_sz hs, hr]
end rules
end Go.Vc

namespace Go.Vc
open Go Go.RowKit

def repl : Nat → List Assn → Assn → List Assn
  | _, [], _ => []
  | 0, _ :: H, B => B :: H
  | i + 1, A :: H, B => A :: repl i H B
theorem repl_perm : ∀ {i : Nat} {H H' : List Assn} {A B : Assn}, pull i H = some (A, H') → (B :: H').Perm (repl i H B) := by
  intro i
  induction i with
  | zero =>
    intro H H' A B h
    cases H with
    | nil => cases h
    | cons C H =>
      simp only [pull, Option.some.injEq, Prod.mk.injEq] at h
      obtain ⟨rfl, rfl⟩ := h
      exact .refl _
  | succ i ih =>
    intro H H' A B h
    cases H with
    | nil => cases h
    | cons C H =>
      simp only [pull] at h
      cases hp : pull i H with
      | none => simp [hp] at h
      | some q =>
        obtain ⟨D, H2⟩ := q
        simp only [hp, Option.some.injEq, Prod.mk.injEq] at h
        obtain ⟨rfl, rfl⟩ := h
        exact (List.Perm.swap _ _ _).trans (List.Perm.cons C (ih hp))


def Blk (b : Nat) (cs : List Value) (t : TypeId) : Assn :=
  ⟨fun w F => w.heap[b]? = some (.cells cs.toArray t (0, 0)) ∧ ∀ k, F k ↔ k = b, fun ⟨h, hF⟩ hk => ⟨by rw [hk b ((hF b).2 rfl)]; exact h, hF⟩⟩

section
variable {P : Program} {w0 w : World} {H H' : List Assn} {α : Type}

theorem Blk.heap {b t i : Nat} {cs : List Value} (hw : St w0 H w) (hp : pull i H = some (Blk b cs t, H')) : w.heap[b]? = some (.cells cs.toArray t (0, 0)) := by
  obtain ⟨F, hF⟩ := hw.get i hp
  exact hF.1
theorem Blk.cell {b t i j : Nat} {cs : List Value} {u : Value} (hw : St w0 H w) (hp : pull i H = some (Blk b cs t, H')) (hj : cs[j]? = some u) : w.cell? ⟨b, j, none⟩ = some u := by
  have := Blk.heap hw hp
  simp [World.cell?, this, hj]
theorem Ld.blk {b t j : Nat} {cs : List Value} {u : Value} (i : Nat) (hp : pull i H = some (Blk b cs t, H')) (hj : cs[j]? = some u) : ∀ w, St w0 H w → ∃ q, some (⟨b, j, none⟩ : Addr) = some q ∧ w.cell? q = some u :=
  fun _ hw => ⟨_, rfl, Blk.cell hw hp hj⟩
theorem Ld.whole {b t : Nat} {cs : List Value} (i : Nat) (hp : pull i H = some (Blk b cs t, H')) : ∀ w, St w0 H w → ∃ q, some (⟨b, 0, none⟩ : Addr) = some q ∧ ∀ m u, cs[m]? = some u → w.cell? (q.add m) = some u := by
  intro w hw
  refine ⟨_, rfl, fun m u hm => ?_⟩
  rw [add_mk, Nat.zero_add]
  exact Blk.cell hw hp hm

structure Cod (α : Type) where
  sz : Nat
  enc : α → List Value
  pos : 0 < sz
  len : ∀ x, (enc x).length = sz
  one : ∀ x, ∀ u ∈ enc x, u.oneCell' = true

def I64 : Cod Int := ⟨1, fun x => [.int .i64 x], by decide, fun _ => rfl, fun _ u hu => by simp at hu; subst hu; rfl⟩
def BoolC : Cod Bool := ⟨1, fun x => [.bool x], by decide, fun _ => rfl, fun _ u hu => by simp at hu; subst hu; rfl⟩
def B3.cs (b : B3) : List Value := [.int .i64 b.1, .int .i64 b.2.1, .int .i64 b.2.2]
def B3.v (b : B3) : Value := .agg #[.int .i64 b.1, .int .i64 b.2.1, .int .i64 b.2.2]
def B3C : Cod B3 := ⟨3, B3.cs, by decide, fun _ => rfl, fun b u hu => by simp [B3.cs] at hu; rcases hu with rfl | rfl | rfl <;> rfl⟩
structure Sl where
  A : Option Addr
  n : Nat
  c : Nat
def Sl.v (s : Sl) : Value := .slice s.A s.n s.c
def SlC : Cod Sl := ⟨1, fun s => [s.v], by decide, fun _ => rfl, fun _ u hu => by simp at hu; subst hu; rfl⟩

theorem getElem?_flatMap_enc (C : Cod α) : ∀ (xs : List α) (i j : Nat) (h : i < xs.length), j < C.sz → (xs.flatMap C.enc)[i * C.sz + j]? = (C.enc xs[i])[j]? := by
  intro xs
  induction xs with
  | nil => intro i j h; simp at h
  | cons x xs ih =>
    intro i j h hj
    simp only [List.flatMap_cons]
    cases i with
    | zero =>
      rw [List.getElem?_append_left (by rw [C.len]; omega)]
      simp
    | succ i =>
      rw [List.getElem?_append_right (by rw [C.len, Nat.add_mul]; omega), C.len]
      have : (i + 1) * C.sz + j - C.sz = i * C.sz + j := by rw [Nat.add_mul]; omega
      rw [this, ih i j (by simpa using h) hj]
      simp
theorem length_flatMap_enc (C : Cod α) (xs : List α) : (xs.flatMap C.enc).length = xs.length * C.sz := by
  induction xs with
  | nil => simp
  | cons x xs ih => simp [List.flatMap_cons, C.len, ih, Nat.add_mul, Nat.add_comm]

def Rd (C : Cod α) (w : World) (A : Option Addr) (xs : List α) : Prop :=
  ∀ i (h : i < xs.length), ∃ q, A = some q ∧ ∀ j u, (C.enc xs[i])[j]? = some u → w.cell? (q.add (i * C.sz + j)) = some u
theorem Rd.nil (C : Cod α) (w : World) (A : Option Addr) : Rd C w A [] := fun i h => by simp at h
theorem Rd.some {C : Cod α} {A : Option Addr} {xs : List α} (h : Rd C w A xs) (hx : 0 < xs.length) : A.isSome = true := by
  obtain ⟨q, hq, _⟩ := h 0 hx
  simp [hq]
theorem Rd.below {C : Cod α} {w' : World} {A : Option Addr} {xs : List α} (h : Rd C w A xs) (hb : Bel w.heap.size w w') : Rd C w' A xs := by
  intro i hi
  obtain ⟨q, hq, hc⟩ := h i hi
  refine ⟨q, hq, fun j u hj => ?_⟩
  have h1 := hc j u hj
  rw [hb.low.cell (World.block_lt_of_cell? w _ h1)]
  exact h1
theorem Rd.st {C : Cod α} {A : Option Addr} {xs : List α} (h : Rd C w0 A xs) (hw : St w0 H w) : Rd C w A xs := h.below hw.below
theorem Ld.rd {C : Cod α} {A : Option Addr} {xs : List α} {u : Value} (hr : ∀ w, St w0 H w → Rd C w A xs) {k s : Nat} (hk : k < xs.length) (hs : s = C.sz) (hu : C.enc xs[k] = [u]) :
    ∀ w, St w0 H w → ∃ q, A.map (·.add (k * s)) = some q ∧ w.cell? q = some u := by
  intro w hw
  obtain ⟨q, rfl, hc⟩ := hr w hw k hk
  exact ⟨_, rfl, by simpa [hs] using hc 0 u (by simp [hu])⟩
theorem Addr.add_add' (q : Addr) (m n : Nat) : (q.add m).add n = q.add (m + n) := by
  unfold Addr.add
  split <;> split <;> first | (simp_all; done) | (simp_all [Nat.add_assoc]; done) | skip
  all_goals (rename_i h1 h2; subst_vars; simp_all)
theorem Ld.rds {C : Cod α} {A : Option Addr} {xs : List α} (hr : ∀ w, St w0 H w → Rd C w A xs) {k s : Nat} (hk : k < xs.length) (hs : s = C.sz) :
    ∀ w, St w0 H w → ∃ q, A.map (·.add (k * s)) = some q ∧ ∀ m u, (C.enc xs[k])[m]? = some u → w.cell? (q.add m) = some u := by
  intro w hw
  obtain ⟨q, rfl, hc⟩ := hr w hw k hk
  refine ⟨_, rfl, fun m u hm => ?_⟩
  rw [Addr.add_add', hs]
  exact hc m u hm


def Own (T : TypeId) (C : Cod α) (A : Option Addr) (c : Nat) (xs : List α) : Assn :=
  ⟨fun w F => w.ownsRow 0 T C.sz (.slice A xs.length c) xs.length (xs.flatMap C.enc) ∧ ∀ k, F k ↔ (Value.slice A xs.length c).ownBlock = some k, by
    rintro w w' F ⟨h, hF⟩ hk
    refine ⟨⟨h.1, ?_⟩, hF⟩
    rcases h.2 with h2 | ⟨g, cap, cur, hv, hg, hh, r⟩
    · exact .inl h2
    · refine .inr ⟨g, cap, cur, hv, hg, ?_, r⟩
      rw [hk g ((hF g).2 (by rw [hv]; rfl))]
      exact hh⟩
theorem Own.rd {T i c : Nat} {C : Cod α} {A : Option Addr} {xs : List α} (hw : St w0 H w) (hp : pull i H = some (Own T C A c xs, H')) : Rd C w A xs := by
  obtain ⟨F, ho, hF⟩ := hw.get i hp
  intro k hk
  rcases ho.2 with ⟨h1, h2⟩ | ⟨g, cap, cur, hv, _, hh, _⟩
  · omega
  · have hA : A = Option.some ⟨g, 0, none⟩ := by injection hv
    refine ⟨⟨g, 0, none⟩, hA, fun j u hj => ?_⟩
    have hjs : j < C.sz := by have := (List.getElem?_eq_some_iff.1 hj).1; rwa [C.len] at this
    have := ho.cells (g := g) (by rw [hv]; rfl) (k * C.sz + j) u (by rw [getElem?_flatMap_enc C xs k j hk hjs]; exact hj)
    exact this
theorem Own.some {T i c : Nat} {C : Cod α} {A : Option Addr} {xs : List α} (hw : St w0 H w) (hp : pull i H = some (Own T C A c xs, H')) (hx : 0 < xs.length) : A.isSome = true := (Own.rd hw hp).some hx
theorem Ld.own {T c : Nat} {C : Cod α} {A : Option Addr} {xs : List α} (i : Nat) (hp : pull i H = some (Own T C A c xs, H')) : ∀ w, St w0 H w → Rd C w A xs := fun _ hw => Own.rd hw hp
theorem Ld.arr {b t : Nat} {cs : List Value} {xs : List Int} (i : Nat) (hp : pull i H = Option.some (Blk b cs t, H')) (hc : xs.map (Value.int .i64) = cs) : ∀ w, St w0 H w → Rd I64 w (Option.some ⟨b, 0, none⟩) xs := by
  intro w hw k hk
  refine ⟨_, rfl, fun j u hj => ?_⟩
  rw [add_mk, Nat.zero_add]
  refine Blk.cell hw hp ?_
  subst hc
  have hj0 : j = 0 := by have := (List.getElem?_eq_some_iff.1 hj).1; simp [I64] at this; omega
  subst hj0
  simp only [I64, List.getElem?_cons_zero, Option.some.injEq] at hj
  subst hj
  simp [I64, hk]
theorem Ld.old {C : Cod α} {A : Option Addr} {xs : List α} (hr : Rd C w0 A xs) : ∀ w, St w0 H w → Rd C w A xs := fun _ hw => hr.st hw


variable {N : Nat} {Q : Exit → Act → World → Prop} {σ σ' : Sig} {o : Oper}

theorem Ef.mk {K : Value → List Assn → Prop} (h : ∀ w, St w0 H w → ∀ a, Agree σ o a → ∃ v w', (execOp a.eval o).run P w = .ok (.value v) w' ∧ ∃ H', St w0 H' w' ∧ K v H') : Ef P w0 o σ H Q K := by
  intro w hw a ha
  obtain ⟨v, w', hr, H', hs, hK⟩ := h w hw a ha
  exact upon_ok hr ⟨v, H', rfl, hs, hK⟩

theorem below_alloc (w : World) (ob : Obj) : Bel w.heap.size w (w.alloc ob) := Bel.of ((Below.refl _ _).alloc (Nat.le_refl _) ob) (Nat.le_refl _)

theorem St.addBlk {t : Nat} {cs : List Value} {ca : Array Value} (hw : St w0 H w) (hc : ca = cs.toArray) : St w0 (Blk w.heap.size cs t :: H) (w.alloc (.cells ca t)) := by
  subst hc
  exact hw.add (below_alloc _ _) (F := fun k => k = w.heap.size) ⟨heap_alloc_new w _, fun _ => Iff.rfl⟩ (fun k hk => by subst hk; simp)

theorem Ef.box {T : TypeId} {x : Operand} {v : Value} {cs : List Value} (ho : o.op = .box T x) (hx : ev σ x = some v) (hc : v.cells = cs.toArray) :
    Ef P w0 o σ H Q (fun u H' => ∃ b, u = .pointer (some ⟨b, 0, none⟩) ∧ H' = Blk b cs T :: H) := by
  refine Ef.mk fun w hw a ha => ?_
  have h1 := ha x (by simp [ho, Op.operands]) _ hx
  refine ⟨_, w.alloc (.cells v.cells T), ?_, _, hw.addBlk hc, _, rfl, rfl⟩
  simp [execOp, ho, h1, Instr.box, newVar, newRow, newObj]
  rfl

def Zr (P : Program) (t : Nat) (z : Value) : Prop := (P.info? t).bind (·.zero) = some z
theorem run_zr {t : Nat} {z : Value} (h : Zr P t z) : (zeroValue t).run P w = .ok z w := by
  unfold Zr at h
  obtain ⟨i, hi, hz⟩ := Option.bind_eq_some_iff.1 h
  simp [zeroValue, typeInfo, hi, hz]

theorem Ef.alloc {T : TypeId} {z : Value} {cs : List Value} (ho : o.op = .alloc T) (hz : Zr P T z) (hc : z.cells = cs.toArray) :
    Ef P w0 o σ H Q (fun u H' => ∃ b, u = .pointer (some ⟨b, 0, none⟩) ∧ H' = Blk b cs T :: H) := by
  refine Ef.mk fun w hw a ha => ?_
  refine ⟨_, w.alloc (.cells z.cells T), ?_, _, hw.addBlk hc, _, rfl, rfl⟩
  simp [execOp, ho, Instr.alloc, run_zr hz, newVar, newRow, newObj]
  rfl

def splice (cs : List Value) (j : Nat) (us : List Value) : List Value := cs.take j ++ us ++ cs.drop (j + us.length)

theorem St.setBlk {i b t : Nat} {cs cs' : List Value} (hw : St w0 H w) (hp : pull i H = some (Blk b cs t, H')) : St w0 (repl i H (Blk b cs' t)) (w.setRow b cs'.toArray) := by
  refine St.perm ?_ (repl_perm hp)
  refine (hw.perm (pull_perm hp)).upd (B := Blk b cs' t) ?_
  rintro F ⟨hh, hF⟩ hk
  refine ⟨⟨rfl, rfl, rfl, by simp [World.setRow], fun k _ hk' => setRow_other w b k _ (fun e => hk' ((hF k).2 e)), Nat.le_refl _⟩, fun k => k = b, ⟨setRow_heap w b _ _ t _ hh, fun _ => Iff.rfl⟩, ?_⟩
  intro k hk'
  have hF' := (hF k).2 hk'
  exact ⟨.inl hF', by have := (hk k hF').2; simpa [World.setRow] using this⟩

theorem run_store_blk {b j t n : Nat} {T : TypeId} {cs us : List Value} {v : Value} (hs : Sz P T n) (hv : v.cells.toList = us) (hn : us.length = n) (h1 : ∀ u ∈ us, u.oneCell' = true) (hh : w.heap[b]? = some (.cells cs.toArray t (0, 0))) (hj : j + n ≤ cs.length) :
    (Instr.storeAt T (.pointer (some ⟨b, j, none⟩)) v).run P w = .ok () (w.setRow b (splice cs j us).toArray) := by
  have hst := run_storeCells_at P b j t us 0 cs.toArray w hh (by simp; omega) h1
  have hsz : v.cells.size = n := by rw [← hn, ← hv, Array.length_toList]
  simp only [Nat.add_zero] at hst
  simp [Instr.storeAt, Instr.sureAddr, storeVar, run_sz hs, hsz, hv, hst, splice]

theorem Ef.store {T : TypeId} {x y : Operand} {b j t n : Nat} {cs us cs' : List Value} {v : Value} (i : Nat) (ho : o.op = .store T x y) (hs : Sz P T n) (hx : ev σ x = some (.pointer (some ⟨b, j, none⟩))) (hy : ev σ y = some v)
    (hp : pull i H = some (Blk b cs t, H')) (hv : v.cells.toList = us) (hn : us.length = n) (h1 : ∀ u ∈ us, u.oneCell' = true) (hj : j + n ≤ cs.length) (hc : splice cs j us = cs') :
    Ef P w0 o σ H Q (fun _ H'' => H'' = repl i H (Blk b cs' t)) := by
  intro w hw a ha
  have h1' := ha x (by simp [ho, Op.operands]) _ hx
  have h2' := ha y (by simp [ho, Op.operands]) _ hy
  have hr := run_store_blk (P := P) hs hv hn h1 (Blk.heap hw hp) hj
  unfold Oper.wp
  have : (execOp a.eval o).run P w = .ok .skip (w.setRow b (splice cs j us).toArray) := by
    simp [execOp, ho, h1', h2', hr]
  rw [this]
  subst hc
  exact ⟨undef, _, rfl, hw.setBlk hp, rfl⟩

theorem Ef.store1 {T : TypeId} {x y : Operand} {b j t : Nat} {cs cs' : List Value} {v : Value} (i : Nat) (ho : o.op = .store T x y) (hs : Sz P T 1) (hx : ev σ x = some (.pointer (some ⟨b, j, none⟩))) (hy : ev σ y = some v)
    (hp : pull i H = some (Blk b cs t, H')) (hv : v.cells = #[v]) (h1 : v.oneCell' = true) (hj : j < cs.length) (hc : cs.set j v = cs') :
    Ef P w0 o σ H Q (fun _ H'' => H'' = repl i H (Blk b cs' t)) := by
  refine Ef.store (us := [v]) i ho hs hx hy hp (by rw [hv]) rfl (by simpa using h1) hj ?_
  rw [← hc]
  unfold splice
  rw [List.set_eq_take_append_cons_drop, if_pos hj]
  simp
theorem Ef.storeAll {T : TypeId} {x y : Operand} {b t n : Nat} {cs us : List Value} (i : Nat) (ho : o.op = .store T x y) (hs : Sz P T n) (hx : ev σ x = some (.pointer (some ⟨b, 0, none⟩))) (hy : ev σ y = some (.agg us.toArray))
    (hp : pull i H = some (Blk b cs t, H')) (hn : us.length = n) (h1 : ∀ u ∈ us, u.oneCell' = true) (hj : cs.length = n) :
    Ef P w0 o σ H Q (fun _ H'' => H'' = repl i H (Blk b us t)) := by
  refine Ef.store (us := us) i ho hs hx hy hp rfl hn h1 (by omega) ?_
  unfold splice
  rw [List.take_zero, List.nil_append, List.drop_eq_nil_of_le (by omega), List.append_nil]
def CallOk (P : Program) (f : FuncId) : Prop := ∃ fn c, P.funcs[f]? = some fn ∧ fn.body = some c ∧ (fn.name == "runtime.NumGoroutine") = false
theorem run_callFunc {f : FuncId} (h : CallOk P f) (args : Array Value) (w : World) : (callFunc f args).run P w = .ok (.enter f args) w := by
  obtain ⟨fn, c, h1, h2, h3⟩ := h
  simp only [beq_eq_false_iff_ne, ne_eq] at h3
  simp [callFunc, h1, h2, h3, program, Sem.run]

def Does (P : Program) (f : FuncId) (args : List Value) (w0 : World) (H : List Assn) (R : Value → List Assn) : Prop :=
  ∀ w, St w0 H w → Calls P f args.toArray w (fun e w' => ∃ v, e = .returned v ∧ St w0 (R v) w')

theorem SatF_congr {H : List Assn} {w : World} {F F' : Nat → Prop} (h : SatF H w F) (he : ∀ k, F k ↔ F' k) : SatF H w F' := by
  cases H with
  | nil => exact fun k hk => h k ((he k).2 hk)
  | cons A H =>
    obtain ⟨F1, F2, h1, h2, hd, hF⟩ := h
    exact ⟨F1, F2, h1, h2, hd, fun k => (he k).symm.trans (hF k)⟩
theorem SatF.append {H1 H2 : List Assn} {w : World} {F1 F2 : Nat → Prop} (h1 : SatF H1 w F1) (h2 : SatF H2 w F2) (hd : ∀ k, F1 k → ¬ F2 k) : SatF (H1 ++ H2) w (fun k => F1 k ∨ F2 k) := by
  induction H1 generalizing F1 with
  | nil =>
    refine SatF_congr h2 ?_
    intro k
    exact ⟨fun h => .inr h, fun h => h.resolve_left (h1 k)⟩
  | cons A H1 ih =>
    obtain ⟨G1, G2, g1, g2, gd, gF⟩ := h1
    refine ⟨G1, fun k => G2 k ∨ F2 k, g1, ih g2 (fun k hk => hd k ((gF k).2 (.inr hk))), ?_, ?_⟩
    · rintro k hk (hk' | hk')
      · exact gd k hk hk'
      · exact hd k ((gF k).2 (.inl hk)) hk'
    · intro k
      show (F1 k ∨ F2 k) ↔ (G1 k ∨ (G2 k ∨ F2 k))
      rw [gF k]
      exact ⟨fun h => by rcases h with (h | h) | h <;> simp [h], fun h => by rcases h with h | h | h <;> simp [h]⟩

theorem St.join {H1 : List Assn} {w' : World} (h : St w0 H w) (h1 : St w H1 w') : St w0 (H1 ++ H) w' := by
  obtain ⟨F1, hs1, hk1⟩ := h1.sat
  obtain ⟨F2, hs2, hk2⟩ := h.sat
  refine ⟨(h.grow h1.below).below, fun k => F1 k ∨ F2 k, SatF.append hs1 (hs2.loc (fun k hk => h1.below.block k (hk2 k hk).2)) (fun k h3 h4 => ?_), ?_⟩
  · have := (hk1 k h3).1
    have := (hk2 k h4).2
    omega
  · rintro k (h3 | h3)
    · exact ⟨Nat.le_trans h.below.size (hk1 k h3).1, (hk1 k h3).2⟩
    · exact ⟨(hk2 k h3).1, Nat.lt_of_lt_of_le (hk2 k h3).2 h1.below.size⟩

theorem Does.frame {f : FuncId} {args : List Value} {R : Value → List Assn} (h : ∀ w, St w0 H w → Does P f args w [] R) : Does P f args w0 H (fun v => R v ++ H) := by
  intro w hw
  refine (h w hw w (St.start w)).mono ?_
  rintro e w' ⟨v, rfl, hs⟩
  exact ⟨v, rfl, hw.join hs⟩
theorem Does.mono {f : FuncId} {args : List Value} {R R' : Value → List Assn} (h : Does P f args w0 H R) (hR : ∀ v w, St w0 (R v) w → St w0 (R' v) w) : Does P f args w0 H R' := by
  intro w hw
  refine (h w hw).mono ?_
  rintro e w' ⟨v, rfl, hs⟩
  exact ⟨v, rfl, hR v w' hs⟩

theorem evs_map {a : Act} : ∀ {l : List Operand} {vs : List Value}, (∀ x ∈ l, ∀ v, ev σ x = some v → a.eval x = v) → evs σ l = some vs → l.map a.eval = vs := by
  intro l
  induction l with
  | nil => intro vs _ h; simpa [evs] using h
  | cons x l ih =>
    intro vs hl h
    simp only [evs] at h
    cases h1 : ev σ x with
    | none => simp [h1] at h
    | some v =>
      cases h2 : evs σ l with
      | none => simp [h1, h2] at h
      | some us =>
        simp only [h1, h2, Option.some.injEq] at h
        subst h
        simp only [List.map_cons]
        rw [hl x (by simp) v h1, ih (fun y hy => hl y (by simp [hy])) h2]

theorem Ef.callV {f : Operand} {g : FuncId} {l : List Operand} {ts : Array TypeId} {vs : List Value} {caps : Array Value} {R : Value → List Assn} (ho : o.op = .call { callee := .value f, args := l.toArray, argTypes := ts }) (hf : ev σ f = some (.func (.func g) #[] caps)) (hok : CallOk P g)
    (hargs : evs σ l = some vs) (hfn : Does P g (vs ++ caps.toList) w0 H R) : Ef P w0 o σ H Q (fun v H' => H' = R v) := by
  intro w hw a ha
  have h1 := ha f (by simp [ho, Op.operands, Call.operands]) _ hf
  have h2 := evs_map (a := a) (fun x hx v hv => ha x (by simp [ho, Op.operands, Call.operands]; exact .inr hx) v hv) hargs
  have h3 : (l.toArray.map a.eval) = vs.toArray := by rw [← h2]; simp
  unfold Oper.wp
  have : (execOp a.eval o).run P w = .ok (.enter g (vs ++ caps.toList).toArray) w := by
    have e2 : #[] ++ vs.toArray ++ caps = (vs ++ caps.toList).toArray := by apply Array.ext'; simp
    simp only [execOp, ho, resolve, h1, h3, Deferred.ofValue, invoke, Sem.run_bind, Sem.run_pure, Result.andThen_ok, run_callFunc hok, e2]
  rw [this]
  refine Calls.mono (hfn w hw) ?_
  rintro e w' ⟨v, rfl, hs⟩
  exact ⟨v, _, rfl, hs, rfl⟩
theorem Ef.call {g : FuncId} {l : List Operand} {ts : Array TypeId} {vs : List Value} {R : Value → List Assn} (hok : CallOk P g) (ho : o.op = .call { callee := .value (.func g), args := l.toArray, argTypes := ts })
    (hargs : evs σ l = some vs) (hfn : Does P g vs w0 H R) : Ef P w0 o σ H Q (fun v H' => H' = R v) :=
  Ef.callV (caps := #[]) ho rfl hok hargs (by simpa using hfn)


def args0 : Nat → List Value → Sig
  | _, [] => []
  | i, v :: r => (i, v) :: args0 (i + 1) r
theorem look_args0 : ∀ (l : List Value) (i t : Nat) (v : Value), look (args0 i l) t = some v → i ≤ t ∧ l[t - i]? = some v := by
  intro l
  induction l with
  | nil => intro i t v h; cases h
  | cons u l ih =>
    intro i t v h
    simp only [args0, look] at h
    by_cases e : i = t
    · subst e
      rw [Nat.beq_refl] at h
      simp only [cond_true, Option.some.injEq] at h
      simp [h]
    · rw [beq_ne e] at h
      obtain ⟨h1, h2⟩ := ih (i + 1) t v h
      refine ⟨by omega, ?_⟩
      rw [show t - i = (t - (i + 1)) + 1 by omega]
      simpa using h2

theorem Does.enter {f : FuncId} {fn : Func} {c : Code} {args : List Value} {R : Value → List Assn} (hf : P.funcs[f]? = some fn) (hb : fn.body = some c) (hN : Nat.ble args.length fn.ntmps = true) (σ : Sig) (hσ : args0 0 args = σ)
    (h : V P fn.ntmps w0 c (bodyPost P fn (fun e w' => ∃ v, e = .returned v ∧ St w0 (R v) w')) σ H) : Does P f args w0 H R := by
  subst hσ
  intro w hw
  refine calls_of_wp hf hb (h w hw _ ⟨rfl, ?_, ?_⟩)
  · have := Nat.le_of_ble_eq_true hN
    simp
    omega
  · intro t v ht
    obtain ⟨_, h2⟩ := look_args0 args 0 t v ht
    have hlt : t < args.length := (List.getElem?_eq_some_iff.1 (by simpa using h2)).1
    simp only [Nat.sub_zero] at h2
    rw [Array.getElem?_append_left (by simpa using hlt)]
    simpa using h2

theorem X.ret1 {fn : Func} {t : Nat} {v : Value} {R : Value → List Assn} (hr : fn.results = #[.tmp t]) (ht : look σ t = some v) (hs : ∀ w, St w0 H w → St w0 (R v) w) :
    X N w0 (bodyPost P fn (fun e w' => ∃ v, e = .returned v ∧ St w0 (R v) w')) .ret σ H := by
  intro w hw a ha
  refine ⟨ha.defers, v, ?_, v, rfl, hs w hw⟩
  have h1 := ha.look_ t v ht
  simp [results, hr, h1]
theorem X.ret2 {fn : Func} {t s : Nat} {v u : Value} {R : Value → List Assn} (hr : fn.results = #[.tmp t, .tmp s]) (ht : look σ t = some v) (hs' : look σ s = some u) (hs : ∀ w, St w0 H w → St w0 (R (.tuple #[v, u])) w) :
    X N w0 (bodyPost P fn (fun e w' => ∃ v, e = .returned v ∧ St w0 (R v) w')) .ret σ H := by
  intro w hw a ha
  refine ⟨ha.defers, .tuple #[v, u], ?_, _, rfl, hs w hw⟩
  have h1 := ha.look_ t v ht
  have h2 := ha.look_ s u hs'
  simp [results, hr, h1, h2]
theorem X.ret0 {fn : Func} {R : Value → List Assn} (hr : fn.results = #[]) (hs : ∀ w, St w0 H w → St w0 (R (.tuple #[])) w) :
    X N w0 (bodyPost P fn (fun e w' => ∃ v, e = .returned v ∧ St w0 (R v) w')) .ret σ H := by
  intro w hw a ha
  refine ⟨ha.defers, .tuple #[], ?_, _, rfl, hs w hw⟩
  simp [results, hr]
theorem X.endBody {fn : Func} {R : Ending → World → Prop} (h : X N w0 (bodyPost P fn R) .ret σ H) : X N w0 (bodyPost P fn R) .normal σ H := h
theorem X.retCell {fn : Func} {t n : Nat} {T : TypeId} {p : Option Addr} {cs : List Value} {R : Value → List Assn} (hr : fn.results = #[.cell t T]) (hT : aggT P T = true) (hz : Sz P T n) (hl : cs.length = n) (ht : look σ t = some (.pointer p))
    (hc : ∀ w, St w0 H w → ∃ q, p = some q ∧ ∀ j u, cs[j]? = some u → w.cell? (q.add j) = some u) (hs : ∀ w, St w0 H w → St w0 (R (.agg cs.toArray)) w) :
    X N w0 (bodyPost P fn (fun e w' => ∃ v, e = .returned v ∧ St w0 (R v) w')) .ret σ H := by
  intro w hw a ha
  refine ⟨ha.defers, .agg cs.toArray, ?_, _, rfl, hs w hw⟩
  have h1 := ha.look_ t _ ht
  obtain ⟨q, rfl, hq⟩ := hc w hw
  subst hl
  have hrn := run_loadCells_list (P := P) (w := w) q cs hq
  simp [results, hr, h1, asAddr, loadVar, run_isAgg_t hT, run_sz hz, hrn]

theorem Ef.callP {g : FuncId} {l : List Operand} {ts : Array TypeId} {vs : List Value} {r : Value} (hok : CallOk P g) (ho : o.op = .call { callee := .value (.func g), args := l.toArray, argTypes := ts })
    (hargs : evs σ l = some vs) (hfn : ∀ w, St w0 H w → Does P g vs w [] (fun v => [.pur (v = r)])) : Ef P w0 o σ H Q (fun v H' => v = r ∧ H' = H) := by
  intro w hw a ha
  have := Ef.call (Q := Q) hok ho hargs (Does.frame hfn) w hw a ha
  refine Oper.wp_mono ?_ this
  rintro a' w' ⟨v, H', rfl, hs, rfl⟩
  have hs' : St w0 (.pur (v = r) :: H) w' := hs
  exact ⟨v, H, rfl, hs'.pur.2, hs'.pur.1, rfl⟩
theorem Ef.call1 {g : FuncId} {l : List Operand} {ts : Array TypeId} {vs : List Value} {A : Value → Assn} (hok : CallOk P g) (ho : o.op = .call { callee := .value (.func g), args := l.toArray, argTypes := ts })
    (hargs : evs σ l = some vs) (hfn : ∀ w, St w0 H w → Does P g vs w [] (fun v => [A v])) : Ef P w0 o σ H Q (fun v H' => H' = A v :: H) :=
  Ef.call (R := fun v => A v :: H) hok ho hargs (Does.frame hfn)
theorem Ef.callM {g : FuncId} {l : List Operand} {ts : Array TypeId} {vs : List Value} {A B : Assn} {r : Value} (i : Nat) (hok : CallOk P g) (ho : o.op = .call { callee := .value (.func g), args := l.toArray, argTypes := ts })
    (hargs : evs σ l = some vs) (hp : pull i H = some (A, H')) (hfn : ∀ H, (∀ w, St w0 (A :: H) w → St w0 (A :: H') w) → Does P g vs w0 (A :: H) (fun v => .pur (v = r) :: B :: H)) : Ef P w0 o σ H Q (fun v H'' => v = r ∧ H'' = repl i H B) := by
  intro w hw a ha
  have h1 : Does P g vs w0 H (fun v => .pur (v = r) :: B :: H') := fun w hw => hfn H' (fun _ h => h) w (hw.perm (pull_perm hp))
  have := Ef.call (Q := Q) hok ho hargs h1 w hw a ha
  refine Oper.wp_mono ?_ this
  rintro a' w' ⟨v, H2, rfl, hs, rfl⟩
  have hs' := hs.pur
  exact ⟨v, _, rfl, hs'.2.perm (repl_perm hp), hs'.1, rfl⟩
theorem St.retX {β : Type} {p : β → Prop} {A : β → Assn} (x : β) (hp : p x) (hw : St w0 [A x] w) : St w0 [.exi fun x => .sep (.pur (p x)) (A x)] w := St.mkExi x (St.unsep (St.addPur hp hw))
theorem St.retP {p : Prop} (hp : p) (hw : St w0 H w) : St w0 [.pur p] w := St.addPur hp (hw.sub (Sub.nil _))
theorem ltb {m n : Nat} (h : Nat.blt m n = true) : m < n := by simpa [Nat.blt_eq] using h
theorem iv {k : IntKind} {a b : Int} (h : a = b) : Value.int k a = .int k b := by rw [h]
theorem boolT {p : Prop} [Decidable p] (h : p) : Value.bool true = .bool (decide p) := by rw [decide_eq_true h]
theorem boolF {p : Prop} [Decidable p] (h : ¬ p) : Value.bool false = .bool (decide p) := by rw [decide_eq_false h]
theorem boolD {p q : Prop} [Decidable p] [Decidable q] (h : q ↔ p) : Value.bool (decide q) = .bool (decide p) := by
  congr 1
  exact decide_eq_decide.2 h

theorem O.splitD {ops : Array Oper} {rest : List Oper} {p : Prop} [Decidable p] (t : Nat) (hv : look σ t = some (.bool (decide p))) (h1 : p → O P N w0 ops Q rest ((t, .bool true) :: σ) H) (h2 : ¬ p → O P N w0 ops Q rest ((t, .bool false) :: σ) H) : O P N w0 ops Q rest σ H := by
  by_cases hp : p
  · exact O.ent (Ent.cons (by rw [hv, decide_eq_true hp]) (Ent.refl _)) (h1 hp)
  · exact O.ent (Ent.cons (by rw [hv, decide_eq_false hp]) (Ent.refl _)) (h2 hp)
theorem O.splitN {ops : Array Oper} {rest : List Oper} {p : Prop} [Decidable p] (t : Nat) (hv : look σ t = some (.bool (!decide p))) (h1 : ¬ p → O P N w0 ops Q rest ((t, .bool true) :: σ) H) (h2 : p → O P N w0 ops Q rest ((t, .bool false) :: σ) H) : O P N w0 ops Q rest σ H := by
  by_cases hp : p
  · exact O.ent (Ent.cons (by rw [hv, decide_eq_true hp]; rfl) (Ent.refl _)) (h2 hp)
  · exact O.ent (Ent.cons (by rw [hv, decide_eq_false hp]; rfl) (Ent.refl _)) (h1 hp)
theorem O.splitB {ops : Array Oper} {rest : List Oper} {b : Bool} (t : Nat) (hv : look σ t = some (.bool b)) (h1 : b = true → O P N w0 ops Q rest ((t, .bool true) :: σ) H) (h2 : b = false → O P N w0 ops Q rest ((t, .bool false) :: σ) H) : O P N w0 ops Q rest σ H := by
  cases b
  · exact O.ent (Ent.cons hv (Ent.refl _)) (h2 rfl)
  · exact O.ent (Ent.cons hv (Ent.refl _)) (h1 rfl)

theorem V.cut {c : Code} (l σc : Sig) (H' : List Assn) (h1 : V P N w0 c (Exit.then (fun a w => Env N (l ++ σc) a ∧ St w0 H' w) Q) σ H) (h2 : X N w0 Q .normal (l ++ σc) H') : V P N w0 c Q σ H := by
  intro w hw a ha
  refine wp_mono (h1 w hw a ha) ?_
  intro e a' w' hq
  cases e with
  | normal => exact h2 w' hq.2 a' hq.1
  | _ => exact hq
theorem look_append (l r : Sig) (t : Nat) : look (l ++ r) t = (look l t).or (look r t) := by
  induction l with
  | nil => rfl
  | cons p l ih =>
    obtain ⟨k, v⟩ := p
    simp only [List.cons_append, look]
    cases Nat.beq k t
    · exact ih
    · rfl
theorem Ent.append {l σc : Sig} (hl : Ent σ l) (hσ : Ent σ σc) : Ent σ (l ++ σc) := by
  intro t v h
  rw [look_append] at h
  cases hv : look l t with
  | none => rw [hv] at h; exact hσ t v h
  | some u =>
    rw [hv] at h
    simp only [Option.some_or, Option.some.injEq] at h
    exact h ▸ hl t u hv
theorem X.cut {l σc : Sig} (hl : Ent σ l) (hσ : Ent σ σc) (hH : Sub H H') : X N w0 (Exit.then (fun a w => Env N (l ++ σc) a ∧ St w0 H' w) Q) .normal σ H :=
  fun w hw a ha => ⟨ha.ent (hl.append hσ), hw.sub hH⟩
theorem V.cut2 {c : Code} (l : Sig) {σc : Sig} {H' : List Assn} (hc : Ent σ σc) (hH : Sub H H') (h1 : V P N w0 c (Exit.then (fun a w => Env N (l ++ σc) a ∧ St w0 H' w) Q) σ H) (h2 : X N w0 Q .normal (l ++ σc) H') : V P N w0 c Q σ H := V.cut l σc H' h1 h2
theorem V.loop2 {c : Code} {β : Type} (σv : β → Sig) (σc : Sig) (Hi : β → List Assn) (Φ : β → Prop) (m : β → Nat) (x : β) (hΦ : Φ x) (hσ : Ent σ (σv x)) (hc : Ent σ σc) (hH : Sub H (Hi x))
    (round : ∀ x, Φ x → V P N w0 c (Exit.then (Back N w0 (fun x => σv x ++ σc) Hi Φ m x) Q) (σv x ++ σc) (Hi x)) : V P N w0 (.loop c) Q σ H :=
  V.loop (fun x => σv x ++ σc) Hi Φ m x hΦ (hσ.append hc) hH round
theorem X.back2 {β : Type} {σv : β → Sig} {σc : Sig} {Hi : β → List Assn} {Φ : β → Prop} {m : β → Nat} {x : β} (y : β) (hΦ : Φ y) (hm : m y < m x) (hσ : Ent σ (σv y)) (hc : Ent σ σc) (hH : Sub H (Hi y)) :
    X N w0 (Exit.then (Back N w0 (fun x => σv x ++ σc) Hi Φ m x) Q) .normal σ H := X.back y hΦ hm (hσ.append hc) hH
theorem V.loop3 {c : Code} {β : Type} (σv : β → Sig) (σc : Sig) (Hi : β → List Assn) (Hc : List Assn) (Φ : β → Prop) (m : β → Nat) (x : β) (hΦ : Φ x) (hσ : Ent σ (σv x)) (hc : Ent σ σc) (hH : Sub H (Hi x ++ Hc))
    (round : ∀ x, Φ x → V P N w0 c (Exit.then (Back N w0 (fun x => σv x ++ σc) (fun x => Hi x ++ Hc) Φ m x) Q) (σv x ++ σc) (Hi x ++ Hc)) : V P N w0 (.loop c) Q σ H :=
  V.loop (fun x => σv x ++ σc) (fun x => Hi x ++ Hc) Φ m x hΦ (hσ.append hc) hH round
theorem X.back3 {β : Type} {σv : β → Sig} {σc : Sig} {Hi : β → List Assn} {Hc : List Assn} {Φ : β → Prop} {m : β → Nat} {x : β} (y : β) (hΦ : Φ y) (hm : m y < m x) (hσ : Ent σ (σv y)) (hc : Ent σ σc) (hH : Sub H (Hi y ++ Hc)) :
    X N w0 (Exit.then (Back N w0 (fun x => σv x ++ σc) (fun x => Hi x ++ Hc) Φ m x) Q) .normal σ H := X.back y hΦ hm (hσ.append hc) hH
theorem V.unroll {c : Code} (n : Nat) (h : V P N w0 c (Exit.then (Code.rounds P c Q n) Q) σ H) : V P N w0 (.loop c) Q σ H :=
  fun w hw a ha => wp_loop_rounds (n + 1) (h w hw a ha)
theorem X.again {c : Code} (n : Nat) (h : V P N w0 c (Exit.then (Code.rounds P c Q n) Q) σ H) : X N w0 (Exit.then (Code.rounds P c Q (n + 1)) Q) .normal σ H := h
end
end Go.Vc

