/-
  Plain words: what a system is; the table of third points.
-/
import Derived.Test.YtjpfngmoabnffaaPure1
set_option linter.unusedVariables false
set_option linter.unusedSimpArgs false
namespace Go.Vc

def B3.lt (a b : B3) : Prop := a.1 < b.1 ∨ (a.1 = b.1 ∧ (a.2.1 < b.2.1 ∨ (a.2.1 = b.2.1 ∧ a.2.2 < b.2.2)))
instance (a b : B3) : Decidable (B3.lt a b) := inferInstanceAs (Decidable (_ ∨ _))
def good (v : Int) (b : B3) : Prop := 0 ≤ b.1 ∧ b.1 < b.2.1 ∧ b.2.1 < b.2.2 ∧ b.2.2 < v
instance (v : Int) (b : B3) : Decidable (good v b) := inferInstanceAs (Decidable (_ ∧ _))
/-- How many points two blocks have in common. -/
def common (a b : B3) : Int :=
  0 + (if a.1 = b.1 then 1 else 0) + (if a.1 = b.2.1 then 1 else 0) + (if a.1 = b.2.2 then 1 else 0)
    + (if a.2.1 = b.1 then 1 else 0) + (if a.2.1 = b.2.1 then 1 else 0) + (if a.2.1 = b.2.2 then 1 else 0)
    + (if a.2.2 = b.1 then 1 else 0) + (if a.2.2 = b.2.1 then 1 else 0) + (if a.2.2 = b.2.2 then 1 else 0)
theorem common_nonneg (a b : B3) : 0 ≤ common a b ∧ common a b ≤ 9 := by
  unfold common
  (repeat' split) <;> omega

def ordAt (v : Int) (bs : List B3) (k : Nat) : Prop := ∀ i (h : i < bs.length), i < k → good v bs[i] ∧ ∀ j (hj : j < bs.length), j + 1 = i → B3.lt bs[j] bs[i]
def fitsAt (bs : List B3) (k : Nat) : Prop := ∀ i (h : i < bs.length), i < k → ∀ j (hj : j < bs.length), j < i → common bs[i] bs[j] ≤ 1
structure STS (v : Int) (bs : List B3) : Prop where
  lo : 3 ≤ v
  hi : v ≤ 15
  few : bs.length ≤ 35
  ord : ordAt v bs bs.length
  fits : fitsAt bs bs.length
noncomputable instance (v : Int) (bs : List B3) : Decidable (STS v bs) := Classical.propDecidable _
noncomputable instance (v : Int) (bs : List B3) (k : Nat) : Decidable (ordAt v bs k) := Classical.propDecidable _
noncomputable instance (bs : List B3) (k : Nat) : Decidable (fitsAt bs k) := Classical.propDecidable _

theorem ordAt_zero (v : Int) (bs : List B3) : ordAt v bs 0 := fun i _ h => by omega
theorem ordAt_succ {v : Int} {bs : List B3} {k : Nat} (hk : k < bs.length) (h : ordAt v bs k) (hg : good v bs[k]) (hl : ∀ j (hj : j < bs.length), j + 1 = k → B3.lt bs[j] bs[k]) : ordAt v bs (k + 1) := by
  intro i hi hik
  by_cases e : i = k
  · subst e
    exact ⟨hg, hl⟩
  · exact h i hi (by omega)
theorem fitsAt_zero (bs : List B3) : fitsAt bs 0 := fun i _ h => by omega
theorem fitsAt_succ {bs : List B3} {k : Nat} (hk : k < bs.length) (h : fitsAt bs k) (hl : ∀ j (hj : j < bs.length), j < k → common bs[k] bs[j] ≤ 1) : fitsAt bs (k + 1) := by
  intro i hi hik
  by_cases e : i = k
  · subst e
    exact hl
  · exact h i hi (by omega)
theorem fitsAt_len {bs : List B3} {k : Nat} (hk : bs.length ≤ k) (h : fitsAt bs k) : fitsAt bs bs.length := fun i hi hik => h i hi (by omega)
theorem ordAt_len {v : Int} {bs : List B3} {k : Nat} (hk : bs.length ≤ k) (h : ordAt v bs k) : ordAt v bs bs.length := fun i hi hik => h i hi (by omega)

def bl (b : B3) : List Int := [b.1, b.2.1, b.2.2]
theorem rises_bl {v : Int} (b : B3) : rises v (bl b) ↔ good v b := by
  simp only [bl, rises, good]
  omega
theorem cmpL_bl (a b : B3) : cmpL (bl a) (bl b) < 0 ↔ B3.lt a b := by
  simp only [bl, cmpL, B3.lt]
  (repeat' split) <;> omega
theorem lt_irrefl (a : B3) : ¬ B3.lt a a := by unfold B3.lt; omega

/-! ### The table of third points -/
def gset (G : Int → Int → Int) (a b v : Int) : Int → Int → Int := fun x y => if x = a ∧ y = b then v else G x y
def tabPut (G : Int → Int → Int) (b : B3) : Int → Int → Int :=
  gset (gset (gset (gset (gset (gset G b.1 b.2.1 b.2.2) b.2.1 b.1 b.2.2) b.2.1 b.2.2 b.1) b.2.2 b.2.1 b.1) b.2.2 b.1 b.2.1) b.1 b.2.2 b.2.1
def tabDel (G : Int → Int → Int) (b : B3) : Int → Int → Int :=
  gset (gset (gset (gset (gset (gset G b.1 b.2.1 (-1)) b.2.1 b.1 (-1)) b.2.1 b.2.2 (-1)) b.2.2 b.2.1 (-1)) b.2.2 b.1 (-1)) b.1 b.2.2 (-1)
theorem good.pts {b : B3} (h : good 15 b) : (0 ≤ b.1 ∧ b.1 < 15) ∧ (0 ≤ b.2.1 ∧ b.2.1 < 15) ∧ (0 ≤ b.2.2 ∧ b.2.2 < 15) := by unfold good at h; omega
theorem good.mono {v v' : Int} {b : B3} (h : good v b) (hv : v ≤ v') : good v' b := by unfold good at *; omega
theorem ordAt.good {v : Int} {bs : List B3} {k : Nat} (hk : bs.length ≤ k) (h : ordAt v bs k) : ∀ b ∈ bs, Vc.good v b := by
  intro b hb
  obtain ⟨i, hi, rfl⟩ := List.mem_iff_getElem.1 hb
  exact (h i hi (by omega)).1
theorem STS.good {v : Int} {bs : List B3} (h : STS v bs) : ∀ b ∈ bs, Vc.good v b := h.ord.good (Nat.le_refl _)
def tab (bs : List B3) : Int → Int → Int := bs.foldl tabPut (fun _ _ => -1)
theorem tab_nil : tab [] = fun _ _ => -1 := rfl
theorem tab_snoc (bs : List B3) (b : B3) : tab (bs ++ [b]) = tabPut (tab bs) b := by simp [tab, List.foldl_append]
theorem tab_succ {bs : List B3} {k : Nat} (hk : k < bs.length) : tab (bs.take (k + 1)) = tabPut (tab (bs.take k)) bs[k] := by rw [take_snoc hk, tab_snoc]

def has (b : B3) (p : Int) : Prop := b.1 = p ∨ b.2.1 = p ∨ b.2.2 = p
instance (b : B3) (p : Int) : Decidable (has b p) := inferInstanceAs (Decidable (_ ∨ _))
/-- All three pairs of a block are left. -/
def isLeft (G : Int → Int → Int) (b : B3) : Prop := G b.1 b.2.1 = -1 ∧ G b.1 b.2.2 = -1 ∧ G b.2.1 b.2.2 = -1
instance (G : Int → Int → Int) (b : B3) : Decidable (isLeft G b) := inferInstanceAs (Decidable (_ ∧ _))
/-- Three different points that are no negative numbers. -/
def three (b : B3) : Prop := 0 ≤ b.1 ∧ 0 ≤ b.2.1 ∧ 0 ≤ b.2.2 ∧ b.1 ≠ b.2.1 ∧ b.1 ≠ b.2.2 ∧ b.2.1 ≠ b.2.2
theorem good.three {v : Int} {b : B3} (h : good v b) : three b := by unfold good at h; unfold Vc.three; omega

theorem tabPut_left {G : Int → Int → Int} {b : B3} (h : three b) (x y : Int) : tabPut G b x y = -1 ↔ G x y = -1 ∧ ¬ (has b x ∧ has b y ∧ x ≠ y) := by
  unfold tabPut gset has
  unfold Vc.three at h
  (repeat' split) <;> omega
theorem tab_left {bs : List B3} (h : ∀ b ∈ bs, three b) (x y : Int) : tab bs x y = -1 ↔ ∀ b ∈ bs, ¬ (has b x ∧ has b y ∧ x ≠ y) := by
  have key : ∀ (bs : List B3) (G : Int → Int → Int), (∀ b ∈ bs, three b) → (bs.foldl tabPut G x y = -1 ↔ G x y = -1 ∧ ∀ b ∈ bs, ¬ (has b x ∧ has b y ∧ x ≠ y)) := by
    intro bs
    induction bs with
    | nil => intro G _; simp
    | cons b bs ih =>
      intro G hb
      rw [List.foldl_cons, ih _ (fun c hc => hb c (by simp [hc])), tabPut_left (hb b (by simp))]
      simp only [List.mem_cons, forall_eq_or_imp, and_assoc]
  rw [tab, key bs _ h]
  simp
theorem cnt_has {b : B3} (h : three b) (a : Int) : (if a = b.1 then 1 else 0) + (if a = b.2.1 then 1 else 0) + (if a = b.2.2 then 1 else 0) = (if has b a then (1 : Int) else 0) := by
  unfold Vc.three at h
  unfold has
  (repeat' split) <;> omega
theorem common_has (a : B3) {b : B3} (h : three b) : common a b = (if has b a.1 then 1 else 0) + (if has b a.2.1 then 1 else 0) + (if has b a.2.2 then 1 else 0) := by
  rw [← cnt_has h, ← cnt_has h, ← cnt_has h]
  unfold common
  omega
theorem common_le {a b : B3} (h : three b) : common a b ≤ 1 ↔ ¬ (has b a.1 ∧ has b a.2.1) ∧ ¬ (has b a.1 ∧ has b a.2.2) ∧ ¬ (has b a.2.1 ∧ has b a.2.2) := by
  rw [common_has a h]
  by_cases h1 : has b a.1 <;> by_cases h2 : has b a.2.1 <;> by_cases h3 : has b a.2.2 <;> simp [h1, h2, h3]
theorem isLeft_tab {bs : List B3} {b : B3} (hb : three b) (h : ∀ c ∈ bs, three c) : isLeft (tab bs) b ↔ ∀ c ∈ bs, common b c ≤ 1 := by
  unfold isLeft
  rw [tab_left h, tab_left h, tab_left h]
  have hd := hb
  unfold Vc.three at hd
  constructor
  · rintro ⟨h1, h2, h3⟩ c hc
    rw [common_le (h c hc)]
    exact ⟨fun hh => h1 c hc ⟨hh.1, hh.2, hd.2.2.2.1⟩, fun hh => h2 c hc ⟨hh.1, hh.2, hd.2.2.2.2.1⟩, fun hh => h3 c hc ⟨hh.1, hh.2, hd.2.2.2.2.2⟩⟩
  · intro hh
    refine ⟨fun c hc h1 => ?_, fun c hc h1 => ?_, fun c hc h1 => ?_⟩
    · exact ((common_le (h c hc)).1 (hh c hc)).1 ⟨h1.1, h1.2.1⟩
    · exact ((common_le (h c hc)).1 (hh c hc)).2.1 ⟨h1.1, h1.2.1⟩
    · exact ((common_le (h c hc)).1 (hh c hc)).2.2 ⟨h1.1, h1.2.1⟩
theorem mem_take_iff {α : Type} {bs : List α} {k : Nat} {c : α} : c ∈ bs.take k ↔ ∃ j, ∃ hj : j < bs.length, j < k ∧ bs[j] = c := by
  rw [List.mem_iff_getElem]
  constructor
  · rintro ⟨j, hj, rfl⟩
    have : j < k ∧ j < bs.length := by rw [List.length_take] at hj; omega
    exact ⟨j, this.2, this.1, by simp⟩
  · rintro ⟨j, hj, hk, rfl⟩
    exact ⟨j, by rw [List.length_take]; omega, by simp⟩
theorem isLeft_fits {bs : List B3} {k : Nat} (hk : k < bs.length) (h : ∀ b ∈ bs, three b) : isLeft (tab (bs.take k)) bs[k] ↔ ∀ j (hj : j < bs.length), j < k → common bs[k] bs[j] ≤ 1 := by
  rw [isLeft_tab (h _ (List.getElem_mem hk)) (fun c hc => h c (List.mem_of_mem_take hc))]
  constructor
  · intro hh j hj hjk
    exact hh _ (mem_take_iff.2 ⟨j, hj, hjk, rfl⟩)
  · intro hh c hc
    obtain ⟨j, hj, hjk, rfl⟩ := mem_take_iff.1 hc
    exact hh j hj hjk
end Go.Vc
