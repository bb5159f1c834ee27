/-
  Plain words: the best set among all; the least meeting set, of both.
-/
import Derived.Test.YtnbbkcpafkooaaaPureMeet
set_option linter.unusedVariables false
set_option linter.unusedSimpArgs false
namespace Go.Vc

structure BestI (sign : Int) (p : Nat → Prop) (s : Nat) (found : Bool) (most : Int) (out : List Int) : Prop where
  no : found = false → ∀ q, q < s → ¬ p q
  yes : found = true → ∃ t, t < s ∧ p t ∧ out = pts t ∧ most = sign * ones t ∧ ∀ q, q < s → p q → sign * ones q < most ∨ (sign * ones q = most ∧ ¬ ltL (pts q) out)
section
variable {sign most : Int} {p : Nat → Prop} {s : Nat} {found : Bool} {out : List Int}
theorem best_start : BestI sign p 0 false 0 [] := ⟨fun _ q h => by omega, fun h => by cases h⟩
theorem best_less (h : BestI sign p s found most out) (hf : found = true) (hl : sign * ones s < most) : BestI sign p (s + 1) found most out := by
  refine ⟨fun e => by simp [e] at hf, fun _ => ?_⟩
  obtain ⟨t, h1, h2, h3, h4, h5⟩ := h.yes hf
  refine ⟨t, by omega, h2, h3, h4, fun q hq hp => ?_⟩
  by_cases e : q = s
  · subst e; exact .inl hl
  · exact h5 q (by omega) hp
theorem best_not (h : BestI sign p s found most out) (hn : ¬ p s) : BestI sign p (s + 1) found most out := by
  refine ⟨fun e q hq => ?_, fun e => ?_⟩
  · by_cases e1 : q = s
    · subst e1; exact hn
    · exact h.no e q (by omega)
  · obtain ⟨t, h1, h2, h3, h4, h5⟩ := h.yes e
    refine ⟨t, by omega, h2, h3, h4, fun q hq hp => ?_⟩
    by_cases e : q = s
    · subst e; exact absurd hp hn
    · exact h5 q (by omega) hp
theorem best_keep (h : BestI sign p s found most out) (hf : found = true) (h1 : ¬ sign * ones s < most) (h2 : ¬ most < sign * ones s) (h3 : ¬ ltL (pts s) out) : BestI sign p (s + 1) found most out := by
  refine ⟨fun e => by simp [e] at hf, fun _ => ?_⟩
  obtain ⟨t, a1, a2, a3, a4, a5⟩ := h.yes hf
  refine ⟨t, by omega, a2, a3, a4, fun q hq hp => ?_⟩
  by_cases e : q = s
  · subst e; exact .inr ⟨by omega, h3⟩
  · exact a5 q (by omega) hp
theorem best_new (h : BestI sign p s found most out) (hp : p s) (hn : found = false ∨ most < sign * ones s ∨ (¬ sign * ones s < most ∧ ltL (pts s) out)) : BestI sign p (s + 1) true (sign * ones s) (pts s) := by
  refine ⟨fun e => by simp at e, fun _ => ⟨s, by omega, hp, rfl, rfl, fun q hq hpq => ?_⟩⟩
  by_cases e : q = s
  · subst e; exact .inr ⟨rfl, ltL_irrefl _⟩
  · cases hf : found with
    | false => exact absurd hpq (h.no hf q (by omega))
    | true =>
      obtain ⟨t, a1, a2, a3, a4, a5⟩ := h.yes hf
      rcases hn with h1 | h1 | ⟨h1, h2⟩
      · rw [hf] at h1; cases h1
      · rcases a5 q (by omega) hpq with b1 | ⟨b1, b2⟩
        · exact .inl (by omega)
        · exact .inl (by omega)
      · rcases a5 q (by omega) hpq with b1 | ⟨b1, b2⟩
        · exact .inl (by omega)
        · by_cases e2 : most < sign * ones s
          · exact .inl (by omega)
          · exact .inr ⟨by omega, fun h => b2 (ltL_trans h h2)⟩
end

theorem pts_len (m : Nat) : (pts m).length ≤ 15 := by
  unfold pts
  rw [ptsAt_len]
  exact cov_le m 15
def LM (v : Nat) (bs : List B3) (out : List Int) : Prop :=
  ∃ T, T < 2 ^ v ∧ MeetsAll bs T ∧ out = pts T ∧ ∀ U, U < 2 ^ v → MeetsAll bs U → ones T ≤ ones U ∧ (ones U = ones T → ¬ ltL (pts U) (pts T))
theorem LM.unique {v : Nat} {bs : List B3} {a b : List Int} (h1 : LM v bs a) (h2 : LM v bs b) : a = b := by
  obtain ⟨T, a1, a2, rfl, a4⟩ := h1
  obtain ⟨U, b1, b2, rfl, b4⟩ := h2
  have h3 := a4 U b1 b2
  have h4 := b4 T a1 a2
  exact ltL_tri (fun h => h4.2 (by omega) h) (fun h => h3.2 (by omega) h)
theorem meets_some {v : Int} {bs : List B3} (hb : ∀ b ∈ bs, good v b) : MeetsAll bs (2 ^ v.toNat - 1) := by
  have h := (meets_indep hb (s := 2 ^ v.toNat - 1) (by have := Nat.two_pow_pos v.toNat; omega)).1
  refine h ?_
  rw [Nat.sub_self]
  intro b hbm h0
  have hg := hb b hbm
  have h1 := (bmask_bit hg b.1.toNat).2
  rw [Nat.and_zero] at h0
  rw [← h0] at h1
  have hg' := hg
  unfold good at hg'
  have h2 := h1 (by unfold has; simp; omega)
  simp at h2
theorem best_LM {v : Int} {bs : List B3} (hb : ∀ b ∈ bs, good v b) {s : Nat} {found : Bool} {most : Int} {out : List Int} (h : BestI (-1) (MeetsAll bs) s found most out) (hs : s = 2 ^ v.toNat) : LM v.toNat bs out := by
  subst hs
  have h0 := Nat.two_pow_pos v.toNat
  cases hf : found with
  | false => exact absurd (meets_some hb) (h.no hf _ (by omega))
  | true =>
    obtain ⟨t, a1, a2, a3, a4, a5⟩ := h.yes hf
    refine ⟨t, a1, a2, a3, fun U hU hm => ?_⟩
    rw [← a3]
    rcases a5 U hU hm with b1 | ⟨b1, b2⟩
    · exact ⟨by omega, fun e => by omega⟩
    · exact ⟨by omega, fun _ => b2⟩
theorem compl_cov {v s : Nat} (hs : s < 2 ^ v) : ∀ w, w ≤ v → cov (2 ^ v - 1 - s) w + cov s w = w := by
  intro w
  induction w with
  | zero => intro _; simp [cov]
  | succ w ih =>
    intro hw
    have := ih (by omega)
    simp only [cov, compl_bit hs]
    cases s.testBit w <;> simp <;> (try omega)
    rw [if_pos (by omega)]
    omega
theorem compl_ones {v s : Nat} (hs : s < 2 ^ v) : ones (2 ^ v - 1 - s) + ones s = v := by
  have h := compl_cov hs v (Nat.le_refl _)
  rw [cov_ones (by have := Nat.two_pow_pos v; omega), cov_ones hs] at h
  exact h
theorem compl_compl {v s : Nat} (hs : s < 2 ^ v) : 2 ^ v - 1 - (2 ^ v - 1 - s) = s := by omega
theorem spec_LM {v : Int} {bs : List B3} (hb : ∀ b ∈ bs, good v b) {m : Nat} (hm : MostR v.toNat bs 0 0 0 m) {r : Int} (hr : MeetR v.toNat bs 0 (v.toNat - ones m) 0 r) : ∃ T : Nat, r = T ∧ T < 2 ^ v.toNat ∧ LM v.toNat bs (pts T) := by
  have h0 := Nat.two_pow_pos v.toNat
  have hm2 : Indep bs m ∧ m < 2 ^ v.toNat := by
    rcases hm.ok with h | h
    · subst h
      refine ⟨?_, by omega⟩
      have := (meets_indep hb (s := 2 ^ v.toNat - 1) (by omega)).2 (meets_some hb)
      rwa [Nat.sub_self] at this
    · exact h
  have hc := compl_ones hm2.2
  rcases hr with ⟨_, h⟩ | ⟨T, h1, h2, h3⟩
  · exfalso
    refine h (2 ^ v.toNat - 1 - m) ⟨by omega, ⟨fun q hq => by simp at hq, fun q hq => .inr ⟨by omega, ?_⟩⟩, by rw [ones_zero]; omega, ?_⟩
    · rw [compl_bit hm2.2] at hq
      simp at hq
      omega
    · refine (meets_indep hb (by omega)).1 ?_
      rw [compl_compl hm2.2]
      exact hm2.1
  · have hT := h2.num
    rw [ones_zero, Nat.zero_add] at hT
    refine ⟨T, h1, h2.lt, T, h2.lt, h2.meets, rfl, fun U hU hmU => ?_⟩
    have hi := (meets_indep hb hU).2 hmU
    have h5 := hm.all (2 ^ v.toNat - 1 - U) (by omega) ⟨fun q hq => by simp at hq, fun q hq => .inr ⟨by omega, by rw [compl_bit hU] at hq; simp at hq; omega⟩⟩ hi
    have h6 := compl_ones hU
    refine ⟨by omega, fun e => h3 U ⟨hU, ⟨fun q hq => by simp at hq, fun q hq => .inr ⟨by omega, ?_⟩⟩, by rw [ones_zero]; omega, hmU⟩⟩
    rcases Nat.lt_or_ge q v.toNat with h7 | h7
    · exact h7
    · rw [Nat.testBit_lt_two_pow (Nat.lt_of_lt_of_le hU (Nat.pow_le_pow_right (by decide) h7))] at hq
      cases hq
end Go.Vc
