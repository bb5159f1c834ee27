/-
  Plain words: the most points without a block; the least set that meets all blocks.
-/
import Derived.Test.YtnbbkcpafkooaaaPureSet
set_option linter.unusedVariables false
set_option linter.unusedSimpArgs false
namespace Go.Vc

/-- T is a set with points from p on, below v, added to it. -/
def Over (v set p T : Nat) : Prop := (∀ q, set.testBit q = true → T.testBit q = true) ∧ ∀ q, T.testBit q = true → set.testBit q = true ∨ (p ≤ q ∧ q < v)
theorem over_cov {v set p T : Nat} (h : Over v set p T) : ∀ w, w ≤ v → cov T w ≤ cov set w + (w - p) := by
  intro w
  induction w with
  | zero => intro _; simp [cov]
  | succ w ih =>
    intro hw
    have h1 := ih (by omega)
    simp only [cov]
    by_cases hT : T.testBit w = true
    · rw [if_pos hT]
      rcases h.2 w hT with h2 | h2
      · rw [if_pos h2]; omega
      · split <;> omega
    · rw [if_neg hT]
      split <;> omega
theorem Over.self {v set p : Nat} : Over v set p set := ⟨fun _ h => h, fun _ h => .inl h⟩
theorem Over.mono {v set p q T : Nat} (h : Over v set p T) (hn : ∀ x, T.testBit x = true → set.testBit x = true ∨ q ≤ x) : Over v set q T :=
  ⟨h.1, fun x hx => by
    rcases h.2 x hx with h1 | h1
    · exact .inl h1
    · rcases hn x hx with h2 | h2
      · exact .inl h2
      · exact .inr ⟨h2, h1.2⟩⟩
theorem Over.step {v set p T : Nat} (h : Over v set p T) (hp : T.testBit p = true) : Over v (set ||| 2 ^ p) (p + 1) T := by
  refine ⟨fun q hq => ?_, fun q hq => ?_⟩
  · rw [Nat.testBit_or, Nat.testBit_two_pow, Bool.or_eq_true] at hq
    rcases hq with h1 | h1
    · exact h.1 q h1
    · simp at h1; subst h1; exact hp
  · rw [Nat.testBit_or, Nat.testBit_two_pow, Bool.or_eq_true]
    rcases h.2 q hq with h1 | h1
    · exact .inl (.inl h1)
    · by_cases e : p = q
      · subst e; exact .inl (.inr (by simp))
      · exact .inr ⟨by omega, h1.2⟩
theorem Indep.sub {bs : List B3} {s T : Nat} (h : Indep bs T) (hs : ∀ q, s.testBit q = true → T.testBit q = true) : Indep bs s := by
  intro b hb he
  refine h b hb ?_
  rw [and_self] at *
  exact fun p hp => hs p (he p hp)
structure MostR (v : Nat) (bs : List B3) (set best p r : Nat) : Prop where
  ok : r = best ∨ (Indep bs r ∧ r < 2 ^ v)
  ge : ones best ≤ ones r
  all : ∀ T, T < 2 ^ v → Over v set p T → Indep bs T → ones T ≤ ones r
structure MostI (v : Nat) (bs : List B3) (set best from' p r : Nat) : Prop where
  ok : r = best ∨ (Indep bs r ∧ r < 2 ^ v)
  ge : ones best ≤ ones r
  geS : ones set ≤ ones r
  seen : ∀ T, T < 2 ^ v → Over v set from' T → Indep bs T → (∃ q, from' ≤ q ∧ q < p ∧ T.testBit q = true ∧ ¬ set.testBit q = true) → ones T ≤ ones r
section
variable {v : Nat} {bs : List B3} {set best f p r r' : Nat}
theorem most_start (hi : Indep bs set) (hs : set < 2 ^ v) : MostI v bs set best f f (if ones best < ones set then set else best) := by
  split
  · exact ⟨.inr ⟨hi, hs⟩, by omega, by omega, fun T _ _ _ ⟨q, h1, h2, _⟩ => by omega⟩
  · exact ⟨.inl rfl, by omega, by omega, fun T _ _ _ ⟨q, h1, h2, _⟩ => by omega⟩
theorem most_step (h : MostI v bs set best f p r) (hfp : f ≤ p) (hr : MostR v bs (set ||| 2 ^ p) r (p + 1) r') : MostI v bs set best f (p + 1) r' := by
  refine ⟨?_, Nat.le_trans h.ge hr.ge, Nat.le_trans h.geS hr.ge, ?_⟩
  · rcases hr.ok with e | e
    · exact e ▸ h.ok
    · exact .inr e
  · rintro T hT ho hi ⟨q, h1, h2, h3, h4⟩
    by_cases hsm : ∃ q, f ≤ q ∧ q < p ∧ T.testBit q = true ∧ ¬ set.testBit q = true
    · exact Nat.le_trans (h.seen T hT ho hi hsm) hr.ge
    · have hqp : q = p := by
        by_cases e : q < p
        · exact absurd ⟨q, h1, e, h3, h4⟩ hsm
        · omega
      subst hqp
      refine hr.all T hT (Over.step (ho.mono (q := q) ?_) h3) hi
      intro x hx
      rcases ho.2 x hx with h5 | h5
      · exact .inl h5
      · by_cases hxs : set.testBit x = true
        · exact .inl hxs
        · refine .inr ?_
          rcases Nat.lt_or_ge x q with h6 | h6
          · exact absurd ⟨x, h5.1, h6, hx, hxs⟩ hsm
          · exact h6
theorem most_skip (h : MostI v bs set best f p r) (hn : ¬ Indep bs (set ||| 2 ^ p)) : MostI v bs set best f (p + 1) r := by
  refine ⟨h.ok, h.ge, h.geS, ?_⟩
  rintro T hT ho hi ⟨q, h1, h2, h3, h4⟩
  by_cases e : q < p
  · exact h.seen T hT ho hi ⟨q, h1, e, h3, h4⟩
  · have hqp : q = p := by omega
    subst hqp
    exfalso
    refine hn (hi.sub fun x hx => ?_)
    rw [Nat.testBit_or, Nat.testBit_two_pow, Bool.or_eq_true] at hx
    rcases hx with h5 | h5
    · exact ho.1 x h5
    · simp at h5; subst h5; exact h3
theorem most_end (h : MostI v bs set best f p r) (hs : set < 2 ^ v) (he : v ≤ p ∨ ones set + v ≤ ones r + p) : MostR v bs set best f r := by
  refine ⟨h.ok, h.ge, fun T hT ho hi => ?_⟩
  by_cases hsm : ∃ q, f ≤ q ∧ q < p ∧ T.testBit q = true ∧ ¬ set.testBit q = true
  · exact h.seen T hT ho hi hsm
  · have h1 := over_cov (ho.mono (q := p) (fun x hx => by
      by_cases hxs : set.testBit x = true
      · exact .inl hxs
      · rcases ho.2 x hx with h5 | h5
        · exact .inl h5
        · refine .inr ?_
          rcases Nat.lt_or_ge x p with h6 | h6
          · exact absurd ⟨x, h5.1, h6, hx, hxs⟩ hsm
          · exact h6)) v (Nat.le_refl _)
    rw [cov_ones hT, cov_ones hs] at h1
    have := h.geS
    omega
end
/-! ### The least meeting set -/
structure MC (v : Nat) (bs : List B3) (set k f T : Nat) : Prop where
  lt : T < 2 ^ v
  over : Over v set f T
  num : ones T = ones set + k
  meets : MeetsAll bs T
/-- The least of all that are such, or -1. -/
def MeetR (v : Nat) (bs : List B3) (set k f : Nat) (r : Int) : Prop :=
  (r = -1 ∧ ∀ T, ¬ MC v bs set k f T) ∨ ∃ T : Nat, r = T ∧ MC v bs set k f T ∧ ∀ U, MC v bs set k f U → ¬ ltL (pts U) (pts T)
theorem ptsAt_prefix (m : Nat) {a : Nat} : ∀ {b}, a ≤ b → ptsAt m a <+: ptsAt m b := by
  intro b
  induction b with
  | zero => intro h; have : a = 0 := by omega
            subst this; exact List.prefix_refl _
  | succ b ih =>
    intro h
    by_cases e : a = b + 1
    · subst e; exact List.prefix_refl _
    · refine (ih (by omega)).trans ?_
      simp only [ptsAt]
      split
      · exact List.prefix_append _ _
      · exact List.prefix_refl _
theorem ptsAt_congr {m n : Nat} : ∀ {a : Nat}, (∀ q, q < a → m.testBit q = n.testBit q) → ptsAt m a = ptsAt n a := by
  intro a
  induction a with
  | zero => intro _; rfl
  | succ a ih =>
    intro h
    simp only [ptsAt, h a (by omega), ih (fun q hq => h q (by omega))]
theorem ptsAt_stop {m f : Nat} (hm : m < 2 ^ f) : ∀ {a : Nat}, f ≤ a → ptsAt m a = ptsAt m f := by
  intro a
  induction a with
  | zero => intro h; have : f = 0 := by omega
            subst this; rfl
  | succ a ih =>
    intro h
    by_cases e : f = a + 1
    · subst e; rfl
    · rw [← ih (by omega)]
      simp only [ptsAt]
      rw [if_neg]
      have : m.testBit a = false := Nat.testBit_lt_two_pow (Nat.lt_of_lt_of_le hm (Nat.pow_le_pow_right (by decide) (by omega)))
      simp [this]
theorem pts_first {v set f T p : Nat} (hv : v ≤ 15) (hs : set < 2 ^ f) (hf : f ≤ p) (hp : p < v) (ho : Over v set p T) (hT : T.testBit p = true) : (pts set ++ [(p : Int)]) <+: pts T := by
  have h1 : pts set = ptsAt set p := by
    unfold pts
    rw [ptsAt_stop hs (by omega), ptsAt_stop hs hf]
  have h2 : ptsAt T p = ptsAt set p := ptsAt_congr (fun q hq => by
    cases hx : T.testBit q with
    | true => exact ((ho.2 q hx).resolve_right (by omega)).symm
    | false =>
      cases hy : set.testBit q with
      | false => rfl
      | true => rw [ho.1 q hy] at hx; cases hx)
  have h3 : ptsAt T (p + 1) = pts set ++ [(p : Int)] := by simp only [ptsAt]; rw [if_pos hT, h2, h1]
  rw [← h3]
  exact ptsAt_prefix T (by omega)
theorem leastN {p : Nat → Prop} : ∀ n, p n → ∃ m, p m ∧ ∀ k, p k → m ≤ k := by
  intro n
  induction n using Nat.strongRecOn with
  | _ n ih =>
    intro hn
    by_cases h : ∃ k, k < n ∧ p k
    · obtain ⟨k, hk, hp⟩ := h
      exact ih k hk hp
    · exact ⟨n, hn, fun k hk => by
        rcases Nat.lt_or_ge k n with h' | h'
        · exact absurd ⟨k, h', hk⟩ h
        · exact h'⟩
theorem cov_pow {p : Nat} : ∀ v, cov (2 ^ p) v = if p < v then 1 else 0 := by
  intro v
  induction v with
  | zero => simp [cov]
  | succ v ih =>
    simp only [cov, ih, Nat.testBit_two_pow, decide_eq_true_eq]
    (repeat' split) <;> omega
theorem ones_add {v set f p : Nat} (hsv : set < 2 ^ v) (hs : set < 2 ^ f) (hf : f ≤ p) (hp : p < v) : ones (set ||| 2 ^ p) = ones set + 1 := by
  have h1 : set &&& 2 ^ p = 0 := by
    rw [and_zero]
    rintro q ⟨h1, h2⟩
    rw [Nat.testBit_two_pow] at h2
    simp at h2
    subst h2
    rw [Nat.testBit_lt_two_pow (Nat.lt_of_lt_of_le hs (Nat.pow_le_pow_right (by decide) hf))] at h1
    cases h1
  have h2 : set ||| 2 ^ p < 2 ^ v := Nat.or_lt_two_pow hsv (Nat.pow_lt_pow_right (by decide) hp)
  rw [← cov_ones h2, cov_or h1, cov_ones hsv, cov_pow, if_pos hp]
/-- No such set has a point more below p. -/
def MeetI (v : Nat) (bs : List B3) (set k f p : Nat) : Prop := ∀ T, MC v bs set k f T → Over v set p T
section
variable {v : Nat} {bs : List B3} {set k f p : Nat}
theorem meet_start : MeetI v bs set k f f := fun T h => h.over
/-- The sets with p as the first point more. -/
theorem meet_iff (hv : v ≤ 15) (hsv : set < 2 ^ v) (hs : set < 2 ^ f) (hf : f ≤ p) (hp : p < v) (hI : MeetI v bs set (k + 1) f p) (T : Nat) : MC v bs (set ||| 2 ^ p) k (p + 1) T ↔ MC v bs set (k + 1) f T ∧ T.testBit p = true := by
  have ho := ones_add hsv hs hf hp
  constructor
  · intro h
    refine ⟨⟨h.lt, ⟨fun q hq => h.over.1 q (by rw [Nat.testBit_or, hq]; rfl), fun q hq => ?_⟩, by rw [h.num, ho]; omega, h.meets⟩, h.over.1 p (by rw [Nat.testBit_or, Nat.testBit_two_pow]; simp)⟩
    rcases h.over.2 q hq with h1 | h1
    · rw [Nat.testBit_or, Nat.testBit_two_pow, Bool.or_eq_true] at h1
      rcases h1 with h1 | h1
      · exact .inl h1
      · simp at h1; subst h1; exact .inr ⟨hf, hp⟩
    · exact .inr ⟨by omega, h1.2⟩
  · rintro ⟨h, hT⟩
    exact ⟨h.lt, Over.step (hI T h) hT, by rw [h.num, ho]; omega, h.meets⟩
theorem meet_none (hv : v ≤ 15) (hsv : set < 2 ^ v) (hs : set < 2 ^ f) (hf : f ≤ p) (hp : p < v) (hI : MeetI v bs set (k + 1) f p) (h : ∀ T, ¬ MC v bs (set ||| 2 ^ p) k (p + 1) T) : MeetI v bs set (k + 1) f (p + 1) := by
  intro T hT
  refine (hI T hT).mono (fun x hx => ?_)
  rcases (hI T hT).2 x hx with h1 | h1
  · exact .inl h1
  · refine .inr ?_
    by_cases e : x = p
    · subst e
      exact absurd ((meet_iff hv hsv hs hf hp hI T).2 ⟨hT, hx⟩) (h T)
    · omega
theorem meet_found (hv : v ≤ 15) (hsv : set < 2 ^ v) (hs : set < 2 ^ f) (hf : f ≤ p) (hp : p < v) (hI : MeetI v bs set (k + 1) f p) {T : Nat} (hT : MC v bs (set ||| 2 ^ p) k (p + 1) T) (hl : ∀ U, MC v bs (set ||| 2 ^ p) k (p + 1) U → ¬ ltL (pts U) (pts T)) :
    MC v bs set (k + 1) f T ∧ ∀ U, MC v bs set (k + 1) f U → ¬ ltL (pts U) (pts T) := by
  have h1 := (meet_iff hv hsv hs hf hp hI T).1 hT
  refine ⟨h1.1, fun U hU => ?_⟩
  by_cases hUp : U.testBit p = true
  · exact hl U ((meet_iff hv hsv hs hf hp hI U).2 ⟨hU, hUp⟩)
  · intro hlt
    have hT1 := pts_first hv hs hf hp (hI T h1.1) h1.2
    -- U's first point more lies behind p
    have hoU := hI U hU
    have hne : ∃ q, p < q ∧ q < v ∧ U.testBit q = true ∧ Over v set q U := by
      have hcnt : ∃ q, U.testBit q = true ∧ ¬ set.testBit q = true := by
        rcases Classical.em (∃ q, U.testBit q = true ∧ ¬ set.testBit q = true) with h | h
        · exact h
        · exfalso
          have : U = set := by
            apply Nat.eq_of_testBit_eq
            intro i
            cases hx : U.testBit i with
            | true =>
              cases hy : set.testBit i with
              | true => rfl
              | false => exact absurd ⟨i, hx, by simp [hy]⟩ h
            | false =>
              cases hy : set.testBit i with
              | false => rfl
              | true => rw [hoU.1 i hy] at hx; cases hx
          have h2 := hU.num
          rw [this] at h2
          omega
      obtain ⟨q0, hq0⟩ := hcnt
      obtain ⟨q, hq, hmin⟩ := leastN (p := fun q => U.testBit q = true ∧ ¬ set.testBit q = true) q0 hq0
      rcases hoU.2 q hq.1 with h2 | h2
      · exact absurd h2 hq.2
      · have hqp : q ≠ p := fun e => hUp (e ▸ hq.1)
        exact ⟨q, by omega, h2.2, hq.1, hoU.mono (fun x hx => by
          by_cases hxs : set.testBit x = true
          · exact .inl hxs
          · exact .inr (hmin x ⟨hx, hxs⟩))⟩
    obtain ⟨q, hq1, hq2, hq3, hq4⟩ := hne
    have hU1 := pts_first hv hs (by omega) hq2 hq4 hq3
    exact ltL_asymm hlt (ltL_prefix (by omega) hT1 hU1)
theorem meet_end (hs : set < 2 ^ v) (hk : 0 < k) (he : v < p + k) (hI : MeetI v bs set k f p) : ∀ T, ¬ MC v bs set k f T := by
  intro T hT
  have h1 := over_cov (hI T hT) v (Nat.le_refl _)
  rw [cov_ones hT.lt, cov_ones hs, hT.num] at h1
  have h2 := cov_le T v
  rw [cov_ones hT.lt, hT.num] at h2
  omega
end
theorem compl_bit {v s : Nat} (hs : s < 2 ^ v) (q : Nat) : (2 ^ v - 1 - s).testBit q = (decide (q < v) && !s.testBit q) := by
  rw [show 2 ^ v - 1 - s = 2 ^ v - (s + 1) by omega]
  exact Nat.testBit_two_pow_sub_succ hs q
/-- A set meets all blocks if and only if the other points are independent. -/
theorem meets_indep {v : Int} {bs : List B3} (hb : ∀ b ∈ bs, good v b) {s : Nat} (hs : s < 2 ^ v.toNat) : Indep bs (2 ^ v.toNat - 1 - s) ↔ MeetsAll bs s := by
  have key : ∀ b ∈ bs, (bmask b &&& (2 ^ v.toNat - 1 - s) = bmask b ↔ bmask b &&& s = 0) := by
    intro b hbm
    have hg := hb b hbm
    rw [and_self, and_zero]
    constructor
    · rintro h p ⟨h1, h2⟩
      have := h p h1
      rw [compl_bit hs] at this
      simp [h2] at this
    · intro h p h1
      rw [compl_bit hs]
      have h2 := good_lt hg ((bmask_bit hg p).1 h1)
      have h3 := h p
      cases hx : s.testBit p with
      | true => exact absurd ⟨h1, hx⟩ h3
      | false => simp; omega
  unfold Indep MeetsAll
  exact ⟨fun h b hbm h0 => h b hbm ((key b hbm).2 h0), fun h b hbm h0 => h b hbm ((key b hbm).1 h0)⟩
theorem over_eq {v set f U : Nat} (hU : U < 2 ^ v) (hs : set < 2 ^ v) (ho : Over v set f U) (hn : ones U = ones set + 0) : U = set := by
  have h : ∀ w, w ≤ v → cov set w ≤ cov U w ∧ (cov U w = cov set w → ∀ q, q < w → U.testBit q = set.testBit q) := by
    intro w
    induction w with
    | zero => intro _; exact ⟨by simp [cov], fun _ q hq => by omega⟩
    | succ w ih =>
      intro hw
      obtain ⟨h1, h2⟩ := ih (by omega)
      simp only [cov]
      cases hx : set.testBit w with
      | true =>
        have hy := ho.1 w hx
        rw [hy]
        simp only [if_true]
        refine ⟨by omega, fun e q hq => ?_⟩
        by_cases e1 : q = w
        · subst e1; rw [hx, hy]
        · exact h2 (by omega) q (by omega)
      | false =>
        cases hy : U.testBit w with
        | true =>
          refine ⟨by simp; omega, fun e => ?_⟩
          simp at e
          omega
        | false =>
          refine ⟨by simpa using h1, fun e q hq => ?_⟩
          by_cases e1 : q = w
          · subst e1; rw [hx, hy]
          · exact h2 (by simpa using e) q (by omega)
  rw [Nat.add_zero, ← cov_ones hU, ← cov_ones hs] at hn
  apply Nat.eq_of_testBit_eq
  intro q
  by_cases hq : q < v
  · exact (h v (Nat.le_refl _)).2 hn q hq
  · rw [Nat.testBit_lt_two_pow (Nat.lt_of_lt_of_le hU (Nat.pow_le_pow_right (by decide) (by omega))), Nat.testBit_lt_two_pow (Nat.lt_of_lt_of_le hs (Nat.pow_le_pow_right (by decide) (by omega)))]
theorem meet_zero {v : Int} {bs : List B3} {set f : Nat} (hb : ∀ b ∈ bs, good v b) (hs : set < 2 ^ v.toNat) (h : Indep bs (2 ^ v.toNat - 1 - set)) : MeetR v.toNat bs set 0 f (set : Int) := by
  refine .inr ⟨set, rfl, ⟨hs, Over.self, rfl, (meets_indep hb hs).1 h⟩, fun U hU => ?_⟩
  rw [over_eq hU.lt hs hU.over hU.num]
  exact ltL_irrefl _
theorem meet_zero' {v : Int} {bs : List B3} {set f : Nat} (hb : ∀ b ∈ bs, good v b) (hs : set < 2 ^ v.toNat) (h : ¬ Indep bs (2 ^ v.toNat - 1 - set)) : MeetR v.toNat bs set 0 f (-1) := by
  refine .inl ⟨rfl, fun U hU => h ?_⟩
  have := over_eq hU.lt hs hU.over hU.num
  subst this
  exact (meets_indep hb hs).2 hU.meets
end Go.Vc
