/-
  The calculus and plain words, part 4.
-/
import Derived.Test.YthlmfgmmbfbhhaaGreatKa3
set_option linter.unusedVariables false
set_option linter.unusedSimpArgs false
/-
  Plain words: each full system is a completion of the empty one.
-/
namespace Go.Vc
section
variable {v m n : Nat}
/-- A block whose pairs are left. -/
def Opn (m : Nat) (d : B3) : Prop := ∃ x y z : Nat, d = b3N x y z ∧ x < y ∧ y < z ∧ usd m x y = false ∧ usd m x z = false ∧ usd m y z = false
def inB (v : Nat) (d : B3) : Prop := ∃ x y z : Nat, d = b3N x y z ∧ x < y ∧ y < z ∧ z < v
theorem good.inB {d : B3} (h : good v d) : inB v d := by
  obtain ⟨a, b, c⟩ := d
  unfold good at h
  simp only at h
  refine ⟨a.toNat, b.toNat, c.toNat, ?_, by omega, by omega, by omega⟩
  unfold b3N
  rw [Int.toNat_of_nonneg (by omega), Int.toNat_of_nonneg (by omega), Int.toNat_of_nonneg (by omega)]
/-- What is asked of the blocks that are yet to come. -/
structure Rest (v m : Nat) (B : List B3) : Prop where
  ok : ∀ d ∈ B, inB v d
  opn : ∀ d ∈ B, Opn m d
  lt : B.Pairwise B3.lt
  fit : B.Pairwise fun d e => common e d ≤ 1
theorem b3N_inj {x y z a b c : Nat} (h : b3N x y z = b3N a b c) : x = a ∧ y = b ∧ z = c := by
  unfold b3N at h
  simp only [Prod.mk.injEq] at h
  omega
theorem Rest.tail {x y z : Nat} {B : List B3} (hv : v ≤ 15) (h : Rest v m (b3N x y z :: B)) (hx : x < y) (hy : y < z) (hz : z < v) : Rest v (putM m x y z) B := by
  obtain ⟨h1, h2⟩ := List.pairwise_cons.1 h.lt
  obtain ⟨h3, h4⟩ := List.pairwise_cons.1 h.fit
  refine ⟨fun d hd => h.ok d (by simp [hd]), fun d hd => ?_, h2, h4⟩
  obtain ⟨a, b, c, rfl, ha, hb, u1, u2, u3⟩ := h.opn d (by simp [hd])
  obtain ⟨a', b', c', e, _, _, hc⟩ := h.ok _ (List.mem_cons_of_mem _ hd)
  obtain ⟨rfl, rfl, rfl⟩ := b3N_inj e
  have hc3 := h3 _ hd
  rw [common_le (b3N_three hx hy)] at hc3
  have k1 : ∀ p q : Nat, p < q → q < v → usd m p q = false → ¬ (has (b3N x y z) p ∧ has (b3N x y z) q) → usd (putM m x y z) p q = false := fun p q h1 h2 h3 h4 => (usd_putN hx hy (by omega) (by omega) (by omega) (by omega)).2 ⟨h3, h4⟩
  exact ⟨a, b, c, rfl, ha, hb, k1 a b (by omega) (by omega) u1 hc3.1, k1 a c (by omega) (by omega) u2 hc3.2.1, k1 b c (by omega) (by omega) u3 hc3.2.2⟩
theorem comp_all : ∀ (B : List B3) (m n : Nat), v ≤ 15 → Rest v m B → (∀ x y, x < y → y < v → usd m x y = true ∨ ∃ d ∈ B, has d x ∧ has d y) → B.length ≤ n → B ∈ compM n v m := by
  intro B
  induction B with
  | nil =>
    intro m n hv h hf hn
    rw [compM_none (nextM_none fun x y h1 h2 => by rcases hf x y h1 h2 with h3 | ⟨d, hd, _⟩; (· exact h3); (· simp at hd))]
    simp
  | cons b B ih =>
    intro m n hv h hf hn
    obtain ⟨n, rfl⟩ : ∃ k, n = k + 1 := ⟨n - 1, by simp only [List.length_cons] at hn; omega⟩
    obtain ⟨x, y, z, rfl, hx, hy, hz⟩ := h.ok b (by simp)
    obtain ⟨x', y', z', e, _, _, u1, u2, u3⟩ := h.opn _ (List.mem_cons_self ..)
    obtain ⟨rfl, rfl, rfl⟩ := b3N_inj e
    rcases next_cases v m with hall | ⟨p, q, hI⟩
    · rw [hall x y hx (by omega)] at u1; cases u1
    have hpq := hI.ab
    have hqv := hI.bv
    have low : ∀ s t : Nat, s < t → t < v → usd m s t = false → p ≤ s ∧ (p = s → q ≤ t) := by
      intro s t h1 h2 h3
      refine ⟨?_, fun e => ?_⟩
      · apply Decidable.byContradiction
        intro h4
        rw [hI.rows s t (by omega) h1 h2] at h3
        cases h3
      · apply Decidable.byContradiction
        intro h4
        subst e
        rw [hI.row t h1 (by omega)] at h3
        cases h3
    have hb := low x y hx (by omega) u1
    have hd : ∃ d ∈ b3N x y z :: B, has d p ∧ has d q := by
      rcases hf p q hpq hqv with h1 | h1
      · rw [hI.left] at h1; cases h1
      · exact h1
    obtain ⟨d, hd, hdp, hdq⟩ := hd
    obtain ⟨s, t, r, rfl, hs, ht, hr⟩ := h.ok d hd
    obtain ⟨s', t', r', e, _, _, w1, w2, w3⟩ := h.opn _ hd
    obtain ⟨rfl, rfl, rfl⟩ := b3N_inj e
    rw [has_b3N] at hdp hdq
    have hd1 := low s t hs (by omega) w1
    have hps : p = s := by omega
    have hqt : q = t := by
      have := hd1.2 hps
      omega
    have hle : x ≤ s ∧ (x = s → y ≤ t) := by
      rcases List.mem_cons.1 hd with e | e
      · obtain ⟨rfl, rfl, rfl⟩ := b3N_inj e; omega
      · have h1 := (List.pairwise_cons.1 h.lt).1 _ e
        unfold B3.lt b3N at h1
        simp only at h1
        omega
    have hxp : p = x := by omega
    have hyq : q = y := by have := hb.2 hxp; have := hle.2 (by omega); omega
    subst hxp hyq
    have hm : may m p q z = true := by
      unfold may
      have : Nat.blt q z = true := by rw [Nat.blt_eq]; exact hy
      simp [this, u2, u3]
    have hmem := ih (putM m p q z) n hv (h.tail hv hx hy hz) (fun i j h1 h2 => by
      have hup := usd_putN (m := m) (x := i) (y := j) hx hy (by omega : z < 16) (by omega) (by omega) (by omega)
      cases hu : usd (putM m p q z) i j with
      | true => exact .inl rfl
      | false =>
        refine .inr ?_
        obtain ⟨g1, g2⟩ := hup.1 hu
        rcases hf i j h1 h2 with g3 | ⟨d, hd, g3⟩
        · rw [g1] at g3; cases g3
        · rcases List.mem_cons.1 hd with rfl | hd
          · exact absurd g3 g2
          · exact ⟨d, hd, g3⟩) (by simp only [List.length_cons] at hn; omega)
    unfold compM
    rw [nextM_some hI]
    simp only
    refine List.mem_flatMap.2 ⟨z, List.mem_range.2 hz, ?_⟩
    rw [if_pos hm]
    exact List.mem_map.2 ⟨B, hmem, rfl⟩
/-! ### The pairs of blocks -/
def putB (m : Nat) (d : B3) : Nat := putM m d.1.toNat d.2.1.toNat d.2.2.toNat
def maskB (m : Nat) (bs : List B3) : Nat := bs.foldl putB m
theorem putB_b3N {x y z : Nat} : putB m (b3N x y z) = putM m x y z := by unfold putB b3N; simp
theorem mask_left : ∀ (B : List B3) (m : Nat), v ≤ 15 → Rest v m B → leftN v (maskB m B) + 3 * B.length = leftN v m := by
  intro B
  induction B with
  | nil => intro m _ _; rfl
  | cons b B ih =>
    intro m hv h
    obtain ⟨x, y, z, rfl, hx, hy, hz⟩ := h.ok b (by simp)
    obtain ⟨x', y', z', e, _, _, u1, u2, u3⟩ := h.opn _ (List.mem_cons_self ..)
    obtain ⟨rfl, rfl, rfl⟩ := b3N_inj e
    have h1 := ih (putM m x y z) hv (h.tail hv hx hy hz)
    have h2 := leftN_put3 hx hy hz hv u1 u2 u3
    have e : maskB m (b3N x y z :: B) = maskB (putM m x y z) B := by unfold maskB; rw [List.foldl_cons, putB_b3N]
    rw [e, List.length_cons]
    omega
theorem usd_mask : ∀ (B : List B3) (m : Nat), v ≤ 15 → (∀ d ∈ B, inB v d) → ∀ x y, x < y → y < v → (usd (maskB m B) x y = true ↔ usd m x y = true ∨ ∃ d ∈ B, has d x ∧ has d y) := by
  intro B
  induction B with
  | nil => intro m _ _ x y _ _; simp [maskB]
  | cons b B ih =>
    intro m hv h x y hx hy
    obtain ⟨a, b', c, rfl, h1, h2, h3⟩ := h b (by simp)
    have e : maskB m (b3N a b' c :: B) = maskB (putM m a b' c) B := by unfold maskB; rw [List.foldl_cons, putB_b3N]
    rw [e, ih _ hv (fun d hd => h d (by simp [hd])) x y hx hy]
    have hup := usd_putN (m := m) (x := x) (y := y) h1 h2 (by omega : c < 16) (by omega) (by omega) (by omega)
    constructor
    · rintro (g | ⟨d, hd, g⟩)
      · cases hu : usd m x y with
        | true => exact .inl rfl
        | false =>
          refine .inr ⟨b3N a b' c, by simp, ?_⟩
          apply Decidable.byContradiction
          intro g2
          rw [hup.2 ⟨hu, g2⟩] at g
          cases g
      · exact .inr ⟨d, by simp [hd], g⟩
    · rintro (g | ⟨d, hd, g⟩)
      · refine .inl ?_
        cases hu : usd (putM m a b' c) x y with
        | true => rfl
        | false => rw [(hup.1 hu).1] at g; cases g
      · rcases List.mem_cons.1 hd with rfl | hd
        · refine .inl ?_
          cases hu : usd (putM m a b' c) x y with
          | true => rfl
          | false => exact absurd g (hup.1 hu).2
        · exact .inr ⟨d, hd, g⟩
theorem usd_zero (x y : Nat) : usd 0 x y = false := by simp [usd]
theorem sts_lt {v : Int} {bs : List B3} (h : STS v bs) : bs.Pairwise B3.lt := by
  have key : ∀ i j (hi : i < bs.length) (hj : j < bs.length), i < j → B3.lt bs[i] bs[j] := by
    intro i j
    induction j with
    | zero => intro _ _ h; omega
    | succ j ih =>
      intro hi hj hij
      have h1 := (h.ord (j + 1) hj hj).2 j (by omega) rfl
      by_cases e : i = j
      · subst e; exact h1
      · exact lt_trans3 (ih hi (by omega) (by omega)) h1
  rw [List.pairwise_iff_getElem]
  exact fun i j hi hj hij => key i j hi hj hij
theorem sts_rest {bs : List B3} (h : STS (v : Int) bs) : Rest v 0 bs := by
  have hg : ∀ d ∈ bs, inB v d := fun d hd => (h.good d hd).inB
  refine ⟨hg, fun d hd => ?_, sts_lt h, ?_⟩
  · obtain ⟨x, y, z, rfl, h1, h2, h3⟩ := hg d hd
    exact ⟨x, y, z, rfl, h1, h2, usd_zero _ _, usd_zero _ _, usd_zero _ _⟩
  · rw [List.pairwise_iff_getElem]
    exact fun i j hi hj hij => h.fits j hj hj i hi hij
/-- A full system is among the completions of the empty one. -/
theorem sts_mem {bs : List B3} (h : STS (v : Int) bs) (hf : 3 * bs.length = leftN v 0) (hn : bs.length ≤ n) : bs ∈ compM n v 0 := by
  have hv : v ≤ 15 := by have := h.hi; omega
  have hr := sts_rest h
  have h1 := mask_left bs 0 hv hr
  have h0 : leftN v (maskB 0 bs) = 0 := by omega
  refine comp_all bs 0 n hv hr (fun x y hx hy => ?_) hn
  exact (usd_mask bs 0 hv hr.ok x y hx hy).1 (leftN_zero h0 x y hx hy)
end
theorem left3 : leftN 3 0 = 3 := by decide
theorem left7 : leftN 7 0 = 21 := by decide
theorem left9 : leftN 9 0 = 36 := by decide
end Go.Vc
