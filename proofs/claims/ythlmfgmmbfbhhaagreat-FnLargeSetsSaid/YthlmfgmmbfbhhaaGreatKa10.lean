/-
  The calculus and plain words, part 10.
-/
import Derived.Test.YthlmfgmmbfbhhaaGreatKa9
set_option linter.unusedVariables false
set_option linter.unusedSimpArgs false
/-
  Plain words: the systems of nine points as bits are as the families ask.
-/
namespace Go.Vc
def catG : List (List Nat) → List Nat
  | [] => []
  | g :: gs => g ++ catG gs
theorem cat_ms : catG [mg0, mg1, mg2, mg3, mg4, mg5, mg6] = ms9 := by
  unfold ms9
  simp only [catG, List.append_nil]
theorem cat_lenG : ∀ gs : List (List Nat), (∀ g ∈ gs, g.length = 120) → (catG gs).length = 120 * gs.length := by
  intro gs
  induction gs with
  | nil => intro _; rfl
  | cons g gs ih =>
    intro h
    have h1 := ih (fun g' hg => h g' (by simp [hg]))
    have h2 := h g (by simp)
    simp only [catG, List.length_append, List.length_cons]
    omega
theorem cat_atG : ∀ gs : List (List Nat), (∀ g ∈ gs, g.length = 120) → ∀ i (h : i < (catG gs).length), ∃ hk : i / 120 < gs.length, (catG gs)[i] ∈ gs[i / 120] := by
  intro gs
  induction gs with
  | nil => intro _ i h; simp [catG] at h
  | cons g gs ih =>
    intro h i hi
    have hg := h g (by simp)
    have hl := cat_lenG gs (fun g' hg => h g' (by simp [hg]))
    have hl2 : (catG (g :: gs)).length = g.length + (catG gs).length := by simp [catG]
    by_cases e : i < 120
    · have e0 : i / 120 = 0 := by omega
      refine ⟨by simp only [List.length_cons]; omega, ?_⟩
      have e1 : (catG (g :: gs))[i] = g[i]'(by omega) := List.getElem_append_left (by omega)
      rw [e1]
      simp only [e0, List.getElem_cons_zero]
      exact List.getElem_mem _
    · obtain ⟨hk, hm⟩ := ih (fun g' hg => h g' (by simp [hg])) (i - 120) (by omega)
      have e0 : i / 120 = (i - 120) / 120 + 1 := by omega
      refine ⟨by simp only [List.length_cons]; omega, ?_⟩
      have e1 : (catG (g :: gs))[i] = (catG gs)[i - 120]'(by omega) := by
        have : (g ++ catG gs)[i]'(by rw [List.length_append]; omega) = (catG gs)[i - g.length]'(by omega) := List.getElem_append_right (by omega)
        simp only [hg] at this
        exact this
      rw [e1]
      simp only [e0, List.getElem_cons_succ]
      exact hm
/-- The groups have their own bits. -/
def Bits (o : Nat) (gs : List (List Nat)) : Prop := ∀ k (h : k < gs.length), ∀ s ∈ gs[k], s % 128 = 2 ^ (o + k)
theorem Bits.head {o : Nat} {g : List Nat} {gs : List (List Nat)} (h : Bits o (g :: gs)) : ∀ s ∈ g, s % 128 = 2 ^ o := h 0 (by simp)
theorem Bits.tail {o : Nat} {g : List Nat} {gs : List (List Nat)} (h : Bits o (g :: gs)) : Bits (o + 1) gs := fun k hk s hs => by
  have := h (k + 1) (by simp; omega) s (by simpa using hs)
  rw [this]
  congr 1
  omega
theorem bit_of {s m n : Nat} (h : s % 128 = 2 ^ m) (hn : n < 7) : s.testBit n = decide (m = n) := by
  rw [mod_bit hn, h, Nat.testBit_two_pow]
theorem cat_nodup : ∀ (gs : List (List Nat)) (o : Nat), o + gs.length ≤ 7 → (∀ g ∈ gs, g.Nodup) → Bits o gs → (catG gs).Nodup ∧ ∀ s ∈ catG gs, ∃ k, o ≤ k ∧ s % 128 = 2 ^ k := by
  intro gs
  induction gs with
  | nil => intro o _ _ _; exact ⟨List.nodup_nil, fun s hs => by simp [catG] at hs⟩
  | cons g gs ih =>
    intro o ho hn hb
    simp only [List.length_cons] at ho
    obtain ⟨h1, h2⟩ := ih (o + 1) (by omega) (fun g' hg => hn g' (by simp [hg])) hb.tail
    constructor
    · show (g ++ catG gs).Nodup
      rw [List.nodup_append]
      refine ⟨hn g (by simp), h1, fun x hx y hy e => ?_⟩
      subst e
      obtain ⟨k, hk, e⟩ := h2 x hy
      rw [hb.head x hx] at e
      have := Nat.pow_lt_pow_right (a := 2) (by decide) (show o < k by omega)
      omega
    · intro s hs
      rcases List.mem_append.1 hs with hs | hs
      · exact ⟨o, Nat.le_refl _, hb.head s hs⟩
      · obtain ⟨k, hk, e⟩ := h2 s hs
        exact ⟨k, by omega, e⟩
theorem cat_none {q : Nat → Bool} {n : Nat} (hn : n < 7) : ∀ (gs : List (List Nat)) (o : Nat), n < o → Bits o gs → ((catG gs).filter fun S => S.testBit n && q S) = [] := by
  intro gs
  induction gs with
  | nil => intro o _ _; rfl
  | cons g gs ih =>
    intro o ho hb
    show (g ++ catG gs).filter _ = []
    rw [List.filter_append, ih (o + 1) (by omega) hb.tail, List.append_nil, List.filter_eq_nil_iff]
    intro s hs
    rw [bit_of (hb.head s hs) hn]
    simp
    omega
theorem cat_filter {q : Nat → Bool} {n K : Nat} (hn : n < 7) : ∀ (gs : List (List Nat)) (o : Nat), Bits o gs → (∀ k (h : k < gs.length), (gs[k].filter q).length ≤ K) → ((catG gs).filter fun S => S.testBit n && q S).length ≤ K := by
  intro gs
  induction gs with
  | nil => intro o _ _; simp [catG]
  | cons g gs ih =>
    intro o hb hK
    show ((g ++ catG gs).filter _).length ≤ K
    rw [List.filter_append]
    by_cases e : o = n
    · rw [cat_none hn gs (o + 1) (by omega) hb.tail, List.append_nil]
      refine Nat.le_trans ?_ (hK 0 (by simp))
      rw [List.getElem_cons_zero]
      refine Nat.le_of_eq (congrArg _ (List.filter_congr fun s hs => ?_))
      rw [bit_of (hb.head s hs) hn]
      simp [e]
    · have h1 : (g.filter fun S => S.testBit n && q S) = [] := by
        rw [List.filter_eq_nil_iff]
        intro s hs
        rw [bit_of (hb.head s hs) hn]
        simp [e]
      rw [h1, List.nil_append]
      exact ih (o + 1) hb.tail (fun k hk => by have := hK (k + 1) (by simp; omega); simpa using this)
theorem bits_ms : Bits 0 [mg0, mg1, mg2, mg3, mg4, mg5, mg6] := by
  intro k hk s hs
  match k, hk, hs with
  | 0, _, hs => exact bit7_at chkB0 hs
  | 1, _, hs => exact bit7_at chkB1 hs
  | 2, _, hs => exact bit7_at chkB2 hs
  | 3, _, hs => exact bit7_at chkB3 hs
  | 4, _, hs => exact bit7_at chkB4 hs
  | 5, _, hs => exact bit7_at chkB5 hs
  | 6, _, hs => exact bit7_at chkB6 hs
theorem len_ms : ∀ g ∈ [mg0, mg1, mg2, mg3, mg4, mg5, mg6], g.length = 120 := by
  intro g hg
  simp only [List.mem_cons, List.not_mem_nil, or_false] at hg
  rcases hg with rfl | rfl | rfl | rfl | rfl | rfl | rfl
  · exact mlen0
  · exact mlen1
  · exact mlen2
  · exact mlen3
  · exact mlen4
  · exact mlen5
  · exact mlen6
theorem all_ms : ∀ g ∈ [mg0, mg1, mg2, mg3, mg4, mg5, mg6], (ndp g && g.all fun s => Nat.blt s (2 ^ 84) && Nat.beq (onesR 84 s) 12) = true := by
  intro g hg
  simp only [List.mem_cons, List.not_mem_nil, or_false] at hg
  rcases hg with rfl | rfl | rfl | rfl | rfl | rfl | rfl
  · exact chkC0
  · exact chkC1
  · exact chkC2
  · exact chkC3
  · exact chkC4
  · exact chkC5
  · exact chkC6
theorem mem_ms {s : Nat} : ∀ gs : List (List Nat), s ∈ catG gs → ∃ g ∈ gs, s ∈ g := by
  intro gs
  induction gs with
  | nil => intro h; simp [catG] at h
  | cons g gs ih =>
    intro h
    rcases List.mem_append.1 h with h | h
    · exact ⟨g, by simp, h⟩
    · obtain ⟨g', h1, h2⟩ := ih h
      exact ⟨g', by simp [h1], h2⟩
theorem each_ms {s : Nat} (h : s ∈ ms9) : s < 2 ^ 84 ∧ onesR 84 s = 12 := by
  rw [← cat_ms] at h
  obtain ⟨g, h1, h2⟩ := mem_ms _ h
  have h3 := all_ms g h1
  simp only [Bool.and_eq_true, List.all_eq_true] at h3
  have h4 := h3.2 s h2
  exact ⟨by have h5 := h4.1; rwa [Nat.blt_eq] at h5, Nat.eq_of_beq_eq_true h4.2⟩
theorem nines_ms : Nines ms9 := by
  have hl : ms9.length = 840 := by rw [← cat_ms, cat_lenG _ len_ms]; rfl
  refine ⟨hl, fun i h => (each_ms (List.getElem_mem h)).1, fun i h => ?_, fun i h => (each_ms (List.getElem_mem h)).2, ?_⟩
  · have h2 : i < (catG [mg0, mg1, mg2, mg3, mg4, mg5, mg6]).length := by rw [cat_ms]; exact h
    obtain ⟨hk, hm⟩ := cat_atG _ len_ms i h2
    have h3 := bits_ms _ hk _ hm
    have e : ms9[i] = (catG [mg0, mg1, mg2, mg3, mg4, mg5, mg6])[i] := List.getElem_of_eq cat_ms.symm _
    exact (congrArg (· % 128) e).trans (h3.trans (by congr 1; omega))
  · rw [← cat_ms]
    exact (cat_nodup _ 0 (by decide) (fun g hg => by have := all_ms g hg; simp only [Bool.and_eq_true] at this; exact ndp_nodup g this.1) bits_ms).1
theorem cntL_le {X K : Nat} {l : List Nat} (h : (ms9.all fun X => Nat.ble (cntL X l 0) K) = true) (hX : X ∈ ms9) : (l.filter fun s => s &&& X == 0).length ≤ K := by
  have := List.all_eq_true.1 h X hX
  have := Nat.le_of_ble_eq_true this
  rw [cntL_eq] at this
  omega
theorem few32_ms : Few32 ms9 := by
  intro X hX n hn
  rw [← cat_ms]
  refine cat_filter (q := fun S => S &&& X == 0) hn _ 0 bits_ms (fun k hk => ?_)
  match k, hk with
  | 0, _ => exact cntL_le chkA0 hX
  | 1, _ => exact cntL_le chkA1 hX
  | 2, _ => exact cntL_le chkA2 hX
  | 3, _ => exact cntL_le chkA3 hX
  | 4, _ => exact cntL_le chkA4 hX
  | 5, _ => exact cntL_le chkA5 hX
  | 6, _ => exact cntL_le chkA6 hX
/-! ### Families of a system -/
/-- All families with a system: the numbers of the others. -/
noncomputable def famL (bs : List B3) : List (List Int) := famT ms9 6 [] (mkF bs)
theorem mk_mem {bs : List B3} (h : bs ∈ compM 40 9 0) : mkF bs ∈ ms9 := by rw [← ms_eq]; exact List.mem_map_of_mem h
theorem getD_mapF {f : List B3 → Nat} {l : List (List B3)} {ms : List Nat} (e : l.map f = ms) {i : Nat} (h : i < l.length) : ms.getD i 0 = f l[i] := by
  subst e
  simp [h]
theorem ms_at {i : Nat} (h : i < (compM 40 9 0).length) : ms9.getD i 0 = mkF (compM 40 9 0)[i] := getD_mapF ms_eq h
theorem fam_of {S : Nat} (h : S ∈ ms9) : Fam 6 S := by
  obtain ⟨i, hi, rfl⟩ := List.getElem_of_mem h
  exact nines_ms.fam hi
theorem famL_len {bs : List B3} (h : bs ∈ compM 40 9 0) : (famL bs).length ≤ 33554432 := by
  have hm := mk_mem h
  exact fam_bound nines_ms few32_ms hm 6 _ _ (fam_of hm) (Nat.and_self _)
end Go.Vc
/-
  Plain words: the search that goes on from a place finds the same families, in the same order.
-/
namespace Go.Vc
def famS (ms ns : List Nat) : Nat → Nat → List Int → Nat → List (List Int)
  | 0, _, now, D => [now]
  | k + 1, f, now, D => (List.range ns.length).flatMap fun j => if f ≤ j ∧ nextF D (ms.getD (ns.getD j 0) 0) then famS ms ns k (j + 1) (now ++ [((ns.getD j 0 : Nat) : Int)]) (D ||| ms.getD (ns.getD j 0) 0) else []
def famJ (ms ns : List Nat) (k f : Nat) (now : List Int) (D c : Nat) : List (List Int) := (List.range c).flatMap fun j => if f ≤ j ∧ nextF D (ms.getD (ns.getD j 0) 0) then famS ms ns k (j + 1) (now ++ [((ns.getD j 0 : Nat) : Int)]) (D ||| ms.getD (ns.getD j 0) 0) else []
section
variable {ms ns : List Nat} {D X k f c j : Nat} {now : List Int}
theorem famS_step : famS ms ns (k + 1) f now D = famJ ms ns k f now D ns.length := rfl
theorem famJ_low : ∀ c, c ≤ f → famJ ms ns k f now D c = [] := by
  intro c
  induction c with
  | zero => intro _; rfl
  | succ c ih =>
    intro h
    have h1 := ih (by omega)
    unfold famJ at h1 ⊢
    rw [List.range_succ, List.flatMap_append, h1, List.flatMap_singleton, if_neg (by omega)]
    rfl
theorem famJ_yes (h : f ≤ c) (hx : nextF D (ms.getD (ns.getD c 0) 0)) : famJ ms ns k f now D (c + 1) = famJ ms ns k f now D c ++ famS ms ns k (c + 1) (now ++ [((ns.getD c 0 : Nat) : Int)]) (D ||| ms.getD (ns.getD c 0) 0) := by
  unfold famJ
  rw [List.range_succ, List.flatMap_append, List.flatMap_singleton, if_pos ⟨h, hx⟩]
theorem famJ_no (hx : ¬ nextF D (ms.getD (ns.getD c 0) 0)) : famJ ms ns k f now D (c + 1) = famJ ms ns k f now D c := by
  unfold famJ
  rw [List.range_succ, List.flatMap_append, List.flatMap_singleton, if_neg (fun h => hx h.2), List.append_nil]
theorem famJ_pre {i : Nat} (h : i ≤ c) : ∃ r, famJ ms ns k f now D c = famJ ms ns k f now D i ++ r := by
  induction c with
  | zero => exact ⟨[], by rw [show i = 0 by omega]; simp⟩
  | succ c ih =>
    by_cases e : i = c + 1
    · subst e; exact ⟨[], by simp⟩
    · obtain ⟨r, hr⟩ := ih (by omega)
      unfold famJ at hr ⊢
      rw [List.range_succ, List.flatMap_append, hr]
      exact ⟨_, List.append_assoc _ _ _⟩
theorem flat_filter {α β : Type} {l : List α} {p : α → Bool} {g : α → List β} (h : ∀ x ∈ l, p x = false → g x = []) : (l.filter p).flatMap g = l.flatMap g := by
  induction l with
  | nil => rfl
  | cons x l ih =>
    have h1 := ih (fun y hy => h y (by simp [hy]))
    rw [List.filter_cons, List.flatMap_cons]
    cases hp : p x with
    | true => simp [h1]
    | false => simp [h1, h x (by simp) hp]
theorem flat_range {β : Type} {g : Nat → List β} : ∀ l : List Nat, ((List.range l.length).flatMap fun j => g (l.getD j 0)) = l.flatMap g := by
  intro l
  induction l with
  | nil => rfl
  | cons x l ih =>
    rw [List.length_cons, List.range_succ_eq_map, List.flatMap_cons, List.flatMap_cons, List.flatMap_map, ← ih]
    rfl
/-- The systems that are apart from X. -/
def apartL (ms : List Nat) (X : Nat) : List Nat := (List.range ms.length).filter fun i => decide (ms.getD i 0 &&& X = 0)
theorem apartL_lt (hj : j < (apartL ms X).length) : (apartL ms X)[j] < ms.length := List.mem_range.1 (List.mem_filter.1 (List.getElem_mem hj)).1
theorem apartL_le {j' : Nat} (hj : j < (apartL ms X).length) (h : j' ≤ j) : (apartL ms X)[j']'(by omega) ≤ (apartL ms X)[j] := by
  have hs : (apartL ms X).Pairwise (· < ·) := List.pairwise_lt_range.filter _
  rcases Nat.lt_or_eq_of_le h with h | h
  · exact Nat.le_of_lt (List.pairwise_iff_getElem.1 hs j' j (by omega) hj h)
  · subst h; exact Nat.le_refl _
theorem fam_same (hn : Nines ms) : ∀ k D f now, Fam k D → X &&& D = X → (∀ j, j < f → ∀ hj : j < (apartL ms X).length, ¬ nextF D (ms.getD (apartL ms X)[j] 0)) → famS ms (apartL ms X) k f now D = famT ms k now D := by
  intro k
  induction k with
  | zero => intro D f now _ _ _; rfl
  | succ k ih =>
    intro D f now h hX hf
    rw [famS_step, fam_step]
    unfold famJ
    have e1 : ((List.range (apartL ms X).length).flatMap fun j => if f ≤ j ∧ nextF D (ms.getD ((apartL ms X).getD j 0) 0) then famS ms (apartL ms X) k (j + 1) (now ++ [(((apartL ms X).getD j 0 : Nat) : Int)]) (D ||| ms.getD ((apartL ms X).getD j 0) 0) else [])
        = (List.range (apartL ms X).length).flatMap fun j => (fun i => if nextF D (ms.getD i 0) then famT ms k (now ++ [(i : Int)]) (D ||| ms.getD i 0) else []) ((apartL ms X).getD j 0) := by
      refine flat_congr fun j hj => ?_
      have hj := List.mem_range.1 hj
      have eg : (apartL ms X).getD j 0 = (apartL ms X)[j] := by simp [hj]
      have hlt := apartL_lt hj
      have em : ms.getD (apartL ms X)[j] 0 = ms[(apartL ms X)[j]] := by simp [hlt]
      rw [eg]
      dsimp only
      by_cases hx : nextF D (ms.getD (apartL ms X)[j] 0)
      · have hfj : f ≤ j := by
          apply Decidable.byContradiction
          intro hc
          exact hf j (by omega) hj hx
        rw [if_pos ⟨hfj, hx⟩, if_pos hx]
        rw [em] at hx ⊢
        cases k with
        | zero => rfl
        | succ k =>
          refine ih _ _ _ (Fam.step hn h hlt hx) (sub_or hX) (fun j' hj' hj2 => ?_)
          have hle := apartL_le hj (show j' ≤ j by omega)
          have hlt2 := apartL_lt hj2
          have em2 : ms.getD (apartL ms X)[j'] 0 = ms[(apartL ms X)[j']] := by simp [hlt2]
          rw [em2]
          exact next_from hn h hlt hx hle
      · rw [if_neg (fun hh => hx hh.2), if_neg hx]
    refine e1.trans ((flat_range (g := fun i => if nextF D (ms.getD i 0) then famT ms k (now ++ [(i : Int)]) (D ||| ms.getD i 0) else []) (apartL ms X)).trans ?_)
    exact flat_filter (fun i hi hp => by
      have hp2 : ¬ ms.getD i 0 &&& X = 0 := of_decide_eq_false hp
      rw [if_neg (fun hx => hp2 (sub_land hX hx.2))])
end
/-- What the search of the reference finds. -/
theorem fam_spec {bs : List B3} (h : bs ∈ compM 40 9 0) : famS ms9 (apartL ms9 (mkF bs)) 6 0 [] (mkF bs) = famL bs :=
  fam_same nines_ms 6 _ _ _ (fam_of (mk_mem h)) (Nat.and_self _) (fun j hj => by omega)
end Go.Vc
namespace Go.Vc
/-! ### The places of blocks -/
theorem cF_le (a : Nat) : cF a ≤ 84 := Nat.sub_le _ _
theorem cG_le (p q : Nat) : cG p q ≤ 28 := by
  refine Nat.le_trans (Nat.sub_le _ _) ?_
  have h1 : (8 - p) * (7 - p) ≤ 8 * 7 := Nat.mul_le_mul (by omega) (by omega)
  omega
theorem cF_step : ∀ a : Nat, a < 7 → ((cF a : Nat) : Int) + (8 - (a : Int)) * (7 - (a : Int)) / 2 = ((cF (a + 1) : Nat) : Int) := by decide
theorem cM_bd : ∀ a : Nat, a < 7 → 0 ≤ (8 - (a : Int)) * (7 - (a : Int)) ∧ (8 - (a : Int)) * (7 - (a : Int)) ≤ 56 := by decide
theorem cG_zero {p : Nat} : cG p (p + 1) = 0 := by
  unfold cG
  rw [show 9 - (p + 1) = 8 - p by omega, show 8 - (p + 1) = 7 - p by omega, Nat.sub_self]
theorem cG_step : ∀ p q, p < q → q < 9 → cG p q + (8 - q) = cG p (q + 1) := by
  intro p q h1 h2
  have key : ∀ q, q < 9 → ∀ p, p < q → cG p q + (8 - q) = cG p (q + 1) := by decide
  exact key q h2 p h1
theorem tix_lt : ∀ {b : B3}, good 9 b → tix b < 84 := by
  intro b h
  have key : ∀ r, r < 9 → ∀ q, q < r → ∀ p, p < q → tixN p q r < 84 := by decide
  unfold good at h
  exact key b.2.2.toNat (by omega) b.2.1.toNat (by omega) b.1.toNat (by omega)
theorem mk_snoc {bs : List B3} {b : B3} : mkF (bs ++ [b]) = mkF bs ||| 2 ^ tix b := by unfold mkF; rw [List.foldl_append]; rfl
end Go.Vc
namespace Go.Vc
/-! ### One after the other -/
def famP (ms : List Nat) (k : Nat) (now : List Int) (D c : Nat) : List (List Int) := (List.range c).flatMap fun i => if nextF D (ms.getD i 0) then famT ms k (now ++ [(i : Int)]) (D ||| ms.getD i 0) else []
section
variable {ms : List Nat} {D k c i n : Nat} {now : List Int}
theorem famT_zero (h : n = 0) : famT ms n now D = [now] := by subst h; rfl
theorem famT_pos (h : 0 < n) : famT ms n now D = famP ms (n - 1) now D ms.length := by
  obtain ⟨k, rfl⟩ : ∃ k, n = k + 1 := ⟨n - 1, by omega⟩
  rfl
theorem famP_yes (hi : c < ms.length) (hx : nextF D ms[c]) : famP ms k now D (c + 1) = famP ms k now D c ++ famT ms k (now ++ [(c : Int)]) (D ||| ms[c]) := by
  have e : ms.getD c 0 = ms[c] := by simp [hi]
  unfold famP
  rw [List.range_succ, List.flatMap_append, List.flatMap_singleton, e, if_pos hx]
theorem famP_no (hi : c < ms.length) (hx : ¬ nextF D ms[c]) : famP ms k now D (c + 1) = famP ms k now D c := by
  have e : ms.getD c 0 = ms[c] := by simp [hi]
  unfold famP
  rw [List.range_succ, List.flatMap_append, List.flatMap_singleton, e, if_neg hx, List.append_nil]
theorem famP_len {i : Nat} (h : i ≤ c) : (famP ms k now D i).length ≤ (famP ms k now D c).length := by
  induction c with
  | zero => rw [show i = 0 by omega]; exact Nat.le_refl _
  | succ c ih =>
    by_cases e : i = c + 1
    · subst e; exact Nat.le_refl _
    · refine Nat.le_trans (ih (by omega)) ?_
      unfold famP
      rw [List.range_succ, List.flatMap_append, List.length_append]
      omega
/-- What has been taken is in order. -/
def NowOk (k : Nat) (now : List Int) (D : Nat) : Prop := now.Pairwise (· < ·) ∧ (0 < k → ∀ x ∈ now, x < 120 * (pivD D : Int))
theorem now_step (hn : Nines ms) (h : Fam (k + 1) D) (hi : i < ms.length) (hx : nextF D ms[i]) (ho : NowOk (k + 1) now D) : NowOk k (now ++ [(i : Int)]) (D ||| ms[i]) := by
  have hp := next_piv hn h hi hx
  refine ⟨?_, fun hk x hx2 => ?_⟩
  · rw [List.pairwise_append]
    refine ⟨ho.1, List.pairwise_singleton _ _, fun x hx2 y hy => ?_⟩
    rw [List.mem_singleton] at hy
    subst hy
    have := ho.2 (by omega) x hx2
    omega
  · obtain ⟨k, rfl⟩ : ∃ j, k = j + 1 := ⟨k - 1, by omega⟩
    have hu := piv_up hn h hi hx
    rcases List.mem_append.1 hx2 with hx2 | hx2
    · have := ho.2 (by omega) x hx2
      omega
    · rw [List.mem_singleton] at hx2
      subst hx2
      omega
end
end Go.Vc
namespace Go.Vc
/-- The code of families. -/
noncomputable def lfC (v : Int) (bs : List B3) : Int := if STS v bs then if v = 9 ∧ 6 * (bs.length : Int) = v * (v - 1) then 0 else 5 else 1
theorem lf_1 {v : Int} {bs : List B3} (h : ¬ STS v bs) : lfC v bs = 1 := by unfold lfC; rw [if_neg h]
theorem lf_5 {v : Int} {bs : List B3} (h : STS v bs) (h2 : ¬ (v = 9 ∧ 6 * (bs.length : Int) = v * (v - 1))) : lfC v bs = 5 := by unfold lfC; rw [if_pos h, if_neg h2]
theorem lf_0 {v : Int} {bs : List B3} (h : STS v bs) (h1 : v = 9) (h2 : 6 * (bs.length : Int) = v * (v - 1)) : lfC v bs = 0 := by unfold lfC; rw [if_pos h, if_pos ⟨h1, h2⟩]
theorem nine_mem {v : Int} {bs : List B3} (h : STS v bs) (h1 : v = 9) (h2 : 6 * (bs.length : Int) = v * (v - 1)) : bs ∈ compM 40 9 0 := by
  subst h1
  exact few_mem h ⟨.inr (.inr rfl), h2⟩
theorem nine_good {q : List B3} (h : q ∈ compM 40 9 0) : ∀ b ∈ q, good 9 b := by
  intro b hb
  have hr := comp_rest 40 9 0 q (by decide) h
  obtain ⟨x, y, z, rfl, h1, h2, h3⟩ := hr.ok b hb
  unfold good b3N
  simp only
  omega
theorem nine_count : (compM 40 9 0).length = 840 := by rw [cntM_eq, cnt9]
end Go.Vc
namespace Go.Vc
theorem lf_some {v : Int} {bs : List B3} (h : (if STS v bs then if Few v bs then (0 : Int) else 5 else 1) = 0) (h2 : ¬ v = 9) : (5 : Int) = lfC v bs := by
  by_cases hS : STS v bs
  · rw [lf_5 hS (fun h3 => h2 h3.1)]
  · rw [if_neg hS] at h; exact absurd h (by decide)
theorem lf_else {v : Int} {bs : List B3} (h : (if STS v bs then if Few v bs then (0 : Int) else 5 else 1) = 0 → v = 9) : (if STS v bs then if Few v bs then (0 : Int) else 5 else 1) = lfC v bs := by
  by_cases hS : STS v bs
  · by_cases hF : Few v bs
    · rw [if_pos hS, if_pos hF] at h ⊢
      exact (lf_0 hS (h rfl) hF.2).symm
    · rw [if_pos hS, if_neg hF]
      refine (lf_5 hS (fun h3 => hF ⟨?_, h3.2⟩)).symm
      exact .inr (.inr h3.1)
  · rw [if_neg hS, lf_1 hS]
theorem lf_zero {v : Int} {bs : List B3} (h : lfC v bs = 0) : STS v bs ∧ v = 9 ∧ bs ∈ compM 40 9 0 := by
  unfold lfC at h
  by_cases hS : STS v bs
  · rw [if_pos hS] at h
    by_cases h2 : v = 9 ∧ 6 * (bs.length : Int) = v * (v - 1)
    · exact ⟨hS, h2.1, nine_mem hS h2.1 h2.2⟩
    · rw [if_neg h2] at h; exact absurd h (by decide)
  · rw [if_neg hS] at h; exact absurd h (by decide)
end Go.Vc
/-
  The calculus, part 28: pictures, that is pairs of words; arrays of words.
-/
namespace Go.Vc
open Go Go.RowKit
def Pv (m : Nat) : Value := .agg #[.int .u64 ((m % 2 ^ 64 : Nat) : Int), .int .u64 ((m / 2 ^ 64 : Nat) : Int)]
def PicC : Cod Nat := ⟨2, fun m => [.int .u64 ((m % 2 ^ 64 : Nat) : Int), .int .u64 ((m / 2 ^ 64 : Nat) : Int)], by decide, fun _ => rfl, fun _ u hu => by simp at hu; rcases hu with rfl | rfl <;> rfl⟩
section
variable {P : Program} {w0 w : World} {H H' : List Assn} {Q : Exit → Act → World → Prop} {σ : Sig} {o : Oper}
theorem Ld.arrU {b t off : Nat} {xs : List Nat} {n k : Nat} (i : Nat) (hp : pull i H = some (Blk b (xs.map fun q : Nat => Value.int .u64 (q : Int)) t, H')) (ho : off = 0 + k * 1) (hk : k < n) (hn : xs.length = n) : ∀ w, St w0 H w → ∃ q, some (⟨b, off, none⟩ : Addr) = some q ∧ w.cell? q = some (.int .u64 ((xs.getD k 0 : Nat) : Int)) := by
  intro w hw
  subst ho
  refine ⟨_, rfl, Blk.cell hw hp ?_⟩
  have : 0 + k * 1 = k := by omega
  rw [this, List.getElem?_map, List.getElem?_eq_getElem (by omega)]
  simp [List.getD, hk, hn]
theorem Ef.storeArrU {T : TypeId} {x y : Operand} {b t off n : Nat} {xs : List Nat} {v : Nat} (i : Nat) (k : Nat) (ho : o.op = .store T x y) (hs : Sz P T 1) (hx : ev σ x = some (.pointer (some ⟨b, off, none⟩))) (hy : ev σ y = some (.int .u64 (v : Int)))
    (hp : pull i H = some (Blk b (xs.map fun q : Nat => Value.int .u64 (q : Int)) t, H')) (hoff : off = 0 + k * 1) (hk : k < n) (hn : xs.length = n) :
    Ef P w0 o σ H Q (fun _ H'' => H'' = repl i H (Blk b ((xs.set k v).map fun q : Nat => Value.int .u64 (q : Int)) t)) := by
  subst hoff
  have h0 : 0 + k * 1 = k := by omega
  rw [h0] at hx
  exact Ef.store1 i ho hs hx hy hp rfl rfl (by simp; omega) (by rw [List.map_set])
end
/-! ### Words of 64 bits -/
section
variable {P : Program} {w0 w : World} {H : List Assn} {σ : Sig} {o : Oper} {T T2 : TypeId} {x y : Operand} {m n : Nat}
theorem Pu.andW (hm : m < 18446744073709551616) (hn : n < 18446744073709551616) (ho : o.op = .binOp .and T x y T2) (hx : ev σ x = some (.int .u64 (m : Int))) (hy : ev σ y = some (.int .u64 (n : Int))) : Pu P w0 o σ H (.int .u64 ((m &&& n : Nat) : Int)) :=
  Pu.bin ho hx hy fun w => by
    have h1 : (BitVec.ofInt IntKind.u64.bits (m : Int) &&& BitVec.ofInt IntKind.u64.bits (n : Int)).toNat = m &&& n := by
      rw [BitVec.toNat_and, ofInt_nat (by rw [K64.u.bits]; omega), ofInt_nat (by rw [K64.u.bits]; omega)]
    simp only [Go.binOp, Op.intBits, h1, wrap_u64 (Nat.lt_of_le_of_lt Nat.and_le_left hm), ne_eq, not_true, if_false]
    rfl
theorem Pu.orW (hm : m < 18446744073709551616) (hn : n < 18446744073709551616) (ho : o.op = .binOp .or T x y T2) (hx : ev σ x = some (.int .u64 (m : Int))) (hy : ev σ y = some (.int .u64 (n : Int))) : Pu P w0 o σ H (.int .u64 ((m ||| n : Nat) : Int)) :=
  Pu.bin ho hx hy fun w => by
    have h1 : (BitVec.ofInt IntKind.u64.bits (m : Int) ||| BitVec.ofInt IntKind.u64.bits (n : Int)).toNat = m ||| n := by
      rw [BitVec.toNat_or, ofInt_nat (by rw [K64.u.bits]; omega), ofInt_nat (by rw [K64.u.bits]; omega)]
    simp only [Go.binOp, Op.intBits, h1, wrap_u64 (Nat.or_lt_two_pow (n := 64) hm hn), ne_eq, not_true, if_false]
    rfl
theorem Pu.shl1W {p : Nat} {yk : IntKind} (hp : p ≤ 63) (ho : o.op = .binOp .shl T x y T2) (hx : ev σ x = some (.int .u64 1)) (hy : ev σ y = some (.int yk (p : Int))) : Pu P w0 o σ H (.int .u64 ((2 ^ p : Nat) : Int)) := by
  intro w hw a ha
  have h1 := ha x (by simp [ho, Op.operands]) _ hx
  have h2 := ha y (by simp [ho, Op.operands]) _ hy
  have he : (eqGuard .shl T x y (.int .u64 (1 : Int)) (.int yk (p : Int))).run P w = .ok () w := by
    unfold eqGuard
    simp
  have h3 : min p IntKind.u64.bits = p := by rw [K64.u.bits]; omega
  have hm : 2 ^ p < 18446744073709551616 := by
    have : 2 ^ p ≤ 2 ^ 63 := Nat.pow_le_pow_right (by decide) hp
    omega
  have h4 : IntKind.u64.wrap ((2 : Int) ^ p) = ((2 ^ p : Nat) : Int) := by
    have := wrap_u64 hm
    rw [← this]
    congr 1
  have h5 : ¬ ((p : Int) < 0) := by omega
  simp [execOp, ho, h1, h2, he, Go.binOp, Op.shift, h3, h4, h5]
end
theorem mod64_lt (m : Nat) : m % 2 ^ 64 < 18446744073709551616 := Nat.mod_lt _ (by decide)
theorem div64_lt {m : Nat} (h : m < 2 ^ 84) : m / 2 ^ 64 < 18446744073709551616 := by
  rw [Nat.div_lt_iff_lt_mul (by decide)]
  omega
theorem shr64_lt {m n : Nat} (h : m < 18446744073709551616) : m >>> n < 18446744073709551616 := Nat.lt_of_le_of_lt (Nat.shiftRight_le _ _) h
theorem pow64_lt {p : Nat} (h : p ≤ 63) : 2 ^ p < 18446744073709551616 := by
  have : 2 ^ p ≤ 2 ^ 63 := Nat.pow_le_pow_right (by decide) h
  omega
/-! ### The words of bits -/
def wdL (m : Nat) : List Nat := [m % 2 ^ 64, m / 2 ^ 64]
theorem pow_mod_lt {n k : Nat} (h : n < k) : 2 ^ n % 2 ^ k = 2 ^ n := Nat.mod_eq_of_lt (Nat.pow_lt_pow_right (by decide) h)
theorem pow_div_lt {n k : Nat} (h : n < k) : 2 ^ n / 2 ^ k = 0 := Nat.div_eq_of_lt (Nat.pow_lt_pow_right (by decide) h)
theorem pow_mod_ge {n k : Nat} (h : k ≤ n) : 2 ^ n % 2 ^ k = 0 := Nat.mod_eq_zero_of_dvd (Nat.pow_dvd_pow 2 h)
theorem pow_div_ge {n k : Nat} (h : k ≤ n) : 2 ^ n / 2 ^ k = 2 ^ (n - k) := Nat.pow_div h (by decide)
theorem wd_get {m n : Nat} (hn : n < 128) : (wdL m).getD (n / 64) 0 = if n < 64 then m % 2 ^ 64 else m / 2 ^ 64 := by
  by_cases h : n < 64
  · rw [if_pos h, show n / 64 = 0 by omega]; rfl
  · rw [if_neg h, show n / 64 = 1 by omega]; rfl
theorem wd_set {m n : Nat} (hn : n < 128) : (wdL m).set (n / 64) ((wdL m).getD (n / 64) 0 ||| 2 ^ (n % 64)) = wdL (m ||| 2 ^ n) := by
  rw [wd_get hn]
  by_cases h : n < 64
  · rw [if_pos h, show n / 64 = 0 by omega, show n % 64 = n by omega]
    unfold wdL
    rw [lor_mod, lor_div, pow_mod_lt h, pow_div_lt h, Nat.or_zero]
    rfl
  · rw [if_neg h, show n / 64 = 1 by omega, show n % 64 = n - 64 by omega]
    unfold wdL
    rw [lor_mod, lor_div, pow_mod_ge (by omega), pow_div_ge (by omega), Nat.or_zero]
    rfl
theorem wd_lt {W : List Nat} {m k : Nat} (hW : W = wdL m) (h : m < 2 ^ 84) : W.getD k 0 < 18446744073709551616 := by
  subst hW
  match k with
  | 0 => exact mod64_lt m
  | 1 => exact div64_lt h
  | k + 2 => exact (by decide : (0 : Nat) < 18446744073709551616)
theorem div_lt42 {m : Nat} (h : m < 2 ^ 84) : m / 2 ^ 42 < 2 ^ 42 := by
  rw [Nat.div_lt_iff_lt_mul (by decide), ← Nat.pow_add]
  exact h
theorem word_bit {m n k : Nat} (h : n < k) : (m % 2 ^ k) >>> n &&& 1 = 1 ↔ m.testBit n = true := by
  have h1 : m.testBit n = (m % 2 ^ k).testBit n := by rw [Nat.testBit_mod_two_pow]; simp [h]
  rw [h1, Nat.testBit, Nat.and_comm]
  have h2 : 1 &&& (m % 2 ^ k) >>> n = (m % 2 ^ k) >>> n % 2 := by rw [Nat.and_comm, Nat.and_one_is_mod]
  rw [h2]
  have := Nat.mod_lt ((m % 2 ^ k) >>> n) (show 0 < 2 by decide)
  constructor
  · intro h3; rw [h3]; rfl
  · intro h3
    have h4 : ¬ (m % 2 ^ k) >>> n % 2 = 0 := by simpa using h3
    omega
end Go.Vc
/-
  The calculus, part 29: the reference's search for families.
-/
namespace Go.Vc
open Go Go.RowKit
/-- Natural numbers as words with a sign. -/
def N64 : Cod Nat := ⟨1, fun m => [.int .i64 (m : Int)], by decide, fun _ => rfl, fun _ u hu => by simp at hu; subst hu; rfl⟩
section
variable {α : Type} {most : Nat} {l l2 : List α} {L R : List α}
theorem most_all (hlm : l.length < most) (hl2 : l2 = l ++ runC (fun j => decide (j < most)) l.length L) (h : l2.length < most) : goesC (fun j => decide (j < most)) l.length L = true ∧ l2 = l ++ L := by
  have hg : goesC (fun j => decide (j < most)) l.length L = true := by
    rw [goesC_most hlm]
    have h2 := congrArg List.length hl2
    rw [List.length_append] at h2
    exact decide_eq_true (by omega)
  exact ⟨hg, by rw [hl2, runC_all hg]⟩
theorem most_stop (hlm : l.length < most) (hl2 : l2 = l ++ runC (fun j => decide (j < most)) l.length L) (h : ¬ l2.length < most) : l ++ runC (fun j => decide (j < most)) l.length (L ++ R) = l2 := by
  have h1 : goesC (fun j => decide (j < most)) l.length L = false := by
    rw [goesC_most hlm]
    have h2 := congrArg List.length hl2
    rw [List.length_append] at h2
    exact decide_eq_false (by omega)
  rw [runC_stop h1, ← hl2]
theorem most_next (hg : goesC (fun j => decide (j < most)) l.length L = true) (hl2 : l2 = l ++ L) : l ++ runC (fun j => decide (j < most)) l.length (L ++ R) = l2 ++ runC (fun j => decide (j < most)) l2.length R := by
  rw [runC_append hg, hl2, List.append_assoc, List.length_append]
theorem most_endF {ms ns : List Nat} {k f D i : Nat} {now : List Int} {l l2 : List (List Int)} (hlm : l.length < most) (hi : i ≤ ns.length) (hl2 : l2 = l ++ runC (fun j => decide (j < most)) l.length (famJ ms ns k f now D i)) (h : i = ns.length ∨ ¬ l2.length < most) : l ++ runC (fun j => decide (j < most)) l.length (famS ms ns (k + 1) f now D) = l2 := by
  rw [famS_step]
  rcases h with h | h
  · rw [← h]; exact hl2.symm
  · obtain ⟨r, hr⟩ := famJ_pre (ms := ms) (ns := ns) (k := k) (f := f) (now := now) (D := D) hi
    rw [hr]
    exact most_stop hlm hl2 h
theorem head_snoc {l : List α} {x d : α} : (l ++ [x]).headD d = if l = [] then x else l.headD d := by cases l <;> rfl
end
/-- The numbers of the systems that are apart, and their bits. -/
def lowL (ns : List Nat) : List Nat := ns.map fun i => ms9.getD i 0 % 2 ^ 42
def highL (ns : List Nat) : List Nat := ns.map fun i => ms9.getD i 0 / 2 ^ 42
theorem ms9_lt {i : Nat} : ms9.getD i 0 < 2 ^ 84 := by
  by_cases h : i < ms9.length
  · rw [List.getD_eq_getElem?_getD, List.getElem?_eq_getElem h]; exact nines_ms.lt i h
  · rw [List.getD_eq_getElem?_getD, List.getElem?_eq_none (by omega)]; decide
theorem low_len {ns : List Nat} : (lowL ns).length = ns.length := List.length_map ..
theorem high_len {ns : List Nat} : (highL ns).length = ns.length := List.length_map ..
theorem low_at {ns : List Nat} {i : Nat} (h : i < ns.length) (h1 : i < (lowL ns).length) : (lowL ns)[i] = ms9.getD ns[i] 0 % 2 ^ 42 := by simp [lowL]
theorem high_at {ns : List Nat} {i : Nat} (h : i < ns.length) (h1 : i < (highL ns).length) : (highL ns)[i] = ms9.getD ns[i] 0 / 2 ^ 42 := by simp [highL]
theorem low_snoc {ns : List Nat} {i : Nat} : lowL (ns ++ [i]) = lowL ns ++ [ms9.getD i 0 % 2 ^ 42] := by simp [lowL]
theorem high_snoc {ns : List Nat} {i : Nat} : highL (ns ++ [i]) = highL ns ++ [ms9.getD i 0 / 2 ^ 42] := by simp [highL]
theorem lt42 {a : Nat} : a % 2 ^ 42 < 2 ^ 42 := Nat.mod_lt _ (by decide)
/-! ### One bit after the other -/
def bitA (X t n : Nat) : Nat := if t < n then X ||| 2 ^ t else X
theorem bitA_zero {X t : Nat} : bitA X t 0 = X := if_neg (by omega)
theorem bitA_end {X t n : Nat} (h : t < n) : bitA X t n = X ||| 2 ^ t := if_pos h
theorem bitA_no {X t n : Nat} (h : ¬ t = n) : bitA X t (n + 1) = bitA X t n := by
  unfold bitA
  by_cases h1 : t < n
  · rw [if_pos (by omega), if_pos h1]
  · rw [if_neg (by omega), if_neg h1]
theorem bitA_yes {X t n : Nat} (h : t = n) : bitA X t (n + 1) = bitA X t n ||| 2 ^ n := by
  subst h
  unfold bitA
  rw [if_pos (by omega), if_neg (by omega)]
theorem bit_lo {X t n a b : Nat} (h : t = n) (hn : n < 42) (ha : a = bitA X t n % 2 ^ 42) (hb : b = bitA X t n / 2 ^ 42) : a ||| 2 ^ n = bitA X t (n + 1) % 2 ^ 42 ∧ b = bitA X t (n + 1) / 2 ^ 42 := by
  rw [bitA_yes h, lor_mod, lor_div, pow_mod_lt hn, pow_div_lt hn, Nat.or_zero, ← ha]
  exact ⟨rfl, hb⟩
theorem bit_hi {X t n a b : Nat} (h : t = n) (hn : ¬ n < 42) (ha : a = bitA X t n % 2 ^ 42) (hb : b = bitA X t n / 2 ^ 42) : a = bitA X t (n + 1) % 2 ^ 42 ∧ b ||| 2 ^ (n - 42) = bitA X t (n + 1) / 2 ^ 42 := by
  rw [bitA_yes h, lor_mod, lor_div, pow_mod_ge (by omega), pow_div_ge (by omega), Nat.or_zero, ← hb]
  exact ⟨ha, rfl⟩
theorem bit_no {X t n a b : Nat} (h : ¬ t = n) (ha : a = bitA X t n % 2 ^ 42) (hb : b = bitA X t n / 2 ^ 42) : a = bitA X t (n + 1) % 2 ^ 42 ∧ b = bitA X t (n + 1) / 2 ^ 42 := by
  rw [bitA_no h]
  exact ⟨ha, hb⟩
theorem bitA_lt {X t n : Nat} (hX : X < 2 ^ 84) (ht : t < 84) : bitA X t n < 2 ^ 84 := by
  unfold bitA
  split
  · exact Nat.or_lt_two_pow hX (Nat.pow_lt_pow_right (by decide) ht)
  · exact hX
theorem cG_nine : ∀ p, p < 9 → cF p + cG p 9 = cF (p + 1) := by decide
theorem cF_nine : cF 9 = 84 := by decide
theorem cF_zero : cF 0 = 0 := by decide
/-- All blocks of nine points, in order. -/
def tri84 : List Nat := (List.range 9).flatMap fun p => (List.range 9).flatMap fun q => (List.range 9).flatMap fun r => if p < q ∧ q < r then [100 * p + 10 * q + r] else []
theorem tri84_at : ∀ r, r < 9 → ∀ q, q < r → ∀ p, p < q → tri84.getD (tixN p q r) 0 = 100 * p + 10 * q + r := by decide +kernel
theorem tix_hit {b : B3} {p q r : Nat} (hg : good 9 b) (hp : p < q) (hq : q < r) (hr : r < 9) : tix b = cF p + cG p q + (r - q - 1) ↔ b.1 = p ∧ b.2.1 = q ∧ b.2.2 = r := by
  unfold good at hg
  constructor
  · intro h
    have h1 := tri84_at b.2.2.toNat (by omega) b.2.1.toNat (by omega) b.1.toNat (by omega)
    have h2 := tri84_at r hr q hq p hp
    have h3 : tixN b.1.toNat b.2.1.toNat b.2.2.toNat = tixN p q r := h
    rw [h3, h2] at h1
    omega
  · rintro ⟨h1, h2, h3⟩
    show tixN b.1.toNat b.2.1.toNat b.2.2.toNat = _
    rw [show b.1.toNat = p by omega, show b.2.1.toNat = q by omega, show b.2.2.toNat = r by omega]
    rfl
section
variable {P : Program} {N : Nat} {w0 w : World} {Q : Exit → Act → World → Prop} {σ : Sig} {H H' : List Assn} {ops : Array Oper} {rest : List Oper}
/-- A search for families: its cells, the systems that are apart; what has been counted, l. -/
def FamK (T iT : TypeId) (sb most : Nat) (ns : List Nat) (l : List (List Int)) : Assn :=
  .exi fun q : (((Option Addr × Nat) × (Option Addr × Nat)) × (Option Addr × Nat)) × (Option Addr × Nat) =>
    .sep (Blk sb [.slice q.1.1.1.1 (lowL ns).length q.1.1.1.2, .slice q.1.1.2.1 (highL ns).length q.1.1.2.2, .slice q.1.2.1 ns.length q.1.2.2, .int .i64 (most : Int), .int .i64 (l.length : Int), .slice q.2.1 (l.headD []).length q.2.2] T)
      (.sep (Own iT N64 q.1.1.1.1 q.1.1.1.2 (lowL ns)) (.sep (Own iT N64 q.1.1.2.1 q.1.1.2.2 (highL ns)) (.sep (Own iT N64 q.1.2.1 q.1.2.2 ns) (Own iT I64 q.2.1 q.2.2 (l.headD [])))))
variable {T iT : TypeId} {sb most : Nat} {ns : List Nat} {l : List (List Int)}
theorem FamK.elim (hw : St w0 (FamK T iT sb most ns l :: H) w) : ∃ lA lk hA hk nA nk fA fk,
    St w0 (Blk sb [.slice lA (lowL ns).length lk, .slice hA (highL ns).length hk, .slice nA ns.length nk, .int .i64 (most : Int), .int .i64 (l.length : Int), .slice fA (l.headD []).length fk] T :: Own iT N64 lA lk (lowL ns) :: Own iT N64 hA hk (highL ns) :: Own iT N64 nA nk ns :: Own iT I64 fA fk (l.headD []) :: H) w := by
  obtain ⟨q, hw⟩ := hw.exi
  refine ⟨q.1.1.1.1, q.1.1.1.2, q.1.1.2.1, q.1.1.2.2, q.1.2.1, q.1.2.2, q.2.1, q.2.2, ?_⟩
  have h1 := (hw.sep.perm (List.Perm.swap _ _ _)).sep
  have h2 := (h1.perm (List.Perm.swap _ _ _)).sep
  have h3 := (h2.perm (List.Perm.swap _ _ _)).sep
  exact h3.sub (Sub.keep 4 rfl (Sub.keep 3 rfl (Sub.keep 2 rfl (Sub.keep 0 rfl (Sub.keep 0 rfl (Sub.refl _))))))
theorem V.famK {c : Code} (h : ∀ lA lk hA hk nA nk fA fk, V P N w0 c Q σ (Blk sb [.slice lA (lowL ns).length lk, .slice hA (highL ns).length hk, .slice nA ns.length nk, .int .i64 (most : Int), .int .i64 (l.length : Int), .slice fA (l.headD []).length fk] T :: Own iT N64 lA lk (lowL ns) :: Own iT N64 hA hk (highL ns) :: Own iT N64 nA nk ns :: Own iT I64 fA fk (l.headD []) :: H)) : V P N w0 c Q σ (FamK T iT sb most ns l :: H) := by
  intro w hw
  obtain ⟨a1, a2, a3, a4, a5, a6, a7, a8, h3⟩ := FamK.elim hw
  exact h a1 a2 a3 a4 a5 a6 a7 a8 w h3
theorem O.famK (h : ∀ lA lk hA hk nA nk fA fk, O P N w0 ops Q rest σ (Blk sb [.slice lA (lowL ns).length lk, .slice hA (highL ns).length hk, .slice nA ns.length nk, .int .i64 (most : Int), .int .i64 (l.length : Int), .slice fA (l.headD []).length fk] T :: Own iT N64 lA lk (lowL ns) :: Own iT N64 hA hk (highL ns) :: Own iT N64 nA nk ns :: Own iT I64 fA fk (l.headD []) :: H)) : O P N w0 ops Q rest σ (FamK T iT sb most ns l :: H) := by
  intro w hw
  obtain ⟨a1, a2, a3, a4, a5, a6, a7, a8, h3⟩ := FamK.elim hw
  exact h a1 a2 a3 a4 a5 a6 a7 a8 w h3
theorem FamK.mk {lA hA nA fA : Option Addr} {lk hk nk fk : Nat} {f : List Int} (hf : f = l.headD [])
    (hw : St w0 (Blk sb [.slice lA (lowL ns).length lk, .slice hA (highL ns).length hk, .slice nA ns.length nk, .int .i64 (most : Int), .int .i64 (l.length : Int), .slice fA f.length fk] T :: Own iT N64 lA lk (lowL ns) :: Own iT N64 hA hk (highL ns) :: Own iT N64 nA nk ns :: Own iT I64 fA fk f :: H) w) : St w0 (FamK T iT sb most ns l :: H) w := by
  subst hf
  refine St.mkExi ((((lA, lk), (hA, hk)), (nA, nk)), (fA, fk)) ?_
  have h1 := hw.sub (Sub.keep 3 rfl (Sub.keep 3 rfl (Sub.keep 2 rfl (Sub.keep 1 rfl (Sub.keep 0 rfl (Sub.refl _))))))
  have h2 := (St.unsep h1).perm (List.Perm.swap _ _ _)
  have h3 := (St.unsep h2).perm (List.Perm.swap _ _ _)
  have h4 := (St.unsep h3).perm (List.Perm.swap _ _ _)
  exact St.unsep h4
/-- A search that has counted nothing; what turns are the systems. -/
abbrev FamN (T iT : TypeId) (sb most : Nat) (ns : List Nat) : Assn := FamK T iT sb most ns []
end
end Go.Vc
namespace Go.Vc
open Go Go.RowKit
section
variable {α : Type} {most : Nat}
theorem most_goes : ∀ {L : List α} {k : Nat}, k + L.length < most → goesC (fun j => decide (j < most)) k L = true := by
  intro L
  induction L with
  | nil => intro k _; rfl
  | cons x L ih =>
    intro k h
    rw [List.length_cons] at h
    unfold goesC
    rw [decide_eq_true (by omega : k + 1 < most), ih (by omega)]
    rfl
theorem most_run {L : List α} (h : L.length < most) : runC (fun j => decide (j < most)) 0 L = L := runC_all (most_goes (by omega))
end
/-- The numbers below i of systems that are apart from X. -/
def apartP (X i : Nat) : List Nat := (List.range i).filter fun j => decide (ms9.getD j 0 &&& X = 0)
theorem apartP_all {X : Nat} : apartP X 840 = apartL ms9 X := by
  unfold apartP apartL
  rw [nines_ms.len]
theorem apartP_yes {X i : Nat} (h : ms9.getD i 0 &&& X = 0) : apartP X (i + 1) = apartP X i ++ [i] := by
  unfold apartP
  rw [List.range_succ, List.filter_append, List.filter_cons_of_pos (p := fun j => decide (ms9.getD j 0 &&& X = 0)) (decide_eq_true h)]
  rfl
theorem apartP_no {X i : Nat} (h : ¬ ms9.getD i 0 &&& X = 0) : apartP X (i + 1) = apartP X i := by
  unfold apartP
  rw [List.range_succ, List.filter_append, List.filter_cons_of_neg (p := fun j => decide (ms9.getD j 0 &&& X = 0)) (by rw [decide_eq_false h]; decide)]
  exact List.append_nil _
theorem apartP_len {X i : Nat} : (apartP X i).length ≤ i := by
  refine Nat.le_trans (List.length_filter_le _ _) ?_
  rw [List.length_range]
  omega
theorem ms_row {all : List (Sl × List B3)} (h : conts all = compM 40 9 0) {i : Nat} (hi : i < all.length) : ms9.getD i 0 = mkF (all[i]).2 := by
  have hl : i < (compM 40 9 0).length := by rw [← h]; simpa [conts] using hi
  rw [ms_at hl]
  congr 1
  have := List.getElem_of_eq h.symm hl
  rw [this]
  simp [conts]
theorem ms9_take {all : List (Sl × List B3)} (h : conts all = compM 40 9 0) {i : Nat} (hi : i < all.length) : ms9.take (i + 1) = ms9.take i ++ [mkF (all[i]).2] := by
  have hl : i < (compM 40 9 0).length := by rw [← h]; simpa [conts] using hi
  have hl2 : i < ms9.length := by rw [nines_ms.len, ← nine_count]; exact hl
  rw [take_snoc hl2, ← ms_row h hi, List.getD_eq_getElem?_getD, List.getElem?_eq_getElem hl2]
  rfl
theorem ms9_all {i : Nat} (h : 840 ≤ i) : ms9.take i = ms9 := List.take_of_length_le (by rw [nines_ms.len]; exact h)
section
variable {P : Program} {N : Nat} {w0 w : World} {Q : Exit → Act → World → Prop} {σ : Sig} {H H' Hs : List Assn} {ops : Array Oper} {T iT : TypeId} {sb most : Nat} {ns : List Nat} {l : List (List Int)}
theorem D.famK {effs done : List Nat} (hall : (done.all fun i => effs.contains i) = true) (h : ∀ lA lk hA hk nA nk fA fk, D P N w0 ops Q effs done σ
      (Blk sb [.slice lA (lowL ns).length lk, .slice hA (highL ns).length hk, .slice nA ns.length nk, .int .i64 (most : Int), .int .i64 (l.length : Int), .slice fA (l.headD []).length fk] T :: Own iT N64 lA lk (lowL ns) :: Own iT N64 hA hk (highL ns) :: Own iT N64 nA nk ns :: Own iT I64 fA fk (l.headD []) :: H)
      (Blk sb [.slice lA (lowL ns).length lk, .slice hA (highL ns).length hk, .slice nA ns.length nk, .int .i64 (most : Int), .int .i64 (l.length : Int), .slice fA (l.headD []).length fk] T :: Own iT N64 lA lk (lowL ns) :: Own iT N64 hA hk (highL ns) :: Own iT N64 nA nk ns :: Own iT I64 fA fk (l.headD []) :: H)) : D P N w0 ops Q effs done σ Hs (FamK T iT sb most ns l :: H) := by
  intro fuel L a w hI hf
  obtain ⟨a1, a2, a3, a4, a5, a6, a7, a8, h3⟩ := FamK.elim hI.st
  exact h a1 a2 a3 a4 a5 a6 a7 a8 fuel L a w ⟨hI.size, h3, hI.defers, hI.tmps, hI.listed, hI.effs_, hI.slots, fun i hi => .inl (by simpa using List.all_eq_true.1 hall i hi), fun _ h => h, hI.strict, hI.clos⟩ hf
end
end Go.Vc
/-
  Plain words: the order of families, and what a large set with a system is.
-/
namespace Go.Vc
theorem cmpL_pre (p a b : List Int) : cmpL (p ++ a) (p ++ b) = cmpL a b := by
  induction p with
  | nil => rfl
  | cons x p ih =>
    simp only [List.cons_append, cmpL]
    rw [if_neg (by omega), if_neg (by omega)]
    exact ih
section
variable {ms : List Nat}
theorem famT_shape : ∀ k now D l, l ∈ famT ms k now D → ∃ t, l = now ++ t ∧ t.length = k := by
  intro k
  induction k with
  | zero =>
    intro now D l hl
    have h : l ∈ [now] := hl
    rw [List.mem_singleton] at h
    exact ⟨[], by simp [h], rfl⟩
  | succ k ih =>
    intro now D l hl
    obtain ⟨i, _, h⟩ := List.mem_flatMap.1 hl
    split at h
    · obtain ⟨t, h1, h2⟩ := ih _ _ _ h
      exact ⟨(i : Int) :: t, by rw [h1, List.append_assoc]; rfl, by simp [h2]⟩
    · simp at h
theorem famT_order : ∀ k now D, (famT ms k now D).Pairwise (fun a b => 0 < cmpL b a) := by
  intro k
  induction k with
  | zero => intro now D; exact List.pairwise_singleton _ _
  | succ k ih =>
    intro now D
    show ((List.range ms.length).flatMap _).Pairwise _
    rw [List.pairwise_flatMap]
    refine ⟨fun i _ => ?_, List.pairwise_lt_range.imp fun {i j} hij x hx y hy => ?_⟩
    · split
      · exact ih _ _
      · exact List.Pairwise.nil
    · split at hx
      · split at hy
        · obtain ⟨s, rfl, _⟩ := famT_shape _ _ _ _ hx
          obtain ⟨t, rfl, _⟩ := famT_shape _ _ _ _ hy
          rw [List.append_assoc, List.append_assoc, cmpL_pre]
          show 0 < cmpL ((j : Int) :: t) ((i : Int) :: s)
          unfold cmpL
          rw [if_neg (by omega), if_pos (by omega)]
          decide
        · simp at hy
      · simp at hx
theorem fam_rise (hn : Nines ms) : ∀ k now D, Fam k D → NowOk k now D → (∀ x ∈ now, 0 ≤ x ∧ x < 840) → ∀ l ∈ famT ms k now D, l.Pairwise (· < ·) ∧ ∀ x ∈ l, 0 ≤ x ∧ x < 840 := by
  intro k
  induction k with
  | zero =>
    intro now D _ hN hb l hl
    have h : l ∈ [now] := hl
    rw [List.mem_singleton] at h
    subst h
    exact ⟨hN.1, hb⟩
  | succ k ih =>
    intro now D hF hN hb l hl
    obtain ⟨i, hi, h⟩ := List.mem_flatMap.1 hl
    have hi := List.mem_range.1 hi
    have em : ms.getD i 0 = ms[i] := by simp [hi]
    have hl := hn.len
    split at h
    · rename_i hx
      rw [em] at hx h
      refine ih _ _ (Fam.step hn hF hi hx) (now_step hn hF hi hx hN) (fun x hx2 => ?_) l h
      rcases List.mem_append.1 hx2 with h1 | h1
      · exact hb x h1
      · rw [List.mem_singleton] at h1
        omega
    · simp at h
end
/-- The first of the families. -/
noncomputable def headF (bs : List B3) : List Int := (famL bs).headD []
theorem headF_mem {bs : List B3} (h : famL bs ≠ []) : headF bs ∈ famL bs := by
  unfold headF
  cases e : famL bs with
  | nil => exact absurd e h
  | cons x l => simp
theorem headF_ok {bs : List B3} (hm : bs ∈ compM 40 9 0) (h : famL bs ≠ []) : (headF bs).length = 6 ∧ (headF bs).Pairwise (· < ·) ∧ ∀ x ∈ headF bs, 0 ≤ x ∧ x < 840 := by
  have h1 := headF_mem h
  obtain ⟨t, h2, h3⟩ := famT_shape _ _ _ _ h1
  have h4 := fam_rise nines_ms 6 [] (mkF bs) (fam_of (mk_mem hm)) ⟨List.Pairwise.nil, fun _ x hx => by simp at hx⟩ (fun x hx => by simp at hx) _ h1
  exact ⟨by rw [h2]; simpa using h3, h4⟩
theorem famL_six {bs : List B3} {l : List Int} (h : l ∈ famL bs) : l.length = 6 := by
  unfold famL at h
  obtain ⟨t, h2, h3⟩ := famT_shape _ _ _ _ h
  rw [h2]
  simpa using h3
theorem famL_order (bs : List B3) : (famL bs).Pairwise (fun a b => 0 < cmpL b a) := by
  unfold famL
  exact famT_order _ _ _
theorem head_min {bs : List B3} {L : List (List Int)} (e : L = famL bs) {i : Nat} (hi : i < L.length) (h0 : 0 < L.length) (hpos : 0 < i) : ¬ cmpL L[i] L[0] < 0 := by
  have hp := famL_order bs
  rw [← e] at hp
  have h := List.pairwise_iff_getElem.1 hp 0 i h0 hi hpos
  omega
theorem first_headD {α : Type} {L : List α} {d : α} (h0 : 0 < L.length) : L[0] = L.headD d := by
  cases L with
  | nil => simp at h0
  | cons x l => rfl
theorem head_zero {bs : List B3} {L : List (List Int)} (e : L = famL bs) (h0 : 0 < L.length) : L[0] = headF bs := by
  unfold headF
  rw [first_headD (d := []) h0, e]
/-- The indices of a family. -/
noncomputable def headN (bs : List B3) : List Nat := (headF bs).map Int.toNat
theorem headN_ok {bs : List B3} (hm : bs ∈ compM 40 9 0) (h : famL bs ≠ []) : (headN bs).length = 6 ∧ (headN bs).Pairwise (· < ·) ∧ ∀ x ∈ headN bs, x < 840 := by
  obtain ⟨h1, h2, h3⟩ := headF_ok hm h
  refine ⟨by unfold headN; rw [List.length_map]; exact h1, ?_, fun x hx => ?_⟩
  · unfold headN
    rw [List.pairwise_map]
    refine List.Pairwise.imp_of_mem (fun {a b} ha hb hab => ?_) h2
    have := h3 a ha
    have := h3 b hb
    omega
  · unfold headN at hx
    obtain ⟨y, hy, rfl⟩ := List.mem_map.1 hx
    have := h3 y hy
    omega
theorem headN_at {bs : List B3} {l : List Int} {js : List Nat} (hl : l = headF bs) (hjs : js = headN bs) {i : Nat} (hi : i < l.length) (hj : i < js.length) : js[i] = (l[i]).toNat := by
  have e : js = l.map Int.toNat := by rw [hjs, hl]; rfl
  subst e
  exact List.getElem_map _
/-- What both LargeSetWith return. -/
noncomputable def lsR (v : Int) (bs : List B3) : List (List B3) × Int := if lfC v bs = 0 then (if famL bs = [] then ([], 4) else (bs :: (headN bs).map fun i => (compM 40 9 0).getD i [], 0)) else ([], lfC v bs)
theorem lsR_no {v : Int} {bs : List B3} (h : ¬ lfC v bs = 0) : lsR v bs = ([], lfC v bs) := if_neg h
theorem lsR_none {v : Int} {bs : List B3} (h : lfC v bs = 0) (h2 : famL bs = []) : lsR v bs = ([], 4) := by unfold lsR; rw [if_pos h, if_pos h2]
theorem lsR_yes {v : Int} {bs : List B3} (h : lfC v bs = 0) (h2 : famL bs ≠ []) : lsR v bs = (bs :: (headN bs).map fun i => (compM 40 9 0).getD i [], 0) := by unfold lsR; rw [if_pos h, if_neg h2]
end Go.Vc
/-
  The calculus, part 30: some of a list of systems; marks of systems with their numbers of points.
-/
namespace Go.Vc
open Go Go.RowKit
theorem pick_sub {α : Type} {ps : List α} {d : α} : ∀ (js : List Nat) (k : Nat), js.Pairwise (· < ·) → (∀ j ∈ js, k ≤ j ∧ j < ps.length) → (js.map fun j => ps.getD j d).Sublist (ps.drop k) := by
  intro js
  induction js with
  | nil => intro k _ _; exact List.nil_sublist _
  | cons j js ih =>
    intro k hp hj
    obtain ⟨h1, h2⟩ := List.pairwise_cons.1 hp
    have hjj := hj j (by simp)
    have h3 := ih (j + 1) h2 (fun i hi => ⟨h1 i hi, (hj i (by simp [hi])).2⟩)
    have e : ps.getD j d = ps[j]'hjj.2 := by simp [hjj.2]
    rw [List.map_cons, e]
    refine (List.Sublist.cons_cons _ h3).trans ?_
    rw [← List.drop_eq_getElem_cons hjj.2]
    exact (List.drop_suffix_drop_left ps hjj.1).sublist
section
variable {α : Type} {C : Cod α} {T T2 : TypeId} {w0 w : World} {H H' : List Assn}
theorem sub_list {A B : List Assn} (h : A.Sublist B) : Sub (B ++ H) (A ++ H) := by
  induction h with
  | slnil => exact Sub.refl _
  | cons x _ ih => exact Sub.drop ih
  | cons_cons x _ ih => exact Sub.keep 0 rfl ih
theorem RowsA.some {ps qs : List (Sl × List α)} (h : qs.Sublist ps) (hw : St w0 (RowsA T C ps :: H) w) : St w0 (RowsA T C qs :: H) w := St.rows.2 ((St.rows.1 hw).sub (sub_list (h.map _)))
def noRow : Sl × List α := (⟨none, 0, 0⟩, [])
/-- A list with one thing of its own, and with things out of a list behind it. -/
theorem St.picked {D : Cod Sl} {A B : Option Addr} {c d : Nat} {ps : List (Sl × List α)} {js : List Nat} {xs : List α} {ts : List Sl} (hj : js.Pairwise (· < ·)) (hlt : ∀ j ∈ js, j < ps.length)
    (hts : ts = tops ((⟨B, xs.length, d⟩, xs) :: js.map fun j => ps.getD j noRow)) (hw : St w0 (Own T2 D A c ts :: Own T C B d xs :: RowsA T C ps :: H) w) :
    St w0 (Own T2 D A c (tops ((⟨B, xs.length, d⟩, xs) :: js.map fun j => ps.getD j noRow)) :: RowsA T C ((⟨B, xs.length, d⟩, xs) :: js.map fun j => ps.getD j noRow) :: H) w := by
  subst hts
  have h1 : St w0 (RowsA T C ps :: Own T C B d xs :: Own T2 D A c (tops ((⟨B, xs.length, d⟩, xs) :: js.map fun j => ps.getD j noRow)) :: H) w := hw.sub (Sub.keep 2 rfl (Sub.keep 1 rfl (Sub.keep 0 rfl (Sub.refl _))))
  have h2 := RowsA.some (by have := pick_sub (ps := ps) (d := noRow) js 0 hj (fun j h => ⟨Nat.zero_le _, hlt j h⟩); rwa [List.drop_zero] at this) h1
  have h3 := RowsA.cons (h2.perm (List.Perm.swap _ _ _))
  exact h3.perm (List.Perm.swap _ _ _)
theorem conts_pick {ps : List (Sl × List α)} {js : List Nat} {L : List (List α)} (hL : conts ps = L) (hlt : ∀ j ∈ js, j < ps.length) : conts (js.map fun j => ps.getD j noRow) = js.map fun j => L.getD j [] := by
  subst hL
  unfold conts
  rw [List.map_map]
  refine List.map_congr_left fun j hj => ?_
  have h := hlt j hj
  simp [h]
end
theorem conts_cons {α : Type} {p : Sl × List α} {ps : List (Sl × List α)} : conts (p :: ps) = p.2 :: conts ps := rfl
theorem pick_at {α : Type} {ps : List (Sl × List α)} (hn : LenOk ps) {k : Nat} (hk : k < ps.length) : (ps.getD k noRow).1 = ⟨(ps[k]).1.A, (ps[k]).2.length, (ps[k]).1.c⟩ := by
  have h := (hn _ (List.getElem_mem hk)).1
  rw [List.getD_eq_getElem?_getD, List.getElem?_eq_getElem hk, Option.getD_some, ← h]
theorem row_getD {α : Type} {ps : List (Sl × List α)} {L : List (List α)} (hL : conts ps = L) {k : Nat} (hk : k < ps.length) : L.getD k [] = (ps[k]).2 := by
  subst hL
  simp [conts, hk]
/-! ### Marks of systems -/
/-- A system with its number of points. -/
def SyP : Cod (Int × Sl) := ⟨2, fun p => [.int .i64 p.1, p.2.v], by decide, fun _ => rfl, fun _ u hu => by simp at hu; rcases hu with rfl | rfl <;> rfl⟩
theorem Own.recodeP {α β : Type} {C : Cod α} {C2 : Cod β} {T : TypeId} {A : Option Addr} {c : Nat} {xs : List α} {ys : List β} (hz : C.sz = C2.sz) (hl : xs.length = ys.length) (hf : xs.flatMap C.enc = ys.flatMap C2.enc) : ∀ w F, (Own T C A c xs).P w F → (Own T C2 A c ys).P w F := by
  rintro w F ⟨h1, h2⟩
  rw [hz, hl, hf] at h1
  rw [hl] at h2
  exact ⟨h1, h2⟩
def sumB : List (Sl × List B3) → Nat
  | [] => 0
  | p :: r => 1 + 3 * p.2.length + sumB r
def mkT : Int → List (Sl × List B3) → List (Int × Sl)
  | _, [] => []
  | m, p :: r => (m, p.1) :: mkT (m + 1 + 3 * (p.2.length : Int)) r
def mkR : Int → List (Sl × List B3) → List (Sl × List B3)
  | _, [] => []
  | m, p :: r => (p.1, marksB (m + 1) p.2.length) :: mkR (m + 1 + 3 * (p.2.length : Int)) r
section
variable {ps : List (Sl × List B3)} {m v : Int} {k : Nat}
/-- The tops when k of the systems are marked. -/
def tS (v m : Int) (ps : List (Sl × List B3)) (k : Nat) : List (Int × Sl) := mkT m (ps.take k) ++ (ps.drop k).map fun p => (v, p.1)
end
section
variable {T : TypeId} {w0 w : World} {H H' : List Assn} {v : Int}
/-- Marked systems that are read. -/
structure RdP (m : Int) (w : World) (A : Option Addr) (ps : List (Sl × List B3)) : Prop where
  top : Rd SyP w A (mkT m ps)
  len : ∀ k (hk : k < ps.length), (ps[k]).1.n = (ps[k]).2.length
  row : ∀ k (hk : k < ps.length), Rd B3C w (ps[k]).1.A (marksB (m + (sumB (ps.take k) : Int) + 1) (ps[k]).2.length)
end
end Go.Vc
namespace Go.Vc
theorem one_none {α : Type} {L : List α} (h : (runC (fun j => decide (j < 1)) 0 L).length = 0) : L = [] := by
  cases L with
  | nil => rfl
  | cons x L => simp [runC] at h
theorem one_some {α : Type} {L : List α} (h : ¬ (runC (fun j => decide (j < 1)) 0 L).length = 0) : L ≠ [] := by
  rintro rfl
  exact h rfl
theorem one_head {α : Type} {L : List α} {d : α} : (runC (fun j => decide (j < 1)) 0 L).headD d = L.headD d := by
  cases L with
  | nil => rfl
  | cons x L => simp [runC]
end Go.Vc
namespace Go.Vc
theorem sumB_bd {K : Nat} : ∀ {ps : List (Sl × List B3)}, (∀ q ∈ conts ps, q.length ≤ K) → sumB ps ≤ (1 + 3 * K) * ps.length := by
  intro ps
  induction ps with
  | nil => intro _; simp [sumB]
  | cons p ps ih =>
    intro h
    have h1 := ih (fun q hq => h q (by rw [conts_cons]; exact List.mem_cons_of_mem _ hq))
    have h2 := h p.2 (by rw [conts_cons]; exact List.mem_cons_self)
    simp only [sumB, List.length_cons, Nat.mul_add, Nat.mul_one]
    omega
end Go.Vc
/-
  Plain words: a large set with a system is small.
-/
namespace Go.Vc
theorem getD_all {α : Type} {L : List α} {d : α} {j : Nat} (h : j < L.length) : L.getD j d ∈ L := by
  rw [List.getD_eq_getElem?_getD, List.getElem?_eq_getElem h]
  exact List.getElem_mem h
theorem lsR_each {v : Int} {bs : List B3} : (lsR v bs).1.length ≤ 7 ∧ ∀ q ∈ (lsR v bs).1, q.length ≤ 40 := by
  by_cases h : lfC v bs = 0
  · by_cases h2 : famL bs = []
    · rw [lsR_none h h2]; exact ⟨by decide, fun q hq => by simp at hq⟩
    · have hm := (lf_zero h).2.2
      rw [lsR_yes h h2]
      obtain ⟨h3, _, h5⟩ := headN_ok hm h2
      refine ⟨?_, fun q hq => ?_⟩
      · show (List.map _ _).length + 1 ≤ 7
        rw [List.length_map, h3]
        decide
      · rcases List.mem_cons.1 hq with rfl | hq
        · exact compM_len 40 9 0 _ hm
        · obtain ⟨j, hj, e⟩ := List.mem_map.1 hq
          have hl : j < (compM 40 9 0).length := by rw [nine_count]; exact h5 j hj
          rw [← e]
          exact compM_len 40 9 0 _ (getD_all hl)
  · rw [lsR_no h]; exact ⟨Nat.zero_le _, fun q hq => by simp at hq⟩
theorem lsR_small {v : Int} {bs : List B3} {ps : List (Sl × List B3)} (h : conts ps = (lsR v bs).1) : sumB ps ≤ 847 ∧ ps.length ≤ 7 := by
  obtain ⟨h1, h2⟩ := lsR_each (v := v) (bs := bs)
  rw [← h] at h1 h2
  rw [conts_len] at h1
  have h3 := sumB_bd h2
  exact ⟨by omega, h1⟩
theorem lsR_rows {v : Int} {bs : List B3} {ps : List (Sl × List B3)} (h : conts ps = (lsR v bs).1) : ∀ i (hi : i < ps.length), (ps[i]).2.length ≤ 1000 := by
  intro i hi
  have h2 := (lsR_each (v := v) (bs := bs)).2 (ps[i]).2 (by rw [← h]; exact List.mem_map_of_mem (List.getElem_mem hi))
  omega
end Go.Vc
/-
  Plain words: the trade of a Pasch.
-/
namespace Go.Vc
/-- The first point, and the points that are in no block with it. -/
def ptA (fs : List B3) : Int := (fs.headD (0, 0, 0)).1
def PtC (fs : List B3) (p : Int) : Prop := p ≠ ptA fs ∧ (∃ c ∈ fs, has c p) ∧ ¬ ∃ c ∈ fs, has c p ∧ has c (ptA fs)
noncomputable instance (fs : List B3) : DecidablePred (PtC fs) := fun _ => Classical.propDecidable _
/-- The last number with a property, -1 if there is none. -/
def lastP (C : Int → Prop) [DecidablePred C] : Nat → Int
  | 0 => -1
  | n + 1 => if C (n : Int) then (n : Int) else lastP C n
noncomputable def ptB (n : Nat) (fs : List B3) : Int := lastP (PtC fs) n
def lastL (C : Int → Prop) [DecidablePred C] (l : List Int) : Int := l.foldl (fun a p => if C p then p else a) (-1)
section
variable {C : Int → Prop} [DecidablePred C] {n : Nat}
end
/-! ### The points of a list -/
def ptsN (ps : List Int) (n : Nat) : List Int := ((List.range n).filter fun k : Nat => decide (0 < cN ps (k : Int))).map fun k : Nat => (k : Int)
section
variable {ps : List Int} {n : Nat}
/-- How often each point is there. -/
def cntV (ps : List Int) (n : Nat) : List Int := (List.range n).map fun k : Nat => cN ps (k : Int)
end
/-! ### The point that is in no block with the first one -/
section
variable {v : Int} {A B C D X Y Z : B3}
end
/-- The blocks that come for those of a Pasch, in order. -/
noncomputable def insT (n : Nat) (fs : List B3) : List B3 := Classical.epsilon fun i => i.Perm (fs.map (exB (ptA fs) (ptB n fs))) ∧ SrtB i
theorem insT_eq {n : Nat} {fs i : List B3} (h : i.Perm (fs.map (exB (ptA fs) (ptB n fs))) ∧ SrtB i) : i = insT n fs := by
  have h2 : (insT n fs).Perm (fs.map (exB (ptA fs) (ptB n fs))) ∧ SrtB (insT n fs) := Classical.epsilon_spec (p := fun i => i.Perm (fs.map (exB (ptA fs) (ptB n fs))) ∧ SrtB i) ⟨i, h⟩
  exact srtB_unique h.2 h2.2 (h.1.trans h2.1.symm)
/-- The trade of four blocks, by their numbers. -/
noncomputable def trQ (v : Int) (bs : List B3) (q : List Int) : List B3 × List B3 := (q.map (blk bs), insT v.toNat (q.map (blk bs)))
def TRL (v : Int) (bs : List B3) (c : List (List B3 × List B3)) : Prop := (STS v bs → ∃ ls, IsList (PQ bs) ls ∧ c = ls.map (trQ v bs)) ∧ (¬ STS v bs → c = [])
theorem TRL.unique {v : Int} {bs : List B3} {c d : List (List B3 × List B3)} (h1 : TRL v bs c) (h2 : TRL v bs d) : c = d := by
  by_cases h : STS v bs
  · obtain ⟨l1, a1, rfl⟩ := h1.1 h
    obtain ⟨l2, a2, rfl⟩ := h2.1 h
    rw [IsList.unique a1 a2]
  · rw [h1.2 h, h2.2 h]
end Go.Vc
namespace Go.Vc
/-! ### Four blocks, counted -/
section
variable {v : Int} {fs : List B3}
end
/-! ### Exchanged points in a list -/
def exS (p q : Int) (l : List Int) (i : Nat) : List Int := (l.take i).map (sw2 p q) ++ l.drop i
section
variable {p q : Int} {l : List Int} {i : Nat}
end
end Go.Vc
namespace Go.Vc
end Go.Vc
namespace Go.Vc
/-- None of the first k blocks has both points. -/
def apB (fs : List B3) (a q : Int) (k : Nat) : Bool := (fs.take k).all fun c => !(decide (has c a) && decide (has c q))
section
variable {fs : List B3} {a q : Int} {k : Nat}
end
end Go.Vc
namespace Go.Vc
end Go.Vc
namespace Go.Vc
theorem srt_some : ∀ l : List B3, ∃ i, i.Perm l ∧ SrtB i := by
  intro l
  induction l with
  | nil => exact ⟨[], List.Perm.refl _, List.Pairwise.nil⟩
  | cons b l ih =>
    obtain ⟨i, hp, hs⟩ := ih
    have h0 := List.filter_append_perm (fun x => decide (leB x b)) i
    refine ⟨i.filter (fun x => decide (leB x b)) ++ b :: i.filter (fun x => !decide (leB x b)), (List.perm_middle.trans ((h0.trans hp).cons b)), ?_⟩
    unfold SrtB
    rw [List.pairwise_append, List.pairwise_cons]
    have h1 : ∀ x ∈ i.filter (fun x => decide (leB x b)), leB x b := fun x hx => of_decide_eq_true (List.mem_filter.1 hx).2
    have h2 : ∀ x ∈ i.filter (fun x => !decide (leB x b)), leB b x := fun x hx => by
      have h := (List.mem_filter.1 hx).2
      have h3 : ¬ leB x b := by simpa using h
      unfold leB at h3 ⊢
      unfold B3.lt at *
      omega
    exact ⟨hs.sublist List.filter_sublist, ⟨h2, hs.sublist List.filter_sublist⟩, fun x hx y hy => by
      rcases List.mem_cons.1 hy with rfl | hy
      · exact h1 x hx
      · exact leB_trans (h1 x hx) (h2 y hy)⟩
theorem insT_len {n : Nat} {fs : List B3} : (insT n fs).length = fs.length := by
  obtain ⟨i, h⟩ := srt_some (fs.map (exB (ptA fs) (ptB n fs)))
  rw [← insT_eq h, h.1.length_eq, List.length_map]
theorem TRL.small {v : Int} {bs : List B3} {c : List (List B3 × List B3)} (h : TRL v bs c) : ∀ q ∈ c, q.1.length ≤ 4 ∧ q.2.length ≤ 4 := by
  intro q hq
  by_cases hS : STS v bs
  · obtain ⟨ls, hl, rfl⟩ := h.1 hS
    obtain ⟨r, hr, rfl⟩ := List.mem_map.1 hq
    have h4 := ((hl.2 r).1 hr).four
    unfold trQ
    dsimp only
    rw [insT_len, List.length_map]
    omega
  · rw [h.2 hS] at hq
    simp at hq
end Go.Vc
/-
  The calculus, part 31: lists of trades, and their marks.
-/
namespace Go.Vc
open Go Go.RowKit
/-- A trade with v points: the slices of its two lists. -/
def TrC (v : Int) : Cod (Sl × Sl) := ⟨3, fun s => [.int .i64 v, s.1.v, s.2.v], by decide, fun _ => rfl, fun _ u hu => by simp at hu; rcases hu with rfl | rfl | rfl <;> rfl⟩
def TrP : Cod (Int × Sl × Sl) := ⟨3, fun p => [.int .i64 p.1, p.2.1.v, p.2.2.v], by decide, fun _ => rfl, fun _ u hu => by simp at hu; rcases hu with rfl | rfl | rfl <;> rfl⟩
abbrev TrL : Type := List ((Sl × List B3) × (Sl × List B3))
def topT (ts : TrL) : List (Sl × Sl) := ts.map fun t => (t.1.1, t.2.1)
def outT (ts : TrL) : List (Sl × List B3) := ts.map fun t => t.1
def innT (ts : TrL) : List (Sl × List B3) := ts.map fun t => t.2
def contT (ts : TrL) : List (List B3 × List B3) := ts.map fun t => (t.1.2, t.2.2)
theorem topT_len (ts : TrL) : (topT ts).length = ts.length := List.length_map ..
section
variable {T tT : TypeId} {w0 w : World} {H H' H2 : List Assn} {v : Int}
/-- The lists of trades: each owned, apart. -/
def TrsA (T : TypeId) (ts : TrL) : Assn := .sep (RowsA T B3C (outT ts)) (RowsA T B3C (innT ts))
theorem TrsA.close {ts : TrL} (hw : St w0 (RowsA T B3C (outT ts) :: RowsA T B3C (innT ts) :: H) w) : St w0 (TrsA T ts :: H) w := hw.unsep
theorem TrsA.nil (hw : St w0 H w) : St w0 (TrsA T [] :: H) w := TrsA.close (RowsA.nil (RowsA.nil hw))
/-- A list of trades that is read. -/
structure RdT (v : Int) (w : World) (A : Option Addr) (ts : TrL) : Prop where
  top : Rd (TrC v) w A (topT ts)
  lo : ∀ k (hk : k < ts.length), (ts[k]).1.1.n = (ts[k]).1.2.length
  li : ∀ k (hk : k < ts.length), (ts[k]).2.1.n = (ts[k]).2.2.length
  ro : ∀ k (hk : k < ts.length), Rd B3C w (ts[k]).1.1.A (ts[k]).1.2
  ri : ∀ k (hk : k < ts.length), Rd B3C w (ts[k]).2.1.A (ts[k]).2.2
theorem RdT.nil (w : World) (A : Option Addr) : RdT v w A [] := ⟨Rd.nil _ _ _, fun k hk => by simp at hk, fun k hk => by simp at hk, fun k hk => by simp at hk, fun k hk => by simp at hk⟩
theorem RdT.below {A : Option Addr} {ts : TrL} (h : RdT v w0 A ts) (hb : Bel w0.heap.size w0 w) : RdT v w A ts := ⟨h.top.below hb, h.lo, h.li, fun k hk => (h.ro k hk).below hb, fun k hk => (h.ri k hk).below hb⟩
/-- A trade that is read whole. -/
theorem Ld.rowT {A : Option Addr} {ts : TrL} (h : ∀ w, St w0 H w → RdT v w A ts) {k s : Nat} (hk : k < ts.length) (hs : s = 3) :
    ∀ w, St w0 H w → ∃ q, A.map (·.add (k * s)) = some q ∧ ∀ m u, ([.int .i64 v, .slice (ts[k]).1.1.A (ts[k]).1.2.length (ts[k]).1.1.c, .slice (ts[k]).2.1.A (ts[k]).2.2.length (ts[k]).2.1.c] : List Value)[m]? = some u → w.cell? (q.add m) = some u := by
  intro w hw
  have hk' : k < (topT ts).length := by rw [topT_len]; exact hk
  obtain ⟨q, h1, h2⟩ := Ld.rds (C := TrC v) (fun w hw => (h w hw).top) hk' (s := s) hs w hw
  refine ⟨q, h1, fun m u hm => h2 m u ?_⟩
  have e : (topT ts)[k] = ((ts[k]).1.1, (ts[k]).2.1) := List.getElem_map ..
  rw [e]
  simp only [TrC, Sl.v, (h w hw).lo k hk, (h w hw).li k hk]
  exact hm
end
/-! ### Marks -/
def sumT : TrL → Nat
  | [] => 0
  | t :: r => 1 + 3 * t.1.2.length + 3 * t.2.2.length + sumT r
def mkTT : Int → TrL → List (Int × Sl × Sl)
  | _, [] => []
  | m, t :: r => (m, t.1.1, t.2.1) :: mkTT (m + 1 + 3 * (t.1.2.length : Int) + 3 * (t.2.2.length : Int)) r
def mkTO : Int → TrL → List (Sl × List B3)
  | _, [] => []
  | m, t :: r => (t.1.1, marksB (m + 1) t.1.2.length) :: mkTO (m + 1 + 3 * (t.1.2.length : Int) + 3 * (t.2.2.length : Int)) r
def mkTN : Int → TrL → List (Sl × List B3)
  | _, [] => []
  | m, t :: r => (t.2.1, marksB (m + 1 + 3 * (t.1.2.length : Int)) t.2.2.length) :: mkTN (m + 1 + 3 * (t.1.2.length : Int) + 3 * (t.2.2.length : Int)) r
section
variable {ts : TrL} {m v : Int} {k : Nat}
/-- The tops when k of the trades are marked. -/
def tT (v m : Int) (ts : TrL) (k : Nat) : List (Int × Sl × Sl) := mkTT m (ts.take k) ++ (ts.drop k).map fun t => (v, t.1.1, t.2.1)
end
section
variable {T : TypeId} {w0 w : World} {H H' : List Assn} {v : Int}
/-- Marked trades that are read. -/
structure RdM (m : Int) (w : World) (A : Option Addr) (ts : TrL) : Prop where
  top : Rd TrP w A (mkTT m ts)
  lo : ∀ k (hk : k < ts.length), (ts[k]).1.1.n = (ts[k]).1.2.length
  li : ∀ k (hk : k < ts.length), (ts[k]).2.1.n = (ts[k]).2.2.length
  ro : ∀ k (hk : k < ts.length), Rd B3C w (ts[k]).1.1.A (marksB (m + (sumT (ts.take k) : Int) + 1) (ts[k]).1.2.length)
  ri : ∀ k (hk : k < ts.length), Rd B3C w (ts[k]).2.1.A (marksB (m + (sumT (ts.take k) : Int) + 1 + 3 * ((ts[k]).1.2.length : Int)) (ts[k]).2.2.length)
end
end Go.Vc
namespace Go.Vc
open Go Go.RowKit
section
variable {T : TypeId} {w0 w : World} {H : List Assn} {ts : TrL} {k : Nat} {qs : List (Sl × List B3)}
theorem sumT_bd {K : Nat} : ∀ {ts : TrL}, (∀ q ∈ contT ts, q.1.length ≤ K ∧ q.2.length ≤ K) → sumT ts ≤ (1 + 6 * K) * ts.length := by
  intro ts
  induction ts with
  | nil => intro _; simp [sumT]
  | cons t ts ih =>
    intro h
    have h1 := ih (fun q hq => h q (List.mem_cons_of_mem _ hq))
    have h2 := h (t.1.2, t.2.2) (by unfold contT; rw [List.map_cons]; exact List.mem_cons_self)
    dsimp only at h2
    simp only [sumT, List.length_cons, Nat.mul_add, Nat.mul_one]
    omega
end
end Go.Vc
/-
  Plain words: lists of the trades of Pasch are not long.
-/
namespace Go.Vc
open Go Go.RowKit
theorem TRL.rows {v : Int} {bs : List B3} {ts : TrL} (h : TRL v bs (contT ts)) : ∀ k (hk : k < ts.length), (ts[k]).1.2.length ≤ 1000 ∧ (ts[k]).2.2.length ≤ 1000 := by
  intro k hk
  have hm : ((ts[k]).1.2, (ts[k]).2.2) ∈ contT ts := List.mem_map_of_mem (f := fun t : (Sl × List B3) × (Sl × List B3) => (t.1.2, t.2.2)) (List.getElem_mem hk)
  have h1 := h.small _ hm
  dsimp only at h1
  omega
theorem TRL.sum {v : Int} {bs : List B3} {ts : TrL} (h : TRL v bs (contT ts)) (hl : ts.length ≤ 1500625) : sumT ts ≤ 37515625 := by
  have h1 := sumT_bd h.small
  omega
section
variable {T tT : TypeId} {w0 w : World} {H : List Assn} {v : Int}
end
end Go.Vc
/-
  Plain words: turned systems are systems, and turn back.
-/
namespace Go.Vc
section
variable {v : Int} {bs r : List B3}
theorem sts_of (lo : 3 ≤ v) (hi : v ≤ 15) (few : bs.length ≤ 35) (hg : ∀ b ∈ bs, good v b) (hlt : bs.Pairwise B3.lt) (hc : ∀ a ∈ bs, ∀ b ∈ bs, a ≠ b → common a b ≤ 1) : STS v bs := by
  have key := List.pairwise_iff_getElem.1 hlt
  refine ⟨lo, hi, few, fun i h _ => ⟨hg _ (List.getElem_mem h), fun j hj e => key j i hj h (by omega)⟩, fun i h _ j hj hji => hc _ (List.getElem_mem h) _ (List.getElem_mem hj) ?_⟩
  intro e
  have := key j i hj h hji
  rw [e] at this
  unfold B3.lt at this
  omega
theorem sts_pairs (h : STS v bs) {a b : B3} (ha : a ∈ bs) (hb : b ∈ bs) (hne : a ≠ b) : common a b ≤ 1 := by
  obtain ⟨i, hi, rfl⟩ := List.getElem_of_mem ha
  obtain ⟨j, hj, rfl⟩ := List.getElem_of_mem hb
  have hij : i ≠ j := fun e => hne (by subst e; rfl)
  have t3 := (h.good _ (List.getElem_mem hj)).three
  have gi := h.good _ (List.getElem_mem hi)
  unfold good at gi
  have e1 : has bs[i] bs[i].1 := .inl rfl
  have e2 : has bs[i] bs[i].2.1 := .inr (.inl rfl)
  have e3 : has bs[i] bs[i].2.2 := .inr (.inr rfl)
  exact (common_le t3).2 ⟨fun q => hij (h.two hi hj (by omega) e1 e2 q.1 q.2), fun q => hij (h.two hi hj (by omega) e1 e3 q.1 q.2), fun q => hij (h.two hi hj (by omega) e2 e3 q.1 q.2)⟩
theorem lt_of_srt (hs : SrtB r) (hn : r.Nodup) : r.Pairwise B3.lt := by
  refine (hs.and hn).imp fun {a b} h => ?_
  obtain ⟨h1, h2⟩ := h
  apply Decidable.byContradiction
  intro h3
  exact h2 (leB_anti h1 h3)
end
/-! ### Turning -/
/-- A block, turned: in order again. -/
def turnE (v k : Int) (b : B3) : B3 :=
  if b.2.2 + k < v then (b.1 + k, b.2.1 + k, b.2.2 + k)
  else if b.2.1 + k < v then (b.2.2 + k - v, b.1 + k, b.2.1 + k)
  else if b.1 + k < v then (b.2.1 + k - v, b.2.2 + k - v, b.1 + k)
  else (b.1 + k - v, b.2.1 + k - v, b.2.2 + k - v)
section
variable {v k : Int} {b c : B3} {bs r s : List B3}
theorem emod_tau {x : Int} (hx : 0 ≤ x ∧ x < v) (hk : 0 ≤ k ∧ k < v) : (x + k) % v = if x + k < v then x + k else x + k - v := by
  by_cases h : x + k < v
  · rw [if_pos h]; exact Int.emod_eq_of_lt (by omega) h
  · rw [if_neg h]
    have e : x + k = (x + k - v) + v := by omega
    rw [e, Int.add_emod_right, Int.emod_eq_of_lt (by omega) (by omega)]
    omega
theorem turn_at {x : Int} (hx : 0 ≤ x ∧ x < v) (hk : 0 ≤ k ∧ k < v) : (turnL v k v.toNat).getD x.toNat 0 = if x + k < v then x + k else x + k - v := by
  have hl : x.toNat < (turnL v k v.toNat).length := by rw [turnL_len]; omega
  rw [getD_at hl]
  simp only [turnL, List.getElem_map, List.getElem_range]
  rw [show ((x.toNat : Nat) : Int) = x by omega]
  exact emod_tau hx hk
theorem ren_turn (hg : good v b) (hk : 0 ≤ k ∧ k < v) : renB (turnL v k v.toNat) b = turnE v k b := by
  unfold good at hg
  unfold renB
  rw [turn_at (by omega) hk, turn_at (by omega) hk, turn_at (by omega) hk]
  unfold turnE bk3 mi3 lo3 hi3
  by_cases h3 : b.2.2 + k < v
  · rw [if_pos h3, if_pos h3, if_pos (show b.2.1 + k < v by omega), if_pos (show b.1 + k < v by omega)]
    refine Prod.ext ?_ (Prod.ext ?_ ?_) <;> dsimp only <;> omega
  · rw [if_neg h3, if_neg h3]
    by_cases h2 : b.2.1 + k < v
    · rw [if_pos h2, if_pos h2, if_pos (show b.1 + k < v by omega)]
      refine Prod.ext ?_ (Prod.ext ?_ ?_) <;> dsimp only <;> omega
    · rw [if_neg h2, if_neg h2]
      by_cases h1 : b.1 + k < v
      · rw [if_pos h1, if_pos h1]
        refine Prod.ext ?_ (Prod.ext ?_ ?_) <;> dsimp only <;> omega
      · rw [if_neg h1, if_neg h1]
        refine Prod.ext ?_ (Prod.ext ?_ ?_) <;> dsimp only <;> omega
theorem turnE_good (hg : good v b) (hk : 0 ≤ k ∧ k < v) : good v (turnE v k b) := by
  unfold good at hg
  unfold turnE
  split
  · unfold good; dsimp only; omega
  · split
    · unfold good; dsimp only; omega
    · split
      · unfold good; dsimp only; omega
      · unfold good; dsimp only; omega
theorem turnE_back (hg : good v b) (hk : 0 < k ∧ k < v) : turnE v (v - k) (turnE v k b) = b := by
  unfold good at hg
  obtain ⟨x, y, z⟩ := b
  dsimp only at hg
  unfold turnE
  dsimp only
  by_cases h3 : z + k < v
  · simp only [h3, if_true]
    rw [if_neg (by omega), if_neg (by omega), if_neg (by omega)]
    refine Prod.ext ?_ (Prod.ext ?_ ?_) <;> dsimp only <;> omega
  · simp only [h3, if_false]
    by_cases h2 : y + k < v
    · simp only [h2, if_true]
      rw [if_neg (by omega), if_neg (by omega), if_pos (by omega)]
      refine Prod.ext ?_ (Prod.ext ?_ ?_) <;> dsimp only <;> omega
    · simp only [h2, if_false]
      by_cases h1 : x + k < v
      · simp only [h1, if_true]
        rw [if_neg (by omega), if_pos (by omega)]
        refine Prod.ext ?_ (Prod.ext ?_ ?_) <;> dsimp only <;> omega
      · simp only [h1, if_false]
        rw [if_pos (by omega)]
        refine Prod.ext ?_ (Prod.ext ?_ ?_) <;> dsimp only <;> omega
theorem turnE_zero (hg : good v b) : turnE v 0 b = b := by
  unfold good at hg
  unfold turnE
  rw [if_pos (by omega)]
  refine Prod.ext ?_ (Prod.ext ?_ ?_) <;> dsimp only <;> omega
theorem turnE_inj (hb : good v b) (hc : good v c) (hk : 0 ≤ k ∧ k < v) (h : turnE v k b = turnE v k c) : b = c := by
  by_cases h0 : k = 0
  · subst h0; rwa [turnE_zero hb, turnE_zero hc] at h
  · have e := congrArg (turnE v (v - k)) h
    rwa [turnE_back hb (by omega), turnE_back hc (by omega)] at e
theorem turnE_has (hg : good v b) (hk : 0 ≤ k ∧ k < v) {p : Int} : has (turnE v k b) p ↔ ∃ q, has b q ∧ p = if q + k < v then q + k else q + k - v := by
  unfold good at hg
  constructor
  · intro h
    have key : ∀ q, (q = b.1 ∨ q = b.2.1 ∨ q = b.2.2) → p = (if q + k < v then q + k else q + k - v) → ∃ q, has b q ∧ p = if q + k < v then q + k else q + k - v := by
      intro q hq hp
      exact ⟨q, by unfold has; omega, hp⟩
    unfold turnE at h
    split at h
    · unfold has at h; dsimp only at h
      rcases h with h | h | h
      · exact key b.1 (by omega) (by rw [if_pos (by omega)]; omega)
      · exact key b.2.1 (by omega) (by rw [if_pos (by omega)]; omega)
      · exact key b.2.2 (by omega) (by rw [if_pos (by omega)]; omega)
    · split at h
      · unfold has at h; dsimp only at h
        rcases h with h | h | h
        · exact key b.2.2 (by omega) (by rw [if_neg (by omega)]; omega)
        · exact key b.1 (by omega) (by rw [if_pos (by omega)]; omega)
        · exact key b.2.1 (by omega) (by rw [if_pos (by omega)]; omega)
      · split at h
        · unfold has at h; dsimp only at h
          rcases h with h | h | h
          · exact key b.2.1 (by omega) (by rw [if_neg (by omega)]; omega)
          · exact key b.2.2 (by omega) (by rw [if_neg (by omega)]; omega)
          · exact key b.1 (by omega) (by rw [if_pos (by omega)]; omega)
        · unfold has at h; dsimp only at h
          rcases h with h | h | h
          · exact key b.1 (by omega) (by rw [if_neg (by omega)]; omega)
          · exact key b.2.1 (by omega) (by rw [if_neg (by omega)]; omega)
          · exact key b.2.2 (by omega) (by rw [if_neg (by omega)]; omega)
  · rintro ⟨q, hq, rfl⟩
    unfold has at hq
    unfold turnE has
    split <;> (repeat' split) <;> dsimp only at * <;> omega
theorem has_rng {p : Int} (hg : good v b) (h : has b p) : 0 ≤ p ∧ p < v := by
  unfold good at hg
  unfold has at h
  omega
theorem turnE_common (hb : good v b) (hc : good v c) (hk : 0 ≤ k ∧ k < v) (h : common b c ≤ 1) : common (turnE v k b) (turnE v k c) ≤ 1 := by
  have h1 := (common_le hc.three).1 h
  have two : ∀ p q, p ≠ q → has b p → has b q → has c p → has c q → False := by
    intro p q hne hp hq hp2 hq2
    unfold has at hp hq
    rcases hp with rfl | rfl | rfl <;> rcases hq with rfl | rfl | rfl <;> first | exact hne rfl | exact h1.1 ⟨hp2, hq2⟩ | exact h1.1 ⟨hq2, hp2⟩ | exact h1.2.1 ⟨hp2, hq2⟩ | exact h1.2.1 ⟨hq2, hp2⟩ | exact h1.2.2 ⟨hp2, hq2⟩ | exact h1.2.2 ⟨hq2, hp2⟩
  have key : ∀ p q, p ≠ q → has (turnE v k b) p → has (turnE v k b) q → has (turnE v k c) p → has (turnE v k c) q → False := by
    intro p q hne a1 a2 a3 a4
    obtain ⟨p1, b1, e1⟩ := (turnE_has hb hk).1 a1
    obtain ⟨q1, b2, e2⟩ := (turnE_has hb hk).1 a2
    obtain ⟨p2, b3, e3⟩ := (turnE_has hc hk).1 a3
    obtain ⟨q2, b4, e4⟩ := (turnE_has hc hk).1 a4
    have r1 := has_rng hb b1
    have r2 := has_rng hb b2
    have r3 := has_rng hc b3
    have r4 := has_rng hc b4
    have f1 : p1 = p2 := by split at e1 <;> split at e3 <;> omega
    have f2 : q1 = q2 := by split at e2 <;> split at e4 <;> omega
    subst f1 f2
    exact two p1 q1 (fun e => hne (by rw [e1, e2, e])) b1 b2 b3 b4
  have gb := turnE_good hb hk
  have gc := turnE_good hc hk
  refine (common_le gc.three).2 ?_
  have e1 : has (turnE v k b) (turnE v k b).1 := .inl rfl
  have e2 : has (turnE v k b) (turnE v k b).2.1 := .inr (.inl rfl)
  have e3 : has (turnE v k b) (turnE v k b).2.2 := .inr (.inr rfl)
  unfold good at gb
  exact ⟨fun q => key _ _ (by omega) e1 e2 q.1 q.2, fun q => key _ _ (by omega) e1 e3 q.1 q.2, fun q => key _ _ (by omega) e2 e3 q.1 q.2⟩
theorem turnB_eq (h : STS v bs) (hk : 0 ≤ k ∧ k < v) : turnB v k bs = bs.map (turnE v k) := by
  unfold turnB
  exact List.map_congr_left fun b hb => ren_turn (h.good b hb) hk
/-- A turned system is one. -/
theorem TSR.sts (h : STS v bs) (hk : 0 ≤ k ∧ k < v) (ht : TSR v bs k r) : STS v r ∧ r.length = bs.length := by
  unfold TSR at ht
  rw [if_pos ⟨h, hk.1, by omega⟩] at ht
  obtain ⟨hp, hs⟩ := ht
  rw [turnB_eq h hk] at hp
  have hl := hp.length_eq
  rw [List.length_map] at hl
  have hm : ∀ x ∈ r, ∃ b ∈ bs, turnE v k b = x := fun x hx => List.mem_map.1 (hp.mem_iff.1 hx)
  have hnb : (bs.map (turnE v k)).Nodup := by
    have hlt : bs.Pairwise B3.lt := List.pairwise_iff_getElem.2 fun i j hi hj hij => by
      have key : ∀ d, ∀ i (hi : i < bs.length), ∀ (hj : i + d + 1 < bs.length), B3.lt (bs[i]) (bs[i + d + 1]) := by
        intro d
        induction d with
        | zero => intro i hi hj; exact (h.ord (i + 1) hj (by omega)).2 i hi rfl
        | succ d ih =>
          intro i hi hj
          have h1 := ih i hi (by omega)
          have h2 := (h.ord (i + d + 1 + 1) (by omega) (by omega)).2 (i + d + 1) (by omega) rfl
          have h3 : B3.lt bs[i] bs[i + d + 1 + 1] := by unfold B3.lt at *; omega
          exact h3
      have h4 := key (j - i - 1) i hi (by omega)
      have e : i + (j - i - 1) + 1 = j := by omega
      simpa only [e] using h4
    unfold List.Nodup
    rw [List.pairwise_map]
    refine hlt.imp_of_mem fun {a b} ha hb hab e => ?_
    have := turnE_inj (h.good a ha) (h.good b hb) hk e
    subst this
    unfold B3.lt at hab
    omega
  have hn : r.Nodup := hp.nodup_iff.2 hnb
  refine ⟨sts_of h.lo h.hi (by rw [hl]; exact h.few) (fun x hx => ?_) (lt_of_srt hs hn) (fun x hx y hy hne => ?_), hl⟩
  · obtain ⟨b, hb, rfl⟩ := hm x hx
    exact turnE_good (h.good b hb) hk
  · obtain ⟨b, hb, rfl⟩ := hm x hx
    obtain ⟨c, hc, rfl⟩ := hm y hy
    exact turnE_common (h.good b hb) (h.good c hc) hk (sts_pairs h hb hc (fun e => hne (by rw [e])))
theorem sts_srt (h : STS v bs) : SrtB bs := by
  refine List.pairwise_iff_getElem.2 fun i j hi hj hij => ?_
  have key : ∀ d, ∀ i (hi : i < bs.length), ∀ (hj : i + d + 1 < bs.length), B3.lt (bs[i]) (bs[i + d + 1]) := by
    intro d
    induction d with
    | zero => intro i hi hj; exact (h.ord (i + 1) hj (by omega)).2 i hi rfl
    | succ d ih =>
      intro i hi hj
      have h1 := ih i hi (by omega)
      have h2 := (h.ord (i + d + 1 + 1) (by omega) (by omega)).2 (i + d + 1) (by omega) rfl
      have h3 : B3.lt bs[i] bs[i + d + 1 + 1] := by unfold B3.lt at *; omega
      exact h3
  have h4 := key (j - i - 1) i hi (by omega)
  have e : i + (j - i - 1) + 1 = j := by omega
  exact leB_of (by simpa only [e] using h4)
theorem back_code (hv : 0 < v) (hk : 0 ≤ k ∧ k < v) : (v - k) % v = if k = 0 then 0 else v - k := by
  by_cases h : k = 0
  · subst h; rw [if_pos rfl, Int.sub_zero, Int.emod_self]
  · rw [if_neg h]; exact Int.emod_eq_of_lt (by omega) (by omega)
/-- Turned back. -/
theorem TSR.back (h : STS v bs) (hk : 0 ≤ k ∧ k < v) (ht : TSR v bs k r) (hb : TSR v r ((v - k) % v) s) : s = bs := by
  have hr := TSR.sts h hk ht
  have hv : 0 < v := by omega
  have hk2 : 0 ≤ (v - k) % v ∧ (v - k) % v < v := ⟨Int.emod_nonneg _ (by omega), Int.emod_lt_of_pos _ hv⟩
  unfold TSR at ht hb
  rw [if_pos ⟨h, hk.1, by omega⟩] at ht
  rw [if_pos ⟨hr.1, hk2.1, by omega⟩] at hb
  obtain ⟨hp, _⟩ := ht
  obtain ⟨hp2, hs2⟩ := hb
  rw [turnB_eq h hk] at hp
  rw [turnB_eq hr.1 hk2] at hp2
  have h3 : s.Perm ((bs.map (turnE v k)).map (turnE v ((v - k) % v))) := hp2.trans (hp.map _)
  have e : (bs.map (turnE v k)).map (turnE v ((v - k) % v)) = bs := by
    rw [List.map_map]
    refine (List.map_congr_left fun b hb => ?_).trans (List.map_id bs)
    show turnE v ((v - k) % v) (turnE v k b) = id b
    have hg := h.good b hb
    rw [back_code hv hk]
    by_cases h0 : k = 0
    · subst h0; rw [if_pos rfl, turnE_zero hg, turnE_zero hg]; rfl
    · rw [if_neg h0, turnE_back hg (by omega)]; rfl
  rw [e] at h3
  exact srtB_unique hs2 (sts_srt h) h3
end
end Go.Vc
/-
  The calculus, part 32: lists of systems, each with its number of points.
-/
namespace Go.Vc
open Go Go.RowKit
abbrev PsL : Type := List (Int × Sl × List B3)
def topP (ps : PsL) : List (Int × Sl) := ps.map fun p => (p.1, p.2.1)
def rowP (ps : PsL) : List (Sl × List B3) := ps.map fun p => p.2
theorem topP_len (ps : PsL) : (topP ps).length = ps.length := List.length_map ..
theorem rowP_len (ps : PsL) : (rowP ps).length = ps.length := List.length_map ..
theorem topP_append (ps qs : PsL) : topP (ps ++ qs) = topP ps ++ topP qs := List.map_append ..
theorem rowP_append (ps qs : PsL) : rowP (ps ++ qs) = rowP ps ++ rowP qs := List.map_append ..
/-- Systems with one number of points. -/
def withV (v : Int) (ps : List (Sl × List B3)) : PsL := ps.map fun p => (v, p.1, p.2)
theorem withV_len (v : Int) (ps : List (Sl × List B3)) : (withV v ps).length = ps.length := List.length_map ..
theorem withV_rows (v : Int) (ps : List (Sl × List B3)) : rowP (withV v ps) = ps := by
  unfold rowP withV
  rw [List.map_map]
  exact List.map_id _
theorem withV_at {v : Int} {ps : List (Sl × List B3)} {k : Nat} (h : k < ps.length) (h1 : k < (withV v ps).length) : (withV v ps)[k] = (v, (ps[k]).1, (ps[k]).2) := List.getElem_map ..
section
variable {T T2 : TypeId} {w0 w : World} {H H' H2 : List Assn} {v : Int} {ps : PsL}
structure RdPs (w : World) (A : Option Addr) (ps : PsL) : Prop where
  top : Rd SyP w A (topP ps)
  len : ∀ k (hk : k < ps.length), (ps[k]).2.1.n = (ps[k]).2.2.length
  row : ∀ k (hk : k < ps.length), Rd B3C w (ps[k]).2.1.A (ps[k]).2.2
theorem RdPs.below {A : Option Addr} (h : RdPs w0 A ps) (hb : Bel w0.heap.size w0 w) : RdPs w A ps := ⟨h.top.below hb, h.len, fun k hk => (h.row k hk).below hb⟩
theorem RdPs.st {A : Option Addr} (h : RdPs w0 A ps) (hw : St w0 H w) : RdPs w A ps := h.below hw.below
theorem RdPs.nil (w : World) (A : Option Addr) : RdPs w A [] := ⟨Rd.nil _ _ _, fun k hk => by simp at hk, fun k hk => by simp at hk⟩
theorem Ld.pss {A : Option Addr} {c : Nat} (i j : Nat) (hp : pull i H = some (Own T2 SyP A c (topP ps), H')) (hq : pull j H = some (RowsA T B3C (rowP ps), H2)) : ∀ w, St w0 H w → RdPs w A ps := by
  intro w hw
  have b : ∀ k, k < ps.length → k < (rowP ps).length := fun k hk => by rw [rowP_len]; exact hk
  have e : ∀ k (hk : k < ps.length), (rowP ps)[k]'(b k hk) = (ps[k]).2 := fun k hk => List.getElem_map ..
  refine ⟨Own.rd hw hp, fun k hk => ?_, fun k hk => ?_⟩
  · have h := (RowsA.len j hq w hw _ (List.getElem_mem (b k hk))).1
    rwa [e k hk] at h
  · have h := Ld.rows j hq (b k hk) w hw
    rwa [e k hk] at h
theorem RdY.toS {A : Option Addr} {qs : List (Sl × List B3)} (h : RdY v w A qs) : RdPs w A (withV v qs) := by
  refine ⟨?_, fun k hk => ?_, fun k hk => ?_⟩
  · intro k hk
    have hk1 : k < qs.length := by rw [topP_len, withV_len] at hk; exact hk
    obtain ⟨q, hq, hc⟩ := h.top k (by rw [tops_len]; exact hk1)
    refine ⟨q, hq, fun m u hm => hc m u ?_⟩
    have e1 : (topP (withV v qs))[k] = (v, (qs[k]).1) := by simp [topP, withV]
    have e2 : (tops qs)[k]'(by rw [tops_len]; exact hk1) = (qs[k]).1 := List.getElem_map ..
    rw [e1] at hm
    rw [e2]
    exact hm
  · rw [withV_len] at hk
    rw [withV_at hk]
    exact (h.len _ (List.getElem_mem hk)).1
  · rw [withV_len] at hk
    rw [withV_at hk]
    exact h.row k hk
/-- A system that is read whole. -/
theorem Ld.rowS {A : Option Addr} (h : ∀ w, St w0 H w → RdPs w A ps) {k s : Nat} (hk : k < ps.length) (hs : s = 2) :
    ∀ w, St w0 H w → ∃ q, A.map (·.add (k * s)) = some q ∧ ∀ m u, ([.int .i64 (ps[k]).1, .slice (ps[k]).2.1.A (ps[k]).2.2.length (ps[k]).2.1.c] : List Value)[m]? = some u → w.cell? (q.add m) = some u := by
  intro w hw
  have hk' : k < (topP ps).length := by rw [topP_len]; exact hk
  obtain ⟨q, h1, h2⟩ := Ld.rds (C := SyP) (fun w hw => (h w hw).top) hk' (s := s) hs w hw
  refine ⟨q, h1, fun m u hm => h2 m u ?_⟩
  have e : (topP ps)[k] = ((ps[k]).1, (ps[k]).2.1) := List.getElem_map ..
  rw [e]
  simp only [SyP, Sl.v, (h w hw).len k hk]
  exact hm
theorem Ld.rowSf {A : Option Addr} (h : ∀ w, St w0 H w → RdPs w A ps) {k s j : Nat} {u : Value} (hk : k < ps.length) (hs : s = 2) (hu : ([.int .i64 (ps[k]).1, .slice (ps[k]).2.1.A (ps[k]).2.2.length (ps[k]).2.1.c] : List Value)[j]? = some u) :
    ∀ w, St w0 H w → ∃ q, (A.map (·.add (k * s))).map (·.add j) = some q ∧ w.cell? q = some u := by
  intro w hw
  obtain ⟨q, h1, h2⟩ := Ld.rowS h hk hs w hw
  exact ⟨q.add j, by rw [h1]; rfl, h2 j u hu⟩
end
/-! ### Families -/
section
variable {ps : PsL}
def AllS (ps : PsL) : Prop := ∀ k (hk : k < ps.length), STS (ps[k]).1 (ps[k]).2.2
noncomputable def fmC (ps : PsL) : Int := by
  classical
  exact if AllS ps then (if 7 < ps.length then 2 else 0) else 1
/-- The first i are systems of nine points, full, and apart. -/
def FamU (ps : PsL) (i : Nat) : Prop := ∀ j (hj : j < ps.length), j < i → ((ps[j]).1 = 9 ∧ 6 * ((ps[j]).2.2.length : Int) = (ps[j]).1 * ((ps[j]).1 - 1)) ∧ ∀ k (hk : k < ps.length), k < j → ApartB (ps[j]).2.2 (ps[k]).2.2
noncomputable instance (ps : PsL) (i : Nat) : Decidable (FamU ps i) := Classical.propDecidable _
theorem fm_1 (h : ¬ AllS ps) : fmC ps = 1 := by unfold fmC; exact if_neg h
theorem fm_2 (h : AllS ps) (h2 : 7 < ps.length) : fmC ps = 2 := by unfold fmC; rw [if_pos h, if_pos h2]
theorem fm_0 (h : AllS ps) (h2 : ¬ 7 < ps.length) : fmC ps = 0 := by unfold fmC; rw [if_pos h, if_neg h2]
theorem famU_zero : FamU ps 0 := fun j _ h => by omega
theorem famU_succ {i : Nat} (h : FamU ps i) (hi : i < ps.length) (h9 : (ps[i]).1 = 9) (hf : 6 * ((ps[i]).2.2.length : Int) = (ps[i]).1 * ((ps[i]).1 - 1)) (ha : ∀ k (hk : k < ps.length), k < i → ApartB (ps[i]).2.2 (ps[k]).2.2) : FamU ps (i + 1) := by
  intro j hj hji
  by_cases e : j = i
  · subst e; exact ⟨⟨h9, hf⟩, ha⟩
  · exact h j hj (by omega)
end
end Go.Vc
namespace Go.Vc
open Go Go.RowKit
section
variable {T T2 : TypeId} {w0 w : World} {H : List Assn} {v : Int}
theorem ps_of {A : Option Addr} {c : Nat} {qs : List (Sl × List B3)} (hw : St w0 (Own T2 (SyC v) A c (tops qs) :: RowsA T B3C qs :: H) w) : St w0 (Own T2 SyP A c (topP (withV v qs)) :: RowsA T B3C (rowP (withV v qs)) :: H) w := by
  rw [withV_rows]
  refine St.mono (Own.recodeP (C := SyC v) (C2 := SyP) (xs := tops qs) rfl ?_ ?_) hw
  · rw [topP_len, withV_len, tops_len]
  · unfold tops topP withV
    rw [List.map_map, List.flatMap_map, List.flatMap_map]
    rfl
theorem ps_snoc {A B : Option Addr} {c d : Nat} {ps : PsL} {p : Int} {xs : List B3} (hw : St w0 (Own T2 SyP A c (topP ps ++ [(p, ⟨B, xs.length, d⟩)]) :: RowsA T B3C (rowP ps) :: Own T B3C B d xs :: H) w) :
    St w0 (Own T2 SyP A c (topP (ps ++ [(p, ⟨B, xs.length, d⟩, xs)])) :: RowsA T B3C (rowP (ps ++ [(p, ⟨B, xs.length, d⟩, xs)])) :: H) w := by
  rw [topP_append, rowP_append]
  have h1 : St w0 (Own T B3C B d xs :: RowsA T B3C (rowP ps) :: Own T2 SyP A c (topP ps ++ [(p, ⟨B, xs.length, d⟩)]) :: H) w := hw.sub (Sub.keep 2 rfl (Sub.keep 1 rfl (Sub.keep 0 rfl (Sub.refl _))))
  have h2 := RowsA.cons h1
  have h3 := RowsA.perm (List.perm_append_comm (l₁ := [(⟨B, xs.length, d⟩, xs)]) (l₂ := rowP ps)) h2
  exact h3.perm (List.Perm.swap _ _ _)
end
end Go.Vc
/-
  Plain words: a large set with a system is a family of seven.
-/
namespace Go.Vc
open Go Go.RowKit
theorem land_left {a b c : Nat} (h : a &&& (b ||| c) = 0) : a &&& b = 0 ∧ a &&& c = 0 := by
  rw [land_bits] at h
  refine ⟨land_bits.2 fun j hj => h j ⟨hj.1, ?_⟩, land_bits.2 fun j hj => h j ⟨hj.1, ?_⟩⟩
  · rw [Nat.testBit_or, hj.2]; rfl
  · rw [Nat.testBit_or, hj.2, Bool.or_true]
theorem fam_apart {ms : List Nat} : ∀ k now D l, l ∈ famT ms k now D → ∃ t : List Int, l = now ++ t ∧ (∀ x ∈ t, ms.getD x.toNat 0 &&& D = 0) ∧ t.Pairwise (fun x y => ms.getD y.toNat 0 &&& ms.getD x.toNat 0 = 0) := by
  intro k
  induction k with
  | zero =>
    intro now D l hl
    have h : l ∈ [now] := hl
    rw [List.mem_singleton] at h
    exact ⟨[], by simp [h], fun x hx => by simp at hx, List.Pairwise.nil⟩
  | succ k ih =>
    intro now D l hl
    obtain ⟨i, _, h⟩ := List.mem_flatMap.1 hl
    split at h
    · rename_i hx
      obtain ⟨t, h1, h2, h3⟩ := ih _ _ _ h
      refine ⟨(i : Int) :: t, by rw [h1, List.append_assoc]; rfl, fun x hx2 => ?_, List.pairwise_cons.2 ⟨fun y hy => ?_, h3⟩⟩
      · rcases List.mem_cons.1 hx2 with rfl | hx2
        · exact hx.2
        · exact (land_left (h2 x hx2)).1
      · exact (land_left (h2 y hy)).2
    · simp at h
theorem mkF_from {m : Nat} : ∀ (q : List B3) (m : Nat) {j : Nat}, m.testBit j = true → (q.foldl (fun m b => m ||| 2 ^ tix b) m).testBit j = true := by
  intro q
  induction q with
  | nil => intro m j h; exact h
  | cons b q ih =>
    intro m j h
    refine ih _ ?_
    rw [Nat.testBit_or, h]
    rfl
theorem mkF_bit {b : B3} : ∀ (q : List B3) (m : Nat), b ∈ q → (q.foldl (fun m b => m ||| 2 ^ tix b) m).testBit (tix b) = true := by
  intro q
  induction q with
  | nil => intro m h; simp at h
  | cons c q ih =>
    intro m h
    rcases List.mem_cons.1 h with rfl | h
    · refine mkF_from (m := 0) q _ ?_
      rw [Nat.testBit_or, Nat.testBit_two_pow_self, Bool.or_true]
    · exact ih _ h
theorem apart_of {q r : List B3} (h : mkF q &&& mkF r = 0) : ApartB q r := by
  intro b h1 h2
  exact land_bits.1 h (tix b) ⟨mkF_bit q 0 h1, mkF_bit r 0 h2⟩
theorem nine_sts {q : List B3} (h : q ∈ compM 40 9 0) : STS 9 q ∧ 6 * (q.length : Int) = 9 * (9 - 1) := by
  have h1 := all_sts (v := 9) (.inr (.inr rfl)) (q := q) h
  exact ⟨h1.1, h1.2.2⟩
/-- The systems of a large set, by their numbers. -/
theorem head_apart {bs : List B3} (h : famL bs ≠ []) : (∀ x ∈ headN bs, ms9.getD x 0 &&& mkF bs = 0) ∧ (headN bs).Pairwise (fun x y => ms9.getD y 0 &&& ms9.getD x 0 = 0) := by
  have h1 := headF_mem h
  obtain ⟨t, e, h2, h3⟩ := fam_apart _ _ _ _ h1
  have et : headF bs = t := by rw [e]; rfl
  unfold headN
  rw [et]
  refine ⟨fun x hx => ?_, ?_⟩
  · obtain ⟨y, hy, rfl⟩ := List.mem_map.1 hx
    exact h2 y hy
  · rw [List.pairwise_map]
    exact h3
section
variable {v : Int} {bs : List B3} {ps : List (Sl × List B3)}
theorem lsR_at (hc1 : lfC v bs = 0) (h : famL bs ≠ []) (hc : conts ps = (lsR v bs).1) : ps.length = 7 ∧ (∀ (h0 : 0 < ps.length), (ps[0]).2 = bs) ∧ (∀ k (hk : k < ps.length), (ps[k]).2 ∈ compM 40 9 0) ∧ (∀ j (hj : j < ps.length) k (hk : k < ps.length), k < j → ApartB (ps[j]).2 (ps[k]).2) := by
  have hm := (lf_zero hc1).2.2
  rw [lsR_yes hc1 h] at hc
  obtain ⟨n1, n2, n3⟩ := headN_ok hm h
  obtain ⟨a1, a2⟩ := head_apart h
  obtain ⟨js, ejs⟩ : ∃ js, js = headN bs := ⟨_, rfl⟩
  rw [← ejs] at hc n1 n2 n3 a1 a2
  have hl := conts_len ps
  rw [hc] at hl
  simp only [List.length_cons, List.length_map, n1] at hl
  have hat : ∀ k (hk : k < ps.length) (h2 : k < (bs :: js.map fun i => (compM 40 9 0).getD i []).length), (ps[k]).2 = (bs :: js.map fun i => (compM 40 9 0).getD i [])[k] := by
    intro k hk h2
    rw [← conts_get ps (by rw [conts_len]; exact hk)]
    exact List.getElem_of_eq hc _
  have hlen : (bs :: js.map fun i => (compM 40 9 0).getD i []).length = 7 := by simp [n1]
  have hmem : ∀ k (hk : k < js.length), (compM 40 9 0).getD js[k] [] ∈ compM 40 9 0 := fun k hk => getD_all (by rw [nine_count]; exact n3 _ (List.getElem_mem hk))
  have hmk : ∀ k (hk : k < js.length), mkF ((compM 40 9 0).getD js[k] []) = ms9.getD js[k] 0 := fun k hk => by
    have hb : js[k] < (compM 40 9 0).length := by rw [nine_count]; exact n3 _ (List.getElem_mem hk)
    rw [ms_at hb, List.getD_eq_getElem?_getD, List.getElem?_eq_getElem hb]
    rfl
  have row : ∀ k (hk : k < js.length) (h2 : k + 1 < ps.length), (ps[k + 1]).2 = (compM 40 9 0).getD js[k] [] := by
    intro k hk h2
    rw [hat (k + 1) h2 (by rw [hlen]; omega), List.getElem_cons_succ, List.getElem_map]
  have first : ∀ (h0 : 0 < ps.length), (ps[0]).2 = bs := fun h0 => by rw [hat 0 h0 (by rw [hlen]; decide)]; rfl
  refine ⟨by omega, first, fun k hk => ?_, fun j hj k hk hkj => ?_⟩
  · by_cases e : k = 0
    · subst e; rw [first hk]; exact hm
    · obtain ⟨i, rfl⟩ : ∃ i, k = i + 1 := ⟨k - 1, by omega⟩
      rw [row i (by omega) hk]
      exact hmem i (by omega)
  · obtain ⟨i, rfl⟩ : ∃ i, j = i + 1 := ⟨j - 1, by omega⟩
    refine apart_of ?_
    rw [row i (by omega) hj, hmk i (by omega)]
    by_cases e : k = 0
    · subst e
      rw [first hk]
      exact a1 _ (List.getElem_mem _)
    · obtain ⟨m, rfl⟩ : ∃ m, k = m + 1 := ⟨k - 1, by omega⟩
      rw [row m (by omega) hk, hmk m (by omega)]
      exact List.pairwise_iff_getElem.1 a2 m i (by omega) (by omega) (by omega)
/-- .. they are a family. -/
theorem lsR_fam (hc1 : lfC v bs = 0) (h : famL bs ≠ []) (hc : conts ps = (lsR v bs).1) : fmC (withV 9 ps) = 0 ∧ FamU (withV 9 ps) (withV 9 ps).length := by
  obtain ⟨h1, _, h3, h4⟩ := lsR_at hc1 h hc
  have hl := withV_len 9 ps
  refine ⟨fm_0 (fun k hk => ?_) (by omega), fun j hj _ => ⟨?_, fun k hk hkj => ?_⟩⟩
  · rw [withV_at (by omega)]
    exact (nine_sts (h3 k (by omega))).1
  · rw [withV_at (by omega)]
    exact ⟨rfl, (nine_sts (h3 j (by omega))).2⟩
  · rw [withV_at (by omega), withV_at (by omega)]
    exact h4 j (by omega) k (by omega) hkj
theorem lsR_cases : ((lsR v bs).2 = 0 ↔ lfC v bs = 0 ∧ famL bs ≠ []) ∧ (¬ (lsR v bs).2 = 0 → (lsR v bs).1 = []) := by
  by_cases h : lfC v bs = 0
  · by_cases h2 : famL bs = []
    · rw [lsR_none h h2]; exact ⟨⟨fun h3 => absurd h3 (by decide), fun h3 => absurd h2 h3.2⟩, fun _ => rfl⟩
    · rw [lsR_yes h h2]; exact ⟨⟨fun _ => ⟨h, h2⟩, fun _ => rfl⟩, fun h3 => absurd rfl h3⟩
  · rw [lsR_no h]; exact ⟨⟨fun h3 => absurd h3 h, fun h3 => absurd h3.1 h⟩, fun _ => rfl⟩
end
end Go.Vc
namespace Go.Vc
theorem mate_ok {v : Int} {bs : List B3} {r c : Int} (h : MTR v bs r c) (h0 : c = 0) : STS v bs ∧ 1 ≤ r ∧ r < v ∧ apT v bs r := by
  by_cases hS : STS v bs
  · rcases h.2 hS with ⟨a1, a2, a3, _, _⟩ | ⟨_, _, a3⟩
    · exact ⟨hS, a1, a2, a3⟩
    · rw [h0] at a3; exact absurd a3 (by decide)
  · have := (h.1 hS).2
    rw [h0] at this
    exact absurd this (by decide)
theorem turn_apart {v k : Int} {bs r : List B3} (h : STS v bs) (hk : 0 ≤ k ∧ k ≤ v - 1) (ht : TSR v bs k r) (ha : apT v bs k) : ApartB bs r := by
  unfold TSR at ht
  rw [if_pos ⟨h, hk⟩] at ht
  intro b hb hm
  exact ha b hb (ht.1.mem_iff.1 hm)
theorem turn_code {v k : Int} {bs : List B3} (h : (if STS v bs then if 0 ≤ k ∧ k ≤ v - 1 then (0 : Int) else 2 else 1) = 0) : STS v bs ∧ 0 ≤ k ∧ k ≤ v - 1 := by
  by_cases hS : STS v bs
  · rw [if_pos hS] at h
    by_cases hk : 0 ≤ k ∧ k ≤ v - 1
    · exact ⟨hS, hk⟩
    · rw [if_neg hk] at h; exact absurd h (by decide)
  · rw [if_neg hS] at h; exact absurd h (by decide)
theorem code_turn {v k : Int} {bs : List B3} (h : STS v bs) (hk : 0 ≤ k ∧ k ≤ v - 1) : (if STS v bs then if 0 ≤ k ∧ k ≤ v - 1 then (0 : Int) else 2 else 1) = 0 := by rw [if_pos h, if_pos hk]
end Go.Vc
