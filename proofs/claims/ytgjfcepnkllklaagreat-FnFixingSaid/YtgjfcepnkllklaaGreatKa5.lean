/-
  The calculus and plain words, part 5.
-/
import Derived.Test.YtgjfcepnkllklaaGreatKa4
set_option linter.unusedVariables false
set_option linter.unusedSimpArgs false
/-
  Plain words: spans: the least closed set that has some points.
-/
namespace Go.Vc
section
variable {v : Int} {bs : List B3} {s t u s0 : Nat} {d : B3} {x y z : Int}
/-- All points of s are in t. -/
def Inc (s t : Nat) : Prop := ∀ i, s.testBit i = true → t.testBit i = true
theorem Inc.refl (s : Nat) : Inc s s := fun _ h => h
theorem Inc.trans (h1 : Inc s t) (h2 : Inc t u) : Inc s u := fun i h => h2 i (h1 i h)
theorem Inc.antisymm (h1 : Inc s t) (h2 : Inc t s) : s = t := by
  apply Nat.eq_of_testBit_eq
  intro i
  cases h3 : s.testBit i with
  | true => exact (h1 i h3).symm
  | false =>
    cases h4 : t.testBit i with
    | false => rfl
    | true => rw [h2 i h4] at h3; cases h3
/-- A span on its way. -/
structure SpI (bs : List B3) (s0 s : Nat) : Prop where
  lt : s < 32768
  inc : Inc s0 s
  least : ∀ u, u < 32768 → Inc s0 u → Clo bs u → Inc s u
/-- A span. -/
structure SpanP (bs : List B3) (s0 t : Nat) : Prop extends SpI bs s0 t where
  clo : Clo bs t
theorem SpanP.unique (h1 : SpanP bs s0 s) (h2 : SpanP bs s0 t) : s = t := (h1.least t h2.lt h2.inc h2.clo).antisymm (h2.least s h1.lt h1.inc h1.clo)
theorem SpanP.again (h : SpanP bs s0 t) : SpanP bs t t := ⟨⟨h.lt, Inc.refl _, fun _ _ h _ => h⟩, h.clo⟩
/-- Each pair that was seen leads into the set. -/
def PrOk (bs : List B3) (s : Nat) (x y : Int) : Prop := tab bs x y = -1 ∨ s.testBit (tab bs x y).toNat = true
/-- A set of points, as a list. -/
def SetL (v : Int) (q : List Int) : Prop := q.Pairwise (· < ·) ∧ ∀ p ∈ q, 0 ≤ p ∧ p < v
theorem setL_pts {q : List Int} (h : SetL v q) (hv : v ≤ 15) : pts (maskL q) = q := by
  refine asc_ext (pts_lt _) h.1 fun z => ?_
  rw [mem_pts]
  constructor
  · rintro ⟨h0, h1, h2⟩
    have := (maskL_bit (fun p hp => (h.2 p hp).1) z.toNat).1 h2
    rwa [Int.toNat_of_nonneg h0] at this
  · intro hz
    have hb := h.2 z hz
    exact ⟨hb.1, by omega, (maskL_bit (fun p hp => (h.2 p hp).1) z.toNat).2 (by rwa [Int.toNat_of_nonneg hb.1])⟩
theorem maskL_pts' (hs : s < 32768) : maskL (pts s) = s := by
  refine pts_inj (maskL_lt fun p hp => ?_) hs (setL_pts (v := 15) ⟨pts_lt s, fun p hp => ?_⟩ (by decide))
  · obtain ⟨h1, h2, _⟩ := mem_pts.1 hp; exact ⟨h1, h2⟩
  · obtain ⟨h1, h2, _⟩ := mem_pts.1 hp; exact ⟨h1, h2⟩
noncomputable instance (v : Int) (q : List Int) : Decidable (SetL v q) := Classical.propDecidable _
/-- The code of a system and a set of points. -/
noncomputable def scode (v : Int) (bs : List B3) (q : List Int) : Int := if STS v bs then if SetL v q then 0 else 2 else 1
/-- What both SpanOf return. -/
def SpanL (v : Int) (bs : List B3) (q o : List Int) : Prop := (scode v bs q = 0 → ∃ t, SpanP bs (maskL q) t ∧ o = pts t) ∧ (¬ scode v bs q = 0 → o = [])
theorem SpanL.unique {q o p : List Int} (h1 : SpanL v bs q o) (h2 : SpanL v bs q p) : o = p := by
  by_cases h : scode v bs q = 0
  · obtain ⟨t, k1, rfl⟩ := h1.1 h
    obtain ⟨u, k2, rfl⟩ := h2.1 h
    rw [k1.unique k2]
  · rw [h1.2 h, h2.2 h]
theorem SpanL.len {q o : List Int} (h1 : SpanL v bs q o) : o.length ≤ 15 := by
  by_cases h : scode v bs q = 0
  · obtain ⟨t, k1, rfl⟩ := h1.1 h; exact pts_len t
  · rw [h1.2 h]; simp
/-! ### The rounds -/
def spM (s : Nat) (b : Bool) : Nat := 2 * (32768 - s) + if b then 1 else 0
/-- Within a round of the program: s is what has been reached, from sr. -/
structure RdI (bs : List B3) (s0 sr s : Nat) (b : Bool) (i j : Nat) : Prop where
  sp : SpI bs s0 s
  inc : Inc sr s
  up : b = true → sr < s
  eq : b = false → s = sr
  pr : b = false → ∀ k l, (hk : k < (pts sr).length) → (hl : l < (pts sr).length) → (k < i ∨ (k = i ∧ l < j)) → PrOk bs sr (pts sr)[k] (pts sr)[l]
section
variable {sr i j : Nat} {b : Bool}
/-- .. of the reference: block after block. -/
structure RdS (v : Int) (bs : List B3) (s0 sr s : Nat) (b : Bool) (i : Nat) : Prop where
  lt : s < 32768
  sp : STS v bs → SpI bs s0 s
  up : b = true → sr < s
  eq : b = false → s = sr
  pr : b = false → ∀ k, (hk : k < bs.length) → k < i → ¬ ones (bmask bs[k] &&& sr) = 2
end
end
end Go.Vc
/-
  Plain words: how many completions there can be; which systems' completions are asked for.
-/
namespace Go.Vc
theorem len_sub {α : Type} [DecidableEq α] : ∀ (l1 l2 : List α), l1.Nodup → (∀ x ∈ l1, x ∈ l2) → l1.length ≤ l2.length := by
  intro l1
  induction l1 with
  | nil => intro l2 _ _; simp
  | cons x l1 ih =>
    intro l2 hn h
    obtain ⟨h1, h2⟩ := List.nodup_cons.1 hn
    have hx := h x (by simp)
    have h3 := ih (l2.erase x) h2 (fun y hy => (List.mem_erase_of_ne (by intro e; subst e; exact h1 hy)).2 (h y (by simp [hy])))
    rw [List.length_erase_of_mem hx] at h3
    have := List.length_pos_of_mem hx
    simp only [List.length_cons]
    omega
/-- A bound of the number of completions by n blocks. -/
def cbF : Nat → Nat
  | 0 => 1
  | n + 1 => min 13 ((3 * n + 2) / 2) * cbF n
theorem cbF_pos : ∀ n, 1 ≤ cbF n := by
  intro n
  induction n with
  | zero => exact Nat.le_refl _
  | succ n ih =>
    unfold cbF
    exact Nat.mul_pos (by omega) ih
theorem flat_bound {α : Type} {p : Nat → Bool} {f : Nat → List α} {K : Nat} : ∀ l : List Nat, (∀ c ∈ l, p c = true → (f c).length ≤ K) → (l.flatMap fun c => if p c then f c else []).length ≤ (l.filter p).length * K := by
  intro l
  induction l with
  | nil => intro _; simp
  | cons c l ih =>
    intro h
    have h1 := ih (fun d hd => h d (by simp [hd]))
    rw [List.flatMap_cons, List.length_append, List.filter_cons]
    by_cases hp : p c = true
    · have := h c (by simp) hp
      rw [if_pos hp, if_pos hp, List.length_cons, Nat.add_mul]
      omega
    · rw [if_neg hp, if_neg hp]
      simpa using h1
section
variable {v m a b k n : Nat}
theorem may_count (hI : IsNext v m a b) (hv : v ≤ 15) : 2 * ((List.range v).filter fun c => may m a b c).length + 1 ≤ leftN v m ∧ ((List.range v).filter fun c => may m a b c).length ≤ 13 := by
  have hab := hI.ab
  have hbv := hI.bv
  have hn : ((List.range v).filter fun c => may m a b c).Nodup := List.nodup_range.filter _
  have hm : ∀ c ∈ (List.range v).filter fun c => may m a b c, c < v ∧ b < c ∧ usd m a c = false ∧ usd m b c = false := fun c hc => by
    obtain ⟨h1, h2⟩ := List.mem_filter.1 hc
    obtain ⟨h3, h4, h5⟩ := may_spec h2
    exact ⟨List.mem_range.1 h1, h3, h4, h5⟩
  generalize hcs : (List.range v).filter (fun c => may m a b c) = cs at hn hm ⊢
  constructor
  · have h := len_sub ((a, b) :: (cs.map (fun c => (a, c)) ++ cs.map (fun c => (b, c)))) ((prs v).filter fun p => Nat.blt p.1 p.2 && !usd m p.1 p.2) ?_ ?_
    · simp only [List.length_cons, List.length_append, List.length_map] at h
      unfold leftN
      omega
    · rw [List.nodup_cons, List.nodup_append]
      refine ⟨fun hh => ?_, ?_, ?_, fun x hx y hy e => ?_⟩
      · rcases List.mem_append.1 hh with hh | hh
        · obtain ⟨c, hc, e⟩ := List.mem_map.1 hh
          have := (hm c hc).2.1
          cases e
          omega
        · obtain ⟨c, hc, e⟩ := List.mem_map.1 hh
          cases e
          omega
      · rw [List.nodup_iff_pairwise_ne, List.pairwise_map]
        exact (List.nodup_iff_pairwise_ne.1 hn).imp fun hh e => hh (by cases e; rfl)
      · rw [List.nodup_iff_pairwise_ne, List.pairwise_map]
        exact (List.nodup_iff_pairwise_ne.1 hn).imp fun hh e => hh (by cases e; rfl)
      · subst e
        obtain ⟨c, hc, e1⟩ := List.mem_map.1 hx
        obtain ⟨d, hd, e2⟩ := List.mem_map.1 hy
        rw [← e2] at e1
        cases e1
        omega
    · intro p hp
      rw [List.mem_filter]
      rcases List.mem_cons.1 hp with rfl | hp
      · exact ⟨mem_prs.2 ⟨by simp; omega, by simp; omega⟩, by have := hI.left; simp [this, hab]⟩
      · rcases List.mem_append.1 hp with hp | hp
        · obtain ⟨c, hc, rfl⟩ := List.mem_map.1 hp
          have := hm c hc
          exact ⟨mem_prs.2 ⟨by simp; omega, by simp; omega⟩, by simp [this.2.2.1]; omega⟩
        · obtain ⟨c, hc, rfl⟩ := List.mem_map.1 hp
          have := hm c hc
          exact ⟨mem_prs.2 ⟨by simp; omega, by simp; omega⟩, by simp [this.2.2.2]; omega⟩
  · have h := len_sub (0 :: 1 :: cs) (List.range v) ?_ ?_
    · simp only [List.length_cons, List.length_range] at h
      omega
    · rw [List.nodup_cons, List.nodup_cons]
      refine ⟨fun hh => ?_, fun hh => ?_, hn⟩
      · rcases List.mem_cons.1 hh with hh | hh
        · omega
        · have := (hm _ hh).2.1; omega
      · have := (hm _ hh).2.1; omega
    · intro c hc
      rcases List.mem_cons.1 hc with rfl | hc
      · exact List.mem_range.2 (by omega)
      · rcases List.mem_cons.1 hc with rfl | hc
        · exact List.mem_range.2 (by omega)
        · exact List.mem_range.2 (hm c hc).1
theorem comp_bound : ∀ k n v m, v ≤ 15 → leftN v m ≤ 3 * n → (compM k v m).length ≤ cbF n := by
  intro k
  induction k with
  | zero =>
    intro n v m hv hl
    have := cbF_pos n
    unfold compM
    split
    · simpa using this
    · simp
  | succ k ih =>
    intro n v m hv hl
    have hp := cbF_pos n
    unfold compM
    split
    · simpa using hp
    · rename_i a b e
      have hI := next_spec e
      obtain ⟨h1, h2⟩ := may_count hI hv
      cases n with
      | zero => omega
      | succ n =>
        refine Nat.le_trans (flat_bound (K := cbF n) _ (fun c hc hm => ?_)) ?_
        · rw [List.length_map]
          obtain ⟨h3, h4, h5⟩ := may_spec hm
          have := leftN_put3 hI.ab h3 (List.mem_range.1 hc) hv hI.left h4 h5
          exact ih n v _ hv (by omega)
        · show _ ≤ min 13 ((3 * n + 2) / 2) * cbF n
          have h3 : ((List.range v).filter fun c => may m a b c).length ≤ min 13 ((3 * n + 2) / 2) := by omega
          exact Nat.mul_le_mul_right _ h3
theorem cbF12 : cbF 12 ≤ 10000000000 := by decide
end
/-! ### Up to most of them -/
theorem run_len {α : Type} {most : Nat} : ∀ (L : List α) (k : Nat), k < most → (runC (fun j => decide (j < most)) k L).length = min (most - k) L.length := by
  intro L
  induction L with
  | nil => intro k _; simp [runC]
  | cons x L ih =>
    intro k hk
    unfold runC
    by_cases h : k + 1 < most
    · rw [if_pos (by simpa using h), List.length_cons, ih (k + 1) h, List.length_cons]
      omega
    · rw [if_neg (by simpa using h), List.length_singleton, List.length_cons]
      omega
/-! ### Codes -/
def told (v : Int) : Prop := v = 3 ∨ v = 7 ∨ v = 9 ∨ v = 13 ∨ v = 15
instance (v : Int) : Decidable (told v) := inferInstanceAs (Decidable (_ ∨ _))
def missN (v : Int) (bs : List B3) : Int := v * (v - 1) / 6 - bs.length
/-- The code of the missing number. -/
noncomputable def mnC (v : Int) (bs : List B3) : Int := if STS v bs then if told v then 0 else 5 else 1
/-- The code of completions. -/
noncomputable def cpC (v : Int) (bs : List B3) : Int := if STS v bs then if told v then if 12 < missN v bs then 3 else 0 else 5 else 1
theorem left13 : leftN 13 0 = 78 := by decide
theorem left15 : leftN 15 0 = 105 := by decide
theorem told_left {v : Int} (h : told v) : 2 * (leftN v.toNat 0 : Int) = v * (v - 1) ∧ v * (v - 1) / 6 * 3 = (leftN v.toNat 0 : Int) := by
  rcases h with rfl | rfl | rfl | rfl | rfl
  · show 2 * ((leftN 3 0 : Nat) : Int) = _ ∧ _ = ((leftN 3 0 : Nat) : Int); rw [left3]; decide
  · show 2 * ((leftN 7 0 : Nat) : Int) = _ ∧ _ = ((leftN 7 0 : Nat) : Int); rw [left7]; decide
  · show 2 * ((leftN 9 0 : Nat) : Int) = _ ∧ _ = ((leftN 9 0 : Nat) : Int); rw [left9]; decide
  · show 2 * ((leftN 13 0 : Nat) : Int) = _ ∧ _ = ((leftN 13 0 : Nat) : Int); rw [left13]; decide
  · show 2 * ((leftN 15 0 : Nat) : Int) = _ ∧ _ = ((leftN 15 0 : Nat) : Int); rw [left15]; decide
section
variable {v : Int} {bs : List B3}
theorem sts_restI (h : STS v bs) : Rest v.toNat 0 bs := by
  have hlo := h.lo
  exact sts_rest (v := v.toNat) (by rw [Int.toNat_of_nonneg (by omega)]; exact h)
theorem miss_left (h : STS v bs) (ht : told v) : (leftN v.toNat (maskB 0 bs) : Int) = 3 * missN v bs ∧ 0 ≤ missN v bs := by
  have hhi := h.hi
  have h1 := mask_left bs 0 (v := v.toNat) (by omega) (sts_restI h)
  have h2 := told_left ht
  unfold missN
  omega
theorem cp_1 (h : ¬ STS v bs) : cpC v bs = 1 := by unfold cpC; rw [if_neg h]
theorem cp_5 (h : STS v bs) (ht : ¬ told v) : cpC v bs = 5 := by unfold cpC; rw [if_pos h, if_neg ht]
theorem cp_3 (h : STS v bs) (ht : told v) (hm : 12 < missN v bs) : cpC v bs = 3 := by unfold cpC; rw [if_pos h, if_pos ht, if_pos hm]
theorem cp_0 (h : STS v bs) (ht : told v) (hm : ¬ 12 < missN v bs) : cpC v bs = 0 := by unfold cpC; rw [if_pos h, if_pos ht, if_neg hm]
theorem cp_ok (h : cpC v bs = 0) : STS v bs ∧ told v ∧ missN v bs ≤ 12 := by
  by_cases h1 : STS v bs
  · by_cases h2 : told v
    · by_cases h3 : 12 < missN v bs
      · rw [cp_3 h1 h2 h3] at h; exact absurd h (by decide)
      · exact ⟨h1, h2, by omega⟩
    · rw [cp_5 h1 h2] at h; exact absurd h (by decide)
  · rw [cp_1 h1] at h; exact absurd h (by decide)
theorem mn_1 (h : ¬ STS v bs) : mnC v bs = 1 := by unfold mnC; rw [if_neg h]
theorem mn_5 (h : STS v bs) (ht : ¬ told v) : mnC v bs = 5 := by unfold mnC; rw [if_pos h, if_neg ht]
theorem mn_0 (h : STS v bs) (ht : told v) : mnC v bs = 0 := by unfold mnC; rw [if_pos h, if_pos ht]
/-- The completions of a system, each as the blocks that are put in. -/
noncomputable def cmpl (v : Int) (bs : List B3) : List (List B3) := compM 40 v.toNat (maskB 0 bs)
theorem cmpl_left (h : cpC v bs = 0) : leftN v.toNat (maskB 0 bs) ≤ 36 := by
  obtain ⟨h1, h2, h3⟩ := cp_ok h
  have := (miss_left h1 h2).1
  omega
theorem cmpl_len (h : cpC v bs = 0) : (cmpl v bs).length ≤ 10000000000 := by
  have h1 := (cp_ok h).1.hi
  exact Nat.le_trans (comp_bound 40 12 v.toNat _ (by omega) (cmpl_left h)) cbF12
theorem rel_mask (h : STS v bs) : Rel v.toNat (tab bs) (maskB 0 bs) := by
  intro x y hx hy hxy
  have hlo := h.lo
  have hhi := h.hi
  have hin : ∀ d ∈ bs, inB v.toNat d := fun d hd => good.inB (by rw [Int.toNat_of_nonneg (by omega)]; exact h.good d hd)
  have hu : usd (maskB 0 bs) x y = true ↔ ∃ d ∈ bs, has d x ∧ has d y := by
    rcases Nat.lt_or_ge x y with e | e
    · rw [usd_mask bs 0 (by omega) hin x y e hy]
      simp [usd]
    · rw [usd_comm, usd_mask bs 0 (by omega) hin y x (by omega) hx]
      simp [usd, and_comm]
  rw [tab_left (fun b hb => (h.good b hb).three), ← Bool.not_eq_true, hu]
  constructor
  · rintro h1 ⟨d, hd, h2, h3⟩
    exact h1 d hd ⟨h2, h3, by omega⟩
  · intro h1 d hd h2
    exact h1 ⟨d, hd, h2.1, h2.2.1⟩
theorem leaf_small (h : STS v bs) {q : List B3} (hq : q ∈ leaf bs (cmpl v bs)) : q.length ≤ 1000 := by
  have hf := h.few
  unfold leaf at hq
  obtain ⟨r, hr, rfl⟩ := List.mem_map.1 hq
  have := compM_len 40 _ _ r hr
  rw [List.length_append]
  omega
/-- Each of the first lists is one of the second ones, in order. -/
def RelS (l cs : List (List B3)) : Prop := cs.length = l.length ∧ ∀ i (h1 : i < l.length) (h2 : i < cs.length), (cs[i]).Perm l[i] ∧ SrtB cs[i]
theorem relS_nil : RelS [] [] := ⟨rfl, fun i h => by simp at h⟩
theorem relS_snoc {l cs : List (List B3)} {x r : List B3} (h : RelS l cs) (hp : r.Perm x) (hs : SrtB r) : RelS (l ++ [x]) (cs ++ [r]) := by
  refine ⟨by simp [h.1], fun i h1 h2 => ?_⟩
  by_cases e : i < l.length
  · have e' : i < cs.length := by rw [h.1]; exact e
    rw [List.getElem_append_left e, List.getElem_append_left e']
    exact h.2 i e e'
  · have hl := h.1
    have hi : i = l.length := by simp at h1; omega
    subst hi
    rw [List.getElem_append_right (by omega), List.getElem_append_right (by omega)]
    simp only [List.getElem_singleton]
    exact ⟨hp, hs⟩
end
end Go.Vc
/-
  The calculus, part 27: completions that are kept in order: the systems that come so far, beside what is read.
-/
namespace Go.Vc
open Go Go.RowKit
theorem GridAt.below {w w' : World} {b t : Nat} {G : Int → Int → Int} (h : GridAt w b G t) (hb : Bel w.heap.size w w') : GridAt w' b G t := by
  unfold GridAt
  rw [hb.block b (Array.getElem?_eq_some_iff.1 h).1]
  exact h
section
variable {P : Program} {N : Nat} {w0 w : World} {Q : Exit → Act → World → Prop} {σ : Sig} {H H' : List Assn} {ops : Array Oper} {rest : List Oper} {v : Int}
/-- A box with a list of systems; a box with the system; a box with a number. l: what has come. -/
def SysF (sT bT lT xT iT : TypeId) (v : Int) (b0 b1 b2 : Nat) (A : Option Addr) (c : Nat) (bs : List B3) (most : Nat) (l : List (List B3)) : Assn :=
  .exi fun q : (Option Addr × Nat) × List (Sl × List B3) => .sep (.pur (RelS l (conts q.2))) (.sep (Blk b0 [.slice q.1.1 (tops q.2).length q.1.2] lT) (.sep (Blk b1 [.int .i64 v, .slice A bs.length c] xT) (.sep (Blk b2 [.int .i64 (most : Int)] iT) (.sep (Own sT (SyC v) q.1.1 q.1.2 (tops q.2)) (RowsA bT B3C q.2)))))
variable {sT bT lT xT iT : TypeId} {b0 b1 b2 : Nat} {A : Option Addr} {c most : Nat} {bs : List B3} {l : List (List B3)}
theorem SysF.elim (hw : St w0 (SysF sT bT lT xT iT v b0 b1 b2 A c bs most l :: H) w) : ∃ A2 k ps, RelS l (conts ps) ∧ St w0 (Blk b0 [.slice A2 (tops ps).length k] lT :: Blk b1 [.int .i64 v, .slice A bs.length c] xT :: Blk b2 [.int .i64 (most : Int)] iT :: Own sT (SyC v) A2 k (tops ps) :: RowsA bT B3C ps :: H) w := by
  obtain ⟨q, hw⟩ := hw.exi
  have h1 := hw.sep.pur
  refine ⟨q.1.1, q.1.2, q.2, h1.1, ?_⟩
  have h2 := h1.2.sep
  have h3 := (h2.perm (List.Perm.swap _ _ _)).sep
  have h4 := (h3.perm (List.Perm.swap _ _ _)).sep
  have h5 := (h4.perm (List.Perm.swap _ _ _)).sep
  exact (h5.sub (Sub.keep 4 rfl (Sub.keep 3 rfl (Sub.keep 2 rfl (Sub.keep 0 rfl (Sub.keep 0 rfl (Sub.refl _)))))))
theorem V.sysF {c' : Code} (h : ∀ A2 k ps, RelS l (conts ps) → V P N w0 c' Q σ (Blk b0 [.slice A2 (tops ps).length k] lT :: Blk b1 [.int .i64 v, .slice A bs.length c] xT :: Blk b2 [.int .i64 (most : Int)] iT :: Own sT (SyC v) A2 k (tops ps) :: RowsA bT B3C ps :: H)) : V P N w0 c' Q σ (SysF sT bT lT xT iT v b0 b1 b2 A c bs most l :: H) := by
  intro w hw
  obtain ⟨A2, k, ps, h1, h2⟩ := SysF.elim hw
  exact h A2 k ps h1 w h2
theorem O.sysF (h : ∀ A2 k ps, RelS l (conts ps) → O P N w0 ops Q rest σ (Blk b0 [.slice A2 (tops ps).length k] lT :: Blk b1 [.int .i64 v, .slice A bs.length c] xT :: Blk b2 [.int .i64 (most : Int)] iT :: Own sT (SyC v) A2 k (tops ps) :: RowsA bT B3C ps :: H)) : O P N w0 ops Q rest σ (SysF sT bT lT xT iT v b0 b1 b2 A c bs most l :: H) := by
  intro w hw
  obtain ⟨A2, k, ps, h1, h2⟩ := SysF.elim hw
  exact h A2 k ps h1 w h2
theorem SysF.mk {A2 : Option Addr} {k : Nat} {ps : List (Sl × List B3)} (hl : RelS l (conts ps)) (hw : St w0 (Blk b0 [.slice A2 (tops ps).length k] lT :: Blk b1 [.int .i64 v, .slice A bs.length c] xT :: Blk b2 [.int .i64 (most : Int)] iT :: Own sT (SyC v) A2 k (tops ps) :: RowsA bT B3C ps :: H) w) : St w0 (SysF sT bT lT xT iT v b0 b1 b2 A c bs most l :: H) w := by
  refine St.mkExi ((A2, k), ps) (St.unsep (St.addPur hl ?_))
  have h1 : St w0 (Own sT (SyC v) A2 k (tops ps) :: RowsA bT B3C ps :: Blk b2 [.int .i64 (most : Int)] iT :: Blk b1 [.int .i64 v, .slice A bs.length c] xT :: Blk b0 [.slice A2 (tops ps).length k] lT :: H) w := hw.sub (Sub.keep 3 rfl (Sub.keep 3 rfl (Sub.keep 2 rfl (Sub.keep 1 rfl (Sub.keep 0 rfl (Sub.refl _))))))
  have h2 := (St.unsep h1).perm (List.Perm.swap _ _ _)
  have h3 := (St.unsep h2).perm (List.Perm.swap _ _ _)
  have h4 := (St.unsep h3).perm (List.Perm.swap _ _ _)
  exact St.unsep h4
end
end Go.Vc
/-
  Plain words: the triples of points that something lets through, in order; the blocks that are still free.
-/
namespace Go.Vc
section
variable (p : B3 → Prop) [DecidablePred p]
def triC (a b k : Nat) : List B3 := (List.range k).flatMap fun c => if b < c ∧ p (b3N a b c) then [b3N a b c] else []
def triB (v a k : Nat) : List B3 := (List.range k).flatMap fun b => if a < b then triC p a b v else []
def triA (v k : Nat) : List B3 := (List.range k).flatMap fun a => triB p v a v
end
section
variable {p q : B3 → Prop} [DecidablePred p] [DecidablePred q] {a b k v : Nat}
theorem triC_low : ∀ k, k ≤ b + 1 → triC p a b k = [] := by
  intro k
  induction k with
  | zero => intro _; rfl
  | succ k ih =>
    intro h
    have h1 := ih (by omega)
    unfold triC at h1 ⊢
    rw [List.range_succ, List.flatMap_append, h1, List.flatMap_singleton, if_neg (by omega)]
    rfl
theorem triC_yes (h : b < k) (hp : p (b3N a b k)) : triC p a b (k + 1) = triC p a b k ++ [b3N a b k] := by
  unfold triC
  rw [List.range_succ, List.flatMap_append, List.flatMap_singleton, if_pos ⟨h, hp⟩]
theorem triC_no (hp : ¬ p (b3N a b k)) : triC p a b (k + 1) = triC p a b k := by
  unfold triC
  rw [List.range_succ, List.flatMap_append, List.flatMap_singleton, if_neg (fun h => hp h.2), List.append_nil]
theorem triB_low : ∀ k, k ≤ a + 1 → triB p v a k = [] := by
  intro k
  induction k with
  | zero => intro _; rfl
  | succ k ih =>
    intro h
    have h1 := ih (by omega)
    unfold triB at h1 ⊢
    rw [List.range_succ, List.flatMap_append, h1, List.flatMap_singleton, if_neg (by omega)]
    rfl
theorem triB_succ (h : a < k) : triB p v a (k + 1) = triB p v a k ++ triC p a k v := by
  unfold triB
  rw [List.range_succ, List.flatMap_append, List.flatMap_singleton, if_pos h]
theorem triA_succ : triA p v (k + 1) = triA p v k ++ triB p v k v := by
  unfold triA
  rw [List.range_succ, List.flatMap_append, List.flatMap_singleton]
/-- At the ends of the inner loops, which may not run at all. -/
theorem triC_end {c : Nat} (h : v ≤ c) (h2 : c ≤ v ∨ c = b + 1) : triC p a b c = triC p a b v := by
  rcases h2 with h2 | h2
  · rw [show c = v by omega]
  · rw [triC_low c (by omega), triC_low v (by omega)]
theorem triB_end {c : Nat} (h : v ≤ c) (h2 : c ≤ v ∨ c = a + 1) : triB p v a c = triB p v a v := by
  rcases h2 with h2 | h2
  · rw [show c = v by omega]
  · rw [triB_low c (by omega), triB_low v (by omega)]
theorem flat_congr {α β : Type} {l : List α} {f g : α → List β} (h : ∀ x ∈ l, f x = g x) : l.flatMap f = l.flatMap g := by
  induction l with
  | nil => rfl
  | cons x l ih => rw [List.flatMap_cons, List.flatMap_cons, h x (by simp), ih (fun y hy => h y (by simp [hy]))]
theorem tri_congr (h : ∀ x y z, x < y → y < z → z < v → (p (b3N x y z) ↔ q (b3N x y z))) : triA p v v = triA q v v := by
  unfold triA
  refine flat_congr fun a ha => ?_
  unfold triB
  refine flat_congr fun b hb => ?_
  have h1 := List.mem_range.1 ha
  have h2 := List.mem_range.1 hb
  by_cases e : a < b
  · rw [if_pos e, if_pos e]
    unfold triC
    refine flat_congr fun c hc => ?_
    have h3 := List.mem_range.1 hc
    by_cases e2 : b < c
    · have := h a b c e e2 h3
      by_cases e3 : p (b3N a b c)
      · rw [if_pos ⟨e2, e3⟩, if_pos ⟨e2, this.1 e3⟩]
      · rw [if_neg (fun hh => e3 hh.2), if_neg (fun hh => e3 (this.2 hh.2))]
    · rw [if_neg (fun hh => e2 hh.1), if_neg (fun hh => e2 hh.1)]
  · rw [if_neg e, if_neg e]
end
/-- A block that has at most a point in common with each block there is. -/
def FreeB (bs : List B3) (b : B3) : Prop := ∀ d ∈ bs, common d b ≤ 1
instance (bs : List B3) (b : B3) : Decidable (FreeB bs b) := inferInstanceAs (Decidable (∀ d ∈ bs, common d b ≤ 1))
/-- The blocks that are free. -/
def freeL (v : Int) (bs : List B3) : List B3 := triA (FreeB bs) v.toNat v.toNat
theorem free_left {v : Int} {bs : List B3} (hv : v ≤ 15) (h : STS v bs) : triA (isLeft (tab bs)) v.toNat v.toNat = freeL v bs := by
  refine tri_congr fun x y z h1 h2 h3 => ?_
  rw [isLeft_tab (b := b3N x y z) (by unfold Vc.three b3N; simp only; omega) (fun c hc => (h.good c hc).three)]
  unfold FreeB
  exact ⟨fun hh d hd => by rw [com_comm]; exact hh d hd, fun hh d hd => by rw [com_comm]; exact hh d hd⟩
/-! ### Up to most completions -/
theorem comps_len {v : Int} {bs : List B3} {most n : Nat} {cs : List (List B3)} (hm : 0 < most) (h1 : cpC v bs = 0 → RelS (runC (fun j => decide (j < most)) 0 (leaf bs (cmpl v bs))) cs) (h2 : ¬ cpC v bs = 0 → cs = []) (hn : cs.length = n) : n = if cpC v bs = 0 then min most (cmpl v bs).length else 0 := by
  by_cases h : cpC v bs = 0
  · rw [if_pos h, ← hn, (h1 h).1, run_len _ 0 hm, leaf_len]
    rfl
  · rw [if_neg h, ← hn, h2 h]
    rfl
/-- The code of the first completion. -/
noncomputable def fcC (v : Int) (bs : List B3) : Int := if cpC v bs = 0 then if (cmpl v bs).length = 0 then 4 else 0 else cpC v bs
/-- The first completion. -/
def FstC (v : Int) (bs r : List B3) : Prop := ∃ h : 0 < (cmpl v bs).length, r.Perm (bs ++ (cmpl v bs)[0]) ∧ SrtB r
theorem cp_bd (v : Int) (bs : List B3) : 0 ≤ cpC v bs ∧ cpC v bs ≤ 5 := by unfold cpC; (repeat' split) <;> omega
theorem run_first {α : Type} {cont : Nat → Bool} {k : Nat} {x : α} {l : List α} : (runC cont k (x :: l))[0]? = some x := by
  unfold runC
  split <;> rfl
theorem fst_of {v : Int} {bs : List B3} {cs : List (List B3)} {cont : Nat → Bool} (h : RelS (runC cont 0 (leaf bs (cmpl v bs))) cs) (hc : 0 < cs.length) : FstC v bs cs[0] := by
  have h0 : 0 < (runC cont 0 (leaf bs (cmpl v bs))).length := by rw [← h.1]; exact hc
  obtain ⟨h1, h2⟩ := h.2 0 h0 hc
  have hl : 0 < (cmpl v bs).length := by
    apply Nat.pos_of_ne_zero
    intro e
    have e2 : cmpl v bs = [] := List.eq_nil_of_length_eq_zero e
    rw [e2] at h0
    simp [leaf, runC] at h0
  refine ⟨hl, ?_, h2⟩
  obtain ⟨x, l, e⟩ := List.exists_cons_of_length_pos hl
  have ex : (cmpl v bs)[0] = x := by simp [e]
  have e4 : leaf bs (cmpl v bs) = (bs ++ x) :: leaf bs l := by rw [e]; rfl
  have e5 := run_first (cont := cont) (k := 0) (x := bs ++ x) (l := leaf bs l)
  rw [← e4, List.getElem?_eq_getElem h0] at e5
  rw [ex, ← Option.some.inj e5]
  exact h1
theorem fc_bad {v : Int} {bs : List B3} (h : ¬ cpC v bs = 0) : fcC v bs = cpC v bs := by unfold fcC; rw [if_neg h]
theorem fc_4 {v : Int} {bs : List B3} (h : cpC v bs = 0) (h2 : (cmpl v bs).length = 0) : fcC v bs = 4 := by unfold fcC; rw [if_pos h, if_pos h2]
theorem fc_0 {v : Int} {bs : List B3} (h : cpC v bs = 0) (h2 : ¬ (cmpl v bs).length = 0) : fcC v bs = 0 := by unfold fcC; rw [if_pos h, if_neg h2]
end Go.Vc
/-
  Plain words: the part of a least fixing is a system that has the system as its only completion.
-/
namespace Go.Vc
section
variable {v : Int} {bs P : List B3}
theorem sub_mem {T : List B3} (hT : T.Pairwise B3.lt) (hs : P.Sublist T) : P = T.filter fun d => decide (d ∈ P) := by
  refine srt_ext (hT.sublist hs) (hT.filter _) fun d => ?_
  rw [List.mem_filter, decide_eq_true_eq]
  exact ⟨fun h => ⟨hs.subset h, h⟩, fun h => h.2⟩
theorem sub_perm {T : List B3} (hT : T.Pairwise B3.lt) (hs : P.Sublist T) : (P ++ T.filter fun d => decide (d ∉ P)).Perm T := by
  have h := List.filter_append_perm (fun d => decide (d ∈ P)) T
  have e := sub_mem hT hs
  have e2 : (T.filter fun d => !decide (d ∈ P)) = T.filter fun d => decide (d ∉ P) := by
    congr 1
    funext d
    by_cases hd : d ∈ P <;> simp [hd]
  rw [e2] at h
  have h2 : (P ++ T.filter fun d => decide (d ∉ P)) = (T.filter fun d => decide (d ∈ P)) ++ T.filter fun d => decide (d ∉ P) := by
    congr 1
  rw [h2]
  exact h
theorem lf_ok (h : (if ¬ STS v bs then (1 : Int) else if ¬ 6 * (bs.length : Int) = v * (v - 1) then 5 else if 9 < v then 3 else 0) = 0) : STS v bs ∧ 6 * (bs.length : Int) = v * (v - 1) ∧ ¬ 9 < v := by
  by_cases h1 : STS v bs
  · rw [if_neg (not_not_intro h1)] at h
    by_cases h2 : 6 * (bs.length : Int) = v * (v - 1)
    · rw [if_neg (not_not_intro h2)] at h
      exact ⟨h1, h2, fun h3 => by rw [if_pos h3] at h; exact absurd h (by decide)⟩
    · rw [if_pos h2] at h; exact absurd h (by decide)
  · rw [if_pos h1] at h; exact absurd h (by decide)
structure PartF (v : Int) (bs : List B3) (o : List Int) : Prop where
  ix : ∀ i ∈ o, 0 ≤ i ∧ i < bs.length
  len : o.length ≤ 15
  fix : cpC v (o.map (blk bs)) = 0 ∧ (cmpl v (o.map (blk bs))).length = 1
  fst : fcC v (o.map (blk bs)) = 0
  own : ∀ r, FstC v (o.map (blk bs)) r → r = bs
theorem least_part {o : List Int} (hS : STS v bs) (hF : 6 * (bs.length : Int) = v * (v - 1)) (h9 : ¬ 9 < v) (hL : LFR v bs o) : PartF v bs o := by
  have hf := few_of hS hF h9
  have h0 := few_len hf.1
  have hsm := few_small hf
  have hlo := hS.lo
  have hhi := hS.hi
  have hv : (v.toNat : Int) = v := Int.toNat_of_nonneg (by omega)
  have hl15 := hL.len
  unfold LFR at hL
  rw [if_pos ⟨hS, hF, h9⟩] at hL
  obtain ⟨t, ht, hp, ho, _⟩ := hL
  have h2n : 2 ^ bs.length ≤ 2 ^ 12 := Nat.pow_le_pow_right (by decide) hsm
  have hix : ∀ i ∈ o, 0 ≤ i ∧ i < bs.length := by
    intro i hi
    rw [ho] at hi
    obtain ⟨h1, h2, h3⟩ := mem_pts.1 hi
    refine ⟨h1, ?_⟩
    have h4 : i.toNat < bs.length := by
      apply Decidable.byContradiction
      intro hn
      have h5 : 2 ^ bs.length ≤ 2 ^ i.toNat := Nat.pow_le_pow_right (by decide) (by omega)
      rw [Nat.testBit_lt_two_pow (by omega)] at h3
      cases h3
    omega
  have hlt : o.Pairwise (· < ·) := by rw [ho]; exact pts_lt t
  have hml : maskL o = t := by rw [ho]; exact maskL_pts' (by omega)
  have hfx := (fix_spec hS hf hlt hix).2 (by rw [hml]; exact hp)
  have hpr := part_rest hS hf hlt hix
  have hsub : (o.map (blk bs)).Sublist bs := by simpa using sub_drop o 0 hlt (fun i hi => by have := hix i hi; omega)
  suffices h : (cpC v (o.map (blk bs)) = 0 ∧ (cmpl v (o.map (blk bs))).length = 1) ∧ fcC v (o.map (blk bs)) = 0 ∧ ∀ r, FstC v (o.map (blk bs)) r → r = bs from ⟨hix, hl15, h.1, h.2.1, h.2.2⟩
  generalize o.map (blk bs) = P at hfx hpr hsub ⊢
  have hsl := hsub.length_le
  have hsP : STS v P := by
    have := rest_sts hpr.1 (by omega) (by omega) (by omega)
    rwa [hv] at this
  have htold : told v := by
    unfold told
    rcases hf.1 with h | h | h <;> omega
  have hcp : cpC v P = 0 := cp_0 hsP htold (by
    unfold missN
    omega)
  have hone : (cmpl v P).length = 1 := hfx
  refine ⟨⟨hcp, hone⟩, fc_0 hcp (by omega), fun r hr => ?_⟩
  obtain ⟨h1, h2, h3⟩ := hr
  have hbl := sts_lt hS
  have hm : (bs.filter fun d => decide (d ∉ P)) ∈ cmpl v P := others_mem h0.2.2.1 (few_full hS hf) (fun d hd => hsub.subset hd) (by omega)
  obtain ⟨z, hz⟩ := List.length_eq_one_iff.1 hone
  have e1 : (cmpl v P)[0] = z := by simp [hz]
  rw [hz] at hm
  rw [e1, ← List.mem_singleton.1 hm] at h2
  exact srtB_unique h3 (srtB_lt hbl) (h2.trans (sub_perm hbl hsub))
end
end Go.Vc
