/-
  The calculus and plain words, part 7.
-/
import Derived.Test.YtnngcemighmikaaKa6
set_option linter.unusedVariables false
set_option linter.unusedSimpArgs false
/-
  Plain words: cycles of a point by two others in a full system.
-/
namespace Go.Vc
def Pt (v x : Int) : Prop := 0 ≤ x ∧ x < v
noncomputable instance (v x : Int) : Decidable (Pt v x) := Classical.propDecidable _
/-- Each pair is in a block. -/
def AllP (v : Int) (bs : List B3) : Prop := ∀ x y, Pt v x → Pt v y → x ≠ y → ∃ d ∈ bs, has d x ∧ has d y
section
variable {v : Int} {bs : List B3} {a b p x y : Int} {m n N : Nat}
theorem full_all (h : STS v bs) (hf : 6 * (bs.length : Int) = v * (v - 1)) : AllP v bs := by
  have hlo := h.lo
  have hhi := h.hi
  obtain ⟨V, hV⟩ := Int.eq_ofNat_of_zero_le (show 0 ≤ v by omega)
  subst hV
  have hpw : 2 ^ V ≤ 2 ^ 15 := Nat.pow_le_pow_right (by decide) (by omega)
  have hp0 := Nat.two_pow_pos V
  have bit : ∀ z : Int, z ∈ pts (2 ^ V - 1) ↔ 0 ≤ z ∧ z < (V : Int) := fun z => by
    rw [mem_pts, Nat.testBit_two_pow_sub_one, decide_eq_true_eq]
    omega
  have hin : inside bs (2 ^ V - 1) bs.length = bs.length := by
    rw [← insB_len]
    have : insB bs (2 ^ V - 1) = bs := by
      unfold insB
      rw [List.filter_eq_self]
      intro d hd
      refine decide_eq_true ((ins_iff ((h.good d hd).mono h.hi)).2 fun z hz => (bit z).2 ?_)
      have hg := h.good d hd
      unfold good at hg
      unfold has at hz
      omega
    rw [this]
  have hl : (pts (2 ^ V - 1)).length = V := by
    rw [pts_ones (by omega)]
    have := compl_ones (v := V) (s := 0) (by omega)
    rw [ones_zero] at this
    simpa using this
  have hq := count_subq (s := 2 ^ V - 1) h (by
    rw [hin, hl]
    have := (mul15 V (by omega)).2
    omega)
  intro x y hx hy hxy
  obtain ⟨d, hd, k1, k2, _⟩ := hq x y ((bit x).2 hx) ((bit y).2 hy) hxy
  exact ⟨d, hd, k1, k2⟩
/-- The third point: what is known of it. -/
structure Th (v : Int) (bs : List B3) (x y z : Int) : Prop where
  blk : ∃ d ∈ bs, Tri d x y z
  pt : Pt v z
  nx : z ≠ x
  ny : z ≠ y
theorem th_of (h : STS v bs) (hf : AllP v bs) (hx : Pt v x) (hy : Pt v y) (hxy : x ≠ y) : Th v bs x y (third bs x y) := by
  obtain ⟨d, hd, k1, k2⟩ := hf x y hx hy hxy
  obtain ⟨z, t⟩ := tri_third (h.good d hd) hxy k1 k2
  obtain ⟨k, hk, rfl⟩ := List.mem_iff_getElem.1 hd
  rw [(third_tri h hk t).2]
  have hg := h.good _ hd
  have h3 := t.h3
  refine ⟨⟨_, hd, t⟩, ?_, fun e => t.2.1 e.symm, fun e => t.2.2.1 e.symm⟩
  unfold good at hg
  unfold has at h3
  unfold Pt
  omega
theorem Th.eq (h : STS v bs) {z : Int} (t : Th v bs x y z) : third bs x y = z ∧ tab bs x y = z := by
  obtain ⟨d, hd, t⟩ := t.blk
  refine ⟨?_, tab_tri h hd t⟩
  obtain ⟨k, hk, rfl⟩ := List.mem_iff_getElem.1 hd
  exact (third_tri h hk t).2
theorem Th.back {z : Int} (h : STS v bs) (t : Th v bs x y z) : third bs x z = y := by
  obtain ⟨d, hd, t⟩ := t.blk
  obtain ⟨k, hk, rfl⟩ := List.mem_iff_getElem.1 hd
  exact (third_tri h hk t.swap).2
/-- The points that can be in a cycle. -/
structure Cy (v : Int) (bs : List B3) (a b x : Int) : Prop where
  pt : Pt v x
  na : x ≠ a
  nb : x ≠ b
  nc : x ≠ third bs a b
structure Ab (v : Int) (bs : List B3) (a b : Int) : Prop where
  h : STS v bs
  f : AllP v bs
  pa : Pt v a
  pb : Pt v b
  ne : a ≠ b
theorem Ab.symm (g : Ab v bs a b) : Ab v bs b a := ⟨g.h, g.f, g.pb, g.pa, fun e => g.ne e.symm⟩
theorem Ab.third (g : Ab v bs a b) : third bs b a = third bs a b := by
  have t := th_of g.h g.f g.pa g.pb g.ne
  obtain ⟨d, hd, t⟩ := t.blk
  obtain ⟨k, hk, rfl⟩ := List.mem_iff_getElem.1 hd
  exact (third_tri g.h hk t.rot).2
theorem Cy.symm (g : Ab v bs a b) (c : Cy v bs a b x) : Cy v bs b a x := ⟨c.pt, c.nb, c.na, by rw [g.third]; exact c.nc⟩
theorem Cy.step (g : Ab v bs a b) (c : Cy v bs a b x) : Th v bs a x (third bs a x) ∧ Cy v bs a b (third bs a x) := by
  have t := th_of g.h g.f g.pa c.pt (fun e => c.na e.symm)
  have bk := t.back g.h
  refine ⟨t, t.pt, t.nx, fun e => ?_, fun e => ?_⟩
  · rw [e] at bk
    exact c.nc bk.symm
  · have t2 := th_of g.h g.f g.pa g.pb g.ne
    rw [e, t2.back g.h] at bk
    exact c.nb bk.symm
/-- The cycle: by a and by b in turn. -/
def cm (a b : Int) (m : Nat) : Int := if m % 2 = 0 then a else b
noncomputable def uc (bs : List B3) (a b p : Int) : Nat → Int
  | 0 => p
  | m + 1 => third bs (cm a b m) (uc bs a b p m)
theorem uc_cy (g : Ab v bs a b) (c : Cy v bs a b p) : ∀ m, Cy v bs a b (uc bs a b p m)
  | 0 => c
  | m + 1 => by
    have ih := uc_cy g c m
    rw [uc]
    unfold cm
    split
    · exact (ih.step g).2
    · exact ((ih.symm g).step g.symm).2.symm g.symm
theorem uc_th (g : Ab v bs a b) (c : Cy v bs a b p) (m : Nat) : Th v bs (cm a b m) (uc bs a b p m) (uc bs a b p (m + 1)) := by
  have ih := uc_cy g c m
  rw [uc]
  unfold cm
  split
  · exact (ih.step g).1
  · exact ((ih.symm g).step g.symm).1
theorem uc_back (g : Ab v bs a b) (c : Cy v bs a b p) (m : Nat) : third bs (cm a b m) (uc bs a b p (m + 1)) = uc bs a b p m := (uc_th g c m).back g.h
theorem cm_add (m k : Nat) : cm a b (m + 2 * k) = cm a b m := by
  unfold cm
  rw [show (m + 2 * k) % 2 = m % 2 by omega]
theorem uc_odd (g : Ab v bs a b) (c : Cy v bs a b p) : ∀ k m, uc bs a b p m ≠ uc bs a b p (m + 2 * k + 1)
  | 0, m => fun e => (uc_th g c m).ny e.symm
  | k + 1, m => fun e => by
    have h1 := uc_back g c (m + 2 * (k + 1))
    rw [← e, cm_add] at h1
    have h2 : uc bs a b p (m + 1) = uc bs a b p ((m + 1) + 2 * k + 1) := by
      rw [uc, h1]
      congr 1
      omega
    exact uc_odd g c k (m + 1) h2
theorem uc_even (g : Ab v bs a b) (c : Cy v bs a b p) (k : Nat) : ∀ m, uc bs a b p m = uc bs a b p (m + 2 * k) → uc bs a b p (2 * k) = p
  | 0, e => by rw [Nat.zero_add] at e; exact e.symm
  | m + 1, e => by
    refine uc_even g c k m ?_
    have h1 := uc_back g c m
    have h2 := uc_back g c (m + 2 * k)
    rw [cm_add] at h2
    rw [← h1, ← h2, e]
    congr 2
    omega
theorem nodup_len {α : Type} [DecidableEq α] : ∀ (l1 l2 : List α), l1.Nodup → (∀ x ∈ l1, x ∈ l2) → l1.length ≤ l2.length
  | [], l2, _, _ => Nat.zero_le _
  | a :: l1, l2, hn, hs => by
    obtain ⟨h1, h2⟩ := List.nodup_cons.1 hn
    have ha := hs a (by simp)
    have he := List.length_erase_of_mem ha
    have hp := List.length_pos_of_mem ha
    have := nodup_len l1 (l2.erase a) h2 (fun y hy => (List.mem_erase_of_ne (fun e => by subst e; exact h1 hy)).2 (hs y (by simp [hy])))
    rw [List.length_cons]
    omega
/-- The length of the cycle is 2 N. -/
structure Per (bs : List B3) (a b p : Int) (N : Nat) : Prop where
  pos : 0 < N
  le : N ≤ 15
  ret : uc bs a b p (2 * N) = p
  least : ∀ k, 0 < k → k < N → uc bs a b p (2 * k) ≠ p
theorem per_some (g : Ab v bs a b) (c : Cy v bs a b p) : ∃ N, Per bs a b p N := by
  have hhi := g.h.hi
  have h1 : ∃ k, 0 < k ∧ k ≤ 15 ∧ uc bs a b p (2 * k) = p := by
    apply Classical.byContradiction
    intro hc
    have hn : ((List.range 16).map fun i => uc bs a b p (2 * i)).Nodup := by
      unfold List.Nodup
      rw [List.pairwise_map]
      refine List.Pairwise.imp_of_mem ?_ (List.pairwise_lt_range (n := 16))
      intro i j hi hj hij e
      rw [List.mem_range] at hi hj
      have := uc_even g c (j - i) (2 * i) (by rw [e]; congr 1; omega)
      exact hc ⟨j - i, by omega, by omega, this⟩
    have := nodup_len _ ((List.range 15).map fun i : Nat => (i : Int)) hn (fun z hz => by
      obtain ⟨i, _, rfl⟩ := List.mem_map.1 hz
      have := (uc_cy g c (2 * i)).pt
      unfold Pt at this
      exact List.mem_map.2 ⟨(uc bs a b p (2 * i)).toNat, List.mem_range.2 (by omega), by omega⟩)
    simp at this
  obtain ⟨k, hk0, hk15, hk⟩ := h1
  obtain ⟨N, ⟨h2, h3⟩, h4⟩ := leastN (p := fun k => 0 < k ∧ uc bs a b p (2 * k) = p) k ⟨hk0, hk⟩
  exact ⟨N, h2, Nat.le_trans (h4 k ⟨hk0, hk⟩) hk15, h3, fun j hj hjN e => by have := h4 j ⟨hj, e⟩; omega⟩
theorem per_inj (g : Ab v bs a b) (c : Cy v bs a b p) (P : Per bs a b p N) (hmn : m < n) (hn : n < 2 * N) : uc bs a b p m ≠ uc bs a b p n := by
  intro e
  rcases Nat.mod_two_eq_zero_or_one (n - m) with h | h
  · have := uc_even g c ((n - m) / 2) m (by rw [e]; congr 1; omega)
    exact P.least ((n - m) / 2) (by omega) (by omega) this
  · exact uc_odd g c ((n - m) / 2) m (by rw [e]; congr 1; omega)
end
end Go.Vc
/-
  Plain words: the blocks of a cycle, and those in which two points are exchanged.
-/
namespace Go.Vc
section
variable {v : Int} {bs : List B3} {a b p x y z : Int} {m n N : Nat} {d : B3}
noncomputable def ucE (bs : List B3) (a b p : Int) (m : Nat) : B3 := bk3 (cm a b m) (uc bs a b p m) (uc bs a b p (m + 1))
noncomputable def ucF (bs : List B3) (a b p : Int) (m : Nat) : B3 := bk3 (cm b a m) (uc bs a b p m) (uc bs a b p (m + 1))
noncomputable def outL (bs : List B3) (a b p : Int) (N : Nat) : List B3 := (List.range (2 * N)).map (ucE bs a b p)
noncomputable def inL (bs : List B3) (a b p : Int) (N : Nat) : List B3 := (List.range (2 * N)).map (ucF bs a b p)
noncomputable def cycL (bs : List B3) (a b p : Int) (N : Nat) : List Int := (List.range (2 * N)).map (uc bs a b p)
theorem bk3_is {v : Int} {B : B3} (hg : good v B) {x y z : Int} (t : Tri B x y z) : bk3 x y z = B := by
  have h1 := t.h1
  have h2 := t.h2
  have h3 := t.h3
  have n1 := t.1
  have n2 := t.2.1
  have n3 := t.2.2.1
  obtain ⟨p, q, r⟩ := B
  unfold good at hg
  unfold has at h1 h2 h3
  unfold bk3 mi3 lo3 hi3
  simp only at *
  rw [Prod.mk.injEq, Prod.mk.injEq]
  omega
theorem ucE_tri (g : Ab v bs a b) (c : Cy v bs a b p) (m : Nat) : ucE bs a b p m ∈ bs ∧ Tri (ucE bs a b p m) (cm a b m) (uc bs a b p m) (uc bs a b p (m + 1)) := by
  obtain ⟨d, hd, t⟩ := (uc_th g c m).blk
  have e : ucE bs a b p m = d := bk3_is (g.h.good d hd) t
  rw [e]
  exact ⟨hd, t⟩
theorem cm_or (m : Nat) : cm a b m = a ∨ cm a b m = b := by
  unfold cm
  split
  · exact .inl rfl
  · exact .inr rfl
theorem uc_not (g : Ab v bs a b) (c : Cy v bs a b p) (m n : Nat) : uc bs a b p n ≠ cm a b m := by
  have k := uc_cy g c n
  rcases cm_or (a := a) (b := b) m with e | e <;> rw [e]
  · exact k.na
  · exact k.nb
theorem ucE_inj (g : Ab v bs a b) (c : Cy v bs a b p) (P : Per bs a b p N) (hmn : m < n) (hn : n < 2 * N) : ucE bs a b p m ≠ ucE bs a b p n := by
  intro e
  have t1 := (ucE_tri g c m).2
  have t2 := (ucE_tri g c n).2
  rw [← e] at t2
  by_cases hp : m % 2 = n % 2
  · rcases (t2.2.2.2 _).1 t1.h2 with h | h | h
    · exact uc_not g c n m h
    · exact per_inj g c P hmn hn h
    · exact uc_odd g c ((n - m) / 2) m (by rw [h]; congr 1; omega)
  · rcases (t1.2.2.2 _).1 t2.h1 with h | h | h
    · unfold cm at h
      have := g.ne
      split at h <;> split at h <;> first | omega | exact this h | exact this h.symm
    · exact uc_not g c n m h.symm
    · exact uc_not g c n (m + 1) h.symm
theorem outL_nodup (g : Ab v bs a b) (c : Cy v bs a b p) (P : Per bs a b p N) : (outL bs a b p N).Nodup := by
  unfold outL List.Nodup
  rw [List.pairwise_map]
  refine List.Pairwise.imp_of_mem ?_ (List.pairwise_lt_range (n := 2 * N))
  intro i j hi hj hij
  rw [List.mem_range] at hj
  exact ucE_inj g c P hij hj
theorem bl_tri (hg : good v d) (t : Tri d x y z) : (bl d).Perm [x, y, z] := by
  have n1 : (bl d).Nodup := by
    unfold good at hg
    unfold bl
    simp
    omega
  have n2 : [x, y, z].Nodup := by
    have := t.1
    have := t.2.1
    have := t.2.2.1
    simp
    omega
  refine (List.perm_ext_iff_of_nodup n1 n2).2 fun u => ?_
  rw [mem_bl, t.2.2.2 u]
  simp
theorem mem_cycL (g : Ab v bs a b) (c : Cy v bs a b p) (P : Per bs a b p N) {u : Int} : u ∈ cycL bs a b p N ↔ ∃ m, m < 2 * N ∧ uc bs a b p m = u := by
  unfold cycL
  rw [List.mem_map]
  exact ⟨fun ⟨m, h, e⟩ => ⟨m, List.mem_range.1 h, e⟩, fun ⟨m, h, e⟩ => ⟨m, List.mem_range.2 h, e⟩⟩
theorem uc_in (g : Ab v bs a b) (c : Cy v bs a b p) (P : Per bs a b p N) (hm : m ≤ 2 * N) : uc bs a b p m ∈ cycL bs a b p N := by
  rw [mem_cycL g c P]
  by_cases e : m = 2 * N
  · subst e
    exact ⟨0, by have := P.pos; omega, P.ret.symm⟩
  · exact ⟨m, by omega, rfl⟩
def cntY (l : List Int) (d : B3) : Nat := ((bl d).filter fun q => decide (q ∈ l)).length
def inY (l : List Int) (a b : Int) (d : B3) : Prop := cntY l d = 2 ∧ (has d a ∨ has d b)
instance (l : List Int) (a b : Int) (d : B3) : Decidable (inY l a b d) := inferInstanceAs (Decidable (_ ∧ _))
theorem cyc_mem (g : Ab v bs a b) (c : Cy v bs a b p) (P : Per bs a b p N) (hd : d ∈ bs) : inY (cycL bs a b p N) a b d ↔ d ∈ outL bs a b p N := by
  have hg := g.h.good d hd
  have nc : ∀ m, cm a b m ∉ cycL bs a b p N := fun m hm => by
    obtain ⟨k, _, e⟩ := (mem_cycL g c P).1 hm
    exact uc_not g c m k e
  unfold inY cntY outL
  rw [List.mem_map]
  constructor
  · rintro ⟨h1, h2⟩
    have key : ∀ e : Int, has d e → (∃ m0, cm a b m0 = e) → (∀ m, m ≤ 2 * N → cm a b m = e → True) → ∃ o1 o2, Tri d e o1 o2 ∧ o1 ∈ cycL bs a b p N ∧ o2 ∈ cycL bs a b p N := fun e he hm _ => by
      obtain ⟨m0, hm0⟩ := hm
      have t := tri_oth hg he
      have h3 := ((bl_tri hg t).filter fun q => decide (q ∈ cycL bs a b p N)).length_eq
      rw [h1] at h3
      have hn : e ∉ cycL bs a b p N := by rw [← hm0]; exact nc m0
      have three : ∀ o1 o2 : Int, 2 = ([e, o1, o2].filter fun q => decide (q ∈ cycL bs a b p N)).length → o1 ∈ cycL bs a b p N ∧ o2 ∈ cycL bs a b p N := fun o1 o2 h => by
        rw [List.filter_cons_of_neg (by simpa using hn)] at h
        by_cases k1 : o1 ∈ cycL bs a b p N <;> by_cases k2 : o2 ∈ cycL bs a b p N
        · exact ⟨k1, k2⟩
        · rw [List.filter_cons_of_pos (by simpa using k1), List.filter_cons_of_neg (by simpa using k2)] at h
          simp at h
        · rw [List.filter_cons_of_neg (by simpa using k1), List.filter_cons_of_pos (by simpa using k2)] at h
          simp at h
        · rw [List.filter_cons_of_neg (by simpa using k1), List.filter_cons_of_neg (by simpa using k2)] at h
          simp at h
      exact ⟨_, _, t, three _ _ h3⟩
    have fin : ∀ e : Int, has d e → (∃ r : Nat, r < 2 ∧ ∀ m, m % 2 = r → cm a b m = e) → ∃ m, m ∈ List.range (2 * N) ∧ ucE bs a b p m = d := fun e he hr => by
      obtain ⟨r, hr2, hr⟩ := hr
      obtain ⟨o1, o2, t, h5, h6⟩ := key e he ⟨r, hr r (by omega)⟩ (fun _ _ _ => trivial)
      obtain ⟨m, hm, e1⟩ := (mem_cycL g c P).1 h5
      have hN := P.pos
      by_cases hp : m % 2 = r
      · refine ⟨m, List.mem_range.2 hm, ?_⟩
        have t2 := ucE_tri g c m
        rw [hr m hp, e1] at t2
        exact two_mem g.h t2.1 hd t.1 t2.2.h1 t2.2.h2 t.h1 t.h2
      · have ⟨k, hk, hkr, ek⟩ : ∃ k, k < 2 * N ∧ k % 2 = r ∧ uc bs a b p (k + 1) = o1 := by
          by_cases h0 : m = 0
          · subst h0
            exact ⟨2 * N - 1, by omega, by omega, by rw [show 2 * N - 1 + 1 = 2 * N by omega, P.ret]; exact e1⟩
          · exact ⟨m - 1, by omega, by omega, by rw [show m - 1 + 1 = m by omega]; exact e1⟩
        refine ⟨k, List.mem_range.2 hk, ?_⟩
        have t2 := ucE_tri g c k
        rw [hr k hkr, ek] at t2
        exact two_mem g.h t2.1 hd t.1 t2.2.h1 t2.2.h3 t.h1 t.h2
    rcases h2 with h2 | h2
    · exact fin a h2 ⟨0, by omega, fun m hm => by unfold cm; rw [if_pos hm]⟩
    · exact fin b h2 ⟨1, by omega, fun m hm => by unfold cm; rw [if_neg (by omega)]⟩
  · rintro ⟨m, hm, rfl⟩
    rw [List.mem_range] at hm
    have t := (ucE_tri g c m).2
    have h3 := ((bl_tri hg t).filter fun q => decide (q ∈ cycL bs a b p N)).length_eq
    refine ⟨?_, ?_⟩
    · rw [h3]
      simp [List.filter_cons, nc m, uc_in g c P (show m ≤ 2 * N by omega), uc_in g c P (show m + 1 ≤ 2 * N by omega)]
    · rcases cm_or (a := a) (b := b) m with e | e
      · have h := t.h1; rw [e] at h; exact .inl h
      · have h := t.h1; rw [e] at h; exact .inr h
end
end Go.Vc
/-
  Plain words: what both CycleTrade return.
-/
namespace Go.Vc
def sw2 (a b t : Int) : Int := if t = a then b else if t = b then a else t
def exB (a b : Int) (d : B3) : B3 := bk3 (sw2 a b d.1) (sw2 a b d.2.1) (sw2 a b d.2.2)
section
variable {v : Int} {bs : List B3} {a b p x y z : Int} {m n N : Nat} {d : B3}
theorem exB_tri (hg : good v d) (t : Tri d x y z) : exB a b d = bk3 (sw2 a b x) (sw2 a b y) (sw2 a b z) := by
  have h1 := t.h1
  have h2 := t.h2
  have h3 := t.h3
  have n1 := t.1
  have n2 := t.2.1
  have n3 := t.2.2.1
  obtain ⟨p, q, r⟩ := d
  unfold has at h1 h2 h3
  unfold exB
  simp only at *
  unfold bk3 mi3 lo3 hi3
  generalize hA : sw2 a b p = A
  generalize hB : sw2 a b q = B
  generalize hC : sw2 a b r = C
  rcases h1 with rfl | rfl | rfl <;> rcases h2 with rfl | rfl | rfl <;> rcases h3 with rfl | rfl | rfl <;> first | omega | (rw [hA, hB, hC, Prod.mk.injEq, Prod.mk.injEq]; omega)
theorem exE (g : Ab v bs a b) (c : Cy v bs a b p) (m : Nat) : exB a b (ucE bs a b p m) = ucF bs a b p m := by
  obtain ⟨hd, t⟩ := ucE_tri g c m
  have k1 := uc_cy g c m
  have k2 := uc_cy g c (m + 1)
  rw [exB_tri (g.h.good _ hd) t]
  have e1 : sw2 a b (uc bs a b p m) = uc bs a b p m := by unfold sw2; rw [if_neg k1.na, if_neg k1.nb]
  have e2 : sw2 a b (uc bs a b p (m + 1)) = uc bs a b p (m + 1) := by unfold sw2; rw [if_neg k2.na, if_neg k2.nb]
  have e3 : sw2 a b (cm a b m) = cm b a m := by
    unfold sw2 cm
    by_cases h : m % 2 = 0
    · rw [if_pos h, if_pos h, if_pos rfl]
    · rw [if_neg h, if_neg h, if_neg (fun e => g.ne e.symm), if_pos rfl]
  rw [e1, e2, e3]
  rfl
theorem inL_map (g : Ab v bs a b) (c : Cy v bs a b p) : (outL bs a b p N).map (exB a b) = inL bs a b p N := by
  unfold outL inL
  rw [List.map_map]
  apply List.map_congr_left
  intro m _
  exact exE g c m
theorem outB_perm (g : Ab v bs a b) (c : Cy v bs a b p) (P : Per bs a b p N) : (bs.filter fun d => decide (inY (cycL bs a b p N) a b d)).Perm (outL bs a b p N) := by
  have hbn : bs.Nodup := by
    have h1 : bs.Pairwise B3.lt := by
      have h' : STS ((v.toNat : Nat) : Int) bs := by have := g.h.lo; rw [show ((v.toNat : Nat) : Int) = v by omega]; exact g.h
      exact (sts_rest h').lt
    exact h1.imp fun h => by rintro rfl; exact lt_irrefl _ h
  refine (List.perm_ext_iff_of_nodup (hbn.sublist List.filter_sublist) (outL_nodup g c P)).2 fun d => ?_
  rw [List.mem_filter, decide_eq_true_eq]
  constructor
  · rintro ⟨h1, h2⟩; exact (cyc_mem g c P h1).1 h2
  · intro h
    have hd : d ∈ bs := by
      unfold outL at h
      obtain ⟨m, _, rfl⟩ := List.mem_map.1 h
      exact (ucE_tri g c m).1
    exact ⟨hd, (cyc_mem g c P hd).2 h⟩
theorem Per.unique {M : Nat} (h1 : Per bs a b p N) (h2 : Per bs a b p M) : N = M := by
  rcases Nat.lt_trichotomy N M with h | h | h
  · exact absurd h1.ret (h2.least N h1.pos h)
  · exact h
  · exact absurd h2.ret (h1.least M h2.pos h)
theorem third_tab (h : STS v bs) (hxy : x ≠ y) : third bs x y = tab bs x y := by
  by_cases hc : tab bs x y = -1
  · rw [hc]
    have h1 := (tab_left (fun b hb => (h.good b hb).three) x y).1 hc
    exact (third_none fun j hj hh => h1 _ (List.getElem_mem hj) ⟨hh.1, hh.2, hxy⟩).2
  · obtain ⟨d, hd, t⟩ := tab_some h hxy hc
    obtain ⟨k, hk, rfl⟩ := List.mem_iff_getElem.1 hd
    exact (third_tri h hk t).2
/-- The arguments fit. -/
def CyOk (v : Int) (bs : List B3) (a b p : Int) : Prop := Pt v a ∧ Pt v b ∧ Pt v p ∧ a ≠ b ∧ p ≠ a ∧ p ≠ b ∧ p ≠ third bs a b
noncomputable instance (v : Int) (bs : List B3) (a b p : Int) : Decidable (CyOk v bs a b p) := Classical.propDecidable _
noncomputable def cyCode (v : Int) (bs : List B3) (a b p : Int) : Int := if STS v bs then if CyOk v bs a b p then if 6 * (bs.length : Int) = v * (v - 1) then 0 else 5 else 2 else 1
/-- The blocks that are taken out and put in. -/
def CYR (v : Int) (bs : List B3) (a b p : Int) (o i : List B3) : Prop := (cyCode v bs a b p = 0 → ∃ N, Per bs a b p N ∧ (o.Perm (outL bs a b p N) ∧ SrtB o) ∧ (i.Perm (inL bs a b p N) ∧ SrtB i)) ∧ (¬ cyCode v bs a b p = 0 → o = [] ∧ i = [])
theorem CYR.unique {o i o' i' : List B3} (h1 : CYR v bs a b p o i) (h2 : CYR v bs a b p o' i') : o = o' ∧ i = i' := by
  by_cases h : cyCode v bs a b p = 0
  · obtain ⟨N, P, ⟨p1, s1⟩, p2, s2⟩ := h1.1 h
    obtain ⟨M, Q, ⟨q1, r1⟩, q2, r2⟩ := h2.1 h
    have e := P.unique Q
    subst e
    exact ⟨srtB_unique s1 r1 (p1.trans q1.symm), srtB_unique s2 r2 (p2.trans q2.symm)⟩
  · obtain ⟨e1, e2⟩ := h1.2 h
    obtain ⟨e3, e4⟩ := h2.2 h
    exact ⟨e1.trans e3.symm, e2.trans e4.symm⟩
theorem cy_ok (h : cyCode v bs a b p = 0) : Ab v bs a b ∧ Cy v bs a b p := by
  unfold cyCode at h
  split at h
  · rename_i hS
    split at h
    · rename_i hc
      split at h
      · rename_i hf
        obtain ⟨h1, h2, h3, h4, h5, h6, h7⟩ := hc
        exact ⟨⟨hS, full_all hS hf, h1, h2, h4⟩, h3, h5, h6, h7⟩
      · omega
    · omega
  · omega
theorem CYR.len {o i : List B3} (h1 : CYR v bs a b p o i) : o.length ≤ 30 ∧ i.length ≤ 30 := by
  by_cases h : cyCode v bs a b p = 0
  · obtain ⟨N, P, ⟨p1, s1⟩, p2, s2⟩ := h1.1 h
    have := P.le
    rw [p1.length_eq, p2.length_eq]
    unfold outL inL
    simp
    omega
  · obtain ⟨e1, e2⟩ := h1.2 h
    rw [e1, e2]
    simp
end
end Go.Vc
namespace Go.Vc
section
variable {v : Int} {bs : List B3} {a b p : Int} {i N : Nat}
theorem uc_tab (g : Ab v bs a b) (c : Cy v bs a b p) (i : Nat) : (tab bs a (uc bs a b p (2 * i)) = uc bs a b p (2 * i + 1) ∧ tab bs b (uc bs a b p (2 * i + 1)) = uc bs a b p (2 * (i + 1))) ∧ (third bs a (uc bs a b p (2 * i)) = uc bs a b p (2 * i + 1) ∧ third bs b (uc bs a b p (2 * i + 1)) = uc bs a b p (2 * (i + 1))) := by
  have t1 := (uc_th g c (2 * i)).eq g.h
  have t2 := (uc_th g c (2 * i + 1)).eq g.h
  rw [show cm a b (2 * i) = a by unfold cm; rw [if_pos (by omega)]] at t1
  rw [show cm a b (2 * i + 1) = b by unfold cm; rw [if_neg (by omega)]] at t2
  exact ⟨⟨t1.2, t2.2⟩, t1.1, t2.1⟩
theorem uc_pt15 (g : Ab v bs a b) (c : Cy v bs a b p) (m : Nat) : 0 ≤ uc bs a b p m ∧ uc bs a b p m < 15 := by
  have h := (uc_cy g c m).pt
  have := g.h.hi
  unfold Pt at h
  omega
theorem rg_snoc {α : Type} (f : Nat → α) (i : Nat) : (List.range (2 * (i + 1))).map f = (List.range (2 * i)).map f ++ [f (2 * i), f (2 * i + 1)] := by
  rw [show 2 * (i + 1) = 2 * i + 1 + 1 by omega, List.range_succ, List.range_succ, List.map_append, List.map_append]
  simp
theorem per_end (P : Per bs a b p N) (hi : i < N) (e : uc bs a b p (2 * (i + 1)) = p) : N = i + 1 := by
  by_cases h : i + 1 < N
  · exact absurd e (P.least (i + 1) (by omega) h)
  · omega
theorem per_more (P : Per bs a b p N) (hi : i < N) (e : ¬ uc bs a b p (2 * (i + 1)) = p) : i + 1 < N := by
  by_cases h : i + 1 = N
  · exact absurd (by rw [h]; exact P.ret) e
  · omega
end
end Go.Vc
namespace Go.Vc
section
variable {v : Int} {bs : List B3} {a b p : Int} {i N : Nat}
theorem ucE_ev : ucE bs a b p (2 * i) = bk3 a (uc bs a b p (2 * i)) (uc bs a b p (2 * i + 1)) := by unfold ucE cm; rw [if_pos (by omega)]
theorem ucE_od : ucE bs a b p (2 * i + 1) = bk3 b (uc bs a b p (2 * i + 1)) (uc bs a b p (2 * (i + 1))) := by
  unfold ucE cm
  rw [if_neg (by omega)]
  rfl
theorem ucF_ev : ucF bs a b p (2 * i) = bk3 b (uc bs a b p (2 * i)) (uc bs a b p (2 * i + 1)) := by unfold ucF cm; rw [if_pos (by omega)]
theorem ucF_od : ucF bs a b p (2 * i + 1) = bk3 a (uc bs a b p (2 * i + 1)) (uc bs a b p (2 * (i + 1))) := by
  unfold ucF cm
  rw [if_neg (by omega)]
  rfl
theorem cyCode_0 (h : STS v bs) (hc : CyOk v bs a b p) (hf : 6 * (bs.length : Int) = v * (v - 1)) : cyCode v bs a b p = 0 := by
  unfold cyCode
  rw [if_pos h, if_pos hc, if_pos hf]
theorem cyCode_5 (h : STS v bs) (hc : CyOk v bs a b p) (hf : ¬ 6 * (bs.length : Int) = v * (v - 1)) : cyCode v bs a b p = 5 := by
  unfold cyCode
  rw [if_pos h, if_pos hc, if_neg hf]
theorem cyCode_2 (h : STS v bs) (hc : ¬ CyOk v bs a b p) : cyCode v bs a b p = 2 := by
  unfold cyCode
  rw [if_pos h, if_neg hc]
theorem cyCode_1 (h : ¬ STS v bs) : cyCode v bs a b p = 1 := by
  unfold cyCode
  rw [if_neg h]
theorem cyR_no {k : Int} (h : cyCode v bs a b p = k) (hk : k ≠ 0) : CYR v bs a b p [] [] := ⟨fun e => absurd (h.symm.trans e) hk, fun _ => ⟨rfl, rfl⟩⟩
theorem sts_mul' (h : STS v bs) : 0 ≤ v * (v - 1) ∧ v * (v - 1) ≤ 1000000 := by
  have hlo := h.lo
  have hhi := h.hi
  obtain ⟨V, hV⟩ := Int.eq_ofNat_of_zero_le (show 0 ≤ v by omega)
  subst hV
  have := (mul15 V (by omega)).1
  omega
end
end Go.Vc
namespace Go.Vc
section
variable {v : Int} {bs : List B3} {a b p : Int} {k : Nat}
theorem flt_yes {P : B3 → Bool} (hk : k < bs.length) (h : P bs[k] = true) : (bs.take (k + 1)).filter P = (bs.take k).filter P ++ [bs[k]] := by
  rw [take_snoc hk, List.filter_append]
  simp [h]
theorem flt_no {P : B3 → Bool} (hk : k < bs.length) (h : P bs[k] = false) : (bs.take (k + 1)).filter P = (bs.take k).filter P := by
  rw [take_snoc hk, List.filter_append]
  simp [h]
theorem cntY_val (l : List Int) (d : B3) : cntY l d = (if d.1 ∈ l then 1 else 0) + (if d.2.1 ∈ l then 1 else 0) + (if d.2.2 ∈ l then 1 else 0) := by
  unfold cntY bl
  by_cases h1 : d.1 ∈ l <;> by_cases h2 : d.2.1 ∈ l <;> by_cases h3 : d.2.2 ∈ l <;> simp [List.filter_cons, h1, h2, h3]
theorem flt_srt (h : STS v bs) {P : B3 → Bool} : SrtB (bs.filter P) := by
  have h1 : bs.Pairwise B3.lt := by
    have h' : STS ((v.toNat : Nat) : Int) bs := by have := h.lo; rw [show ((v.toNat : Nat) : Int) = v by omega]; exact h
    exact (sts_rest h').lt
  exact srtB_lt (h1.sublist List.filter_sublist)
end
end Go.Vc
