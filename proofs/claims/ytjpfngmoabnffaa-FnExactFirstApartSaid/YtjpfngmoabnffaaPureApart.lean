/-
  Plain words: the first system that is apart; how many blocks are common.
-/
import Derived.Test.YtjpfngmoabnffaaPureNum
set_option linter.unusedVariables false
set_option linter.unusedSimpArgs false
namespace Go.Vc
/-- No block in common. -/
def ApartB (bs q : List B3) : Prop := ∀ b ∈ bs, b ∉ q
instance (bs q : List B3) : Decidable (ApartB bs q) := inferInstanceAs (Decidable (∀ b ∈ bs, b ∉ q))
theorem apart_I {bs q : List B3} : (bs.filter fun b => decide (b ∈ q)).length = 0 ↔ ApartB bs q := by
  rw [List.length_eq_zero_iff, List.filter_eq_nil_iff]
  unfold ApartB
  simp
theorem apart_S {bs q : List B3} : (q.filter fun b => decide (b ∈ bs)).length = 0 ↔ ApartB bs q := by
  rw [List.length_eq_zero_iff, List.filter_eq_nil_iff]
  unfold ApartB
  simp only [decide_eq_true_eq]
  exact ⟨fun h b h1 h2 => h b h2 h1, fun h b h1 h2 => h b h2 h1⟩
/-- The first of all systems that is apart. -/
noncomputable def firstA (v : Int) (bs : List B3) : Option (List B3) := (allN v).find? fun q => decide (ApartB bs q)
theorem firstA_at {v : Int} {bs : List B3} {ps : List (Sl × List B3)} (h : conts ps = allN v) {i : Nat} (hi : i < ps.length) (h1 : ApartB bs (ps[i]).2) (h2 : ∀ j (hj : j < ps.length), j < i → ¬ ApartB bs (ps[j]).2) : firstA v bs = some (ps[i]).2 := by
  have hl := conts_len ps
  unfold firstA
  rw [← h, List.find?_eq_some_iff_getElem]
  refine ⟨decide_eq_true h1, i, by omega, conts_get ps (by omega), fun j hj => ?_⟩
  rw [conts_get ps (by omega), decide_eq_false (h2 j (by omega) hj)]
  rfl
theorem firstA_no {v : Int} {bs : List B3} {ps : List (Sl × List B3)} (h : conts ps = allN v) (h2 : ∀ j (hj : j < ps.length), ¬ ApartB bs (ps[j]).2) : firstA v bs = none := by
  unfold firstA
  rw [← h, List.find?_eq_none]
  intro q hq
  obtain ⟨x, hx, rfl⟩ := List.mem_map.1 hq
  obtain ⟨j, hj, rfl⟩ := List.getElem_of_mem hx
  simpa using h2 j hj
/-- What both FirstApart return. -/
noncomputable def apR (v : Int) (bs : List B3) : Int × List B3 × Int :=
  if STS v bs then if Few v bs then match firstA v bs with | some q => (v, q, 0) | none => (0, [], 4) else (0, [], 5) else (0, [], 1)
theorem apR_1 {v : Int} {bs : List B3} (h : ¬ STS v bs) : apR v bs = (0, [], 1) := by unfold apR; rw [if_neg h]
theorem apR_5 {v : Int} {bs : List B3} (h : STS v bs) (h2 : ¬ Few v bs) : apR v bs = (0, [], 5) := by unfold apR; rw [if_pos h, if_neg h2]
theorem apR_4 {v : Int} {bs : List B3} (h : STS v bs) (h2 : Few v bs) (h3 : firstA v bs = none) : apR v bs = (0, [], 4) := by unfold apR; rw [if_pos h, if_pos h2, h3]
theorem apR_0 {v : Int} {bs q : List B3} (h : STS v bs) (h2 : Few v bs) (h3 : firstA v bs = some q) : apR v bs = (v, q, 0) := by unfold apR; rw [if_pos h, if_pos h2, h3]
theorem apR_no {v : Int} {bs : List B3} {c : Int} (hc : (if STS v bs then if Few v bs then (0 : Int) else 5 else 1) = c) (h : ¬ c = 0) : apR v bs = (0, [], c) := by
  subst hc
  by_cases h1 : STS v bs
  · by_cases h2 : Few v bs
    · rw [if_pos h1, if_pos h2] at h; exact absurd rfl h
    · rw [if_pos h1, if_neg h2]; exact apR_5 h1 h2
  · rw [if_neg h1]; exact apR_1 h1
theorem apR_len {v : Int} {bs : List B3} : (apR v bs).2.1.length ≤ 40 := by
  unfold apR
  split
  · split
    · rename_i hS hF
      split
      · rename_i q hq
        have h := List.mem_of_find?_eq_some hq
        exact compM_len 40 _ _ _ h
      · simp
    · simp
  · simp
/-- How many of the first i lists have q blocks of bs, for each q. -/
def cntC (bs : List B3) (ls : List (List B3)) (n i : Nat) : List Int := (List.range n).map fun q => (((ls.take i).filter fun y => decide ((bs.filter fun b => decide (b ∈ y)).length = q)).length : Int)
section
variable {bs : List B3} {ls : List (List B3)} {n i : Nat}
theorem cntC_len : (cntC bs ls n i).length = n := by simp [cntC]
theorem cntC_start : cntC bs ls n 0 = List.replicate n 0 := by
  apply List.ext_getElem
  · simp [cntC_len]
  · intro j h1 h2
    simp [cntC]
theorem cntC_bd {q : Nat} (hq : q < (cntC bs ls n i).length) : 0 ≤ (cntC bs ls n i)[q] ∧ (cntC bs ls n i)[q] ≤ i := by
  simp only [cntC, List.getElem_map, List.getElem_range]
  have h1 := List.length_filter_le (fun y : List B3 => decide ((bs.filter fun b => decide (b ∈ y)).length = q)) (ls.take i)
  have h2 := List.length_take_le i ls
  omega
theorem cntC_step (hi : i < ls.length) {q : Nat} (e : (bs.filter fun b => decide (b ∈ ls[i])).length = q) (hq : q < (cntC bs ls n i).length) : (cntC bs ls n i).set q ((cntC bs ls n i)[q] + 1) = cntC bs ls n (i + 1) := by
  apply List.ext_getElem
  · rw [List.length_set, cntC_len, cntC_len]
  · intro j h1 h2
    rw [List.getElem_set]
    have hs : ∀ z, (((ls.take (i + 1)).filter fun y => decide ((bs.filter fun b => decide (b ∈ y)).length = z)).length : Int) = ((ls.take i).filter fun y => decide ((bs.filter fun b => decide (b ∈ y)).length = z)).length + (if q = z then 1 else 0) := by
      intro z
      rw [take_snoc hi, List.filter_append, List.length_append]
      by_cases hz : q = z
      · subst hz
        simp [e]
      · simp [e, hz]
    by_cases ej : q = j
    · subst ej
      rw [if_pos rfl]
      simp only [cntC, List.getElem_map, List.getElem_range]
      rw [hs, if_pos rfl]
    · rw [if_neg ej]
      simp only [cntC, List.getElem_map, List.getElem_range]
      rw [hs, if_neg ej]
      simp
end
theorem cmn_le {bs q : List B3} : (bs.filter fun b => decide (b ∈ q)).length ≤ bs.length := List.length_filter_le _ _
/-- Whichever list is gone through. -/
theorem cmn_comm {bs q : List B3} (h1 : bs.Pairwise B3.lt) (h2 : q.Pairwise B3.lt) : (q.filter fun b => decide (b ∈ bs)).length = (bs.filter fun b => decide (b ∈ q)).length := by
  have n1 : bs.Nodup := h1.imp fun h => by rintro rfl; exact lt_irrefl _ h
  have n2 : q.Nodup := h2.imp fun h => by rintro rfl; exact lt_irrefl _ h
  refine ((List.perm_ext_iff_of_nodup (n2.filter _) (n1.filter _)).2 fun b => ?_).length_eq
  simp only [List.mem_filter, decide_eq_true_eq]
  exact And.comm
/-- What both CommonNumbers return. -/
noncomputable def cmR (v : Int) (bs : List B3) : List Int × Int :=
  if STS v bs then if Few v bs then (cntC bs (allN v) (bs.length + 1) (allN v).length, 0) else ([], 5) else ([], 1)
theorem cmR_no {v : Int} {bs : List B3} {c : Int} (hc : (if STS v bs then if Few v bs then (0 : Int) else 5 else 1) = c) (h : ¬ c = 0) : cmR v bs = ([], c) := by
  subst hc
  unfold cmR
  by_cases h1 : STS v bs
  · by_cases h2 : Few v bs
    · rw [if_pos h1, if_pos h2] at h; exact absurd rfl h
    · rw [if_pos h1, if_neg h2, if_pos h1, if_neg h2]
  · rw [if_neg h1, if_neg h1]
theorem cmR_0 {v : Int} {bs : List B3} (h : STS v bs) (h2 : Few v bs) : cmR v bs = (cntC bs (allN v) (bs.length + 1) (allN v).length, 0) := by unfold cmR; rw [if_pos h, if_pos h2]
theorem cmR_len {v : Int} {bs : List B3} : (cmR v bs).1.length ≤ bs.length + 1 := by
  unfold cmR
  split
  · split
    · rw [cntC_len]; omega
    · simp
  · simp
section
variable {w0 w : World} {H : List Assn} {α : Type} {T : TypeId} {C : Cod α}
/-- One row is kept. -/
theorem RowsA.out {ps : List (Sl × List α)} {k : Nat} (hk : k < ps.length) (hw : St w0 (RowsA T C ps :: H) w) : St w0 (Own T C (ps[k]).1.A (ps[k]).1.c (ps[k]).2 :: H) w := by
  have e : ps = ps.take k ++ ps[k] :: ps.drop (k + 1) := by
    rw [← List.drop_eq_getElem_cons hk, List.take_append_drop]
  have hp : ps.Perm (ps[k] :: (ps.take k ++ ps.drop (k + 1))) := by
    conv => lhs; rw [e]
    exact List.perm_middle
  have h1 := RowsA.perm hp hw
  exact ((RowsA.uncons (s := (ps[k]).1) (xs := (ps[k]).2) h1).2).sub (Sub.keep 0 rfl (Sub.drop (Sub.refl _)))
end
end Go.Vc
