/-
  Plain words: how many lists of blocks have a point.
-/
import Derived.Test.YtnbbkcpafkooaaaPurePasch2
set_option linter.unusedVariables false
set_option linter.unusedSimpArgs false
namespace Go.Vc
open Classical in
/-- A list's blocks have a point. -/
noncomputable def hitsQ (bs : List B3) (q : List Int) (p : Int) : Int := if ∃ k ∈ q, has (blk bs k) p then 1 else 0
noncomputable def hitsP (bs : List B3) (ls : List (List Int)) (p : Int) : Int := (ls.map fun q => hitsQ bs q p).sum
noncomputable def mixP (bs : List B3) (ls : List (List Int)) (n i p : Nat) : List Int := (List.range n).map fun q => if q < p then hitsP bs (ls.take (i + 1)) q else hitsP bs (ls.take i) q
section
variable {bs : List B3} {ls : List (List Int)} {n i p : Nat}
theorem mixP_len : (mixP bs ls n i p).length = n := by simp [mixP]
theorem hitsP_succ (hi : i < ls.length) (q : Int) : hitsP bs (ls.take (i + 1)) q = hitsP bs (ls.take i) q + hitsQ bs ls[i] q := by
  unfold hitsP
  rw [take_snoc hi, List.map_append, List.sum_append]
  simp
theorem mixP_get (hp : p < n) (hq : p < (mixP bs ls n i p).length) : (mixP bs ls n i p)[p] = hitsP bs (ls.take i) p := by simp [mixP]
theorem mixP_yes (hi : i < ls.length) (hp : p < n) (hq : p < (mixP bs ls n i p).length) (h : ∃ k ∈ ls[i], has (blk bs k) p) : (mixP bs ls n i p).set p ((mixP bs ls n i p)[p] + 1) = mixP bs ls n i (p + 1) := by
  rw [mixP_get hp]
  apply List.ext_getElem
  · rw [List.length_set, mixP_len, mixP_len]
  · intro j h1 h2
    rw [List.getElem_set]
    by_cases e : p = j
    · subst e
      rw [if_pos rfl]
      simp only [mixP, List.getElem_map, List.getElem_range]
      rw [if_pos (by omega), hitsP_succ hi]
      unfold hitsQ
      rw [if_pos h]
    · rw [if_neg e]
      simp only [mixP, List.getElem_map, List.getElem_range]
      by_cases e2 : j < p
      · rw [if_pos e2, if_pos (by omega)]
      · rw [if_neg e2, if_neg (by omega)]
theorem mixP_no (hi : i < ls.length) (h : ¬ ∃ k ∈ ls[i], has (blk bs k) p) : mixP bs ls n i p = mixP bs ls n i (p + 1) := by
  apply List.ext_getElem
  · rw [mixP_len, mixP_len]
  · intro j h1 h2
    simp only [mixP, List.getElem_map, List.getElem_range]
    by_cases e : j = p
    · subst e
      rw [if_neg (by omega), if_pos (by omega), hitsP_succ hi]
      unfold hitsQ
      rw [if_neg h]
      omega
    · by_cases e2 : j < p
      · rw [if_pos e2, if_pos (by omega)]
      · rw [if_neg e2, if_neg (by omega)]
theorem mixP_row (hp : n ≤ p) : mixP bs ls n i p = mixP bs ls n (i + 1) 0 := by
  apply List.ext_getElem
  · rw [mixP_len, mixP_len]
  · intro j h1 h2
    rw [mixP_len] at h1
    simp only [mixP, List.getElem_map, List.getElem_range]
    rw [if_pos (by omega), if_neg (by omega)]
theorem mixP_start : mixP bs ls n 0 0 = List.replicate n 0 := by
  apply List.ext_getElem
  · simp [mixP_len]
  · intro j h1 h2
    simp [mixP, hitsP]
theorem hitsP_bd {i : Nat} (p : Int) : 0 ≤ hitsP bs (ls.take i) p ∧ hitsP bs (ls.take i) p ≤ i := by
  induction i with
  | zero => simp [hitsP]
  | succ i ih =>
    by_cases hi : i < ls.length
    · rw [hitsP_succ hi]
      have : 0 ≤ hitsQ bs ls[i] p ∧ hitsQ bs ls[i] p ≤ 1 := by unfold hitsQ; split <;> omega
      push_cast
      omega
    · have e : ls.take (i + 1) = ls.take i := by rw [List.take_of_length_le (by omega), List.take_of_length_le (by omega)]
      rw [e]
      push_cast
      omega
end
/-- What both PaschAtPoints return. -/
def PAR (v : Int) (bs : List B3) (o : List Int) : Prop := (STS v bs → ∃ ls, IsList (PQ bs) ls ∧ o = mixP bs ls v.toNat ls.length 0) ∧ (¬ STS v bs → o = [])
theorem PAR.unique {v : Int} {bs : List B3} {a b : List Int} (h1 : PAR v bs a) (h2 : PAR v bs b) : a = b := by
  by_cases h : STS v bs
  · obtain ⟨l, a1, a2⟩ := h1.1 h
    obtain ⟨m, b1, b2⟩ := h2.1 h
    rw [a2, b2, a1.unique b1]
  · rw [h1.2 h, h2.2 h]
end Go.Vc
