/-
  Plain words on lists of lists of which some are kept; classes with a block.
-/
import Derived.Test.YtjpfngmoabnffaaPureCls
import Derived.Test.YtjpfngmoabnffaaVcSub
set_option linter.unusedVariables false
set_option linter.unusedSimpArgs false
namespace Go.Vc
theorem IsList.filter {p : List Int → Prop} {l : List (List Int)} (h : IsList p l) (P : List Int → Prop) [DecidablePred P] : IsList (fun q => p q ∧ P q) (l.filter fun q => decide (P q)) := by
  refine ⟨h.1.filter _, fun r => ?_⟩
  rw [List.mem_filter, h.2]
  simp
theorem conts_filter {ps : List (Sl × List Int)} (P : List Int → Prop) [DecidablePred P] : conts (ps.filter fun x => !decide (¬ P x.2)) = (conts ps).filter fun q => decide (P q) := by
  induction ps with
  | nil => rfl
  | cons a ps ih =>
    simp only [conts, List.map_cons, List.filter_cons] at *
    by_cases h : P a.2
    · simp [h]; simpa using ih
    · simp [h]; simpa using ih
theorem topk_no {α : Type} {p : Sl × List α → Prop} [DecidablePred p] {ps : List (Sl × List α)} {k : Nat} (hn : LenOk ps) (hk : k < ps.length) (h : ¬ p ps[k]) : tops (keptL p ps k) ++ [⟨(ps[k]).1.A, (ps[k]).2.length, (ps[k]).1.c⟩] = tops (keptL p ps (k + 1)) := by
  rw [keptL_no hk h, tops_append]
  have h1 := (hn _ (List.getElem_mem hk)).1
  rw [← h1]
  rfl
/-- Classes with a block, and the code. -/
def CW (v : Int) (bs : List B3) (i : Int) (l : List (List Int)) (code : Int) : Prop :=
  (¬ STS v bs → l = [] ∧ code = 1) ∧ (STS v bs → ¬ (0 ≤ i ∧ i ≤ bs.length - 1) → l = [] ∧ code = 2) ∧ (STS v bs → (0 ≤ i ∧ i ≤ bs.length - 1) → IsList (fun q => Cls v bs q ∧ i ∈ q) l ∧ code = 0)
theorem CW.unique {v : Int} {bs : List B3} {i : Int} {l m : List (List Int)} {c d : Int} (h : CW v bs i l c) (g : CW v bs i m d) : l = m ∧ c = d := by
  by_cases hS : STS v bs
  · by_cases hi : 0 ≤ i ∧ i ≤ bs.length - 1
    · obtain ⟨h1, h2⟩ := h.2.2 hS hi
      obtain ⟨g1, g2⟩ := g.2.2 hS hi
      exact ⟨h1.unique g1, by omega⟩
    · obtain ⟨h1, h2⟩ := h.2.1 hS hi
      obtain ⟨g1, g2⟩ := g.2.1 hS hi
      exact ⟨by rw [h1, g1], by omega⟩
  · obtain ⟨h1, h2⟩ := h.1 hS
    obtain ⟨g1, g2⟩ := g.1 hS
    exact ⟨by rw [h1, g1], by omega⟩
theorem CW.small {v : Int} {bs : List B3} {i : Int} {l : List (List Int)} {c : Int} (h : CW v bs i l c) : ∀ q ∈ l, q.length ≤ 5 := by
  intro q hq
  by_cases hS : STS v bs
  · by_cases hi : 0 ≤ i ∧ i ≤ bs.length - 1
    · have h1 := (((h.2.2 hS hi).1).2 q).1 hq
      have h2 := (cls_count hS.good (by have := hS.lo; omega) q).1 h1.1
      have := hS.hi
      omega
    · rw [(h.2.1 hS hi).1] at hq
      simp at hq
  · rw [(h.1 hS).1] at hq
    simp at hq
end Go.Vc
