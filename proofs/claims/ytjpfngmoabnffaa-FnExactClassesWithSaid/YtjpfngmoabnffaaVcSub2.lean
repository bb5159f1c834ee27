/-
  The calculus, part 12: lists of lists that lose some.
-/
import Derived.Test.YtjpfngmoabnffaaVcSub
set_option linter.unusedVariables false
set_option linter.unusedSimpArgs false
namespace Go.Vc
open Go Go.RowKit
section
variable {p : Sl × List Int → Prop} [DecidablePred p] {ps : List (Sl × List Int)} {j : Nat}
theorem topm_get (hj : j < ps.length) (h2 : j < (tops (movL p ps j)).length) : (tops (movL p ps j))[j] = (ps[j]).1 := by
  have h3 : j < (movL p ps j).length := by rw [movL_len]; exact hj
  have h4 := movL_get (p := p) hj h3
  rw [← h4]
  exact List.getElem_map ..
theorem topm_no (hj : j < ps.length) (h : ¬ p ps[j]) : (tops (movL p ps j)).set (keptL p ps j).length (ps[j]).1 = tops (movL p ps (j + 1)) := by
  rw [← movL_no hj h]
  unfold tops
  rw [List.map_set]
theorem topm_take : (tops (movL p ps j)).take (keptL p ps j).length = tops (keptL p ps j) := by
  unfold tops
  rw [← List.map_take, movL_take]
theorem keptL_sub {β : Type} {p : β → Prop} [DecidablePred p] {ps : List β} {j : Nat} : (keptL p ps j).Sublist ps := (List.filter_sublist).trans (List.take_sublist _ _)
end
end Go.Vc
