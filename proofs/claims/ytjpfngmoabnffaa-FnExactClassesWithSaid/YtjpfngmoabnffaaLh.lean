/-
  Marks of a list of numbers.
-/
import Derived.Test.YtjpfngmoabnffaaL
set_option linter.unusedVariables false
set_option linter.unusedSimpArgs false
namespace Go.Proofs.Ytjpfngmoabnffaa
open Go Go.RowKit Go.Vc Go.Proofs
theorem heldM_ok (n : Nat) (m : Int) (A : Option Addr) (c : Nat) (w : World) (hx : Rd I64 w A (marks m n)) (hm : 0 ≤ m ∧ m + n ≤ 4611686018427387904) : Does Try.prog 35 [.slice A n c, .int .i64 m] w [] (fun v => [.pur (v = .int .i64 (m + n))]) := by
  have h := heldInt64S_ok (marks m n) m A c w hx (by rw [marks_len]; exact hm) (by rw [marks_len])
  rw [marks_len] at h
  exact h
end Go.Proofs.Ytjpfngmoabnffaa
