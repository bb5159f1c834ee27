/-
  Closed facts on the program: no condition.
-/
import Derived.Test.YtgfpljeppfaolaaRows
import Derived.JoinedOf
import Derived.KernelRfl
set_option linter.unusedVariables false
namespace Go.Proofs.Ytgfpljeppfaolaa
open Go
theorem fact1 : (fun (P : Program) (c : OpenClaim) => (laidOutB P : Bool)) Try.prog Rows.fnExactIsResolutionRow = true := by kernel_rfl
theorem fact2 : (fun (P : Program) (c : OpenClaim) => (mapsRowed P : Bool)) Try.prog Rows.fnExactIsResolutionRow = true := by kernel_rfl
theorem fact6 : (fun (P : Program) (c : OpenClaim) => ((P.stops == []) : Bool)) Try.prog Rows.fnExactIsResolutionRow = true := by kernel_rfl
theorem fact8 : (fun (P : Program) (c : OpenClaim) => ((P.stopKnobs == []) : Bool)) Try.prog Rows.fnExactIsResolutionRow = true := by kernel_rfl
theorem fact22 : (fun (P : Program) (c : OpenClaim) => ((c.plainKeys == P.plainKeys) : Bool)) Try.prog Rows.fnExactIsResolutionRow = true := by kernel_rfl
theorem fact24 : (fun (P : Program) (c : OpenClaim) => (P.stopsHeard : Bool)) Try.prog Rows.fnExactIsResolutionRow = true := by kernel_rfl
theorem fact25 : (fun (P : Program) (c : OpenClaim) => (P.mayEnter : Bool)) Try.prog Rows.fnExactIsResolutionRow = true := by kernel_rfl
theorem fact26 : (fun (P : Program) (c : OpenClaim) => ((c.lifted == P.liftsFinal) : Bool)) Try.prog Rows.fnExactIsResolutionRow = true := by kernel_rfl
theorem fact27 : (fun (P : Program) (c : OpenClaim) => ((P.make == some c.make) : Bool)) Try.prog Rows.fnExactIsResolutionRow = true := by kernel_rfl
end Go.Proofs.Ytgfpljeppfaolaa
