/-
  Closed facts on the program: no condition.
-/
import Derived.Test.YtgfpljeppfaolaaGreatRows
import Derived.JoinedOf
import Derived.KernelRfl
set_option linter.unusedVariables false
namespace Go.Proofs.YtgfpljeppfaolaaGreat
open Go
theorem fact1 : (fun (P : Program) (c : OpenClaim) => (laidOutB P : Bool)) Tryz.prog Rows.fnFoundTradesRow = true := by kernel_rfl
theorem fact2 : (fun (P : Program) (c : OpenClaim) => (mapsRowed P : Bool)) Tryz.prog Rows.fnFoundTradesRow = true := by kernel_rfl
theorem fact6 : (fun (P : Program) (c : OpenClaim) => ((P.stops == []) : Bool)) Tryz.prog Rows.fnFoundTradesRow = true := by kernel_rfl
theorem fact8 : (fun (P : Program) (c : OpenClaim) => ((P.stopKnobs == []) : Bool)) Tryz.prog Rows.fnFoundTradesRow = true := by kernel_rfl
theorem fact22 : (fun (P : Program) (c : OpenClaim) => ((c.plainKeys == P.plainKeys) : Bool)) Tryz.prog Rows.fnFoundTradesRow = true := by kernel_rfl
theorem fact24 : (fun (P : Program) (c : OpenClaim) => (P.stopsHeard : Bool)) Tryz.prog Rows.fnFoundTradesRow = true := by kernel_rfl
theorem fact25 : (fun (P : Program) (c : OpenClaim) => (P.mayEnter : Bool)) Tryz.prog Rows.fnFoundTradesRow = true := by kernel_rfl
theorem fact26 : (fun (P : Program) (c : OpenClaim) => ((c.lifted == P.liftsFinal) : Bool)) Tryz.prog Rows.fnFoundTradesRow = true := by kernel_rfl
theorem fact27 : (fun (P : Program) (c : OpenClaim) => ((P.make == some c.make) : Bool)) Tryz.prog Rows.fnFoundTradesRow = true := by kernel_rfl
end Go.Proofs.YtgfpljeppfaolaaGreat
