/-
  The calculus and plain words, part 5.
-/
import Derived.Test.YthlmfgmmbfbhhaaGreatKa4
set_option linter.unusedVariables false
set_option linter.unusedSimpArgs false
/-
  How many systems of 3, 7 and 9 points there are, counted by the kernel.
-/
namespace Go.Vc
set_option maxRecDepth 100000 in
theorem cnt9 : cntM 40 9 0 = 840 := by decide +kernel
set_option maxRecDepth 100000 in
theorem cnt7 : cntM 40 7 0 = 30 := by decide +kernel
set_option maxRecDepth 100000 in
theorem cnt3 : cntM 40 3 0 = 1 := by decide +kernel
end Go.Vc
