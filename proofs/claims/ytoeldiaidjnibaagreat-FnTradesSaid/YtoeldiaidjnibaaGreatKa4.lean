/-
  The calculus and plain words, part 4.
-/
import Derived.Test.YtoeldiaidjnibaaGreatKa3
set_option linter.unusedVariables false
set_option linter.unusedSimpArgs false
/-
  How many systems of 3, 7 and 9 points there are, counted by the kernel.
-/
namespace Go.Vc
end Go.Vc
