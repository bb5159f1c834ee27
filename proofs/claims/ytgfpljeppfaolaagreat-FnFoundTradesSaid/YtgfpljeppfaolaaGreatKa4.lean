/-
  The calculus and plain words, part 4.
-/
import Derived.Test.YtgfpljeppfaolaaGreatKa3
set_option linter.unusedVariables false
set_option linter.unusedSimpArgs false
namespace Go.Vc
end Go.Vc

