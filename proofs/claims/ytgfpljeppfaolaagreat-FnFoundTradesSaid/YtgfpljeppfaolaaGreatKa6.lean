/-
  The calculus and plain words, part 6.
-/
import Derived.Test.YtgfpljeppfaolaaGreatKa5
set_option linter.unusedVariables false
set_option linter.unusedSimpArgs false
namespace Go.Vc
end Go.Vc

