/-
  The calculus and plain words, part 7.
-/
import Derived.Test.YtgfpljeppfaolaaGreatKa6
set_option linter.unusedVariables false
set_option linter.unusedSimpArgs false
namespace Go.Vc
end Go.Vc

