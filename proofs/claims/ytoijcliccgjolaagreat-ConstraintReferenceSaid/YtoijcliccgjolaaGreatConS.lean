/-
  Whether class spaces are consistent, and a constraint that is added: the program and the reference answer alike. No condition.
-/
import Derived.Test.YtoijcliccgjolaaGreatConR
set_option linter.unusedVariables false
namespace Go.Proofs
open Go.Den Go.Tot
end Go.Proofs
