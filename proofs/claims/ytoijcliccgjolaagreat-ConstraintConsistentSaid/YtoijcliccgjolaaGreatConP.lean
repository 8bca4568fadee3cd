/-
  Loaders that constraints connect: one constraint more. No condition.
-/
import Derived.Test.YtoijcliccgjolaaGreatConV
set_option linter.unusedVariables false
namespace Go.Proofs
open Go.Den Go.Tot
end Go.Proofs
