/-
  Models of functions of the program, and that the functions compute them. Printed by den3.py. No condition.
-/
import Derived.Test.YtiogflechpgdiaaGreatCal9
set_option linter.unusedVariables false
namespace Go.Proofs
open Go.Den Go.Den.W
end Go.Proofs
