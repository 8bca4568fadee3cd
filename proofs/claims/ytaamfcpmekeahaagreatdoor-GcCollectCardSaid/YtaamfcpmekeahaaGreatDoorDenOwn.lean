/-
  'copy' into a block of the call's own; a function whose result has no room. No condition.
-/
import Derived.Test.YtaamfcpmekeahaaGreatDoorDenClaim
set_option linter.unusedVariables false
set_option linter.unusedSimpArgs false
namespace Go.Den
namespace W
open Go.RowKit
variable {P:Program} {Γ:Ctx} {σ:S}
end W
end Go.Den
