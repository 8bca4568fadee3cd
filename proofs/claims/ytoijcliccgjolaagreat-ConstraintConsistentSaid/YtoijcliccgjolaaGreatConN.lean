/-
  Laws about class names, for this chapter's numbers. No condition.
-/
import Derived.Test.YtoijcliccgjolaaGreatConT10
namespace Go.Proofs
open Go.Den
end Go.Proofs
