/-
  Constraints, and class spaces compared. No condition.
-/
import Derived.Test.YtoijcliccgjolaaGreatConW
import Derived.Test.YtoijcliccgjolaaGreatConU
