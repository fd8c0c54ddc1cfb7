/-
  A CONTRACT of one of two readings.
-/
import Derived.Test.YtalddlopgnfpaaaGreatDoorXWfun
namespace Go.V
end Go.V
