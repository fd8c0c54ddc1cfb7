/-
  A CONTRACT of one of two readings.
-/
import Derived.Test.YtiacpoahkccfaaaGreatDoorXWfun
namespace Go.V
end Go.V
