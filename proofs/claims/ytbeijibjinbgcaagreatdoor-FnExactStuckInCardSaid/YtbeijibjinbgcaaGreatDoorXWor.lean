/-
  A CONTRACT of one of two readings.
-/
import Derived.Test.YtbeijibjinbgcaaGreatDoorXWfun
namespace Go.V
end Go.V
