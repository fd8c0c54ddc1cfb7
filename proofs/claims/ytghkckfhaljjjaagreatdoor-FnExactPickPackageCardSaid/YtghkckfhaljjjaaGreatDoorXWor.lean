/-
  A CONTRACT of one of two readings.
-/
import Derived.Test.YtghkckfhaljjjaaGreatDoorXWfun
namespace Go.V
end Go.V
