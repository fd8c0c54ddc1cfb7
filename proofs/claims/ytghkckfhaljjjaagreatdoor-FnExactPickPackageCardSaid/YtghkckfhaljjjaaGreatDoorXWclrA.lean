/-
  'clear' on a part of an owned slice.
-/
import Derived.Test.YtghkckfhaljjjaaGreatDoorXWobj3
namespace Go.V
open Go
variable {K :dh}{D:bH K}{ρ:List Value}{S:Nat->Prop}{w:World}{H:List (Ob K)}
end Go.V
namespace Go.V
open Go
variable {K :dh}{D:bH K}{ρ:List Value}{S:Nat->Prop}{w:World}{H:List (Ob K)}
end Go.V
