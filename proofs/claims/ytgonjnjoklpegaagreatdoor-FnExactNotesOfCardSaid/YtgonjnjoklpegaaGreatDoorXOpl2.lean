/-
  PLAIN LEMMAS: two lists compared place by place.
-/
import Derived.Test.YtgonjnjoklpegaaGreatDoorXOpl
set_option linter.unusedVariables false
namespace M
open Go.V (inB cu al cE)
def eqL{α:Type}(p:α->α->Bool):List α->List α->Bool
 |[],[]=>true
 |x::a,y::b=>p x y&&eqL p a b
 |_,_=>false
theorem isSome_some{α:Type}(a:α):(some a).isSome=true:=rfl
end M
