/-
  WHAT slices.Grow COMES TO at the nil slice.
-/
import Derived.Test.YtjnemekhocfmlaaGreatXPhand2
namespace M
def slices_Grow_int64_int64 (n : Int) : Option (List Int) := if 0 ≤ n ∧ n ≤ 1099511627776 then some [] else none
end M
