/-
  WHAT TWO FUNCTIONS OF THE LIBRARY COME TO: slices.Repeat of a slice of one element at most 8 times; unicode/utf8.ValidString; strings.Builder's copyCheck and String.
-/
import Derived.Test.YtjnemekhocfmlaaGreatXPhand2
import Derived.Lib.ValidU
namespace M
def unicode_utf8_ValidString (s : List UInt8) : Option Bool :=
  bif decide (s.length ≤ 9223372036854775807) then some (Go.Lib.validD s) else none
def strings_Builder_copyCheck (s : List UInt8) : Option (List UInt8) := some s
def strings_Builder_String (s : List UInt8) : Option (List UInt8) := bif decide (s.length ≤ 1073741824) then some s else none
def slices_Clone_string_string (l : List (List UInt8)) : Option (List (List UInt8)) := bif decide (l.length ≤ 1099511627776) then some l else none
end M
