/-
  WHAT strings.Join COMES TO.
-/
import Derived.Test.YtadnfbiaknpllaaGreatDoorXXhand4
import Derived.Lib.Join
namespace M
def strings_Join(l:List (List UInt8))(sep:List UInt8):Option (List UInt8):=
 bif decide (l.length<=1073741824)&&decide ((Go.Lib.join l sep).length<=1073741824)then some (Go.Lib.join l sep)else none
end M
