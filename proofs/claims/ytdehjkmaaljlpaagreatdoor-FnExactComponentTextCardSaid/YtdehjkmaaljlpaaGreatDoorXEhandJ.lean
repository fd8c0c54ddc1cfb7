/-
  WHAT strings.Join COMES TO.
-/
import Derived.Test.YtdehjkmaaljlpaaGreatDoorXEhand4
import Derived.Lib.Fields
import Derived.Lib.Join
namespace M
def strings_Join(l:List (List UInt8))(sep:List UInt8):Option (List UInt8):=
 bif decide (l.length<=1073741824)&&decide ((Go.Lib.join l sep).length<=1073741824)then some (Go.Lib.join l sep)else none
def strings_Fields(s:List UInt8):Option (List (List UInt8)):=
 bif decide (s.length<4294967281)&&(s.all fun b=>decide (b.toNat<128))then some (Go.Lib.fields s)else none
end M
