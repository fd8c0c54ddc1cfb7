/-
  WHAT TWO FUNCTIONS OF THE LIBRARY COME TO: slices.Repeat of a slice of one element at most 8 times; unicode/utf8.ValidString; strings.Builder's copyCheck and String.
-/
import Derived.Test.YtgonjnjoklpegaaGreatDoorXOhand2
import Derived.Lib.ValidU
namespace M
def mS(l:List aa)(n:Int):Option (List aa):=
 bif decide (l.length=1)&&(decide (0<=n)&&decide (n<=8))then some (List.replicate n.toNat (l.getD 0 aa.zero))else none
def mU(s:List UInt8):Option Bool:=
 bif decide (s.length<=9223372036854775807)then some (Go.Lib.validD s)else none
def ahb(s:List UInt8):Option (List UInt8):=some s
def ahc(s:List UInt8):Option (List UInt8):=bif decide (s.length<=1073741824)then some s else none
def ahd(l:List (List UInt8)):Option (List (List UInt8)):=bif decide (l.length<=1099511627776)then some l else none
end M
