/-
  WHAT THE PROGRAM's DECIMALS AND strings.Split COME TO.
-/
import Derived.Test.YtfeedngnaochdaaGreatDoorXXhandA
import Derived.Test.YtfeedngnaochdaaGreatDoorXVER
namespace M
def ahB(n:Int):Option (List UInt8):=bif decide (-9223372036854775808<=n)&&decide (n<=9223372036854775807)then some (Go.Lib.itoa n)else none
def eR(s:List UInt8):Int×Bool:=match Go.Lib.parseIntB 64 s with
 |.ok v=>if Go.Lib.itoa v=s then(v,true)else(0,false)
 |_=>(0,false)
def oR(s:List UInt8):Option (Int×Bool):=bif decide (s.length<=281474976710656)then some (eR s)else none
def strings_Split(s sep:List UInt8):Option (List (List UInt8)):=bif(sep==[46])&&decide (s.length<4294967281)then some (dE.ei s)else none
end M
