/-
  THE FLAT KINDS of types: both ways of counting them are one.
-/
import Derived.Test.YtalddlopgnfpaaaGreatDoorXITP
set_option linter.unusedVariables false
set_option linter.unusedSimpArgs false
namespace M
open Go.V (inB bF ai cJ)
def R7:List Int->List Int->List Int
 |[],b=>b
 |x::a,[]=>x::a
 |x::a,y::b=>max x y::R7 a b
def ones(l:List Int):Prop:=∀x∈l,x=1\/x=2
mutual
def qo:aa->List Int
 |.mk k n l kids=>
   if k=1 then[]else if k=9 then[2]else if k=11\/k=12 then[1,1]
   else if k=15\/k=16 then Gy kids
   else if k=13 then 1::aeG kids
   else if k=14\/k=17 then 1::R9 [] kids else[1]
def Gy:List aa->List Int
 |[]=>[]
 |x::r=>qo x++Gy r
def aeG:List aa->List Int
 |[]=>[]
 |x::_=>qo x
def R9(a:List Int):List aa->List Int
 |[]=>a
 |x::r=>R9 (R7 a (qo x)) r
end
end M
namespace M
open Go.V (inB bF ai cJ)
end M
