/-
  What is never asked for.
-/
import Derived.Test.YtnkkcmdomlkdmaaGreatDoorXEhand4
namespace M
def GY(s:List UInt8):Option Bool:=none
end M
