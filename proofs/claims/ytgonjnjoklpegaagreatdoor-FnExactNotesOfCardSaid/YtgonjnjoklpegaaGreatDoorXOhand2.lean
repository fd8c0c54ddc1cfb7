/-
  CONTRACTS BY HAND: a row of one-cell values in memory of the call's own, read as an owned slice.
-/
import Derived.Test.YtgonjnjoklpegaaGreatDoorXOhand
import Derived.Lib.Bytealg
set_option linter.unusedVariables false
namespace Go.V
open Go Go.RowKit Go.Sort Go.Proofs
variable{P :Program}
structure ag8 (c:U) (enc:El c->Value):Prop where
 sz:K.sz c=1
 rep:∀x,∃a,D.cells c x=[a]/\(∀ρ S w,Rep D ρ S w a (enc x))/\∀ρ S w v,Rep D ρ S w a v->v=enc x
def ag9{c:U}(enc:El c->Value)(n₀:Nat)(W:World)(sv:Value)(zs:List (El c)):Prop:=
 (∃a cap,sv=.slice a 0 cap/\zs=[])\/∃b off cap,sv=.slice (some ⟨b,off,none⟩) zs.length cap/\b<n₀/\∀j x,zs[j]?=some x->W.cell? ⟨b,off+j,none⟩=some (enc x)
end Go.V
namespace M
def aeo(s:List UInt8)(c:Int):Int:=Go.Lib.indexByte s c.toNat.toUInt8
def strings_IndexByte(s:List UInt8)(c:Int):Option Int:=some (aeo s c)
def aha(l:List Int):Option (List Int):=bif decide (l.length<=1099511627776)then some l else none
end M
