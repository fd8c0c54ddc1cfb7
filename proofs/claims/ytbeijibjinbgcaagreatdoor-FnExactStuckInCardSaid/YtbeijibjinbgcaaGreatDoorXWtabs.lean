/-
  TWO TABLES THAT ARE ONLY READ: those of unicode/utf8, as what is said of the world from the start on.
-/
import Derived.Test.YtbeijibjinbgcaaGreatDoorXWrep
import Derived.Shelf.Unicode.DecodeSlow
namespace Go.V
open Go
def aiY(g3 g4:Nat):Base:={
 inv S w:=S g3/\S g4/\Lib.Utf8Tabs g3 g4 w
 mono:=fun{S S' w w'} hS hw h=>by
  obtain⟨h1,h2,h3,h4⟩:=h;refine⟨hS _ h1,hS _ h2,fun c hc=>?_,fun i hi=>?_⟩
  ·rw[cell?_of_heap (w:=w) (a:=⟨g3,c,none⟩) (hw _ h1)];exact h3 c hc
  ·rw[cell?_of_heap (w:=w) (a:=⟨g4,2*i,none⟩) (hw _ h2),cell?_of_heap (w:=w) (a:=⟨g4,2*i+1,none⟩) (hw _ h2)];exact h4 i hi}
end Go.V
