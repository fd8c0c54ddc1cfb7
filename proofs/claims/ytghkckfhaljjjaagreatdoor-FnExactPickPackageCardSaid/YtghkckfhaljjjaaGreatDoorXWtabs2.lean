/-
  VARIABLES THAT ARE ONLY READ, as what is said of the world from the start on: a number; the table of the powers of ten; the two errors of strconv.
-/
import Derived.Test.YtghkckfhaljjjaaGreatDoorXWrep
import Derived.Lib.ItoaNum
namespace Go.V
open Go
def agm(gM gT gS gR:Nat):Base:={
 inv S w:=(S gM/\S gT/\S gS/\S gR)/\(∃m,w.cell? ⟨gM,0,none⟩=some (.int .i64 m))/\(∃T fr,w.heap[gT]?=some (.cells (Lib.pow10Tab.map fun z=>Value.int .u64 z).toArray T fr))/\(∃t p,w.cell? ⟨gS,0,none⟩=some (.iface t p))/\∃t p,w.cell? ⟨gR,0,none⟩=some (.iface t p)
 mono:=fun{S S' w w'} hS hw h=>by
  obtain⟨⟨h1,h2,h3,h4⟩,⟨m,hm⟩,⟨T,fr,hT⟩,⟨t,p,hs⟩,⟨t2,p2,hr⟩⟩:=h;refine⟨⟨hS _ h1,hS _ h2,hS _ h3,hS _ h4⟩,⟨m,?_⟩,⟨T,fr,by rw[hw _ h2];exact hT⟩,⟨t,p,?_⟩,⟨t2,p2,?_⟩⟩
  ·rw[cell?_of_heap (w:=w) (a:=⟨gM,0,none⟩) (hw _ h1)];exact hm
  ·rw[cell?_of_heap (w:=w) (a:=⟨gS,0,none⟩) (hw _ h3)];exact hs
  ·rw[cell?_of_heap (w:=w) (a:=⟨gR,0,none⟩) (hw _ h4)];exact hr}
end Go.V
