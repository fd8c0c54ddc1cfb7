/-
  PLAIN LEMMAS: what holds of all places of a list; names none of which stands ahead of itself.
-/
import Derived.Test.YtbeijibjinbgcaaGreatDoorXHplA
set_option linter.unusedVariables false
namespace M
theorem zU{α:Type}(p:α->Bool)(l:List α)(d:α):(List.range l.length).all (fun i=>p (l.getD i d))=l.all p:=by
 rw[jH];simp only[dA,mK];constructor
 ·intro h x hx;obtain⟨i,hi,rfl⟩:=kK hx;have:=h i hi
  rwa [getD_lt hi]at this
 ·intro h i hi;rw[getD_lt hi];exact h _ (bV hi)
theorem zT{α:Type}(p q:α->Bool)(l:List α):l.all (fun x=>p x&&q x)=(l.all p&&l.all q):=by
 induction l with
 |nil=>rfl
 |cons x r ih=>simp only[jG,ih];cases p x<;>cases q x<;>cases r.all p<;>cases r.all q<;>rfl
end M
