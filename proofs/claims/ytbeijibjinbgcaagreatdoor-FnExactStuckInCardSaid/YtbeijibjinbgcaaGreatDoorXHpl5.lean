/-
  PLAIN LEMMAS: what holds of all places of a list; names none of which stands ahead of itself.
-/
import Derived.Test.YtbeijibjinbgcaaGreatDoorXHplA
set_option linter.unusedVariables false
namespace M
theorem zU{α:Type}(p:α->Bool)(l:List α)(d:α):(List.range l.length).all (fun i=>p (l.getD i d))=l.all p:=by
 rw[eu];simp only[dW,mK];constructor
 ·intro h x hx;obtain⟨i,hi,rfl⟩:=jx hx;have:=h i hi
  rwa [getD_lt hi]at this
 ·intro h i hi;rw[getD_lt hi];exact h _ (cn hi)
theorem zT{α:Type}(p q:α->Bool)(l:List α):l.all (fun x=>p x&&q x)=(l.all p&&l.all q):=by
 induction l with
 |nil=>rfl
 |cons x r ih=>simp only[mD,ih];cases p x<;>cases q x<;>cases r.all p<;>cases r.all q<;>rfl
end M
