/-
  PLAIN LEMMAS: what holds of all places of a list; names none of which stands ahead of itself.
-/
import Derived.Test.YthggbkhhdgnmaaaGreatDoorXEpl4
set_option linter.unusedVariables false
namespace M
theorem ahS{α:Type}(p:α->Bool)(l:List α)(d:α):(List.range l.length).all (fun i=>p (l.getD i d))=l.all p:=by
 rw[gj];simp only[ee,wL];constructor
 ·intro h x hx;obtain⟨i,hi,rfl⟩:=jZ hx;have:=h i hi
  rwa [getD_lt hi]at this
 ·intro h i hi;rw[getD_lt hi];exact h _ (bK hi)
theorem J3{α:Type}(p q:α->Bool)(l:List α):l.all (fun x=>p x&&q x)=(l.all p&&l.all q):=by
 induction l with
 |nil=>rfl
 |cons x r ih=>simp only[kD,ih];cases p x<;>cases q x<;>cases r.all p<;>cases r.all q<;>rfl
theorem ahR{α:Type}(nm:α->List UInt8)(l:List α)(d:α):(List.range l.length).all (fun i=> !((l.take i).any fun x=>nm x==nm (l.getD i d)))=nodupB (l.map nm):=by
 rw[gj,xt,List.Nodup,wC];simp only[ee,wL,fk,List.any_eq_false,dx,dY,Ab];constructor
 ·intro h i j hi hj hij e;have hm:l[i]∈l.take j:=by
   rw[List.mem_take_iff_getElem];exact⟨i,by omega,rfl⟩
  have:=h j hj l[i] hm;rw[getD_lt hj]at this;exact this e
 ·intro h i hi x hx e;rw[List.mem_take_iff_getElem]at hx;obtain⟨k,hk,rfl⟩:=hx;rw[getD_lt hi]at e;exact h k i (by omega) hi (by omega) e
end M
