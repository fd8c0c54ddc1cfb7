/-
  The seat's maps: their keys are one number or two.
-/
import Derived.Test.YtpablcpgdagijaaGreatXWgA
import Derived.Maps.Keyed
import Derived.WideKeyPair
import Derived.Test.YtpablcpgdagijaaGreatProg
set_option linter.unusedVariables false
namespace Go.V
open Go Go.Proofs Go.WideMaps
theorem Fa{P:Program}{k:TypeId}(hk:Go.Maps.Keyed P k)(m:Nat)(hkey:∀ks,cb m ks=true->∃l,Go.keyOf P k (dc ks)=some l)(w:World)(ks:List Int)(l:List (List Int×Int))(n:Nat)(h1:cb m ks=true)(h2:∀p∈l,cb m p.1=true)(h3:l.Pairwise (fun p q=>p.1≠q.1))(hinj:∀a b,cb m a=true->cb m b=true->dc a=dc b->a=b):
 (Instr.findKey k (dc ks) (cO n l)).run P w=.ok (bif du l ks then some (bJ l ks,.int .i64 (bU l ks))else none) w:=by
 obtain⟨lx,hlx⟩:=hkey ks h1;have hmem:∀e∈cO n l,∃p∈l,e.key=dc p.1:=fun e he=>by
  obtain⟨i,hi⟩:=List.getElem?_of_mem he;rw[iP,Option.map_eq_some_iff]at hi;obtain⟨p,hp,rfl⟩:=hi;exact⟨p,List.mem_of_getElem? hp,rfl⟩
 have hk2:∀e∈cO n l,∃l,Go.keyOf P k e.key=some l:=fun e he=>by
  obtain⟨p,hp,e1⟩:=hmem e he;rw[e1];exact hkey _ (h2 p hp)
 rcases hk.find w hlx (cO n l) hk2 with⟨g1,g2⟩|⟨j,e,g1,g2,g3⟩
 ·rw[g1];have:du l ks=false:=by
   simp only[du,decide_eq_false_iff_not];intro hlt;obtain⟨v,hv⟩:=sG l ks hlt;exact g2 {key:=dc ks,val:=.int .i64 v,born:=n+bJ l ks} (List.mem_of_getElem? (i:=bJ l ks) (by rw[iP,hv];rfl)) rfl
  rw[this];rfl
 ·rw[g1];rw[iP,Option.map_eq_some_iff]at g2;obtain⟨p,hp,rfl⟩:=g2;have hpk:p.1=ks:=hinj _ _ (h2 p (List.mem_of_getElem? hp)) h1 g3;have hjl:=(List.getElem?_eq_some_iff.1 hp).1;have hlt:bJ l ks<l.length:=by
   rcases Nat.lt_or_ge (bJ l ks) l.length with h|h
   ·exact h
   ·exact absurd hpk (ym l ks (by omega) p (List.mem_of_getElem? hp))
  obtain⟨v,hv⟩:=sG l ks hlt;have hij:bJ l ks=j:=by
   rcases Nat.lt_trichotomy (bJ l ks) j with h|h|h
   ·have:=List.pairwise_iff_getElem.1 h3 _ _ hlt hjl h;rw[List.getElem?_eq_getElem hlt]at hv;rw[List.getElem?_eq_getElem hjl]at hp;simp only[Option.some.injEq]at hv hp;rw[hv,hp,hpk]at this;exact absurd rfl this
   ·exact h
   ·have:=List.pairwise_iff_getElem.1 h3 _ _ hjl hlt h;rw[List.getElem?_eq_getElem hlt]at hv;rw[List.getElem?_eq_getElem hjl]at hp;simp only[Option.some.injEq]at hv hp;rw[hv,hp,hpk]at this;exact absurd rfl this
  subst hij;have:du l ks=true:=by simp[du,hlt]
  rw[this];have hg:bU l ks=p.2:=by unfold bU;rw[List.getD_eq_getElem?_getD,hp];rfl
  rw[hg];rfl
theorem jn{a:Int}(h:dn a=true):(Lit.int .i64 a).wf=true:=by
 simp only[dn,Bool.and_eq_true,decide_eq_true_eq]at h;simp only[Lit.wf,IntKind.min,IntKind.max,IntKind.signed,IntKind.bits,Bool.and_eq_true,decide_eq_true_eq];constructor
 ·exact h.1
 ·exact h.2
theorem sH{ks:List Int}(h:cb 1 ks=true):∃a,ks=[a]/\dn a=true:=by
 match ks with
 |[]=>simp[cb]at h
 |[a]=>exact⟨a,rfl,by simpa [cb]using h⟩
 |_::_::_=>simp[cb,Nat.beq]at h
theorem sJ{ks:List Int}(h:cb 2 ks=true):∃a b,ks=[a,b]/\dn a=true/\dn b=true:=by
 match ks with
 |[]=>simp[cb]at h
 |[_]=>simp[cb]at h
 |[a,b]=>exact⟨a,b,rfl,by simpa [cb,Nat.beq]using h⟩
 |_::_::_::_=>simp[cb,Nat.beq]at h
theorem jo:Tryz.prog.underlying 2=some (.int .i64):=by kernel_rfl
theorem QP:Tryz.prog.underlying 161=some (.map 167 2):=by kernel_rfl
theorem QQ:Tryz.prog.underlying 162=some (.map 2 2):=by kernel_rfl
theorem QR:Tryz.prog.underlying 167=some (.array 2 2):=by kernel_rfl
theorem Fb(w:World):(zeroValue 2).run Tryz.prog w=.ok (.int .i64 0) w:=by kernel_rfl
theorem yn:∃m,Tryz.prog.types.size=m+1:=⟨Tryz.prog.types.size-1,by
 have:decide (0<Tryz.prog.types.size)=true:=by kernel_rfl
 have:=of_decide_eq_true this;omega⟩
theorem ox:ArrKey Tryz.prog 167 2 2:=⟨QR,by kernel_rfl,by kernel_rfl,by kernel_rfl⟩
theorem QS:kn Tryz.prog 161 2:=⟨167,2,QP,Fb,fun w em ks h=>by
 obtain⟨a,b,rfl,ha,hb⟩:=sJ h;exact(Go.Maps.Keyed.of_law ox.law).check w em (keyOf_pair ox jo yn (jn ha) (jn hb)),fun w ks h=>by
 obtain⟨a,b,rfl,ha,hb⟩:=sJ h;exact(Go.Maps.Keyed.of_law ox.law).stays w (keyOf_pair ox jo yn (jn ha) (jn hb)),
 fun w ks l n h1 h2 h3=>Fa (Go.Maps.Keyed.of_law ox.law) 2 (fun ks h=>by
  obtain⟨a,b,rfl,ha,hb⟩:=sJ h;exact⟨_,keyOf_pair ox jo yn (jn ha) (jn hb)⟩) w ks l n h1 h2 h3 fun a b ha hb e=>by
  obtain⟨a1,a2,rfl,-⟩:=sJ ha;obtain⟨b1,b2,rfl,-⟩:=sJ hb;simpa [dc]using e⟩
theorem QT:kn Tryz.prog 162 1:=⟨2,2,QQ,Fb,fun w em ks h=>by
 obtain⟨a,rfl,ha⟩:=sH h;exact(Go.Maps.int_keyed jo).check w em (Go.Maps.keyOf_int_mk jo (jn ha)),fun w ks h=>by
 obtain⟨a,rfl,ha⟩:=sH h;exact(Go.Maps.int_keyed jo).stays w (Go.Maps.keyOf_int_mk jo (jn ha)),
 fun w ks l n h1 h2 h3=>Fa (Go.Maps.int_keyed jo) 1 (fun ks h=>by
  obtain⟨a,rfl,ha⟩:=sH h;exact⟨_,Go.Maps.keyOf_int_mk jo (jn ha)⟩) w ks l n h1 h2 h3 fun a b ha hb e=>by
  obtain⟨a1,rfl,-⟩:=sH ha;obtain⟨b1,rfl,-⟩:=sH hb;simpa [dc]using e⟩
noncomputable def yo(t:TypeId):Option {m:Nat//kn Tryz.prog t m}:=
 if h:t=161 then some ⟨2,by rw[h];exact QS⟩else if h:t=162 then some ⟨1,by rw[h];exact QT⟩else none
end Go.V
