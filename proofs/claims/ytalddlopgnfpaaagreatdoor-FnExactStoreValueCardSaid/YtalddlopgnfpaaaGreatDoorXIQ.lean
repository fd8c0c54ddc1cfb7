/-
  LOWERING to flat numbers, in plain Lean: one function that both sides compute; what it keeps.
-/
import Derived.Test.YtalddlopgnfpaaaGreatDoorXILc
import Derived.Test.YtalddlopgnfpaaaGreatDoorXITQ
set_option linter.unusedVariables false
set_option linter.unusedSimpArgs false
namespace M
open Go Go.V
def sq(l:List Int)(n:Nat):List Int:=l++List.replicate (n-l.length) 0
def small(n:Int):Int:=dR .and .i64 n 4294967295
mutual
noncomputable def qn(enc:Int):aa->ae->bz->List Int×bz
 |.mk k nm ls ks,v,st=>
   if st.2.2≠0 then([],st)
   else if k=1 then([],st)
   else if k=11\/k=12 then([(dU enc (cZ enc ai) (.mk k nm ls ks) v st).1,(dU enc (cZ enc ai) (.mk k nm ls ks) v st).2.1],(dU enc (cZ enc ai) (.mk k nm ls ks) v st).2.2)
   else if k=15\/k=16 then Bo enc ks v.Kids st
   else if k=13\/k=14\/k=17 then(match v.Kids with
    |[]=>(sq [v.Num] (qo (.mk k nm ls ks)).length,st)
    |w::_=>(sq ([v.Num]++(Gw enc ks (if k=13 then 0 else v.Num.toNat) w st).1) (qo (.mk k nm ls ks)).length,(Gw enc ks (if k=13 then 0 else v.Num.toNat) w st).2))
   else(if k=9 then[v.Num]else[small v.Num],st)
noncomputable def Bo(enc:Int):List aa->List ae->bz->List Int×bz
 |[],_,st=>([],st)
 |t::ts,vs,st=>match vs with
  |[]=>([],st)
  |v::r=>((qn enc t v st).1++(Bo enc ts r (qn enc t v st).2).1,(Bo enc ts r (qn enc t v st).2).2)
noncomputable def Gw(enc:Int):List aa->Nat->ae->bz->List Int×bz
 |[],_,_,st=>([],st)
 |t::r,0,w,st=>qn enc t w st
 |_::r,i+1,w,st=>Gw enc r i w st
end
noncomputable def aip(enc:Int)(t:aa)(v:ae)(st:bz):List Int×bz:=match v.Kids with
 |[]=>(sq [v.Num] (qo t).length,st)
 |w::_=>(sq ([v.Num]++(qn enc (iW t v.Num) w st).1) (qo t).length,(qn enc (iW t v.Num) w st).2)
end M
namespace M
open Go Go.V
def aiq(enc:Int)(r:List Int×bz)(n:Nat)(o:Option (Int×Int×List Int×List UInt8×List af)):Prop:=
 ∃fl,o=some (enc,r.2.2.2,fl,r.2.1,r.2.2.1)/\(r.2.2.2=0->fl=r.1)/\fl.length<=n
abbrev air :=(List M.aa)->(List M.ae)->Int->Int->(List UInt8)->(List M.af)->Option (Int×Int×(List Int)×(List UInt8)×(List M.af))
section
variable {enc :Int}{L:Nat}
end
end M
namespace M
open Go Go.V
def sr(r:List Int×bz):List UInt8×Int×List af×List Int:=if r.2.2.2≠0 then([],r.2.2.2,[],[])else(r.2.1,0,r.2.2.1,r.1)
def badL:List UInt8×Int×List af×List Int:=([],1,[],[])
noncomputable def aeh(enc:Int)(t:aa)(v:ae)(st:bz):List Int×bz:=match eN (lay t).1 (lay t).2 st.2.1 with
 |none=>([0],st.1,st.2.1,4)
 |some p=>([p.1],cZ enc ai t v p.1.toNat (st.1,p.2,0))
noncomputable def ais(m:ax)(enc:Int)(t:aa)(v:ae):List UInt8×Int×List af×List Int:=
 if((fU m.Bytes m.Free&&jm enc)&&(dE t&&bS v t))=true then sr (qn enc t v (m.Bytes,m.Free,0))else badL
noncomputable def aei(enc:Int)(t:aa)(v:ae)(st:bz):List Int×bz:=if(qo t).length<=1 then qn enc t v st else aeh enc t v st
noncomputable def ait(m:ax)(enc:Int)(t:aa)(v:ae):List UInt8×Int×List af×List Int:=
 if((fU m.Bytes m.Free&&jm enc)&&(dE t&&bS v t))=true then sr (aei enc t v (m.Bytes,m.Free,0))else badL
end M
namespace M
open Go Go.V
def aiu(enc:Int)(r:List Int×bz)(n:Nat)(o:Option (List Int×List UInt8×Int×Int×List af)):Prop:=
 ∃fl,o=some (fl,r.2.1,enc,r.2.2.2,r.2.2.1)/\(r.2.2.2=0->fl=r.1)/\fl.length<=n
abbrev aiv :=(List M.aa)->(List M.ae)->List UInt8->Int->Int->List M.af->Option (List Int×List UInt8×Int×Int×List M.af)
theorem Gx(out:List Int)(n:Nat)(h:out.length<n):sq (out++[0]) n=sq out n:=by
 unfold sq;rw[dj,fS];have:n-out.length=(n-(out.length+[(0:Int)].length))+1:=by simp;omega
 rw[this,List.replicate_succ];rfl
section
variable {enc :Int}{L:Nat}
end
end M
namespace M
open Go Go.V
def aiw(r:List Int×bz):M.ax×List Int×Int:=(M.ax.mk (sr r).1 (sr r).2.2.1,(sr r).2.2.2,(sr r).2.1)
end M
namespace M
open Go Go.V
def Rz(ts:List aa):Nat×Nat:=(cL (cb 0 1 (ts.map lay)).2.1 (cb 0 1 (ts.map lay)).2.2,(cb 0 1 (ts.map lay)).2.2)
noncomputable def aej(enc:Int)(ts:List aa)(vs:List ae)(st:bz):List Int×bz:=match eN (Rz ts).1 (Rz ts).2 st.2.1 with
 |none=>([0],st.1,st.2.1,4)
 |some p=>([p.1],iF (cZ enc ai) ts vs (cb 0 1 (ts.map lay)).1 p.1.toNat (st.1,p.2,0))
noncomputable def aek(enc:Int)(ts:List aa)(vs:List ae)(st:bz):List Int×bz:=if 8<(Gy ts).length then aej enc ts vs st else Bo enc ts vs st
def vsB(ts:List aa)(vs:List ae):Bool:=decide (ts.length=vs.length)&&ic vs ts
noncomputable def aix(m:ax)(enc:Int)(ts:List aa)(vs:List ae):List UInt8×Int×List af×List Int:=
 if(xW m enc ts&&vsB ts vs)=true then sr (aek enc ts vs (m.Bytes,m.Free,0))else badL
end M
