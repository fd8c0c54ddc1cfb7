/-
  THE FLAT KINDS of types: both ways of counting them are one.
-/
import Derived.Test.YtalddlopgnfpaaaGreatDoorXITP
set_option linter.unusedVariables false
set_option linter.unusedSimpArgs false
namespace M
open Go.V (inB bK ah cH)
def gW:List Int->List Int->List Int
 |[],b=>b
 |x::a,[]=>x::a
 |x::a,y::b=>max x y::gW a b
theorem ER(a:List Int):gW a []=a:=by cases a<;>rfl
theorem xP:∀a b:List Int,(gW a b).length=max a.length b.length
 |[],b=>by simp[gW]
 |x::a,[]=>by simp[gW]
 |x::a,y::b=>by simp only[gW,bQ,xP a b];omega
def ones(l:List Int):Prop:=∀x∈l,x=1\/x=2
theorem JV:∀a b:List Int,ones a->ones b->ones (gW a b)
 |[],b,_,h=>h
 |x::a,[],h,_=>h
 |x::a,y::b,ha,hb=>by
  intro z hz;rcases dW.1 hz with rfl|hz
  ·have:=ha x (fa ..);have:=hb y (fa ..);omega
  ·exact JV a b (fun w hw=>ha w (gQ _ hw)) (fun w hw=>hb w (gQ _ hw)) z hz
theorem JW{a b:List Int}(ha:ones a)(hb:ones b):ones (a++b):=fun x hx=>(dK.1 hx).elim (ha x) (hb x)
mutual
def cn:aa->List Int
 |.mk k n l kids=>
   if k=1 then[]else if k=9 then[2]else if k=11\/k=12 then[1,1]
   else if k=15\/k=16 then eD kids
   else if k=13 then 1::sy kids
   else if k=14\/k=17 then 1::gu [] kids else[1]
def eD:List aa->List Int
 |[]=>[]
 |x::r=>cn x++eD r
def sy:List aa->List Int
 |[]=>[]
 |x::_=>cn x
def gu(a:List Int):List aa->List Int
 |[]=>a
 |x::r=>gu (gW a (cn x)) r
end
theorem eC(t:aa):cn t=(if t.Kind=1 then[]else if t.Kind=9 then[2]else if t.Kind=11\/t.Kind=12 then[1,1]
 else if t.Kind=15\/t.Kind=16 then eD t.Kids
 else if t.Kind=13 then 1::sy t.Kids
 else if t.Kind=14\/t.Kind=17 then 1::gu [] t.Kids else[1]):=by cases t;rw[cn];rfl
theorem Xa:∀l:List aa,(∀x∈l,ones (cn x))->ones (eD l)
 |[],_=>fun x hx=>by simp[eD]at hx
 |x::r,h=>by
  rw[eD];exact JW (h x (fa ..)) (Xa r fun y hy=>h y (gQ _ hy))
theorem Xb:∀(l:List aa)(a:List Int),ones a->(∀x∈l,ones (cn x))->ones (gu a l)
 |[],a,ha,_=>ha
 |x::r,a,ha,h=>Xb r _ (JV _ _ ha (h x (fa ..))) fun y hy=>h y (gQ _ hy)
theorem Xc:∀(n:Nat)(t:aa),t.sz<n->ones (cn t)
 |0,t,h=>absurd h (eB _)
 |n+1,t,h=>by
  have hk:∀x∈t.Kids,ones (cn x):=fun x hx=>Xc n x (by have:=aa.cZ hx;omega)
  have h0:ones []:=fun x hx=>by simp at hx
  have h1:ones [1]:=fun x hx=>by simp at hx;exact .inl hx
  rw[eC];by_cases q1:t.Kind=1
  ·rw[av q1];exact h0
  rw[ak q1];by_cases q2:t.Kind=9
  ·rw[av q2];intro x hx;simp at hx;exact .inr hx
  rw[ak q2];by_cases q3:t.Kind=11\/t.Kind=12
  ·rw[av q3];intro x hx;simp at hx;exact .inl hx
  rw[ak q3];by_cases q4:t.Kind=15\/t.Kind=16
  ·rw[av q4];exact Xa _ hk
  rw[ak q4];by_cases q5:t.Kind=13
  ·rw[av q5];refine JW h1 (b:=sy t.Kids) ?_;cases hks:t.Kids with
   |nil=>exact h0
   |cons x r=>exact hk x (by rw[hks];exact fa ..)
  rw[ak q5];by_cases q6:t.Kind=14\/t.Kind=17
  ·rw[av q6];exact JW h1 (Xb _ _ h0 hk)
  rw[ak q6];exact h1
theorem Xd(t:aa):ones (cn t):=Xc _ t (uE _)
theorem Xe:∀l:List aa,(∀x∈l,(cn x).length<=2*dJ x)->(eD l).length<=2*dB l
 |[],_=>bj _
 |x::r,h=>by
  have:=Xe r fun y hy=>h y (gQ _ hy)
  have:=h x (fa ..);simp only[eD,dB,cL];omega
theorem ES:∀(l:List aa)(a:List Int),(∀x∈l,(cn x).length<=2*dJ x)->(gu a l).length<=a.length+2*dB l
 |[],a,_=>by simp[gu]
 |x::r,a,h=>by
  have h1:=ES r (gW a (cn x)) fun y hy=>h y (gQ _ hy)
  have:=h x (fa ..);rw[xP]at h1;simp only[gu,dB];omega
theorem Xf:∀(n:Nat)(t:aa),t.sz<n->(cn t).length<=2*dJ t
 |0,t,h=>absurd h (eB _)
 |n+1,t,h=>by
  have hk:∀x∈t.Kids,(cn x).length<=2*dJ x:=fun x hx=>Xf n x (by have:=aa.cZ hx;omega)
  have a1:=Xe _ hk;have a2:=ES _ [] hk;have a3:(sy t.Kids).length<=2*dB t.Kids:=by
   cases hks:t.Kids with
   |nil=>simp[sy]
   |cons x r=>
    have:=hk x (by rw[hks];exact fa ..);simp only[sy,dB];omega
  rw[eC,uO]
  repeat' split
  all_goals simp only[bQ,dm]at*
  all_goals omega
theorem m4(t:aa):(cn t).length<=2*dJ t:=Xf _ t (uE _)
theorem EM{l:List aa}{k:Nat}(h:k<l.length):eD (l.drop k)=cn l[k]++eD (l.drop (k+1)):=by rw[dX h];rfl
theorem Xg{l:List aa}{k:Nat}(a:List Int)(h:k<l.length):gu a (l.drop k)=gu (gW a (cn l[k])) (l.drop (k+1)):=by rw[dX h];rfl
theorem Xh{a b:List Int}{k:Nat}(ha:k<a.length)(hb:k<b.length):gW (a.drop k) (b.drop k)=max a[k] b[k]::gW (a.drop (k+1)) (b.drop (k+1)):=by rw[dX ha,dX hb];rfl
theorem ajZ(a b:List Int)(ha:a.length<=4194304)(hb:b.length<=4194304):M.rN a b=some (gW a b):=by
 have key:∀f k (o:List Int),k<=max a.length b.length->max a.length b.length-k<f->o.length=k->M.ot a b f (k:Int) o=some (o++gW (a.drop k) (b.drop k)):=by
  intro f
  induction f with
  |zero=>intro k o h1 h2;omega
  |succ f ih=>
   intro k o h1 h2 h3;rcases cQ k (max a.length b.length)with hk|hk
   ·rw[M.ot];have hw:Go.IntKind.wrap .i64 ((k:Int)+1)=((k+1:Nat):Int):=cm hk (by omega);rcases cQ k b.length with hkb|hkb
    ·have c1:decide (((b.length:Nat):Int)<=(k:Int))=false:=by simp only[lC];omega
     rcases cQ k a.length with hka|hka
     ·have c2:decide (((a.length:Nat):Int)<=(k:Int))=false:=by simp only[lC];omega
      have hm:M.il a[k] b[k]=some (max a[k] b[k]):=by
       unfold M.il;rcases Int.lt_or_le b[k] a[k]with h|h
       ·rw[aY h,aA];congr 1;omega
       ·rw[bU (by omega),aR];congr 1;omega
      simp only[c1,c2,getD_lt hka,getD_lt hkb,hm,cN,cB,cO,hka,hkb,cr,gR,aA,aR,bI,aP,aS,aU,hw,h3,bQ,dm];rw[show decide (k+(0+1)<=1073741824)=true by simp only[bm];omega,aA,ih (k+1) _ (by omega) (by omega) (by simp[h3]),Xh hka hkb];simp
     ·have c2:decide (((a.length:Nat):Int)<=(k:Int))=true:=by simp only[bm];omega
      simp only[c1,c2,getD_lt hkb,cN,cB,cO,hkb,cr,kJ,aA,aR,bI,aP,hw,h3,bQ,dm];rw[show decide (k+(0+1)<=1073741824)=true by simp only[bm];omega,aA,ih (k+1) _ (by omega) (by omega) (by simp[h3]),lI hka,lI (by omega:a.length<=k+1),dX hkb];simp[gW]
    ·have c1:decide (((b.length:Nat):Int)<=(k:Int))=true:=by simp only[bm];omega
     have hka:k<a.length:=by omega
     simp only[c1,getD_lt hka,cN,cB,cO,hka,cr,gR,aA,aR,bI,aP,hw,h3,bQ,dm];rw[show decide (k+(0+1)<=1073741824)=true by simp only[bm];omega,aA,ih (k+1) _ (by omega) (by omega) (by simp[h3]),lI hkb,lI (by omega:b.length<=k+1),dX hka,ER,ER];simp
   ·rw[M.ot];have n1:¬(k:Int)<((a.length:Nat):Int):=by omega
    have n2:¬(k:Int)<((b.length:Nat):Int):=by omega
    simp only[n1,n2,uR,hU,aR];rw[lI (by omega:a.length<=k),lI (by omega:b.length<=k)];simp[gW]
 unfold M.rN;have e:=key ah 0 [] (cU _) (by have:=cH;omega) rfl;have e':M.ot a b ah 0 []=_:=e;rw[e'];rfl
theorem aj0(a b:List Int)(ha:a.length<=4194304)(hb:b.length<=4194304)(oa:ones a)(ob:ones b):M.xg a b=some (gW a b):=by
 have key:∀f k (o:List Int),k<=max a.length b.length->max a.length b.length-k<f->o.length=k->M.rQ a b ((max a.length b.length:Nat):Int) f (k:Int) o=some (o++gW (a.drop k) (b.drop k)):=by
  intro f
  induction f with
  |zero=>intro k o h1 h2;omega
  |succ f ih=>
   intro k o h1 h2 h3;rcases cQ k (max a.length b.length)with hk|hk
   ·rw[M.rQ];have hw:Go.IntKind.wrap .i64 ((k:Int)+1)=((k+1:Nat):Int):=cm hk (by omega);have c0:decide ((k:Int)<((max a.length b.length:Nat):Int))=true:=by simp only[bm];omega
    rw[c0,aA];have hd:decide (o.length+([(1:Int)]:List Int).length<=1073741824)=true:=by simp only[bm,bQ,dm];omega
    rcases cQ k b.length with hkb|hkb
    ·have vb:=ob b[k] (bC hkb);rcases cQ k a.length with hka|hka
     ·have va:=oa a[k] (bC hka);simp only[getD_lt hka,getD_lt hkb,cN,cB,cO,hka,hkb,cr,gR,bI,aP,hw,bQ,dm];simp only[bQ,dm]at hd;rw[hd];have hm:(bif(a[k]==2)||(b[k]==2)then(2:Int)else 1)=max a[k] b[k]:=by
       rcases va with va|va<;>rcases vb with vb|vb<;>rw[va,vb]<;>decide
      rw[hm];have hg:((true|| !((a[k]==(2:Int))||(b[k]==2)))&&(true||((a[k]==(2:Int))||(b[k]==2))))=true:=by simp
      simp only[gR,fE,aA];rw[ih (k+1) _ (by omega) (by omega) (by simp[h3]),Xh hka hkb];simp
     ·have na:¬(k<a.length):=by omega
      simp only[getD_lt hkb,cN,cB,cO,hkb,na,cr,uR,gR,bI,aP,mY,uM,kJ,uS,hw,bQ,dm];simp only[bQ,dm]at hd;rw[hd];have hm:(bif(b[k]==2)then(2:Int)else 1)=b[k]:=by
       rcases vb with vb|vb<;>rw[vb]<;>decide
      rw[hm];simp;rw[show((k:Nat):Int)+1=((k+1:Nat):Int)from rfl,ih (k+1) _ (by omega) (by omega) (by simp[h3]),lI hka,lI (by omega:a.length<=k+1),dX hkb];simp[gW]
    ·have hka:k<a.length:=by omega
     have va:=oa a[k] (bC hka);have nb:¬(k<b.length):=by omega
     simp only[getD_lt hka,cN,cB,cO,hka,nb,cr,uR,gR,bI,aP,mY,Bool.and_false,uM,uC,kJ,uS,hw,bQ,dm];simp only[bQ,dm]at hd;rw[hd];have hm:(bif(a[k]==2)then(2:Int)else 1)=a[k]:=by
      rcases va with va|va<;>rw[va]<;>decide
     rw[hm];simp;rw[show((k:Nat):Int)+1=((k+1:Nat):Int)from rfl,ih (k+1) _ (by omega) (by omega) (by simp[h3]),lI hkb,lI (by omega:b.length<=k+1),dX hka,ER,ER];simp
   ·rw[M.rQ];have n1:decide ((k:Int)<((max a.length b.length:Nat):Int))=false:=by simp only[lC];omega
    rw[n1,aR,lI (by omega:a.length<=k),lI (by omega:b.length<=k)];simp[gW]
 unfold M.xg;have hmx:(bif decide (((a.length:Nat):Int)<((b.length:Nat):Int))then((b.length:Nat):Int)else((a.length:Nat):Int))=((max a.length b.length:Nat):Int):=by
  rcases cQ a.length b.length with h|h
  ·rw[aY (by omega),aA];omega
  ·rw[bU (by omega),aR];omega
 rw[hmx];have e:=key ah 0 [] (cU _) (by have:=cH;omega) rfl;have e':M.rQ a b ((max a.length b.length:Nat):Int) ah 0 []=_:=e;rw[e'];rfl
end M
namespace M
open Go.V (inB bK ah cH)
theorem JE{t:aa}(h:bw t=true)(hk:t.Kind=13\/t.Kind=14\/t.Kind=17):cn t=1::gu [] (bB t):=by
 unfold bB;rw[eC];by_cases h13:t.Kind=13
 ·have hp:=sg h h13;rw[av h13,getD_lt hp];have q1:¬t.Kind=1:=by omega
  have q2:¬t.Kind=9:=by omega
  have q3:¬(t.Kind=11\/t.Kind=12):=by omega
  have q4:¬(t.Kind=15\/t.Kind=16):=by omega
  rw[ak q1,ak q2,ak q3,ak q4,av h13];have hu:cn (.mk 1 [] [] [])=[]:=by rw[eC];rfl
  have:∀(l:List aa)(hl:0<l.length),sy l=gu [] [.mk 1 [] [] [],l[0]]:=fun l hl=>by
   cases l with
   |nil=>simp at hl
   |cons x r=>simp only[sy,gu,hu,List.getElem_cons_zero,gW]
  rw[this _ hp]
 ·rw[ak h13];have hk':t.Kind=14\/t.Kind=17:=by omega
  have q1:¬t.Kind=1:=by omega
  have q2:¬t.Kind=9:=by omega
  have q3:¬(t.Kind=11\/t.Kind=12):=by omega
  have q4:¬(t.Kind=15\/t.Kind=16):=by omega
  rw[ak q1,ak q2,ak q3,ak q4,ak h13,av hk']
theorem Xi{t:aa}(h:bw t=true)(hk:t.Kind=13\/t.Kind=14\/t.Kind=17)(hN:t.sz<=1048576):dB (bB t)<=1048580/\(bB t).length<=1048576+2:=by
 have h1:=xU (aa.jk hN);have h2:=aa.fi hN;unfold bB;by_cases h13:t.Kind=13
 ·have hp:=sg h h13;rw[av h13,getD_lt hp];have h3:=WM t.Kids t.Kids[0] (bC _);have:dJ (.mk 1 [] [] [])=1:=by rw[uO];rfl
  simp only[dB,this,bQ,dm];omega
 ·rw[ak h13];omega
theorem Xj(K:Int){P:Prop}(h1:K=1->P)(h9:K=9->P)(h11:K=11->P)(h12:K=12->P)(h15:K=15->P)(h16:K=16->P)
 (hc:(K=13\/K=14\/K=17)->P) (he:(K≠1/\K≠9/\K≠11/\K≠12/\K≠15/\K≠16/\K≠13/\K≠14/\K≠17)->P):P:=by
 by_cases q1:K=1
 ·exact h1 q1
 by_cases q2:K=9
 ·exact h9 q2
 by_cases q3:K=11
 ·exact h11 q3
 by_cases q4:K=12
 ·exact h12 q4
 by_cases q5:K=15
 ·exact h15 q5
 by_cases q6:K=16
 ·exact h16 q6
 by_cases q7:K=13\/K=14\/K=17
 ·exact hc q7
 ·exact he ⟨q1,q2,q3,q4,q5,q6,by omega,by omega,by omega⟩
theorem JJ(n:Nat)(rec:List aa->Option (List Int))(hr:∀ts,aZ aa.sz ts<n->ts.length<=1048576->aZ aa.sz ts<=1048576->(∀x∈ts,bw x=true)->rec ts=some (eD ts)):
 ∀(m:Nat)(t:aa),t.sz<m->t.sz<n->t.sz<=1048576->bw t=true->M.lh rec m t=some (cn t)
 |0,t,h,_,_,_=>absurd h (eB _)
 |m+1,t,h,hn,hN,hs=>by
  have hka:rec t.Kids=some (eD t.Kids):=hr _ (by rw[aa.dV]at hn;omega) (aa.fi hN) (aa.jk hN) (fh hs)
  show M.uc rec (M.lh rec m) t=_
  unfold M.uc;refine Xj t.Kind ?_ ?_ ?_ ?_ ?_ ?_ ?_ ?_
  ·intro hk;rw[eC];simp only[hk];rfl
  ·intro hk;rw[eC];simp only[hk];rfl
  ·intro hk;rw[eC];simp only[hk];rfl
  ·intro hk;rw[eC];simp only[hk];rfl
  ·intro hk;rw[eC];simp only[hk,hka];rfl
  ·intro hk;rw[eC];simp only[hk,hka];rfl
  ·intro hk;obtain⟨hsum,hlen⟩:=Xi hs hk hN;have hcs:=lD hs hk;have hcz:=kG hs hk;have key:∀f k (a:List Int),k<=(bB t).length->(bB t).length-k<f->a.length+2*dB ((bB t).drop k)<=2097160->M.ou (M.lh rec m) (bB t) f (k:Int) a=some (gu a ((bB t).drop k)):=by
    intro f
    induction f with
    |zero=>intro k a h1 h2;omega
    |succ f ih=>
     intro k a h1 h2 h3;rcases cQ k (bB t).length with hk'|hk'
     ·rw[M.ou];have hm:=bC hk';have hz:=hcz _ hm;have hfl:=m4 (bB t)[k];rw[sq hk']at h3;have hj:=ajZ a (cn (bB t)[k]) (by omega) (by omega);simp only[aa.aO,getD_lt hk',JJ n rec hr m (bB t)[k] (by omega) (by omega) (by omega) (hcs _ hm),cN,cB,cO,hk',cr,aA,bI,aP,cm hk' (by omega:(bB t).length<2^62),aS,aU,hj];rw[ih (k+1) _ (by omega) (by omega) (by rw[xP];omega),Xg a hk']
     ·have:k=(bB t).length:=by omega
      subst this;rw[M.ou];simp[gU,gu]
   have e:=key ah 0 [] (cU _) (by have:=cH;omega) (by simp only[ej,dm];omega);have e':M.ou (M.lh rec m) (bB t) ah 0 []=_:=e;rw[ej]at e';have hjl:=ES (bB t) [] (fun x _=>m4 x);have hd:decide (([(1:Int)]:List Int).length+(gu [] (bB t)).length<=1073741824)=true:=by simp only[bm,bQ,dm]at*;omega
   rw[JE hs hk];have hce:=xI t hs hk;simp only[aa.aO,hce,aS,e',hd,aU,fE];rcases hk with hk|hk|hk<;>rw[hk]<;>rfl
  ·rintro ⟨q1,q2,q3,q4,q5,q6,q7,q8,q9⟩
   rw[eC,ak q1,ak q2,ak (by omega),ak (by omega),ak q7,ak (by omega)];have b1:(t.Kind==1)=false:=by simpa using q1
   have b2:(t.Kind==9)=false:=by simpa using q2
   have b3:(t.Kind==11)=false:=by simpa using q3
   have b4:(t.Kind==12)=false:=by simpa using q4
   have b5:(t.Kind==15)=false:=by simpa using q5
   have b6:(t.Kind==16)=false:=by simpa using q6
   have b7:(t.Kind==13)=false:=by simpa using q7
   have b8:(t.Kind==14)=false:=by simpa using q8
   have b9:(t.Kind==17)=false:=by simpa using q9
   simp only[b1,b2,b3,b4,b5,b6,b7,b8,b9,aR]
theorem WB:∀(n:Nat)(ts:List aa),aZ aa.sz ts<n->ts.length<=1048576->aZ aa.sz ts<=1048576->(∀x∈ts,bw x=true)->M.pN n ts=some (eD ts)
 |0,ts,h,_,_,_=>absurd h (eB _)
 |n+1,ts,h,hl,hN,hs=>by
  have hsum:=xU hN;have key:∀f k (a:List Int),k<=ts.length->ts.length-k<f->a.length+2*dB (ts.drop k)<=2097160->M.rO (M.pN n) ts f (k:Int) a=some (a++eD (ts.drop k)):=by
   intro f
   induction f with
   |zero=>intro k a h1 h2;omega
   |succ f ih=>
    intro k a h1 h2 h3;rcases cQ k ts.length with hk|hk
    ·rw[M.rO];have hm:=bC hk;have hz:=jV aa.sz _ _ hm;have hfl:=m4 ts[k];rw[sq hk]at h3;have hf:M.pM (M.pN n) ts[k]=some (cn ts[k]):=JJ n _ (fun ts h1 h2 h3 h4=>WB n ts h1 h2 h3 h4) ah _ (fj (by omega)) (by omega) (by omega) (hs _ hm);have hd:decide (a.length+(cn ts[k]).length<=1073741824)=true:=by simp only[bm];omega
     simp only[aa.aO,getD_lt hk,hf,cN,cB,cO,hk,cr,aA,bI,aP,cm hk (by omega:ts.length<2^62),aS,aU,hd];rw[ih (k+1) _ (by omega) (by omega) (by rw[cL];omega),EM hk,iw]
    ·have:k=ts.length:=by omega
     subst this;rw[M.rO];simp[gU,eD]
  show M.zH (M.pN n) ts=_
  unfold M.zH;have e:=key ah 0 [] (cU _) (by have:=cH;omega) (by simp only[ej,dm];omega);have e':M.rO (M.pN n) ts ah 0 []=_:=e;rw[e'];rfl
theorem JI(n:Nat)(rec:List aa->Option (List Int))(hr:∀ts,aZ aa.sz ts<n->ts.length<=1048576->aZ aa.sz ts<=1048576->(∀x∈ts,bw x=true)->rec ts=some (eD ts)):
 ∀(m:Nat)(t:aa),t.sz<m->t.sz<n->t.sz<=1048576->bw t=true->M.rS rec m t=some (cn t)
 |0,t,h,_,_,_=>absurd h (eB _)
 |m+1,t,h,hn,hN,hs=>by
  have hka:rec t.Kids=some (eD t.Kids):=hr _ (by rw[aa.dV]at hn;omega) (aa.fi hN) (aa.jk hN) (fh hs)
  show M.zK rec (M.rS rec m) t=_
  unfold M.zK;refine Xj t.Kind ?_ ?_ ?_ ?_ ?_ ?_ ?_ ?_
  ·intro hk;rw[eC];simp only[hk];rfl
  ·intro hk;rw[eC];simp only[hk];rfl
  ·intro hk;rw[eC];simp only[hk];rfl
  ·intro hk;rw[eC];simp only[hk];rfl
  ·intro hk;rw[eC];simp only[hk,hka];rfl
  ·intro hk;rw[eC];simp only[hk,hka];rfl
  ·intro hk;obtain⟨hsum,hlen⟩:=Xi hs hk hN;have hcs:=lD hs hk;have hcz:=kG hs hk;have key:∀f k (a:List Int),k<=(bB t).length->(bB t).length-k<f->a.length+2*dB ((bB t).drop k)<=2097160->ones a->M.rR (M.rS rec m) (bB t) ((bB t).length:Int) f (k:Int) a=some (gu a ((bB t).drop k)):=by
    intro f
    induction f with
    |zero=>intro k a h1 h2;omega
    |succ f ih=>
     intro k a h1 h2 h3 h4;rcases cQ k (bB t).length with hk'|hk'
     ·rw[M.rR];have hm:=bC hk';have hz:=hcz _ hm;have hfl:=m4 (bB t)[k];rw[sq hk']at h3;have hj:=aj0 a (cn (bB t)[k]) (by omega) (by omega) h4 (Xd _);simp only[aa.aO,getD_lt hk',JI n rec hr m (bB t)[k] (by omega) (by omega) (by omega) (hcs _ hm),cN,cB,cO,hk',cr,aA,bI,aP,cm hk' (by omega:(bB t).length<2^62),aS,aU,hj];rw[ih (k+1) _ (by omega) (by omega) (by rw[xP];omega) (JV _ _ h4 (Xd _)),Xg a hk']
     ·have:k=(bB t).length:=by omega
      subst this;rw[M.rR];simp[gU,gu]
   have e:=key ah 0 [] (cU _) (by have:=cH;omega) (by simp only[ej,dm];omega) (fun x hx=>by simp at hx);have e':M.rR (M.rS rec m) (bB t) ((bB t).length:Int) ah 0 []=_:=e;rw[ej]at e';have hjl:=ES (bB t) [] (fun x _=>m4 x);have hd:decide (([(1:Int)]:List Int).length+(gu [] (bB t)).length<=1073741824)=true:=by simp only[bm,bQ,dm]at*;omega
   rw[JE hs hk];have hce:=xK t hs hk;simp only[aa.aO,hce,aS,e',hd,aU,fE];rcases hk with hk|hk|hk<;>rw[hk]<;>rfl
  ·rintro ⟨q1,q2,q3,q4,q5,q6,q7,q8,q9⟩
   rw[eC,ak q1,ak q2,ak (by omega),ak (by omega),ak q7,ak (by omega)];have b1:(t.Kind==1)=false:=by simpa using q1
   have b2:(t.Kind==9)=false:=by simpa using q2
   have b3:(t.Kind==11)=false:=by simpa using q3
   have b4:(t.Kind==12)=false:=by simpa using q4
   have b5:(t.Kind==15)=false:=by simpa using q5
   have b6:(t.Kind==16)=false:=by simpa using q6
   have b7:(t.Kind==13)=false:=by simpa using q7
   have b8:(t.Kind==14)=false:=by simpa using q8
   have b9:(t.Kind==17)=false:=by simpa using q9
   simp only[b1,b2,b3,b4,b5,b6,b7,b8,b9,aR]
theorem Ww:∀(n:Nat)(ts:List aa),aZ aa.sz ts<n->ts.length<=1048576->aZ aa.sz ts<=1048576->(∀x∈ts,bw x=true)->M.pQ n ts=some (eD ts)
 |0,ts,h,_,_,_=>absurd h (eB _)
 |n+1,ts,h,hl,hN,hs=>by
  have hsum:=xU hN;have key:∀f k (a:List Int),k<=ts.length->ts.length-k<f->a.length+2*dB (ts.drop k)<=2097160->M.rU (M.pQ n) ts (ts.length:Int) f (k:Int) a=some (a++eD (ts.drop k)):=by
   intro f
   induction f with
   |zero=>intro k a h1 h2;omega
   |succ f ih=>
    intro k a h1 h2 h3;rcases cQ k ts.length with hk|hk
    ·rw[M.rU];have hm:=bC hk;have hz:=jV aa.sz _ _ hm;have hfl:=m4 ts[k];rw[sq hk]at h3;have hf:M.rT (M.pQ n) ts[k]=some (cn ts[k]):=JI n _ (fun ts h1 h2 h3 h4=>Ww n ts h1 h2 h3 h4) ah _ (fj (by omega)) (by omega) (by omega) (hs _ hm);have hd:decide (a.length+(cn ts[k]).length<=1073741824)=true:=by simp only[bm];omega
     simp only[aa.aO,getD_lt hk,hf,cN,cB,cO,hk,cr,aA,bI,aP,cm hk (by omega:ts.length<2^62),aS,aU,hd];rw[ih (k+1) _ (by omega) (by omega) (by rw[cL];omega),EM hk,iw]
    ·have:k=ts.length:=by omega
     subst this;rw[M.rU];simp[gU,eD]
  show M.zL (M.pQ n) ts=_
  unfold M.zL;have e:=key ah 0 [] (cU _) (by have:=cH;omega) (by simp only[ej,dm];omega);have e':M.rU (M.pQ n) ts (ts.length:Int) ah 0 []=_:=e;rw[e'];rfl
end M
