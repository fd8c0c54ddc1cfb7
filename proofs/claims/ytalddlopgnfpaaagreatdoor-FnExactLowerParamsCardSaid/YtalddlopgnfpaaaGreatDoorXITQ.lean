/-
  THE FLAT KINDS of types: both ways of counting them are one.
-/
import Derived.Test.YtalddlopgnfpaaaGreatDoorXITP
set_option linter.unusedVariables false
set_option linter.unusedSimpArgs false
namespace M
open Go.V (inB bV ah cC)
def hJ:List Int->List Int->List Int
 |[],b=>b
 |x::a,[]=>x::a
 |x::a,y::b=>max x y::hJ a b
theorem FA(a:List Int):hJ a []=a:=by cases a<;>rfl
theorem yv:∀a b:List Int,(hJ a b).length=max a.length b.length
 |[],b=>by simp[hJ]
 |x::a,[]=>by simp[hJ]
 |x::a,y::b=>by simp only[hJ,bX,yv a b];omega
def ones(l:List Int):Prop:=∀x∈l,x=1\/x=2
theorem K8:∀a b:List Int,ones a->ones b->ones (hJ a b)
 |[],b,_,h=>h
 |x::a,[],h,_=>h
 |x::a,y::b,ha,hb=>by
  intro z hz;rcases dY.1 hz with rfl|hz
  ·have:=ha x (ek ..);have:=hb y (ek ..);omega
  ·exact K8 a b (fun w hw=>ha w (fL _ hw)) (fun w hw=>hb w (fL _ hw)) z hz
theorem K9{a b:List Int}(ha:ones a)(hb:ones b):ones (a++b):=fun x hx=>(dM.1 hx).elim (ha x) (hb x)
mutual
def ct:aa->List Int
 |.mk k n l kids=>
   if k=1 then[]else if k=9 then[2]else if k=11\/k=12 then[1,1]
   else if k=15\/k=16 then dx kids
   else if k=13 then 1::sY kids
   else if k=14\/k=17 then 1::gG [] kids else[1]
def dx:List aa->List Int
 |[]=>[]
 |x::r=>ct x++dx r
def sY:List aa->List Int
 |[]=>[]
 |x::_=>ct x
def gG(a:List Int):List aa->List Int
 |[]=>a
 |x::r=>gG (hJ a (ct x)) r
end
theorem eG(t:aa):ct t=(if t.Kind=1 then[]else if t.Kind=9 then[2]else if t.Kind=11\/t.Kind=12 then[1,1]
 else if t.Kind=15\/t.Kind=16 then dx t.Kids
 else if t.Kind=13 then 1::sY t.Kids
 else if t.Kind=14\/t.Kind=17 then 1::gG [] t.Kids else[1]):=by cases t;rw[ct];rfl
theorem YJ:∀l:List aa,(∀x∈l,ones (ct x))->ones (dx l)
 |[],_=>fun x hx=>by simp[dx]at hx
 |x::r,h=>by
  rw[dx];exact K9 (h x (ek ..)) (YJ r fun y hy=>h y (fL _ hy))
theorem YK:∀(l:List aa)(a:List Int),ones a->(∀x∈l,ones (ct x))->ones (gG a l)
 |[],a,ha,_=>ha
 |x::r,a,ha,h=>YK r _ (K8 _ _ ha (h x (ek ..))) fun y hy=>h y (fL _ hy)
theorem YL:∀(n:Nat)(t:aa),t.sz<n->ones (ct t)
 |0,t,h=>absurd h (en _)
 |n+1,t,h=>by
  have hk:∀x∈t.Kids,ones (ct x):=fun x hx=>YL n x (by have:=aa.cX hx;omega)
  have h0:ones []:=fun x hx=>by simp at hx
  have h1:ones [1]:=fun x hx=>by simp at hx;exact .inl hx
  rw[eG];by_cases q1:t.Kind=1
  ·rw[av q1];exact h0
  rw[an q1];by_cases q2:t.Kind=9
  ·rw[av q2];intro x hx;simp at hx;exact .inr hx
  rw[an q2];by_cases q3:t.Kind=11\/t.Kind=12
  ·rw[av q3];intro x hx;simp at hx;exact .inl hx
  rw[an q3];by_cases q4:t.Kind=15\/t.Kind=16
  ·rw[av q4];exact YJ _ hk
  rw[an q4];by_cases q5:t.Kind=13
  ·rw[av q5];refine K9 h1 (b:=sY t.Kids) ?_;cases hks:t.Kids with
   |nil=>exact h0
   |cons x r=>exact hk x (by rw[hks];exact ek ..)
  rw[an q5];by_cases q6:t.Kind=14\/t.Kind=17
  ·rw[av q6];exact K9 h1 (YK _ _ h0 hk)
  rw[an q6];exact h1
theorem YM(t:aa):ones (ct t):=YL _ t (sG _)
theorem YN:∀l:List aa,(∀x∈l,(ct x).length<=2*dO x)->(dx l).length<=2*dF l
 |[],_=>bg _
 |x::r,h=>by
  have:=YN r fun y hy=>h y (fL _ hy)
  have:=h x (ek ..);simp only[dx,dF,cI];omega
theorem FB:∀(l:List aa)(a:List Int),(∀x∈l,(ct x).length<=2*dO x)->(gG a l).length<=a.length+2*dF l
 |[],a,_=>by simp[gG]
 |x::r,a,h=>by
  have h1:=FB r (hJ a (ct x)) fun y hy=>h y (fL _ hy)
  have:=h x (ek ..);rw[yv]at h1;simp only[gG,dF];omega
theorem YO:∀(n:Nat)(t:aa),t.sz<n->(ct t).length<=2*dO t
 |0,t,h=>absurd h (en _)
 |n+1,t,h=>by
  have hk:∀x∈t.Kids,(ct x).length<=2*dO x:=fun x hx=>YO n x (by have:=aa.cX hx;omega)
  have a1:=YN _ hk;have a2:=FB _ [] hk;have a3:(sY t.Kids).length<=2*dF t.Kids:=by
   cases hks:t.Kids with
   |nil=>simp[sY]
   |cons x r=>
    have:=hk x (by rw[hks];exact ek ..);simp only[sY,dF];omega
  rw[eG,vl]
  repeat' split
  all_goals simp only[bX,dn]at*
  all_goals omega
theorem oV(t:aa):(ct t).length<=2*dO t:=YO _ t (sG _)
theorem Ft{l:List aa}{k:Nat}(h:k<l.length):dx (l.drop k)=ct l[k]++dx (l.drop (k+1)):=by rw[dZ h];rfl
theorem YP{l:List aa}{k:Nat}(a:List Int)(h:k<l.length):gG a (l.drop k)=gG (hJ a (ct l[k])) (l.drop (k+1)):=by rw[dZ h];rfl
theorem YQ{a b:List Int}{k:Nat}(ha:k<a.length)(hb:k<b.length):hJ (a.drop k) (b.drop k)=max a[k] b[k]::hJ (a.drop (k+1)) (b.drop (k+1)):=by rw[dZ ha,dZ hb];rfl
theorem aml(a b:List Int)(ha:a.length<=4194304)(hb:b.length<=4194304):M.xx a b=some (hJ a b):=by
 have key:∀f k (o:List Int),k<=max a.length b.length->max a.length b.length-k<f->o.length=k->M.ou a b f (k:Int) o=some (o++hJ (a.drop k) (b.drop k)):=by
  intro f
  induction f with
  |zero=>intro k o h1 h2;omega
  |succ f ih=>
   intro k o h1 h2 h3;rcases cO k (max a.length b.length)with hk|hk
   ·rw[M.ou];have hw:Go.IntKind.wrap .i64 ((k:Int)+1)=((k+1:Nat):Int):=cm hk (by omega);rcases cO k b.length with hkb|hkb
    ·have c1:decide (((b.length:Nat):Int)<=(k:Int))=false:=by simp only[lE];omega
     rcases cO k a.length with hka|hka
     ·have c2:decide (((a.length:Nat):Int)<=(k:Int))=false:=by simp only[lE];omega
      have hm:M.gQ a[k] b[k]=some (max a[k] b[k]):=by
       unfold M.gQ;rcases Int.lt_or_le b[k] a[k]with h|h
       ·rw[aY h,aA];congr 1;omega
       ·rw[bU (by omega),aT];congr 1;omega
      simp only[c1,c2,getD_lt hka,getD_lt hkb,hm,bL,cq,cJ,hka,hkb,cn,cD,aA,aT,bM,aO,aQ,aU,hw,h3,bX,dn];rw[show decide (k+(0+1)<=1073741824)=true by simp only[bh];omega,aA,ih (k+1) _ (by omega) (by omega) (by simp[h3]),YQ hka hkb];simp
     ·have c2:decide (((a.length:Nat):Int)<=(k:Int))=true:=by simp only[bh];omega
      simp only[c1,c2,getD_lt hkb,bL,cq,cJ,hkb,cn,kN,aA,aT,bM,aO,hw,h3,bX,dn];rw[show decide (k+(0+1)<=1073741824)=true by simp only[bh];omega,aA,ih (k+1) _ (by omega) (by omega) (by simp[h3]),lM hka,lM (by omega:a.length<=k+1),dZ hkb];simp[hJ]
    ·have c1:decide (((b.length:Nat):Int)<=(k:Int))=true:=by simp only[bh];omega
     have hka:k<a.length:=by omega
     simp only[c1,getD_lt hka,bL,cq,cJ,hka,cn,cD,aA,aT,bM,aO,hw,h3,bX,dn];rw[show decide (k+(0+1)<=1073741824)=true by simp only[bh];omega,aA,ih (k+1) _ (by omega) (by omega) (by simp[h3]),lM hkb,lM (by omega:b.length<=k+1),dZ hka,FA,FA];simp
   ·rw[M.ou];have n1:¬(k:Int)<((a.length:Nat):Int):=by omega
    have n2:¬(k:Int)<((b.length:Nat):Int):=by omega
    simp only[n1,n2,vo,ip,aT];rw[lM (by omega:a.length<=k),lM (by omega:b.length<=k)];simp[hJ]
 unfold M.xx;have e:=key ah 0 [] (cU _) (by have:=cC;omega) rfl;have e':M.ou a b ah 0 []=_:=e;rw[e'];rfl
theorem amm(a b:List Int)(ha:a.length<=4194304)(hb:b.length<=4194304)(oa:ones a)(ob:ones b):M.xE a b=some (hJ a b):=by
 have key:∀f k (o:List Int),k<=max a.length b.length->max a.length b.length-k<f->o.length=k->M.sg a b ((max a.length b.length:Nat):Int) f (k:Int) o=some (o++hJ (a.drop k) (b.drop k)):=by
  intro f
  induction f with
  |zero=>intro k o h1 h2;omega
  |succ f ih=>
   intro k o h1 h2 h3;rcases cO k (max a.length b.length)with hk|hk
   ·rw[M.sg];have hw:Go.IntKind.wrap .i64 ((k:Int)+1)=((k+1:Nat):Int):=cm hk (by omega);have c0:decide ((k:Int)<((max a.length b.length:Nat):Int))=true:=by simp only[bh];omega
    rw[c0,aA];have hd:decide (o.length+([(1:Int)]:List Int).length<=1073741824)=true:=by simp only[bh,bX,dn];omega
    rcases cO k b.length with hkb|hkb
    ·have vb:=ob b[k] (bn hkb);rcases cO k a.length with hka|hka
     ·have va:=oa a[k] (bn hka);simp only[getD_lt hka,getD_lt hkb,bL,cq,cJ,hka,hkb,cn,cD,bM,aO,hw,bX,dn];simp only[bX,dn]at hd;rw[hd];have hm:(bif(a[k]==2)||(b[k]==2)then(2:Int)else 1)=max a[k] b[k]:=by
       rcases va with va|va<;>rcases vb with vb|vb<;>rw[va,vb]<;>decide
      rw[hm];have hg:((true|| !((a[k]==(2:Int))||(b[k]==2)))&&(true||((a[k]==(2:Int))||(b[k]==2))))=true:=by simp
      simp only[cD,fF,aA];rw[ih (k+1) _ (by omega) (by omega) (by simp[h3]),YQ hka hkb];simp
     ·have na:¬(k<a.length):=by omega
      simp only[getD_lt hkb,bL,cq,cJ,hkb,na,cn,vo,cD,bM,aO,oP,sN,kN,qy,hw,bX,dn];simp only[bX,dn]at hd;rw[hd];have hm:(bif(b[k]==2)then(2:Int)else 1)=b[k]:=by
       rcases vb with vb|vb<;>rw[vb]<;>decide
      rw[hm];simp;rw[show((k:Nat):Int)+1=((k+1:Nat):Int)from rfl,ih (k+1) _ (by omega) (by omega) (by simp[h3]),lM hka,lM (by omega:a.length<=k+1),dZ hkb];simp[hJ]
    ·have hka:k<a.length:=by omega
     have va:=oa a[k] (bn hka);have nb:¬(k<b.length):=by omega
     simp only[getD_lt hka,bL,cq,cJ,hka,nb,cn,vo,cD,bM,aO,oP,Bool.and_false,sN,m8,kN,qy,hw,bX,dn];simp only[bX,dn]at hd;rw[hd];have hm:(bif(a[k]==2)then(2:Int)else 1)=a[k]:=by
      rcases va with va|va<;>rw[va]<;>decide
     rw[hm];simp;rw[show((k:Nat):Int)+1=((k+1:Nat):Int)from rfl,ih (k+1) _ (by omega) (by omega) (by simp[h3]),lM hkb,lM (by omega:b.length<=k+1),dZ hka,FA,FA];simp
   ·rw[M.sg];have n1:decide ((k:Int)<((max a.length b.length:Nat):Int))=false:=by simp only[lE];omega
    rw[n1,aT,lM (by omega:a.length<=k),lM (by omega:b.length<=k)];simp[hJ]
 unfold M.xE;have hmx:(bif decide (((a.length:Nat):Int)<((b.length:Nat):Int))then((b.length:Nat):Int)else((a.length:Nat):Int))=((max a.length b.length:Nat):Int):=by
  rcases cO a.length b.length with h|h
  ·rw[aY (by omega),aA];omega
  ·rw[bU (by omega),aT];omega
 rw[hmx];have e:=key ah 0 [] (cU _) (by have:=cC;omega) rfl;have e':M.sg a b ((max a.length b.length:Nat):Int) ah 0 []=_:=e;rw[e'];rfl
end M
namespace M
open Go.V (inB bV ah cC)
theorem KN{t:aa}(h:bj t=true)(hk:t.Kind=13\/t.Kind=14\/t.Kind=17):ct t=1::gG [] (bB t):=by
 unfold bB;rw[eG];by_cases h13:t.Kind=13
 ·have hp:=sH h h13;rw[av h13,getD_lt hp];have q1:¬t.Kind=1:=by omega
  have q2:¬t.Kind=9:=by omega
  have q3:¬(t.Kind=11\/t.Kind=12):=by omega
  have q4:¬(t.Kind=15\/t.Kind=16):=by omega
  rw[an q1,an q2,an q3,an q4,av h13];have hu:ct (.mk 1 [] [] [])=[]:=by rw[eG];rfl
  have:∀(l:List aa)(hl:0<l.length),sY l=gG [] [.mk 1 [] [] [],l[0]]:=fun l hl=>by
   cases l with
   |nil=>simp at hl
   |cons x r=>simp only[sY,gG,hu,List.getElem_cons_zero,hJ]
  rw[this _ hp]
 ·rw[an h13];have hk':t.Kind=14\/t.Kind=17:=by omega
  have q1:¬t.Kind=1:=by omega
  have q2:¬t.Kind=9:=by omega
  have q3:¬(t.Kind=11\/t.Kind=12):=by omega
  have q4:¬(t.Kind=15\/t.Kind=16):=by omega
  rw[an q1,an q2,an q3,an q4,an h13,av hk']
theorem YR{t:aa}(h:bj t=true)(hk:t.Kind=13\/t.Kind=14\/t.Kind=17)(hN:t.sz<=1048576):dF (bB t)<=1048580/\(bB t).length<=1048576+2:=by
 have h1:=yx (aa.ke hN);have h2:=aa.fw hN;unfold bB;by_cases h13:t.Kind=13
 ·have hp:=sH h h13;rw[av h13,getD_lt hp];have h3:=Yo t.Kids t.Kids[0] (bn _);have:dO (.mk 1 [] [] [])=1:=by rw[vl];rfl
  simp only[dF,this,bX,dn];omega
 ·rw[an h13];omega
theorem YS(K:Int){P:Prop}(h1:K=1->P)(h9:K=9->P)(h11:K=11->P)(h12:K=12->P)(h15:K=15->P)(h16:K=16->P)
 (hc:(K=13\/K=14\/K=17)->P) (he:(K≠1/\K≠9/\K≠11/\K≠12/\K≠15/\K≠16/\K≠13/\K≠14/\K≠17)->P):P:=by
 by_cases q1:K=1
 ·exact h1 q1
 by_cases q2:K=9
 ·exact h9 q2
 by_cases q3:K=11
 ·exact h11 q3
 by_cases q4:K=12
 ·exact h12 q4
 by_cases q5:K=15
 ·exact h15 q5
 by_cases q6:K=16
 ·exact h16 q6
 by_cases q7:K=13\/K=14\/K=17
 ·exact hc q7
 ·exact he ⟨q1,q2,q3,q4,q5,q6,by omega,by omega,by omega⟩
theorem KT(n:Nat)(rec:List aa->Option (List Int))(hr:∀ts,aR aa.sz ts<n->ts.length<=1048576->aR aa.sz ts<=1048576->(∀x∈ts,bj x=true)->rec ts=some (dx ts)):
 ∀(m:Nat)(t:aa),t.sz<m->t.sz<n->t.sz<=1048576->bj t=true->M.r6 rec m t=some (ct t)
 |0,t,h,_,_,_=>absurd h (en _)
 |m+1,t,h,hn,hN,hs=>by
  have hka:rec t.Kids=some (dx t.Kids):=hr _ (by rw[aa.dW]at hn;omega) (aa.fw hN) (aa.ke hN) (fu hs)
  show M.Ar rec (M.r6 rec m) t=_
  unfold M.Ar;refine YS t.Kind ?_ ?_ ?_ ?_ ?_ ?_ ?_ ?_
  ·intro hk;rw[eG];simp only[hk];rfl
  ·intro hk;rw[eG];simp only[hk];rfl
  ·intro hk;rw[eG];simp only[hk];rfl
  ·intro hk;rw[eG];simp only[hk];rfl
  ·intro hk;rw[eG];simp only[hk,hka];rfl
  ·intro hk;rw[eG];simp only[hk,hka];rfl
  ·intro hk;obtain⟨hsum,hlen⟩:=YR hs hk hN;have hcs:=lF hs hk;have hcz:=kL hs hk;have key:∀f k (a:List Int),k<=(bB t).length->(bB t).length-k<f->a.length+2*dF ((bB t).drop k)<=2097160->M.r5 (M.r6 rec m) (bB t) f (k:Int) a=some (gG a ((bB t).drop k)):=by
    intro f
    induction f with
    |zero=>intro k a h1 h2;omega
    |succ f ih=>
     intro k a h1 h2 h3;rcases cO k (bB t).length with hk'|hk'
     ·rw[M.r5];have hm:=bn hk';have hz:=hcz _ hm;have hfl:=oV (bB t)[k];rw[sR hk']at h3;have hj:=aml a (ct (bB t)[k]) (by omega) (by omega);simp only[aa.aP,getD_lt hk',KT n rec hr m (bB t)[k] (by omega) (by omega) (by omega) (hcs _ hm),bL,cq,cJ,hk',cn,aA,bM,aO,cm hk' (by omega:(bB t).length<2^62),aQ,aU,hj];rw[ih (k+1) _ (by omega) (by omega) (by rw[yv];omega),YP a hk']
     ·have:k=(bB t).length:=by omega
      subst this;rw[M.r5];simp[hC,gG]
   have e:=key ah 0 [] (cU _) (by have:=cC;omega) (by simp only[ej,dn];omega);have e':M.r5 (M.r6 rec m) (bB t) ah 0 []=_:=e;rw[ej]at e';have hjl:=FB (bB t) [] (fun x _=>oV x);have hd:decide (([(1:Int)]:List Int).length+(gG [] (bB t)).length<=1073741824)=true:=by simp only[bh,bX,dn]at*;omega
   rw[KN hs hk];have hce:=ym t hs hk;simp only[aa.aP,hce,aQ,e',hd,aU,fF];rcases hk with hk|hk|hk<;>rw[hk]<;>rfl
  ·rintro ⟨q1,q2,q3,q4,q5,q6,q7,q8,q9⟩
   rw[eG,an q1,an q2,an (by omega),an (by omega),an q7,an (by omega)];have b1:(t.Kind==1)=false:=by simpa using q1
   have b2:(t.Kind==9)=false:=by simpa using q2
   have b3:(t.Kind==11)=false:=by simpa using q3
   have b4:(t.Kind==12)=false:=by simpa using q4
   have b5:(t.Kind==15)=false:=by simpa using q5
   have b6:(t.Kind==16)=false:=by simpa using q6
   have b7:(t.Kind==13)=false:=by simpa using q7
   have b8:(t.Kind==14)=false:=by simpa using q8
   have b9:(t.Kind==17)=false:=by simpa using q9
   simp only[b1,b2,b3,b4,b5,b6,b7,b8,b9,aT]
theorem KU:∀(n:Nat)(ts:List aa),aR aa.sz ts<n->ts.length<=1048576->aR aa.sz ts<=1048576->(∀x∈ts,bj x=true)->M.qf n ts=some (dx ts)
 |0,ts,h,_,_,_=>absurd h (en _)
 |n+1,ts,h,hl,hN,hs=>by
  have hsum:=yx hN;have key:∀f k (a:List Int),k<=ts.length->ts.length-k<f->a.length+2*dF (ts.drop k)<=2097160->M.sc (M.qf n) ts f (k:Int) a=some (a++dx (ts.drop k)):=by
   intro f
   induction f with
   |zero=>intro k a h1 h2;omega
   |succ f ih=>
    intro k a h1 h2 h3;rcases cO k ts.length with hk|hk
    ·rw[M.sc];have hm:=bn hk;have hz:=j5 aa.sz _ _ hm;have hfl:=oV ts[k];rw[sR hk]at h3;have hf:M.r7 (M.qf n) ts[k]=some (ct ts[k]):=KT n _ (fun ts h1 h2 h3 h4=>KU n ts h1 h2 h3 h4) ah _ (eU (by omega)) (by omega) (by omega) (hs _ hm);have hd:decide (a.length+(ct ts[k]).length<=1073741824)=true:=by simp only[bh];omega
     simp only[aa.aP,getD_lt hk,hf,bL,cq,cJ,hk,cn,aA,bM,aO,cm hk (by omega:ts.length<2^62),aQ,aU,hd];rw[ih (k+1) _ (by omega) (by omega) (by rw[cI];omega),Ft hk,iI]
    ·have:k=ts.length:=by omega
     subst this;rw[M.sc];simp[hC,dx]
  show M.As (M.qf n) ts=_
  unfold M.As;have e:=key ah 0 [] (cU _) (by have:=cC;omega) (by simp only[ej,dn];omega);have e':M.sc (M.qf n) ts ah 0 []=_:=e;rw[e'];rfl
theorem KQ(n:Nat)(rec:List aa->Option (List Int))(hr:∀ts,aR aa.sz ts<n->ts.length<=1048576->aR aa.sz ts<=1048576->(∀x∈ts,bj x=true)->rec ts=some (dx ts)):
 ∀(m:Nat)(t:aa),t.sz<m->t.sz<n->t.sz<=1048576->bj t=true->M.sj rec m t=some (ct t)
 |0,t,h,_,_,_=>absurd h (en _)
 |m+1,t,h,hn,hN,hs=>by
  have hka:rec t.Kids=some (dx t.Kids):=hr _ (by rw[aa.dW]at hn;omega) (aa.fw hN) (aa.ke hN) (fu hs)
  show M.Az rec (M.sj rec m) t=_
  unfold M.Az;refine YS t.Kind ?_ ?_ ?_ ?_ ?_ ?_ ?_ ?_
  ·intro hk;rw[eG];simp only[hk];rfl
  ·intro hk;rw[eG];simp only[hk];rfl
  ·intro hk;rw[eG];simp only[hk];rfl
  ·intro hk;rw[eG];simp only[hk];rfl
  ·intro hk;rw[eG];simp only[hk,hka];rfl
  ·intro hk;rw[eG];simp only[hk,hka];rfl
  ·intro hk;obtain⟨hsum,hlen⟩:=YR hs hk hN;have hcs:=lF hs hk;have hcz:=kL hs hk;have key:∀f k (a:List Int),k<=(bB t).length->(bB t).length-k<f->a.length+2*dF ((bB t).drop k)<=2097160->ones a->M.si (M.sj rec m) (bB t) ((bB t).length:Int) f (k:Int) a=some (gG a ((bB t).drop k)):=by
    intro f
    induction f with
    |zero=>intro k a h1 h2;omega
    |succ f ih=>
     intro k a h1 h2 h3 h4;rcases cO k (bB t).length with hk'|hk'
     ·rw[M.si];have hm:=bn hk';have hz:=hcz _ hm;have hfl:=oV (bB t)[k];rw[sR hk']at h3;have hj:=amm a (ct (bB t)[k]) (by omega) (by omega) h4 (YM _);simp only[aa.aP,getD_lt hk',KQ n rec hr m (bB t)[k] (by omega) (by omega) (by omega) (hcs _ hm),bL,cq,cJ,hk',cn,aA,bM,aO,cm hk' (by omega:(bB t).length<2^62),aQ,aU,hj];rw[ih (k+1) _ (by omega) (by omega) (by rw[yv];omega) (K8 _ _ h4 (YM _)),YP a hk']
     ·have:k=(bB t).length:=by omega
      subst this;rw[M.si];simp[hC,gG]
   have e:=key ah 0 [] (cU _) (by have:=cC;omega) (by simp only[ej,dn];omega) (fun x hx=>by simp at hx);have e':M.si (M.sj rec m) (bB t) ((bB t).length:Int) ah 0 []=_:=e;rw[ej]at e';have hjl:=FB (bB t) [] (fun x _=>oV x);have hd:decide (([(1:Int)]:List Int).length+(gG [] (bB t)).length<=1073741824)=true:=by simp only[bh,bX,dn]at*;omega
   rw[KN hs hk];have hce:=yo t hs hk;simp only[aa.aP,hce,aQ,e',hd,aU,fF];rcases hk with hk|hk|hk<;>rw[hk]<;>rfl
  ·rintro ⟨q1,q2,q3,q4,q5,q6,q7,q8,q9⟩
   rw[eG,an q1,an q2,an (by omega),an (by omega),an q7,an (by omega)];have b1:(t.Kind==1)=false:=by simpa using q1
   have b2:(t.Kind==9)=false:=by simpa using q2
   have b3:(t.Kind==11)=false:=by simpa using q3
   have b4:(t.Kind==12)=false:=by simpa using q4
   have b5:(t.Kind==15)=false:=by simpa using q5
   have b6:(t.Kind==16)=false:=by simpa using q6
   have b7:(t.Kind==13)=false:=by simpa using q7
   have b8:(t.Kind==14)=false:=by simpa using q8
   have b9:(t.Kind==17)=false:=by simpa using q9
   simp only[b1,b2,b3,b4,b5,b6,b7,b8,b9,aT]
theorem KR:∀(n:Nat)(ts:List aa),aR aa.sz ts<n->ts.length<=1048576->aR aa.sz ts<=1048576->(∀x∈ts,bj x=true)->M.qi n ts=some (dx ts)
 |0,ts,h,_,_,_=>absurd h (en _)
 |n+1,ts,h,hl,hN,hs=>by
  have hsum:=yx hN;have key:∀f k (a:List Int),k<=ts.length->ts.length-k<f->a.length+2*dF (ts.drop k)<=2097160->M.sn (M.qi n) ts (ts.length:Int) f (k:Int) a=some (a++dx (ts.drop k)):=by
   intro f
   induction f with
   |zero=>intro k a h1 h2;omega
   |succ f ih=>
    intro k a h1 h2 h3;rcases cO k ts.length with hk|hk
    ·rw[M.sn];have hm:=bn hk;have hz:=j5 aa.sz _ _ hm;have hfl:=oV ts[k];rw[sR hk]at h3;have hf:M.sk (M.qi n) ts[k]=some (ct ts[k]):=KQ n _ (fun ts h1 h2 h3 h4=>KR n ts h1 h2 h3 h4) ah _ (eU (by omega)) (by omega) (by omega) (hs _ hm);have hd:decide (a.length+(ct ts[k]).length<=1073741824)=true:=by simp only[bh];omega
     simp only[aa.aP,getD_lt hk,hf,bL,cq,cJ,hk,cn,aA,bM,aO,cm hk (by omega:ts.length<2^62),aQ,aU,hd];rw[ih (k+1) _ (by omega) (by omega) (by rw[cI];omega),Ft hk,iI]
    ·have:k=ts.length:=by omega
     subst this;rw[M.sn];simp[hC,dx]
  show M.AA (M.qi n) ts=_
  unfold M.AA;have e:=key ah 0 [] (cU _) (by have:=cC;omega) (by simp only[ej,dn];omega);have e':M.sn (M.qi n) ts (ts.length:Int) ah 0 []=_:=e;rw[e'];rfl
end M
