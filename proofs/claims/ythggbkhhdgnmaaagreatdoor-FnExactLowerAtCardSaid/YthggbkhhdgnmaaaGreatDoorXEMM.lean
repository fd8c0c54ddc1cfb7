/-
  THE BLOCKS of a core's code, matched, in plain Lean.
-/
import Derived.Test.YthggbkhhdgnmaaaGreatDoorXEpl4
import Derived.Test.YthggbkhhdgnmaaaGreatDoorXEFM
import Derived.Test.YthggbkhhdgnmaaaGreatDoorXEpl5
import Derived.Test.YthggbkhhdgnmaaaGreatDoorXEFH
import Derived.Test.YthggbkhhdgnmaaaGreatDoorXEpl3
set_option linter.unusedVariables false
namespace M
open Go.V (inB cA ae bS)
def fL(op:Int):Bool:=(op==24||op==25)||op==26
abbrev BS :=List bc×List Int
def jx(s:BS):Nat:=(s.2.getD (s.2.length-1) 0).toNat
def bZ(s:BS):bc:=s.1.getD (jx s) bc.zero
def opAt(c:List aJ)(at_:Int):Int:=(c.getD at_.toNat aJ.zero).Op
def df(e:Int)(c:List aJ)(k:Nat)(i:aJ)(s:BS):Int⊕BS:=
 if fL i.Op=true then
  if s.2.length=6 then .inl 4 else .inr (s.1++[bc.mk (k:Int) (-1) e 0 (i.A==1)],s.2++[(s.1.length:Int)])
 else if i.Op=27 then
  if s.2.length=0 then .inl 5
  else if opAt c (bZ s).At≠26\/0<=(bZ s).Else then .inl 5
  else .inr (s.1.set (jx s) (bc.mk (bZ s).At (k:Int) (bZ s).End (bZ s).Height (bZ s).Result),s.2)
 else if i.Op=28 then
  if s.2.length=0 then .inl 5
  else if(opAt c (bZ s).At=26/\(bZ s).Result=true)/\(bZ s).Else<0 then .inl 7
  else .inr (s.1.set (jx s) (bc.mk (bZ s).At (bZ s).Else (k:Int) (bZ s).Height (bZ s).Result),s.2.take (s.2.length-1))
 else .inr s
def eU(e:Int)(c:List aJ):Nat->Nat->BS->(Int×Int)⊕BS
 |0,k,s=>.inr s
 |n+1,k,s=>match df e c k (c.getD k aJ.zero) s with
  |.inl x=>.inl ((k:Int),x)
  |.inr s'=>eU e c n (k+1) s'
def strip(b:bc):bc:=bc.mk b.At b.Else 0 b.Height b.Result
def iC(s:BS):BS:=(s.1.map strip,s.2)
def kV{E A B:Type}(f:A->B):E⊕A->E⊕B
 |.inl e=>.inl e
 |.inr a=>.inr (f a)
theorem ahy(s:BS):jx (iC s)=jx s:=rfl
theorem ayF(s:BS):bZ (iC s)=strip (bZ s):=by
 unfold bZ;rw[ahy];simp only[iC,dK,gn];cases s.1[jx s]?<;>rfl
theorem ahz(e e':Int)(c:List aJ)(k:Nat)(i:aJ)(s:BS):kV iC (df e c k i s)=kV iC (df e' c k i (iC s)):=by
 have ht:=ayF s;unfold df;rw[ahy,ht];have h2:(iC s).2=s.2:=rfl;have hl:(iC s).1.length=s.1.length:=by simp[iC]
 rw[h2,hl];have ha:(strip (bZ s)).At=(bZ s).At:=rfl;have hb:(strip (bZ s)).Else=(bZ s).Else:=rfl;have hc:(strip (bZ s)).Result=(bZ s).Result:=rfl;have hd:(strip (bZ s)).Height=(bZ s).Height:=rfl;have he:(strip (bZ s)).End=0:=rfl;rw[ha,hb,hc,hd,he];have hm:∀b:bc,strip (strip b)=strip b:=fun b=>rfl
 have hmm:∀l:List bc,(l.map strip).map strip=l.map strip:=fun l=>by rw[Eo];rfl
 repeat' split
 all_goals first
  |rfl
  |(simp only[kV,iC,pP,List.map_set,hmm,jo,List.map_nil];try rfl)
theorem ahA(e e':Int)(c:List aJ):∀(n k:Nat)(s s':BS),iC s=iC s'->kV iC (eU e c n k s)=kV iC (eU e' c n k s')
 |0,k,s,s',h=>by simp only[eU,kV,h]
 |n+1,k,s,s',h=>by
  have h1:kV iC (df e c k (c.getD k aJ.zero) s)=kV iC (df e' c k (c.getD k aJ.zero) s'):=by
   rw[ahz e e' c k _ s,h,<-ahz e' e' c k _ s']
  simp only[eU];cases hx:df e c k (c.getD k aJ.zero) s with
  |inl x=>
   cases hy:df e' c k (c.getD k aJ.zero) s' with
   |inl y=>rw[hx,hy]at h1;injection h1 with h1;rw[h1]
   |inr y=>rw[hx,hy]at h1;cases h1
  |inr x=>
   cases hy:df e' c k (c.getD k aJ.zero) s' with
   |inl y=>rw[hx,hy]at h1;cases h1
   |inr y=>
    rw[hx,hy]at h1;injection h1 with h1;exact ahA e e' c n (k+1) x y h1
def pr(b:bc):Int×Bool:=(b.At,b.Result)
def gq(s:BS):List (Int×Bool):=s.1.map pr
structure BInv (k:Nat) (s:BS):Prop where
 lt:∀x∈gq s,0<=x.1/\x.1<k
 inc:(gq s).Pairwise fun a b=>a.1<b.1
 opn:∀x∈s.2,0<=x/\x<s.1.length
 six:s.2.length<=6
 cnt:s.1.length<=k
theorem Ep{k:Nat}{s:BS}(h:BInv k s)(h0:s.2.length≠0):jx s<s.1.length/\((jx s:Nat):Int)=s.2.getD (s.2.length-1) 0:=by
 have hm:s.2.getD (s.2.length-1) 0∈s.2:=by rw[getD_lt (by omega)];exact bK _
 have:=h.opn _ hm;unfold jx;omega
theorem Ou(l:List bc)(i:Nat)(b:bc)(h:pr b=pr (l.getD i bc.zero)):(l.set i b).map pr=l.map pr:=by
 rw[List.map_set,h];apply tu;intro j;rw[gu];split
 ·rename_i e;subst e;split
  ·rename_i hl;rw[dY]at hl;rw[gn,getD_lt hl,cw hl];rfl
  ·rename_i hl;rw[ns (by omega)]
 ·rfl
theorem yR{e:Int}{c:List aJ}{k:Nat}{i:aJ}{s s':BS}(h:df e c k i s=.inr s'):
 (fL i.Op=true/\s.2.length≠6/\gq s'=gq s++[((k:Int),i.A==1)]/\s'.2=s.2++[(s.1.length:Int)])\/
 (fL i.Op=false/\gq s'=gq s/\((i.Op=27/\s.2.length≠0/\s'.2=s.2)\/(i.Op=28/\s.2.length≠0/\s'.2=s.2.take (s.2.length-1))\/(i.Op≠27/\i.Op≠28/\s'.2=s.2))):=by
 unfold df at h;by_cases ho:fL i.Op=true
 ·rw[aF ho]at h;by_cases h6:s.2.length=6
  ·rw[aF h6]at h;cases h
  ·rw[ax h6]at h;injection h with h;subst h;refine .inl ⟨ho,h6,?_,rfl⟩;simp only[gq,pP,jo,List.map_nil];rfl
 ·rw[ax ho]at h;have ho':fL i.Op=false:=by simpa using ho
  refine .inr ⟨ho',?_⟩;by_cases h27:i.Op=27
  ·rw[aF h27]at h;by_cases h0:s.2.length=0
   ·rw[aF h0]at h;cases h
   ·rw[ax h0]at h;by_cases hc:opAt c (bZ s).At≠26\/0<=(bZ s).Else
    ·rw[aF hc]at h;cases h
    ·rw[ax hc]at h;injection h with h;subst h;exact⟨Ou _ _ _ rfl,.inl ⟨h27,h0,rfl⟩⟩
  ·rw[ax h27]at h;by_cases h28:i.Op=28
   ·rw[aF h28]at h;by_cases h0:s.2.length=0
    ·rw[aF h0]at h;cases h
    ·rw[ax h0]at h;by_cases hc:(opAt c (bZ s).At=26/\(bZ s).Result=true)/\(bZ s).Else<0
     ·rw[aF hc]at h;cases h
     ·rw[ax hc]at h;injection h with h;subst h;exact⟨Ou _ _ _ rfl,.inr (.inl ⟨h28,h0,rfl⟩)⟩
   ·rw[ax h28]at h;injection h with h;subst h;exact⟨rfl,.inr (.inr ⟨h27,h28,rfl⟩)⟩
theorem yS{e:Int}{c:List aJ}{k:Nat}{i:aJ}{s s':BS}(hI:BInv k s)(h:df e c k i s=.inr s'):BInv (k+1) s':=by
 have hlen:∀t:BS,(gq t).length=t.1.length:=fun t=>by simp[gq]
 rcases yR h with⟨_,h6,hp,ho⟩|⟨_,hp,ho⟩
 ·have hl:s'.1.length=s.1.length+1:=by rw[<-hlen s',hp,ek,hlen s];rfl
  refine⟨?_,?_,?_,?_,by have:=hI.cnt;omega⟩
  ·intro x hx;rw[hp]at hx;rcases dy.1 hx with hx|hx
   ·have:=hI.lt x hx;omega
   ·simp only[eH,JV,Eb]at hx;subst hx;simp only;omega
  ·rw[hp,List.pairwise_append];refine⟨hI.inc,List.pairwise_singleton _ _,?_⟩;intro a ha b hb;simp only[eH,JV,Eb]at hb;subst hb;exact(hI.lt a ha).2
  ·rw[ho];intro x hx;rcases dy.1 hx with hx|hx
   ·have:=hI.opn x hx;omega
   ·simp only[eH,JV,Eb]at hx;subst hx;omega
  ·rw[ho,ek,cD,dj];have:=hI.six;omega
 ·have hl:s'.1.length=s.1.length:=by rw[<-hlen s',hp,hlen s]
  refine⟨?_,by rw[hp];exact hI.inc,?_,?_,by have:=hI.cnt;omega⟩
  ·rw[hp];intro x hx;have:=hI.lt x hx;omega
  ·rw[hl];rcases ho with⟨_,_,ho⟩|⟨_,_,ho⟩|⟨_,_,ho⟩<;>rw[ho]
   ·exact hI.opn
   ·exact fun x hx=>hI.opn x (List.mem_of_mem_take hx)
   ·exact hI.opn
  ·rcases ho with⟨_,_,ho⟩|⟨_,_,ho⟩|⟨_,_,ho⟩<;>rw[ho]
   ·exact hI.six
   ·rw[iw];have:=hI.six;omega
   ·exact hI.six
theorem yT:BInv 0 ([],[]):=⟨fun x hx=>by simp[gq]at hx,by simp[gq],fun x hx=>by simp at hx,by simp,by simp⟩
theorem JW{e:Int}{c:List aJ}:∀(n k:Nat)(s B:BS),BInv k s->eU e c n k s=.inr B->(∃r,gq B=gq s++r)/\BInv (k+n) B
 |0,k,s,B,hI,h=>by
  simp only[eU]at h;injection h with h;subst h;exact⟨⟨[],by simp⟩,hI⟩
 |n+1,k,s,B,hI,h=>by
  simp only[eU]at h;cases hx:df e c k (c.getD k aJ.zero) s with
  |inl x=>rw[hx]at h;cases h
  |inr s'=>
   rw[hx]at h;obtain⟨⟨r,hr⟩,hp⟩:=JW n (k+1) s' B (yS hI hx) h;refine⟨?_,by rw[show k+(n+1)=k+1+n by omega];exact hp⟩;rcases yR hx with⟨_,_,hp',_⟩|⟨_,hp',_⟩
   ·exact⟨[((k:Int),(c.getD k aJ.zero).A==1)]++r,by rw[hr,hp',mO]⟩
   ·exact⟨r,by rw[hr,hp']⟩
theorem ayG{L:List (Int×Bool)}(h:L.Pairwise fun a b=>a.1<b.1){j:Nat}(hj:j<L.length)(p:Int×Bool->Bool)(hp:∀x,p x=(x.1==(L[j]).1)):L.findIdx? p=some j:=by
 rw[List.findIdx?_eq_some_iff_getElem];refine⟨hj,by rw[hp];simp,?_⟩;intro i hi;have:=wC.1 h i j (by omega) hj hi;rw[hp];simp only[dx];omega
end M
namespace M
open Go.V (inB cA ae bS)
def ed(b:Bool):Int:=bif b then 1 else 0
theorem mz(b:Bool):0<=ed b/\ed b<=1:=by cases b<;>decide
structure dD where
 eP:Int
 op:List Int
 ba:List Int
 h:Int
 kn:Bool
def dG(s:dD):Int:=if s.ba.length=0 then 0 else s.ba.getD (s.ba.length-1) 0
def fM(P:List (Int×Bool))(s:dD):Int×Bool:=P.getD (s.op.getD (s.op.length-1) 0).toNat (0,false)
def iN(m:aR)(c:aw)(i:aJ)(s:dD):Bool:=
 if i.Op=2\/i.Op=3\/i.Op=4 then decide (i.A<c.Params+c.dr)
 else if i.Op=32 then decide (i.A<(m.aP.length:Int))
 else if i.Op=33 then decide (i.A<(m.ay.length:Int))
 else if i.Op=29\/i.Op=30 then decide (i.A<=(s.op.length:Int))else true
def cH(m:aR)(i:aJ):Int×Int:=
 if i.Op=1\/i.Op=2 then(0,1)
 else if i.Op=3\/i.Op=5\/i.Op=26\/i.Op=30 then(1,0)
 else if i.Op=4\/i.Op=22\/i.Op=34\/i.Op=35\/i.Op=36 then(1,1)
 else if i.Op=23 then(3,1)
 else if i.Op=37\/i.Op=38\/i.Op=39 then(2,0)
 else if i.Op=32 then((m.aP.getD i.A.toNat aw.zero).Params,ed (m.aP.getD i.A.toNat aw.zero).Result)
 else if i.Op=33 then((m.ay.getD i.A.toNat aM.zero).Params,ed (m.ay.getD i.A.toNat aM.zero).Result)
 else if i.Op=24\/i.Op=25\/i.Op=29\/i.Op=31\/i.Op=40 then(0,0)else(2,1)
def iD(c:aw)(P:List (Int×Bool))(i:aJ)(s:dD):Int:=
 if i.Op=31 then ed c.Result
 else if i.Op=29\/i.Op=30 then
  if(s.op.length:Int)-1-i.A<0 then ed c.Result
  else ed ((P.getD (s.op.getD ((s.op.length:Int)-1-i.A).toNat 0).toNat (0,false)).2&& !(opAt c.Code (P.getD (s.op.getD ((s.op.length:Int)-1-i.A).toNat 0).toNat (0,false)).1==25))
 else 0
def jN(m:aR)(c:aw)(P:List (Int×Bool))(i:aJ)(s:dD):Int⊕dD:=
 if i.Op=27\/i.Op=28 then
  if s.kn=true/\s.h≠dG s+ed (fM P s).2 then .inl 7
  else if i.Op=27 then .inr {s with kn:=true,h:=dG s}
  else if 24<dG s+ed (fM P s).2 then .inl 4
  else .inr {s with kn:=true,h:=dG s+ed (fM P s).2,op:=s.op.take (s.op.length-1),ba:=s.ba.take (s.ba.length-1)}
 else if s.kn=false then .inl 5
 else if iN m c i s=false then .inl 2
 else if s.h-(cH m i).1<dG s then .inl 7
 else if 24<s.h-(cH m i).1+(cH m i).2 then .inl 4
 else if s.h-(cH m i).1+(cH m i).2-iD c P i s<dG s then .inl 7
 else .inr {
  eP:=if fL i.Op=true then s.eP+1 else s.eP
  op:=if fL i.Op=true then s.op++[s.eP]else s.op
  ba:=if fL i.Op=true then s.ba++[s.h-(cH m i).1+(cH m i).2]else s.ba
  h:=s.h-(cH m i).1+(cH m i).2
  kn:= !(i.Op==29||i.Op==31||i.Op==40)}
def nt(s:dD):cZ:=if s.kn=true then cZ.mk true s.h s.op else cZ.mk false 0 []
def lN(m:aR)(c:aw)(P:List (Int×Bool)):Nat->Nat->dD->List cZ->(Int×Int)⊕(dD×List cZ)
 |0,k,s,a=>.inr (s,a)
 |n+1,k,s,a=>match jN m c P (c.Code.getD k aJ.zero) s with
  |.inl x=>.inl ((k:Int),x)
  |.inr s'=>lN m c P n (k+1) s' (a++[nt s])
structure qw (m:aR):Prop where
 ng:m.aP.length<=8
 imports:m.ay.length<=12
 imp:∀x∈m.ay,0<=x.Params/\x.Params<=8
 core:∀x∈m.aP,(0<=x.Params/\x.Params<=8)/\(0<=x.dr/\x.dr<=8)/\x.Code.length<=120
 ins:∀x∈m.aP,∀i∈x.Code,(1<=i.Op/\i.Op<=40)/\(i.Op≠1->0<=i.A/\i.A<=16777216)
structure tw (B:BS) (s:dD):Prop where
 op:s.op=B.2
 eP:s.eP=(B.1.length:Int)
 len:s.ba.length=s.op.length
 ba:∀x∈s.ba,0<=x/\x<=24
 h:0<=s.h/\s.h<=24
theorem Ov{B:BS}{s:dD}(h:tw B s):0<=dG s/\dG s<=24:=by
 unfold dG;by_cases h0:s.ba.length=0
 ·rw[aF h0];omega
 ·rw[ax h0,getD_lt (by omega)];exact h.ba _ (bK _)
theorem Ox{m:aR}(hm:qw m)(i:aJ):(0<=(cH m i).1/\(cH m i).1<=8)/\(0<=(cH m i).2/\(cH m i).2<=1):=by
 have hc:0<=(m.aP.getD i.A.toNat aw.zero).Params/\(m.aP.getD i.A.toNat aw.zero).Params<=8:=by
  rw[dK];cases h:m.aP[i.A.toNat]? with
  |none=>simp[aw.zero]
  |some x=>exact(hm.core x (gV h)).1
 have hi:0<=(m.ay.getD i.A.toNat aM.zero).Params/\(m.ay.getD i.A.toNat aM.zero).Params<=8:=by
  rw[dK];cases h:m.ay[i.A.toNat]? with
  |none=>simp[aM.zero]
  |some x=>exact hm.imp x (gV h)
 have b1:=mz (m.aP.getD i.A.toNat aw.zero).Result;have b2:=mz (m.ay.getD i.A.toNat aM.zero).Result;unfold cH
 repeat' split
 all_goals simp only
 all_goals omega
def Oy(m:aR)(i:aJ)(s:dD):dD:={
    eP:=if fL i.Op=true then s.eP+1 else s.eP
    op:=if fL i.Op=true then s.op++[s.eP]else s.op
    ba:=if fL i.Op=true then s.ba++[s.h-(cH m i).1+(cH m i).2]else s.ba
    h:=s.h-(cH m i).1+(cH m i).2
    kn:= !(i.Op==29||i.Op==31||i.Op==40)}
theorem ahB{m:aR}{c:aw}{P:List (Int×Bool)}{i:aJ}{s s':dD}(hn:¬(i.Op=27\/i.Op=28))(hc:jN m c P i s=.inr s'):
 (s.kn=true/\iN m c i s=true/\dG s<=s.h-(cH m i).1/\s.h-(cH m i).1+(cH m i).2<=24)/\s'=Oy m i s:=by
 unfold jN at hc;rw[ax hn]at hc;by_cases q1:s.kn=false
 ·rw[aF q1]at hc;cases hc
 rw[ax q1]at hc;by_cases q2:iN m c i s=false
 ·rw[aF q2]at hc;cases hc
 rw[ax q2]at hc;by_cases q3:s.h-(cH m i).1<dG s
 ·rw[aF q3]at hc;cases hc
 rw[ax q3]at hc;by_cases q4:24<s.h-(cH m i).1+(cH m i).2
 ·rw[aF q4]at hc;cases hc
 rw[ax q4]at hc;by_cases q5:s.h-(cH m i).1+(cH m i).2-iD c P i s<dG s
 ·rw[aF q5]at hc;cases hc
 rw[ax q5]at hc;injection hc with hc;exact⟨⟨by simpa using q1,by simpa using q2,by omega,by omega⟩,hc.symm⟩
theorem ahC{m:aR}{c:aw}{P:List (Int×Bool)}{i:aJ}{e:Int}{code:List aJ}{k:Nat}{B B':BS}{s s':dD}(hm:qw m)(hI:tw B s)(hb:df e code k i B=.inr B')(hc:jN m c P i s=.inr s'):tw B' s':=by
 have hbl:=Ov hI;have htk:=Ox hm i;have hbit:=mz (fM P s).2;have hlen:∀t:BS,(gq t).length=t.1.length:=fun t=>by simp[gq]
 rcases yR hb with⟨ho,h6,hp,hop⟩|⟨ho,hp,hop⟩
 ·have hn:¬(i.Op=27\/i.Op=28):=by
   unfold fL at ho;simp only[eM,dx]at ho;omega
  have hl:B'.1.length=B.1.length+1:=by rw[<-hlen B',hp,ek,hlen B];rfl
  obtain⟨⟨q1,q2,q3,q4⟩,rfl⟩:=ahB hn hc;unfold Oy;refine⟨?_,?_,?_,?_,?_⟩
  ·rw[hop,<-hI.op,<-hI.eP];simp only[ho,pt]
  ·simp only[ho,pt,hI.eP];omega
  ·simp only[ho,pt,ek,hI.len,cD,dj]
  ·simp only[ho,pt];intro x hx;rcases dy.1 hx with hx|hx
   ·exact hI.ba x hx
   ·simp only[eH,JV,Eb]at hx;subst hx;omega
  ·simp only;omega
 ·have hl:B'.1.length=B.1.length:=by rw[<-hlen B',hp,hlen B]
  by_cases hn:i.Op=27\/i.Op=28
  ·unfold jN at hc;rw[aF hn]at hc;split at hc
   ·cases hc
   ·split at hc
    ·rename_i q1 q2;injection hc with hc;subst hc;have h2:B'.2=B.2:=by
      rcases hop with⟨_,_,h⟩|⟨h,_,_⟩|⟨h,_,_⟩
      ·exact h
      ·omega
      ·omega
     exact⟨by rw[h2];exact hI.op,by rw[hl];exact hI.eP,hI.len,hI.ba,hbl⟩
    ·split at hc
     ·cases hc
     ·rename_i q1 q2 q3;injection hc with hc;subst hc;have h2:B'.2=B.2.take (B.2.length-1):=by
       rcases hop with⟨h,_,_⟩|⟨_,_,h⟩|⟨_,h,_⟩
       ·omega
       ·exact h
       ·omega
      refine⟨by rw[h2,<-hI.op],by rw[hl];exact hI.eP,?_,?_,?_⟩
      ·simp only[iw,hI.len]
      ·simp only;exact fun x hx=>hI.ba x (List.mem_of_mem_take hx)
      ·simp only;omega
  ·have h2:B'.2=B.2:=by
    rcases hop with⟨h,_,_⟩|⟨h,_,_⟩|⟨_,_,h⟩
    ·omega
    ·omega
    ·exact h
   obtain⟨⟨q1,q2,q3,q4⟩,rfl⟩:=ahB hn hc;unfold Oy;have hof:¬(fL i.Op=true):=by rw[ho];simp
   refine⟨?_,?_,?_,?_,?_⟩
   ·rw[h2];simp only[ho,gw,gJ];exact hI.op
   ·simp only[ho,gw,gJ,hl];exact hI.eP
   ·simp only[ho,gw,gJ,hI.len]
   ·simp only[ho,gw,gJ];exact hI.ba
   ·simp only;omega
end M
set_option linter.unusedSimpArgs false
namespace M
open Go.V (inB cA ae bS)
theorem JX{k:Nat}{s:BS}(h:BInv k s)(h0:s.2.length≠0):0<=(bZ s).At/\(bZ s).At<k:=by
 have h1:=(Ep h h0).1;have hm:pr (bZ s)∈gq s:=by
  unfold bZ gq;rw[getD_lt h1];exact kG.2 ⟨_,bK h1,rfl⟩
 exact h.lt _ hm
theorem tz{n:Nat}(h0:n≠0)(h:n<=6):Go.IntKind.wrap .i64 ((n:Int)-1)=((n-1:Nat):Int):=by rw[wrap_i64 (by omega) (by omega)];omega
theorem qx{x:Int}{n:Nat}(h:0<=x/\x<n):inB x n=true:=by
 obtain⟨a,rfl⟩:=JY h.1;rw[bz,bu];omega
theorem ahD(c:aw)(hn:c.Code.length<=120):∀(f k:Nat)(s:BS),k<=c.Code.length->c.Code.length-k<f->BInv k s->
 M.oJ c f (k:Int) s.1 s.2=some (match eU (-1) c.Code (c.Code.length-k) k s with
   |.inl p=>.inl (p.1,p.2,[])
   |.inr s'=>.inr (c,s'.1,s'.2))
 |0,k,s,h1,h2,_=>by omega
 |f+1,k,s,h1,h2,hI=>by
  rw[M.oJ];rcases cJ k c.Code.length with hk|hk
  ·obtain⟨r,hr⟩:∃r,c.Code.length-k=r+1:=⟨c.Code.length-k-1,by omega⟩;have hr':c.Code.length-(k+1)=r:=by omega
   have ih:=fun s' h=>ahD c hn f (k+1) s' (by omega) (by omega) h
   rw[hr']at ih;rw[hr];simp only[eU];have hinv:=fun s' h=>yS (e:= -1) (c:=c.Code) (i:=c.Code.getD k aJ.zero) (s':=s') hI h
   have hw:Go.IntKind.wrap .i64 ((k:Int)+1)=((k+1:Nat):Int):=bE hk (by omega);have h6:=hI.six;have hcnt:=hI.cnt;simp only[bn,bz,bU,hk,bD,aG,aS,hw];generalize hi:c.Code.getD k aJ.zero=i at hinv⊢;rw[show(i.Op==24||i.Op==25||i.Op==26)=fL i.Op from rfl];by_cases ho:fL i.Op=true
   ·rw[ho,aG];by_cases hl:s.2.length=6
    ·have hb:df (-1) c.Code k i s=.inl 4:=by unfold df;rw[aF ho,aF hl]
     rw[hb,hl];rfl
    ·have hb:df (-1) c.Code k i s=.inr (s.1++[bc.mk (k:Int) (-1) (-1) 0 (i.A==1)],s.2++[(s.1.length:Int)]):=by unfold df;rw[aF ho,ax hl]
     have q:(((s.2.length:Nat):Int)==6)=false:=by rw[eI];omega
     have d1:decide (s.1.length+1<=1073741824)=true:=by rw[bu];omega
     have d2:decide (s.2.length+1<=1073741824)=true:=by rw[bu];omega
     have:=ih _ (hinv _ hb);simp only[q,bM,cD,dj,dN,d1,d2,db,aG];rw[hb];exact this
   ·have ho':fL i.Op=false:=by simpa using ho
    rw[ho',bM];by_cases h27:i.Op=27
    ·have b27:(i.Op==27)=true:=by rw[h27];rfl
     rw[b27,aG];by_cases h0:s.2.length=0
     ·have hb:df (-1) c.Code k i s=.inl 5:=by unfold df;rw[ax ho,aF h27,aF h0]
      rw[hb];simp[h0]
     ·have ht:=Ep hI h0;have hat:=JX hI h0;have q:(((s.2.length:Nat):Int)==0)=false:=by rw[eI];omega
      have e1:=ht.2.symm;have hA:inB (bZ s).At c.Code.length=true:=qx ⟨hat.1,by omega⟩;have hS:s.2.length-1<s.2.length:=by omega
      simp only[q,gm,tz h0 h6,bn,e1,bz,ht.1,hS,bD];rw[show List.getD s.1 (jx s) bc.zero=bZ s from rfl,show(List.getD c.Code (Int.toNat (bZ s).At) aJ.zero).Op=opAt c.Code (bZ s).At from rfl,hA];by_cases hc:opAt c.Code (bZ s).At≠26\/0<=(bZ s).Else
      ·have hb:df (-1) c.Code k i s=.inl 5:=by unfold df;rw[ax ho,aF h27,ax h0,aF hc]
       have hq:((opAt c.Code (bZ s).At !=26)||decide (0<=(bZ s).Else))=true:=by rw[eM,iu,bu];exact hc
       rw[hb,hq];simp
      ·have hb:df (-1) c.Code k i s=.inr (s.1.set (jx s) (bc.mk (bZ s).At (k:Int) (bZ s).End (bZ s).Height (bZ s).Result),s.2):=by unfold df;rw[ax ho,aF h27,ax h0,ax hc]
       have hq:((opAt c.Code (bZ s).At !=26)||decide (0<=(bZ s).Else))=false:=by
        rw[kj,ne_eq,eM,iu,bu];exact hc
       have:=ih _ (hinv _ hb);rw[hb,hq];simp only[bM,cC,db,aG];exact this
    ·have b27:(i.Op==27)=false:=by rw[eI];exact h27
     rw[b27,bM];by_cases h28:i.Op=28
     ·have b28:(i.Op==28)=true:=by rw[h28];rfl
      rw[b28,aG];by_cases h0:s.2.length=0
      ·have hb:df (-1) c.Code k i s=.inl 5:=by unfold df;rw[ax ho,ax h27,aF h28,aF h0]
       rw[hb,h0];rfl
      ·have ht:=Ep hI h0;have hat:=JX hI h0;have q:(((s.2.length:Nat):Int)==0)=false:=by rw[eI];omega
       have e1:=ht.2.symm;have hA:inB (bZ s).At c.Code.length=true:=qx ⟨hat.1,by omega⟩;have hS:s.2.length-1<s.2.length:=by omega
       have hsl:cA (0:Int) ((s.2.length-1:Nat):Int) s.2.length=true:=by unfold cA;simp
       simp only[q,bM,tz h0 h6,bn,e1,bz,ht.1,hS,bD,hsl];rw[show List.getD s.1 (jx s) bc.zero=bZ s from rfl,show(List.getD c.Code (Int.toNat (bZ s).At) aJ.zero).Op=opAt c.Code (bZ s).At from rfl,hA];by_cases hc:(opAt c.Code (bZ s).At=26/\(bZ s).Result=true)/\(bZ s).Else<0
       ·have hb:df (-1) c.Code k i s=.inl 7:=by unfold df;rw[ax ho,ax h27,aF h28,ax h0,aF hc]
        have hq:(((opAt c.Code (bZ s).At==26)&&(bZ s).Result)&&decide ((bZ s).Else<0))=true:=by rw[bJ,bJ,dx,bu];exact hc
        rw[hb,hq];rfl
       ·have hb:df (-1) c.Code k i s=.inr (s.1.set (jx s) (bc.mk (bZ s).At (bZ s).Else (k:Int) (bZ s).Height (bZ s).Result),s.2.take (s.2.length-1)):=by unfold df;rw[ax ho,ax h27,aF h28,ax h0,ax hc]
        have hq:(((opAt c.Code (bZ s).At==26)&&(bZ s).Result)&&decide ((bZ s).Else<0))=false:=by rw[kj,ne_eq,bJ,bJ,dx,bu];exact hc
        have:=ih _ (hinv _ hb);rw[hb,hq];simp only[bM,db,aG];exact this
     ·have b28:(i.Op==28)=false:=by rw[eI];exact h28
      have hb:df (-1) c.Code k i s=.inr s:=by unfold df;rw[ax ho,ax h27,ax h28]
      have:=ih _ (hinv _ hb);rw[b28,bM,hb];exact this
  ·have:k=c.Code.length:=by omega
   subst this;simp[eU]
def kW(e:Int)(c:aw):(Int×Int)⊕List bc:=
 match eU e c.Code c.Code.length 0 ([],[])with
 |.inl p=>.inl p
 |.inr s=>if s.2.length=0 then .inr s.1 else .inl ((c.Code.length:Int),5)
theorem ayH(c:aw)(hn:c.Code.length<=120):M.C9 c=some (match kW (-1) c with
 |.inl p=>(p.1,p.2,[])
 |.inr b=>(0,0,b)):=by
 unfold M.C9 kW;have e:=ahD c hn ae 0 ([],[]) (cU _) (by have:=bS;omega) yT;have e':M.oJ c ae 0 [] []=_:=e;rw[e',Nat.sub_zero];cases h:eU (-1) c.Code c.Code.length 0 ([],[])with
 |inl p=>rfl
 |inr s=>
  simp only;by_cases h0:s.2.length=0
  ·rw[aF h0,h0];rfl
  ·rw[ax h0];have:decide ((0:Int)<((s.2.length:Nat):Int))=true:=by rw[bu];omega
   rw[this];rfl
end M
namespace M
open Go.V (inB cA ae bS)
theorem yU(b:Bool):M.kP b=some (ed b):=by cases b<;>rfl
theorem JZ(b:Bool):M.lJ b=some (ed b):=by cases b<;>rfl
theorem ahE{b c:Bool}:(bif b then b else c)=(b||c):=by cases b<;>rfl
theorem J0{K:Int}(h:1<=K/\K<=40):K=1\/K=2\/K=3\/K=4\/K=5\/K=6\/K=7\/K=8\/K=9\/K=10\/K=11\/K=12\/K=13\/K=14\/K=15\/K=16\/K=17\/K=18\/K=19\/K=20\/K=21\/K=22\/K=23\/K=24\/K=25\/K=26\/K=27\/K=28\/K=29\/K=30\/K=31\/K=32\/K=33\/K=34\/K=35\/K=36\/K=37\/K=38\/K=39\/K=40:=by omega
theorem ayI(m:aR)(c:aw)(i:aJ)(s:dD)(h1:0<=c.Params/\c.Params<=8)(h2:0<=c.dr/\c.dr<=8)(hi:1<=i.Op/\i.Op<=40):M.Df m c i (s.op.length:Int)=some (iN m c i s):=by
 obtain⟨K,A⟩:=i;have hw:Go.IntKind.wrap .i64 (c.Params+c.dr)=c.Params+c.dr:=wrap_i64 (by omega) (by omega);unfold M.Df;rw[hw];simp only at hi;rcases J0 hi with rfl|rfl|rfl|rfl|rfl|rfl|rfl|rfl|rfl|rfl|rfl|rfl|rfl|rfl|rfl|rfl|rfl|rfl|rfl|rfl|rfl|rfl|rfl|rfl|rfl|rfl|rfl|rfl|rfl|rfl|rfl|rfl|rfl|rfl|rfl|rfl|rfl|rfl|rfl|rfl<;>rfl
theorem ayJ(m:aR)(c:aw)(bl:List bc)(i:aJ)(s:dD)(h1:0<=c.Params/\c.Params<=8)(h2:0<=c.dr/\c.dr<=8)(hi:1<=i.Op/\i.Op<=40):
 M.Dp (M.eA.mk m c bl s.eP s.op s.ba s.h s.kn) i=some (iN m c i s):=by
 obtain⟨K,A⟩:=i;have hw:Go.IntKind.wrap .i64 (c.Params+c.dr)=c.Params+c.dr:=wrap_i64 (by omega) (by omega);unfold M.Dp;simp only[hw];simp only at hi;rcases J0 hi with rfl|rfl|rfl|rfl|rfl|rfl|rfl|rfl|rfl|rfl|rfl|rfl|rfl|rfl|rfl|rfl|rfl|rfl|rfl|rfl|rfl|rfl|rfl|rfl|rfl|rfl|rfl|rfl|rfl|rfl|rfl|rfl|rfl|rfl|rfl|rfl|rfl|rfl|rfl|rfl<;>rfl
theorem ayK(m:aR)(c:aw)(i:aJ)(s:dD)(hi:1<=i.Op/\i.Op<=40)(hA:i.Op≠1->0<=i.A)(hn:i.Op≠27/\i.Op≠28)(ht:iN m c i s=true):M.Dh m i=some (cH m i):=by
 obtain⟨K,A⟩:=i;simp only at hi hA hn;unfold M.Dh;simp only[yU];rcases J0 hi with rfl|rfl|rfl|rfl|rfl|rfl|rfl|rfl|rfl|rfl|rfl|rfl|rfl|rfl|rfl|rfl|rfl|rfl|rfl|rfl|rfl|rfl|rfl|rfl|rfl|rfl|rfl|rfl|rfl|rfl|rfl|h32|Oz|rfl|rfl|rfl|rfl|rfl|rfl|rfl
 case inr.inr.inr.inr.inr.inr.inr.inr.inr.inr.inr.inr.inr.inr.inr.inr.inr.inr.inr.inr.inr.inr.inr.inr.inr.inr.inr.inr.inr.inr.inr.inl=>
  subst h32;have hl:A<(m.aP.length:Int):=by
   have:iN m c ⟨32,A⟩ s=decide (A<(m.aP.length:Int)):=rfl;rw[this,bu]at ht;exact ht
  have hb:inB A m.aP.length=true:=qx ⟨hA (by omega),hl⟩;simp only[hb,bf,aZ];rfl
 case inr.inr.inr.inr.inr.inr.inr.inr.inr.inr.inr.inr.inr.inr.inr.inr.inr.inr.inr.inr.inr.inr.inr.inr.inr.inr.inr.inr.inr.inr.inr.inr.inl=>
  subst Oz;have hl:A<(m.ay.length:Int):=by
   have:iN m c ⟨33,A⟩ s=decide (A<(m.ay.length:Int)):=rfl;rw[this,bu]at ht;exact ht
  have hb:inB A m.ay.length=true:=qx ⟨hA (by omega),hl⟩;simp only[hb,bf,aZ];rfl
 all_goals first|rfl|(exfalso;omega)
theorem ayL(m:aR)(c:aw)(bl:List bc)(i:aJ)(s:dD)(hi:1<=i.Op/\i.Op<=40)(hA:i.Op≠1->0<=i.A)(hn:i.Op≠27/\i.Op≠28)(ht:iN m c i s=true):
 M.Dq (M.eA.mk m c bl s.eP s.op s.ba s.h s.kn) i=some (cH m i):=by
 obtain⟨K,A⟩:=i;simp only at hi hA hn;unfold M.Dq;simp only[JZ];rcases J0 hi with rfl|rfl|rfl|rfl|rfl|rfl|rfl|rfl|rfl|rfl|rfl|rfl|rfl|rfl|rfl|rfl|rfl|rfl|rfl|rfl|rfl|rfl|rfl|rfl|rfl|rfl|rfl|rfl|rfl|rfl|rfl|h32|Oz|rfl|rfl|rfl|rfl|rfl|rfl|rfl
 case inr.inr.inr.inr.inr.inr.inr.inr.inr.inr.inr.inr.inr.inr.inr.inr.inr.inr.inr.inr.inr.inr.inr.inr.inr.inr.inr.inr.inr.inr.inr.inl=>
  subst h32;have hl:A<(m.aP.length:Int):=by
   have:iN m c ⟨32,A⟩ s=decide (A<(m.aP.length:Int)):=rfl;rw[this,bu]at ht;exact ht
  have hb:inB A m.aP.length=true:=qx ⟨hA (by omega),hl⟩;simp only[hb,bf,aZ];rfl
 case inr.inr.inr.inr.inr.inr.inr.inr.inr.inr.inr.inr.inr.inr.inr.inr.inr.inr.inr.inr.inr.inr.inr.inr.inr.inr.inr.inr.inr.inr.inr.inr.inl=>
  subst Oz;have hl:A<(m.ay.length:Int):=by
   have:iN m c ⟨33,A⟩ s=decide (A<(m.ay.length:Int)):=rfl;rw[this,bu]at ht;exact ht
  have hb:inB A m.ay.length=true:=qx ⟨hA (by omega),hl⟩;simp only[hb,bf,aZ];rfl
 all_goals first|rfl|(exfalso;omega)
end M
namespace M
open Go.V (inB cA ae bS)
theorem J1(l:List bc)(j:Nat):(l.map pr).getD j (0,false)=pr (l.getD j bc.zero):=by
 rw[dK,dK,gn];cases l[j]?<;>rfl
def J2(c:aw)(P:List (Int×Bool)):Prop:=∀x∈P,0<=x.1/\x.1<(c.Code.length:Int)
theorem at_in{c:aw}{P:List (Int×Bool)}(hP:J2 c P){o:List bc}(ho:o.map pr=P){j:Nat}(hj:j<o.length):inB (o.getD j bc.zero).At c.Code.length=true:=by
 refine qx (hP (pr (o.getD j bc.zero)) ?_);rw[<-ho,getD_lt hj];exact kG.2 ⟨_,bK hj,rfl⟩
structure wE (P:List (Int×Bool)) (s:dD) (o1:List bc):Prop where
 pr:o1.map pr=P
 ht:∀j,j<s.op.length->(o1.getD (s.op.getD j 0).toNat bc.zero).Height=s.ba.getD j 0
structure qy (P:List (Int×Bool)) (s:dD):Prop where
 op:∀x∈s.op,0<=x/\x<(P.length:Int)
 six:s.op.length<=6
 len:s.ba.length=s.op.length
theorem qy.at_{P:List (Int×Bool)}{s:dD}(h:qy P s){j:Nat}(hj:j<s.op.length):(s.op.getD j 0).toNat<P.length/\(((s.op.getD j 0).toNat:Nat):Int)=s.op.getD j 0:=by
 have:=h.op (s.op.getD j 0) (by rw[getD_lt hj];exact bK hj);omega
theorem ayM{P:List (Int×Bool)}{s:dD}{o1:List bc}(hr:wE P s o1)(hi:qy P s)(m:aR)(c:aw)(h:Int)(d:Bool):M.yv (M.eE.mk m c o1 s.op h d)=some (dG s):=by
 unfold M.yv dG;simp only;by_cases h0:s.op.length=0
 ·rw[h0,aF (by rw[hi.len];exact h0)];rfl
 ·have hp:decide ((0:Int)<((s.op.length:Nat):Int))=true:=by rw[bu];omega
  have hj:s.op.length-1<s.op.length:=by omega
  obtain⟨h1,h2⟩:=hi.at_ hj;have hl:o1.length=P.length:=by rw[<-hr.pr,dY]
  have e:=hr.ht _ hj;rw[ax (by rw[hi.len];exact h0),hp,aG,tz h0 hi.six,bn,hi.len];rw[<-e,<-h2];simp only[bz,bn,hl,h1,hj,bD,db,aG]
theorem ahF(s:dD)(h6:s.ba.length<=6)(m:aR)(c:aw)(bl:List bc):M.vK (M.eA.mk m c bl s.eP s.op s.ba s.h s.kn)=some (dG s):=by
 unfold M.vK dG;simp only;by_cases h0:s.ba.length=0
 ·rw[aF h0,h0];rfl
 ·have q:(((s.ba.length:Nat):Int)==0)=false:=by rw[eI];omega
  rw[ax h0,q,bM,tz h0 h6,bn,bz,jt (by omega:s.ba.length-1<s.ba.length)];rfl
theorem ayN{m:aR}{c:aw}{P:List (Int×Bool)}(hP:J2 c P){bl:List bc}(hb:bl.map pr=P){s:dD}(hi:qy P s)(i:aJ)(hA:i.Op≠1->0<=i.A)(ht:iN m c i s=true):
 M.Ds (M.eA.mk m c bl s.eP s.op s.ba s.h s.kn) i=some (iD c P i s):=by
 unfold M.Ds iD;simp only[JZ,bf,aZ,aS,bj,aG];by_cases h31:i.Op=31
 ·rw[aF h31,h31];rfl
 ·have qp:(i.Op==31)=false:=by rw[eI];exact h31
  rw[ax h31,qp,bM,ahE];by_cases hbr:i.Op=29\/i.Op=30
  ·have wF:(i.Op==29||i.Op==30)=true:=by rw[eM,dx,dx];exact hbr
   rw[aF hbr,wF,aG];have hA0:0<=i.A:=hA (by omega);have hle:i.A<=(s.op.length:Int):=by
    unfold iN at ht;rw[ax (by omega),ax (by omega),ax (by omega),aF hbr,bu]at ht;exact ht
   have h6:=hi.six;have hw:Go.IntKind.wrap .i64 (Go.IntKind.wrap .i64 ((s.op.length:Int)-1)-i.A)=(s.op.length:Int)-1-i.A:=by
    rw[wrap_i64 (n:=(s.op.length:Int)-1) (by omega) (by omega),wrap_i64 (by omega) (by omega)]
   rw[hw];by_cases hd:(s.op.length:Int)-1-i.A<0
   ·rw[aF hd,jt hd,aG]
   ·rw[ax hd,ly hd,bM];obtain⟨j,hj⟩:=JY (by omega:0<=(s.op.length:Int)-1-i.A);rw[hj];have hjl:j<s.op.length:=by omega
    obtain⟨h1,h2⟩:=hi.at_ hjl;have hl:bl.length=P.length:=by rw[<-hb,dY]
    have hat:=at_in hP hb (j:=(s.op.getD j 0).toNat) (by rw[hl];exact h1);have hin:inB (s.op.getD j 0) bl.length=true:=by rw[<-h2,bz,bu,hl];exact h1
    simp only[bn,hat,hin,bz,hjl,bD,cC,db,aG];rw[<-hb,J1];rfl
  ·have wF:(i.Op==29||i.Op==30)=false:=by rw[kj,ne_eq,eM,dx,dx];exact hbr
   rw[ax hbr,wF,bM]
theorem ayO{m:aR}{c:aw}{P:List (Int×Bool)}(hP:J2 c P){o1:List bc}(hb:o1.map pr=P){s:dD}(hi:qy P s)(i:aJ)(hA:0<=i.A)(hbr:i.Op=29\/i.Op=30)(ht:iN m c i s=true)(h:Int)(d:Bool):
 M.sO (M.eE.mk m c o1 s.op h d) i.A=some (iD c P i s):=by
 unfold M.sO iD;simp only[yU,bf,aZ,aS,bj,aG];rw[ax (by omega),aF hbr];have hle:i.A<=(s.op.length:Int):=by
  unfold iN at ht;rw[ax (by omega),ax (by omega),ax (by omega),aF hbr,bu]at ht;exact ht
 have h6:=hi.six;by_cases hd:i.A=(s.op.length:Int)
 ·rw[aF (by omega),hd,js,aG]
 ·have q:(i.A==(s.op.length:Int))=false:=by rw[eI];exact hd
  rw[ax (by omega),q,bM];have hw:Go.IntKind.wrap .i64 (Go.IntKind.wrap .i64 ((s.op.length:Int)-1)-i.A)=(s.op.length:Int)-1-i.A:=by
   rw[wrap_i64 (n:=(s.op.length:Int)-1) (by omega) (by omega),wrap_i64 (by omega) (by omega)]
  rw[hw];obtain⟨j,hj⟩:=JY (by omega:0<=(s.op.length:Int)-1-i.A);rw[hj];have hjl:j<s.op.length:=by omega
  obtain⟨h1,h2⟩:=hi.at_ hjl;have hl:o1.length=P.length:=by rw[<-hb,dY]
  have hat:=at_in hP hb (j:=(s.op.getD j 0).toNat) (by rw[hl];exact h1);have hin:inB (s.op.getD j 0) o1.length=true:=by rw[<-h2,bz,bu,hl];exact h1
  simp only[bn,hat,hin,bz,hjl,bD,db,aG];rw[<-hb,J1]
  show _=some (ed ((pr (o1.getD (s.op.getD j 0).toNat bc.zero)).2&& !(opAt c.Code (pr (o1.getD (s.op.getD j 0).toNat bc.zero)).1==25)))
  have e1:(pr (o1.getD (s.op.getD j 0).toNat bc.zero)).1=(o1.getD (s.op.getD j 0).toNat bc.zero).At:=rfl;have e2:(pr (o1.getD (s.op.getD j 0).toNat bc.zero)).2=(o1.getD (s.op.getD j 0).toNat bc.zero).Result:=rfl;rw[e1,e2];show(bif(opAt c.Code (o1.getD (s.op.getD j 0).toNat bc.zero).At==25)then some (0:Int)else some (ed (o1.getD (s.op.getD j 0).toNat bc.zero).Result))=_
  cases (opAt c.Code (o1.getD (s.op.getD j 0).toNat bc.zero).At==25)<;>cases (o1.getD (s.op.getD j 0).toNat bc.zero).Result<;>rfl
theorem ayP{P:List (Int×Bool)}{o1:List bc}(hb:o1.map pr=P)(Ee:P.Pairwise fun a b=>a.1<b.1)(hlen:P.length<2^62){j k:Nat}(hj:j<P.length)(hk:(P[j]).1=(k:Int))(m:aR)(c:aw)(op:List Int)(h:Int)(d:Bool):
 M.Di (M.eE.mk m c o1 op h d) (k:Int)=some (j:Int):=by
 have hl:o1.length=P.length:=by rw[<-hb,dY]
 have e:=ft (p:=fun b:bc=>b.At==(k:Int)) (F:=M.vJ (M.eE.mk m c o1 op h d) (k:Int)) (e:=()) (fun k=>k) o1 (by omega) (fun f q hq=>by
  rw[M.vJ];simp only[getD_lt hq,bn,bz,bU,hq,bD,aG,aS,bE hq (by omega:o1.length<2^62)]) (fun f=>by
  rw[M.vJ];simp)
 have e2:o1.findIdx? (fun b:bc=>b.At==(k:Int))=some j:=by
  have h1:=ayG Ee hj (fun x=>x.1==(k:Int)) (fun x=>by rw[hk]);rw[<-hb,List.findIdx?_map]at h1;exact h1
 unfold M.Di;rw[e,e2]
end M
namespace M
open Go.V (inB cA ae bS)
abbrev RS :=Int×List aM×List aw×List UInt8×Int×Int×Bool×List aJ×Int×Bool×List bc×List Int
def km(m:aR)(c:aw)(s:dD)(o1:List bc):RS:=(m.dm,m.ay,m.aP,c.Name,c.Params,c.dr,c.Result,c.Code,s.h, !s.kn,o1,s.op)
theorem OA(m:aR):M.aR.mk m.dm m.ay m.aP=m:=rfl
theorem OB(c:aw):M.aw.mk c.Name c.Params c.dr c.Result c.Code=c:=rfl
structure nu (m:aR) (c:aw) (P:List (Int×Bool)) (e:Int) (k:Nat) (i:aJ) (B B':BS) (s:dD):Prop where
 lO:qw m
 core:c∈m.aP
 pin:J2 c P
 inc:P.Pairwise fun a b=>a.1<b.1
 pl:P.length<=120
 hk:k<c.Code.length
 hi:c.Code.getD k aJ.zero=i
 lP:tw B s
 Es:BInv k B
 step:df e c.Code k i B=.inr B'
 pre:∃r,P=gq B'++r
theorem nu.sin{m:aR}{c:aw}{P:List (Int×Bool)}{e:Int}{k:Nat}{i:aJ}{B B':BS}{s:dD}(h:nu m c P e k i B B' s):qy P s/\B.1.length<=P.length:=by
 obtain⟨r,hr⟩:=h.pre;have hl:∀t:BS,(gq t).length=t.1.length:=fun t=>by simp[gq]
 have hle:B.1.length<=P.length:=by
  rw[hr,ek,<-hl B];rcases yR h.step with⟨_,_,hp,_⟩|⟨_,hp,_⟩<;>rw[hp]
  ·rw[ek];omega
  ·omega
 refine⟨⟨?_,by rw[h.lP.op];exact h.Es.six,h.lP.len⟩,hle⟩;rw[h.lP.op];intro x hx;have:=h.Es.opn x hx;omega
theorem nu.op{m:aR}{c:aw}{P:List (Int×Bool)}{e:Int}{k:Nat}{i:aJ}{B B':BS}{s:dD}(h:nu m c P e k i B B' s):(1<=i.Op/\i.Op<=40)/\(i.Op≠1->0<=i.A):=by
 have:=h.lO.ins c h.core i (by rw[<-h.hi,getD_lt h.hk];exact bK h.hk);exact⟨this.1,fun h1=>(this.2 h1).1⟩
theorem nu.open_{m:aR}{c:aw}{P:List (Int×Bool)}{e:Int}{k:Nat}{i:aJ}{B B':BS}{s:dD}(h:nu m c P e k i B B' s)(hi:i.Op=27\/i.Op=28):s.op.length≠0:=by
 rw[h.lP.op];rcases yR h.step with⟨ho,_,_,_⟩|⟨_,_,hop⟩
 ·unfold fL at ho;simp only[eM,dx]at ho;omega
 ·rcases hop with⟨_,h,_⟩|⟨_,h,_⟩|⟨h1,h2,_⟩
  ·exact h
  ·exact h
  ·omega
theorem nu.new{m:aR}{c:aw}{P:List (Int×Bool)}{e:Int}{k:Nat}{i:aJ}{B B':BS}{s:dD}(h:nu m c P e k i B B' s)(ho:fL i.Op=true):∃hj:B.1.length<P.length,(P[B.1.length]).1=(k:Int):=by
 obtain⟨r,hr⟩:=h.pre;have hl:(gq B).length=B.1.length:=by simp[gq]
 rcases yR h.step with⟨_,_,hp,_⟩|⟨ho',_,_⟩
 ·have hP:P=gq B++((k:Int),i.A==1)::r:=by rw[hr,hp,mO];rfl
  have hj:B.1.length<P.length:=by rw[hP,ek,hl,cD];omega
  refine⟨hj,?_⟩;have:P[B.1.length]?=some ((k:Int),i.A==1):=by
   rw[hP,dH (by rw[hl];exact cr _),hl,nQ];rfl
  rw[cw hj]at this;rw[ig this]
 ·rw[ho]at ho';cases ho'
theorem ayQ{m:aR}{c:aw}{P:List (Int×Bool)}{s:dD}{o1:List bc}(hr:wE P s o1)(hi:qy P s)(h0:s.op.length≠0)(hb:0<=dG s/\dG s<=24)(e28:Bool):
 M.Dc e28 m.dm m.ay m.aP c.Name c.Params c.dr c.Result c.Code s.h (!s.kn) o1 s.op=some (if s.kn=true/\s.h≠dG s+ed (fM P s).2 then(false,km m c s o1)
   else if e28=true then(true,km m c {s with kn:=true,h:=dG s+ed (fM P s).2,op:=s.op.take (s.op.length-1),ba:=s.ba.take (s.ba.length-1)} o1)
   else(true,km m c {s with kn:=true,h:=dG s} o1)):=by
 have hj:s.op.length-1<s.op.length:=by omega
 obtain⟨h1,h2⟩:=hi.at_ hj;have hl:o1.length=P.length:=by rw[<-hr.pr,dY]
 have eh:(o1.getD (s.op.getD (s.op.length-1) 0).toNat bc.zero).Height=dG s:=by
  rw[hr.ht _ hj];unfold dG;rw[ax (by rw[hi.len];exact h0),hi.len]
 have er:(o1.getD (s.op.getD (s.op.length-1) 0).toNat bc.zero).Result=(fM P s).2:=by
  unfold fM;rw[<-hr.pr,J1];rfl
 have hin:inB (s.op.getD (s.op.length-1) 0) o1.length=true:=by rw[<-h2,bz,bu,hl];exact h1
 have hbit:=mz (fM P s).2;have hsl:cA (0:Int) ((s.op.length-1:Nat):Int) s.op.length=true:=by unfold cA;simp
 have hw:Go.IntKind.wrap .i64 (dG s+ed (fM P s).2)=dG s+ed (fM P s).2:=wrap_i64 (by omega) (by omega);unfold M.Dc;simp only[tz h0 hi.six,bn,eh,er,yU,aZ,bf,hw,hin,bz,hj,bD,cC,db,aS,aG,wG,hsl];by_cases hc:s.kn=true/\s.h≠dG s+ed (fM P s).2
 ·have q:(s.kn&&(s.h !=dG s+ed (fM P s).2))=true:=by rw[bJ,iu];exact hc
  rw[aF hc,q];rfl
 ·have q:(s.kn&&(s.h !=dG s+ed (fM P s).2))=false:=by rw[kj,ne_eq,bJ,iu];exact hc
  rw[ax hc,q];cases e28<;>rfl
theorem ayR{P:List (Int×Bool)}{s:dD}{o1:List bc}(hr:wE P s o1)(hi:qy P s)(h:Int):wE P {s with kn:=true,h:=h,op:=s.op.take (s.op.length-1),ba:=s.ba.take (s.ba.length-1)} o1:=by
 refine⟨hr.pr,fun j hj=>?_⟩;simp only[iw]at hj;have e1:(s.op.take (s.op.length-1)).getD j 0=s.op.getD j 0:=by
  rw[dK,dK,dW,aF (by omega)]
 have e2:(s.ba.take (s.ba.length-1)).getD j 0=s.ba.getD j 0:=by
  rw[dK,dK,dW,aF (by rw[hi.len];omega)]
 simp only[e1,e2];exact hr.ht j (by omega)
theorem ayS{m:aR}{c:aw}{P:List (Int×Bool)}{e:Int}{k:Nat}{i:aJ}{B B':BS}{s:dD}{o1:List bc}(h:nu m c P e k i B B' s)(hr:wE P s o1):
 ∃y:Int×RS,M.Dj (k:Int) m.dm m.ay m.aP c.Name c.Params c.dr c.Result c.Code s.h (!s.kn) o1 s.op=some y/\(match jN m c P i s with
  |.inl x=>y.1=x
  |.inr s'=>∃wH,y=(0,km m c s' wH)/\wE P s' wH):=by
 obtain⟨hi,hle⟩:=h.sin;obtain⟨hop,hA⟩:=h.op;have hbl:=Ov h.lP;have hbit:=mz (fM P s).2;have hk:=h.hk;unfold M.Dj jN;simp only[bn,h.hi,bz,hk,bD,aS,OA,OB];by_cases ht:i.Op=27\/i.Op=28
 ·have h0:=h.open_ ht;have qt:(i.Op==27||i.Op==28)=true:=by rw[eM,dx,dx];exact ht
  rw[aF ht,qt,aG,ayQ (m:=m) (c:=c) hr hi h0 hbl (i.Op==28)];by_cases hc:s.kn=true/\s.h≠dG s+ed (fM P s).2
  ·rw[aF hc,aF hc];exact⟨_,rfl,rfl⟩
  ·rw[ax hc,ax hc];by_cases h27:i.Op=27
   ·have mr:(i.Op==28)=false:=by rw[eI];omega
    rw[aF h27,mr,ax (by decide)];have:decide ((24:Int)<dG s)=false:=by rw[ew];omega
    refine⟨(0,km m c {s with kn:=true,h:=dG s} o1),?_,o1,rfl,⟨hr.pr,hr.ht⟩⟩;simp only[km,aZ,this,dE,bM,bf,aG]
   ·have h28:i.Op=28:=by omega
    have mr:(i.Op==28)=true:=by rw[dx];exact h28
    rw[ax h27,mr,aF rfl];by_cases gK:24<dG s+ed (fM P s).2
    ·rw[aF gK];simp only[km,aZ,jt gK,dE,bM,bf,aG];exact⟨_,rfl,rfl⟩
    ·rw[ax gK];refine⟨(0,km m c {s with kn:=true,h:=dG s+ed (fM P s).2,op:=s.op.take (s.op.length-1),ba:=s.ba.take (s.ba.length-1)} o1),?_,o1,rfl,ayR hr hi _⟩;simp only[km,aZ,ly gK,dE,bM,bf,aG]
 ·have qt:(i.Op==27||i.Op==28)=false:=by rw[kj,ne_eq,eM,dx,dx];exact ht
  have hcore:=h.lO.core c h.core;rw[ax ht,qt,bM];by_cases hkn:s.kn=false
  ·rw[aF hkn,hkn];exact⟨_,rfl,rfl⟩
  ·have hkn':s.kn=true:=by simpa using hkn
   rw[ax hkn,hkn'];simp only[dE,bM,ayI m c i s hcore.1 hcore.2.1 hop,aZ,bf,db,bj,aG];by_cases hth:iN m c i s=false
   ·rw[aF hth,hth];exact⟨_,rfl,rfl⟩
   ·have wI:iN m c i s=true:=by simpa using hth
    rw[ax hth,wI];have htk:=Ox h.lO i;have hst:=h.lP.h;simp only[dE,bM,ayK m c i s hop hA ⟨fun q=>ht (.inl q),fun q=>ht (.inr q)⟩ wI,ayM hr hi m c,aZ,bf,db,bj,aG];have w1:Go.IntKind.wrap .i64 (s.h-(cH m i).1)=s.h-(cH m i).1:=wrap_i64 (by omega) (by omega);have w2:Go.IntKind.wrap .i64 (s.h+Go.IntKind.wrap .i64 ((cH m i).2-(cH m i).1))=s.h-(cH m i).1+(cH m i).2:=by
     rw[wrap_i64 (n:=(cH m i).2-(cH m i).1) (by omega) (by omega),wrap_i64 (by omega) (by omega)];omega
    rw[w1,w2];by_cases hb:s.h-(cH m i).1<dG s
    ·rw[aF hb,jt hb];exact⟨_,rfl,rfl⟩
    ·rw[ax hb,ly hb,bM];by_cases gK:24<s.h-(cH m i).1+(cH m i).2
     ·rw[aF gK,jt gK];exact⟨_,rfl,rfl⟩
     ·rw[ax gK,ly gK,bM];have hnb:0<=iD c P i s/\iD c P i s<=1:=by
       unfold iD
       repeat' split
       ·exact mz _
       ·exact mz _
       ·exact mz _
       ·omega
      have OC:(bif(bif i.Op==29 then i.Op==29 else i.Op==30)then(M.sO (M.eE.mk m c o1 s.op (s.h-(cH m i).1+(cH m i).2) false) i.A).getD Inhabited.default else(bif i.Op==31 then(M.kP c.Result).getD Inhabited.default else(0:Int)))=iD c P i s/\((bif i.Op==29 then i.Op==29 else i.Op==30)=true->(M.sO (M.eE.mk m c o1 s.op (s.h-(cH m i).1+(cH m i).2) false) i.A).isSome=true):=by
       rw[ahE];by_cases hbr:i.Op=29\/i.Op=30
       ·have wF:(i.Op==29||i.Op==30)=true:=by rw[eM,dx,dx];exact hbr
        rw[wF,aG,ayO h.pin hr.pr hi i (hA (by omega)) hbr wI];exact⟨rfl,fun _=>rfl⟩
       ·have wF:(i.Op==29||i.Op==30)=false:=by rw[kj,ne_eq,eM,dx,dx];exact hbr
        rw[wF,bM,yU];refine⟨?_,fun q=>by cases q⟩;unfold iD;by_cases h31:i.Op=31
        ·rw[aF h31,h31];rfl
        ·have qp:(i.Op==31)=false:=by rw[eI];exact h31
         rw[ax h31,ax hbr,qp];rfl
      obtain⟨OC,hsome⟩:=OC;rw[OC];have w3:Go.IntKind.wrap .i64 (s.h-(cH m i).1+(cH m i).2-iD c P i s)=s.h-(cH m i).1+(cH m i).2-iD c P i s:=wrap_i64 (by omega) (by omega);rw[w3,yU];generalize hq8:(bif i.Op==29 then i.Op==29 else i.Op==30)=q8 at hsome;generalize (M.sO (M.eE.mk m c o1 s.op (s.h-(cH m i).1+(cH m i).2) false) i.A).isSome=cs at hsome;have hg:((((cs&&((true|| !(i.Op==29))&&(true||(i.Op==29))))|| !q8)&&(((((true:Bool)&&((true|| !(i.Op==29))&&(true||(i.Op==29))))|| !(i.Op==31))&&(((true|| !(i.Op==29))&&(true||(i.Op==29)))||(i.Op==31)))||q8)))=true:=by
       cases q8
       ·simp
       ·rw[hsome rfl];simp
      simp only[bf,cC,db,bj,aS]at hg⊢;by_cases hnd:s.h-(cH m i).1+(cH m i).2-iD c P i s<dG s
      ·rw[aF hnd,jt hnd,aG];simp only[hg,aG];exact⟨_,rfl,rfl⟩
      ·rw[ax hnd,ly hnd,bM];rw[show(i.Op==24||i.Op==25||i.Op==26)=fL i.Op from rfl];by_cases ho:fL i.Op=true
       ·obtain⟨hj,hat⟩:=h.new ho;have hl:o1.length=P.length:=by rw[<-hr.pr,dY]
        have hown:M.qi s.op=some s.op:=by
         unfold M.qi;have:=hi.six;rw[show decide (0+s.op.length<=1073741824)=true by rw[bu];omega];rfl
        have hd:decide (s.op.length+1<=1073741824)=true:=by have:=hi.six;rw[bu];omega
        have hjl:B.1.length<o1.length:=by rw[hl];exact hj
        simp only[ho,aG,hown,ayP hr.pr h.inc (by have:=h.pl;omega) hj hat,aZ,bf,bn,bz,hjl,bD,hg,db,cD,dj,dN,hd,pt];refine⟨_,rfl,o1.set B.1.length (bc.mk (o1.getD B.1.length bc.zero).At (o1.getD B.1.length bc.zero).Else (o1.getD B.1.length bc.zero).End (s.h-(cH m i).1+(cH m i).2) (o1.getD B.1.length bc.zero).Result),?_,⟨?_,?_⟩⟩
        ·simp only[km,h.lP.eP,wG]
        ·refine Eq.trans (Ou o1 B.1.length _ ?_) hr.pr;rfl
        ·intro j hj';simp only[ek,cD,dj]at hj'⊢;rcases cJ j s.op.length with h1|h1
         ·have e1:(s.op++[s.eP]).getD j 0=s.op.getD j 0:=by
           rw[dK,dK,dC h1]
          have e2:(s.ba++[s.h-(cH m i).1+(cH m i).2]).getD j 0=s.ba.getD j 0:=by
           rw[dK,dK,dC (by rw[hi.len];exact h1)]
          rw[e1,e2,<-hr.ht j h1];have hlt:(s.op.getD j 0).toNat≠B.1.length:=by
           have:=h.Es.opn (s.op.getD j 0) (by rw[<-h.lP.op,getD_lt h1];exact bK h1);omega
          rw[dK,gu,ax (nw hlt),<-dK]
         ·have:j=s.op.length:=by omega
          subst this;have e1:(s.op++[s.eP]).getD s.op.length 0=s.eP:=by
           rw[dK,dH (cr _),nQ];rfl
          have e2:(s.ba++[s.h-(cH m i).1+(cH m i).2]).getD s.op.length 0=s.h-(cH m i).1+(cH m i).2:=by
           rw[<-hi.len,dK,dH (cr _),nQ];rfl
          rw[e1,e2,h.lP.eP,bn,dK,gu,aF rfl,aF hjl];rfl
       ·have ho':fL i.Op=false:=by simpa using ho
        simp only[ho',bM,hg,aG,gJ,gw];refine⟨_,rfl,o1,?_,⟨hr.pr,hr.ht⟩⟩;simp only[km,wG]
end M
namespace M
open Go.V (inB cA ae bS)
theorem ahG{m:aR}{c:aw}{P:List (Int×Bool)}{i:aJ}{s:dD}{x:Int}(h:jN m c P i s=.inl x):x≠0:=by
 unfold jN at h
 repeat' split at h
 all_goals cases h
 all_goals decide
theorem ayT{e:Int}{c:List aJ}{k:Nat}{i:aJ}{s:BS}{x:Int}(h:df e c k i s=.inl x):x≠0:=by
 unfold df at h
 repeat' split at h
 all_goals cases h
 all_goals decide
theorem OD{e:Int}{c:List aJ}:∀(n k:Nat)(s:BS)(p:Int×Int),eU e c n k s=.inl p->p.2≠0
 |0,k,s,p,h=>by simp only[eU]at h;cases h
 |n+1,k,s,p,h=>by
  simp only[eU]at h;cases hx:df e c k (c.getD k aJ.zero) s with
  |inl x=>rw[hx]at h;injection h with h;subst h;exact ayT hx
  |inr s'=>rw[hx]at h;exact OD n (k+1) s' p h
theorem ayU(m:aR)(c:aw)(s:dD)(o1:List bc)(h6:s.op.length<=6):M.Da m.dm m.ay m.aP c.Name c.Params c.dr c.Result c.Code s.h (!s.kn) o1 s.op=some (nt s,km m c s o1):=by
 have hown:M.qi s.op=some s.op:=by
  unfold M.qi;rw[show decide (0+s.op.length<=1073741824)=true by rw[bu];omega];rfl
 unfold M.Da nt km;rw[hown];cases s.kn<;>rfl
structure yV (m:aR) (c:aw) (P:List (Int×Bool)) (Bf:BS):Prop where
 lO:qw m
 core:c∈m.aP
 P:P=gq Bf
 inv:BInv c.Code.length Bf
theorem yV.at_{m:aR}{c:aw}{P:List (Int×Bool)}{Bf:BS}(h:yV m c P Bf){e:Int}{k r:Nat}{B B':BS}{s:dD}(hk:k<c.Code.length)(hB:BInv k B)(hs:tw B s)(hb:df e c.Code k (c.Code.getD k aJ.zero) B=.inr B')(hr:eU e c.Code r (k+1) B'=.inr Bf):nu m c P e k (c.Code.getD k aJ.zero) B B' s:=by
 have hl:P.length=Bf.1.length:=by rw[h.P];simp[gq]
 exact{lO:=h.lO,core:=h.core,pin:=by rw[h.P];exact h.inv.lt,inc:=by rw[h.P];exact h.inv.inc,pl:=by rw[hl];have:=h.inv.cnt;have:=(h.lO.core c h.core).2.2;omega,hk:=hk,hi:=rfl,lP:=hs,Es:=hB,step:=hb,
        pre:=by rw[h.P];exact(JW r (k+1) B' Bf (yS hB hb) hr).1}
theorem ahH{m:aR}{c:aw}{P:List (Int×Bool)}{Bf:BS}{e:Int}(hf:yV m c P Bf):∀(f k:Nat)(B:BS)(s:dD)(o1:List bc)(out:List cZ),k<=c.Code.length->c.Code.length-k<f->BInv k B->tw B s->eU e c.Code (c.Code.length-k) k B=.inr Bf->wE P s o1->out.length=k->
 ∃wH,M.sP c f (k:Int) m.dm m.ay m.aP c.Name c.Params c.dr c.Result c.Code s.h (!s.kn) out o1 s.op=some (match lN m c P (c.Code.length-k) k s out with
  |.inl p=>.inl (p.1,p.2,[])
  |.inr p=>.inr (c,m.dm,m.ay,m.aP,c.Name,c.Params,c.dr,c.Result,c.Code,p.1.h, !p.1.kn,p.2,wH,p.1.op))
 |0,k,B,s,o1,out,h1,h2,_,_,_,_,_=>by omega
 |f+1,k,B,s,o1,out,h1,h2,hB,hs,hb,hr,hl=>by
  have hn:=(hf.lO.core c hf.core).2.2;rcases cJ k c.Code.length with hk|hk
  ·obtain⟨r,hrn⟩:∃r,c.Code.length-k=r+1:=⟨c.Code.length-k-1,by omega⟩;have hr':c.Code.length-(k+1)=r:=by omega
   rw[hrn]at hb⊢;simp only[eU]at hb;cases hx:df e c.Code k (c.Code.getD k aJ.zero) B with
   |inl x=>rw[hx]at hb;cases hb
   |inr B'=>
    rw[hx]at hb;simp only at hb;have hat:=hf.at_ hk hB hs hx hb;obtain⟨y,hy,hc⟩:=ayS hat hr;have h6:s.op.length<=6:=by rw[hs.op];exact hB.six
    rw[M.sP];have hw:Go.IntKind.wrap .i64 ((k:Int)+1)=((k+1:Nat):Int):=bE hk (by omega);have hd:decide (out.length+([nt s]:List cZ).length<=1073741824)=true:=by rw[bu,hl,cD,dj];omega
    simp only[bU,hk,bD,aG,ayU m c s o1 h6,aZ,km,hy,bf,aS,db,hd,hw,lN];cases hcs:jN m c P (c.Code.getD k aJ.zero) s with
    |inl x=>
     rw[hcs]at hc;simp only at hc;have:(y.1 !=0)=true:=by rw[iu,hc];exact ahG hcs
     exact⟨[],by rw[this,hc];rfl⟩
    |inr s'=>
     rw[hcs]at hc;obtain⟨wH,rfl,hr2⟩:=hc;have hz:(((0:Int) !=0))=false:=by decide
     obtain⟨o2,ho2⟩:=ahH hf f (k+1) B' s' wH (out++[nt s]) (by omega) (by omega) (yS hB hx) (ahC hf.lO hs hx hcs) (by rw[hr'];exact hb) hr2 (by rw[ek,hl];rfl);rw[hr']at ho2;refine⟨o2,?_⟩;simp only[hz,bM,km];exact ho2
  ·have:k=c.Code.length:=by omega
   subst this;refine⟨o1,?_⟩;rw[M.sP];simp[lN]
def s0:dD:=⟨0,[],[],0,true⟩
def yW(e:Int)(c:aw):(Int×Int)⊕List (Int×Bool):=kV (List.map pr) (kW e c)
theorem ayV(e e':Int)(c:aw):yW e c=yW e' c:=by
 have h:=ahA e e' c.Code c.Code.length 0 ([],[]) ([],[]) rfl;unfold yW kW;cases h1:eU e c.Code c.Code.length 0 ([],[])with
 |inl p=>
  cases h2:eU e' c.Code c.Code.length 0 ([],[])with
  |inl q=>rw[h1,h2]at h;injection h with h;rw[h]
  |inr q=>rw[h1,h2]at h;cases h
 |inr p=>
  cases h2:eU e' c.Code c.Code.length 0 ([],[])with
  |inl q=>rw[h1,h2]at h;cases h
  |inr q=>
   rw[h1,h2]at h;injection h with h;have e1:p.1.map strip=q.1.map strip:=(iy Prod.fst h:(iC p).1=(iC q).1);have e2:p.2=q.2:=(iy Prod.snd h:(iC p).2=(iC q).2);have e3:p.1.map pr=q.1.map pr:=by
    have:=iy (List.map pr) e1;rw[Eo,Eo]at this;exact this
   simp only[e2];by_cases h0:q.2.length=0
   ·rw[aF h0,aF h0];simp only[kV,e3]
   ·rw[ax h0,ax h0]
def jO(m:aR)(c:aw):List cZ×Int×Int:=
 match yW 0 c with
 |.inl p=>([],p.1,p.2)
 |.inr P=>match lN m c P c.Code.length 0 s0 []with
   |.inl p=>([],p.1,p.2)
   |.inr p=>if p.1.kn=true/\p.1.h≠ed c.Result then([],(c.Code.length:Int),7)else(p.2++[cZ.mk true (ed c.Result) []],0,0)
theorem ahI:tw ([],[]) s0:=⟨rfl,rfl,rfl,fun x hx=>by simp[s0]at hx,by simp[s0]⟩
theorem OE{m:aR}{c:aw}{P:List (Int×Bool)}:∀(n k:Nat)(s:dD)(a:List cZ)(q:dD×List cZ),lN m c P n k s a=.inr q->q.2.length=a.length+n
 |0,k,s,a,q,h=>by simp only[lN]at h;injection h with h;subst h;rfl
 |n+1,k,s,a,q,h=>by
  simp only[lN]at h;cases hx:jN m c P (c.Code.getD k aJ.zero) s with
  |inl x=>rw[hx]at h;cases h
  |inr s'=>
   rw[hx]at h;have:=OE n (k+1) s' _ q h;rw[ek,cD,dj]at this;omega
theorem ayW{m:aR}(hm:qw m){k:Nat}(hk:k<m.aP.length):M.Bj m (k:Int)=some (jO m m.aP[k]):=by
 have hmem:=bK hk;have hn:=(hm.core _ hmem).2.2;unfold M.Bj jO;rw[ayV 0 (-1)];unfold yW;simp only[bn,getD_lt hk,bz,hk,bD,aS,db];generalize hc:m.aP[k]=c at hn hmem⊢;rw[ayH c hn];have hb:∀p,kW (-1) c=.inl p->p.2≠0:=fun p h=>by
  unfold kW at h;cases hx:eU (-1) c.Code c.Code.length 0 ([],[])with
  |inl q=>rw[hx]at h;injection h with h;subst h;exact OD _ _ _ _ hx
  |inr q=>
   rw[hx]at h;simp only at h;split at h
   ·cases h
   ·injection h with h;subst h;show(5:Int)≠0
    decide
 cases hbl:kW (-1) c with
 |inl p=>
  have:(p.2 !=0)=true:=by rw[iu];exact hb p hbl
  simp only[aZ,bf,kV,this,aG]
 |inr b=>
  obtain⟨Bf,hrun,hbf⟩:∃Bf:BS,eU (-1) c.Code c.Code.length 0 ([],[])=.inr Bf/\Bf.1=b:=by
   unfold kW at hbl;cases hx:eU (-1) c.Code c.Code.length 0 ([],[])with
   |inl q=>rw[hx]at hbl;cases hbl
   |inr q=>
    rw[hx]at hbl;simp only at hbl;split at hbl
    ·injection hbl with hbl;exact⟨q,rfl,hbl⟩
    ·cases hbl
  have hinv:=(JW c.Code.length 0 ([],[]) Bf yT hrun).2;rw[dN]at hinv;have hf:yV m c (b.map pr) Bf:=⟨hm,hmem,by rw[<-hbf];rfl,hinv⟩;obtain⟨wH,ho⟩:=ahH (e:= -1) hf ae 0 ([],[]) s0 b [] (cU _) (by have:=bS;omega) yT ahI (by rw[Nat.sub_zero];exact hrun) ⟨rfl,fun j hj=>by simp[s0]at hj⟩ rfl;have ho':M.sP c ae 0 m.dm m.ay m.aP c.Name c.Params c.dr c.Result c.Code 0 false [] b []=_:=ho;rw[Nat.sub_zero]at ho';have hz:((0:Int) !=0)=false:=by decide
  simp only[aZ,bf,kV,hz,bM,ho'];cases hcr:lN m c (b.map pr) c.Code.length 0 s0 []with
  |inl p=>rfl
  |inr p=>
   have hlen:=OE _ _ _ _ _ hcr;simp only[yU,aZ,bf,wG,cC,db,aS,aG];have hd:decide (p.2.length+([cZ.mk true (ed c.Result) []]:List cZ).length<=1073741824)=true:=by
    rw[bu,hlen];simp only[cD,dj];omega
   by_cases hq:p.1.kn=true/\p.1.h≠ed c.Result
   ·have q:(p.1.kn&&(p.1.h !=ed c.Result))=true:=by rw[bJ,iu];exact hq
    rw[aF hq,q];rfl
   ·have q:(p.1.kn&&(p.1.h !=ed c.Result))=false:=by rw[kj,ne_eq,bJ,iu];exact hq
    rw[ax hq,q,hd];rfl
end M
namespace M
open Go.V (inB cA ae bS)
abbrev RI :=Int×List aM×List aw×List UInt8×Int×Int×Bool×List aJ×List bc×Int×Int×Bool×List Int×List Int
def Et(m:aR)(c:aw)(bl:List bc)(s:dD):RI:=(m.dm,m.ay,m.aP,c.Name,c.Params,c.dr,c.Result,c.Code,bl,s.eP,s.h,s.kn,s.op,s.ba)
theorem ayX{m:aR}{c:aw}{P:List (Int×Bool)}{s:dD}{bl:List bc}(hb:bl.map pr=P)(hi:qy P s)(h0:s.op.length≠0)(hbl:0<=dG s/\dG s<=24)(i:aJ)(ht:i.Op=27\/i.Op=28):
 ∃y:Int×RI,M.Dn i m.dm m.ay m.aP c.Name c.Params c.dr c.Result c.Code bl s.eP s.h s.kn s.op s.ba=some y/\(match jN m c P i s with
  |.inl x=>y.1=x
  |.inr s'=>y=(0,Et m c bl s')):=by
 have hj:s.op.length-1<s.op.length:=by omega
 obtain⟨h1,h2⟩:=hi.at_ hj;have hl:bl.length=P.length:=by rw[<-hb,dY]
 have er:(bl.getD (s.op.getD (s.op.length-1) 0).toNat bc.zero).Result=(fM P s).2:=by
  unfold fM;rw[<-hb,J1];rfl
 have hin:inB (s.op.getD (s.op.length-1) 0) bl.length=true:=by rw[<-h2,bz,bu,hl];exact h1
 have hbit:=mz (fM P s).2;have hsl:cA (0:Int) ((s.op.length-1:Nat):Int) s.op.length=true:=by unfold cA;simp
 have hsl2:cA (0:Int) ((s.op.length-1:Nat):Int) s.ba.length=true:=by rw[hi.len];exact hsl
 have hw:Go.IntKind.wrap .i64 (dG s+ed (fM P s).2)=dG s+ed (fM P s).2:=wrap_i64 (by omega) (by omega);have hbase:=ahF s (by rw[hi.len];exact hi.six) m c bl;unfold jN;rw[aF ht];unfold M.Dn;simp only[OA,OB,hbase,tz h0 hi.six,bn,er,JZ,aZ,bf,hw,hin,bz,hj,bD,cC,db,aS,aG,hsl,hsl2];by_cases hc:s.kn=true/\s.h≠dG s+ed (fM P s).2
 ·have q:(s.kn&&(s.h !=dG s+ed (fM P s).2))=true:=by rw[bJ,iu];exact hc
  rw[aF hc,q];exact⟨_,rfl,rfl⟩
 ·have q:(s.kn&&(s.h !=dG s+ed (fM P s).2))=false:=by rw[kj,ne_eq,bJ,iu];exact hc
  rw[ax hc,q,bM];by_cases h27:i.Op=27
  ·have ix:(i.Op==27)=true:=by rw[dx];exact h27
   rw[aF h27,ix,aG];exact⟨_,rfl,rfl⟩
  ·have ix:(i.Op==27)=false:=by rw[eI];exact h27
   rw[ax h27,ix,bM];by_cases gK:24<dG s+ed (fM P s).2
   ·rw[aF gK];simp only[jt gK,aG];exact⟨_,rfl,rfl⟩
   ·rw[ax gK];simp only[ly gK,bM];exact⟨_,rfl,by simp only[Et,hi.len]⟩
theorem ayY{m:aR}{c:aw}{P:List (Int×Bool)}{e:Int}{k:Nat}{i:aJ}{B B':BS}{s:dD}{bl:List bc}(h:nu m c P e k i B B' s)(hb:bl.map pr=P):
 ∃y:Int×RI,M.Dt i m.dm m.ay m.aP c.Name c.Params c.dr c.Result c.Code bl s.eP s.h s.kn s.op s.ba=some y/\(match jN m c P i s with
  |.inl x=>y.1=x
  |.inr s'=>y=(0,Et m c bl s')):=by
 obtain⟨hi,hle⟩:=h.sin;obtain⟨hop,hA⟩:=h.op;have hbl:=Ov h.lP;unfold M.Dt;simp only[OA,OB];by_cases ht:i.Op=27\/i.Op=28
 ·have h0:=h.open_ ht;have qt:(i.Op==27||i.Op==28)=true:=by rw[eM,dx,dx];exact ht
  obtain⟨y,hy,hc⟩:=ayX (m:=m) (c:=c) hb hi h0 hbl i ht;rw[qt,aG,hy];exact⟨y,rfl,hc⟩
 ·have qt:(i.Op==27||i.Op==28)=false:=by rw[kj,ne_eq,eM,dx,dx];exact ht
  have hcore:=h.lO.core c h.core;unfold jN;rw[ax ht,qt,bM];by_cases hkn:s.kn=false
  ·rw[aF hkn,hkn];exact⟨_,rfl,rfl⟩
  ·have hkn':s.kn=true:=by simpa using hkn
   rw[ax hkn];simp only[ayJ m c bl i s hcore.1 hcore.2.1 hop,aZ,bf,db,bj,aG];rw[show(!s.kn)=false by rw[hkn'];rfl,bM];by_cases hth:iN m c i s=false
   ·rw[aF hth,hth];exact⟨_,rfl,rfl⟩
   ·have wI:iN m c i s=true:=by simpa using hth
    rw[ax hth,wI];have htk:=Ox h.lO i;have hst:=h.lP.h;simp only[dE,bM,ayL m c bl i s hop hA ⟨fun q=>ht (.inl q),fun q=>ht (.inr q)⟩ wI,ahF s (by rw[hi.len];exact hi.six) m c bl,ayN h.pin hb hi i hA wI,aZ,bf,db,bj,aG];have w1:Go.IntKind.wrap .i64 (s.h-(cH m i).1)=s.h-(cH m i).1:=wrap_i64 (by omega) (by omega);have w2:Go.IntKind.wrap .i64 (s.h-(cH m i).1+(cH m i).2)=s.h-(cH m i).1+(cH m i).2:=wrap_i64 (by omega) (by omega);rw[w1,w2];by_cases hbs:s.h-(cH m i).1<dG s
    ·rw[aF hbs,jt hbs];exact⟨_,rfl,rfl⟩
    ·rw[ax hbs,ly hbs,bM];by_cases gK:24<s.h-(cH m i).1+(cH m i).2
     ·rw[aF gK,jt gK];exact⟨_,rfl,rfl⟩
     ·rw[ax gK,ly gK,bM];have hnb:0<=iD c P i s/\iD c P i s<=1:=by
       unfold iD
       repeat' split
       ·exact mz _
       ·exact mz _
       ·exact mz _
       ·omega
      have w3:Go.IntKind.wrap .i64 (s.h-(cH m i).1+(cH m i).2-iD c P i s)=s.h-(cH m i).1+(cH m i).2-iD c P i s:=wrap_i64 (by omega) (by omega);rw[w3];by_cases hnd:s.h-(cH m i).1+(cH m i).2-iD c P i s<dG s
      ·rw[aF hnd,jt hnd];exact⟨_,rfl,rfl⟩
      ·rw[ax hnd,ly hnd,bM];rw[show(i.Op==24||i.Op==25||i.Op==26)=fL i.Op from rfl];have hk3:((i.Op !=29&&i.Op !=31)&&i.Op !=40)= !(i.Op==29||i.Op==31||i.Op==40):=by
        rw[kJ,kJ,kJ];cases (i.Op==29)<;>cases (i.Op==31)<;>cases (i.Op==40)<;>rfl
       have h6:=hi.six;by_cases ho:fL i.Op=true
       ·have hcnt:=h.Es.cnt;have hnx:Go.IntKind.wrap .i64 (s.eP+1)=s.eP+1:=by
         rw[h.lP.eP];have:=h.hk;have:=hcore.2.2;exact wrap_i64 (by omega) (by omega)
        have d1:decide (s.ba.length+1<=1073741824)=true:=by rw[bu,hi.len];omega
        have d2:decide (s.op.length+1<=1073741824)=true:=by rw[bu];omega
        simp only[ho,aG,hnx,hk3,cD,dj,dN,d1,d2,db,pt];exact⟨_,rfl,rfl⟩
       ·have ho':fL i.Op=false:=by simpa using ho
        simp only[ho',bM,hk3,gJ,gw];exact⟨_,rfl,rfl⟩
end M
namespace M
open Go.V (inB cA ae bS)
theorem wz:Go.IntKind.wrap .i64 (((0:Nat):Int)-1)= -1:=by rw[wrap_i64 (by omega) (by omega)];rfl
theorem wz2:Go.IntKind.wrap .i64 (-1)= -1:=wrap_i64 (by omega) (by omega)
theorem ahJ(c:aw)(hn:c.Code.length<=120):∀(f k:Nat)(s:BS),k<=c.Code.length->c.Code.length-k<f->BInv k s->
 M.oK c.Code (c.Code.length:Int) c f (k:Int) s.1 s.2=some (match eU 0 c.Code (c.Code.length-k) k s with
   |.inl p=>.inl (p.1,p.2,[])
   |.inr s'=>.inr (c,s'.1,s'.2))
 |0,k,s,h1,h2,_=>by omega
 |f+1,k,s,h1,h2,hI=>by
  rw[M.oK];rcases cJ k c.Code.length with hk|hk
  ·obtain⟨r,hr⟩:∃r,c.Code.length-k=r+1:=⟨c.Code.length-k-1,by omega⟩;have hr':c.Code.length-(k+1)=r:=by omega
   have ih:=fun s' h=>ahJ c hn f (k+1) s' (by omega) (by omega) h
   rw[hr']at ih;rw[hr];simp only[eU];have hinv:=fun s' h=>yS (e:=0) (c:=c.Code) (i:=c.Code.getD k aJ.zero) (s':=s') hI h
   have hw:Go.IntKind.wrap .i64 ((k:Int)+1)=((k+1:Nat):Int):=bE hk (by omega);have h6:=hI.six;have hcnt:=hI.cnt;simp only[bn,bz,bU,hk,bD,aG,aS,hw];generalize hi:c.Code.getD k aJ.zero=i at hinv⊢;rw[show(i.Op==24||i.Op==25||i.Op==26)=fL i.Op from rfl];by_cases ho:fL i.Op=true
   ·rw[ho,aG];by_cases hl:s.2.length=6
    ·have hb:df 0 c.Code k i s=.inl 4:=by unfold df;rw[aF ho,aF hl]
     rw[hb,hl];rfl
    ·have hb:df 0 c.Code k i s=.inr (s.1++[bc.mk (k:Int) (-1) 0 0 (i.A==1)],s.2++[(s.1.length:Int)]):=by unfold df;rw[aF ho,ax hl]
     have q:(((s.2.length:Nat):Int)==6)=false:=by rw[eI];omega
     have d1:decide (s.1.length+1<=1073741824)=true:=by rw[bu];omega
     have d2:decide (s.2.length+1<=1073741824)=true:=by rw[bu];omega
     have:=ih _ (hinv _ hb);simp only[q,bM,cD,dj,dN,d1,d2,db,aG];rw[hb];exact this
   ·have ho':fL i.Op=false:=by simpa using ho
    rw[ho',bM];by_cases h27:i.Op=27
    ·have b27:(i.Op==27)=true:=by rw[h27];rfl
     rw[b27,aG];by_cases h0:s.2.length=0
     ·have hb:df 0 c.Code k i s=.inl 5:=by unfold df;rw[ax ho,aF h27,aF h0]
      rw[hb,h0];simp[wz2]
     ·have ht:=Ep hI h0;have hat:=JX hI h0;have q:decide (((s.2.length-1:Nat):Int)<0)=false:=by rw[ew];omega
      have e1:=ht.2.symm;have hA:inB (bZ s).At c.Code.length=true:=qx ⟨hat.1,by omega⟩;have hS:s.2.length-1<s.2.length:=by omega
      simp only[tz h0 h6,q,gm,bn,e1,bz,ht.1,hS,bD];rw[show List.getD s.1 (jx s) bc.zero=bZ s from rfl,show(List.getD c.Code (Int.toNat (bZ s).At) aJ.zero).Op=opAt c.Code (bZ s).At from rfl,hA];by_cases hc:opAt c.Code (bZ s).At≠26\/0<=(bZ s).Else
      ·have hb:df 0 c.Code k i s=.inl 5:=by unfold df;rw[ax ho,aF h27,ax h0,aF hc]
       have hq:((opAt c.Code (bZ s).At !=26)||decide (0<=(bZ s).Else))=true:=by rw[eM,iu,bu];exact hc
       rw[hb,hq];simp
      ·have hb:df 0 c.Code k i s=.inr (s.1.set (jx s) (bc.mk (bZ s).At (k:Int) (bZ s).End (bZ s).Height (bZ s).Result),s.2):=by unfold df;rw[ax ho,aF h27,ax h0,ax hc]
       have hq:((opAt c.Code (bZ s).At !=26)||decide (0<=(bZ s).Else))=false:=by
        rw[kj,ne_eq,eM,iu,bu];exact hc
       have:=ih _ (hinv _ hb);rw[hb,hq];simp only[bM,cC,db,aG];exact this
    ·have b27:(i.Op==27)=false:=by rw[eI];exact h27
     rw[b27,bM];by_cases h28:i.Op=28
     ·have b28:(i.Op==28)=true:=by rw[h28];rfl
      rw[b28,aG];by_cases h0:s.2.length=0
      ·have hb:df 0 c.Code k i s=.inl 5:=by unfold df;rw[ax ho,ax h27,aF h28,aF h0]
       rw[hb,h0,wz];rfl
      ·have ht:=Ep hI h0;have hat:=JX hI h0;have q:decide (((s.2.length-1:Nat):Int)<0)=false:=by rw[ew];omega
       have e1:=ht.2.symm;have hA:inB (bZ s).At c.Code.length=true:=qx ⟨hat.1,by omega⟩;have hS:s.2.length-1<s.2.length:=by omega
       have hsl:cA (0:Int) ((s.2.length-1:Nat):Int) s.2.length=true:=by unfold cA;simp
       simp only[tz h0 h6,q,bM,bn,e1,bz,ht.1,hS,bD,hsl];rw[show List.getD s.1 (jx s) bc.zero=bZ s from rfl,show(List.getD c.Code (Int.toNat (bZ s).At) aJ.zero).Op=opAt c.Code (bZ s).At from rfl,hA];by_cases hc:(opAt c.Code (bZ s).At=26/\(bZ s).Result=true)/\(bZ s).Else<0
       ·have hb:df 0 c.Code k i s=.inl 7:=by unfold df;rw[ax ho,ax h27,aF h28,ax h0,aF hc]
        have hq:(((opAt c.Code (bZ s).At==26)&&(bZ s).Result)&&decide ((bZ s).Else<0))=true:=by rw[bJ,bJ,dx,bu];exact hc
        rw[hb,hq];rfl
       ·have hb:df 0 c.Code k i s=.inr (s.1.set (jx s) (bc.mk (bZ s).At (bZ s).Else (k:Int) (bZ s).Height (bZ s).Result),s.2.take (s.2.length-1)):=by unfold df;rw[ax ho,ax h27,aF h28,ax h0,ax hc]
        have hq:(((opAt c.Code (bZ s).At==26)&&(bZ s).Result)&&decide ((bZ s).Else<0))=false:=by rw[kj,ne_eq,bJ,bJ,dx,bu];exact hc
        have:=ih _ (hinv _ hb);rw[hb,hq];simp only[bM,db,aG];exact this
     ·have b28:(i.Op==28)=false:=by rw[eI];exact h28
      have hb:df 0 c.Code k i s=.inr s:=by unfold df;rw[ax ho,ax h27,ax h28]
      have:=ih _ (hinv _ hb);rw[b28,bM,hb];exact this
  ·have:k=c.Code.length:=by omega
   subst this;simp[eU]
theorem ayZ(c:aw)(hn:c.Code.length<=120):M.Dk c=some (match kW 0 c with
 |.inl p=>([],p.1,p.2)
 |.inr b=>(b,0,0)):=by
 unfold M.Dk kW;have e:=ahJ c hn ae 0 ([],[]) (cU _) (by have:=bS;omega) yT;have e':M.oK c.Code (c.Code.length:Int) c ae 0 [] []=_:=e;rw[e',Nat.sub_zero];cases h:eU 0 c.Code c.Code.length 0 ([],[])with
 |inl p=>rfl
 |inr s=>
  simp only;by_cases h0:s.2.length=0
  ·rw[aF h0,h0];rfl
  ·rw[ax h0];have:decide ((0:Int)<((s.2.length:Nat):Int))=true:=by rw[bu];omega
   rw[this];rfl
end M
namespace M
open Go.V (inB cA ae bS)
theorem ay0(m:aR)(c:aw)(s:dD)(bl:List bc)(h6:s.op.length<=6):M.Dl m.dm m.ay m.aP c.Name c.Params c.dr c.Result c.Code bl s.eP s.h s.kn s.op s.ba=some ((nt s).OF,(nt s).Height,m.dm,m.ay,m.aP,c.Name,c.Params,c.dr,c.Result,c.Code,bl,s.eP,s.h,s.kn,(nt s).OG,s.op,s.ba):=by
 have hown:M.sQ s.op=some s.op:=by
  unfold M.sQ;rw[show decide (s.op.length<=1099511627776)=true by rw[bu];omega];rfl
 unfold M.Dl nt;rw[hown];obtain⟨eP,op,ba,ht,kn⟩:=s;cases kn<;>rfl
theorem ay1(p:cZ):cZ.mk p.OF p.Height p.OG=p:=rfl
theorem ahK{m:aR}{c:aw}{P:List (Int×Bool)}{Bf:BS}{e:Int}(hf:yV m c P Bf){bl:List bc}(hbl:bl.map pr=P):∀(f k:Nat)(B:BS)(s:dD)(out:List cZ),k<=c.Code.length->c.Code.length-k<f->BInv k B->tw B s->eU e c.Code (c.Code.length-k) k B=.inr Bf->out.length=k->
 M.sR bl c.Code (c.Code.length:Int) c f (k:Int) m.dm m.ay m.aP c.Name c.Params c.dr c.Result c.Code bl s.eP s.h s.kn out s.op s.ba=some (match lN m c P (c.Code.length-k) k s out with
   |.inl p=>.inl (p.1,p.2,[],[])
   |.inr p=>.inr (bl,c,m.dm,m.ay,m.aP,c.Name,c.Params,c.dr,c.Result,c.Code,bl,p.1.eP,p.1.h,p.1.kn,p.2,p.1.op,p.1.ba))
 |0,k,B,s,out,h1,h2,_,_,_,_=>by omega
 |f+1,k,B,s,out,h1,h2,hB,hs,hb,hl=>by
  have hn:=(hf.lO.core c hf.core).2.2;rcases cJ k c.Code.length with hk|hk
  ·obtain⟨r,hrn⟩:∃r,c.Code.length-k=r+1:=⟨c.Code.length-k-1,by omega⟩;have hr':c.Code.length-(k+1)=r:=by omega
   rw[hrn]at hb⊢;simp only[eU]at hb;cases hx:df e c.Code k (c.Code.getD k aJ.zero) B with
   |inl x=>rw[hx]at hb;cases hb
   |inr B'=>
    rw[hx]at hb;simp only at hb;have hat:=hf.at_ hk hB hs hx hb;obtain⟨y,hy,hc⟩:=ayY hat hbl;have h6:s.op.length<=6:=by rw[hs.op];exact hB.six
    rw[M.sR];have hw:Go.IntKind.wrap .i64 ((k:Int)+1)=((k+1:Nat):Int):=bE hk (by omega);have hd:decide (out.length+([nt s]:List cZ).length<=1073741824)=true:=by rw[bu,hl,cD,dj];omega
    simp only[bU,hk,bD,aG,ay0 m c s bl h6,aZ,ay1,Et,bn,hy,bz,bf,aS,db,hd,hw,lN];cases hcs:jN m c P (c.Code.getD k aJ.zero) s with
    |inl x=>
     rw[hcs]at hc;simp only at hc;have:(y.1 !=0)=true:=by rw[iu,hc];exact ahG hcs
     rw[this,hc];rfl
    |inr s'=>
     rw[hcs]at hc;simp only at hc;subst hc;have hz:(((0:Int) !=0))=false:=by decide
     have ho2:=ahK hf hbl f (k+1) B' s' (out++[nt s]) (by omega) (by omega) (yS hB hx) (ahC hf.lO hs hx hcs) (by rw[hr'];exact hb) (by rw[ek,hl];rfl);rw[hr']at ho2;simp only[hz,bM,Et];exact ho2
  ·have:k=c.Code.length:=by omega
   subst this;rw[M.sR];simp[lN]
theorem ay2{m:aR}(hm:qw m){k:Nat}(hk:k<m.aP.length):M.BO m (k:Int)=some ((jO m m.aP[k]).2.1,(jO m m.aP[k]).2.2,(jO m m.aP[k]).1):=by
 have hmem:=bK hk;have hn:=(hm.core _ hmem).2.2;unfold M.BO jO yW;simp only[bn,getD_lt hk,bz,hk,bD,aS,db];generalize hc:m.aP[k]=c at hn hmem⊢;rw[ayZ c hn];have hb:∀p,kW 0 c=.inl p->p.2≠0:=fun p h=>by
  unfold kW at h;cases hx:eU 0 c.Code c.Code.length 0 ([],[])with
  |inl q=>rw[hx]at h;injection h with h;subst h;exact OD _ _ _ _ hx
  |inr q=>
   rw[hx]at h;simp only at h;split at h
   ·cases h
   ·injection h with h;subst h;show(5:Int)≠0
    decide
 cases hbl:kW 0 c with
 |inl p=>
  have:(p.2 !=0)=true:=by rw[iu];exact hb p hbl
  simp only[aZ,bf,kV,this,aG]
  first|done|rfl
 |inr b=>
  obtain⟨Bf,hrun,hbf⟩:∃Bf:BS,eU 0 c.Code c.Code.length 0 ([],[])=.inr Bf/\Bf.1=b:=by
   unfold kW at hbl;cases hx:eU 0 c.Code c.Code.length 0 ([],[])with
   |inl q=>rw[hx]at hbl;cases hbl
   |inr q=>
    rw[hx]at hbl;simp only at hbl;split at hbl
    ·injection hbl with hbl;exact⟨q,rfl,hbl⟩
    ·cases hbl
  have hinv:=(JW c.Code.length 0 ([],[]) Bf yT hrun).2;rw[dN]at hinv;have hf:yV m c (b.map pr) Bf:=⟨hm,hmem,by rw[<-hbf];rfl,hinv⟩;have ho:=ahK (e:=0) hf (bl:=b) rfl ae 0 ([],[]) s0 [] (cU _) (by have:=bS;omega) yT ahI (by rw[Nat.sub_zero];exact hrun) rfl;have ho':M.sR b c.Code (c.Code.length:Int) c ae 0 m.dm m.ay m.aP c.Name c.Params c.dr c.Result c.Code b 0 0 true [] [] []=_:=ho;rw[Nat.sub_zero]at ho';have hz:((0:Int) !=0)=false:=by decide
  simp only[aZ,bf,kV,hz,bM,ho'];cases hcr:lN m c (b.map pr) c.Code.length 0 s0 []with
  |inl p=>rfl
  |inr p=>
   have hlen:=OE _ _ _ _ _ hcr;simp only[JZ,aZ,bf,cC,db,aS,aG];have hd:decide (p.2.length+([cZ.mk true (ed c.Result) []]:List cZ).length<=1073741824)=true:=by
    rw[bu,hlen];simp only[cD,dj];omega
   by_cases hq:p.1.kn=true/\p.1.h≠ed c.Result
   ·have q:(p.1.kn&&(p.1.h !=ed c.Result))=true:=by rw[bJ,iu];exact hq
    rw[aF hq,q];rfl
   ·have q:(p.1.kn&&(p.1.h !=ed c.Result))=false:=by rw[kj,ne_eq,bJ,iu];exact hq
    rw[ax hq,q,hd];rfl
end M
namespace M
open Go.V (inB cA ae bS)
def wJ(c:UInt8):Bool:=((((decide ((97:Int)<=((c.toNat:Nat):Int))&&decide (((c.toNat:Nat):Int)<=122))||(decide ((48:Int)<=((c.toNat:Nat):Int))&&decide (((c.toNat:Nat):Int)<=57)))||(((c.toNat:Nat):Int)==45))||(((c.toNat:Nat):Int)==46))||(((c.toNat:Nat):Int)==47)
def gW(s:List UInt8):Bool:=s.all wJ&&(decide (1<=s.length)&&decide (s.length<=40))
theorem ay3(c:UInt8):decide (M.Eh [(45:UInt8),(46:UInt8),(47:UInt8)] ((c.toNat:Nat):Int)<0)= !(((((c.toNat:Nat):Int)==45)||(((c.toNat:Nat):Int)==46))||(((c.toNat:Nat):Int)==47)):=by
 have e:((c.toNat:Nat):Int).toNat.toUInt8=c:=by rw[bn];exact UInt8.ofNat_toNat
 unfold M.Eh;rw[e];have h:∀(n:UInt8),(n==c)=(((c.toNat:Nat):Int)==((n.toNat:Nat):Int)):=fun n=>by
  rw[gj,dx,dx];constructor
  ·rintro rfl;rfl
  ·intro h;exact UInt8.toNat_inj.1 (by omega)
 unfold Go.Lib.indexByte Go.Lib.indexByte Go.Lib.indexByte Go.Lib.indexByte;rw[h 45,h 46,h 47];have n1:(((45:UInt8).toNat:Nat):Int)=45:=rfl;have n2:(((46:UInt8).toNat:Nat):Int)=46:=rfl;have n3:(((47:UInt8).toNat:Nat):Int)=47:=rfl;rw[n1,n2,n3];cases (((c.toNat:Nat):Int)==45)<;>cases (((c.toNat:Nat):Int)==46)<;>cases (((c.toNat:Nat):Int)==47)<;>rfl
theorem ahL(s:List UInt8):(decide ((1:Int)<=((s.length:Nat):Int))&&decide (((s.length:Nat):Int)<=40))=(decide (1<=s.length)&&decide (s.length<=40)):=by
 congr 1<;>simp only[fl]<;>omega
theorem ahM(s:List UInt8)(h:s.length<=1048576):M.uX s=some (gW s):=by
 have e:=mP (p:=wJ) (F:=M.vG s) (e:=s) (b:=false) s (by omega) (fun f k hk=>by
  rw[M.vG];simp only[getD_lt hk,bn,bz,bU,hk,bD,aG,aS,bE hk (by omega:s.length<2^62)];rw[show wJ s[k]=(((((decide ((97:Int)<=((s[k].toNat:Nat):Int))&&decide (((s[k].toNat:Nat):Int)<=122))||(decide ((48:Int)<=((s[k].toNat:Nat):Int))&&decide (((s[k].toNat:Nat):Int)<=57)))||(((s[k].toNat:Nat):Int)==45))||(((s[k].toNat:Nat):Int)==46))||(((s[k].toNat:Nat):Int)==47))from rfl];generalize (((((decide ((97:Int)<=((s[k].toNat:Nat):Int))&&decide (((s[k].toNat:Nat):Int)<=122))||(decide ((48:Int)<=((s[k].toNat:Nat):Int))&&decide (((s[k].toNat:Nat):Int)<=57)))||(((s[k].toNat:Nat):Int)==45))||(((s[k].toNat:Nat):Int)==46))||(((s[k].toNat:Nat):Int)==47))=b;cases b<;>rfl) (fun f=>by rw[M.vG];simp)
 unfold M.uX gW;rw[e];cases s.all wJ
 ·rfl
 ·rw[aF rfl];simp only[ahL,bj]
theorem ay4(s:List UInt8)(h:s.length<=1048576):M.BL s=some (gW s):=by
 have e:=mP (p:=wJ) (F:=M.u7 s (s.length:Int)) (e:=s) (b:=false) s (by omega) (fun f k hk=>by
  rw[M.u7];simp only[getD_lt hk,bn,bz,bU,hk,bD,aG,aS,cC,bE hk (by omega:s.length<2^62),ay3];unfold wJ;generalize (decide ((97:Int)<=((s[k].toNat:Nat):Int))&&decide (((s[k].toNat:Nat):Int)<=122))=b1;generalize (decide ((48:Int)<=((s[k].toNat:Nat):Int))&&decide (((s[k].toNat:Nat):Int)<=57))=b2;cases b1<;>cases b2<;>cases (((s[k].toNat:Nat):Int)==45)<;>cases (((s[k].toNat:Nat):Int)==46)<;>cases (((s[k].toNat:Nat):Int)==47)<;>rfl) (fun f=>by rw[M.u7];simp)
 unfold M.BL gW;rw[e];cases s.all wJ
 ·rfl
 ·rw[aF rfl];simp only[ahL,bj]
theorem ay5{b c:Bool}:(bif b then b else c)=(b||c):=by cases b<;>rfl
theorem ahN(op:Int):∃y,M.Bz op=some y/\(op≠1->0<=y.1/\y.2.1<=4096):=by
 unfold M.Bz;simp only[ay5];simp only[ay6];by_cases h1:(op==1)=true
 ·rw[aF h1];exact⟨_,rfl,fun h=>absurd (by simpa using h1) h⟩
 rw[ax h1]
 repeat' split
 all_goals
  refine⟨_,rfl,fun _=>?_⟩;constructor<;>simp
noncomputable def ko(i:aJ):Bool:=(M.r0 i).getD false
theorem ahO(i:aJ):M.r0 i=some (ko i)/\M.Gy i=some (ko i):=by
 obtain⟨y,hy,-⟩:=ahN i.Op;have e:M.r0 i=some (ko i):=by
  unfold ko M.r0;rw[hy];rfl
 exact⟨e,e⟩
theorem ay7{i:aJ}(h:ko i=true):(1<=i.Op/\i.Op<=40)/\(i.Op≠1->0<=i.A/\i.A<=16777216):=by
 obtain⟨y,hy,hb⟩:=ahN i.Op;unfold ko M.r0 at h;rw[hy]at h;simp only[bf,aZ,db,aG,bJ,bu]at h;refine⟨h.1,fun h1=>?_⟩;have:=hb h1;omega
noncomputable def lQ(c:aw):Bool:=(((decide ((0:Int)<=c.Params)&&decide (c.Params<=8))&&(decide ((0:Int)<=c.dr)&&decide (c.dr<=8)))&&decide (c.Code.length<=120))&&c.Code.all ko
theorem ay8(c:aw)(h:c.Code.length<=1048576):M.BC c=some (lQ c):=by
 have e:=ft (p:=fun i=> !ko i) (F:=M.u3 c.Code (c.Code.length:Int)) (e:=()) (fun k=>k) c.Code (by omega) (fun f k hk=>by
  rw[M.u3];have ec:M.BA c.Code[k]=some (!ko c.Code[k]):=by unfold M.BA;rw[(ahO _).1];rfl
  simp only[getD_lt hk,ec,bn,bz,bU,hk,bD,aG,bj,aS,bE hk (by omega:c.Code.length<2^62),aZ,bf]) (fun f=>by
  rw[M.u3];simp)
 have e2:M.BB c.Code=some (!c.Code.all ko):=by
  unfold M.BB M.Hk;rw[e,wu,jH];cases c.Code.findIdx? (fun i=> !ko i)<;>simp
 have e3:decide (((c.Code.length:Nat):Int)<=120)=decide (c.Code.length<=120):=by simp only[fl];omega
 unfold M.BC lQ;rw[e2,e3];simp only[bf,aZ,cC,db,aG,wG]
theorem ay9(c:aw)(h:c.Code.length<=1048576)(hn:c.Name.length<=1048576):M.Be c=some (gW c.Name&&lQ c):=by
 have e:=mP (p:=ko) (F:=M.uW c) (e:=()) (b:=false) c.Code (by omega) (fun f k hk=>by
  rw[M.uW];simp only[getD_lt hk,(ahO _).2,bn,bz,bU,hk,bD,aG,bj,aS,bE hk (by omega:c.Code.length<2^62),aZ,bf];cases ko c.Code[k]<;>rfl) (fun f=>by rw[M.uW];simp)
 have e3:decide ((120:Int)<((c.Code.length:Nat):Int))= !decide (c.Code.length<=120):=by rw[<-lR];simp only[fl];omega
 unfold M.Be lQ;rw[ahM c.Name hn,e,e3];simp only[bf,aZ,db,aG];generalize (decide ((0:Int)<=c.Params)&&decide (c.Params<=8))=b1;generalize (decide ((0:Int)<=c.dr)&&decide (c.dr<=8))=b2;generalize decide (c.Code.length<=120)=b3;cases gW c.Name<;>cases b1<;>cases b2<;>cases b3<;>cases c.Code.all ko<;>rfl
def qz(x:aM):Bool:=decide ((0:Int)<=x.Params)&&decide (x.Params<=8)
def xw(l:List (List UInt8)):Bool:=nodupB l&&l.all gW
noncomputable def iS(m:aR):Bool:=(((decide ((1:Int)<=m.dm)&&decide (m.dm<=16))&&decide (m.ay.length<=12))&&decide (m.aP.length<=8))&&((m.ay.all qz&&m.aP.all lQ)&&(xw (m.ay.map aM.Name)&&xw (m.aP.map aw.Name)))
theorem ahP(n:Nat):decide ((12:Int)<((n:Nat):Int))= !decide (n<=12):=by rw[<-lR];simp only[fl];omega
theorem len8(n:Nat):decide ((8:Int)<((n:Nat):Int))= !decide (n<=8):=by rw[<-lR];simp only[fl];omega
theorem aza(l:List aM)(name:List UInt8)(h:l.length<=1048576):∃y,M.Bg l name=some y/\decide ((0:Int)<=y)=l.any fun x=>x.Name==name:=by
 have e:=ft (p:=fun x:aM=>x.Name==name) (F:=M.vH l name) (e:=()) (fun k=>k) l (by omega) (fun f k hk=>by
  rw[M.vH];simp only[getD_lt hk,bn,bz,bU,hk,bD,aG,aS,bE hk (by omega:l.length<2^62)]) (fun f=>by rw[M.vH];simp)
 unfold M.Bg;rw[e,jH];cases l.findIdx? (fun x:aM=>x.Name==name)with
 |none=>exact⟨_,rfl,rfl⟩
 |some k=>exact⟨_,rfl,by simp⟩
theorem azb(l:List aw)(name:List UInt8)(h:l.length<=1048576):∃y,M.Bh l name=some y/\decide ((0:Int)<=y)=l.any fun x=>x.Name==name:=by
 have e:=ft (p:=fun x:aw=>x.Name==name) (F:=M.vI l name) (e:=()) (fun k=>k) l (by omega) (fun f k hk=>by
  rw[M.vI];simp only[getD_lt hk,bn,bz,bU,hk,bD,aG,aS,bE hk (by omega:l.length<2^62)]) (fun f=>by rw[M.vI];simp)
 unfold M.Bh;rw[e,jH];cases l.findIdx? (fun x:aw=>x.Name==name)with
 |none=>exact⟨_,rfl,rfl⟩
 |some k=>exact⟨_,rfl,by simp⟩
theorem ahQ{i n:Nat}(h:i<=n):cA (0:Int) (i:Int) n=true:=by unfold cA;simp;omega
theorem azc(m:aR)(h:m.sz<=1048576):M.Bi m=some (iS m):=by
 rw[aR.bL]at h;have hi:m.ay.length<=1048576:=cN (bW aM.sz _) (by omega);have hc:m.aP.length<=1048576:=cN (bW aw.sz _) (by omega);have e0:=lB (p:=fun i=>(gW (m.ay.getD i aM.zero).Name&&qz (m.ay.getD i aM.zero))&& !((m.ay.take i).any fun x=>x.Name==(m.ay.getD i aM.zero).Name)) (F:=M.uV m) (e:=m) (b:=false) m.ay.length (by omega) (fun f k hk=>by
  rw[M.uV];have hsz:=da aM.sz _ _ (bK hk);have hn:m.ay[k].Name.length<=1048576:=by rw[aM.bL]at hsz;omega
  obtain⟨y,hy,hy2⟩:=aza (m.ay.take k) m.ay[k].Name (by rw[iw];omega);have hd:∀l:List aM,List.drop (Int.toNat (0:Int)) l=l:=fun l=>rfl
  simp only[getD_lt hk,bn,bz,bU,hk,bD,aG,aS,bj,hd,hy,hy2,ahM _ hn,aZ,bf,cC,ahQ (ti hk),bE hk (by omega:m.ay.length<2^62)];rw[show qz m.ay[k]=(decide ((0:Int)<=m.ay[k].Params)&&decide (m.ay[k].Params<=8))from rfl];generalize (decide ((0:Int)<=m.ay[k].Params)&&decide (m.ay[k].Params<=8))=b1;generalize ((m.ay.take k).any fun x=>x.Name==m.ay[k].Name)=b2;cases gW m.ay[k].Name<;>cases b1<;>cases b2<;>rfl) (fun f=>by rw[M.uV];simp)
 have e1:=lB (p:=fun i=>(gW (m.aP.getD i aw.zero).Name&&lQ (m.aP.getD i aw.zero))&& !((m.aP.take i).any fun x=>x.Name==(m.aP.getD i aw.zero).Name)) (F:=M.uY m) (e:=()) (b:=false) m.aP.length (by omega) (fun f k hk=>by
  rw[M.uY];have hsz:=da aw.sz _ _ (bK hk);have hn:m.aP[k].Name.length<=1048576/\m.aP[k].Code.length<=1048576:=by
   rw[aw.bL]at hsz;have:=bW aJ.sz m.aP[k].Code;omega
  obtain⟨y,hy,hy2⟩:=azb (m.aP.take k) m.aP[k].Name (by rw[iw];omega);have hd:∀l:List aw,List.drop (Int.toNat (0:Int)) l=l:=fun l=>rfl
  simp only[getD_lt hk,bn,bz,bU,hk,bD,aG,aS,bj,hd,hy,hy2,ay9 _ hn.2 hn.1,aZ,bf,cC,ahQ (ti hk),bE hk (by omega:m.aP.length<2^62)];generalize ((m.aP.take k).any fun x=>x.Name==m.aP[k].Name)=b2;cases gW m.aP[k].Name<;>cases lQ m.aP[k]<;>cases b2<;>rfl) (fun f=>by rw[M.uY];simp)
 rw[J3,ahR aM.Name,ahS (fun x:aM=>gW x.Name&&qz x),J3]at e0;rw[J3,ahR aw.Name,ahS (fun x:aw=>gW x.Name&&lQ x),J3]at e1;have w1:(m.ay.map aM.Name).all gW=m.ay.all fun x=>gW x.Name:=by rw[Fh];rfl
 have w2:(m.aP.map aw.Name).all gW=m.aP.all fun x=>gW x.Name:=by rw[Fh];rfl
 unfold M.Bi iS xw;rw[ahP,len8,e0,w1,w2];generalize (decide ((1:Int)<=m.dm)&&decide (m.dm<=16))=b0;generalize decide (m.ay.length<=12)=b1;generalize decide (m.aP.length<=8)=b2;generalize (m.ay.all fun x=>gW x.Name)=b3;generalize m.ay.all qz=b4;generalize nodupB (m.ay.map aM.Name)=b5;generalize (m.aP.all fun x=>gW x.Name)=b6 at e1⊢;generalize m.aP.all lQ=b7 at e1⊢;generalize nodupB (m.aP.map aw.Name)=b8 at e1⊢;cases b0
 ·rfl
 cases b1
 ·rfl
 cases b2
 ·rfl
 cases b3<;>cases b4<;>cases b5
 all_goals first
  |(cases b6<;>cases b7<;>cases b8<;>rfl)
  |(simp only[db,pt,dE,wq,bM,bj,e1]
    cases b6<;>cases b7<;>cases b8<;>rfl)
end M
namespace M
open Go.V (inB cA ae bS)
theorem ahT(l:List (List UInt8))(hl:l.length<=1048576)(h:∀x∈l,x.length<=1048576):M.yf l=some (xw l):=by
 have e:=ft (p:=fun s=> !gW s) (F:=M.u9 l (l.length:Int)) (e:=()) (fun k=>k) l (by omega) (fun f k hk=>by
  rw[M.u9];have ec:M.BM l[k]=some (!gW l[k]):=by unfold M.BM;rw[ay4 _ (h _ (bK hk))];rfl
  simp only[getD_lt hk,ec,bn,bz,bU,hk,bD,aG,bj,aS,bE hk (by omega:l.length<2^62),aZ,bf]) (fun f=>by
  rw[M.u9];simp)
 have e2:M.BN l=some (!l.all gW):=by
  unfold M.BN M.Hw;rw[e,wu,jH];cases l.findIdx? (fun i=> !gW i)<;>simp
 unfold M.yf xw;rw[e2,FC l hl];simp only[bf,aZ,cC,db,aG,wG]
theorem ahU{α:Type}(nm:α->List UInt8)(l:List α)(k:Nat)(hk:k<l.length):(l.take k).map nm++[nm l[k]]=(l.take (k+1)).map nm:=by
 rw[kK,pP,cw hk];rfl
theorem LI(m:aR)(h:m.sz<=1048576):M.qc m=some (iS m):=by
 rw[aR.bL]at h;have hi:m.ay.length<=1048576:=cN (bW aM.sz _) (by omega);have hc:m.aP.length<=1048576:=cN (bW aw.sz _) (by omega);have k0:∀g k,k<=m.ay.length->m.ay.length-k<g->M.sd m.ay (m.ay.length:Int) m [] g (k:Int) ((m.ay.take k).map aM.Name)=some (if(m.ay.drop k).all qz then .inr (m,m.ay.map aM.Name,[])else .inl false):=by
  intro g
  induction g with
  |zero=>intro k h1 h2;omega
  |succ g ih=>
   intro k h1 h2;rcases cJ k m.ay.length with hk|hk
   ·rw[M.sd];have hd:decide ((((m.ay.take k).map aM.Name).length+([m.ay[k].Name]:List (List UInt8)).length)<=1073741824)=true:=by
     simp only[bu,dY,iw,cD,dj];omega
    simp only[getD_lt hk,bn,bz,bU,hk,bD,aG,bj,aS,bE hk (by omega:m.ay.length<2^62),hd,ahU aM.Name _ k hk];rw[ih (k+1) (by omega) (by omega),eD hk,kD];rw[show qz m.ay[k]=(decide ((0:Int)<=m.ay[k].Params)&&decide (m.ay[k].Params<=8))from rfl];cases (decide ((0:Int)<=m.ay[k].Params)&&decide (m.ay[k].Params<=8))<;>simp
   ·have:k=m.ay.length:=by omega
    subst this;rw[M.sd];simp
 have k1:∀g k,k<=m.aP.length->m.aP.length-k<g->M.se m.aP (m.aP.length:Int) (m.ay.map aM.Name) g (k:Int) ((m.aP.take k).map aw.Name)=some (if(m.aP.drop k).all lQ then .inr (m.ay.map aM.Name,m.aP.map aw.Name)else .inl false):=by
  intro g
  induction g with
  |zero=>intro k h1 h2;omega
  |succ g ih=>
   intro k h1 h2;rcases cJ k m.aP.length with hk|hk
   ·rw[M.se];have hsz:=da aw.sz _ _ (bK hk);have hn:m.aP[k].Code.length<=1048576:=by
     rw[aw.bL]at hsz;have:=bW aJ.sz m.aP[k].Code;omega
    have hd:decide ((((m.aP.take k).map aw.Name).length+([m.aP[k].Name]:List (List UInt8)).length)<=1073741824)=true:=by
     simp only[bu,dY,iw,cD,dj];omega
    simp only[getD_lt hk,ay8 _ hn,aZ,bf,bn,bz,bU,hk,bD,aG,bj,aS,bE hk (by omega:m.aP.length<2^62),hd,ahU aw.Name _ k hk];rw[ih (k+1) (by omega) (by omega),eD hk,kD];cases lQ m.aP[k]<;>simp
   ·have:k=m.aP.length:=by omega
    subst this;rw[M.se];simp
 have e0:=k0 ae 0 (cU _) (by have:=bS;omega);have e0':M.sd m.ay (m.ay.length:Int) m [] ae 0 []=_:=e0;have e1:=k1 ae 0 (cU _) (by have:=bS;omega);have e1':M.se m.aP (m.aP.length:Int) (m.ay.map aM.Name) ae 0 []=_:=e1;rw[fW]at e0' e1';have n0:∀x∈m.ay.map aM.Name,x.length<=1048576:=fun x hx=>by
  obtain⟨y,hy,rfl⟩:=kG.1 hx;have:=da aM.sz _ _ hy;rw[aM.bL]at this;omega
 have n1:∀x∈m.aP.map aw.Name,x.length<=1048576:=fun x hx=>by
  obtain⟨y,hy,rfl⟩:=kG.1 hx;have:=da aw.sz _ _ hy;rw[aw.bL]at this;omega
 unfold M.qc iS;rw[ahP,len8,e0'];generalize (decide ((1:Int)<=m.dm)&&decide (m.dm<=16))=b0;generalize decide (m.ay.length<=12)=b1;generalize decide (m.aP.length<=8)=b2;cases b0
 ·rfl
 cases b1
 ·rfl
 cases b2
 ·rfl
 cases m.ay.all qz
 ·rfl
 ·simp only[pt,dE,wq,bM,e1'];cases m.aP.all lQ
  ·rfl
  ·simp only[pt,ahT _ (by rw[dY];exact hi) n0,ahT _ (by rw[dY];exact hc) n1,aZ,bf,cC,db,aG,bj]
theorem ahV{m:aR}(h:iS m=true):qw m:=by
 unfold iS at h;simp only[bJ,bu,ee]at h;obtain⟨⟨⟨-,hi⟩,hc⟩,⟨h1,h2⟩,-⟩:=h;have hcore:∀x∈m.aP,((0<=x.Params/\x.Params<=8)/\(0<=x.dr/\x.dr<=8)/\x.Code.length<=120)/\∀i∈x.Code,ko i=true:=fun x hx=>by
  have:=h2 x hx;unfold lQ at this;simp only[bJ,bu,ee]at this;exact⟨⟨this.1.1.1,this.1.1.2,this.1.2⟩,this.2⟩
 refine⟨hc,hi,fun x hx=>?_,fun x hx=>(hcore x hx).1,fun x hx i hi'=>ay7 ((hcore x hx).2 i hi')⟩;have:=h1 x hx;unfold qz at this;simpa using this
end M
namespace M
open Go.V (inB cA ae bS)
def J4(m:aR):Int×Int×Int:=
 match m.aP.findIdx? (fun c=>(jO m c).2.2 !=0)with
 |some k=>((k:Int),(jO m (m.aP.getD k aw.zero)).2)
 |none=>(0,0,0)
def yX(m:aR)(x:Int):Int×Int×Int:=(x,(jO m (m.aP.getD x.toNat aw.zero)).2)
theorem J5(m:aR)(k:Nat):yX m (k:Int)=((k:Int),(jO m (m.aP.getD k aw.zero)).2):=by
 unfold yX;rw[bn]
theorem azd{m:aR}(hm:qw m):M.rL m ae 0=some (match m.aP.findIdx? (fun c=>(jO m c).2.2 !=0)with
 |some k=>.inl (yX m (k:Int))
 |none=>.inr ()):=
 ft (p:=fun c=>(jO m c).2.2 !=0) (F:=M.rL m) (e:=()) (yX m) m.aP (by have:=hm.ng;omega) (fun f k hk=>by
  rw[M.rL,J5];have:=hm.ng;simp only[ayW hm hk,getD_lt hk,bU,hk,bD,aG,aZ,bf,db,bE hk (by omega:m.aP.length<2^62)]) (fun f=>by rw[M.rL];simp)
theorem aze{m:aR}(hm:qw m):M.sf (m.aP.length:Int) m ae 0=some (match m.aP.findIdx? (fun c=>(jO m c).2.2 !=0)with
 |some k=>.inl (yX m (k:Int))
 |none=>.inr ()):=
 ft (p:=fun c=>(jO m c).2.2 !=0) (F:=M.sf (m.aP.length:Int) m) (e:=()) (yX m) m.aP (by have:=hm.ng;omega) (fun f k hk=>by
  rw[M.sf,J5];have:=hm.ng;have hb:=ay2 hm hk;simp only[hb,getD_lt hk,bU,hk,bD,aG,aZ,bf,db,bE hk (by omega:m.aP.length<2^62)]) (fun f=>by rw[M.sf];simp)
noncomputable def rn(m:aR):Int×Int×Int:=if iS m=true then J4 m else(0,0,1)
theorem azf(m:aR)(h:m.sz<=1048576):M.Bl m=some (rn m):=by
 unfold M.Bl rn;rw[azc m h];simp only[aZ,bf,db,aG];cases hb:iS m
 ·rfl
 ·rw[aF rfl,azd (ahV hb)];unfold J4;cases m.aP.findIdx? (fun c=>(jO m c).2.2 !=0)with
  |none=>rfl
  |some k=>simp only[dE,bM,J5]
theorem azg(m:aR)(h:m.sz<=1048576):M.BQ m=some (rn m):=by
 unfold M.BQ rn;rw[LI m h];simp only[aZ,bf,db,aG,aS];cases hb:iS m
 ·rfl
 ·have e:M.BP m=some (J4 m):=by
   unfold M.BP J4;rw[aze (ahV hb)];cases m.aP.findIdx? (fun c=>(jO m c).2.2 !=0)with
   |none=>rfl
   |some k=>simp only[J5]
  rw[aF rfl,e];rfl
theorem amn(m:aR)(h:m.sz<=1048576):M.Bm m=some ((rn m).2.2==0):=by
 unfold M.Bm M.GG;rw[azf m h];rfl
theorem amq(m:aR)(h:m.sz<=1048576):M.BR m=some ((rn m).2.2==0):=by
 unfold M.BR;rw[azg m h];rfl
end M
